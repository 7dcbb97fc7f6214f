/- PROVED: StarLeftCardSaid, for every input, where the listed variable reads as the program's text lays it. Part 3 of 7: of this session; merged by wip/tools/mkClaim.py. -/
import Derived.Test.YtohbeninpmmmpaaDoorMLeftb
import Derived.Laws.EntriesVeiled
import Derived.ArgAppend
section
/- Check, by hand. -/
set_option linter.unusedSimpArgs false
set_option linter.unusedVariables false
namespace Go.Proofs.YtohbeninpmmmpaaDoor
open Go.RowKit Go.Proofs.YtohbeninpmmmpaaDoorW.PrintWords Go.Proofs.YtohbeninpmmmpaaDoorW.PrintLast Go.Proofs.YtohbeninpmmmpaaDoorW.PrintMore TrydX.X
attribute [local go_sem] Oper.semAt_some
/-- Is a span one, within two numbers? -/
def spanB (s : S23) (a b : Int) : Bool := decide (a ≤ s.f0 ∧ s.f0 ≤ s.f1 ∧ s.f1 ≤ b)
/-- Is a look one of a book of so many nights, observers and stations? -/
def lookOk (N : Int) (n5 n6 : Nat) (x : S63) : Bool := decide (0 ≤ x.f0 ∧ x.f0 ≤ N - 1) && decide (0 ≤ x.f1 ∧ x.f1 ≤ 1) && decide (0 ≤ x.f2 ∧ x.f2 ≤ (if x.f1 = 1 then (n6 : Int) else (n5 : Int)) - 1) && decide (-30000 ≤ x.f3 ∧ x.f3 ≤ 30000) && decide (0 ≤ x.f4 ∧ x.f4 ≤ 2000)
def headB (N b0 b1 r0 r1 : Int) (n5 n6 n7 : Nat) : Bool := decide ((1 ≤ N ∧ N ≤ 8) ∧ (-20000 ≤ b0 ∧ b0 ≤ b1 ∧ b1 ≤ 20000) ∧ (-1000 ≤ r0 ∧ r0 ≤ r1 ∧ r1 ≤ 1000) ∧ n5 ≤ 4 ∧ n6 ≤ 4 ∧ n7 ≤ 10)
/-- Is a book one? -/
def checkB (N b0 b1 r0 r1 : Int) (l5 l6 : List S23) (l7 : List S63) : Bool :=
 headB N b0 b1 r0 r1 l5.length l6.length l7.length && ((List.range l5.length).all fun i => spanB (rd_T23 l5 (i : Int)) (-2000) 2000) && ((List.range l6.length).all fun i => spanB (rd_T23 l6 (i : Int)) 0 5000) && ((List.range l7.length).all fun j => lookOk N l5.length l6.length (rd_T63 l7 (j : Int)))
theorem within_is (a b c : Int) : star_within.f a b c = some (decide (b ≤ a ∧ a ≤ c)) := by
 unfold star_within.f
 by_cases h : b ≤ a <;> simp [h]
theorem isSpan_is (x y a b : Int) : star_isSpan.f x y a b = some (decide (a ≤ x ∧ x ≤ y ∧ y ≤ b)) := by
 unfold star_isSpan.f
 by_cases h : a ≤ x <;> by_cases h' : x ≤ y <;> simp [h, h']
theorem wi (r : Bool) {a b c : Int} (h : decide (b ≤ a ∧ a ≤ c) = r) (w : World) : Calls Tryd.prog 59 #[.int .i64 a, .int .i64 b, .int .i64 c] w fun e w' => e = .returned (.bool r) ∧ Below w.heap.size w w' :=
 (star_within.calls a b c r w (by rw [within_is, h])).mono fun e w' h => ⟨h.1, h.2.below⟩
theorem sp (r : Bool) {x y a b : Int} (h : decide (a ≤ x ∧ x ≤ y ∧ y ≤ b) = r) (w : World) : Calls Tryd.prog 62 #[.agg #[.int .i64 x, .int .i64 y], .int .i64 a, .int .i64 b] w fun e w' => e = .returned (.bool r) ∧ Below w.heap.size w w' :=
 star_isSpan.calls x y a b r w (by rw [isSpan_is, h])
section
variable {N b0 b1 r0 r1 : Int} {l5 l6 : List S23} {l7 : List S63}
def P0 (N b0 b1 r0 r1 : Int) (l5 l6 : List S23) (l7 : List S63) (k : Nat) : Bool := headB N b0 b1 r0 r1 l5.length l6.length l7.length && ((List.range k).all fun i => spanB (rd_T23 l5 (i : Int)) (-2000) 2000)
def P1 (N b0 b1 r0 r1 : Int) (l5 l6 : List S23) (l7 : List S63) (k : Nat) : Bool := P0 N b0 b1 r0 r1 l5 l6 l7 l5.length && ((List.range k).all fun i => spanB (rd_T23 l6 (i : Int)) 0 5000)
def P2 (N b0 b1 r0 r1 : Int) (l5 l6 : List S23) (l7 : List S63) (k : Nat) : Bool := P1 N b0 b1 r0 r1 l5 l6 l7 l6.length && ((List.range k).all fun j => lookOk N l5.length l6.length (rd_T63 l7 (j : Int)))
theorem P0_succ (k : Nat) : P0 N b0 b1 r0 r1 l5 l6 l7 (k + 1) = (P0 N b0 b1 r0 r1 l5 l6 l7 k && spanB (rd_T23 l5 (k : Int)) (-2000) 2000) := by simp [P0, List.range_succ, Bool.and_assoc]
theorem P1_succ (k : Nat) : P1 N b0 b1 r0 r1 l5 l6 l7 (k + 1) = (P1 N b0 b1 r0 r1 l5 l6 l7 k && spanB (rd_T23 l6 (k : Int)) 0 5000) := by simp [P1, List.range_succ, Bool.and_assoc]
theorem P2_succ (k : Nat) : P2 N b0 b1 r0 r1 l5 l6 l7 (k + 1) = (P2 N b0 b1 r0 r1 l5 l6 l7 k && lookOk N l5.length l6.length (rd_T63 l7 (k : Int))) := by simp [P2, List.range_succ, Bool.and_assoc]
theorem P2_head {k : Nat} (h : P2 N b0 b1 r0 r1 l5 l6 l7 k = true) : 1 ≤ N ∧ N ≤ 8 := by
 unfold P2 P1 P0 headB at h
 simp only [Bool.and_eq_true, decide_eq_true_eq] at h
 exact h.1.1.1.1
theorem bx8 {W : World} {g : Nat} {A5 A6 A7 : Option Addr} {c5 c6 c7 : Nat} (h : W.heap[g]? = some (.cells #[.int .i64 N, .int .i64 b0, .int .i64 b1, .int .i64 r0, .int .i64 r1, .slice A5 l5.length c5, .slice A6 l6.length c6, .slice A7 l7.length c7] 27 (0, 0))) : W.cell? ⟨g, 0, none⟩ = some (.int .i64 N) ∧ W.cell? ⟨g, 1, none⟩ = some (.int .i64 b0) ∧ W.cell? ⟨g, 2, none⟩ = some (.int .i64 b1) ∧ W.cell? ⟨g, 3, none⟩ = some (.int .i64 r0) ∧ W.cell? ⟨g, 4, none⟩ = some (.int .i64 r1) ∧ W.cell? ⟨g, 5, none⟩ = some (.slice A5 l5.length c5) ∧ W.cell? ⟨g, 6, none⟩ = some (.slice A6 l6.length c6) ∧ W.cell? ⟨g, 7, none⟩ = some (.slice A7 l7.length c7) := ⟨(blk_cell h 0).trans rfl, (blk_cell h 1).trans rfl, (blk_cell h 2).trans rfl, (blk_cell h 3).trans rfl, (blk_cell h 4).trans rfl, (blk_cell h 5).trans rfl, (blk_cell h 6).trans rfl, (blk_cell h 7).trans rfl⟩
set_option maxRecDepth 100000 in
set_option maxHeartbeats 8000000 in
theorem Check_any (A5 : Option Addr) (c5 : Nat) (A6 : Option Addr) (c6 : Nat) (A7 : Option Addr) (c7 : Nat) (w : World) (h5 : Kd.C k23 w A5 l5.length l5) (hc5 : l5.length ≤ c5) (h6 : Kd.C k23 w A6 l6.length l6) (hc6 : l6.length ≤ c6) (h7 : Kd.C k63 w A7 l7.length l7) (hc7 : l7.length ≤ c7)
  (hl : l5.length ≤ 4611686018427387904 ∧ l6.length ≤ 4611686018427387904 ∧ l7.length ≤ 4611686018427387904) :
  Calls Tryd.prog 19 #[.agg #[.int .i64 N, .int .i64 b0, .int .i64 b1, .int .i64 r0, .int .i64 r1, .slice A5 l5.length c5, .slice A6 l6.length c6, .slice A7 l7.length c7]] w fun e w' => e = .returned (.int .i64 (if checkB N b0 b1 r0 r1 l5 l6 l7 = true then 0 else 30)) ∧ Below w.heap.size w w' := by
 have hx := blk_new w (.cells #[.int .i64 N, .int .i64 b0, .int .i64 b1, .int .i64 r0, .int .i64 r1, .slice A5 l5.length c5, .slice A6 l6.length c6, .slice A7 l7.length c7] 27)
 have hbx : Below w.heap.size w (w.alloc (.cells #[.int .i64 N, .int .i64 b0, .int .i64 b1, .int .i64 r0, .int .i64 r1, .slice A5 l5.length c5, .slice A6 l6.length c6, .slice A7 l7.length c7] 27)) := (Below.refl _ _).alloc (Nat.le_refl _) _
 obtain ⟨g5, g6, g7⟩ := hl
 have H5 := Lib.hid h5
 have H6 := Lib.hid h6
 have H7 := Lib.hid h7
 clear h5 h6 h7
 obtain ⟨cb, hcb⟩ : ∃ cb, cb = checkB N b0 b1 r0 r1 l5 l6 l7 := ⟨_, rfl⟩
 rw [← hcb]
 have HCB := Lib.hid hcb
 clear hcb
 go_enter Tryd.func19, Tryd.ntmps19
 go_upto_region 1 with fail
 go_cut [3] (fun v3 wc => v3 = .bool (headB N b0 b1 r0 r1 l5.length l6.length l7.length) ∧ Below w.heap.size w wc ∧ wc.heap[w.heap.size]? = some (.cells #[.int .i64 N, .int .i64 b0, .int .i64 b1, .int .i64 r0, .int .i64 r1, .slice A5 l5.length c5, .slice A6 l6.length c6, .slice A7 l7.length c7] 27 (0, 0)))
 case first =>
  by_cases q0 : 1 ≤ N ∧ N ≤ 8
  ·
   by_cases q1 : -20000 ≤ b0 ∧ b0 ≤ b1 ∧ b1 ≤ 20000
   ·
    by_cases q2 : -1000 ≤ r0 ∧ r0 ≤ r1 ∧ r1 ≤ 1000
    ·
     by_cases q3 : (l5.length : Int) ≤ 4
     ·
      by_cases q4 : (l6.length : Int) ≤ 4
      ·
       by_cases q5 : (l7.length : Int) ≤ 10
       ·
        go_wp2_with fail
        refine (wi true (decide_eq_true q0) _).mono ?_
        rintro e w1 ⟨rfl, hb⟩
        replace hbx := below_call hbx hb
        replace hx := blk_below hx hb
        clear hb
        obtain ⟨k0, k1, k2, k3, k4, k5, k6, k7⟩ := bx8 hx
        go_wp2_with fail
        refine (sp true (decide_eq_true q1) _).mono ?_
        rintro e w2 ⟨rfl, hb⟩
        replace hbx := below_call hbx hb
        replace hx := blk_below hx hb
        clear k0 k1 k2 k3 k4 k5 k6 k7
        clear hb
        obtain ⟨k0, k1, k2, k3, k4, k5, k6, k7⟩ := bx8 hx
        go_wp2_with fail
        refine (sp true (decide_eq_true q2) _).mono ?_
        rintro e w3 ⟨rfl, hb⟩
        replace hbx := below_call hbx hb
        replace hx := blk_below hx hb
        clear k0 k1 k2 k3 k4 k5 k6 k7
        clear hb
        obtain ⟨k0, k1, k2, k3, k4, k5, k6, k7⟩ := bx8 hx
        go_wp2_with fail
        go_meet
        case rel => exact ⟨congrArg Value.bool (by unfold headB; first | exact (decide_eq_true (by omega)).symm | exact (decide_eq_false (by omega)).symm | (rw [Bool.eq_iff_iff]; simp only [decide_eq_true_eq]; omega)), hbx, hx⟩
       ·
        go_wp2_with fail
        refine (wi true (decide_eq_true q0) _).mono ?_
        rintro e w1 ⟨rfl, hb⟩
        replace hbx := below_call hbx hb
        replace hx := blk_below hx hb
        clear hb
        obtain ⟨k0, k1, k2, k3, k4, k5, k6, k7⟩ := bx8 hx
        go_wp2_with fail
        refine (sp true (decide_eq_true q1) _).mono ?_
        rintro e w2 ⟨rfl, hb⟩
        replace hbx := below_call hbx hb
        replace hx := blk_below hx hb
        clear k0 k1 k2 k3 k4 k5 k6 k7
        clear hb
        obtain ⟨k0, k1, k2, k3, k4, k5, k6, k7⟩ := bx8 hx
        go_wp2_with fail
        refine (sp true (decide_eq_true q2) _).mono ?_
        rintro e w3 ⟨rfl, hb⟩
        replace hbx := below_call hbx hb
        replace hx := blk_below hx hb
        clear k0 k1 k2 k3 k4 k5 k6 k7
        clear hb
        obtain ⟨k0, k1, k2, k3, k4, k5, k6, k7⟩ := bx8 hx
        go_wp2_with fail
        go_meet
        case rel => exact ⟨congrArg Value.bool (by unfold headB; first | exact (decide_eq_true (by omega)).symm | exact (decide_eq_false (by omega)).symm | (rw [Bool.eq_iff_iff]; simp only [decide_eq_true_eq]; omega)), hbx, hx⟩
      ·
       go_wp2_with fail
       refine (wi true (decide_eq_true q0) _).mono ?_
       rintro e w1 ⟨rfl, hb⟩
       replace hbx := below_call hbx hb
       replace hx := blk_below hx hb
       clear hb
       obtain ⟨k0, k1, k2, k3, k4, k5, k6, k7⟩ := bx8 hx
       go_wp2_with fail
       refine (sp true (decide_eq_true q1) _).mono ?_
       rintro e w2 ⟨rfl, hb⟩
       replace hbx := below_call hbx hb
       replace hx := blk_below hx hb
       clear k0 k1 k2 k3 k4 k5 k6 k7
       clear hb
       obtain ⟨k0, k1, k2, k3, k4, k5, k6, k7⟩ := bx8 hx
       go_wp2_with fail
       refine (sp true (decide_eq_true q2) _).mono ?_
       rintro e w3 ⟨rfl, hb⟩
       replace hbx := below_call hbx hb
       replace hx := blk_below hx hb
       clear k0 k1 k2 k3 k4 k5 k6 k7
       clear hb
       obtain ⟨k0, k1, k2, k3, k4, k5, k6, k7⟩ := bx8 hx
       go_wp2_with fail
       go_meet
       case rel => exact ⟨congrArg Value.bool (by unfold headB; first | exact (decide_eq_true (by omega)).symm | exact (decide_eq_false (by omega)).symm | (rw [Bool.eq_iff_iff]; simp only [decide_eq_true_eq]; omega)), hbx, hx⟩
     ·
      go_wp2_with fail
      refine (wi true (decide_eq_true q0) _).mono ?_
      rintro e w1 ⟨rfl, hb⟩
      replace hbx := below_call hbx hb
      replace hx := blk_below hx hb
      clear hb
      obtain ⟨k0, k1, k2, k3, k4, k5, k6, k7⟩ := bx8 hx
      go_wp2_with fail
      refine (sp true (decide_eq_true q1) _).mono ?_
      rintro e w2 ⟨rfl, hb⟩
      replace hbx := below_call hbx hb
      replace hx := blk_below hx hb
      clear k0 k1 k2 k3 k4 k5 k6 k7
      clear hb
      obtain ⟨k0, k1, k2, k3, k4, k5, k6, k7⟩ := bx8 hx
      go_wp2_with fail
      refine (sp true (decide_eq_true q2) _).mono ?_
      rintro e w3 ⟨rfl, hb⟩
      replace hbx := below_call hbx hb
      replace hx := blk_below hx hb
      clear k0 k1 k2 k3 k4 k5 k6 k7
      clear hb
      obtain ⟨k0, k1, k2, k3, k4, k5, k6, k7⟩ := bx8 hx
      go_wp2_with fail
      go_meet
      case rel => exact ⟨congrArg Value.bool (by unfold headB; first | exact (decide_eq_true (by omega)).symm | exact (decide_eq_false (by omega)).symm | (rw [Bool.eq_iff_iff]; simp only [decide_eq_true_eq]; omega)), hbx, hx⟩
    ·
     go_wp2_with fail
     refine (wi true (decide_eq_true q0) _).mono ?_
     rintro e w1 ⟨rfl, hb⟩
     replace hbx := below_call hbx hb
     replace hx := blk_below hx hb
     clear hb
     obtain ⟨k0, k1, k2, k3, k4, k5, k6, k7⟩ := bx8 hx
     go_wp2_with fail
     refine (sp true (decide_eq_true q1) _).mono ?_
     rintro e w2 ⟨rfl, hb⟩
     replace hbx := below_call hbx hb
     replace hx := blk_below hx hb
     clear k0 k1 k2 k3 k4 k5 k6 k7
     clear hb
     obtain ⟨k0, k1, k2, k3, k4, k5, k6, k7⟩ := bx8 hx
     go_wp2_with fail
     refine (sp false (decide_eq_false q2) _).mono ?_
     rintro e w3 ⟨rfl, hb⟩
     replace hbx := below_call hbx hb
     replace hx := blk_below hx hb
     clear k0 k1 k2 k3 k4 k5 k6 k7
     clear hb
     go_wp2_with fail
     go_meet
     case rel => exact ⟨congrArg Value.bool (by unfold headB; first | exact (decide_eq_true (by omega)).symm | exact (decide_eq_false (by omega)).symm | (rw [Bool.eq_iff_iff]; simp only [decide_eq_true_eq]; omega)), hbx, hx⟩
   ·
    go_wp2_with fail
    refine (wi true (decide_eq_true q0) _).mono ?_
    rintro e w1 ⟨rfl, hb⟩
    replace hbx := below_call hbx hb
    replace hx := blk_below hx hb
    clear hb
    obtain ⟨k0, k1, k2, k3, k4, k5, k6, k7⟩ := bx8 hx
    go_wp2_with fail
    refine (sp false (decide_eq_false q1) _).mono ?_
    rintro e w2 ⟨rfl, hb⟩
    replace hbx := below_call hbx hb
    replace hx := blk_below hx hb
    clear k0 k1 k2 k3 k4 k5 k6 k7
    clear hb
    go_wp2_with fail
    go_meet
    case rel => exact ⟨congrArg Value.bool (by unfold headB; first | exact (decide_eq_true (by omega)).symm | exact (decide_eq_false (by omega)).symm | (rw [Bool.eq_iff_iff]; simp only [decide_eq_true_eq]; omega)), hbx, hx⟩
  ·
   go_wp2_with fail
   refine (wi false (decide_eq_false q0) _).mono ?_
   rintro e w1 ⟨rfl, hb⟩
   replace hbx := below_call hbx hb
   replace hx := blk_below hx hb
   clear hb
   go_wp2_with fail
   go_meet
   case rel => exact ⟨congrArg Value.bool (by unfold headB; first | exact (decide_eq_true (by omega)).symm | exact (decide_eq_false (by omega)).symm | (rw [Bool.eq_iff_iff]; simp only [decide_eq_true_eq]; omega)), hbx, hx⟩
 case rest =>
  obtain ⟨rfl, HB, HX⟩ := hcut
  rename World => w5
  have hb := Lib.hid HB
  have hxx := Lib.hid HX
  clear HB HX hx hbx
  obtain ⟨k0, k1, k2, k3, k4, k5, k6, k7⟩ := bx8 hxx.out
  go_wp2_with fail
  clear k0 k1 k2 k3 k4 k5 k6 k7
  go_loopw [3, 45] (fun v3 v4 wr => ∃ k : Nat, k ≤ l5.length ∧ v3 = .bool (P0 N b0 b1 r0 r1 l5 l6 l7 k) ∧ v4 = .int .i64 k ∧ Below w.heap.size w wr ∧ wr.heap[w.heap.size]? = some (.cells #[.int .i64 N, .int .i64 b0, .int .i64 b1, .int .i64 r0, .int .i64 r1, .slice A5 l5.length c5, .slice A6 l6.length c6, .slice A7 l7.length c7] 27 (0, 0))) (fun _ i _ => l5.length - (intOf i).toNat)
  case atStart => exact ⟨0, Nat.zero_le _, by simp [P0], rfl, hb.out, hxx.out⟩
  case round =>
   rename World => wr0
   obtain ⟨k, hk, rfl, rfl, hbr, hx⟩ := hrel
   by_cases hlt : k < l5.length
   ·
    have hlt1 : (k : Int) < (l5.length : Int) := by omega
    have hps := P0_succ (N := N) (b0 := b0) (b1 := b1) (r0 := r0) (r1 := r1) (l5 := l5) (l6 := l6) (l7 := l7) k
    obtain ⟨ad, e, hq0, hq1⟩ := at_T23 (Kd.C_below H5.out hbr) (k : Int) (by omega) (by omega)
    cases e
    rw [Int.toNat_natCast] at hq0 hq1
    have hz := hbr.size
    have hbx : Below w.heap.size w (wr0.alloc (.cells #[.int .i64 (rd_T23 l5 (k : Int)).f0, .int .i64 (rd_T23 l5 (k : Int)).f1] 23)) := hbr.alloc hz _
    have hxn := blk_alloc hx (.cells #[.int .i64 (rd_T23 l5 (k : Int)).f0, .int .i64 (rd_T23 l5 (k : Int)).f1] 23)
    generalize P0 N b0 b1 r0 r1 l5 l6 l7 k = b at hps ⊢
    cases b with
    | false =>
     go_wp2_with fail
     go_roundw
     case rel => exact ⟨k + 1, by omega, by rw [hps]; rfl, by go_num, hbx, hxn⟩
     case measure => simp [intOf]; omega
    | true =>
     go_wp2_with fail
     refine (sp _ rfl _).mono ?_
     rintro e w6 ⟨rfl, hb6⟩
     go_wp2_with fail
     go_roundw
     case rel => exact ⟨k + 1, by omega, by rw [hps]; exact congrArg Value.bool (by simp [spanB]), by go_num, below_call hbx hb6, blk_below hxn hb6⟩
     case measure => simp [intOf]; omega
   ·
    have hkl : k = l5.length := by omega
    rw [hkl]
    have HB0 := Lib.hid hbr
    have HX0 := Lib.hid hx
    clear hlt hk hkl
    obtain ⟨k0, k1, k2, k3, k4, k5, k6, k7⟩ := bx8 HX0.out
    go_wp2_with fail
    clear k0 k1 k2 k3 k4 k5 k6 k7
    go_loopw [3, 58] (fun v3 v4 wr => ∃ k : Nat, k ≤ l6.length ∧ v3 = .bool (P1 N b0 b1 r0 r1 l5 l6 l7 k) ∧ v4 = .int .i64 k ∧ Below w.heap.size w wr ∧ wr.heap[w.heap.size]? = some (.cells #[.int .i64 N, .int .i64 b0, .int .i64 b1, .int .i64 r0, .int .i64 r1, .slice A5 l5.length c5, .slice A6 l6.length c6, .slice A7 l7.length c7] 27 (0, 0))) (fun _ i _ => l6.length - (intOf i).toNat)
    case atStart => exact ⟨0, Nat.zero_le _, by simp [P1], rfl, HB0.out, HX0.out⟩
    case round =>
     rename World => wr1
     obtain ⟨k, hk, rfl, rfl, hbr, hx⟩ := hrel
     by_cases hlt : k < l6.length
     ·
      have hlt1 : (k : Int) < (l6.length : Int) := by omega
      have hps := P1_succ (N := N) (b0 := b0) (b1 := b1) (r0 := r0) (r1 := r1) (l5 := l5) (l6 := l6) (l7 := l7) k
      obtain ⟨ad, e, hq0, hq1⟩ := at_T23 (Kd.C_below H6.out hbr) (k : Int) (by omega) (by omega)
      cases e
      rw [Int.toNat_natCast] at hq0 hq1
      have hz := hbr.size
      have hbx : Below w.heap.size w (wr1.alloc (.cells #[.int .i64 (rd_T23 l6 (k : Int)).f0, .int .i64 (rd_T23 l6 (k : Int)).f1] 23)) := hbr.alloc hz _
      have hxn := blk_alloc hx (.cells #[.int .i64 (rd_T23 l6 (k : Int)).f0, .int .i64 (rd_T23 l6 (k : Int)).f1] 23)
      generalize P1 N b0 b1 r0 r1 l5 l6 l7 k = b at hps ⊢
      cases b with
      | false =>
       go_wp2_with fail
       go_roundw
       case rel => exact ⟨k + 1, by omega, by rw [hps]; rfl, by go_num, hbx, hxn⟩
       case measure => simp [intOf]; omega
      | true =>
       go_wp2_with fail
       refine (sp _ rfl _).mono ?_
       rintro e w6 ⟨rfl, hb6⟩
       go_wp2_with fail
       go_roundw
       case rel => exact ⟨k + 1, by omega, by rw [hps]; exact congrArg Value.bool (by simp [spanB]), by go_num, below_call hbx hb6, blk_below hxn hb6⟩
       case measure => simp [intOf]; omega
     ·
      have hkl : k = l6.length := by omega
      rw [hkl]
      have HB1 := Lib.hid hbr
      have HX1 := Lib.hid hx
      clear hlt hk hkl
      obtain ⟨k0, k1, k2, k3, k4, k5, k6, k7⟩ := bx8 HX1.out
      go_wp2_with fail
      clear k0 k1 k2 k3 k4 k5 k6 k7
      go_loopw [3, 71] (fun v3 v4 wr => ∃ k : Nat, k ≤ l7.length ∧ v3 = .bool (P2 N b0 b1 r0 r1 l5 l6 l7 k) ∧ v4 = .int .i64 k ∧ Below w.heap.size w wr ∧ wr.heap[w.heap.size]? = some (.cells #[.int .i64 N, .int .i64 b0, .int .i64 b1, .int .i64 r0, .int .i64 r1, .slice A5 l5.length c5, .slice A6 l6.length c6, .slice A7 l7.length c7] 27 (0, 0))) (fun _ i _ => l7.length - (intOf i).toNat)
      case atStart => exact ⟨0, Nat.zero_le _, by simp [P2], rfl, HB1.out, HX1.out⟩
      case round =>
       rename World => wr2
       obtain ⟨k, hk, rfl, rfl, hbr, hx⟩ := hrel
       by_cases hlt : k < l7.length
       ·
        have hlt1 : (k : Int) < (l7.length : Int) := by omega
        have hps := P2_succ (N := N) (b0 := b0) (b1 := b1) (r0 := r0) (r1 := r1) (l5 := l5) (l6 := l6) (l7 := l7) k
        obtain ⟨ad, e, hq0, hq1, hq2, hq3, hq4⟩ := at_T63 (Kd.C_below H7.out hbr) (k : Int) (by omega) (by omega)
        cases e
        rw [Int.toNat_natCast] at hq0 hq1 hq2 hq3 hq4
        have hz := hbr.size
        have hlk : lookOk N l5.length l6.length (rd_T63 l7 (k : Int)) = (decide (0 ≤ (rd_T63 l7 (k : Int)).f0 ∧ (rd_T63 l7 (k : Int)).f0 ≤ N - 1) && decide (0 ≤ (rd_T63 l7 (k : Int)).f1 ∧ (rd_T63 l7 (k : Int)).f1 ≤ 1) && decide (0 ≤ (rd_T63 l7 (k : Int)).f2 ∧ (rd_T63 l7 (k : Int)).f2 ≤ (if (rd_T63 l7 (k : Int)).f1 = 1 then (l6.length : Int) else (l5.length : Int)) - 1) && decide (-30000 ≤ (rd_T63 l7 (k : Int)).f3 ∧ (rd_T63 l7 (k : Int)).f3 ≤ 30000) && decide (0 ≤ (rd_T63 l7 (k : Int)).f4 ∧ (rd_T63 l7 (k : Int)).f4 ≤ 2000)) := rfl
        rw [hlk] at hps
        generalize (rd_T63 l7 (k : Int)).f0 = x0 at hq0 hps
        generalize (rd_T63 l7 (k : Int)).f1 = x1 at hq1 hps
        generalize (rd_T63 l7 (k : Int)).f2 = x2 at hq2 hps
        generalize (rd_T63 l7 (k : Int)).f3 = x3 at hq3 hps
        generalize (rd_T63 l7 (k : Int)).f4 = x4 at hq4 hps
        clear hlk
        have HBX := Lib.hid (show Below w.heap.size w (wr2.alloc (.cells #[.int .i64 x0, .int .i64 x1, .int .i64 x2, .int .i64 x3, .int .i64 x4] 63)) from hbr.alloc hz _)
        have HXN := Lib.hid (blk_alloc hx (.cells #[.int .i64 x0, .int .i64 x1, .int .i64 x2, .int .i64 x3, .int .i64 x4] 63))
        have HQN := Lib.hid (blk_new wr2 (.cells #[.int .i64 x0, .int .i64 x1, .int .i64 x2, .int .i64 x3, .int .i64 x4] 63))
        have hz2 := blk_lt hx
        have hgo : P2 N b0 b1 r0 r1 l5 l6 l7 k = true → 1 ≤ N ∧ N ≤ 8 := P2_head
        obtain ⟨k0, k1, k2, k3, k4, k5, k6, k7⟩ := bx8 hx
        generalize P2 N b0 b1 r0 r1 l5 l6 l7 k = b at hps hgo ⊢
        cases b with
        | false =>
         by_cases e : x1 = 1
         ·
          rw [e] at hq1
          go_wp2_with fail
          go_roundw
          case rel => exact ⟨k + 1, by omega, by rw [hps]; rfl, by go_num, hbr.alloc hz _, blk_alloc hx _⟩
          case measure => simp [intOf]; omega
         ·
          go_wp2_with fail
          go_roundw
          case rel => exact ⟨k + 1, by omega, by rw [hps]; rfl, by go_num, HBX.out, HXN.out⟩
          case measure => simp [intOf]; omega
        | true =>
         obtain ⟨n1, n8⟩ := hgo rfl
         by_cases e : x1 = 1
         ·
          subst e
          rw [if_pos rfl] at hps
          by_cases q0 : 0 ≤ x0 ∧ x0 ≤ N - 1
          ·
           have q1 : (0 : Int) ≤ 1 ∧ 1 ≤ (1 : Int) := by decide
           by_cases q2 : 0 ≤ x2 ∧ x2 ≤ (l6.length : Int) - 1
           ·
            by_cases q3 : -30000 ≤ x3 ∧ x3 ≤ 30000
            ·
             by_cases q4 : 0 ≤ x4 ∧ x4 ≤ 2000
             ·
              go_wp2_with fail
              refine (wi true (decide_eq_true q0) _).mono ?_
              rintro e w6 ⟨rfl, hb⟩
              replace hx := blk_below HXN.out hb
              have hq := blk_below HQN.out hb
              have hbx := below_call HBX.out hb
              clear hb k0 k1 k2 k3 k4 k5 k6 k7
              obtain ⟨k0, k1, k2, k3, k4, k5, k6, k7⟩ := bx8 hx
              have z0 : w6.cell? ⟨wr2.heap.size, 0, none⟩ = some (.int .i64 x0) := (blk_cell hq 0).trans rfl
              have z1 : w6.cell? ⟨wr2.heap.size, 1, none⟩ = some (.int .i64 1) := (blk_cell hq 1).trans rfl
              have z2 : w6.cell? ⟨wr2.heap.size, 2, none⟩ = some (.int .i64 x2) := (blk_cell hq 2).trans rfl
              have z3 : w6.cell? ⟨wr2.heap.size, 3, none⟩ = some (.int .i64 x3) := (blk_cell hq 3).trans rfl
              have z4 : w6.cell? ⟨wr2.heap.size, 4, none⟩ = some (.int .i64 x4) := (blk_cell hq 4).trans rfl
              go_wp2_with fail
              refine (wi true (decide_eq_true q1) _).mono ?_
              rintro e w7 ⟨rfl, hb⟩
              clear k0 k1 k2 k3 k4 k5 k6 k7 z0 z1 z2 z3 z4
              replace hx := blk_below hx hb
              replace hq := blk_below hq hb
              replace hbx := below_call hbx hb
              clear hb
              obtain ⟨k0, k1, k2, k3, k4, k5, k6, k7⟩ := bx8 hx
              have z0 : w7.cell? ⟨wr2.heap.size, 0, none⟩ = some (.int .i64 x0) := (blk_cell hq 0).trans rfl
              have z1 : w7.cell? ⟨wr2.heap.size, 1, none⟩ = some (.int .i64 1) := (blk_cell hq 1).trans rfl
              have z2 : w7.cell? ⟨wr2.heap.size, 2, none⟩ = some (.int .i64 x2) := (blk_cell hq 2).trans rfl
              have z3 : w7.cell? ⟨wr2.heap.size, 3, none⟩ = some (.int .i64 x3) := (blk_cell hq 3).trans rfl
              have z4 : w7.cell? ⟨wr2.heap.size, 4, none⟩ = some (.int .i64 x4) := (blk_cell hq 4).trans rfl
              go_wp2_with fail
              refine (wi true (decide_eq_true q2) _).mono ?_
              rintro e w8 ⟨rfl, hb⟩
              clear k0 k1 k2 k3 k4 k5 k6 k7 z0 z1 z2 z3 z4
              replace hx := blk_below hx hb
              replace hq := blk_below hq hb
              replace hbx := below_call hbx hb
              clear hb
              obtain ⟨k0, k1, k2, k3, k4, k5, k6, k7⟩ := bx8 hx
              have z0 : w8.cell? ⟨wr2.heap.size, 0, none⟩ = some (.int .i64 x0) := (blk_cell hq 0).trans rfl
              have z1 : w8.cell? ⟨wr2.heap.size, 1, none⟩ = some (.int .i64 1) := (blk_cell hq 1).trans rfl
              have z2 : w8.cell? ⟨wr2.heap.size, 2, none⟩ = some (.int .i64 x2) := (blk_cell hq 2).trans rfl
              have z3 : w8.cell? ⟨wr2.heap.size, 3, none⟩ = some (.int .i64 x3) := (blk_cell hq 3).trans rfl
              have z4 : w8.cell? ⟨wr2.heap.size, 4, none⟩ = some (.int .i64 x4) := (blk_cell hq 4).trans rfl
              go_wp2_with fail
              refine (wi true (decide_eq_true q3) _).mono ?_
              rintro e w9 ⟨rfl, hb⟩
              clear k0 k1 k2 k3 k4 k5 k6 k7 z0 z1 z2 z3 z4
              replace hx := blk_below hx hb
              replace hq := blk_below hq hb
              replace hbx := below_call hbx hb
              clear hb
              obtain ⟨k0, k1, k2, k3, k4, k5, k6, k7⟩ := bx8 hx
              have z0 : w9.cell? ⟨wr2.heap.size, 0, none⟩ = some (.int .i64 x0) := (blk_cell hq 0).trans rfl
              have z1 : w9.cell? ⟨wr2.heap.size, 1, none⟩ = some (.int .i64 1) := (blk_cell hq 1).trans rfl
              have z2 : w9.cell? ⟨wr2.heap.size, 2, none⟩ = some (.int .i64 x2) := (blk_cell hq 2).trans rfl
              have z3 : w9.cell? ⟨wr2.heap.size, 3, none⟩ = some (.int .i64 x3) := (blk_cell hq 3).trans rfl
              have z4 : w9.cell? ⟨wr2.heap.size, 4, none⟩ = some (.int .i64 x4) := (blk_cell hq 4).trans rfl
              go_wp2_with fail
              refine (wi true (decide_eq_true q4) _).mono ?_
              rintro e w10 ⟨rfl, hb⟩
              clear k0 k1 k2 k3 k4 k5 k6 k7 z0 z1 z2 z3 z4
              replace hx := blk_below hx hb
              replace hq := blk_below hq hb
              replace hbx := below_call hbx hb
              clear hb
              go_wp2_with fail
              go_roundw
              case rel => exact ⟨k + 1, by omega, by rw [hps]; exact congrArg Value.bool (by simp [q0, q1, q2, q3, q4]), by go_num, hbx, hx⟩
              case measure => simp [intOf]; omega
             ·
              go_wp2_with fail
              refine (wi true (decide_eq_true q0) _).mono ?_
              rintro e w6 ⟨rfl, hb⟩
              replace hx := blk_below HXN.out hb
              have hq := blk_below HQN.out hb
              have hbx := below_call HBX.out hb
              clear hb k0 k1 k2 k3 k4 k5 k6 k7
              obtain ⟨k0, k1, k2, k3, k4, k5, k6, k7⟩ := bx8 hx
              have z0 : w6.cell? ⟨wr2.heap.size, 0, none⟩ = some (.int .i64 x0) := (blk_cell hq 0).trans rfl
              have z1 : w6.cell? ⟨wr2.heap.size, 1, none⟩ = some (.int .i64 1) := (blk_cell hq 1).trans rfl
              have z2 : w6.cell? ⟨wr2.heap.size, 2, none⟩ = some (.int .i64 x2) := (blk_cell hq 2).trans rfl
              have z3 : w6.cell? ⟨wr2.heap.size, 3, none⟩ = some (.int .i64 x3) := (blk_cell hq 3).trans rfl
              have z4 : w6.cell? ⟨wr2.heap.size, 4, none⟩ = some (.int .i64 x4) := (blk_cell hq 4).trans rfl
              go_wp2_with fail
              refine (wi true (decide_eq_true q1) _).mono ?_
              rintro e w7 ⟨rfl, hb⟩
              clear k0 k1 k2 k3 k4 k5 k6 k7 z0 z1 z2 z3 z4
              replace hx := blk_below hx hb
              replace hq := blk_below hq hb
              replace hbx := below_call hbx hb
              clear hb
              obtain ⟨k0, k1, k2, k3, k4, k5, k6, k7⟩ := bx8 hx
              have z0 : w7.cell? ⟨wr2.heap.size, 0, none⟩ = some (.int .i64 x0) := (blk_cell hq 0).trans rfl
              have z1 : w7.cell? ⟨wr2.heap.size, 1, none⟩ = some (.int .i64 1) := (blk_cell hq 1).trans rfl
              have z2 : w7.cell? ⟨wr2.heap.size, 2, none⟩ = some (.int .i64 x2) := (blk_cell hq 2).trans rfl
              have z3 : w7.cell? ⟨wr2.heap.size, 3, none⟩ = some (.int .i64 x3) := (blk_cell hq 3).trans rfl
              have z4 : w7.cell? ⟨wr2.heap.size, 4, none⟩ = some (.int .i64 x4) := (blk_cell hq 4).trans rfl
              go_wp2_with fail
              refine (wi true (decide_eq_true q2) _).mono ?_
              rintro e w8 ⟨rfl, hb⟩
              clear k0 k1 k2 k3 k4 k5 k6 k7 z0 z1 z2 z3 z4
              replace hx := blk_below hx hb
              replace hq := blk_below hq hb
              replace hbx := below_call hbx hb
              clear hb
              obtain ⟨k0, k1, k2, k3, k4, k5, k6, k7⟩ := bx8 hx
              have z0 : w8.cell? ⟨wr2.heap.size, 0, none⟩ = some (.int .i64 x0) := (blk_cell hq 0).trans rfl
              have z1 : w8.cell? ⟨wr2.heap.size, 1, none⟩ = some (.int .i64 1) := (blk_cell hq 1).trans rfl
              have z2 : w8.cell? ⟨wr2.heap.size, 2, none⟩ = some (.int .i64 x2) := (blk_cell hq 2).trans rfl
              have z3 : w8.cell? ⟨wr2.heap.size, 3, none⟩ = some (.int .i64 x3) := (blk_cell hq 3).trans rfl
              have z4 : w8.cell? ⟨wr2.heap.size, 4, none⟩ = some (.int .i64 x4) := (blk_cell hq 4).trans rfl
              go_wp2_with fail
              refine (wi true (decide_eq_true q3) _).mono ?_
              rintro e w9 ⟨rfl, hb⟩
              clear k0 k1 k2 k3 k4 k5 k6 k7 z0 z1 z2 z3 z4
              replace hx := blk_below hx hb
              replace hq := blk_below hq hb
              replace hbx := below_call hbx hb
              clear hb
              obtain ⟨k0, k1, k2, k3, k4, k5, k6, k7⟩ := bx8 hx
              have z0 : w9.cell? ⟨wr2.heap.size, 0, none⟩ = some (.int .i64 x0) := (blk_cell hq 0).trans rfl
              have z1 : w9.cell? ⟨wr2.heap.size, 1, none⟩ = some (.int .i64 1) := (blk_cell hq 1).trans rfl
              have z2 : w9.cell? ⟨wr2.heap.size, 2, none⟩ = some (.int .i64 x2) := (blk_cell hq 2).trans rfl
              have z3 : w9.cell? ⟨wr2.heap.size, 3, none⟩ = some (.int .i64 x3) := (blk_cell hq 3).trans rfl
              have z4 : w9.cell? ⟨wr2.heap.size, 4, none⟩ = some (.int .i64 x4) := (blk_cell hq 4).trans rfl
              go_wp2_with fail
              refine (wi false (decide_eq_false q4) _).mono ?_
              rintro e w10 ⟨rfl, hb⟩
              clear k0 k1 k2 k3 k4 k5 k6 k7 z0 z1 z2 z3 z4
              replace hx := blk_below hx hb
              replace hq := blk_below hq hb
              replace hbx := below_call hbx hb
              clear hb
              go_wp2_with fail
              go_roundw
              case rel => exact ⟨k + 1, by omega, by rw [hps]; exact congrArg Value.bool (by simp [q0, q1, q2, q3, q4]), by go_num, hbx, hx⟩
              case measure => simp [intOf]; omega
            ·
             go_wp2_with fail
             refine (wi true (decide_eq_true q0) _).mono ?_
             rintro e w6 ⟨rfl, hb⟩
             replace hx := blk_below HXN.out hb
             have hq := blk_below HQN.out hb
             have hbx := below_call HBX.out hb
             clear hb k0 k1 k2 k3 k4 k5 k6 k7
             obtain ⟨k0, k1, k2, k3, k4, k5, k6, k7⟩ := bx8 hx
             have z0 : w6.cell? ⟨wr2.heap.size, 0, none⟩ = some (.int .i64 x0) := (blk_cell hq 0).trans rfl
             have z1 : w6.cell? ⟨wr2.heap.size, 1, none⟩ = some (.int .i64 1) := (blk_cell hq 1).trans rfl
             have z2 : w6.cell? ⟨wr2.heap.size, 2, none⟩ = some (.int .i64 x2) := (blk_cell hq 2).trans rfl
             have z3 : w6.cell? ⟨wr2.heap.size, 3, none⟩ = some (.int .i64 x3) := (blk_cell hq 3).trans rfl
             have z4 : w6.cell? ⟨wr2.heap.size, 4, none⟩ = some (.int .i64 x4) := (blk_cell hq 4).trans rfl
             go_wp2_with fail
             refine (wi true (decide_eq_true q1) _).mono ?_
             rintro e w7 ⟨rfl, hb⟩
             clear k0 k1 k2 k3 k4 k5 k6 k7 z0 z1 z2 z3 z4
             replace hx := blk_below hx hb
             replace hq := blk_below hq hb
             replace hbx := below_call hbx hb
             clear hb
             obtain ⟨k0, k1, k2, k3, k4, k5, k6, k7⟩ := bx8 hx
             have z0 : w7.cell? ⟨wr2.heap.size, 0, none⟩ = some (.int .i64 x0) := (blk_cell hq 0).trans rfl
             have z1 : w7.cell? ⟨wr2.heap.size, 1, none⟩ = some (.int .i64 1) := (blk_cell hq 1).trans rfl
             have z2 : w7.cell? ⟨wr2.heap.size, 2, none⟩ = some (.int .i64 x2) := (blk_cell hq 2).trans rfl
             have z3 : w7.cell? ⟨wr2.heap.size, 3, none⟩ = some (.int .i64 x3) := (blk_cell hq 3).trans rfl
             have z4 : w7.cell? ⟨wr2.heap.size, 4, none⟩ = some (.int .i64 x4) := (blk_cell hq 4).trans rfl
             go_wp2_with fail
             refine (wi true (decide_eq_true q2) _).mono ?_
             rintro e w8 ⟨rfl, hb⟩
             clear k0 k1 k2 k3 k4 k5 k6 k7 z0 z1 z2 z3 z4
             replace hx := blk_below hx hb
             replace hq := blk_below hq hb
             replace hbx := below_call hbx hb
             clear hb
             obtain ⟨k0, k1, k2, k3, k4, k5, k6, k7⟩ := bx8 hx
             have z0 : w8.cell? ⟨wr2.heap.size, 0, none⟩ = some (.int .i64 x0) := (blk_cell hq 0).trans rfl
             have z1 : w8.cell? ⟨wr2.heap.size, 1, none⟩ = some (.int .i64 1) := (blk_cell hq 1).trans rfl
             have z2 : w8.cell? ⟨wr2.heap.size, 2, none⟩ = some (.int .i64 x2) := (blk_cell hq 2).trans rfl
             have z3 : w8.cell? ⟨wr2.heap.size, 3, none⟩ = some (.int .i64 x3) := (blk_cell hq 3).trans rfl
             have z4 : w8.cell? ⟨wr2.heap.size, 4, none⟩ = some (.int .i64 x4) := (blk_cell hq 4).trans rfl
             go_wp2_with fail
             refine (wi false (decide_eq_false q3) _).mono ?_
             rintro e w9 ⟨rfl, hb⟩
             clear k0 k1 k2 k3 k4 k5 k6 k7 z0 z1 z2 z3 z4
             replace hx := blk_below hx hb
             replace hq := blk_below hq hb
             replace hbx := below_call hbx hb
             clear hb
             go_wp2_with fail
             go_roundw
             case rel => exact ⟨k + 1, by omega, by rw [hps]; exact congrArg Value.bool (by simp [q0, q1, q2, q3]), by go_num, hbx, hx⟩
             case measure => simp [intOf]; omega
           ·
            go_wp2_with fail
            refine (wi true (decide_eq_true q0) _).mono ?_
            rintro e w6 ⟨rfl, hb⟩
            replace hx := blk_below HXN.out hb
            have hq := blk_below HQN.out hb
            have hbx := below_call HBX.out hb
            clear hb k0 k1 k2 k3 k4 k5 k6 k7
            obtain ⟨k0, k1, k2, k3, k4, k5, k6, k7⟩ := bx8 hx
            have z0 : w6.cell? ⟨wr2.heap.size, 0, none⟩ = some (.int .i64 x0) := (blk_cell hq 0).trans rfl
            have z1 : w6.cell? ⟨wr2.heap.size, 1, none⟩ = some (.int .i64 1) := (blk_cell hq 1).trans rfl
            have z2 : w6.cell? ⟨wr2.heap.size, 2, none⟩ = some (.int .i64 x2) := (blk_cell hq 2).trans rfl
            have z3 : w6.cell? ⟨wr2.heap.size, 3, none⟩ = some (.int .i64 x3) := (blk_cell hq 3).trans rfl
            have z4 : w6.cell? ⟨wr2.heap.size, 4, none⟩ = some (.int .i64 x4) := (blk_cell hq 4).trans rfl
            go_wp2_with fail
            refine (wi true (decide_eq_true q1) _).mono ?_
            rintro e w7 ⟨rfl, hb⟩
            clear k0 k1 k2 k3 k4 k5 k6 k7 z0 z1 z2 z3 z4
            replace hx := blk_below hx hb
            replace hq := blk_below hq hb
            replace hbx := below_call hbx hb
            clear hb
            obtain ⟨k0, k1, k2, k3, k4, k5, k6, k7⟩ := bx8 hx
            have z0 : w7.cell? ⟨wr2.heap.size, 0, none⟩ = some (.int .i64 x0) := (blk_cell hq 0).trans rfl
            have z1 : w7.cell? ⟨wr2.heap.size, 1, none⟩ = some (.int .i64 1) := (blk_cell hq 1).trans rfl
            have z2 : w7.cell? ⟨wr2.heap.size, 2, none⟩ = some (.int .i64 x2) := (blk_cell hq 2).trans rfl
            have z3 : w7.cell? ⟨wr2.heap.size, 3, none⟩ = some (.int .i64 x3) := (blk_cell hq 3).trans rfl
            have z4 : w7.cell? ⟨wr2.heap.size, 4, none⟩ = some (.int .i64 x4) := (blk_cell hq 4).trans rfl
            go_wp2_with fail
            refine (wi false (decide_eq_false q2) _).mono ?_
            rintro e w8 ⟨rfl, hb⟩
            clear k0 k1 k2 k3 k4 k5 k6 k7 z0 z1 z2 z3 z4
            replace hx := blk_below hx hb
            replace hq := blk_below hq hb
            replace hbx := below_call hbx hb
            clear hb
            go_wp2_with fail
            go_roundw
            case rel => exact ⟨k + 1, by omega, by rw [hps]; exact congrArg Value.bool (by simp [q0, q1, q2]), by go_num, hbx, hx⟩
            case measure => simp [intOf]; omega
          ·
           go_wp2_with fail
           refine (wi false (decide_eq_false q0) _).mono ?_
           rintro e w6 ⟨rfl, hb⟩
           replace hx := blk_below HXN.out hb
           have hq := blk_below HQN.out hb
           have hbx := below_call HBX.out hb
           clear hb k0 k1 k2 k3 k4 k5 k6 k7
           go_wp2_with fail
           go_roundw
           case rel => exact ⟨k + 1, by omega, by rw [hps]; exact congrArg Value.bool (by simp [q0]), by go_num, hbx, hx⟩
           case measure => simp [intOf]; omega
         ·
          rw [if_neg e] at hps
          by_cases q0 : 0 ≤ x0 ∧ x0 ≤ N - 1
          ·
           by_cases q1 : (0 : Int) ≤ x1 ∧ x1 ≤ (1 : Int)
           ·
            obtain rfl : x1 = 0 := by omega
            by_cases q2 : 0 ≤ x2 ∧ x2 ≤ (l5.length : Int) - 1
            ·
             by_cases q3 : -30000 ≤ x3 ∧ x3 ≤ 30000
             ·
              by_cases q4 : 0 ≤ x4 ∧ x4 ≤ 2000
              ·
               go_wp2_with fail
               refine (wi true (decide_eq_true q0) _).mono ?_
               rintro e w6 ⟨rfl, hb⟩
               replace hx := blk_below HXN.out hb
               have hq := blk_below HQN.out hb
               have hbx := below_call HBX.out hb
               clear hb k0 k1 k2 k3 k4 k5 k6 k7
               obtain ⟨k0, k1, k2, k3, k4, k5, k6, k7⟩ := bx8 hx
               have z0 : w6.cell? ⟨wr2.heap.size, 0, none⟩ = some (.int .i64 x0) := (blk_cell hq 0).trans rfl
               have z1 : w6.cell? ⟨wr2.heap.size, 1, none⟩ = some (.int .i64 0) := (blk_cell hq 1).trans rfl
               have z2 : w6.cell? ⟨wr2.heap.size, 2, none⟩ = some (.int .i64 x2) := (blk_cell hq 2).trans rfl
               have z3 : w6.cell? ⟨wr2.heap.size, 3, none⟩ = some (.int .i64 x3) := (blk_cell hq 3).trans rfl
               have z4 : w6.cell? ⟨wr2.heap.size, 4, none⟩ = some (.int .i64 x4) := (blk_cell hq 4).trans rfl
               go_wp2_with fail
               refine (wi true (decide_eq_true q1) _).mono ?_
               rintro e w7 ⟨rfl, hb⟩
               clear k0 k1 k2 k3 k4 k5 k6 k7 z0 z1 z2 z3 z4
               replace hx := blk_below hx hb
               replace hq := blk_below hq hb
               replace hbx := below_call hbx hb
               clear hb
               obtain ⟨k0, k1, k2, k3, k4, k5, k6, k7⟩ := bx8 hx
               have z0 : w7.cell? ⟨wr2.heap.size, 0, none⟩ = some (.int .i64 x0) := (blk_cell hq 0).trans rfl
               have z1 : w7.cell? ⟨wr2.heap.size, 1, none⟩ = some (.int .i64 0) := (blk_cell hq 1).trans rfl
               have z2 : w7.cell? ⟨wr2.heap.size, 2, none⟩ = some (.int .i64 x2) := (blk_cell hq 2).trans rfl
               have z3 : w7.cell? ⟨wr2.heap.size, 3, none⟩ = some (.int .i64 x3) := (blk_cell hq 3).trans rfl
               have z4 : w7.cell? ⟨wr2.heap.size, 4, none⟩ = some (.int .i64 x4) := (blk_cell hq 4).trans rfl
               go_wp2_with fail
               refine (wi true (decide_eq_true q2) _).mono ?_
               rintro e w8 ⟨rfl, hb⟩
               clear k0 k1 k2 k3 k4 k5 k6 k7 z0 z1 z2 z3 z4
               replace hx := blk_below hx hb
               replace hq := blk_below hq hb
               replace hbx := below_call hbx hb
               clear hb
               obtain ⟨k0, k1, k2, k3, k4, k5, k6, k7⟩ := bx8 hx
               have z0 : w8.cell? ⟨wr2.heap.size, 0, none⟩ = some (.int .i64 x0) := (blk_cell hq 0).trans rfl
               have z1 : w8.cell? ⟨wr2.heap.size, 1, none⟩ = some (.int .i64 0) := (blk_cell hq 1).trans rfl
               have z2 : w8.cell? ⟨wr2.heap.size, 2, none⟩ = some (.int .i64 x2) := (blk_cell hq 2).trans rfl
               have z3 : w8.cell? ⟨wr2.heap.size, 3, none⟩ = some (.int .i64 x3) := (blk_cell hq 3).trans rfl
               have z4 : w8.cell? ⟨wr2.heap.size, 4, none⟩ = some (.int .i64 x4) := (blk_cell hq 4).trans rfl
               go_wp2_with fail
               refine (wi true (decide_eq_true q3) _).mono ?_
               rintro e w9 ⟨rfl, hb⟩
               clear k0 k1 k2 k3 k4 k5 k6 k7 z0 z1 z2 z3 z4
               replace hx := blk_below hx hb
               replace hq := blk_below hq hb
               replace hbx := below_call hbx hb
               clear hb
               obtain ⟨k0, k1, k2, k3, k4, k5, k6, k7⟩ := bx8 hx
               have z0 : w9.cell? ⟨wr2.heap.size, 0, none⟩ = some (.int .i64 x0) := (blk_cell hq 0).trans rfl
               have z1 : w9.cell? ⟨wr2.heap.size, 1, none⟩ = some (.int .i64 0) := (blk_cell hq 1).trans rfl
               have z2 : w9.cell? ⟨wr2.heap.size, 2, none⟩ = some (.int .i64 x2) := (blk_cell hq 2).trans rfl
               have z3 : w9.cell? ⟨wr2.heap.size, 3, none⟩ = some (.int .i64 x3) := (blk_cell hq 3).trans rfl
               have z4 : w9.cell? ⟨wr2.heap.size, 4, none⟩ = some (.int .i64 x4) := (blk_cell hq 4).trans rfl
               go_wp2_with fail
               refine (wi true (decide_eq_true q4) _).mono ?_
               rintro e w10 ⟨rfl, hb⟩
               clear k0 k1 k2 k3 k4 k5 k6 k7 z0 z1 z2 z3 z4
               replace hx := blk_below hx hb
               replace hq := blk_below hq hb
               replace hbx := below_call hbx hb
               clear hb
               go_wp2_with fail
               go_roundw
               case rel => exact ⟨k + 1, by omega, by rw [hps]; exact congrArg Value.bool (by simp [q0, q1, q2, q3, q4]), by go_num, hbx, hx⟩
               case measure => simp [intOf]; omega
              ·
               go_wp2_with fail
               refine (wi true (decide_eq_true q0) _).mono ?_
               rintro e w6 ⟨rfl, hb⟩
               replace hx := blk_below HXN.out hb
               have hq := blk_below HQN.out hb
               have hbx := below_call HBX.out hb
               clear hb k0 k1 k2 k3 k4 k5 k6 k7
               obtain ⟨k0, k1, k2, k3, k4, k5, k6, k7⟩ := bx8 hx
               have z0 : w6.cell? ⟨wr2.heap.size, 0, none⟩ = some (.int .i64 x0) := (blk_cell hq 0).trans rfl
               have z1 : w6.cell? ⟨wr2.heap.size, 1, none⟩ = some (.int .i64 0) := (blk_cell hq 1).trans rfl
               have z2 : w6.cell? ⟨wr2.heap.size, 2, none⟩ = some (.int .i64 x2) := (blk_cell hq 2).trans rfl
               have z3 : w6.cell? ⟨wr2.heap.size, 3, none⟩ = some (.int .i64 x3) := (blk_cell hq 3).trans rfl
               have z4 : w6.cell? ⟨wr2.heap.size, 4, none⟩ = some (.int .i64 x4) := (blk_cell hq 4).trans rfl
               go_wp2_with fail
               refine (wi true (decide_eq_true q1) _).mono ?_
               rintro e w7 ⟨rfl, hb⟩
               clear k0 k1 k2 k3 k4 k5 k6 k7 z0 z1 z2 z3 z4
               replace hx := blk_below hx hb
               replace hq := blk_below hq hb
               replace hbx := below_call hbx hb
               clear hb
               obtain ⟨k0, k1, k2, k3, k4, k5, k6, k7⟩ := bx8 hx
               have z0 : w7.cell? ⟨wr2.heap.size, 0, none⟩ = some (.int .i64 x0) := (blk_cell hq 0).trans rfl
               have z1 : w7.cell? ⟨wr2.heap.size, 1, none⟩ = some (.int .i64 0) := (blk_cell hq 1).trans rfl
               have z2 : w7.cell? ⟨wr2.heap.size, 2, none⟩ = some (.int .i64 x2) := (blk_cell hq 2).trans rfl
               have z3 : w7.cell? ⟨wr2.heap.size, 3, none⟩ = some (.int .i64 x3) := (blk_cell hq 3).trans rfl
               have z4 : w7.cell? ⟨wr2.heap.size, 4, none⟩ = some (.int .i64 x4) := (blk_cell hq 4).trans rfl
               go_wp2_with fail
               refine (wi true (decide_eq_true q2) _).mono ?_
               rintro e w8 ⟨rfl, hb⟩
               clear k0 k1 k2 k3 k4 k5 k6 k7 z0 z1 z2 z3 z4
               replace hx := blk_below hx hb
               replace hq := blk_below hq hb
               replace hbx := below_call hbx hb
               clear hb
               obtain ⟨k0, k1, k2, k3, k4, k5, k6, k7⟩ := bx8 hx
               have z0 : w8.cell? ⟨wr2.heap.size, 0, none⟩ = some (.int .i64 x0) := (blk_cell hq 0).trans rfl
               have z1 : w8.cell? ⟨wr2.heap.size, 1, none⟩ = some (.int .i64 0) := (blk_cell hq 1).trans rfl
               have z2 : w8.cell? ⟨wr2.heap.size, 2, none⟩ = some (.int .i64 x2) := (blk_cell hq 2).trans rfl
               have z3 : w8.cell? ⟨wr2.heap.size, 3, none⟩ = some (.int .i64 x3) := (blk_cell hq 3).trans rfl
               have z4 : w8.cell? ⟨wr2.heap.size, 4, none⟩ = some (.int .i64 x4) := (blk_cell hq 4).trans rfl
               go_wp2_with fail
               refine (wi true (decide_eq_true q3) _).mono ?_
               rintro e w9 ⟨rfl, hb⟩
               clear k0 k1 k2 k3 k4 k5 k6 k7 z0 z1 z2 z3 z4
               replace hx := blk_below hx hb
               replace hq := blk_below hq hb
               replace hbx := below_call hbx hb
               clear hb
               obtain ⟨k0, k1, k2, k3, k4, k5, k6, k7⟩ := bx8 hx
               have z0 : w9.cell? ⟨wr2.heap.size, 0, none⟩ = some (.int .i64 x0) := (blk_cell hq 0).trans rfl
               have z1 : w9.cell? ⟨wr2.heap.size, 1, none⟩ = some (.int .i64 0) := (blk_cell hq 1).trans rfl
               have z2 : w9.cell? ⟨wr2.heap.size, 2, none⟩ = some (.int .i64 x2) := (blk_cell hq 2).trans rfl
               have z3 : w9.cell? ⟨wr2.heap.size, 3, none⟩ = some (.int .i64 x3) := (blk_cell hq 3).trans rfl
               have z4 : w9.cell? ⟨wr2.heap.size, 4, none⟩ = some (.int .i64 x4) := (blk_cell hq 4).trans rfl
               go_wp2_with fail
               refine (wi false (decide_eq_false q4) _).mono ?_
               rintro e w10 ⟨rfl, hb⟩
               clear k0 k1 k2 k3 k4 k5 k6 k7 z0 z1 z2 z3 z4
               replace hx := blk_below hx hb
               replace hq := blk_below hq hb
               replace hbx := below_call hbx hb
               clear hb
               go_wp2_with fail
               go_roundw
               case rel => exact ⟨k + 1, by omega, by rw [hps]; exact congrArg Value.bool (by simp [q0, q1, q2, q3, q4]), by go_num, hbx, hx⟩
               case measure => simp [intOf]; omega
             ·
              go_wp2_with fail
              refine (wi true (decide_eq_true q0) _).mono ?_
              rintro e w6 ⟨rfl, hb⟩
              replace hx := blk_below HXN.out hb
              have hq := blk_below HQN.out hb
              have hbx := below_call HBX.out hb
              clear hb k0 k1 k2 k3 k4 k5 k6 k7
              obtain ⟨k0, k1, k2, k3, k4, k5, k6, k7⟩ := bx8 hx
              have z0 : w6.cell? ⟨wr2.heap.size, 0, none⟩ = some (.int .i64 x0) := (blk_cell hq 0).trans rfl
              have z1 : w6.cell? ⟨wr2.heap.size, 1, none⟩ = some (.int .i64 0) := (blk_cell hq 1).trans rfl
              have z2 : w6.cell? ⟨wr2.heap.size, 2, none⟩ = some (.int .i64 x2) := (blk_cell hq 2).trans rfl
              have z3 : w6.cell? ⟨wr2.heap.size, 3, none⟩ = some (.int .i64 x3) := (blk_cell hq 3).trans rfl
              have z4 : w6.cell? ⟨wr2.heap.size, 4, none⟩ = some (.int .i64 x4) := (blk_cell hq 4).trans rfl
              go_wp2_with fail
              refine (wi true (decide_eq_true q1) _).mono ?_
              rintro e w7 ⟨rfl, hb⟩
              clear k0 k1 k2 k3 k4 k5 k6 k7 z0 z1 z2 z3 z4
              replace hx := blk_below hx hb
              replace hq := blk_below hq hb
              replace hbx := below_call hbx hb
              clear hb
              obtain ⟨k0, k1, k2, k3, k4, k5, k6, k7⟩ := bx8 hx
              have z0 : w7.cell? ⟨wr2.heap.size, 0, none⟩ = some (.int .i64 x0) := (blk_cell hq 0).trans rfl
              have z1 : w7.cell? ⟨wr2.heap.size, 1, none⟩ = some (.int .i64 0) := (blk_cell hq 1).trans rfl
              have z2 : w7.cell? ⟨wr2.heap.size, 2, none⟩ = some (.int .i64 x2) := (blk_cell hq 2).trans rfl
              have z3 : w7.cell? ⟨wr2.heap.size, 3, none⟩ = some (.int .i64 x3) := (blk_cell hq 3).trans rfl
              have z4 : w7.cell? ⟨wr2.heap.size, 4, none⟩ = some (.int .i64 x4) := (blk_cell hq 4).trans rfl
              go_wp2_with fail
              refine (wi true (decide_eq_true q2) _).mono ?_
              rintro e w8 ⟨rfl, hb⟩
              clear k0 k1 k2 k3 k4 k5 k6 k7 z0 z1 z2 z3 z4
              replace hx := blk_below hx hb
              replace hq := blk_below hq hb
              replace hbx := below_call hbx hb
              clear hb
              obtain ⟨k0, k1, k2, k3, k4, k5, k6, k7⟩ := bx8 hx
              have z0 : w8.cell? ⟨wr2.heap.size, 0, none⟩ = some (.int .i64 x0) := (blk_cell hq 0).trans rfl
              have z1 : w8.cell? ⟨wr2.heap.size, 1, none⟩ = some (.int .i64 0) := (blk_cell hq 1).trans rfl
              have z2 : w8.cell? ⟨wr2.heap.size, 2, none⟩ = some (.int .i64 x2) := (blk_cell hq 2).trans rfl
              have z3 : w8.cell? ⟨wr2.heap.size, 3, none⟩ = some (.int .i64 x3) := (blk_cell hq 3).trans rfl
              have z4 : w8.cell? ⟨wr2.heap.size, 4, none⟩ = some (.int .i64 x4) := (blk_cell hq 4).trans rfl
              go_wp2_with fail
              refine (wi false (decide_eq_false q3) _).mono ?_
              rintro e w9 ⟨rfl, hb⟩
              clear k0 k1 k2 k3 k4 k5 k6 k7 z0 z1 z2 z3 z4
              replace hx := blk_below hx hb
              replace hq := blk_below hq hb
              replace hbx := below_call hbx hb
              clear hb
              go_wp2_with fail
              go_roundw
              case rel => exact ⟨k + 1, by omega, by rw [hps]; exact congrArg Value.bool (by simp [q0, q1, q2, q3]), by go_num, hbx, hx⟩
              case measure => simp [intOf]; omega
            ·
             go_wp2_with fail
             refine (wi true (decide_eq_true q0) _).mono ?_
             rintro e w6 ⟨rfl, hb⟩
             replace hx := blk_below HXN.out hb
             have hq := blk_below HQN.out hb
             have hbx := below_call HBX.out hb
             clear hb k0 k1 k2 k3 k4 k5 k6 k7
             obtain ⟨k0, k1, k2, k3, k4, k5, k6, k7⟩ := bx8 hx
             have z0 : w6.cell? ⟨wr2.heap.size, 0, none⟩ = some (.int .i64 x0) := (blk_cell hq 0).trans rfl
             have z1 : w6.cell? ⟨wr2.heap.size, 1, none⟩ = some (.int .i64 0) := (blk_cell hq 1).trans rfl
             have z2 : w6.cell? ⟨wr2.heap.size, 2, none⟩ = some (.int .i64 x2) := (blk_cell hq 2).trans rfl
             have z3 : w6.cell? ⟨wr2.heap.size, 3, none⟩ = some (.int .i64 x3) := (blk_cell hq 3).trans rfl
             have z4 : w6.cell? ⟨wr2.heap.size, 4, none⟩ = some (.int .i64 x4) := (blk_cell hq 4).trans rfl
             go_wp2_with fail
             refine (wi true (decide_eq_true q1) _).mono ?_
             rintro e w7 ⟨rfl, hb⟩
             clear k0 k1 k2 k3 k4 k5 k6 k7 z0 z1 z2 z3 z4
             replace hx := blk_below hx hb
             replace hq := blk_below hq hb
             replace hbx := below_call hbx hb
             clear hb
             obtain ⟨k0, k1, k2, k3, k4, k5, k6, k7⟩ := bx8 hx
             have z0 : w7.cell? ⟨wr2.heap.size, 0, none⟩ = some (.int .i64 x0) := (blk_cell hq 0).trans rfl
             have z1 : w7.cell? ⟨wr2.heap.size, 1, none⟩ = some (.int .i64 0) := (blk_cell hq 1).trans rfl
             have z2 : w7.cell? ⟨wr2.heap.size, 2, none⟩ = some (.int .i64 x2) := (blk_cell hq 2).trans rfl
             have z3 : w7.cell? ⟨wr2.heap.size, 3, none⟩ = some (.int .i64 x3) := (blk_cell hq 3).trans rfl
             have z4 : w7.cell? ⟨wr2.heap.size, 4, none⟩ = some (.int .i64 x4) := (blk_cell hq 4).trans rfl
             go_wp2_with fail
             refine (wi false (decide_eq_false q2) _).mono ?_
             rintro e w8 ⟨rfl, hb⟩
             clear k0 k1 k2 k3 k4 k5 k6 k7 z0 z1 z2 z3 z4
             replace hx := blk_below hx hb
             replace hq := blk_below hq hb
             replace hbx := below_call hbx hb
             clear hb
             go_wp2_with fail
             go_roundw
             case rel => exact ⟨k + 1, by omega, by rw [hps]; exact congrArg Value.bool (by simp [q0, q1, q2]), by go_num, hbx, hx⟩
             case measure => simp [intOf]; omega
           ·
            go_wp2_with fail
            refine (wi true (decide_eq_true q0) _).mono ?_
            rintro e w6 ⟨rfl, hb⟩
            replace hx := blk_below HXN.out hb
            have hq := blk_below HQN.out hb
            have hbx := below_call HBX.out hb
            clear hb k0 k1 k2 k3 k4 k5 k6 k7
            obtain ⟨k0, k1, k2, k3, k4, k5, k6, k7⟩ := bx8 hx
            have z0 : w6.cell? ⟨wr2.heap.size, 0, none⟩ = some (.int .i64 x0) := (blk_cell hq 0).trans rfl
            have z1 : w6.cell? ⟨wr2.heap.size, 1, none⟩ = some (.int .i64 x1) := (blk_cell hq 1).trans rfl
            have z2 : w6.cell? ⟨wr2.heap.size, 2, none⟩ = some (.int .i64 x2) := (blk_cell hq 2).trans rfl
            have z3 : w6.cell? ⟨wr2.heap.size, 3, none⟩ = some (.int .i64 x3) := (blk_cell hq 3).trans rfl
            have z4 : w6.cell? ⟨wr2.heap.size, 4, none⟩ = some (.int .i64 x4) := (blk_cell hq 4).trans rfl
            go_wp2_with fail
            refine (wi false (decide_eq_false q1) _).mono ?_
            rintro e w7 ⟨rfl, hb⟩
            clear k0 k1 k2 k3 k4 k5 k6 k7 z0 z1 z2 z3 z4
            replace hx := blk_below hx hb
            replace hq := blk_below hq hb
            replace hbx := below_call hbx hb
            clear hb
            go_wp2_with fail
            go_roundw
            case rel => exact ⟨k + 1, by omega, by rw [hps]; exact congrArg Value.bool (by simp [q0, q1]), by go_num, hbx, hx⟩
            case measure => simp [intOf]; omega
          ·
           go_wp2_with fail
           refine (wi false (decide_eq_false q0) _).mono ?_
           rintro e w6 ⟨rfl, hb⟩
           replace hx := blk_below HXN.out hb
           have hq := blk_below HQN.out hb
           have hbx := below_call HBX.out hb
           clear hb k0 k1 k2 k3 k4 k5 k6 k7
           go_wp2_with fail
           go_roundw
           case rel => exact ⟨k + 1, by omega, by rw [hps]; exact congrArg Value.bool (by simp [q0]), by go_num, hbx, hx⟩
           case measure => simp [intOf]; omega
       ·
        have hkl : k = l7.length := by omega
        rw [hkl]
        have HB2 := Lib.hid hbr
        have HX2 := Lib.hid hx
        clear hlt hk hkl
        have hck : P2 N b0 b1 r0 r1 l5 l6 l7 l7.length = cb := HCB.out.symm
        rw [hck]
        clear HCB hck
        obtain ⟨k0, k1, k2, k3, k4, k5, k6, k7⟩ := bx8 HX2.out
        cases cb with
        | false =>
         go_wp2_with fail
         refine bodyPost_ret (results_tmp rfl _ _ _) rfl ?_
         exact ⟨rfl, HB2.out⟩
        | true =>
         go_wp2_with fail
         refine bodyPost_ret (results_tmp rfl _ _ _) rfl ?_
         exact ⟨rfl, HB2.out⟩
end
end Go.Proofs.YtohbeninpmmmpaaDoor
end

section
/- What a table tells of two things: between. -/
set_option linter.unusedSimpArgs false
set_option linter.unusedVariables false
namespace Go.Proofs.YtohbeninpmmmpaaDoor
open Go.RowKit Go.Proofs.YtohbeninpmmmpaaDoorW.PrintWords Go.Proofs.YtohbeninpmmmpaaDoorW.PrintLast TrydX.X
set_option maxRecDepth 100000 in
set_option maxHeartbeats 4000000 in
theorem between_any (f : Tb) (a b : Nat) (ha : a < 17) (hb : b < 17) (hbd : -1000000000000000 ≤ f b a ∧ f b a ≤ 1000000000000000) (w : World) :
    Calls Tryd.prog 66 #[.agg (encT f).toArray, .int .i64 a, .int .i64 b] w fun e w' => e = .returned (.agg #[.int .i64 (-(f b a)), .int .i64 (f a b)]) ∧ Below w.heap.size w w' := by
  have hA := At.box w f 91
  have hc : ∀ o : Obj, (((w.alloc (.cells (encT f).toArray 91)).alloc o).drew.cell? ⟨w.heap.size, b * 17 + a, none⟩ = some (.int .i64 (f b a)) ∧ ((w.alloc (.cells (encT f).toArray 91)).alloc o).drew.cell? ⟨w.heap.size, a * 17 + b, none⟩ = some (.int .i64 (f a b))) := fun o =>
    have hA3 := (hA.below ((Below.refl _ _).alloc (Nat.le_refl _) o)).below ((Below.refl _ _).drew)
    ⟨hA3.cell b a hb ha, hA3.cell a b ha hb⟩
  obtain ⟨x, hx⟩ : ∃ x, x = f b a := ⟨_, rfl⟩
  obtain ⟨y, hy⟩ : ∃ y, y = f a b := ⟨_, rfl⟩
  rw [← hx] at hc hbd ⊢
  rw [← hy] at hc ⊢
  have hwr : IntKind.i64.wrap (-x) = -x := IntWalk.i64_in _ (by constructor <;> omega)
  have ha0 : (0 : Int) ≤ (a : Int) := by omega
  have ha1 : (a : Int) < 17 := by omega
  have hb0 : (0 : Int) ≤ (b : Int) := by omega
  have hb1 : (b : Int) < 17 := by omega
  clear hA
  have HX := Lib.hid hx
  have HY := Lib.hid hy
  clear hx hy
  go_enter Tryd.func66, Tryd.ntmps66
  go_wp2_with fail
  go_region_held3 (fun W1 : World => W1.cell? ⟨w.heap.size, b * 17 + a, none⟩ = some (.int .i64 x) ∧ W1.cell? ⟨w.heap.size, a * 17 + b, none⟩ = some (.int .i64 y)) (exact hc _) (fail)
  go_wp2
  have hnew := blk_new (w.alloc (.cells (encT f).toArray 91)) (.cells #[.int .i64 (-x), .int .i64 y] 23)
  rw [World.size_alloc] at hnew
  refine bodyPost_ret (results_cell_row rfl _ _ (w.heap.size + 1) 23 #[.int .i64 (-x), .int .i64 y] (0, 0) _ rfl hnew Tryd.underlying23 rfl (by kernel_rfl)) rfl ?_
  exact ⟨rfl, by repeat with_reducible (first | exact Below.refl _ _ | refine Below.drew ?_ | refine Below.alloc ?_ (by simp <;> omega) _)⟩
end Go.Proofs.YtohbeninpmmmpaaDoor
end

section
/- A book that Check lets in: what opened and solved make of it. -/
set_option linter.unusedSimpArgs false
set_option linter.unusedVariables false
namespace Go.Proofs.YtohbeninpmmmpaaDoor
open Go.RowKit Go.Proofs.YtohbeninpmmmpaaDoorW.PrintWords Go.Proofs.YtohbeninpmmmpaaDoorW.PrintLast Go.Proofs.YtohbeninpmmmpaaDoorW.PrintMore TrydX.X
attribute [local go_sem] Oper.semAt_some
theorem checkB_iff {N b0 b1 r0 r1 : Int} {l5 l6 : List S23} {l7 : List S63} : checkB N b0 b1 r0 r1 l5 l6 l7 = true ↔ BookOk N b0 b1 r0 r1 l5 l6 l7 := by
  unfold checkB headB
  simp only [Bool.and_eq_true, decide_eq_true_eq, List.all_eq_true, List.mem_range]
  constructor
  · rintro ⟨⟨⟨⟨h1, h2, h3, h4⟩, h5⟩, h6⟩, h7⟩
    refine ⟨h1, h2, h3, h4, fun i hi => ?_, fun i hi => ?_, fun j hj => ?_⟩
    · have := h5 i hi
      simpa [spanB] using this
    · have := h6 i hi
      simpa [spanB] using this
    · have := h7 j hj
      simp only [lookOk, Bool.and_eq_true, decide_eq_true_eq] at this
      obtain ⟨⟨⟨⟨a1, a2⟩, a3⟩, a4⟩, a5⟩ := this
      refine ⟨by omega, ?_, a3.1, a4, a5⟩
      by_cases e : (rd_T63 l7 (j : Int)).f1 = 1
      · rw [if_pos e] at a3; right; omega
      · rw [if_neg e] at a3; left; omega
  · intro h
    refine ⟨⟨⟨⟨h.n, h.b, h.r, h.len⟩, fun i hi => ?_⟩, fun i hi => ?_⟩, fun j hj => ?_⟩
    · have := h.p5 i hi
      simpa [spanB] using this
    · have := h.p6 i hi
      simpa [spanB] using this
    · obtain ⟨a1, a2, a3, a4, a5⟩ := h.p7 j hj
      simp only [lookOk, Bool.and_eq_true, decide_eq_true_eq]
      refine ⟨⟨⟨⟨by omega, by omega⟩, a3, ?_⟩, a4⟩, a5⟩
      rcases a2 with ⟨e, a2⟩ | ⟨e, a2⟩
      · rw [if_neg (by omega)]; omega
      · rw [if_pos e]; omega
/-- What asked answers. -/
def askE (N b0 b1 r0 r1 : Int) (l5 l6 : List S23) (l7 : List S63) (ok : Bool) : Int := if checkB N b0 b1 r0 r1 l5 l6 l7 = true then (if ok = true then (if canB N b0 b1 r0 r1 l5 l6 l7 [] = true then 0 else 32) else 31) else 30
def zero9 : Array Value := #[.int .i64 0, .int .i64 0, .int .i64 0, .int .i64 0, .int .i64 0, .slice none 0 0, .slice none 0 0, .slice none 0 0, .map none]
theorem open_any (N b0 b1 r0 r1 : Int) (A5 : Option Addr) (c5 : Nat) (l5 : List S23) (A6 : Option Addr) (c6 : Nat) (l6 : List S23) (A7 : Option Addr) (c7 : Nat) (l7 : List S63) (Aw : Option Addr) (cw : Nat) (wo : List Int)
    (hB : BookOk N b0 b1 r0 r1 l5 l6 l7) (hwl : wo.length ≤ 100) (w : World) (hK : Kinds w) (h5 : Kd.C k23 w A5 l5.length l5) (h6 : Kd.C k23 w A6 l6.length l6) (h7 : Kd.C k63 w A7 l7.length l7) (hw : Kd.C (Kd.int .i64) w Aw wo.length wo) :
    Calls Tryd.prog 55 #[.agg #[.int .i64 N, .int .i64 b0, .int .i64 b1, .int .i64 r0, .int .i64 r1, .slice A5 l5.length c5, .slice A6 l6.length c6, .slice A7 l7.length c7], .slice Aw wo.length cw] w fun e w' =>
      ∃ m, w.heap.size ≤ m ∧ e = .returned (bookV N b0 b1 r0 r1 (.slice A5 l5.length c5) (.slice A6 l6.length c6) (.slice A7 l7.length c7) m) ∧ PMap w' m (openedM N b0 b1 r0 r1 l5 l6 l7 wo) ∧ Below w.heap.size w w' := by
  obtain ⟨q1, q2, q3⟩ := hB.b
  obtain ⟨s1, s2, s3⟩ := hB.r
  obtain ⟨t1, t2, t3⟩ := hB.len
  refine opened_any N b0 b1 r0 r1 A5 c5 l5 A6 c6 l6 A7 c7 l7 Aw cw wo w hK h5 h6 h7 hw hB.n q1 q3 q2 s1 s2 s3 ⟨t1, t2, t3, hwl⟩ (fun x hx => ?_) (fun i hi => ?_) (fun i hi => ?_)
  · obtain ⟨j, hj, rfl⟩ := List.getElem_of_mem hx
    have h := hB.p7 j hj
    have e : rd_T63 l7 (j : Int) = l7[j] := by unfold rd_T63; rw [Int.toNat_natCast, List.getD_eq_getElem?_getD, List.getElem?_eq_getElem hj]; rfl
    rw [e] at h
    obtain ⟨a1, a2, a3, a4, a5⟩ := h
    refine ⟨by omega, ⟨a3, by omega⟩, a4, a5⟩
  · have := hB.p5 i hi
    omega
  · have := hB.p6 i hi
    omega
theorem solve_any (N b0 b1 r0 r1 : Int) (l5 l6 : List S23) (l7 : List S63) (v5 v6 v7 : Value) (m : Nat) (wo : List Int) (hB : BookOk N b0 b1 r0 r1 l5 l6 l7) (w : World) (hM : PMap w m (openedM N b0 b1 r0 r1 l5 l6 l7 wo)) :
    Calls Tryd.prog 75 #[bookV N b0 b1 r0 r1 v5 v6 v7 m] w fun e w' => (∃ t' : Tb, e = .returned (.tuple #[.agg (encT t').toArray, .bool (canB N b0 b1 r0 r1 l5 l6 l7 wo)]) ∧ (canB N b0 b1 r0 r1 l5 l6 l7 wo = true → t' = told N b0 b1 r0 r1 l5 l6 l7 wo)) ∧ Below w.heap.size w w' :=
  solved_any N b0 b1 r0 r1 v5 v6 v7 m _ (opened_bd hB wo) (opened_twice hB wo) w hM
end Go.Proofs.YtohbeninpmmmpaaDoor
end

section
/- asked: Check, opened, solved. -/
set_option linter.unusedSimpArgs false
set_option linter.unusedVariables false
namespace Go.Proofs.YtohbeninpmmmpaaDoor
open Go.RowKit Go.Proofs.YtohbeninpmmmpaaDoorW.PrintWords Go.Proofs.YtohbeninpmmmpaaDoorW.PrintLast Go.Proofs.YtohbeninpmmmpaaDoorW.PrintMore TrydX.X
attribute [local go_sem] Oper.semAt_some
theorem zero_size : Tryd.zeroCells91.size = (encT zeroT).toArray.size := by rw [zeroCells_is]
theorem zero_info : (Tryd.prog.info? 91).map (·.size) = some Tryd.zeroCells91.size := by rw [zeroCells_is]; exact size91a zeroT
theorem zero_one : Tryd.zeroCells91.all (·.oneCell') = true := by rw [zeroCells_is]; exact all_oneCell_toArray (encT_one zeroT)
def asked9T : Bool × List (List Nat × List Nat) := (true, [([], []), ([], []), ([0, 0], [0]), ([1, 2, 0, 1, 2], [1]), ([3, 0, 1, 2, 3], [])])
def asked9B : List Nat := [0, 0, 1, 7, 15]
theorem asked9_tab : rtab .any (opsOf Tryd.f65 9) = asked9T := by kernel_rfl
theorem asked9_bits : waitsOk asked9T.2 asked9B = true := by kernel_rfl
def asked10T : Bool × List (List Nat × List Nat) := (true, [([], []), ([], []), ([0, 0], [0]), ([1, 2, 0, 1, 2], [1]), ([3, 0, 1, 2, 3], [])])
def asked10B : List Nat := [0, 0, 1, 7, 15]
theorem asked10_tab : rtab .any (opsOf Tryd.f65 10) = asked10T := by kernel_rfl
theorem asked10_bits : waitsOk asked10T.2 asked10B = true := by kernel_rfl
/-- A store of a whole block, whichever operation bids it. -/
theorem store_ex {w : World} {b : Nat} {t ty : TypeId} {cs vs : Array Value} (hB : w.heap[b]? = some (.cells cs t (0, 0))) (hl : vs.size = cs.size) (hi : (Tryd.prog.info? ty).map (·.size) = some vs.size) (h1 : vs.all (·.oneCell') = true) :
    ∃ W, Put b (.cells vs t (0, 0)) w W ∧ ∀ (o : Oper) (a : Act) (x y : Operand), o.op = .store ty x y → a.eval x = .pointer (some ⟨b, 0, none⟩) → a.eval y = .agg vs → (execOp a.eval o).run Tryd.prog w = .ok .skip W := by
  refine ⟨_, by have := put_setCells (vs := vs.toList) hB (by simpa using hl); simpa using this, ?_⟩
  intro o a x y ho hx hy
  have hs := run_storeAt_mid (P := Tryd.prog) w b 0 ty vs (there_blk hB (by omega)) hi h1
  simp only [execOp, ho, hx, hy, Sem.run_bind, hs, Result.andThen_ok, Sem.run_pure]
/-- A table is laid into a new block. -/
theorem store_new (w : World) (f : Tb) : ∃ W, Put w.heap.size (.cells (encT f).toArray 91 (0, 0)) (w.alloc (.cells Tryd.zeroCells91 91)) W ∧ (storeCells ⟨w.heap.size, 0, none⟩ (encT f)).run Tryd.prog (w.alloc (.cells Tryd.zeroCells91 91)) = .ok () W :=
  ⟨_, put_setCells (blk_new w _) (by rw [zeroCells_is]; simp [encT_length]), storeCells_At (At.new w) f⟩
/-- The blocks of asked. -/
structure AskW (bx : Array Value) (w W : World) : Prop where
  bel : Below w.heap.size w W
  x : W.heap[w.heap.size]? = some (.cells bx 27 (0, 0))
  r : W.heap[w.heap.size + 1]? = some (.cells zero9 80 (0, 0))
  t : W.heap[w.heap.size + 1 + 1]? = some (.cells (encT zeroT).toArray 91 (0, 0))
theorem AskW.below {bx : Array Value} {w W W1 : World} (h : AskW bx w W) (hb : Below W.heap.size W W1) : AskW bx w W1 :=
  ⟨h.bel.trans (hb.mono h.bel.size), blk_below h.x hb, blk_below h.r hb, blk_below h.t hb⟩
theorem askW_is (bx : Array Value) (w : World) : AskW bx w (((w.alloc (.cells bx 27)).alloc (.cells zero9 80)).alloc (.cells Tryd.zeroCells91 91)) := by
  refine ⟨?_, blk_alloc (blk_alloc (blk_new w _) _) _, ?_, ?_⟩
  · repeat with_reducible (first | exact Below.refl _ _ | refine Below.alloc ?_ (by simp <;> omega) _)
  · have h := blk_new (w.alloc (.cells bx 27)) (.cells zero9 80)
    rw [World.size_alloc] at h
    exact blk_alloc h _
  · have h := blk_new ((w.alloc (.cells bx 27)).alloc (.cells zero9 80)) (.cells Tryd.zeroCells91 91)
    rw [World.size_alloc, World.size_alloc, zeroCells_is] at h
    rw [zeroCells_is]
    exact h
set_option maxRecDepth 100000 in
set_option maxHeartbeats 4000000 in
theorem asked_any (N b0 b1 r0 r1 : Int) (A5 : Option Addr) (c5 : Nat) (l5 : List S23) (A6 : Option Addr) (c6 : Nat) (l6 : List S23) (A7 : Option Addr) (c7 : Nat) (l7 : List S63) (ok : Bool)
    (w : World) (hK : Kinds w) (h5 : Kd.C k23 w A5 l5.length l5) (hc5 : l5.length ≤ c5) (h6 : Kd.C k23 w A6 l6.length l6) (hc6 : l6.length ≤ c6) (h7 : Kd.C k63 w A7 l7.length l7) (hc7 : l7.length ≤ c7)
    (hl : l5.length ≤ 4611686018427387904 ∧ l6.length ≤ 4611686018427387904 ∧ l7.length ≤ 4611686018427387904) :
    Calls Tryd.prog 65 #[.agg #[.int .i64 N, .int .i64 b0, .int .i64 b1, .int .i64 r0, .int .i64 r1, .slice A5 l5.length c5, .slice A6 l6.length c6, .slice A7 l7.length c7], .bool ok] w fun e w' =>
      ∃ (bv : Array Value) (t' : Tb), e = .returned (.tuple #[.agg bv, .agg (encT t').toArray, .int .i64 (askE N b0 b1 r0 r1 l5 l6 l7 ok)]) ∧ Below w.heap.size w w' ∧ (bv.size = 9 ∧ bv.all (·.oneCell') = true) ∧
        (askE N b0 b1 r0 r1 l5 l6 l7 ok = 0 → ∃ m, w.heap.size ≤ m ∧ .agg bv = bookV N b0 b1 r0 r1 (.slice A5 l5.length c5) (.slice A6 l6.length c6) (.slice A7 l7.length c7) m ∧ t' = told N b0 b1 r0 r1 l5 l6 l7 [] ∧ PMap w' m (openedM N b0 b1 r0 r1 l5 l6 l7 [])) := by
  have hf0 := askW_is #[.int .i64 N, .int .i64 b0, .int .i64 b1, .int .i64 r0, .int .i64 r1, .slice A5 l5.length c5, .slice A6 l6.length c6, .slice A7 l7.length c7] w
  rw [zero9] at hf0
  have hck := Check_any (N := N) (b0 := b0) (b1 := b1) (r0 := r0) (r1 := r1) A5 c5 A6 c6 A7 c7 _ (Kd.C_below h5 hf0.bel) hc5 (Kd.C_below h6 hf0.bel) hc6 (Kd.C_below h7 hf0.bel) hc7 hl
  by_cases hcB : checkB N b0 b1 r0 r1 l5 l6 l7 = true
  · rw [if_pos hcB] at hck
    have HCB := Lib.hid hcB
    clear hcB
    have hxx := hf0.x
    cases ok with
    | false =>
      have hE : askE N b0 b1 r0 r1 l5 l6 l7 false = 31 := by unfold askE; rw [if_pos HCB.out]; rfl
      rw [hE]
      clear hE
      go_enter Tryd.func65, Tryd.ntmps65
      go_wp2_with (first | (refine wpList_load_row rfl 27 _ rfl w.heap.size rfl 27 #[.int .i64 N, .int .i64 b0, .int .i64 b1, .int .i64 r0, .int .i64 r1, .slice A5 l5.length c5, .slice A6 l6.length c6, .slice A7 l7.length c7] (0, 0) _ hxx Tryd.underlying27 rfl (by kernel_rfl) ?_) | (go_at_call 19; refine hck.mono ?_; rintro e w1 ⟨rfl, hb1⟩; have hf1 := hf0.below hb1; have hr1 := hf1.r; have ht1 := hf1.t) | (refine wpList_store_blk rfl rfl rfl rfl hr1 rfl (by kernel_rfl) (by simp [Value.oneCell']) ?_; intro w2 hP2; have ht2 := hP2.blk ht1 (by omega)) | (refine wpList_store_blk rfl rfl rfl rfl ht2 zero_size zero_info zero_one ?_; intro w3 hP3))
      refine bodyPost_ret (results_list (rs := [.cell 4 80, .cell 5 91, .tmp 6]) rfl (by simp) (.cell (w.heap.size + 1) 80 zero9 (0, 0) _ rfl (hP3.blk hP2.here (by omega)) Tryd.underlying80 rfl (by kernel_rfl) (.cell (w.heap.size + 1 + 1) 91 Tryd.zeroCells91 (0, 0) _ rfl hP3.here Tryd.underlying91 rfl zero_info (.tmp .nil)))) rfl ?_
      refine ⟨zero9, zeroT, by rw [zeroCells_is]; rfl, ?_, ⟨rfl, by simp [zero9, Value.oneCell']⟩, fun h => by cases h⟩
      exact (hf1.bel.trans (hP2.below (by omega))).trans (hP3.below (by omega))
    | true =>
      have hBk := checkB_iff.1 HCB.out
      have hop := fun (w1 : World) (hb : Below w.heap.size w w1) => open_any N b0 b1 r0 r1 A5 c5 l5 A6 c6 l6 A7 c7 l7 none 0 [] hBk (by simp) w1 (hK.below hb) (Kd.C_below h5 hb) (Kd.C_below h6 hb) (Kd.C_below h7 hb) (Kd.C_nil _ _)
      have HOP := Lib.hid hop
      have HBK := Lib.hid hBk
      have hE : askE N b0 b1 r0 r1 l5 l6 l7 true = if canB N b0 b1 r0 r1 l5 l6 l7 [] = true then 0 else 32 := by unfold askE; rw [if_pos HCB.out, if_pos rfl]
      rw [hE]
      clear hE hop hBk
      cases hcan : canB N b0 b1 r0 r1 l5 l6 l7 [] with
      | false =>
        rw [if_neg (by decide)]
        have HCAN := Lib.hid hcan
        clear hcan
        go_enter Tryd.func65, Tryd.ntmps65
        go_wp2_with (first | (refine wpList_load_row rfl 27 _ rfl w.heap.size rfl 27 #[.int .i64 N, .int .i64 b0, .int .i64 b1, .int .i64 r0, .int .i64 r1, .slice A5 l5.length c5, .slice A6 l6.length c6, .slice A7 l7.length c7] (0, 0) _ hxx Tryd.underlying27 rfl (by kernel_rfl) ?_) | (refine wpList_load_row rfl 27 _ rfl w.heap.size rfl 27 #[.int .i64 N, .int .i64 b0, .int .i64 b1, .int .i64 r0, .int .i64 r1, .slice A5 l5.length c5, .slice A6 l6.length c6, .slice A7 l7.length c7] (0, 0) _ hx1 Tryd.underlying27 rfl (by kernel_rfl) ?_) | (go_at_call 19; refine hck.mono ?_; rintro e w1 ⟨rfl, hb1⟩; have hf1 := hf0.below hb1; have hx1 := hf1.x) | (go_at_call 55; refine (HOP.out w1 hf1.bel).mono ?_; rintro e w2 ⟨m, hm, rfl, hM2, hb2⟩; have hf2 := hf1.below hb2) | (go_at_call 75; refine (solve_any N b0 b1 r0 r1 l5 l6 l7 _ _ _ m [] HBK.out _ (hM2.alloc _)).mono ?_; rintro e w3 ⟨⟨t', rfl, ht'⟩, hb3⟩; rw [HCAN.out] at ht' ⊢; have HT1 := Lib.hid ht'; clear ht'; obtain ⟨w4, hP4, hst⟩ := store_new w3 t'))
        have hb23 : Below w2.heap.size w2 w3 := ((Below.refl _ _).alloc (Nat.le_refl _) (.cells #[.int .i64 N, .int .i64 b0, .int .i64 b1, .int .i64 r0, .int .i64 r1, .slice A5 l5.length c5, .slice A6 l6.length c6, .slice A7 l7.length c7, .map (some m)] 80)).trans (hb3.mono (by simp))
        have hb24 : Below w2.heap.size w2 w4 := hb23.trans (((Below.refl w3.heap.size w3).alloc (Nat.le_refl _) (.cells Tryd.zeroCells91 91)).trans (hP4.below (Nat.le_refl _)) |>.mono hb23.size)
        have hf4 := hf2.below hb24
        have h8 : w4.heap[w2.heap.size]? = some (.cells #[.int .i64 N, .int .i64 b0, .int .i64 b1, .int .i64 r0, .int .i64 r1, .slice A5 l5.length c5, .slice A6 l6.length c6, .slice A7 l7.length c7, .map (some m)] 80 (0, 0)) := hP4.blk (blk_alloc (blk_below (blk_new w2 _) hb3) _) (by have := hb3.size; simp at this; omega)
        have h9 := hP4.here
        have hM4 := (hM2.below hb24).drew
        have hz2 := hf2.bel.size
        have hl1 : w.heap.size + 1 + 1 < w1.heap.size := blk_lt hf1.t
        have hz3 := hb23.size
        have hl2 : w.heap.size + 1 + 1 < w2.heap.size := blk_lt hf2.t
        have hl3 : w2.heap.size < w3.heap.size := by have := hb3.size; simp at this; omega
        obtain ⟨w5, hP5, hr5⟩ := store_ex (ty := 80) (vs := #[.int .i64 N, .int .i64 b0, .int .i64 b1, .int .i64 r0, .int .i64 r1, .slice A5 l5.length c5, .slice A6 l6.length c6, .slice A7 l7.length c7, .map (some m)]) (blk_drew hf4.r) rfl (by kernel_rfl) (by simp [Value.oneCell'])
        obtain ⟨w6, hP6, hr6⟩ := store_ex (ty := 91) (vs := (encT t').toArray) (hP5.blk (blk_drew hf4.t) (by omega)) (by simp [encT_length]) (size91a t') (all_oneCell_toArray (encT_one t'))
        refine wp_calm ?_
        refine start_ (n := 5) (S := fun w' => w'.heap[w2.heap.size]? = some (.cells #[.int .i64 N, .int .i64 b0, .int .i64 b1, .int .i64 r0, .int .i64 r1, .slice A5 l5.length c5, .slice A6 l6.length c6, .slice A7 l7.length c7, .map (some m)] 80 (0, 0)) ∧ w'.heap[w3.heap.size]? = some (.cells (encT t').toArray 91 (0, 0))) (ds := []) #[false, false, false, false, false] (by kernel_rfl) rfl rfl ⟨blk_drew h8, blk_drew h9⟩ (fun hHeld => ?_)
        refine with_tabW asked9_tab asked9_bits (fun HT_ HW_ => ?_)
        refine takeA 0 31 rfl rfl (by rintro w' ⟨s0, s1⟩; exact exec_load_blk s0 rfl rfl Tryd.underlying80 rfl (by kernel_rfl)) ?_
        refine takeA 1 32 rfl rfl (by rintro w' ⟨s0, s1⟩; exact exec_load_blk s1 rfl rfl Tryd.underlying91 rfl (size91a t')) ?_
        refine oneA 2 none (fun K hK => ?_)
        refine skip_ (w1 := w5) rfl rfl (hr5 _ _ _ _ rfl rfl rfl) ?_
        refine hK.out _ _ ⟨hP5.blk hHeld.1 (by omega), hP5.blk hHeld.2 (by omega)⟩ (fun hHeld5 => ?_)
        clear hK K
        refine oneA 3 none (fun K hK => ?_)
        refine skip_ (w1 := w6) rfl rfl (hr6 _ _ _ _ rfl rfl rfl) ?_
        refine hK.out _ _ ⟨hP6.blk hHeld5.1 (by omega), hP6.blk hHeld5.2 (by omega)⟩ (fun hHeld6 => ?_)
        clear hK K
        refine pureA 4 6 ?_
        refine done_ (done_of HT_.out (by kernel_rfl)) ?_
        clear HT_ HW_
        refine calm_normal ?_
        have h55 := hP5.here
        have h66 := hP6.here
        go_wp2_with fail
        refine bodyPost_ret (results_list (rs := [.cell 4 80, .cell 5 91, .tmp 6]) rfl (by simp) (.cell (w.heap.size + 1) 80 #[.int .i64 N, .int .i64 b0, .int .i64 b1, .int .i64 r0, .int .i64 r1, .slice A5 l5.length c5, .slice A6 l6.length c6, .slice A7 l7.length c7, .map (some m)] (0, 0) _ rfl (hP6.blk h55 (by omega)) Tryd.underlying80 rfl (by kernel_rfl) (.cell (w.heap.size + 1 + 1) 91 (encT t').toArray (0, 0) _ rfl h66 Tryd.underlying91 rfl (size91a t') (.tmp .nil)))) rfl ?_
        refine ⟨_, t', rfl, ((hf4.bel.drew).trans (hP5.below (by omega))).trans (hP6.below (by omega)), ⟨rfl, by simp [Value.oneCell']⟩, fun h => ?_⟩
        cases h
      | true =>
        rw [if_pos rfl]
        have HCAN := Lib.hid hcan
        clear hcan
        go_enter Tryd.func65, Tryd.ntmps65
        go_wp2_with (first | (refine wpList_load_row rfl 27 _ rfl w.heap.size rfl 27 #[.int .i64 N, .int .i64 b0, .int .i64 b1, .int .i64 r0, .int .i64 r1, .slice A5 l5.length c5, .slice A6 l6.length c6, .slice A7 l7.length c7] (0, 0) _ hxx Tryd.underlying27 rfl (by kernel_rfl) ?_) | (refine wpList_load_row rfl 27 _ rfl w.heap.size rfl 27 #[.int .i64 N, .int .i64 b0, .int .i64 b1, .int .i64 r0, .int .i64 r1, .slice A5 l5.length c5, .slice A6 l6.length c6, .slice A7 l7.length c7] (0, 0) _ hx1 Tryd.underlying27 rfl (by kernel_rfl) ?_) | (go_at_call 19; refine hck.mono ?_; rintro e w1 ⟨rfl, hb1⟩; have hf1 := hf0.below hb1; have hx1 := hf1.x) | (go_at_call 55; refine (HOP.out w1 hf1.bel).mono ?_; rintro e w2 ⟨m, hm, rfl, hM2, hb2⟩; have hf2 := hf1.below hb2) | (go_at_call 75; refine (solve_any N b0 b1 r0 r1 l5 l6 l7 _ _ _ m [] HBK.out _ (hM2.alloc _)).mono ?_; rintro e w3 ⟨⟨t', rfl, ht'⟩, hb3⟩; rw [HCAN.out] at ht' ⊢; have HT1 := Lib.hid ht'; clear ht'; obtain ⟨w4, hP4, hst⟩ := store_new w3 t'))
        have hb23 : Below w2.heap.size w2 w3 := ((Below.refl _ _).alloc (Nat.le_refl _) (.cells #[.int .i64 N, .int .i64 b0, .int .i64 b1, .int .i64 r0, .int .i64 r1, .slice A5 l5.length c5, .slice A6 l6.length c6, .slice A7 l7.length c7, .map (some m)] 80)).trans (hb3.mono (by simp))
        have hb24 : Below w2.heap.size w2 w4 := hb23.trans (((Below.refl w3.heap.size w3).alloc (Nat.le_refl _) (.cells Tryd.zeroCells91 91)).trans (hP4.below (Nat.le_refl _)) |>.mono hb23.size)
        have hf4 := hf2.below hb24
        have h8 : w4.heap[w2.heap.size]? = some (.cells #[.int .i64 N, .int .i64 b0, .int .i64 b1, .int .i64 r0, .int .i64 r1, .slice A5 l5.length c5, .slice A6 l6.length c6, .slice A7 l7.length c7, .map (some m)] 80 (0, 0)) := hP4.blk (blk_alloc (blk_below (blk_new w2 _) hb3) _) (by have := hb3.size; simp at this; omega)
        have h9 := hP4.here
        have hM4 := (hM2.below hb24).drew
        have hz2 := hf2.bel.size
        have hl1 : w.heap.size + 1 + 1 < w1.heap.size := blk_lt hf1.t
        have hz3 := hb23.size
        have hl2 : w.heap.size + 1 + 1 < w2.heap.size := blk_lt hf2.t
        have hl3 : w2.heap.size < w3.heap.size := by have := hb3.size; simp at this; omega
        obtain ⟨w5, hP5, hr5⟩ := store_ex (ty := 80) (vs := #[.int .i64 N, .int .i64 b0, .int .i64 b1, .int .i64 r0, .int .i64 r1, .slice A5 l5.length c5, .slice A6 l6.length c6, .slice A7 l7.length c7, .map (some m)]) (blk_drew hf4.r) rfl (by kernel_rfl) (by simp [Value.oneCell'])
        obtain ⟨w6, hP6, hr6⟩ := store_ex (ty := 91) (vs := (encT t').toArray) (hP5.blk (blk_drew hf4.t) (by omega)) (by simp [encT_length]) (size91a t') (all_oneCell_toArray (encT_one t'))
        refine wp_calm ?_
        refine start_ (n := 5) (S := fun w' => w'.heap[w2.heap.size]? = some (.cells #[.int .i64 N, .int .i64 b0, .int .i64 b1, .int .i64 r0, .int .i64 r1, .slice A5 l5.length c5, .slice A6 l6.length c6, .slice A7 l7.length c7, .map (some m)] 80 (0, 0)) ∧ w'.heap[w3.heap.size]? = some (.cells (encT t').toArray 91 (0, 0))) (ds := []) #[false, false, false, false, false] (by kernel_rfl) rfl rfl ⟨blk_drew h8, blk_drew h9⟩ (fun hHeld => ?_)
        refine with_tabW asked10_tab asked10_bits (fun HT_ HW_ => ?_)
        refine takeA 0 33 rfl rfl (by rintro w' ⟨s0, s1⟩; exact exec_load_blk s0 rfl rfl Tryd.underlying80 rfl (by kernel_rfl)) ?_
        refine takeA 1 34 rfl rfl (by rintro w' ⟨s0, s1⟩; exact exec_load_blk s1 rfl rfl Tryd.underlying91 rfl (size91a t')) ?_
        refine oneA 2 none (fun K hK => ?_)
        refine skip_ (w1 := w5) rfl rfl (hr5 _ _ _ _ rfl rfl rfl) ?_
        refine hK.out _ _ ⟨hP5.blk hHeld.1 (by omega), hP5.blk hHeld.2 (by omega)⟩ (fun hHeld5 => ?_)
        clear hK K
        refine oneA 3 none (fun K hK => ?_)
        refine skip_ (w1 := w6) rfl rfl (hr6 _ _ _ _ rfl rfl rfl) ?_
        refine hK.out _ _ ⟨hP6.blk hHeld5.1 (by omega), hP6.blk hHeld5.2 (by omega)⟩ (fun hHeld6 => ?_)
        clear hK K
        refine pureA 4 6 ?_
        refine done_ (done_of HT_.out (by kernel_rfl)) ?_
        clear HT_ HW_
        refine calm_normal ?_
        have h55 := hP5.here
        have h66 := hP6.here
        go_wp2_with fail
        refine bodyPost_ret (results_list (rs := [.cell 4 80, .cell 5 91, .tmp 6]) rfl (by simp) (.cell (w.heap.size + 1) 80 #[.int .i64 N, .int .i64 b0, .int .i64 b1, .int .i64 r0, .int .i64 r1, .slice A5 l5.length c5, .slice A6 l6.length c6, .slice A7 l7.length c7, .map (some m)] (0, 0) _ rfl (hP6.blk h55 (by omega)) Tryd.underlying80 rfl (by kernel_rfl) (.cell (w.heap.size + 1 + 1) 91 (encT t').toArray (0, 0) _ rfl h66 Tryd.underlying91 rfl (size91a t') (.tmp .nil)))) rfl ?_
        refine ⟨_, t', rfl, ((hf4.bel.drew).trans (hP5.below (by omega))).trans (hP6.below (by omega)), ⟨rfl, by simp [Value.oneCell']⟩, fun h => ?_⟩
        exact ⟨m, Nat.le_trans hf1.bel.size hm, rfl, (by simpa using HT1.out), hM4.grown hP5.grown (by intro e; injection e with e; omega) |>.grown hP6.grown (by intro e; injection e with e; omega)⟩
  · rw [if_neg hcB] at hck
    have hE : askE N b0 b1 r0 r1 l5 l6 l7 ok = 30 := by unfold askE; rw [if_neg hcB]
    rw [hE]
    have hxx := hf0.x
    clear hcB hE
    go_enter Tryd.func65, Tryd.ntmps65
    go_wp2_with (first | (refine wpList_load_row rfl 27 _ rfl w.heap.size rfl 27 #[.int .i64 N, .int .i64 b0, .int .i64 b1, .int .i64 r0, .int .i64 r1, .slice A5 l5.length c5, .slice A6 l6.length c6, .slice A7 l7.length c7] (0, 0) _ hxx Tryd.underlying27 rfl (by kernel_rfl) ?_) | (go_at_call 19; refine hck.mono ?_; rintro e w1 ⟨rfl, hb1⟩; have hf1 := hf0.below hb1; have hr1 := hf1.r; have ht1 := hf1.t) | (refine wpList_store_blk rfl rfl rfl rfl hr1 rfl (by kernel_rfl) (by simp [Value.oneCell']) ?_; intro w2 hP2; have ht2 := hP2.blk ht1 (by omega)) | (refine wpList_store_blk rfl rfl rfl rfl ht2 zero_size zero_info zero_one ?_; intro w3 hP3))
    refine bodyPost_ret (results_list (rs := [.cell 4 80, .cell 5 91, .tmp 6]) rfl (by simp) (.cell (w.heap.size + 1) 80 zero9 (0, 0) _ rfl (hP3.blk hP2.here (by omega)) Tryd.underlying80 rfl (by kernel_rfl) (.cell (w.heap.size + 1 + 1) 91 Tryd.zeroCells91 (0, 0) _ rfl hP3.here Tryd.underlying91 rfl zero_info (.tmp .nil)))) rfl ?_
    refine ⟨zero9, zeroT, by rw [zeroCells_is]; rfl, ?_, ⟨rfl, by simp [zero9, Value.oneCell']⟩, fun h => by cases h⟩
    exact (hf1.bel.trans (hP2.below (by omega))).trans (hP3.below (by omega))
end Go.Proofs.YtohbeninpmmmpaaDoor
end

section
/- A region that draws its order, walked by an invariant over those of its operations behind which all others come. -/
set_option linter.unusedVariables false
namespace Go.Proofs.YtohbeninpmmmpaaDoor
open Go Go.RowKit Go.Proofs.YtohbeninpmmmpaaDoorW.PrintWords Go.Proofs.YtohbeninpmmmpaaDoorW.PrintLast Go.Proofs.YtohbeninpmmmpaaDoorW.PrintMore
/-- Each operation waits for elder ones alone; those from m on wait for all before m. -/
def lateB (ops : Array Oper) (m : Nat) : Bool :=
  ((List.range ops.size).all fun i => (preds .any ops i).all fun p => decide (p < i)) && ((List.range (ops.size - m)).all fun i => (List.range m).all fun j => (preds .any ops (m + i)).contains j)
theorem lateB_low {ops : Array Oper} {m : Nat} (h : lateB ops m = true) : ∀ i, i < ops.size → ∀ p ∈ preds .any ops i, p < i := by
  unfold lateB at h
  simp only [Bool.and_eq_true, List.all_eq_true, List.mem_range, decide_eq_true_eq] at h
  exact h.1
theorem lateB_late {ops : Array Oper} {m : Nat} (h : lateB ops m = true) : ∀ i, m ≤ i → i < ops.size → ∀ j, j < m → j ∈ preds .any ops i := by
  unfold lateB at h
  simp only [Bool.and_eq_true, List.all_eq_true, List.mem_range, decide_eq_true_eq, List.contains_iff_mem] at h
  intro i h1 h2 j hj
  have := h.2 (i - m) (by omega) j hj
  rwa [show m + (i - m) = i by omega] at this
def doneL (m n : Nat) : Array Bool := (List.replicate m true ++ List.replicate (n - m) false).toArray
section
variable {P : Program} {ops : Array Oper} {Q : Exit → Act → World → Prop} {S : World → Prop} {ds : List Nat}
theorem any_upto {m r : Nat} {Lend : Array Bool} (Inv : Array Bool → Act → World → Prop) (hl : lateB ops m = true) (hm : m + r = ops.size) (hL : doneL m ops.size = Lend)
    (hstep : ∀ (listed : Array Bool) (a : Act) (w : World) (i : Nat) (o : Oper), Closed .any ops listed → Inv listed a w → i < m → ops[i]? = some o → listed.getD i false = false → (∀ p ∈ preds .any ops i, listed.getD p false = true) →
      ∀ K : Act → World → Prop, Shut (∀ a' w', S w' → Inv (listed.setIfInBounds i true) a' w' → K a' w') → if Region.wanted o (yielded ops a.tmps) = true then Oper.wp P o a w K Q else K (a.put o.dst undef) w)
    (hend : ∀ (d : Nat) (a : Act) (w : World), Inv Lend a w → wpAnyLast P .any ops Q S ds (d + r) Lend a w) :
    ∀ (fuel : Nat) (listed : Array Bool) (a : Act) (w : World), Closed .any ops listed → (∀ j, m ≤ j → listed.getD j false = false) → Inv listed a w → unlisted listed ≤ fuel → wpAnyLast P .any ops Q S ds fuel listed a w := by
  have hall : ∀ (listed : Array Bool), Closed .any ops listed → (∀ j, m ≤ j → listed.getD j false = false) → (∀ j, j < m → listed.getD j false = true) → listed = Lend ∧ unlisted listed = r := by
    intro listed hc hlate hearly
    have e : listed = Lend := by
      rw [← hL]
      apply Array.toList_inj.1
      unfold doneL
      apply List.ext_getElem?
      intro j
      rw [Array.getElem?_toList]
      show listed[j]? = (List.replicate m true ++ List.replicate (ops.size - m) false)[j]?
      rcases Nat.lt_or_ge j m with hj | hj
      · have h1 := hearly j hj
        rw [List.getElem?_append_left (by simpa using hj), List.getElem?_replicate_of_lt hj]
        have hs : j < listed.size := by rw [hc.1]; omega
        simp [hs] at h1 ⊢
        exact h1
      · rw [List.getElem?_append_right (by simpa using hj)]
        rcases Nat.lt_or_ge j listed.size with hs | hs
        · have h1 := hlate j hj
          simp [hs] at h1
          rw [Array.getElem?_eq_getElem hs, h1]
          symm
          apply List.getElem?_replicate_of_lt
          simp
          rw [hc.1] at hs
          omega
        · rw [Array.getElem?_eq_none hs]
          symm
          apply List.getElem?_eq_none
          simp
          rw [hc.1] at hs
          omega
    refine ⟨e, ?_⟩
    rw [e, ← hL]
    unfold unlisted doneL
    simp
    omega
  intro fuel
  induction fuel with
  | zero =>
    intro listed a w hc hlate hI hu
    have hearly : ∀ j, j < m → listed.getD j false = true := by
      intro j hj
      cases h : listed.getD j false with
      | true => rfl
      | false =>
        have hs : j < listed.size := by rw [hc.1]; omega
        have := unlisted_set (listed := listed) (i := j) (by simp [hs] at h ⊢; exact h)
        omega
    obtain ⟨e, h2⟩ := hall listed hc hlate hearly
    have hr0 : r = 0 := by omega
    rw [e]
    have := hend 0 a w (by rw [← e]; exact hI)
    rw [hr0] at this
    exact this
  | succ fuel ih =>
    intro listed a w hc hlate hI hu
    by_cases hearly : ∀ j, j < m → listed.getD j false = true
    · obtain ⟨e, h2⟩ := hall listed hc hlate hearly
      rw [e]
      have := hend (fuel + 1 - r) a w (by rw [← e]; exact hI)
      rwa [show fuel + 1 - r + r = fuel + 1 by omega] at this
    · refine ⟨fun hr => absurd (fun j hj => ready_nil_all hc hr (lateB_low hl) j (by omega)) hearly, fun i hi => ?_⟩
      obtain ⟨h1, h2, h3⟩ := preds_of_ready hi
      have him : i < m := by
        rcases Nat.lt_or_ge i m with h | h
        · exact h
        · exact absurd (fun j hj => h3 j (lateB_late hl i h h1 j hj)) hearly
      have hs : i < listed.size := by rw [hc.1]; exact h1
      have h2' : listed.getD i false = false := by simp [hs] at h2 ⊢; exact h2
      have h4 := unlisted_set h2
      obtain ⟨o, ho⟩ : ∃ o, ops[i]? = some o := ⟨_, Array.getElem?_eq_getElem h1⟩
      refine wpOp_step ho (fun K' hK => hstep listed a w i o hc hI him ho h2' h3 K' (fun a' w' hS hI' => hK a' w' ⟨fun _ _ => hS, ih _ a' w' (hc.set hi) (fun j hj => ?_) hI' (by omega)⟩))
      rw [getD_set hs, if_neg (by omega)]
      exact hlate j hj
end
end Go.Proofs.YtohbeninpmmmpaaDoor
end

section
/- A region that calls asked and lays what it tells into two new blocks: what holds between its operations, whatever their order. -/
set_option linter.unusedVariables false
namespace Go.Proofs.YtohbeninpmmmpaaDoor
open Go.RowKit Go.Proofs.YtohbeninpmmmpaaDoorW.PrintWords Go.Proofs.YtohbeninpmmmpaaDoorW.PrintLast Go.Proofs.YtohbeninpmmmpaaDoorW.PrintMore TrydX.X
def upd (x : Nat → Value) (j : Nat) (v : Value) : Nat → Value := fun k => if k = j then v else x k
theorem upd_same (x : Nat → Value) (j : Nat) (v : Value) : upd x j v j = v := if_pos rfl
theorem upd_ne (x : Nat → Value) {j k : Nat} (v : Value) (h : k ≠ j) : upd x j v k = x k := if_neg h
/-- What asked has told. -/
def Gd (N b0 b1 r0 r1 : Int) (v5 v6 v7 : Value) (l5 l6 : List S23) (l7 : List S63) (err : Int) (n : Nat) (bv : Array Value) (t' : Tb) (W : World) : Prop :=
  (bv.size = 9 ∧ bv.all (·.oneCell') = true) ∧ (err = 0 → ∃ m, n ≤ m ∧ .agg bv = bookV N b0 b1 r0 r1 v5 v6 v7 m ∧ t' = told N b0 b1 r0 r1 l5 l6 l7 [] ∧ PMap W m (openedM N b0 b1 r0 r1 l5 l6 l7 []))
section
variable {N b0 b1 r0 r1 : Int} {v5 v6 v7 : Value} {l5 l6 : List S23} {l7 : List S63} {err : Int} {n : Nat} {bv : Array Value} {t' : Tb} {W W1 W0 : World}
theorem Gd.below (h : Gd N b0 b1 r0 r1 v5 v6 v7 l5 l6 l7 err n bv t' W) (hb : Below W.heap.size W W1) : Gd N b0 b1 r0 r1 v5 v6 v7 l5 l6 l7 err n bv t' W1 :=
  ⟨h.1, fun e => by obtain ⟨m, h1, h2, h3, h4⟩ := h.2 e; exact ⟨m, h1, h2, h3, h4.below hb⟩⟩
theorem Gd.put {g : Nat} {cs cs' : Array Value} {t s : TypeId} {f f' : Nat × Nat} (h : Gd N b0 b1 r0 r1 v5 v6 v7 l5 l6 l7 err n bv t' W) (hB : W.heap[g]? = some (.cells cs t f)) (hP : Put g (.cells cs' s f') W W1) : Gd N b0 b1 r0 r1 v5 v6 v7 l5 l6 l7 err n bv t' W1 :=
  ⟨h.1, fun e => by
    obtain ⟨m, h1, h2, h3, arr, clk, h4, h5⟩ := h.2 e
    refine ⟨m, h1, h2, h3, arr, clk, hP.blk h4 ?_, h5⟩
    rintro rfl
    rw [hB] at h4
    cases h4⟩
/-- What holds between the operations: c is the place of the call of asked. -/
structure AskR (N b0 b1 r0 r1 : Int) (v5 v6 v7 : Value) (l5 l6 : List S23) (l7 : List S63) (err : Int) (n c tC tM t0 t1 t2 tA tB : Nat) (W0 : World) (listed : Array Bool) (x : Nat → Value) (bv : Array Value) (t' : Tb) (W : World) : Prop where
  bel : Below W0.heap.size W0 W
  call : listed.getD c false = true → x tC = .tuple #[.agg bv, .agg (encT t').toArray, .int .i64 err] ∧ Gd N b0 b1 r0 r1 v5 v6 v7 l5 l6 l7 err n bv t' W
  mv : listed.getD (c + 1) false = true → x tM = .tuple #[.agg bv, .agg (encT t').toArray, .int .i64 err]
  e0 : listed.getD (c + 2) false = true → x t0 = .agg bv
  e1 : listed.getD (c + 3) false = true → x t1 = .agg (encT t').toArray
  e2 : listed.getD (c + 4) false = true → x t2 = .int .i64 err
  al : listed.getD (c + 5) false = true → ∃ g, x tA = .pointer (some ⟨g, 0, none⟩) ∧ W0.heap.size ≤ g ∧ W.heap[g]? = some (.cells (if listed.getD (c + 7) false = true then bv else zero9) 80 (0, 0))
  bl : listed.getD (c + 6) false = true → ∃ g, x tB = .pointer (some ⟨g, 0, none⟩) ∧ W0.heap.size ≤ g ∧ W.heap[g]? = some (.cells (if listed.getD (c + 8) false = true then (encT t').toArray else Tryd.zeroCells91) 91 (0, 0))
variable {c tC tM t0 t1 t2 tA tB : Nat} {listed : Array Bool} {x : Nat → Value}
theorem AskR.start (hn : ∀ k, k ≤ 8 → listed.getD (c + k) false = false) (x : Nat → Value) (bv : Array Value) (t' : Tb) : AskR N b0 b1 r0 r1 v5 v6 v7 l5 l6 l7 err n c tC tM t0 t1 t2 tA tB W0 listed x bv t' W0 := by
  have h0 := hn 0 (by omega)
  rw [Nat.add_zero] at h0
  refine ⟨Below.refl _ _, ?_, ?_, ?_, ?_, ?_, ?_, ?_⟩ <;> intro h <;> exfalso
  · rw [h0] at h; cases h
  · rw [hn 1 (by omega)] at h; cases h
  · rw [hn 2 (by omega)] at h; cases h
  · rw [hn 3 (by omega)] at h; cases h
  · rw [hn 4 (by omega)] at h; cases h
  · rw [hn 5 (by omega)] at h; cases h
  · rw [hn 6 (by omega)] at h; cases h
/-- An operation ahead of the call. -/
theorem AskR.pre (h : AskR N b0 b1 r0 r1 v5 v6 v7 l5 l6 l7 err n c tC tM t0 t1 t2 tA tB W0 listed x bv t' W) {i s : Nat} (v : Value) (hi : i < listed.size) (hic : i < c) (hs : s ≠ tC ∧ s ≠ tM ∧ s ≠ t0 ∧ s ≠ t1 ∧ s ≠ t2 ∧ s ≠ tA ∧ s ≠ tB) (hb : Below W.heap.size W W1) :
    AskR N b0 b1 r0 r1 v5 v6 v7 l5 l6 l7 err n c tC tM t0 t1 t2 tA tB W0 (listed.setIfInBounds i true) (upd x s v) bv t' W1 := by
  obtain ⟨q1, q2, q3, q4, q5, q6, q7⟩ := hs
  have e : ∀ k, (listed.setIfInBounds i true).getD (c + k) false = listed.getD (c + k) false := fun k => by rw [getD_set hi, if_neg (by omega)]
  have e0 : (listed.setIfInBounds i true).getD c false = listed.getD c false := by rw [getD_set hi, if_neg (by omega)]
  refine ⟨h.bel.trans (hb.mono h.bel.size), ?_, ?_, ?_, ?_, ?_, ?_, ?_⟩
  · rw [e0, upd_ne _ _ q1.symm]; exact fun hh => ⟨(h.call hh).1, (h.call hh).2.below hb⟩
  · rw [e, upd_ne _ _ q2.symm]; exact h.mv
  · rw [e, upd_ne _ _ q3.symm]; exact h.e0
  · rw [e, upd_ne _ _ q4.symm]; exact h.e1
  · rw [e, upd_ne _ _ q5.symm]; exact h.e2
  · rw [e, e, upd_ne _ _ q6.symm]; exact fun hh => by obtain ⟨g, h1, h2, h3⟩ := h.al hh; exact ⟨g, h1, h2, blk_below h3 hb⟩
  · rw [e, e, upd_ne _ _ q7.symm]; exact fun hh => by obtain ⟨g, h1, h2, h3⟩ := h.bl hh; exact ⟨g, h1, h2, blk_below h3 hb⟩
variable (hd : tC ≠ tM ∧ tC ≠ t0 ∧ tC ≠ t1 ∧ tC ≠ t2 ∧ tC ≠ tA ∧ tC ≠ tB ∧ tM ≠ t0 ∧ tM ≠ t1 ∧ tM ≠ t2 ∧ tM ≠ tA ∧ tM ≠ tB ∧ t0 ≠ t1 ∧ t0 ≠ t2 ∧ t0 ≠ tA ∧ t0 ≠ tB ∧ t1 ≠ t2 ∧ t1 ≠ tA ∧ t1 ≠ tB ∧ t2 ≠ tA ∧ t2 ≠ tB ∧ tA ≠ tB)
include hd
/-- The call. -/
theorem AskR.called (h : AskR N b0 b1 r0 r1 v5 v6 v7 l5 l6 l7 err n c tC tM t0 t1 t2 tA tB W0 listed x bv t' W) (hi : c < listed.size) (hn : ∀ k, (1 ≤ k ∧ k ≤ 4) ∨ k = 7 ∨ k = 8 → listed.getD (c + k) false = false) (bw : Array Value) (s' : Tb) (hb : Below W.heap.size W W1)
    (hG : Gd N b0 b1 r0 r1 v5 v6 v7 l5 l6 l7 err n bw s' W1) :
    AskR N b0 b1 r0 r1 v5 v6 v7 l5 l6 l7 err n c tC tM t0 t1 t2 tA tB W0 (listed.setIfInBounds c true) (upd x tC (.tuple #[.agg bw, .agg (encT s').toArray, .int .i64 err])) bw s' W1 := by
  obtain ⟨d1, d2, d3, d4, d5, d6, _⟩ := hd
  have e : ∀ k, 1 ≤ k → (listed.setIfInBounds c true).getD (c + k) false = listed.getD (c + k) false := fun k hk => by rw [getD_set hi, if_neg (by omega)]
  refine ⟨h.bel.trans (hb.mono h.bel.size), fun _ => ⟨upd_same _ _ _, hG⟩, ?_, ?_, ?_, ?_, ?_, ?_⟩
  · rw [e 1 (by omega), hn 1 (by omega)]; intro hh; cases hh
  · rw [e 2 (by omega), hn 2 (by omega)]; intro hh; cases hh
  · rw [e 3 (by omega), hn 3 (by omega)]; intro hh; cases hh
  · rw [e 4 (by omega), hn 4 (by omega)]; intro hh; cases hh
  · rw [e 5 (by omega), e 7 (by omega), upd_ne _ _ d5.symm, hn 7 (by omega)]
    intro hh
    obtain ⟨g, h1, h2, h3⟩ := h.al hh
    rw [hn 7 (by omega)] at h3
    exact ⟨g, h1, h2, blk_below h3 hb⟩
  · rw [e 6 (by omega), e 8 (by omega), upd_ne _ _ d6.symm, hn 8 (by omega)]
    intro hh
    obtain ⟨g, h1, h2, h3⟩ := h.bl hh
    rw [hn 8 (by omega)] at h3
    exact ⟨g, h1, h2, blk_below h3 hb⟩
theorem AskR.moved (h : AskR N b0 b1 r0 r1 v5 v6 v7 l5 l6 l7 err n c tC tM t0 t1 t2 tA tB W0 listed x bv t' W) (hi : c + 1 < listed.size) :
    AskR N b0 b1 r0 r1 v5 v6 v7 l5 l6 l7 err n c tC tM t0 t1 t2 tA tB W0 (listed.setIfInBounds (c + 1) true) (upd x tM (.tuple #[.agg bv, .agg (encT t').toArray, .int .i64 err])) bv t' W := by
  obtain ⟨d1, d2, d3, d4, d5, d6, d7, d8, d9, d10, d11, d12, d13, d14, d15, d16, d17, d18, d19, d20, d21⟩ := hd
  have e : ∀ k, k ≠ 1 → (listed.setIfInBounds (c + 1) true).getD (c + k) false = listed.getD (c + k) false := fun k hk => by rw [getD_set hi, if_neg (by omega)]
  have e0 : (listed.setIfInBounds (c + 1) true).getD c false = listed.getD c false := by rw [getD_set hi, if_neg (by omega)]
  refine ⟨h.bel, ?_, fun _ => upd_same _ _ _, ?_, ?_, ?_, ?_, ?_⟩
  · rw [e0, upd_ne _ _ d1]; exact h.call
  · rw [e 2 (by omega), upd_ne _ _ d7.symm]; exact h.e0
  · rw [e 3 (by omega), upd_ne _ _ d8.symm]; exact h.e1
  · rw [e 4 (by omega), upd_ne _ _ d9.symm]; exact h.e2
  · rw [e 5 (by omega), e 7 (by omega), upd_ne _ _ d10.symm]; exact h.al
  · rw [e 6 (by omega), e 8 (by omega), upd_ne _ _ d11.symm]; exact h.bl
theorem AskR.ext0 (h : AskR N b0 b1 r0 r1 v5 v6 v7 l5 l6 l7 err n c tC tM t0 t1 t2 tA tB W0 listed x bv t' W) (hi : c + 2 < listed.size) :
    AskR N b0 b1 r0 r1 v5 v6 v7 l5 l6 l7 err n c tC tM t0 t1 t2 tA tB W0 (listed.setIfInBounds (c + 2) true) (upd x t0 (.agg bv)) bv t' W := by
  obtain ⟨d1, d2, d3, d4, d5, d6, d7, d8, d9, d10, d11, d12, d13, d14, d15, d16, d17, d18, d19, d20, d21⟩ := hd
  have e : ∀ k, k ≠ 2 → (listed.setIfInBounds (c + 2) true).getD (c + k) false = listed.getD (c + k) false := fun k hk => by rw [getD_set hi, if_neg (by omega)]
  have e0 : (listed.setIfInBounds (c + 2) true).getD c false = listed.getD c false := by rw [getD_set hi, if_neg (by omega)]
  refine ⟨h.bel, ?_, ?_, fun _ => upd_same _ _ _, ?_, ?_, ?_, ?_⟩
  · rw [e0, upd_ne _ _ d2]; exact h.call
  · rw [e 1 (by omega), upd_ne _ _ d7]; exact h.mv
  · rw [e 3 (by omega), upd_ne _ _ d12.symm]; exact h.e1
  · rw [e 4 (by omega), upd_ne _ _ d13.symm]; exact h.e2
  · rw [e 5 (by omega), e 7 (by omega), upd_ne _ _ d14.symm]; exact h.al
  · rw [e 6 (by omega), e 8 (by omega), upd_ne _ _ d15.symm]; exact h.bl
theorem AskR.ext1 (h : AskR N b0 b1 r0 r1 v5 v6 v7 l5 l6 l7 err n c tC tM t0 t1 t2 tA tB W0 listed x bv t' W) (hi : c + 3 < listed.size) :
    AskR N b0 b1 r0 r1 v5 v6 v7 l5 l6 l7 err n c tC tM t0 t1 t2 tA tB W0 (listed.setIfInBounds (c + 3) true) (upd x t1 (.agg (encT t').toArray)) bv t' W := by
  obtain ⟨d1, d2, d3, d4, d5, d6, d7, d8, d9, d10, d11, d12, d13, d14, d15, d16, d17, d18, d19, d20, d21⟩ := hd
  have e : ∀ k, k ≠ 3 → (listed.setIfInBounds (c + 3) true).getD (c + k) false = listed.getD (c + k) false := fun k hk => by rw [getD_set hi, if_neg (by omega)]
  have e0 : (listed.setIfInBounds (c + 3) true).getD c false = listed.getD c false := by rw [getD_set hi, if_neg (by omega)]
  refine ⟨h.bel, ?_, ?_, ?_, fun _ => upd_same _ _ _, ?_, ?_, ?_⟩
  · rw [e0, upd_ne _ _ d3]; exact h.call
  · rw [e 1 (by omega), upd_ne _ _ d8]; exact h.mv
  · rw [e 2 (by omega), upd_ne _ _ d12]; exact h.e0
  · rw [e 4 (by omega), upd_ne _ _ d16.symm]; exact h.e2
  · rw [e 5 (by omega), e 7 (by omega), upd_ne _ _ d17.symm]; exact h.al
  · rw [e 6 (by omega), e 8 (by omega), upd_ne _ _ d18.symm]; exact h.bl
theorem AskR.ext2 (h : AskR N b0 b1 r0 r1 v5 v6 v7 l5 l6 l7 err n c tC tM t0 t1 t2 tA tB W0 listed x bv t' W) (hi : c + 4 < listed.size) :
    AskR N b0 b1 r0 r1 v5 v6 v7 l5 l6 l7 err n c tC tM t0 t1 t2 tA tB W0 (listed.setIfInBounds (c + 4) true) (upd x t2 (.int .i64 err)) bv t' W := by
  obtain ⟨d1, d2, d3, d4, d5, d6, d7, d8, d9, d10, d11, d12, d13, d14, d15, d16, d17, d18, d19, d20, d21⟩ := hd
  have e : ∀ k, k ≠ 4 → (listed.setIfInBounds (c + 4) true).getD (c + k) false = listed.getD (c + k) false := fun k hk => by rw [getD_set hi, if_neg (by omega)]
  have e0 : (listed.setIfInBounds (c + 4) true).getD c false = listed.getD c false := by rw [getD_set hi, if_neg (by omega)]
  refine ⟨h.bel, ?_, ?_, ?_, ?_, fun _ => upd_same _ _ _, ?_, ?_⟩
  · rw [e0, upd_ne _ _ d4]; exact h.call
  · rw [e 1 (by omega), upd_ne _ _ d9]; exact h.mv
  · rw [e 2 (by omega), upd_ne _ _ d13]; exact h.e0
  · rw [e 3 (by omega), upd_ne _ _ d16]; exact h.e1
  · rw [e 5 (by omega), e 7 (by omega), upd_ne _ _ d19.symm]; exact h.al
  · rw [e 6 (by omega), e 8 (by omega), upd_ne _ _ d20.symm]; exact h.bl
theorem AskR.alA (h : AskR N b0 b1 r0 r1 v5 v6 v7 l5 l6 l7 err n c tC tM t0 t1 t2 tA tB W0 listed x bv t' W) (hi : c + 5 < listed.size) (hn : listed.getD (c + 7) false = false) :
    AskR N b0 b1 r0 r1 v5 v6 v7 l5 l6 l7 err n c tC tM t0 t1 t2 tA tB W0 (listed.setIfInBounds (c + 5) true) (upd x tA (.pointer (some ⟨W.heap.size, 0, none⟩))) bv t' (W.alloc (.cells zero9 80)) := by
  obtain ⟨d1, d2, d3, d4, d5, d6, d7, d8, d9, d10, d11, d12, d13, d14, d15, d16, d17, d18, d19, d20, d21⟩ := hd
  have hb : Below W.heap.size W (W.alloc (.cells zero9 80)) := (Below.refl _ _).alloc (Nat.le_refl _) _
  have e : ∀ k, k ≠ 5 → (listed.setIfInBounds (c + 5) true).getD (c + k) false = listed.getD (c + k) false := fun k hk => by rw [getD_set hi, if_neg (by omega)]
  have e0 : (listed.setIfInBounds (c + 5) true).getD c false = listed.getD c false := by rw [getD_set hi, if_neg (by omega)]
  refine ⟨h.bel.trans (hb.mono h.bel.size), ?_, ?_, ?_, ?_, ?_, ?_, ?_⟩
  · rw [e0, upd_ne _ _ d5]; exact fun hh => ⟨(h.call hh).1, (h.call hh).2.below hb⟩
  · rw [e 1 (by omega), upd_ne _ _ d10]; exact h.mv
  · rw [e 2 (by omega), upd_ne _ _ d14]; exact h.e0
  · rw [e 3 (by omega), upd_ne _ _ d17]; exact h.e1
  · rw [e 4 (by omega), upd_ne _ _ d19]; exact h.e2
  · rw [e 7 (by omega), hn]
    exact fun _ => ⟨_, upd_same _ _ _, h.bel.size, by rw [if_neg (by decide)]; exact blk_new W _⟩
  · rw [e 6 (by omega), e 8 (by omega), upd_ne _ _ d21.symm]; exact fun hh => by obtain ⟨g, h1, h2, h3⟩ := h.bl hh; exact ⟨g, h1, h2, blk_below h3 hb⟩
theorem AskR.alB (h : AskR N b0 b1 r0 r1 v5 v6 v7 l5 l6 l7 err n c tC tM t0 t1 t2 tA tB W0 listed x bv t' W) (hi : c + 6 < listed.size) (hn : listed.getD (c + 8) false = false) :
    AskR N b0 b1 r0 r1 v5 v6 v7 l5 l6 l7 err n c tC tM t0 t1 t2 tA tB W0 (listed.setIfInBounds (c + 6) true) (upd x tB (.pointer (some ⟨W.heap.size, 0, none⟩))) bv t' (W.alloc (.cells Tryd.zeroCells91 91)) := by
  obtain ⟨d1, d2, d3, d4, d5, d6, d7, d8, d9, d10, d11, d12, d13, d14, d15, d16, d17, d18, d19, d20, d21⟩ := hd
  have hb : Below W.heap.size W (W.alloc (.cells Tryd.zeroCells91 91)) := (Below.refl _ _).alloc (Nat.le_refl _) _
  have e : ∀ k, k ≠ 6 → (listed.setIfInBounds (c + 6) true).getD (c + k) false = listed.getD (c + k) false := fun k hk => by rw [getD_set hi, if_neg (by omega)]
  have e0 : (listed.setIfInBounds (c + 6) true).getD c false = listed.getD c false := by rw [getD_set hi, if_neg (by omega)]
  refine ⟨h.bel.trans (hb.mono h.bel.size), ?_, ?_, ?_, ?_, ?_, ?_, ?_⟩
  · rw [e0, upd_ne _ _ d6]; exact fun hh => ⟨(h.call hh).1, (h.call hh).2.below hb⟩
  · rw [e 1 (by omega), upd_ne _ _ d11]; exact h.mv
  · rw [e 2 (by omega), upd_ne _ _ d15]; exact h.e0
  · rw [e 3 (by omega), upd_ne _ _ d18]; exact h.e1
  · rw [e 4 (by omega), upd_ne _ _ d20]; exact h.e2
  · rw [e 5 (by omega), e 7 (by omega), upd_ne _ _ d21]; exact fun hh => by obtain ⟨g, h1, h2, h3⟩ := h.al hh; exact ⟨g, h1, h2, blk_below h3 hb⟩
  · rw [e 8 (by omega), hn]
    exact fun _ => ⟨_, upd_same _ _ _, h.bel.size, by rw [if_neg (by decide)]; exact blk_new W _⟩
omit hd
theorem AskR.stA (h : AskR N b0 b1 r0 r1 v5 v6 v7 l5 l6 l7 err n c tC tM t0 t1 t2 tA tB W0 listed x bv t' W) (hi : c + 7 < listed.size) {g : Nat} {cs : Array Value} (hg : x tA = .pointer (some ⟨g, 0, none⟩)) (hB : W.heap[g]? = some (.cells cs 80 (0, 0))) (hg0 : W0.heap.size ≤ g) (hP : Put g (.cells bv 80 (0, 0)) W W1) :
    AskR N b0 b1 r0 r1 v5 v6 v7 l5 l6 l7 err n c tC tM t0 t1 t2 tA tB W0 (listed.setIfInBounds (c + 7) true) x bv t' W1 := by
  have e : ∀ k, k ≠ 7 → (listed.setIfInBounds (c + 7) true).getD (c + k) false = listed.getD (c + k) false := fun k hk => by rw [getD_set hi, if_neg (by omega)]
  have e0 : (listed.setIfInBounds (c + 7) true).getD c false = listed.getD c false := by rw [getD_set hi, if_neg (by omega)]
  have e7 : (listed.setIfInBounds (c + 7) true).getD (c + 7) false = true := by rw [getD_set hi, if_pos rfl]
  refine ⟨h.bel.trans (hP.below hg0), ?_, ?_, ?_, ?_, ?_, ?_, ?_⟩
  · rw [e0]; exact fun hh => ⟨(h.call hh).1, (h.call hh).2.put hB hP⟩
  · rw [e 1 (by omega)]; exact h.mv
  · rw [e 2 (by omega)]; exact h.e0
  · rw [e 3 (by omega)]; exact h.e1
  · rw [e 4 (by omega)]; exact h.e2
  · rw [e7]; exact fun _ => ⟨g, hg, hg0, by rw [if_pos rfl]; exact hP.here⟩
  · rw [e 6 (by omega), e 8 (by omega)]
    intro hh
    obtain ⟨g', h1, h2, h3⟩ := h.bl hh
    refine ⟨g', h1, h2, hP.blk h3 ?_⟩
    rintro rfl
    rw [hB] at h3
    injection h3 with h3
    injection h3 with _ h3
    cases h3
theorem AskR.stB (h : AskR N b0 b1 r0 r1 v5 v6 v7 l5 l6 l7 err n c tC tM t0 t1 t2 tA tB W0 listed x bv t' W) (hi : c + 8 < listed.size) {g : Nat} {cs : Array Value} (hg : x tB = .pointer (some ⟨g, 0, none⟩)) (hB : W.heap[g]? = some (.cells cs 91 (0, 0))) (hg0 : W0.heap.size ≤ g) (hP : Put g (.cells (encT t').toArray 91 (0, 0)) W W1) :
    AskR N b0 b1 r0 r1 v5 v6 v7 l5 l6 l7 err n c tC tM t0 t1 t2 tA tB W0 (listed.setIfInBounds (c + 8) true) x bv t' W1 := by
  have e : ∀ k, k ≠ 8 → (listed.setIfInBounds (c + 8) true).getD (c + k) false = listed.getD (c + k) false := fun k hk => by rw [getD_set hi, if_neg (by omega)]
  have e0 : (listed.setIfInBounds (c + 8) true).getD c false = listed.getD c false := by rw [getD_set hi, if_neg (by omega)]
  have e8 : (listed.setIfInBounds (c + 8) true).getD (c + 8) false = true := by rw [getD_set hi, if_pos rfl]
  refine ⟨h.bel.trans (hP.below hg0), ?_, ?_, ?_, ?_, ?_, ?_, ?_⟩
  · rw [e0]; exact fun hh => ⟨(h.call hh).1, (h.call hh).2.put hB hP⟩
  · rw [e 1 (by omega)]; exact h.mv
  · rw [e 2 (by omega)]; exact h.e0
  · rw [e 3 (by omega)]; exact h.e1
  · rw [e 4 (by omega)]; exact h.e2
  · rw [e 5 (by omega), e 7 (by omega)]
    intro hh
    obtain ⟨g', h1, h2, h3⟩ := h.al hh
    refine ⟨g', h1, h2, hP.blk h3 ?_⟩
    rintro rfl
    rw [hB] at h3
    injection h3 with h3
    injection h3 with _ h3
    cases h3
  · rw [e8]; exact fun _ => ⟨g, hg, hg0, by rw [if_pos rfl]; exact hP.here⟩
end
end Go.Proofs.YtohbeninpmmmpaaDoor
end

section
/- Offset. -/
set_option linter.unusedSimpArgs false
set_option linter.unusedVariables false
namespace Go.Proofs.YtohbeninpmmmpaaDoor
open Go.RowKit Go.Proofs.YtohbeninpmmmpaaDoorW.PrintWords Go.Proofs.YtohbeninpmmmpaaDoorW.PrintLast Go.Proofs.YtohbeninpmmmpaaDoorW.PrintMore TrydX.X
attribute [local go_sem] Oper.semAt_some
/-- What is carried out, all before it is. -/
def closedC (ops : Array Oper) (listed : Array Bool) : Bool := decide (listed.size = ops.size) && (List.range ops.size).all fun i => !listed.getD i false || (preds .any ops i).all fun p => listed.getD p false
theorem closed_of {ops : Array Oper} {listed : Array Bool} (h : closedC ops listed = true) : Closed .any ops listed := by
  unfold closedC at h
  simp only [Bool.and_eq_true, decide_eq_true_eq, List.all_eq_true, List.mem_range, Bool.or_eq_true, Bool.not_eq_true'] at h
  refine ⟨h.1, fun i hi p hp => ?_⟩
  have hs : i < ops.size := by
    rw [← h.1]
    rcases Nat.lt_or_ge i listed.size with h2 | h2
    · exact h2
    · simp [h2] at hi
  rcases h.2 i hs with h3 | h3
  · rw [hi] at h3; cases h3
  · exact h3 p hp
theorem ask0 {N b0 b1 r0 r1 : Int} {l5 l6 : List S23} {l7 : List S63} {ok : Bool} (h : askE N b0 b1 r0 r1 l5 l6 l7 ok = 0) : BookOk N b0 b1 r0 r1 l5 l6 l7 ∧ ok = true ∧ canB N b0 b1 r0 r1 l5 l6 l7 [] = true := by
  unfold askE at h
  by_cases h1 : checkB N b0 b1 r0 r1 l5 l6 l7 = true
  · rw [if_pos h1] at h
    by_cases h2 : ok = true
    · rw [if_pos h2] at h
      by_cases h3 : canB N b0 b1 r0 r1 l5 l6 l7 [] = true
      · exact ⟨checkB_iff.1 h1, h2, h3⟩
      · rw [if_neg h3] at h; cases h
    · rw [if_neg h2] at h; cases h
  · rw [if_neg h1] at h; cases h
theorem getD_out {listed : Array Bool} {j : Nat} (h : listed.size ≤ j) : listed.getD j false = false := by simp [h]
def offset1T : Bool × List (List Nat × List Nat) := (true, [([], []), ([], []), ([], []), ([2], [2]), ([3], [3]), ([1, 4], [1, 4]), ([0, 5, 5], [0, 5]), ([6], [6]), ([7], [7]), ([7], [7]), ([7], [7]), ([], []), ([], []), ([11, 8, 6, 0, 1, 2, 3, 4, 5, 6, 7, 8, 11, 12], [8, 11]), ([12, 9, 13, 0, 1, 2, 3, 4, 5, 6, 7, 8, 9, 11, 12, 13], [9, 12]), ([10, 14, 0, 1, 2, 3, 4, 5, 6, 7, 8, 9, 10, 11, 12, 13, 14], [10])])
def offset1B : List Nat := [0, 0, 0, 4, 12, 30, 63, 127, 255, 255, 255, 0, 0, 6655, 15359, 32767]
theorem offset1_tab : rtab .any (opsOf Tryd.f24 1) = offset1T := by kernel_rfl
theorem offset1_bits : waitsOk offset1T.2 offset1B = true := by kernel_rfl
def offset4T : Bool × List (List Nat × List Nat) := (true, [([], []), ([], []), ([], []), ([1, 2], [1, 2]), ([0, 3, 3], [0, 3]), ([4, 4, 0, 1, 2, 3, 4], [4]), ([5, 0, 1, 2, 3, 4, 5], [])])
def offset4B : List Nat := [0, 0, 0, 6, 15, 31, 63]
theorem offset4_tab : rtab .any (opsOf Tryd.f24 4) = offset4T := by kernel_rfl
theorem offset4_bits : waitsOk offset4T.2 offset4B = true := by kernel_rfl
set_option maxRecDepth 100000 in
set_option maxHeartbeats 4000000 in
theorem Offset_any (N b0 b1 r0 r1 : Int) (A5 : Option Addr) (c5 : Nat) (l5 : List S23) (A6 : Option Addr) (c6 : Nat) (l6 : List S23) (A7 : Option Addr) (c7 : Nat) (l7 : List S63) (n : Int)
    (w : World) (hK : Kinds w) (h5' : Kd.C k23 w A5 l5.length l5) (hc5 : l5.length ≤ c5) (h6' : Kd.C k23 w A6 l6.length l6) (hc6 : l6.length ≤ c6) (h7' : Kd.C k63 w A7 l7.length l7) (hc7 : l7.length ≤ c7)
    (hl : l5.length ≤ 4611686018427387904 ∧ l6.length ≤ 4611686018427387904 ∧ l7.length ≤ 4611686018427387904) (ok : Bool) (hok : ok = decide (0 ≤ n ∧ n ≤ wrap64 (N - 1))) (err : Int) (herr : askE N b0 b1 r0 r1 l5 l6 l7 ok = err) :
    Calls Tryd.prog 24 #[.agg #[.int .i64 N, .int .i64 b0, .int .i64 b1, .int .i64 r0, .int .i64 r1, .slice A5 l5.length c5, .slice A6 l6.length c6, .slice A7 l7.length c7], .int .i64 n] w fun e w' =>
      e = .returned (.tuple #[.agg #[.int .i64 (if err = 0 then -(told N b0 b1 r0 r1 l5 l6 l7 [] 0 (1 + n.toNat)) else 0), .int .i64 (if err = 0 then told N b0 b1 r0 r1 l5 l6 l7 [] (1 + n.toNat) 0 else 0)], .int .i64 err]) ∧ Below w.heap.size w w' := by
  have HERR := Lib.hid herr
  have HK := Lib.hid hK
  have HOK := Lib.hid hok
  clear herr hK hok
  go_enter Tryd.func24, Tryd.ntmps24
  go_wp2_with fail
  refine wp_calm ?_
  have hb0 : Below w.heap.size w ((w.alloc (.cells #[.int .i64 N, .int .i64 b0, .int .i64 b1, .int .i64 r0, .int .i64 r1, .slice A5 l5.length c5, .slice A6 l6.length c6, .slice A7 l7.length c7] 27)).alloc (.cells #[.int .i64 0, .int .i64 0] 23)).drew := by
    refine Below.drew ?_
    repeat with_reducible (first | exact Below.refl _ _ | refine Below.alloc ?_ (by simp <;> omega) _)
  have hr0 : ((w.alloc (.cells #[.int .i64 N, .int .i64 b0, .int .i64 b1, .int .i64 r0, .int .i64 r1, .slice A5 l5.length c5, .slice A6 l6.length c6, .slice A7 l7.length c7] 27)).alloc (.cells #[.int .i64 0, .int .i64 0] 23)).drew.heap[w.heap.size + 1]? = some (.cells #[.int .i64 0, .int .i64 0] 23 (0, 0)) := by
    have h := blk_new (w.alloc (.cells #[.int .i64 N, .int .i64 b0, .int .i64 b1, .int .i64 r0, .int .i64 r1, .slice A5 l5.length c5, .slice A6 l6.length c6, .slice A7 l7.length c7] 27)) (.cells #[.int .i64 0, .int .i64 0] 23)
    rw [World.size_alloc] at h
    exact blk_drew h
  have hV : ((w.alloc (.cells #[.int .i64 N, .int .i64 b0, .int .i64 b1, .int .i64 r0, .int .i64 r1, .slice A5 l5.length c5, .slice A6 l6.length c6, .slice A7 l7.length c7] 27)).alloc (.cells #[.int .i64 0, .int .i64 0] 23)).drew.heap[w.heap.size]? = some (.cells #[.int .i64 N, .int .i64 b0, .int .i64 b1, .int .i64 r0, .int .i64 r1, .slice A5 l5.length c5, .slice A6 l6.length c6, .slice A7 l7.length c7] 27 (0, 0)) ∧ ((w.alloc (.cells #[.int .i64 N, .int .i64 b0, .int .i64 b1, .int .i64 r0, .int .i64 r1, .slice A5 l5.length c5, .slice A6 l6.length c6, .slice A7 l7.length c7] 27)).alloc (.cells #[.int .i64 0, .int .i64 0] 23)).drew.heap[w.heap.size + 1]? = some (.cells #[.int .i64 0, .int .i64 0] 23 (0, 0)) := ⟨blk_drew (blk_alloc (blk_new w _) _), hr0⟩
  have hlt0 : w.heap.size + 1 < ((w.alloc (.cells #[.int .i64 N, .int .i64 b0, .int .i64 b1, .int .i64 r0, .int .i64 r1, .slice A5 l5.length c5, .slice A6 l6.length c6, .slice A7 l7.length c7] 27)).alloc (.cells #[.int .i64 0, .int .i64 0] 23)).drew.heap.size := blk_lt hr0
  refine start_ (n := 16) (S := (fun w' => w'.heap[w.heap.size]? = some (.cells #[.int .i64 N, .int .i64 b0, .int .i64 b1, .int .i64 r0, .int .i64 r1, .slice A5 l5.length c5, .slice A6 l6.length c6, .slice A7 l7.length c7] 27 (0, 0)) ∧ w'.heap[w.heap.size + 1]? = some (.cells #[.int .i64 0, .int .i64 0] 23 (0, 0)))) (ds := []) #[false, false, false, false, false, false, false, false, false, false, false, false, false, false, false, false] (by kernel_rfl) rfl rfl hV (fun hHeld => ?_)
  refine with_tabW offset1_tab offset1_bits (fun HT_ HW_ => ?_)
  generalize ((w.alloc (.cells #[.int .i64 N, .int .i64 b0, .int .i64 b1, .int .i64 r0, .int .i64 r1, .slice A5 l5.length c5, .slice A6 l6.length c6, .slice A7 l7.length c7] 27)).alloc (.cells #[.int .i64 0, .int .i64 0] 23)).drew = V0 at hb0 hr0 hHeld hlt0 ⊢
  refine takeA 0 10 rfl rfl (by rintro w' ⟨s0, s1⟩; exact exec_load_blk s0 rfl rfl Tryd.underlying27 rfl (by kernel_rfl)) ?_
  refine pureA 1 11 ?_
  refine pureA 2 12 ?_
  refine takeA 3 13 rfl rfl (by rintro w' ⟨s0, s1⟩; exact exec_load_int ((blk_cell s0 0).trans rfl) rfl rfl) ?_
  refine pureA 4 14 ?_
  refine any_upto (m := 15) (r := 1) (Lend := #[true, true, true, true, true, true, true, true, true, true, true, true, true, true, true, false]) (fun listed a W => ∃ (x : Nat → Value) (bv : Array Value) (t' : Tb), a = { tmps := #[.agg #[.int .i64 N, .int .i64 b0, .int .i64 b1, .int .i64 r0, .int .i64 r1, .slice A5 l5.length c5, .slice A6 l6.length c6, .slice A7 l7.length c7], .int .i64 n, .pointer (some ⟨w.heap.size, 0, none⟩), undef, .pointer (some ⟨w.heap.size + 1, 0, none⟩), .int .i64 0, x 6, x 7, undef, x 9, .agg #[.int .i64 N, .int .i64 b0, .int .i64 b1, .int .i64 r0, .int .i64 r1, .slice A5 l5.length c5, .slice A6 l6.length c6, .slice A7 l7.length c7], .int .i64 n, .pointer (some ⟨w.heap.size, 0, none⟩), .int .i64 N, .int .i64 (wrap64 (N - 1)), x 15, x 16, x 17, x 18, x 19, undef, undef, undef, undef, undef, undef, undef, undef, undef], defers := [] } ∧ (∀ j, j < 5 → listed.getD j false = true) ∧ ((fun w' => w'.heap[w.heap.size]? = some (.cells #[.int .i64 N, .int .i64 b0, .int .i64 b1, .int .i64 r0, .int .i64 r1, .slice A5 l5.length c5, .slice A6 l6.length c6, .slice A7 l7.length c7] 27 (0, 0)) ∧ w'.heap[w.heap.size + 1]? = some (.cells #[.int .i64 0, .int .i64 0] 23 (0, 0))) W) ∧ (listed.getD 5 false = true → x 15 = .bool ok) ∧ AskR N b0 b1 r0 r1 (.slice A5 l5.length c5) (.slice A6 l6.length c6) (.slice A7 l7.length c7) l5 l6 l7 err w.heap.size 6 16 9 17 18 19 6 7 V0 listed x bv t' W) (by kernel_rfl) rfl rfl ?step ?fin 11 _ _ _ (closed_of (by kernel_rfl)) (fun j hj => ?late) ⟨fun k => undef, #[], zeroT, rfl, fun j hj => ?early, hHeld, (fun h => by cases h), AskR.start (fun k hk => ?none0) _ _ _⟩ (by decide)
  case late =>
    by_cases e : j = 15
    · subst e; rfl
    · exact getD_out (by show 16 ≤ j; omega)
  case early =>
    have : j = 0 ∨ j = 1 ∨ j = 2 ∨ j = 3 ∨ j = 4 := by omega
    rcases this with rfl | rfl | rfl | rfl | rfl <;> rfl
  case none0 =>
    have : k = 0 ∨ k = 1 ∨ k = 2 ∨ k = 3 ∨ k = 4 ∨ k = 5 ∨ k = 6 ∨ k = 7 ∨ k = 8 := by omega
    rcases this with rfl | rfl | rfl | rfl | rfl | rfl | rfl | rfl | rfl <;> rfl
  case step =>
    rintro listed a W i o hc ⟨x, bv, t', rfl, hE, hS, h5, hA⟩ hi ho hun hpre K hK
    have hs : listed.size = 16 := hc.1
    have hE2 : ∀ j, j < 5 → j ≠ i := fun j hj e => by rw [e] at hj; rw [hE i hj] at hun; cases hun
    have hE3 : ∀ (i : Nat), i < listed.size → ∀ j, j < 5 → (listed.setIfInBounds i true).getD j false = true := fun i hi j hj => by rw [getD_set hi]; split <;> first | rfl | exact hE j hj
    have hno : ∀ j, i ∈ preds .any _ j → listed.getD j false = false := fun j hj => by
      cases h : listed.getD j false with
      | false => rfl
      | true => have := hc.2 j h i hj; rw [hun] at this; cases this
    have hno2 : ∀ j p, p ∈ preds .any _ j → listed.getD p false = false → listed.getD j false = false := fun j p hj hp => by
      cases h : listed.getD j false with
      | false => rfl
      | true => have := hc.2 j h p hj; rw [hp] at this; cases this
    have hcases : i = 5 ∨ i = 6 ∨ i = 7 ∨ i = 8 ∨ i = 9 ∨ i = 10 ∨ i = 11 ∨ i = 12 ∨ i = 13 ∨ i = 14 := by have := hE2 i; omega
    rcases hcases with rfl | rfl | rfl | rfl | rfl | rfl | rfl | rfl | rfl | rfl
    · cases ho
      refine call_ 59 #[.int .i64 n, .int .i64 0, .int .i64 (wrap64 (N - 1))] (by rfl) rfl (by go_simp) ?_
      refine (star_within.calls n 0 (wrap64 (N - 1)) ok W (by rw [within_is, HOK.out])).mono ?_
      rintro e w' ⟨rfl, hdr⟩
      have hb : Below W.heap.size W w' := hdr.below
      exact ⟨_, rfl, hK.out _ _ (⟨blk_below hS.1 hb, blk_below hS.2 hb⟩) ⟨upd x 15 (.bool ok), bv, t', rfl, hE3 _ (by omega), ⟨blk_below hS.1 hb, blk_below hS.2 hb⟩, fun _ => rfl, hA.pre _ (by omega) (by omega) (by decide) hb⟩⟩
    · cases ho
      have hx := h5 (hpre 5 (by decide))
      refine call_ 65 #[.agg #[.int .i64 N, .int .i64 b0, .int .i64 b1, .int .i64 r0, .int .i64 r1, .slice A5 l5.length c5, .slice A6 l6.length c6, .slice A7 l7.length c7], .bool ok] (by rfl) rfl (by go_simp <;> simp [hx]) ?_
      have hbw := hb0.trans (hA.bel.mono hb0.size)
      refine (asked_any N b0 b1 r0 r1 A5 c5 l5 A6 c6 l6 A7 c7 l7 ok W (HK.out.below hbw) (Kd.C_below h5' hbw) hc5 (Kd.C_below h6' hbw) hc6 (Kd.C_below h7' hbw) hc7 hl).mono ?_
      rintro e w' ⟨bw, s', rfl, hb, hbv, hok⟩
      rw [HERR.out] at hok ⊢
      have hG : Gd N b0 b1 r0 r1 (.slice A5 l5.length c5) (.slice A6 l6.length c6) (.slice A7 l7.length c7) l5 l6 l7 err w.heap.size bw s' w' := ⟨hbv, fun e => by obtain ⟨m, h1, h2⟩ := hok e; exact ⟨m, Nat.le_trans hbw.size h1, h2⟩⟩
      exact ⟨_, rfl, hK.out _ _ (⟨blk_below hS.1 hb, blk_below hS.2 hb⟩) ⟨upd x 16 _, bw, s', rfl, hE3 _ (by omega), ⟨blk_below hS.1 hb, blk_below hS.2 hb⟩, fun h => by rw [getD_set (by omega), if_neg (by decide)] at h; exact h5 h, hA.called (by decide) (by omega) (fun k hk => by rcases (show k = 1 ∨ k = 2 ∨ k = 3 ∨ k = 4 ∨ k = 7 ∨ k = 8 by omega) with rfl | rfl | rfl | rfl | rfl | rfl <;> first | exact hno _ (by decide) | exact hno2 _ _ (by decide) (hno _ (by decide : 6 ∈ preds .any _ 7))) bw s' hb hG⟩⟩
    · cases ho
      have hx := (hA.call (hpre 6 (by decide))).1
      refine value_ (v := .tuple #[.agg bv, .agg (encT t').toArray, .int .i64 err]) (w1 := W) rfl rfl (by go_simp <;> simp [hx]) ?_
      exact hK.out _ _ hS ⟨upd x 9 _, bv, t', rfl, hE3 _ (by omega), hS, fun h => by rw [getD_set (by omega), if_neg (by decide)] at h; exact h5 h, hA.moved (by decide) (by omega)⟩
    · cases ho
      have hx := hA.mv (hpre 7 (by decide))
      refine value_ (v := .agg bv) (w1 := W) rfl rfl (by go_simp <;> simp [hx]) ?_
      exact hK.out _ _ hS ⟨upd x 17 _, bv, t', rfl, hE3 _ (by omega), hS, fun h => by rw [getD_set (by omega), if_neg (by decide)] at h; exact h5 h, hA.ext0 (by decide) (by omega)⟩
    · cases ho
      have hx := hA.mv (hpre 7 (by decide))
      refine value_ (v := .agg (encT t').toArray) (w1 := W) rfl rfl (by go_simp <;> simp [hx]) ?_
      exact hK.out _ _ hS ⟨upd x 18 _, bv, t', rfl, hE3 _ (by omega), hS, fun h => by rw [getD_set (by omega), if_neg (by decide)] at h; exact h5 h, hA.ext1 (by decide) (by omega)⟩
    · cases ho
      have hx := hA.mv (hpre 7 (by decide))
      refine value_ (v := .int .i64 err) (w1 := W) rfl rfl (by go_simp <;> simp [hx]) ?_
      exact hK.out _ _ hS ⟨upd x 19 _, bv, t', rfl, hE3 _ (by omega), hS, fun h => by rw [getD_set (by omega), if_neg (by decide)] at h; exact h5 h, hA.ext2 (by decide) (by omega)⟩
    · cases ho
      have hb : Below W.heap.size W (W.alloc (.cells zero9 80)) := (Below.refl _ _).alloc (Nat.le_refl _) _
      refine value_ (v := .pointer (some ⟨W.heap.size, 0, none⟩)) (w1 := W.alloc (.cells zero9 80)) rfl rfl (by go_simp; try rfl) ?_
      exact hK.out _ _ (⟨blk_below hS.1 hb, blk_below hS.2 hb⟩) ⟨upd x 6 _, bv, t', rfl, hE3 _ (by omega), ⟨blk_below hS.1 hb, blk_below hS.2 hb⟩, fun h => by rw [getD_set (by omega), if_neg (by decide)] at h; exact h5 h, hA.alA (by decide) (by omega) (hno _ (by decide))⟩
    · cases ho
      have hb : Below W.heap.size W (W.alloc (.cells Tryd.zeroCells91 91)) := (Below.refl _ _).alloc (Nat.le_refl _) _
      refine value_ (v := .pointer (some ⟨W.heap.size, 0, none⟩)) (w1 := W.alloc (.cells Tryd.zeroCells91 91)) rfl rfl (by go_simp; try rfl) ?_
      exact hK.out _ _ (⟨blk_below hS.1 hb, blk_below hS.2 hb⟩) ⟨upd x 7 _, bv, t', rfl, hE3 _ (by omega), ⟨blk_below hS.1 hb, blk_below hS.2 hb⟩, fun h => by rw [getD_set (by omega), if_neg (by decide)] at h; exact h5 h, hA.alB (by decide) (by omega) (hno _ (by decide))⟩
    · cases ho
      obtain ⟨g, hg, hg0, hB⟩ := hA.al (hpre 11 (by decide))
      have hx := hA.e0 (hpre 8 (by decide))
      have hG := (hA.call (hpre 6 (by decide))).2
      obtain ⟨w', hP, hr⟩ := store_ex (ty := 80) (vs := bv) hB (by rw [hun]; exact hG.1.1) (by rw [hG.1.1]; kernel_rfl) hG.1.2
      refine skip_ (w1 := w') rfl rfl (hr _ _ _ _ rfl hg hx) ?_
      exact hK.out _ _ (⟨hP.blk hS.1 (by omega), hP.blk hS.2 (by omega)⟩) ⟨x, bv, t', rfl, hE3 _ (by omega), ⟨hP.blk hS.1 (by omega), hP.blk hS.2 (by omega)⟩, fun h => by rw [getD_set (by omega), if_neg (by decide)] at h; exact h5 h, hA.stA (by omega) hg hB hg0 hP⟩
    · cases ho
      obtain ⟨g, hg, hg0, hB⟩ := hA.bl (hpre 12 (by decide))
      have hx := hA.e1 (hpre 9 (by decide))
      obtain ⟨w', hP, hr⟩ := store_ex (ty := 91) (vs := (encT t').toArray) hB (by rw [hun, zeroCells_is]; simp [encT_length]) (size91a t') (all_oneCell_toArray (encT_one t'))
      refine skip_ (w1 := w') rfl rfl (hr _ _ _ _ rfl hg hx) ?_
      exact hK.out _ _ (⟨hP.blk hS.1 (by omega), hP.blk hS.2 (by omega)⟩) ⟨x, bv, t', rfl, hE3 _ (by omega), ⟨hP.blk hS.1 (by omega), hP.blk hS.2 (by omega)⟩, fun h => by rw [getD_set (by omega), if_neg (by decide)] at h; exact h5 h, hA.stB (by omega) hg hB hg0 hP⟩
  case fin =>
    rintro d a W ⟨x, bv, t', rfl, hE, hS, h5, hA⟩
    have x5 := h5 rfl
    obtain ⟨x6, hG⟩ := hA.call rfl
    have x7 := hA.mv rfl
    have x8 := hA.e0 rfl
    have x9 := hA.e1 rfl
    have x10 := hA.e2 rfl
    obtain ⟨g, x11, hg0, hgB⟩ := hA.al rfl
    obtain ⟨g', x12, hg0', hgB'⟩ := hA.bl rfl
    have hgC : W.heap[g]? = some (.cells bv 80 (0, 0)) := hgB
    have hgC' : W.heap[g']? = some (.cells (encT t').toArray 91 (0, 0)) := hgB'
    clear hgB hgB'
    simp only [x5, x6, x7, x8, x9, x10, x11, x12]
    refine pureA 15 8 ?_
    refine done_ (done_of HT_.out (by kernel_rfl)) ?_
    clear HT_ HW_ hHeld
    have hbW := hb0.trans (hA.bel.mono hb0.size)
    have hzz := hb0.size
    clear hA hE h5 x5 x6 x7 x8 x9 x10 x11 x12
    refine calm_normal ?_
    have hS1 := hS.1
    have hS2 := hS.2
    by_cases he : err = 0
    · obtain ⟨hBk, hok, hcan⟩ := ask0 (HERR.out.trans he)
      obtain ⟨hbv, hG2⟩ := hG
      obtain ⟨m, hm, hbe, ht, hM⟩ := hG2 he
      have hn : 0 ≤ n ∧ n ≤ N - 1 := by
        have h1 := HOK.out
        rw [hok] at h1
        have h2 := of_decide_eq_true h1.symm
        have := hBk.n
        rw [IntWalk.wrap64_in (N - 1) (by constructor <;> omega)] at h2
        exact h2
      have hN8 := hBk.n
      have hu : Used N l5 l6 (1 + n.toNat) := .inr (.inl ⟨by omega, by omega⟩)
      have hnear := told_near hBk [] hcan (.inl rfl : Used N l5 l6 0) hu
      have hbe2 : bv = #[.int .i64 N, .int .i64 b0, .int .i64 b1, .int .i64 r0, .int .i64 r1, .slice A5 l5.length c5, .slice A6 l6.length c6, .slice A7 l7.length c7, .map (some m)] := by injection hbe
      rw [ht] at hgC' ⊢
      rw [hbe2] at hgC ⊢
      obtain ⟨T, hT⟩ : ∃ T, T = told N b0 b1 r0 r1 l5 l6 l7 [] := ⟨_, rfl⟩
      rw [← hT] at hgC' hnear ⊢
      have hnn : ((1 + n.toNat : Nat) : Int) = 1 + n := by omega
      have hbt := fun (W2 : World) => between_any T (1 + n.toNat) 0 (by omega) (by omega) (by omega) W2
      rw [hnn] at hbt
      have HBT := Lib.hid hbt
      have HT := Lib.hid hT
      have hnb : -1000000 ≤ n ∧ n ≤ 1000000 := by omega
      have HNEAR := Lib.hid hnear
      clear hbt hT hnear ht hbe hbe2 hbv hG2 hM hu hcan hok
      subst he
      go_wp2_with fail
      refine wp_calm ?_
      refine start_ (n := 7) (S := fun w' => w'.heap[g]? = some (.cells #[.int .i64 N, .int .i64 b0, .int .i64 b1, .int .i64 r0, .int .i64 r1, .slice A5 l5.length c5, .slice A6 l6.length c6, .slice A7 l7.length c7, .map (some m)] 80 (0, 0)) ∧ w'.heap[g']? = some (.cells (encT T).toArray 91 (0, 0))) (ds := []) #[false, false, false, false, false, false, false] (by kernel_rfl) rfl rfl ⟨blk_drew hgC, blk_drew hgC'⟩ (fun hHeld => ?_)
      refine with_tabW offset4_tab offset4_bits (fun HT_ HW_ => ?_)
      have hb1 : Below w.heap.size w W.drew := hbW.drew
      have hz0 := blk_drew hS2
      generalize W.drew = V1 at hHeld hb1 hz0 ⊢
      refine takeA 0 24 rfl rfl (by rintro w' ⟨s0, s1⟩; exact exec_load_blk s1 rfl rfl Tryd.underlying91 rfl (size91a T)) ?_
      refine takeA 1 25 rfl rfl (by rintro w' ⟨s0, s1⟩; exact exec_load_blk s0 rfl rfl Tryd.underlying80 rfl (by kernel_rfl)) ?_
      refine pureA 2 26 ?_
      refine oneA 3 (some 27) (fun K hK => ?_)
      refine call_ 56 #[(bookV N b0 b1 r0 r1 (.slice A5 l5.length c5) (.slice A6 l6.length c6) (.slice A7 l7.length c7) m), .int .i64 n] (by rfl) rfl ?_ ?_
      · go_simp
        try rfl
      refine (night_any N b0 b1 r0 r1 _ _ _ _ n (by omega) V1).mono ?_
      rintro e V2 ⟨rfl, hb2⟩
      refine ⟨_, rfl, ?_⟩
      refine hK.out _ _ ⟨blk_below hHeld.1 hb2, blk_below hHeld.2 hb2⟩ (fun hHeld2 => ?_)
      clear hK K
      refine normA 27 ?_
      refine oneA 4 (some 28) (fun K hK => ?_)
      refine call_ 66 #[.agg (encT T).toArray, .int .i64 (1 + n), .int .i64 0] (by rfl) rfl ?_ ?_
      · go_simp
        try rfl
      refine (HBT.out V2).mono ?_
      rintro e V3 ⟨rfl, hb3⟩
      refine ⟨_, rfl, ?_⟩
      refine hK.out _ _ ⟨blk_below hHeld2.1 hb3, blk_below hHeld2.2 hb3⟩ (fun hHeld3 => ?_)
      clear hK K
      refine normA 28 ?_
      have hz3 := blk_below (blk_below hz0 hb2) hb3
      obtain ⟨V4, hP4, hr4⟩ := store_ex (ty := 23) (vs := #[.int .i64 (-(T 0 (1 + n.toNat))), .int .i64 (T (1 + n.toNat) 0)]) hz3 rfl (by kernel_rfl) (by simp [Value.oneCell'])
      have hgne : g ≠ w.heap.size + 1 ∧ g' ≠ w.heap.size + 1 := by omega
      refine oneA 5 none (fun K hK => ?_)
      refine skip_ (w1 := V4) rfl rfl (hr4 _ _ _ _ rfl rfl rfl) ?_
      refine hK.out _ _ ⟨hP4.blk hHeld3.1 hgne.1, hP4.blk hHeld3.2 hgne.2⟩ (fun hHeld4 => ?_)
      clear hK K
      refine pureA 6 5 ?_
      refine done_ (done_of HT_.out (by kernel_rfl)) ?_
      clear HT_ HW_ hHeld hHeld2 hHeld3 hHeld4
      refine calm_normal ?_
      have h4 := hP4.here
      go_wp2_with fail
      refine bodyPost_ret (results_ct rfl _ _ (w.heap.size + 1) 23 #[.int .i64 (-(T 0 (1 + n.toNat))), .int .i64 (T (1 + n.toNat) 0)] (0, 0) _ rfl h4 Tryd.underlying23 rfl (by kernel_rfl)) rfl ?_
      rw [← HT.out]
      exact ⟨rfl, ((below_call hb1 hb2).trans (hb3.mono (below_call hb1 hb2).size)).trans (hP4.below (by omega))⟩
    · clear hG hgC hgC'
      go_wp2_with (refine wpList_store_blk rfl rfl rfl rfl hS2 rfl (by kernel_rfl) (by simp [Value.oneCell']) ?_; intro W9 hP9)
      refine bodyPost_ret (results_ct rfl _ _ (w.heap.size + 1) 23 #[.int .i64 0, .int .i64 0] (0, 0) _ rfl hP9.here Tryd.underlying23 rfl (by kernel_rfl)) rfl ?_
      exact ⟨rfl, hbW.trans (hP9.below (by omega))⟩
end Go.Proofs.YtohbeninpmmmpaaDoor
end

section
/- Worst. -/
set_option linter.unusedSimpArgs false
set_option linter.unusedVariables false
namespace Go.Proofs.YtohbeninpmmmpaaDoor
open Go.RowKit Go.Proofs.YtohbeninpmmmpaaDoorW.PrintWords Go.Proofs.YtohbeninpmmmpaaDoorW.PrintLast Go.Proofs.YtohbeninpmmmpaaDoorW.PrintMore TrydX.X
attribute [local go_sem] Oper.semAt_some
def worst7T : Bool × List (List Nat × List Nat) := (true, [([], []), ([], []), ([], []), ([1, 2], [1, 2]), ([0, 3, 3], [0, 3]), ([], []), ([5, 4, 4, 0, 1, 2, 3, 4, 5], [4, 5])])
def worst7B : List Nat := [0, 0, 0, 6, 15, 0, 63]
theorem worst7_tab : rtab .any (opsOf Tryd.f36 7) = worst7T := by kernel_rfl
theorem worst7_bits : waitsOk worst7T.2 worst7B = true := by kernel_rfl
def worst9T : Bool × List (List Nat × List Nat) := (true, [([], []), ([], []), ([1], [1]), ([], []), ([3], [3]), ([2, 4], [2, 4]), ([0, 0], [0]), ([5, 6, 0, 1, 2, 3, 4, 5, 6], [5])])
def worst9B : List Nat := [0, 0, 2, 0, 8, 30, 1, 127]
theorem worst9_tab : rtab .any (opsOf Tryd.f36 9) = worst9T := by kernel_rfl
theorem worst9_bits : waitsOk worst9T.2 worst9B = true := by kernel_rfl

theorem alloc2_new (w : World) (o o' : Obj) : ((w.alloc o).alloc o').heap[w.heap.size + 1]? = some o' := by
  have h := blk_new (w.alloc o) o'
  rwa [World.size_alloc] at h
theorem storeCells_ex {w : World} {b : Nat} {t : TypeId} {cs vs : Array Value} (hB : w.heap[b]? = some (.cells cs t (0, 0))) (hl : vs.size = cs.size) (h1 : vs.all (·.oneCell') = true) :
    ∃ W, Put b (.cells vs t (0, 0)) w W ∧ (storeCells ⟨b, 0, none⟩ vs.toList).run Tryd.prog w = .ok () W := by
  refine ⟨_, by have := put_setCells (vs := vs.toList) hB (by simpa using hl); simpa using this, ?_⟩
  have ht := there_blk (n := vs.toList.length) hB (by simp; omega)
  have h := run_storeCells_cells (P := Tryd.prog) b 0 vs.toList 0 w (fun j hj => by have := (ht j hj).1; simpa using this) (fun j hj => by have := (ht j hj).2; simpa using this) (fun v hv => by
    have := Array.all_eq_true'.1 h1 v (Array.mem_toList_iff.1 hv)
    exact this)
  simpa using h
/-- The worst of some nights, and how wide. -/
def worstTo (T : Tb) : Nat → Int × Int
  | 0 => (0, 0)
  | n + 1 => if (worstTo T n).2 < T (1 + n) 0 + T 0 (1 + n) then ((n : Int), T (1 + n) 0 + T 0 (1 + n)) else worstTo T n
def worstF (T : Tb) (n : Nat) (err : Int) : (Int × Int) × Int := if err = 0 then (if (worstTo T n).2 = 0 then ((0, 0), 4) else (worstTo T n, 0)) else ((0, 0), err)
set_option maxRecDepth 100000 in
set_option maxHeartbeats 8000000 in
theorem Worst_any (N b0 b1 r0 r1 : Int) (A5 : Option Addr) (c5 : Nat) (l5 : List S23) (A6 : Option Addr) (c6 : Nat) (l6 : List S23) (A7 : Option Addr) (c7 : Nat) (l7 : List S63)
    (w : World) (hK : Kinds w) (h5 : Kd.C k23 w A5 l5.length l5) (hc5 : l5.length ≤ c5) (h6 : Kd.C k23 w A6 l6.length l6) (hc6 : l6.length ≤ c6) (h7 : Kd.C k63 w A7 l7.length l7) (hc7 : l7.length ≤ c7)
    (hl : l5.length ≤ 4611686018427387904 ∧ l6.length ≤ 4611686018427387904 ∧ l7.length ≤ 4611686018427387904) (err : Int) (herr : askE N b0 b1 r0 r1 l5 l6 l7 true = err) (r1' r2' r3' : Int) (hr : worstF (told N b0 b1 r0 r1 l5 l6 l7 []) N.toNat err = ((r1', r2'), r3')) :
    Calls Tryd.prog 36 #[.agg #[.int .i64 N, .int .i64 b0, .int .i64 b1, .int .i64 r0, .int .i64 r1, .slice A5 l5.length c5, .slice A6 l6.length c6, .slice A7 l7.length c7]] w fun e w' => e = .returned (.tuple #[.int .i64 r1', .int .i64 r2', .int .i64 r3']) ∧ Below w.heap.size w w' := by
  have hxx := blk_new w (.cells #[.int .i64 N, .int .i64 b0, .int .i64 b1, .int .i64 r0, .int .i64 r1, .slice A5 l5.length c5, .slice A6 l6.length c6, .slice A7 l7.length c7] 27)
  have hb0 : Below w.heap.size w (w.alloc (.cells #[.int .i64 N, .int .i64 b0, .int .i64 b1, .int .i64 r0, .int .i64 r1, .slice A5 l5.length c5, .slice A6 l6.length c6, .slice A7 l7.length c7] 27)) := (Below.refl _ _).alloc (Nat.le_refl _) _
  have hask := asked_any N b0 b1 r0 r1 A5 c5 l5 A6 c6 l6 A7 c7 l7 true _ (hK.below hb0) (Kd.C_below h5 hb0) hc5 (Kd.C_below h6 hb0) hc6 (Kd.C_below h7 hb0) hc7 hl
  rw [herr] at hask
  have HERR := Lib.hid herr
  have HR := Lib.hid hr
  clear herr hr hK
  by_cases he : err = 0
  · obtain ⟨hBk, _, hcan⟩ := ask0 (HERR.out.trans he)
    subst he
    have hN8 := hBk.n
    obtain ⟨T, hT⟩ : ∃ T, T = told N b0 b1 r0 r1 l5 l6 l7 [] := ⟨_, rfl⟩
    have hnear : ∀ k : Nat, (k : Int) < N → (-60000 ≤ T (1 + k) 0 ∧ T (1 + k) 0 ≤ 60000) ∧ (-60000 ≤ T 0 (1 + k) ∧ T 0 (1 + k) ≤ 60000) := fun k hk => by
      have hu : Used N l5 l6 (1 + k) := .inr (.inl ⟨by omega, by omega⟩)
      rw [hT]
      exact ⟨told_near hBk [] hcan hu (.inl rfl), told_near hBk [] hcan (.inl rfl) hu⟩
    have HNEAR := Lib.hid hnear
    have HT := Lib.hid hT
    clear hnear hBk hcan hT
    go_enter Tryd.func36, Tryd.ntmps36
    go_wp2_with (first | (refine wpList_load_row rfl 27 _ rfl w.heap.size rfl 27 #[.int .i64 N, .int .i64 b0, .int .i64 b1, .int .i64 r0, .int .i64 r1, .slice A5 l5.length c5, .slice A6 l6.length c6, .slice A7 l7.length c7] (0, 0) _ hxx Tryd.underlying27 rfl (by kernel_rfl) ?_) | (go_at_call 65; refine hask.mono ?_; rintro e w2 ⟨bv, t', rfl, hb2, hbv, hz⟩; obtain ⟨m, hm, hbe, ht', hM⟩ := hz rfl; rw [← HT.out] at ht'; subst ht'; have hbe2 : bv = #[.int .i64 N, .int .i64 b0, .int .i64 b1, .int .i64 r0, .int .i64 r1, .slice A5 l5.length c5, .slice A6 l6.length c6, .slice A7 l7.length c7, .map (some m)] := (Value.agg.inj hbe); subst hbe2; clear hbe hz hbv; obtain ⟨W4, hP4, hst4⟩ := storeCells_ex (b := w2.heap.size + 1) (vs := (encT t').toArray) (alloc2_new w2 (.cells #[.int .i64 N, .int .i64 b0, .int .i64 b1, .int .i64 r0, .int .i64 r1, .slice A5 l5.length c5, .slice A6 l6.length c6, .slice A7 l7.length c7, .map (some m)] 80) (.cells Tryd.zeroCells91 91)) (by rw [zeroCells_is]; simp [encT_length]) (all_oneCell_toArray (encT_one t')); simp only [List.toList_toArray] at hst4; have hx2 := blk_below hxx hb2; have hlx2 : w.heap.size < w2.heap.size := blk_lt hx2; have hx4 : W4.heap[w.heap.size]? = some (.cells #[.int .i64 N, .int .i64 b0, .int .i64 b1, .int .i64 r0, .int .i64 r1, .slice A5 l5.length c5, .slice A6 l6.length c6, .slice A7 l7.length c7] 27 (0, 0)) := hP4.blk (blk_alloc (blk_alloc hx2 _) _) (by omega); have hcN : W4.cell? ⟨w.heap.size, 0, none⟩ = some (.int .i64 N) := (blk_cell hx4 0).trans rfl))
    have hb3 := below_call hb0 hb2
    have hb4 : Below w.heap.size w W4 := hb3.trans (((((Below.refl w2.heap.size w2).alloc (Nat.le_refl _) (.cells #[.int .i64 N, .int .i64 b0, .int .i64 b1, .int .i64 r0, .int .i64 r1, .slice A5 l5.length c5, .slice A6 l6.length c6, .slice A7 l7.length c7, .map (some m)] 80)).alloc (by simp) (.cells Tryd.zeroCells91 91)).trans (hP4.below (by omega))).mono hb3.size)
    have hG4 : W4.heap[w2.heap.size]? = some (.cells #[.int .i64 N, .int .i64 b0, .int .i64 b1, .int .i64 r0, .int .i64 r1, .slice A5 l5.length c5, .slice A6 l6.length c6, .slice A7 l7.length c7, .map (some m)] 80 (0, 0)) := hP4.blk (blk_alloc (blk_new w2 _) _) (by omega)
    have hT4 := hP4.here
    have HB4 := Lib.hid hb4
    clear hb3 hb2 hst4 hP4 hask hxx hb0 hM
    go_loopw [2, 3, 20] (fun v2 v3 i wr => ∃ k : Nat, k ≤ N.toNat ∧ i = .int .i64 k ∧ v2 = .int .i64 (worstTo t' k).1 ∧ v3 = .int .i64 (worstTo t' k).2 ∧ Below W4.heap.size W4 wr) (fun _ _ i _ => N.toNat - (intOf i).toNat)
    case atStart => exact ⟨0, Nat.zero_le _, rfl, rfl, rfl, Below.refl _ _⟩
    case round =>
      obtain ⟨k, hk, rfl, rfl, rfl, hBW⟩ := hrel
      obtain ⟨p, hp⟩ : ∃ p, p = (worstTo t' k).1 := ⟨_, rfl⟩
      obtain ⟨q0, hq0⟩ : ∃ q0, q0 = (worstTo t' k).2 := ⟨_, rfl⟩
      rw [← hp, ← hq0]
      have HP := Lib.hid hp
      have HQ := Lib.hid hq0
      clear hp hq0
      by_cases hlt : k < N.toNat
      · have hlt1 : (k : Int) < N := by omega
        have hG5 := blk_below hG4 hBW
        have hT5 := blk_below hT4 hBW
        have HBW := Lib.hid hBW
        have hk18 : (1 + k : Nat) < 17 := by omega
        have hnk := HNEAR.out k hlt1
        have hnn : ((1 + k : Nat) : Int) = 1 + (k : Int) := by omega
        have hbt := fun (W2 : World) => between_any t' (1 + k) 0 hk18 (by omega) (by omega) W2
        rw [hnn] at hbt
        have HBT := Lib.hid hbt
        have HNK := Lib.hid hnk
        clear hbt hnk hBW hnn
        go_wp2_with fail
        refine wp_calm ?_
        refine start_ (n := 7) (S := fun w' => w'.heap[w2.heap.size]? = some (.cells #[.int .i64 N, .int .i64 b0, .int .i64 b1, .int .i64 r0, .int .i64 r1, .slice A5 l5.length c5, .slice A6 l6.length c6, .slice A7 l7.length c7, .map (some m)] 80 (0, 0)) ∧ w'.heap[w2.heap.size + 1]? = some (.cells (encT t').toArray 91 (0, 0))) (ds := []) #[false, false, false, false, false, false, false] (by kernel_rfl) rfl rfl ⟨blk_drew hG5, blk_drew hT5⟩ (fun hHeld => ?_)
        refine with_tabW worst7_tab worst7_bits (fun HT_ HW_ => ?_)
        have hb1 : Below W4.heap.size W4 wr.drew := HBW.out.drew
        generalize wr.drew = V1 at hHeld hb1 ⊢
        have hlate0 : w2.heap.size < V1.heap.size ∧ w2.heap.size + 1 < V1.heap.size := ⟨blk_lt hHeld.1, blk_lt hHeld.2⟩
        refine takeA 0 23 rfl rfl (by rintro w' ⟨s0, s1⟩; exact exec_load_blk s1 rfl rfl Tryd.underlying91 rfl (size91a t')) ?_
        refine takeA 1 24 rfl rfl (by rintro w' ⟨s0, s1⟩; exact exec_load_blk s0 rfl rfl Tryd.underlying80 rfl (by kernel_rfl)) ?_
        refine pureA 2 25 ?_
        refine any_upto (m := 6) (r := 1) (Lend := #[true, true, true, true, true, true, false]) (fun listed a W => ∃ (x : Nat → Value), a = { tmps := #[.agg #[.int .i64 N, .int .i64 b0, .int .i64 b1, .int .i64 r0, .int .i64 r1, .slice A5 l5.length c5, .slice A6 l6.length c6, .slice A7 l7.length c7], .pointer (some ⟨w.heap.size, 0, none⟩), .int .i64 p, .int .i64 q0, .int .i64 0, .pointer (some ⟨w2.heap.size, 0, none⟩), .pointer (some ⟨w2.heap.size + 1, 0, none⟩), .int .i64 (k : Int), x 8, .tuple #[.agg #[.int .i64 N, .int .i64 b0, .int .i64 b1, .int .i64 r0, .int .i64 r1, .slice A5 l5.length c5, .slice A6 l6.length c6, .slice A7 l7.length c7, .map (some m)], .agg (encT t').toArray, .int .i64 0], .agg #[.int .i64 N, .int .i64 b0, .int .i64 b1, .int .i64 r0, .int .i64 r1, .slice A5 l5.length c5, .slice A6 l6.length c6, .slice A7 l7.length c7], .tuple #[.agg #[.int .i64 N, .int .i64 b0, .int .i64 b1, .int .i64 r0, .int .i64 r1, .slice A5 l5.length c5, .slice A6 l6.length c6, .slice A7 l7.length c7, .map (some m)], .agg (encT t').toArray, .int .i64 0], .agg #[.int .i64 N, .int .i64 b0, .int .i64 b1, .int .i64 r0, .int .i64 r1, .slice A5 l5.length c5, .slice A6 l6.length c6, .slice A7 l7.length c7, .map (some m)], .agg (encT t').toArray, .int .i64 0, .int .i64 0, .bool false, undef, .pointer (some ⟨w.heap.size, 0, none⟩), .int .i64 N, .int .i64 (k : Int), .bool true, .int .i64 (k : Int), .agg (encT t').toArray, .agg #[.int .i64 N, .int .i64 b0, .int .i64 b1, .int .i64 r0, .int .i64 r1, .slice A5 l5.length c5, .slice A6 l6.length c6, .slice A7 l7.length c7, .map (some m)], .int .i64 (k : Int), x 26, x 27, u28, u29, u30, u31, u32, u33, u34, u35, u36, u37, u38, u39, u40, u41, undef, undef, undef, undef], defers := [] } ∧ (∀ j, j < 3 → listed.getD j false = true) ∧ Below V1.heap.size V1 W ∧ (listed.getD 3 false = true → x 26 = .int .i64 (1 + (k : Int))) ∧ (listed.getD 4 false = true → x 27 = .agg #[.int .i64 (-(t' 0 (1 + k))), .int .i64 (t' (1 + k) 0)]) ∧
          (listed.getD 5 false = true → ∃ q, x 8 = .pointer (some ⟨q, 0, none⟩) ∧ V1.heap.size ≤ q ∧ W.heap[q]? = some (.cells #[.int .i64 0, .int .i64 0] 23 (0, 0)))) (by kernel_rfl) rfl rfl ?step7 ?fin7 4 _ _ _ (closed_of (by kernel_rfl)) (fun j hj => ?late7) ⟨fun j => if j = 8 then u8 else if j = 26 then u26 else u27, rfl, fun j hj => ?early7, Below.refl _ _, (fun h => by cases h), (fun h => by cases h), (fun h => by cases h)⟩ (by decide)
        case late7 =>
          by_cases e : j = 6
          · subst e; rfl
          · exact getD_out (by show 7 ≤ j; omega)
        case early7 =>
          have : j = 0 ∨ j = 1 ∨ j = 2 := by omega
          rcases this with rfl | rfl | rfl <;> rfl
        case step7 =>
          rintro listed a W i o hc ⟨x, rfl, hE, hBW, h3, h4, h9⟩ hi ho hun hpre K hK
          have hs : listed.size = 7 := hc.1
          have hE2 : ∀ j, j < 3 → j ≠ i := fun j hj e => by rw [e] at hj; rw [hE i hj] at hun; cases hun
          have hE3 : ∀ (i : Nat), i < listed.size → ∀ j, j < 3 → (listed.setIfInBounds i true).getD j false = true := fun i hi j hj => by rw [getD_set hi]; split <;> first | rfl | exact hE j hj
          have hS := fun (W' : World) (hb : Below V1.heap.size V1 W') => (⟨blk_below hHeld.1 hb, blk_below hHeld.2 hb⟩ : W'.heap[w2.heap.size]? = some (.cells #[.int .i64 N, .int .i64 b0, .int .i64 b1, .int .i64 r0, .int .i64 r1, .slice A5 l5.length c5, .slice A6 l6.length c6, .slice A7 l7.length c7, .map (some m)] 80 (0, 0)) ∧ W'.heap[w2.heap.size + 1]? = some (.cells (encT t').toArray 91 (0, 0)))
          have hcases : i = 3 ∨ i = 4 ∨ i = 5 := by have := hE2 i; omega
          rcases hcases with rfl | rfl | rfl
          · cases ho
            refine call_ 56 #[(bookV N b0 b1 r0 r1 (.slice A5 l5.length c5) (.slice A6 l6.length c6) (.slice A7 l7.length c7) m), .int .i64 (k : Int)] (by rfl) rfl (by go_simp <;> rfl) ?_
            refine (night_any N b0 b1 r0 r1 _ _ _ _ (k : Int) (by omega) W).mono ?_
            rintro e V2 ⟨rfl, hb2⟩
            have hb := below_call hBW hb2
            refine ⟨_, rfl, hK.out _ _ (hS _ hb) ⟨upd x 26 (.int .i64 (1 + (k : Int))), rfl, hE3 _ (by omega), hb, fun _ => rfl, ?_, ?_⟩⟩
            · rw [getD_set (by omega), if_neg (by decide)]; exact h4
            · rw [getD_set (by omega), if_neg (by decide)]; exact fun h => by obtain ⟨q, q1, q2, q3⟩ := h9 h; exact ⟨q, q1, q2, blk_below q3 hb2⟩
          · cases ho
            have hx := h3 (hpre 3 (by decide))
            refine call_ 66 #[.agg (encT t').toArray, .int .i64 (1 + (k : Int)), .int .i64 0] (by rfl) rfl (by go_simp <;> simp [hx]) ?_
            refine (HBT.out W).mono ?_
            rintro e V3 ⟨rfl, hb3⟩
            have hb := below_call hBW hb3
            refine ⟨_, rfl, hK.out _ _ (hS _ hb) ⟨upd x 27 (.agg #[.int .i64 (-(t' 0 (1 + k))), .int .i64 (t' (1 + k) 0)]), rfl, hE3 _ (by omega), hb, ?_, fun _ => rfl, ?_⟩⟩
            · rw [getD_set (by omega), if_neg (by decide)]; exact h3
            · rw [getD_set (by omega), if_neg (by decide)]; exact fun h => by obtain ⟨q, q1, q2, q3⟩ := h9 h; exact ⟨q, q1, q2, blk_below q3 hb3⟩
          · cases ho
            have hb2 : Below W.heap.size W (W.alloc (.cells #[.int .i64 0, .int .i64 0] 23)) := (Below.refl _ _).alloc (Nat.le_refl _) _
            have hb := below_call hBW hb2
            refine value_ (v := .pointer (some ⟨W.heap.size, 0, none⟩)) (w1 := W.alloc (.cells #[.int .i64 0, .int .i64 0] 23)) rfl rfl (by go_simp; try rfl) ?_
            refine hK.out _ _ (hS _ hb) ⟨upd x 8 (.pointer (some ⟨W.heap.size, 0, none⟩)), rfl, hE3 _ (by omega), hb, ?_, ?_, fun _ => ⟨_, rfl, hBW.size, blk_new W _⟩⟩
            · rw [getD_set (by omega), if_neg (by decide)]; exact h3
            · rw [getD_set (by omega), if_neg (by decide)]; exact h4
        case fin7 =>
          rintro d a W ⟨x, rfl, hE, hBW, h3, h4, h9⟩
          have x26 := h3 rfl
          have x27 := h4 rfl
          obtain ⟨q, x8, hq, hq9⟩ := h9 rfl
          simp only [x26, x27, x8]
          have hbb := below_call hb1 hBW
          obtain ⟨V4, hP4, hr4⟩ := store_ex (ty := 23) (vs := #[.int .i64 (-(t' 0 (1 + k))), .int .i64 (t' (1 + k) 0)]) hq9 rfl (by kernel_rfl) (by simp [Value.oneCell'])
          refine oneA 6 none (fun K hK => ?_)
          refine skip_ (w1 := V4) rfl rfl (hr4 _ _ _ _ rfl rfl rfl) ?_
          refine hK.out _ _ ⟨hP4.blk (blk_below hHeld.1 hBW) (by omega), hP4.blk (blk_below hHeld.2 hBW) (by omega)⟩ (fun hHeld4 => ?_)
          clear hK K
          refine done_ (done_of HT_.out (by kernel_rfl)) ?_
          have hbb := below_call hb1 hBW
          have hz4 := hb1.size
          have hc0 : V4.cell? ⟨q, 0, none⟩ = some (.int .i64 (-(t' 0 (1 + k)))) := (blk_cell hP4.here 0).trans rfl
          have hc1 : V4.cell? ⟨q, 1, none⟩ = some (.int .i64 (t' (1 + k) 0)) := (blk_cell hP4.here 1).trans rfl
          have hB5 : Below W4.heap.size W4 V4 := hbb.trans (hP4.below (by omega))
          obtain ⟨u, hu⟩ : ∃ u, u = t' 0 (1 + k) := ⟨_, rfl⟩
          obtain ⟨v, hv⟩ : ∃ v, v = t' (1 + k) 0 := ⟨_, rfl⟩
          have hnk := HNK.out
          have hq8 := hP4.here
          rw [← hu] at hc0 hnk hq8
          rw [← hv] at hc1 hnk hq8
          have hw0 : IntKind.i64.wrap (v + u) = v + u := IntWalk.i64_in _ (by constructor <;> omega)
          have hw2 : wrap64 (v - -u) = v + u := by rw [Int.sub_neg]; exact IntWalk.wrap64_in _ (by constructor <;> omega)
          have HU := Lib.hid hu
          have HV := Lib.hid hv
          have HB5 := Lib.hid hB5
          clear HT_ HW_ hHeld hHeld4 h3 h4 h9 x26 x27 x8 hu hv hP4 hq9 hr4 hnk hB5 hbb hBW hb1 hE hq
          refine calm_normal ?_
          by_cases hgt : q0 < v + u
          · go_wp2_with fail
            refine wp_calm ?_
            refine start_ (n := 8) (S := fun w' => w'.heap[q]? = some (.cells #[.int .i64 (-u), .int .i64 v] 23 (0, 0))) (ds := []) #[false, false, false, false, false, false, false, false] (by kernel_rfl) rfl rfl (blk_drew hq8) (fun hHeld => ?_)
            refine with_tabW worst9_tab worst9_bits (fun HT_ HW_ => ?_)
            refine pureA 0 35 ?_
            refine pureA 1 36 ?_
            refine takeA 2 37 rfl rfl (by rintro w' s0; exact exec_load_int ((blk_cell s0 1).trans rfl) rfl rfl) ?_
            refine pureA 3 38 ?_
            refine takeA 4 39 rfl rfl (by rintro w' s0; exact exec_load_int ((blk_cell s0 0).trans rfl) rfl rfl) ?_
            refine pureA 5 40 ?_
            refine pureA 6 2 ?_
            refine pureA 7 3 ?_
            refine done_ (done_of HT_.out (by kernel_rfl)) ?_
            try rw [hw2]
            try rw [hw0]
            clear HT_ HW_ hHeld
            refine calm_normal ?_
            go_wp2_with fail
            go_roundw
            case rel =>
              have hs : worstTo t' (k + 1) = ((k : Int), v + u) := by rw [worstTo, ← HU.out, ← HV.out, ← HQ.out, if_pos hgt]
              exact ⟨k + 1, by omega, by go_num, by rw [hs], by rw [hs], HB5.out.drew⟩
            case measure => simp [intOf]; omega
          · go_wp2_with fail
            go_roundw
            case rel =>
              have hs : worstTo t' (k + 1) = worstTo t' k := by rw [worstTo, ← HU.out, ← HV.out, ← HQ.out, if_neg hgt]
              exact ⟨k + 1, by omega, by go_num, by rw [hs, HP.out], by rw [hs, HQ.out], HB5.out⟩
            case measure => simp [intOf]; omega
      · have hge : N ≤ (k : Int) := by omega
        have hkN : k = N.toNat := by omega
        have hre := HR.out
        rw [worstF, if_pos rfl, ← HT.out, ← hkN] at hre
        have HBW := Lib.hid hBW
        by_cases hz : q0 = 0
        · rw [← HQ.out, if_pos hz] at hre
          simp only [Prod.mk.injEq] at hre
          obtain ⟨⟨rfl, rfl⟩, rfl⟩ := hre
          clear hkN hBW
          go_wp2_with fail
          go_ret3
          exact ⟨rfl, below_call HB4.out HBW.out⟩
        · rw [← HQ.out, if_neg hz] at hre
          simp only [Prod.mk.injEq] at hre
          obtain ⟨h1, h2⟩ := hre
          have hpq : p = r1' ∧ q0 = r2' := by rw [HP.out, HQ.out, h1]; exact ⟨rfl, rfl⟩
          obtain ⟨rfl, rfl⟩ := hpq
          subst h2
          clear hkN hBW h1
          go_wp2_with fail
          go_ret3
          exact ⟨rfl, below_call HB4.out HBW.out⟩
  · have hre : ((r1', r2'), r3') = (((0 : Int), (0 : Int)), err) := by rw [← HR.out, worstF, if_neg he]
    simp only [Prod.mk.injEq] at hre
    obtain ⟨⟨rfl, rfl⟩, rfl⟩ := hre
    go_enter Tryd.func36, Tryd.ntmps36
    go_wp2_with (first | (refine wpList_load_row rfl 27 _ rfl w.heap.size rfl 27 #[.int .i64 N, .int .i64 b0, .int .i64 b1, .int .i64 r0, .int .i64 r1, .slice A5 l5.length c5, .slice A6 l6.length c6, .slice A7 l7.length c7] (0, 0) _ hxx Tryd.underlying27 rfl (by kernel_rfl) ?_) | (go_at_call 65; refine hask.mono ?_; rintro e w2 ⟨bv, t', rfl, hb2, hbv, hz⟩; obtain ⟨W3, hP3, hst3⟩ := storeCells_ex (vs := bv) (blk_alloc (blk_new w2 (.cells #[.int .i64 0, .int .i64 0, .int .i64 0, .int .i64 0, .int .i64 0, .slice none 0 0, .slice none 0 0, .slice none 0 0, .map none] 80)) (.cells Tryd.zeroCells91 91)) hbv.1 hbv.2; obtain ⟨W4, hP4, hst4⟩ := storeCells_ex (b := w2.heap.size + 1) (vs := (encT t').toArray) (hP3.blk (alloc2_new w2 _ _) (by omega)) (by rw [zeroCells_is]; simp [encT_length]) (all_oneCell_toArray (encT_one t')); simp only [List.toList_toArray] at hst4; clear hz))
    go_ret3
    refine ⟨rfl, ?_⟩
    have hb3 := below_call hb0 hb2
    have hz3 := hb3.size
    exact (hb3.trans ((((Below.refl w2.heap.size w2).alloc (Nat.le_refl _) _).alloc (by simp) _).mono hz3)).trans ((hP3.below hz3).trans (hP4.below (by omega)))
end Go.Proofs.YtohbeninpmmmpaaDoor
end

section
/- A thing is set to an end that the others leave: the closure of Case. -/
set_option linter.unusedSimpArgs false
set_option linter.unusedVariables false
namespace Go.Proofs.YtohbeninpmmmpaaDoor
open Go.RowKit Go.Proofs.YtohbeninpmmmpaaDoorW.PrintWords Go.Proofs.YtohbeninpmmmpaaDoorW.PrintLast Go.Proofs.YtohbeninpmmmpaaDoorW.PrintMore TrydX.X
attribute [local go_sem] Oper.semAt_some
def set1T : Bool × List (List Nat × List Nat) := (true, [([], []), ([0], [0]), ([], []), ([], []), ([2, 3], [2, 3]), ([1, 4, 4], [1, 4]), ([5, 5, 0, 1, 2, 3, 4, 5], [5])])
def set1B : List Nat := [0, 1, 0, 0, 12, 31, 63]
theorem set1_tab : rtab .any (opsOf Tryd.f73 1) = set1T := by kernel_rfl
theorem set1_bits : waitsOk set1T.2 set1B = true := by kernel_rfl

theorem exec_load_f99 {o : Oper} {a : Act} {w : World} {ta : Operand} {b k : Nat} {v : Value} (hc : w.cell? ⟨b, k, none⟩ = some v) (hop : o.op = .load 99 ta) (ha : a.eval ta = .pointer (some ⟨b, k, none⟩)) : (execOp a.eval o).run Tryd.prog w = .ok (.value v) w := by
  simp only [execOp, hop, ha]
  simp [go_sem, hc]
theorem low_any (x y : Int) (w : World) : Calls Tryd.prog 71 #[.agg #[.int .i64 x, .int .i64 y]] w fun e w' => e = .returned (.int .i64 x) ∧ Below w.heap.size w w' := by
  go_enter Tryd.func71, Tryd.ntmps71
  go_wp2
  go_ret
  exact ⟨rfl, (Below.refl _ _).alloc (Nat.le_refl _) _⟩
theorem high_any (x y : Int) (w : World) : Calls Tryd.prog 72 #[.agg #[.int .i64 x, .int .i64 y]] w fun e w' => e = .returned (.int .i64 y) ∧ Below w.heap.size w w' := by
  go_enter Tryd.func72, Tryd.ntmps72
  go_wp2
  go_ret
  exact ⟨rfl, (Below.refl _ _).alloc (Nat.le_refl _) _⟩
/-- Nothing that was there has changed but two blocks. -/
structure But2 (p q : Nat) (w w' : World) : Prop where
  os : w'.os = w.os
  tape : w'.tape = w.tape
  output : w'.output = w.output
  size : w.heap.size ≤ w'.heap.size
  block : ∀ k, k < w.heap.size → k ≠ p → k ≠ q → w'.heap[k]? = w.heap[k]?
theorem But2.refl (p q : Nat) (w : World) : But2 p q w w := ⟨rfl, rfl, rfl, Nat.le_refl _, fun _ _ _ _ => rfl⟩
theorem But2.trans {p q : Nat} {a b c : World} (h : But2 p q a b) (h' : But2 p q b c) : But2 p q a c :=
  ⟨h'.os.trans h.os, h'.tape.trans h.tape, h'.output.trans h.output, Nat.le_trans h.size h'.size, fun k hk h1 h2 => (h'.block k (Nat.lt_of_lt_of_le hk h.size) h1 h2).trans (h.block k hk h1 h2)⟩
theorem But2.of_below {p q : Nat} {a b : World} (h : Below a.heap.size a b) : But2 p q a b := ⟨h.os, h.tape, h.output, h.size, fun k hk _ _ => h.block k hk⟩
theorem But2.of_grown {p q : Nat} {a b : World} (h : a.grownBy b (some q)) : But2 p q a b := ⟨h.os, h.tape, h.output, h.size, fun k hk _ h2 => h.block k hk (by intro e; injection e with e; exact h2 e)⟩
theorem But2.of_put {p q : Nat} {o : Obj} {a b : World} (h : Put p o a b) : But2 p q a b := ⟨h.os, h.tape, h.output, Nat.le_of_eq h.size.symm, fun k hk h1 _ => h.rest k h1⟩
theorem But2.blk {p q k : Nat} {o : Obj} {a b : World} (h : But2 p q a b) (hk : a.heap[k]? = some o) (h1 : k ≠ p) (h2 : k ≠ q) : b.heap[k]? = some o := (h.block k (blk_lt hk) h1 h2).trans hk
/-- The blocks that the closure of Case looks at. -/
structure SetW (bk : Array Value) (fv : Value) (E T B m : Nat) (es : List Con) (W : World) : Prop where
  e : W.heap[E]? = some (.cells #[fv] 101 (0, 0))
  t : W.heap[T]? = some (.cells (encT (passF (tab0 es))).toArray 91 (0, 0))
  b : W.heap[B]? = some (.cells bk 80 (0, 0))
  pm : PMap W m es
  ne : E ≠ T ∧ E ≠ m ∧ B ≠ T ∧ B ≠ m ∧ T ≠ m ∧ E ≠ B
theorem SetW.below {bk : Array Value} {fv : Value} {E T B m : Nat} {es : List Con} {W W1 : World} (h : SetW bk fv E T B m es W) (hb : Below W.heap.size W W1) : SetW bk fv E T B m es W1 :=
  ⟨blk_below h.e hb, blk_below h.t hb, blk_below h.b hb, h.pm.below hb, h.ne⟩
/-- .. while the table is not yet the map's. -/
structure SetH (bk : Array Value) (fv : Value) (E T B m : Nat) (t : Array Value) (es : List Con) (W : World) : Prop where
  e : W.heap[E]? = some (.cells #[fv] 101 (0, 0))
  t : W.heap[T]? = some (.cells t 91 (0, 0))
  b : W.heap[B]? = some (.cells bk 80 (0, 0))
  pm : PMap W m es
theorem SetH.below {bk : Array Value} {fv : Value} {E T B m : Nat} {t : Array Value} {es : List Con} {W W1 : World} (h : SetH bk fv E T B m t es W) (hb : Below W.heap.size W W1) : SetH bk fv E T B m t es W1 :=
  ⟨blk_below h.e hb, blk_below h.t hb, blk_below h.b hb, h.pm.below hb⟩
set_option maxRecDepth 100000 in
set_option maxHeartbeats 8000000 in
theorem set_any (N b0 b1 r0 r1 : Int) (v5 v6 v7 : Value) (most : Bool) {U : Nat → Prop} (C : List Con) (hR : Ready U C) (i : Nat) (hi : U i) (h0 : i ≠ 0) (E T B m : Nat) (w : World) (hW : SetW #[.int .i64 N, .int .i64 b0, .int .i64 b1, .int .i64 r0, .int .i64 r1, v5, v6, v7, .map (some m)] (.func (.func (if most = true then 72 else 71)) #[] #[]) E T B m (addC [] C) w) :
    Calls Tryd.prog 73 #[.int .i64 (i : Int), .pointer (some ⟨E, 0, none⟩), .pointer (some ⟨T, 0, none⟩), .pointer (some ⟨B, 0, none⟩)] w fun e w' =>
      e = .returned (.int .i64 (endT most (passF (tab0 (addC [] C))) i)) ∧ SetW #[.int .i64 N, .int .i64 b0, .int .i64 b1, .int .i64 r0, .int .i64 r1, v5, v6, v7, .map (some m)] (.func (.func (if most = true then 72 else 71)) #[] #[]) E T B m (boundK (addC [] C) i 0 (endT most (passF (tab0 (addC [] C))) i) (endT most (passF (tab0 (addC [] C))) i) 2) w' ∧ But2 T m w w' := by
  cases most with
  | true =>
    simp only [if_true, Bool.false_eq_true, if_false] at hW ⊢
    have hbd := hR.end_bd true hi
    have hst := hR.step true hi h0
    have hi17 := hR.ok.few i hi
    have hfar : -1000000000000000 ≤ passF (tab0 (addC [] C)) 0 i ∧ passF (tab0 (addC [] C)) 0 i ≤ 1000000000000000 := by
      have := hR.end_bd false hi
      unfold endT at this
      simp at this
      omega
    have hes : boundK (addC [] C) i 0 (endT true (passF (tab0 (addC [] C))) i) (endT true (passF (tab0 (addC [] C))) i) 2 = addC [] (C ++ twoC i 0 (endT true (passF (tab0 (addC [] C))) i) (endT true (passF (tab0 (addC [] C))) i)) := by rw [addC_append, addC_two]
    have hend : passF (tab0 (addC [] C)) i 0 = endT true (passF (tab0 (addC [] C))) i := rfl
    rw [hes]
    obtain ⟨D, hD⟩ : ∃ D, D = C ++ twoC i 0 (endT true (passF (tab0 (addC [] C))) i) (endT true (passF (tab0 (addC [] C))) i) := ⟨_, rfl⟩
    rw [← hD] at hst hes ⊢
    obtain ⟨n, hn⟩ : ∃ n, n = endT true (passF (tab0 (addC [] C))) i := ⟨_, rfl⟩
    rw [← hn] at hbd hend hes ⊢
    obtain ⟨t, ht⟩ : ∃ t, t = passF (tab0 (addC [] C)) := ⟨_, rfl⟩
    have hW1 : SetH #[.int .i64 N, .int .i64 b0, .int .i64 b1, .int .i64 r0, .int .i64 r1, v5, v6, v7, .map (some m)] (.func (.func 72) #[] #[]) E T B m (encT t).toArray (addC [] C) w := ⟨hW.e, by rw [ht]; exact hW.t, hW.b, hW.pm⟩
    have hne := hW.ne
    rw [← ht] at hend hfar
    have HEND := Lib.hid hend
    have HES := Lib.hid hes
    have HST := Lib.hid hst
    have HBD := Lib.hid hbd
    have HFAR := Lib.hid hfar
    have HNE := Lib.hid hne
    have HW0 := Lib.hid hW1
    clear hend hes hst hbd hW hD hn ht hfar hne hW1
    have hbt := fun (W2 : World) => between_any t i 0 hi17 (by omega) HFAR.out W2
    have HBT := Lib.hid hbt
    clear hbt
    go_enter Tryd.func73, Tryd.ntmps73
    go_wp2_with fail
    refine wp_calm ?_
    refine start_ (n := 7) (S := fun w' => w'.heap[E]? = some (.cells #[(.func (.func 72) #[] #[])] 101 (0, 0)) ∧ w'.heap[T]? = some (.cells (encT t).toArray 91 (0, 0))) (ds := []) #[false, false, false, false, false, false, false] (by kernel_rfl) rfl rfl ⟨blk_drew HW0.out.e, blk_drew HW0.out.t⟩ (fun hHeld => ?_)
    refine with_tabW set1_tab set1_bits (fun HT_ HW_ => ?_)
    have hW1 := HW0.out.below (Below.refl _ _).drew
    have hB1 : Below w.heap.size w w.drew := (Below.refl _ _).drew
    generalize w.drew = V1 at hHeld hW1 hB1 ⊢
    refine pureA 0 7 ?_
    refine takeA 1 8 rfl rfl (by rintro w' ⟨s0, s1⟩; exact exec_load_f99 ((blk_cell s0 0).trans rfl) rfl rfl) ?_
    refine takeA 2 9 rfl rfl (by rintro w' ⟨s0, s1⟩; exact exec_load_blk s1 rfl rfl Tryd.underlying91 rfl (size91a t)) ?_
    refine pureA 3 10 ?_
    refine oneA 4 (some 11) (fun K hK => ?_)
    refine call_ 66 #[.agg (encT t).toArray, .int .i64 (i : Int), .int .i64 0] (by rfl) rfl ?_ ?_
    · go_simp
      try rfl
    refine (HBT.out V1).mono ?_
    rintro e V2 ⟨rfl, hb2⟩
    refine ⟨_, rfl, ?_⟩
    have hW2 := hW1.below hb2
    have hB2 := below_call hB1 hb2
    refine hK.out _ _ ⟨hW2.e, hW2.t⟩ (fun hHeld2 => ?_)
    clear hK K hHeld hW1 hB1
    refine normA 11 ?_
    refine oneA 5 (some 12) (fun K hK => ?_)
    refine call_ 72 #[.agg #[.int .i64 (-(t 0 i)), .int .i64 (t i 0)]] (by rfl) rfl ?_ ?_
    · go_simp
      try rfl
    refine (high_any _ _ V2).mono ?_
    rintro e V3 ⟨rfl, hb3⟩
    rw [HEND.out]
    refine ⟨_, rfl, ?_⟩
    have hW3 := hW2.below hb3
    have hB3 := below_call hB2 hb3
    refine hK.out _ _ ⟨hW3.e, hW3.t⟩ (fun hHeld3 => ?_)
    clear hK K hHeld2 hW2 hB2
    refine normA 12 ?_
    refine pureA 6 6 ?_
    refine done_ (done_of HT_.out (by kernel_rfl)) ?_
    have HB3 := Lib.hid hB3
    have hG3 := hW3.b
    have HW3 := Lib.hid hW3
    clear HT_ HW_ hHeld3 hb2 hb3 hW3 hB3
    refine calm_normal ?_
    go_wp2_with (first | (refine wpList_load_row rfl 80 _ rfl B rfl 80 #[.int .i64 N, .int .i64 b0, .int .i64 b1, .int .i64 r0, .int .i64 r1, v5, v6, v7, .map (some m)] (0, 0) _ hG3 Tryd.underlying80 rfl (by kernel_rfl) ?_) | (go_at_call 74; refine (bound_any N b0 b1 r0 r1 v5 v6 v7 m (i : Int) 0 n n (addC [] C) (by have := HBD.out; omega) _ HW3.out.pm).mono ?_; rintro e V4 ⟨rfl, hM4, hg4⟩; rw [HES.out] at hM4; have hG4 := blk_grown hG3 hg4 (by intro e; injection e with e; have := HNE.out; omega); have hT4 := blk_grown HW3.out.t hg4 (by intro e; injection e with e; have := HNE.out; omega); have hE4 := blk_grown HW3.out.e hg4 (by intro e; injection e with e; have := HNE.out; omega); clear hG3) | (refine wpList_load_row rfl 80 _ rfl B rfl 80 #[.int .i64 N, .int .i64 b0, .int .i64 b1, .int .i64 r0, .int .i64 r1, v5, v6, v7, .map (some m)] (0, 0) _ hG4 Tryd.underlying80 rfl (by kernel_rfl) ?_) | (go_at_call 75; refine (solved_any N b0 b1 r0 r1 v5 v6 v7 m (addC [] D) (tabC_bd HST.out.ok) (tabC_twice HST.out.ok) _ hM4).mono ?_; rintro e V5 ⟨⟨t', rfl, ht'⟩, hb5⟩; obtain rfl := ht' HST.out.can; rw [HST.out.can]; obtain ⟨V6, hP6, hst6⟩ := storeCells_ex (b := T) (vs := (encT (passF (tab0 (addC [] D)))).toArray) (blk_below hT4 hb5) (by simp [encT_length]) (all_oneCell_toArray (encT_one _)); simp only [List.toList_toArray] at hst6))
    go_ret
    have hz5 := hb5.size
    have hz4 := hg4.size
    refine ⟨rfl, ⟨hP6.blk (blk_below hE4 hb5) HNE.out.1, hP6.here, hP6.blk (blk_below hG4 hb5) HNE.out.2.2.1, (hM4.below hb5).grown hP6.grown (by intro e; injection e with e; have := HNE.out; omega), HNE.out⟩, ?_⟩
    exact (((But2.of_below HB3.out).trans (But2.of_grown hg4)).trans (But2.of_below hb5)).trans (But2.of_put hP6)
  | false =>
    simp only [if_true, Bool.false_eq_true, if_false] at hW ⊢
    have hbd := hR.end_bd false hi
    have hst := hR.step false hi h0
    have hi17 := hR.ok.few i hi
    have hfar : -1000000000000000 ≤ passF (tab0 (addC [] C)) 0 i ∧ passF (tab0 (addC [] C)) 0 i ≤ 1000000000000000 := by
      have := hR.end_bd false hi
      unfold endT at this
      simp at this
      omega
    have hes : boundK (addC [] C) i 0 (endT false (passF (tab0 (addC [] C))) i) (endT false (passF (tab0 (addC [] C))) i) 2 = addC [] (C ++ twoC i 0 (endT false (passF (tab0 (addC [] C))) i) (endT false (passF (tab0 (addC [] C))) i)) := by rw [addC_append, addC_two]
    have hend : -(passF (tab0 (addC [] C)) 0 i) = endT false (passF (tab0 (addC [] C))) i := rfl
    rw [hes]
    obtain ⟨D, hD⟩ : ∃ D, D = C ++ twoC i 0 (endT false (passF (tab0 (addC [] C))) i) (endT false (passF (tab0 (addC [] C))) i) := ⟨_, rfl⟩
    rw [← hD] at hst hes ⊢
    obtain ⟨n, hn⟩ : ∃ n, n = endT false (passF (tab0 (addC [] C))) i := ⟨_, rfl⟩
    rw [← hn] at hbd hend hes ⊢
    obtain ⟨t, ht⟩ : ∃ t, t = passF (tab0 (addC [] C)) := ⟨_, rfl⟩
    have hW1 : SetH #[.int .i64 N, .int .i64 b0, .int .i64 b1, .int .i64 r0, .int .i64 r1, v5, v6, v7, .map (some m)] (.func (.func 71) #[] #[]) E T B m (encT t).toArray (addC [] C) w := ⟨hW.e, by rw [ht]; exact hW.t, hW.b, hW.pm⟩
    have hne := hW.ne
    rw [← ht] at hend hfar
    have HEND := Lib.hid hend
    have HES := Lib.hid hes
    have HST := Lib.hid hst
    have HBD := Lib.hid hbd
    have HFAR := Lib.hid hfar
    have HNE := Lib.hid hne
    have HW0 := Lib.hid hW1
    clear hend hes hst hbd hW hD hn ht hfar hne hW1
    have hbt := fun (W2 : World) => between_any t i 0 hi17 (by omega) HFAR.out W2
    have HBT := Lib.hid hbt
    clear hbt
    go_enter Tryd.func73, Tryd.ntmps73
    go_wp2_with fail
    refine wp_calm ?_
    refine start_ (n := 7) (S := fun w' => w'.heap[E]? = some (.cells #[(.func (.func 71) #[] #[])] 101 (0, 0)) ∧ w'.heap[T]? = some (.cells (encT t).toArray 91 (0, 0))) (ds := []) #[false, false, false, false, false, false, false] (by kernel_rfl) rfl rfl ⟨blk_drew HW0.out.e, blk_drew HW0.out.t⟩ (fun hHeld => ?_)
    refine with_tabW set1_tab set1_bits (fun HT_ HW_ => ?_)
    have hW1 := HW0.out.below (Below.refl _ _).drew
    have hB1 : Below w.heap.size w w.drew := (Below.refl _ _).drew
    generalize w.drew = V1 at hHeld hW1 hB1 ⊢
    refine pureA 0 7 ?_
    refine takeA 1 8 rfl rfl (by rintro w' ⟨s0, s1⟩; exact exec_load_f99 ((blk_cell s0 0).trans rfl) rfl rfl) ?_
    refine takeA 2 9 rfl rfl (by rintro w' ⟨s0, s1⟩; exact exec_load_blk s1 rfl rfl Tryd.underlying91 rfl (size91a t)) ?_
    refine pureA 3 10 ?_
    refine oneA 4 (some 11) (fun K hK => ?_)
    refine call_ 66 #[.agg (encT t).toArray, .int .i64 (i : Int), .int .i64 0] (by rfl) rfl ?_ ?_
    · go_simp
      try rfl
    refine (HBT.out V1).mono ?_
    rintro e V2 ⟨rfl, hb2⟩
    refine ⟨_, rfl, ?_⟩
    have hW2 := hW1.below hb2
    have hB2 := below_call hB1 hb2
    refine hK.out _ _ ⟨hW2.e, hW2.t⟩ (fun hHeld2 => ?_)
    clear hK K hHeld hW1 hB1
    refine normA 11 ?_
    refine oneA 5 (some 12) (fun K hK => ?_)
    refine call_ 71 #[.agg #[.int .i64 (-(t 0 i)), .int .i64 (t i 0)]] (by rfl) rfl ?_ ?_
    · go_simp
      try rfl
    refine (low_any _ _ V2).mono ?_
    rintro e V3 ⟨rfl, hb3⟩
    rw [HEND.out]
    refine ⟨_, rfl, ?_⟩
    have hW3 := hW2.below hb3
    have hB3 := below_call hB2 hb3
    refine hK.out _ _ ⟨hW3.e, hW3.t⟩ (fun hHeld3 => ?_)
    clear hK K hHeld2 hW2 hB2
    refine normA 12 ?_
    refine pureA 6 6 ?_
    refine done_ (done_of HT_.out (by kernel_rfl)) ?_
    have HB3 := Lib.hid hB3
    have hG3 := hW3.b
    have HW3 := Lib.hid hW3
    clear HT_ HW_ hHeld3 hb2 hb3 hW3 hB3
    refine calm_normal ?_
    go_wp2_with (first | (refine wpList_load_row rfl 80 _ rfl B rfl 80 #[.int .i64 N, .int .i64 b0, .int .i64 b1, .int .i64 r0, .int .i64 r1, v5, v6, v7, .map (some m)] (0, 0) _ hG3 Tryd.underlying80 rfl (by kernel_rfl) ?_) | (go_at_call 74; refine (bound_any N b0 b1 r0 r1 v5 v6 v7 m (i : Int) 0 n n (addC [] C) (by have := HBD.out; omega) _ HW3.out.pm).mono ?_; rintro e V4 ⟨rfl, hM4, hg4⟩; rw [HES.out] at hM4; have hG4 := blk_grown hG3 hg4 (by intro e; injection e with e; have := HNE.out; omega); have hT4 := blk_grown HW3.out.t hg4 (by intro e; injection e with e; have := HNE.out; omega); have hE4 := blk_grown HW3.out.e hg4 (by intro e; injection e with e; have := HNE.out; omega); clear hG3) | (refine wpList_load_row rfl 80 _ rfl B rfl 80 #[.int .i64 N, .int .i64 b0, .int .i64 b1, .int .i64 r0, .int .i64 r1, v5, v6, v7, .map (some m)] (0, 0) _ hG4 Tryd.underlying80 rfl (by kernel_rfl) ?_) | (go_at_call 75; refine (solved_any N b0 b1 r0 r1 v5 v6 v7 m (addC [] D) (tabC_bd HST.out.ok) (tabC_twice HST.out.ok) _ hM4).mono ?_; rintro e V5 ⟨⟨t', rfl, ht'⟩, hb5⟩; obtain rfl := ht' HST.out.can; rw [HST.out.can]; obtain ⟨V6, hP6, hst6⟩ := storeCells_ex (b := T) (vs := (encT (passF (tab0 (addC [] D)))).toArray) (blk_below hT4 hb5) (by simp [encT_length]) (all_oneCell_toArray (encT_one _)); simp only [List.toList_toArray] at hst6))
    go_ret
    have hz5 := hb5.size
    have hz4 := hg4.size
    refine ⟨rfl, ⟨hP6.blk (blk_below hE4 hb5) HNE.out.1, hP6.here, hP6.blk (blk_below hG4 hb5) HNE.out.2.2.1, (hM4.below hb5).grown hP6.grown (by intro e; injection e with e; have := HNE.out; omega), HNE.out⟩, ?_⟩
    exact (((But2.of_below HB3.out).trans (But2.of_grown hg4)).trans (But2.of_below hb5)).trans (But2.of_put hP6)
end Go.Proofs.YtohbeninpmmmpaaDoor
end

section
/- can. -/
set_option linter.unusedSimpArgs false
set_option linter.unusedVariables false
namespace Go.Proofs.YtohbeninpmmmpaaDoor
open Go.RowKit Go.Proofs.YtohbeninpmmmpaaDoorW.PrintWords Go.Proofs.YtohbeninpmmmpaaDoorW.PrintLast Go.Proofs.YtohbeninpmmmpaaDoorW.PrintMore TrydX.X
attribute [local go_sem] Oper.semAt_some
set_option maxRecDepth 100000 in
set_option maxHeartbeats 4000000 in
theorem can_any (N b0 b1 r0 r1 : Int) (A5 : Option Addr) (c5 : Nat) (l5 : List S23) (A6 : Option Addr) (c6 : Nat) (l6 : List S23) (A7 : Option Addr) (c7 : Nat) (l7 : List S63) (Aw : Option Addr) (cw : Nat) (wo : List Int)
    (hB : BookOk N b0 b1 r0 r1 l5 l6 l7) (hwl : wo.length ≤ 100) (w : World) (hK : Kinds w) (h5 : Kd.C k23 w A5 l5.length l5) (h6 : Kd.C k23 w A6 l6.length l6) (h7 : Kd.C k63 w A7 l7.length l7) (hw : Kd.C (Kd.int .i64) w Aw wo.length wo) :
    Calls Tryd.prog 77 #[.agg #[.int .i64 N, .int .i64 b0, .int .i64 b1, .int .i64 r0, .int .i64 r1, .slice A5 l5.length c5, .slice A6 l6.length c6, .slice A7 l7.length c7], .slice Aw wo.length cw] w fun e w' => e = .returned (.bool (canB N b0 b1 r0 r1 l5 l6 l7 wo)) ∧ Below w.heap.size w w' := by
  have hb0 : Below w.heap.size w (w.alloc (.cells #[.int .i64 N, .int .i64 b0, .int .i64 b1, .int .i64 r0, .int .i64 r1, .slice A5 l5.length c5, .slice A6 l6.length c6, .slice A7 l7.length c7] 27)) := (Below.refl _ _).alloc (Nat.le_refl _) _
  have hop := open_any N b0 b1 r0 r1 A5 c5 l5 A6 c6 l6 A7 c7 l7 Aw cw wo hB hwl _ (hK.below hb0) (Kd.C_below h5 hb0) (Kd.C_below h6 hb0) (Kd.C_below h7 hb0) (Kd.C_below hw hb0)
  have hxx := blk_new w (.cells #[.int .i64 N, .int .i64 b0, .int .i64 b1, .int .i64 r0, .int .i64 r1, .slice A5 l5.length c5, .slice A6 l6.length c6, .slice A7 l7.length c7] 27)
  have HB := Lib.hid hB
  clear hB
  cases hcan : canB N b0 b1 r0 r1 l5 l6 l7 wo with
  | _ =>
    have HCAN := Lib.hid hcan
    clear hcan
    go_enter Tryd.func77, Tryd.ntmps77
    go_wp2_with (first | (refine wpList_load_row rfl 27 _ rfl w.heap.size rfl 27 #[.int .i64 N, .int .i64 b0, .int .i64 b1, .int .i64 r0, .int .i64 r1, .slice A5 l5.length c5, .slice A6 l6.length c6, .slice A7 l7.length c7] (0, 0) _ hxx Tryd.underlying27 rfl (by kernel_rfl) ?_) | (go_at_call 55; refine hop.mono ?_; rintro e w2 ⟨m, hm, rfl, hM2, hb2⟩) | (go_at_call 75; refine (solve_any N b0 b1 r0 r1 l5 l6 l7 _ _ _ m wo HB.out _ hM2).mono ?_; rintro e w3 ⟨⟨t', rfl, ht'⟩, hb3⟩; rw [HCAN.out] at ht' ⊢; clear ht'; obtain ⟨w4, hP4, hst⟩ := store_new w3 t'))
    go_ret
    refine ⟨rfl, ?_⟩
    have h23 := below_call (below_call hb0 hb2) hb3
    exact h23.trans ((((Below.refl w3.heap.size w3).alloc (Nat.le_refl _) (.cells Tryd.zeroCells91 91)).trans (hP4.below (Nat.le_refl _))).mono h23.size)
end Go.Proofs.YtohbeninpmmmpaaDoor
end

section
/- Plain: the first of the least sets. -/
set_option linter.unusedVariables false
namespace Go.Proofs.YtohbeninpmmmpaaDoor

/-- The first of some numbers, in order, that gives something. -/
def firstOf {α : Type} (f : Nat → Option α) : Nat → Nat → Option α
  | _, 0 => none
  | a, n + 1 => match f a with
    | some l => some l
    | none => firstOf f (a + 1) n
theorem firstOf_some {α : Type} {f : Nat → Option α} {l : α} : ∀ (n a : Nat), firstOf f a n = some l → ∃ k, a ≤ k ∧ k < a + n ∧ f k = some l ∧ ∀ j, a ≤ j → j < k → f j = none
  | 0, a, h => by cases h
  | n + 1, a, h => by
    unfold firstOf at h
    cases hf : f a with
    | some x =>
      rw [hf] at h
      exact ⟨a, by omega, by omega, by rw [hf]; exact h, fun j h1 h2 => by omega⟩
    | none =>
      rw [hf] at h
      obtain ⟨k, h1, h2, h3, h4⟩ := firstOf_some n (a + 1) h
      refine ⟨k, by omega, by omega, h3, fun j h5 h6 => ?_⟩
      rcases Nat.lt_or_ge a j with h7 | h7
      · exact h4 j h7 h6
      · obtain rfl : j = a := by omega
        exact hf
theorem firstOf_none {α : Type} {f : Nat → Option α} : ∀ (n a : Nat), firstOf f a n = none → ∀ k, a ≤ k → k < a + n → f k = none
  | 0, a, _, k, h1, h2 => by omega
  | n + 1, a, h, k, h1, h2 => by
    unfold firstOf at h
    cases hf : f a with
    | some x => rw [hf] at h; cases h
    | none =>
      rw [hf] at h
      rcases Nat.lt_or_ge a k with h3 | h3
      · exact firstOf_none n (a + 1) h k h3 (by omega)
      · obtain rfl : k = a := by omega
        exact hf
/-- The first set of so many more numbers, each greater than the one before it, all less than L, with which something can be. -/
def chooseF (L : Nat) (can : List Int → Bool) : Nat → Nat → List Int → Option (List Int)
  | 0, _, s => if can s = true then some s else none
  | d + 1, a, s => firstOf (fun k => chooseF L can d (k + 1) (s ++ [(k : Int)])) a (L - a)
/-- Each number greater than the one before it, from a first one on, all less than L. -/
def Asc (L : Nat) : Nat → List Nat → Prop
  | _, [] => True
  | a, k :: t => a ≤ k ∧ k < L ∧ Asc L (k + 1) t
/-- A list comes before another one of the same length. -/
def Before : List Nat → List Nat → Prop
  | a :: s, b :: t => a < b ∨ (a = b ∧ Before s t)
  | _, _ => False
abbrev ints (t : List Nat) : List Int := t.map fun k : Nat => (k : Int)
theorem choose_some {L : Nat} {can : List Int → Bool} : ∀ (d a : Nat) (s l : List Int), chooseF L can d a s = some l → ∃ t : List Nat, t.length = d ∧ Asc L a t ∧ l = s ++ ints t ∧ can l = true ∧
    ∀ t' : List Nat, t'.length = d → Asc L a t' → Before t' t → can (s ++ ints t') = false
  | 0, a, s, l, h => by
    unfold chooseF at h
    split at h
    · rename_i hc
      cases h
      exact ⟨[], rfl, trivial, by simp, hc, fun t' _ _ h => by cases t' <;> exact h.elim⟩
    · cases h
  | d + 1, a, s, l, h => by
    unfold chooseF at h
    obtain ⟨k, h1, h2, h3, h4⟩ := firstOf_some _ _ h
    obtain ⟨t, g1, g2, g3, g4, g5⟩ := choose_some d (k + 1) _ _ h3
    refine ⟨k :: t, by simp [g1], ⟨h1, by omega, g2⟩, by rw [g3]; simp, g4, ?_⟩
    intro t' hl hA hb
    cases t' with
    | nil => cases hl
    | cons j t' =>
      simp only [List.length_cons, Nat.add_right_cancel_iff] at hl
      rcases hb with hb | ⟨rfl, hb⟩
      · have := choose_none d (j + 1) (s ++ [(j : Int)]) (h4 j hA.1 hb) t' hl hA.2.2
        simpa using this
      · have := g5 t' hl hA.2.2 hb
        simpa using this
where choose_none {L : Nat} {can : List Int → Bool} : ∀ (d a : Nat) (s : List Int), chooseF L can d a s = none → ∀ t : List Nat, t.length = d → Asc L a t → can (s ++ ints t) = false
  | 0, a, s, h, t, hl, _ => by
    unfold chooseF at h
    split at h
    · cases h
    · rename_i hc
      cases t with
      | nil => simpa using hc
      | cons _ _ => cases hl
  | d + 1, a, s, h, t, hl, hA => by
    unfold chooseF at h
    cases t with
    | nil => cases hl
    | cons k t =>
      have h1 := firstOf_none _ _ h k hA.1 (by have := hA.1; have := hA.2.1; omega)
      simp only [List.length_cons, Nat.add_right_cancel_iff] at hl
      have := choose_none d (k + 1) _ h1 t hl hA.2.2
      simpa using this
theorem choose_none {L : Nat} {can : List Int → Bool} (d a : Nat) (s : List Int) (h : chooseF L can d a s = none) (t : List Nat) (hl : t.length = d) (hA : Asc L a t) : can (s ++ ints t) = false := choose_some.choose_none d a s h t hl hA
/-- The fewest that must be left out. -/
def wrongF (L : Nat) (can : List Int → Bool) : Option (List Int) := firstOf (fun many => chooseF L can many 0 []) 0 (L + 1)
theorem wrong_some {L : Nat} {can : List Int → Bool} {l : List Int} (h : wrongF L can = some l) : ∃ t : List Nat, Asc L 0 t ∧ l = ints t ∧ can l = true ∧ ∀ t' : List Nat, Asc L 0 t' → (t'.length < t.length ∨ (t'.length = t.length ∧ Before t' t)) → can (ints t') = false := by
  obtain ⟨m, _, _, h3, h4⟩ := firstOf_some _ _ h
  obtain ⟨t, g1, g2, g3, g4, g5⟩ := choose_some m 0 [] l h3
  refine ⟨t, g2, by simpa using g3, g4, fun t' hA hb => ?_⟩
  rcases hb with hb | ⟨hb, hl⟩
  · have := choose_none t'.length 0 [] (h4 t'.length (by omega) (by omega)) t' rfl hA
    simpa using this
  · have := g5 t' (by omega) hA hl
    simpa using this
theorem asc_range {L : Nat} : ∀ (n a : Nat), a + n = L → Asc L a (List.range' a n)
  | 0, a, h => trivial
  | n + 1, a, h => ⟨Nat.le_refl _, by omega, asc_range n (a + 1) (by omega)⟩
theorem wrong_is {L : Nat} {can : List Int → Bool} (h : can (ints (List.range L)) = true) : ∃ l, wrongF L can = some l := by
  cases hw : wrongF L can with
  | some l => exact ⟨l, rfl⟩
  | none =>
    have h1 := firstOf_none _ _ hw L (by omega) (by omega)
    have h2 := choose_none L 0 [] h1 (List.range' 0 L) (by simp) (asc_range L 0 (by omega))
    rw [List.nil_append, ← List.range_eq_range', h] at h2
    cases h2
end Go.Proofs.YtohbeninpmmmpaaDoor
end

section
/- A number more behind a row that is cut to its length; a row cut so. -/
set_option linter.unusedSimpArgs false
set_option linter.unusedVariables false
namespace Go.Proofs.YtohbeninpmmmpaaDoor
open Go.RowKit Go.Proofs.YtohbeninpmmmpaaDoorW.PrintWords Go.Proofs.YtohbeninpmmmpaaDoorW.PrintLast Go.Proofs.YtohbeninpmmmpaaDoorW.PrintMore TrydX.X
attribute [local go_sem] Oper.semAt_some
theorem exec_cut {o : Oper} {a : Act} {w : World} {s lo mx : Operand} {A : Option Addr} {n c : Nat} (hop : o.op = .slice 28 s none (some lo) (some mx)) (hs : a.eval s = .slice A n c) (hlo : a.eval lo = .int .i64 n) (hmx : a.eval mx = .int .i64 n) (hc : n ≤ c) :
    (execOp a.eval o).run Tryd.prog w = .ok (.value (.slice A n n)) w := by
  simp only [execOp, hop, hs, hlo, hmx, Option.map_some, Option.map_none]
  have h0 : (0 : Int) ≤ (n : Int) := by omega
  have h1 : (n : Int) ≤ (c : Int) := by omega
  cases A <;> simp [go_sem, h0, h1, hc]
theorem append_full (w : World) (A : Option Addr) (xs : List Int) (hC : Kd.C (Kd.int .i64) w A xs.length xs) (hA : A = none → xs.length = 0) (x : Int) (g : Nat) (hx : w.cell? ⟨g, 0, none⟩ = some (.int .i64 x)) (hs : xs.length ≤ 1000) :
    ∃ (A' : Option Addr) (c' : Nat) (w' : World), (∀ (o : Oper) (a : Act) (s y : Operand), o.op = Op.call { callee := Callee.builtin Builtin.append, args := #[s, y], argTypes := #[28, 28] } → o.type = 28 → a.eval s = .slice A xs.length xs.length → a.eval y = .slice (some ⟨g, 0, none⟩) 1 1 → (execOp a.eval o).run Tryd.prog w = .ok (.value (.slice A' (xs ++ [x]).length c')) w') ∧
      (xs ++ [x]).length ≤ c' ∧ (A' ≠ none ∧ ∀ ad, A' = some ad → w.heap.size ≤ ad.block) ∧ Kd.C (Kd.int .i64) w' A' (xs ++ [x]).length (xs ++ [x]) ∧ Below w.heap.size w w' := by
  obtain ⟨i0, hi, hz0, hz1, hz2⟩ := info_parts info3
  have hnews : ∀ j u, [Value.int .i64 x][j]? = some u → w.cell? ((⟨g, 0, none⟩ : Addr).add j) = some u := by
    intro j u hu
    match j with
    | 0 => simp at hu; subst hu; exact hx
    | j + 1 => cases hu
  have hm : maxLen = maxLen := rfl
  have key : ∃ v' w', (Builtin.append_ #[28, 28] 28 #[.slice A xs.length xs.length, .slice (some ⟨g, 0, none⟩) 1 1]).run Tryd.prog w = .ok v' w' ∧ w'.ownsRow w.heap.size 3 1 v' (xs.length + 1) (xs.map (Value.int .i64) ++ [.int .i64 x]) ∧ w.grownBy w' none := by
    cases hAe : A with
    | some b =>
      refine run_append_arg_grows (P := Tryd.prog) w 28 28 3 i0 (.int .i64 0) 1 8 Tryd.underlying28 hi hz0 hz1 hz2 rfl (by decide) b xs.length xs.length (xs.map (Value.int .i64)) (by simp) ?_ ⟨g, 0, none⟩ 1 1 [.int .i64 x] rfl hnews (by omega) (by unfold maxLen; omega) (by omega)
      intro j u hu
      have h2 := Kd.reads_of_C (enc := Value.int .i64) (d := (0 : Int)) (h1 := fun _ => rfl) hC
      have hj : j < xs.length := by
        have := (List.getElem?_eq_some_iff.1 hu).1
        simpa using this
      obtain ⟨ad, e, hc⟩ := h2.2.2 (by omega)
      rw [hAe] at e
      cases e
      have := hc j hj
      rw [this]
      rw [List.getElem?_map, List.getElem?_eq_getElem hj] at hu
      simp only [Option.map_some, Option.some.injEq] at hu
      rw [← hu]
      simp [List.getD_eq_getElem?_getD, hj]
    | none =>
      have h0 := hA hAe
      have hx0 : xs = [] := List.eq_nil_of_length_eq_zero h0
      subst hx0
      obtain ⟨v', w', hrun, r1, r2, _⟩ := run_append_own (P := Tryd.prog) w w.heap.size 28 28 3 i0 (.int .i64 0) 1 8 Tryd.underlying28 hi hz0 hz1 hz2 rfl (by decide) (.slice none 0 0) 0 [] (World.ownsRow_nil w _ 3 1) ⟨g, 0, none⟩ 1 1 [.int .i64 x] rfl hnews (by simp [Value.oneCell']) (by unfold maxLen; omega) (by omega) (Nat.le_refl _)
      exact ⟨v', w', hrun, by simpa using r1, r2⟩
  obtain ⟨v', w', hrun, hown, hgrow⟩ := key
  rcases hown.2 with ⟨_, h0⟩ | ⟨g', cap, cur, rfl, hb, _, hcap, _⟩
  · omega
  · refine ⟨some ⟨g', 0, none⟩, cap, w', ?_, by simpa using hcap, ⟨(fun h => by cases h), fun ad e => by cases e; exact hb⟩, ?_, ⟨hgrow.os, hgrow.tape, hgrow.output, hgrow.size, fun k hk => hgrow.block k hk (fun h => by cases h)⟩⟩
    · intro o a s y hop hty hs' hy
      simp [execOp, hop, hty, resolve, invoke, builtin, hs', hy, hrun, Result.andThen]
    · refine Kd.C_of_reads (d := (0 : Int)) (h1 := fun _ => rfl) ⟨rfl, by simp; omega, fun hn => ⟨⟨g', 0, none⟩, rfl, fun j hj => ?_⟩⟩
      rw [Addr.add_mid, Nat.zero_add]
      have hj2 : j < xs.length + 1 := by simpa using hj
      have := hown.cellAt j (by omega)
      rw [this]
      rcases Nat.lt_or_ge j xs.length with h | h
      · rw [List.getElem?_append_left (by simpa using h), List.getElem?_map, List.getElem?_eq_getElem h]
        simp [List.getD_eq_getElem?_getD, List.getElem?_append_left h, h]
      · obtain rfl : j = xs.length := by omega
        rw [List.getElem?_append_right (by simp)]
        simp [List.getD_eq_getElem?_getD]
end Go.Proofs.YtohbeninpmmmpaaDoor
end

section
/- The spans of all things, in order. -/
set_option linter.unusedSimpArgs false
set_option linter.unusedVariables false
namespace Go.Proofs.YtohbeninpmmmpaaDoor
open Go.RowKit Go.Proofs.YtohbeninpmmmpaaDoorW.PrintWords Go.Proofs.YtohbeninpmmmpaaDoorW.PrintLast Go.Proofs.YtohbeninpmmmpaaDoorW.PrintMore TrydX.X
attribute [local go_sem] Oper.semAt_some
def spans5T : Bool × List (List Nat × List Nat) := (true, [([], []), ([], []), ([], []), ([], []), ([2, 3], [2, 3]), ([1, 4, 4], [1, 4]), ([5], [5]), ([0, 6, 5], [0, 6]), ([7, 7, 0, 1, 2, 3, 4, 5, 6, 7], [0, 7])])
def spans5B : List Nat := [0, 0, 0, 0, 12, 30, 62, 127, 255]
theorem spans5_tab : rtab .any (opsOf Tryd.f81 5) = spans5T := by kernel_rfl
theorem spans5_bits : waitsOk spans5T.2 spans5B = true := by kernel_rfl
def spans10T : Bool × List (List Nat × List Nat) := (true, [([], []), ([], []), ([], []), ([], []), ([2, 3], [2, 3]), ([1, 4, 4], [1, 4]), ([5], [5]), ([0, 6, 5], [0, 6]), ([7, 7, 0, 1, 2, 3, 4, 5, 6, 7], [0, 7])])
def spans10B : List Nat := [0, 0, 0, 0, 12, 30, 62, 127, 255]
theorem spans10_tab : rtab .any (opsOf Tryd.f81 10) = spans10T := by kernel_rfl
theorem spans10_bits : waitsOk spans10T.2 spans10B = true := by kernel_rfl
def spans15T : Bool × List (List Nat × List Nat) := (true, [([], []), ([], []), ([], []), ([], []), ([2, 3], [2, 3]), ([1, 4, 4], [1, 4]), ([5], [5]), ([0, 6, 5], [0, 6]), ([7, 7, 0, 1, 2, 3, 4, 5, 6, 7], [0, 7])])
def spans15B : List Nat := [0, 0, 0, 0, 12, 30, 62, 127, 255]
theorem spans15_tab : rtab .any (opsOf Tryd.f81 15) = spans15T := by kernel_rfl
theorem spans15_bits : waitsOk spans15T.2 spans15B = true := by kernel_rfl

theorem alloc2_new81 (w : World) (o o' : Obj) : ((w.alloc o).alloc o').heap[w.heap.size + 1]? = some o' := by
  have h := blk_new (w.alloc o) o'
  rwa [World.size_alloc] at h
def spanT (T : Tb) (i : Nat) : S23 := ⟨-(T 0 i), T i 0⟩
def spansF (T : Tb) (N : Int) (n5 n6 : Nat) : List S23 := ((([] : List S23) ++ (List.range N.toNat).map fun j => spanT T (1 + j)) ++ (List.range n5).map fun j => spanT T (9 + j)) ++ (List.range n6).map fun j => spanT T (13 + j)
def cs23 (xs : List S23) : List Value := xs.flatMap fun s => [.int .i64 s.f0, .int .i64 s.f1]
theorem cs23_append (xs ys : List S23) : cs23 (xs ++ ys) = cs23 xs ++ cs23 ys := List.flatMap_append
theorem cs23_length : ∀ xs : List S23, (cs23 xs).length = xs.length * 2
  | [] => rfl
  | x :: xs => by
    have h := cs23_length xs
    have e : cs23 (x :: xs) = [Value.int .i64 x.f0, Value.int .i64 x.f1] ++ cs23 xs := rfl
    rw [e, List.length_append, h, List.length_cons]
    simp
    omega
theorem cs23_at : ∀ (xs : List S23) (j : Nat) (p : S23), xs[j]? = some p → ((cs23 xs).drop (j * 2)).take 2 = [.int .i64 p.f0, .int .i64 p.f1]
  | x :: xs, 0, p, h => by cases h; rfl
  | x :: xs, j + 1, p, h => by
    have e : cs23 (x :: xs) = [Value.int .i64 x.f0, Value.int .i64 x.f1] ++ cs23 xs := rfl
    rw [e, show (j + 1) * 2 = 2 + j * 2 by omega, ← List.drop_drop]
    exact cs23_at xs j p h
theorem reps23 (w : World) (xs : List S23) : Reps (k23.K w) 2 xs (cs23 xs) := ⟨cs23_length xs, fun j p hj => by rw [cs23_at xs j p hj]; exact k23_mk w p⟩
/-- The world while the spans are laid down. -/
structure SpW (bk bt : Array Value) (w : World) (v : Value) (xs : List S23) (W : World) : Prop where
  bel : Below w.heap.size w W
  b : W.heap[w.heap.size]? = some (.cells bk 80 (0, 0))
  t : W.heap[w.heap.size + 1]? = some (.cells bt 91 (0, 0))
  own : W.ownsRow (w.heap.size + 2) 23 2 v xs.length (cs23 xs)
theorem SpW.below {bk bt : Array Value} {w : World} {v : Value} {xs : List S23} {W W1 : World} (h : SpW bk bt w v xs W) (hb : Below W.heap.size W W1) : SpW bk bt w v xs W1 :=
  ⟨h.bel.trans (hb.mono h.bel.size), blk_below h.b hb, blk_below h.t hb, pw_own_below h.own hb⟩
theorem SpW.push {bk bt : Array Value} {w : World} {v : Value} {xs : List S23} {W : World} (h : SpW bk bt w v xs W) (s : S23) (g : Nat) (hg : W.heap[g]? = some (.cells #[.int .i64 s.f0, .int .i64 s.f1] 23 (0, 0))) (hl : xs.length ≤ 16) :
    ∃ (v' : Value) (W' : World), (∀ (o : Oper) (a : Act) (q y : Operand), o.op = Op.call { callee := Callee.builtin Builtin.append, args := #[q, y], argTypes := #[24, 24] } → o.type = 24 → a.eval q = v → a.eval y = .slice (some ⟨g, 0, none⟩) 1 1 → (execOp a.eval o).run Tryd.prog W = .ok (.value v') W') ∧ SpW bk bt w v' (xs ++ [s]) W' := by
  obtain ⟨i0, hi, hz0, hz1, hz2⟩ := info_parts info23
  have hlt1 := blk_lt h.t
  have hgl := blk_lt hg
  have hnews : ∀ j u, [Value.int .i64 s.f0, Value.int .i64 s.f1][j]? = some u → W.cell? ((⟨g, 0, none⟩ : Addr).add j) = some u := by
    intro j u hu
    match j with
    | 0 => simp at hu; subst hu; exact (blk_cell hg 0).trans rfl
    | 1 => simp at hu; subst hu; exact (blk_cell hg 1).trans rfl
    | j + 2 => cases hu
  obtain ⟨v', w', hrun, hown, hgr, _⟩ := run_append_own (P := Tryd.prog) W (w.heap.size + 2) 24 24 23 i0 (.agg #[(.int .i64 0), (.int .i64 0)]) 2 16 Tryd.underlying24 hi hz0 hz1 hz2 rfl (by decide) v xs.length (cs23 xs) h.own ⟨g, 0, none⟩ 1 1 [.int .i64 s.f0, .int .i64 s.f1] rfl hnews (by simp [Value.oneCell']) (by unfold maxLen; omega) (by omega) (by omega)
  have hlt := h.own.lt
  refine ⟨v', w', fun o a q y hop hty hq hy => by simp [execOp, hop, hty, resolve, invoke, builtin, hq, hy, hrun, Result.andThen], ?_⟩
  refine ⟨⟨hgr.os.trans h.bel.os, hgr.tape.trans h.bel.tape, hgr.output.trans h.bel.output, Nat.le_trans h.bel.size hgr.size, fun k hk => (hgr.block k (Nat.lt_of_lt_of_le hk h.bel.size) (fun e => by have := (hlt k e.symm).1; omega)).trans (h.bel.block k hk)⟩,
    (hgr.block _ (blk_lt h.b) (fun e => by have := (hlt _ e.symm).1; omega)).trans h.b, (hgr.block _ (blk_lt h.t) (fun e => by have := (hlt _ e.symm).1; omega)).trans h.t, ?_⟩
  rw [List.length_append, cs23_append]
  exact hown
theorem SpW.reads {bk bt : Array Value} {w : World} {v : Value} {xs : List S23} {W : World} (h : SpW bk bt w v xs W) : ∃ A c, v = .slice A xs.length c ∧ Kd.C k23 W A xs.length xs ∧ xs.length ≤ c := by
  obtain ⟨A, c, e, hr⟩ := own_reads_row h.own (reps23 W xs) rfl
  refine ⟨A, c, e, hr, ?_⟩
  rcases h.own.2 with ⟨e1, h0⟩ | ⟨g, cap, cur, e1, _, _, hcap, _⟩
  · omega
  · rw [e] at e1
    cases e1
    exact hcap
set_option maxRecDepth 100000 in
set_option maxHeartbeats 8000000 in
theorem spans_any (N b0 b1 r0 r1 : Int) (A5 : Option Addr) (c5 : Nat) (l5 : List S23) (A6 : Option Addr) (c6 : Nat) (l6 : List S23) (v7 : Value) (m : Nat) (T : Tb) (hN : 1 ≤ N ∧ N ≤ 8) (h5 : l5.length ≤ 4) (h6 : l6.length ≤ 4)
    (hT : ∀ i, Used N l5 l6 i → -1000000000000000 ≤ T 0 i ∧ T 0 i ≤ 1000000000000000) (w : World) :
    Calls Tryd.prog 81 #[.agg #[.int .i64 N, .int .i64 b0, .int .i64 b1, .int .i64 r0, .int .i64 r1, .slice A5 l5.length c5, .slice A6 l6.length c6, v7, .map (some m)], .agg (encT T).toArray] w fun e w' => ∃ (A : Option Addr) (c : Nat), e = .returned (.slice A (spansF T N l5.length l6.length).length c) ∧ (spansF T N l5.length l6.length).length ≤ c ∧ Kd.C k23 w' A (spansF T N l5.length l6.length).length (spansF T N l5.length l6.length) ∧ Below w.heap.size w w' := by
  have HB := Lib.hid hT
  clear hT
  go_enter Tryd.func81, Tryd.ntmps81
  go_wp2_with fail
  have hw0 : SpW #[.int .i64 N, .int .i64 b0, .int .i64 b1, .int .i64 r0, .int .i64 r1, .slice A5 l5.length c5, .slice A6 l6.length c6, v7, .map (some m)] (encT T).toArray w (.slice none 0 0) [] ((w.alloc (.cells #[.int .i64 N, .int .i64 b0, .int .i64 b1, .int .i64 r0, .int .i64 r1, .slice A5 l5.length c5, .slice A6 l6.length c6, v7, .map (some m)] 80)).alloc (.cells (encT T).toArray 91)) := by
    refine ⟨?_, blk_alloc (blk_new w _) _, alloc2_new81 w _ _, World.ownsRow_nil _ _ _ _⟩
    repeat with_reducible (first | exact Below.refl _ _ | refine Below.alloc ?_ (by simp <;> omega) _)
  generalize ((w.alloc (.cells #[.int .i64 N, .int .i64 b0, .int .i64 b1, .int .i64 r0, .int .i64 r1, .slice A5 l5.length c5, .slice A6 l6.length c6, v7, .map (some m)] 80)).alloc (.cells (encT T).toArray 91)) = W0 at hw0 ⊢
  have HW0 := Lib.hid hw0
  clear hw0
  have HX0 : Hid (([] : List S23) = []) := Lib.hid rfl

  go_loopw [5, 12] (fun v i wr => ∃ k : Nat, k ≤ N.toNat ∧ i = .int .i64 k ∧ SpW #[.int .i64 N, .int .i64 b0, .int .i64 b1, .int .i64 r0, .int .i64 r1, .slice A5 l5.length c5, .slice A6 l6.length c6, v7, .map (some m)] (encT T).toArray w v (([] : List S23) ++ (List.range k).map fun j => spanT T (1 + j)) wr) (fun _ i _ => N.toNat - (intOf i).toNat)
  case atStart => exact ⟨0, Nat.zero_le _, rfl, by rw [← HX0.out]; simpa using HW0.out⟩
  case round =>
    obtain ⟨k, hk, rfl, hW⟩ := hrel
    obtain ⟨xs, hxs⟩ : ∃ xs, xs = ([] : List S23) ++ (List.range k).map fun j => spanT T (1 + j) := ⟨_, rfl⟩
    rw [← hxs] at hW
    have HXS := Lib.hid hxs
    have HW := Lib.hid hW
    clear HW0 HX0 hxs
    obtain ⟨Av, cv, rfl⟩ := own_slice hW.own
    by_cases hlt : k < N.toNat
    · have hlt1 : (k : Int) < (N : Int) := by omega
      have hk18 : (1 + k : Nat) < 17 := by omega
      have hnn : ((1 + k : Nat) : Int) = 1 + (k : Int) := by omega
      have hbt := fun (W2 : World) => between_any T (1 + k) 0 hk18 (by omega) (HB.out (1 + k) (by unfold Used; omega)) W2
      rw [hnn] at hbt
      have HBT := Lib.hid hbt
      have hG := hW.b
      have hT5 := hW.t
      have hlen : xs.length ≤ 16 := by
        rw [HXS.out]
        simp [List.length_append, List.length_map, List.length_range]
        omega
      clear hbt hnn hW
      go_wp2_with fail
      refine wp_calm ?_
      refine start_ (n := 9) (S := (fun w' => w'.heap[w.heap.size]? = some (.cells #[.int .i64 N, .int .i64 b0, .int .i64 b1, .int .i64 r0, .int .i64 r1, .slice A5 l5.length c5, .slice A6 l6.length c6, v7, .map (some m)] 80 (0, 0)) ∧ w'.heap[w.heap.size + 1]? = some (.cells (encT T).toArray 91 (0, 0)))) (ds := []) #[false, false, false, false, false, false, false, false, false] (by kernel_rfl) rfl rfl ⟨blk_drew hG, blk_drew hT5⟩ (fun hHeld => ?_)
      refine with_tabW spans5_tab spans5_bits (fun HT_ HW_ => ?_)
      have hW1 := HW.out.below (Below.refl _ _).drew
      generalize wr.drew = V1 at hHeld hW1 ⊢
      refine pureA 0 15 ?_
      refine takeA 1 16 rfl rfl (by rintro w' ⟨s0, s1⟩; exact exec_load_blk s1 rfl rfl Tryd.underlying91 rfl (size91a T)) ?_
      refine takeA 2 17 rfl rfl (by rintro w' ⟨s0, s1⟩; exact exec_load_blk s0 rfl rfl Tryd.underlying80 rfl (by kernel_rfl)) ?_
      refine pureA 3 18 ?_
      refine oneA 4 (some 19) (fun K hK => ?_)
      refine call_ 56 #[(bookV N b0 b1 r0 r1 (.slice A5 l5.length c5) (.slice A6 l6.length c6) v7 m), .int .i64 (k : Int)] (by rfl) rfl ?_ ?_
      · go_simp
        try rfl
      refine (night_any N b0 b1 r0 r1 _ _ _ _ (k : Int) (by omega) V1).mono ?_
      rintro e V2 ⟨rfl, hb2⟩
      refine ⟨_, rfl, ?_⟩
      have hW2 := hW1.below hb2
      refine hK.out _ _ ⟨hW2.b, hW2.t⟩ (fun hHeld2 => ?_)
      clear hK K hHeld hW1
      refine normA 19 ?_
      refine oneA 5 (some 20) (fun K hK => ?_)
      refine call_ 66 #[.agg (encT T).toArray, .int .i64 (1 + (k : Int)), .int .i64 0] (by rfl) rfl ?_ ?_
      · go_simp
        try rfl
      refine (HBT.out V2).mono ?_
      rintro e V3 ⟨rfl, hb3⟩
      refine ⟨_, rfl, ?_⟩
      have hW3 := hW2.below hb3
      refine hK.out _ _ ⟨hW3.b, hW3.t⟩ (fun hHeld3 => ?_)
      clear hK K hHeld2 hW2
      refine normA 20 ?_
      have hb4 : Below V3.heap.size V3 (V3.alloc (.cells #[.int .i64 (-(T 0 (1 + k))), .int .i64 (T (1 + k) 0)] 23)) := (Below.refl _ _).alloc (Nat.le_refl _) _
      have hN4 := blk_new V3 (.cells #[.int .i64 (-(T 0 (1 + k))), .int .i64 (T (1 + k) 0)] 23)
      have hW4 := hW3.below hb4
      refine oneA 6 (some 21) (fun K hK => ?_)
      refine value_ (v := .slice (some ⟨V3.heap.size, 0, none⟩) 1 1) (w1 := V3.alloc (.cells #[.int .i64 (-(T 0 (1 + k))), .int .i64 (T (1 + k) 0)] 23)) rfl rfl (by go_simp; try rfl) ?_
      refine hK.out _ _ ⟨hW4.b, hW4.t⟩ (fun hHeld4 => ?_)
      clear hK K hHeld3 hW3
      refine normA 21 ?_
      generalize V3.alloc (.cells #[.int .i64 (-(T 0 (1 + k))), .int .i64 (T (1 + k) 0)] 23) = V4 at hb4 hN4 hW4 hHeld4 ⊢
      obtain ⟨v', V5, hrun, hW5⟩ := hW4.push (spanT T (1 + k)) V3.heap.size hN4 hlen
      refine oneA 7 (some 22) (fun K hK => ?_)
      refine value_ (v := v') (w1 := V5) rfl rfl (hrun _ _ _ _ rfl rfl rfl rfl) ?_
      refine hK.out _ _ ⟨hW5.b, hW5.t⟩ (fun hHeld5 => ?_)
      clear hK K hHeld4 hW4
      refine normA 22 ?_
      refine pureA 8 5 ?_
      refine done_ (done_of HT_.out (by kernel_rfl)) ?_
      have HW5 := Lib.hid hW5
      clear HT_ HW_ hHeld5 hrun hN4 hb4 hb3 hb2 hG hT5 hW5
      refine calm_normal ?_
      go_wp2_with fail
      go_roundw
      case rel =>
        refine ⟨k + 1, by omega, by go_num, ?_⟩
        have h := HW5.out
        rw [HXS.out, List.append_assoc] at h
        rw [List.range_succ, List.map_append]
        exact h
      case measure => simp [intOf]; omega
    · have hkN : k = N.toNat := by omega
      have HX0 : Hid (xs = ([] : List S23) ++ (List.range N.toNat).map fun j => spanT T (1 + j)) := Lib.hid (by have h := HXS.out; rw [hkN] at h; exact h)
      have HW0 : Hid (SpW #[.int .i64 N, .int .i64 b0, .int .i64 b1, .int .i64 r0, .int .i64 r1, .slice A5 l5.length c5, .slice A6 l6.length c6, v7, .map (some m)] (encT T).toArray w (.slice Av xs.length cv) xs wr) := HW
      clear HXS
      rw [show (k : Int) = N by omega]
      have hp5 : wr.cell? ⟨w.heap.size, 5, none⟩ = some (.slice A5 l5.length c5) := (blk_cell hW.b 5).trans rfl
      clear hlt hkN hk HW hW
      go_wp2_with fail
      
      go_loopw [5, 28] (fun v i wr => ∃ k : Nat, k ≤ l5.length ∧ i = .int .i64 k ∧ SpW #[.int .i64 N, .int .i64 b0, .int .i64 b1, .int .i64 r0, .int .i64 r1, .slice A5 l5.length c5, .slice A6 l6.length c6, v7, .map (some m)] (encT T).toArray w v ((([] : List S23) ++ (List.range N.toNat).map fun j => spanT T (1 + j)) ++ (List.range k).map fun j => spanT T (9 + j)) wr) (fun _ i _ => l5.length - (intOf i).toNat)
      case atStart => exact ⟨0, Nat.zero_le _, rfl, by rw [← HX0.out]; simpa using HW0.out⟩
      case round =>
        obtain ⟨k, hk, rfl, hW⟩ := hrel
        obtain ⟨xs, hxs⟩ : ∃ xs, xs = (([] : List S23) ++ (List.range N.toNat).map fun j => spanT T (1 + j)) ++ (List.range k).map fun j => spanT T (9 + j) := ⟨_, rfl⟩
        rw [← hxs] at hW
        have HXS := Lib.hid hxs
        have HW := Lib.hid hW
        clear HW0 HX0 hxs
        obtain ⟨Av, cv, rfl⟩ := own_slice hW.own
        by_cases hlt : k < l5.length
        · have hlt1 : (k : Int) < (l5.length : Int) := by omega
          have hk18 : (9 + k : Nat) < 17 := by omega
          have hnn : ((9 + k : Nat) : Int) = 9 + (k : Int) := by omega
          have hbt := fun (W2 : World) => between_any T (9 + k) 0 hk18 (by omega) (HB.out (9 + k) (by unfold Used; omega)) W2
          rw [hnn] at hbt
          have HBT := Lib.hid hbt
          have hG := hW.b
          have hT5 := hW.t
          have hlen : xs.length ≤ 16 := by
            rw [HXS.out]
            simp [List.length_append, List.length_map, List.length_range]
            omega
          clear hbt hnn hW
          go_wp2_with fail
          refine wp_calm ?_
          refine start_ (n := 9) (S := (fun w' => w'.heap[w.heap.size]? = some (.cells #[.int .i64 N, .int .i64 b0, .int .i64 b1, .int .i64 r0, .int .i64 r1, .slice A5 l5.length c5, .slice A6 l6.length c6, v7, .map (some m)] 80 (0, 0)) ∧ w'.heap[w.heap.size + 1]? = some (.cells (encT T).toArray 91 (0, 0)))) (ds := []) #[false, false, false, false, false, false, false, false, false] (by kernel_rfl) rfl rfl ⟨blk_drew hG, blk_drew hT5⟩ (fun hHeld => ?_)
          refine with_tabW spans10_tab spans10_bits (fun HT_ HW_ => ?_)
          have hW1 := HW.out.below (Below.refl _ _).drew
          generalize wr.drew = V1 at hHeld hW1 ⊢
          refine pureA 0 31 ?_
          refine takeA 1 32 rfl rfl (by rintro w' ⟨s0, s1⟩; exact exec_load_blk s1 rfl rfl Tryd.underlying91 rfl (size91a T)) ?_
          refine takeA 2 33 rfl rfl (by rintro w' ⟨s0, s1⟩; exact exec_load_blk s0 rfl rfl Tryd.underlying80 rfl (by kernel_rfl)) ?_
          refine pureA 3 34 ?_
          refine oneA 4 (some 35) (fun K hK => ?_)
          refine call_ 57 #[(bookV N b0 b1 r0 r1 (.slice A5 l5.length c5) (.slice A6 l6.length c6) v7 m), .int .i64 (k : Int)] (by rfl) rfl ?_ ?_
          · go_simp
            try rfl
          refine (seen_any N b0 b1 r0 r1 _ _ _ _ (k : Int) (by omega) V1).mono ?_
          rintro e V2 ⟨rfl, hb2⟩
          refine ⟨_, rfl, ?_⟩
          have hW2 := hW1.below hb2
          refine hK.out _ _ ⟨hW2.b, hW2.t⟩ (fun hHeld2 => ?_)
          clear hK K hHeld hW1
          refine normA 35 ?_
          refine oneA 5 (some 36) (fun K hK => ?_)
          refine call_ 66 #[.agg (encT T).toArray, .int .i64 (9 + (k : Int)), .int .i64 0] (by rfl) rfl ?_ ?_
          · go_simp
            try rfl
          refine (HBT.out V2).mono ?_
          rintro e V3 ⟨rfl, hb3⟩
          refine ⟨_, rfl, ?_⟩
          have hW3 := hW2.below hb3
          refine hK.out _ _ ⟨hW3.b, hW3.t⟩ (fun hHeld3 => ?_)
          clear hK K hHeld2 hW2
          refine normA 36 ?_
          have hb4 : Below V3.heap.size V3 (V3.alloc (.cells #[.int .i64 (-(T 0 (9 + k))), .int .i64 (T (9 + k) 0)] 23)) := (Below.refl _ _).alloc (Nat.le_refl _) _
          have hN4 := blk_new V3 (.cells #[.int .i64 (-(T 0 (9 + k))), .int .i64 (T (9 + k) 0)] 23)
          have hW4 := hW3.below hb4
          refine oneA 6 (some 37) (fun K hK => ?_)
          refine value_ (v := .slice (some ⟨V3.heap.size, 0, none⟩) 1 1) (w1 := V3.alloc (.cells #[.int .i64 (-(T 0 (9 + k))), .int .i64 (T (9 + k) 0)] 23)) rfl rfl (by go_simp; try rfl) ?_
          refine hK.out _ _ ⟨hW4.b, hW4.t⟩ (fun hHeld4 => ?_)
          clear hK K hHeld3 hW3
          refine normA 37 ?_
          generalize V3.alloc (.cells #[.int .i64 (-(T 0 (9 + k))), .int .i64 (T (9 + k) 0)] 23) = V4 at hb4 hN4 hW4 hHeld4 ⊢
          obtain ⟨v', V5, hrun, hW5⟩ := hW4.push (spanT T (9 + k)) V3.heap.size hN4 hlen
          refine oneA 7 (some 38) (fun K hK => ?_)
          refine value_ (v := v') (w1 := V5) rfl rfl (hrun _ _ _ _ rfl rfl rfl rfl) ?_
          refine hK.out _ _ ⟨hW5.b, hW5.t⟩ (fun hHeld5 => ?_)
          clear hK K hHeld4 hW4
          refine normA 38 ?_
          refine pureA 8 5 ?_
          refine done_ (done_of HT_.out (by kernel_rfl)) ?_
          have HW5 := Lib.hid hW5
          clear HT_ HW_ hHeld5 hrun hN4 hb4 hb3 hb2 hG hT5 hW5
          refine calm_normal ?_
          go_wp2_with fail
          go_roundw
          case rel =>
            refine ⟨k + 1, by omega, by go_num, ?_⟩
            have h := HW5.out
            rw [HXS.out, List.append_assoc] at h
            rw [List.range_succ, List.map_append]
            exact h
          case measure => simp [intOf]; omega
        · have hkN : k = l5.length := by omega
          have HX0 : Hid (xs = (([] : List S23) ++ (List.range N.toNat).map fun j => spanT T (1 + j)) ++ (List.range l5.length).map fun j => spanT T (9 + j)) := Lib.hid (by have h := HXS.out; rw [hkN] at h; exact h)
          have HW0 : Hid (SpW #[.int .i64 N, .int .i64 b0, .int .i64 b1, .int .i64 r0, .int .i64 r1, .slice A5 l5.length c5, .slice A6 l6.length c6, v7, .map (some m)] (encT T).toArray w (.slice Av xs.length cv) xs wr) := HW
          clear HXS
          have hp6 : wr.cell? ⟨w.heap.size, 6, none⟩ = some (.slice A6 l6.length c6) := (blk_cell hW.b 6).trans rfl
          clear hlt hk HW hW
          rw [hkN]
          clear hkN
          go_wp2_with fail
          
          go_loopw [5, 44] (fun v i wr => ∃ k : Nat, k ≤ l6.length ∧ i = .int .i64 k ∧ SpW #[.int .i64 N, .int .i64 b0, .int .i64 b1, .int .i64 r0, .int .i64 r1, .slice A5 l5.length c5, .slice A6 l6.length c6, v7, .map (some m)] (encT T).toArray w v (((([] : List S23) ++ (List.range N.toNat).map fun j => spanT T (1 + j)) ++ (List.range l5.length).map fun j => spanT T (9 + j)) ++ (List.range k).map fun j => spanT T (13 + j)) wr) (fun _ i _ => l6.length - (intOf i).toNat)
          case atStart => exact ⟨0, Nat.zero_le _, rfl, by rw [← HX0.out]; simpa using HW0.out⟩
          case round =>
            obtain ⟨k, hk, rfl, hW⟩ := hrel
            obtain ⟨xs, hxs⟩ : ∃ xs, xs = ((([] : List S23) ++ (List.range N.toNat).map fun j => spanT T (1 + j)) ++ (List.range l5.length).map fun j => spanT T (9 + j)) ++ (List.range k).map fun j => spanT T (13 + j) := ⟨_, rfl⟩
            rw [← hxs] at hW
            have HXS := Lib.hid hxs
            have HW := Lib.hid hW
            clear HW0 HX0 hxs
            obtain ⟨Av, cv, rfl⟩ := own_slice hW.own
            by_cases hlt : k < l6.length
            · have hlt1 : (k : Int) < (l6.length : Int) := by omega
              have hk18 : (13 + k : Nat) < 17 := by omega
              have hnn : ((13 + k : Nat) : Int) = 13 + (k : Int) := by omega
              have hbt := fun (W2 : World) => between_any T (13 + k) 0 hk18 (by omega) (HB.out (13 + k) (by unfold Used; omega)) W2
              rw [hnn] at hbt
              have HBT := Lib.hid hbt
              have hG := hW.b
              have hT5 := hW.t
              have hlen : xs.length ≤ 16 := by
                rw [HXS.out]
                simp [List.length_append, List.length_map, List.length_range]
                omega
              clear hbt hnn hW
              go_wp2_with fail
              refine wp_calm ?_
              refine start_ (n := 9) (S := (fun w' => w'.heap[w.heap.size]? = some (.cells #[.int .i64 N, .int .i64 b0, .int .i64 b1, .int .i64 r0, .int .i64 r1, .slice A5 l5.length c5, .slice A6 l6.length c6, v7, .map (some m)] 80 (0, 0)) ∧ w'.heap[w.heap.size + 1]? = some (.cells (encT T).toArray 91 (0, 0)))) (ds := []) #[false, false, false, false, false, false, false, false, false] (by kernel_rfl) rfl rfl ⟨blk_drew hG, blk_drew hT5⟩ (fun hHeld => ?_)
              refine with_tabW spans15_tab spans15_bits (fun HT_ HW_ => ?_)
              have hW1 := HW.out.below (Below.refl _ _).drew
              generalize wr.drew = V1 at hHeld hW1 ⊢
              refine pureA 0 47 ?_
              refine takeA 1 48 rfl rfl (by rintro w' ⟨s0, s1⟩; exact exec_load_blk s1 rfl rfl Tryd.underlying91 rfl (size91a T)) ?_
              refine takeA 2 49 rfl rfl (by rintro w' ⟨s0, s1⟩; exact exec_load_blk s0 rfl rfl Tryd.underlying80 rfl (by kernel_rfl)) ?_
              refine pureA 3 50 ?_
              refine oneA 4 (some 51) (fun K hK => ?_)
              refine call_ 58 #[(bookV N b0 b1 r0 r1 (.slice A5 l5.length c5) (.slice A6 l6.length c6) v7 m), .int .i64 (k : Int)] (by rfl) rfl ?_ ?_
              · go_simp
                try rfl
              refine (signal_any N b0 b1 r0 r1 _ _ _ _ (k : Int) (by omega) V1).mono ?_
              rintro e V2 ⟨rfl, hb2⟩
              refine ⟨_, rfl, ?_⟩
              have hW2 := hW1.below hb2
              refine hK.out _ _ ⟨hW2.b, hW2.t⟩ (fun hHeld2 => ?_)
              clear hK K hHeld hW1
              refine normA 51 ?_
              refine oneA 5 (some 52) (fun K hK => ?_)
              refine call_ 66 #[.agg (encT T).toArray, .int .i64 (13 + (k : Int)), .int .i64 0] (by rfl) rfl ?_ ?_
              · go_simp
                try rfl
              refine (HBT.out V2).mono ?_
              rintro e V3 ⟨rfl, hb3⟩
              refine ⟨_, rfl, ?_⟩
              have hW3 := hW2.below hb3
              refine hK.out _ _ ⟨hW3.b, hW3.t⟩ (fun hHeld3 => ?_)
              clear hK K hHeld2 hW2
              refine normA 52 ?_
              have hb4 : Below V3.heap.size V3 (V3.alloc (.cells #[.int .i64 (-(T 0 (13 + k))), .int .i64 (T (13 + k) 0)] 23)) := (Below.refl _ _).alloc (Nat.le_refl _) _
              have hN4 := blk_new V3 (.cells #[.int .i64 (-(T 0 (13 + k))), .int .i64 (T (13 + k) 0)] 23)
              have hW4 := hW3.below hb4
              refine oneA 6 (some 53) (fun K hK => ?_)
              refine value_ (v := .slice (some ⟨V3.heap.size, 0, none⟩) 1 1) (w1 := V3.alloc (.cells #[.int .i64 (-(T 0 (13 + k))), .int .i64 (T (13 + k) 0)] 23)) rfl rfl (by go_simp; try rfl) ?_
              refine hK.out _ _ ⟨hW4.b, hW4.t⟩ (fun hHeld4 => ?_)
              clear hK K hHeld3 hW3
              refine normA 53 ?_
              generalize V3.alloc (.cells #[.int .i64 (-(T 0 (13 + k))), .int .i64 (T (13 + k) 0)] 23) = V4 at hb4 hN4 hW4 hHeld4 ⊢
              obtain ⟨v', V5, hrun, hW5⟩ := hW4.push (spanT T (13 + k)) V3.heap.size hN4 hlen
              refine oneA 7 (some 54) (fun K hK => ?_)
              refine value_ (v := v') (w1 := V5) rfl rfl (hrun _ _ _ _ rfl rfl rfl rfl) ?_
              refine hK.out _ _ ⟨hW5.b, hW5.t⟩ (fun hHeld5 => ?_)
              clear hK K hHeld4 hW4
              refine normA 54 ?_
              refine pureA 8 5 ?_
              refine done_ (done_of HT_.out (by kernel_rfl)) ?_
              have HW5 := Lib.hid hW5
              clear HT_ HW_ hHeld5 hrun hN4 hb4 hb3 hb2 hG hT5 hW5
              refine calm_normal ?_
              go_wp2_with fail
              go_roundw
              case rel =>
                refine ⟨k + 1, by omega, by go_num, ?_⟩
                have h := HW5.out
                rw [HXS.out, List.append_assoc] at h
                rw [List.range_succ, List.map_append]
                exact h
              case measure => simp [intOf]; omega
            · have hkN : k = l6.length := by omega
              have HX0 : Hid (xs = ((([] : List S23) ++ (List.range N.toNat).map fun j => spanT T (1 + j)) ++ (List.range l5.length).map fun j => spanT T (9 + j)) ++ (List.range l6.length).map fun j => spanT T (13 + j)) := Lib.hid (by have h := HXS.out; rw [hkN] at h; exact h)
              have HW0 : Hid (SpW #[.int .i64 N, .int .i64 b0, .int .i64 b1, .int .i64 r0, .int .i64 r1, .slice A5 l5.length c5, .slice A6 l6.length c6, v7, .map (some m)] (encT T).toArray w (.slice Av xs.length cv) xs wr) := HW
              clear HXS
              clear hlt hk HW hW
              rw [hkN]
              clear hkN
              go_wp2_with fail
              go_ret
              obtain ⟨Ax, cx, e, hC, hc⟩ := HW0.out.reads
              have hq : spansF T N l5.length l6.length = xs := HX0.out.symm
              rw [hq]
              refine ⟨Ax, cx, ?_, hc, hC, HW0.out.bel⟩
              injection e with e1 e2 e3
              subst e1
              subst e3
              rfl
              
          
      
  
end Go.Proofs.YtohbeninpmmmpaaDoor
end

section
-- Written by wip/tools/pr.py (a program of this repo over the kit's print.py).
namespace Go.Proofs.TrydX.X
open Go.RowKit Go.Proofs.YtohbeninpmmmpaaDoorW.PrintWords Go.Proofs.YtohbeninpmmmpaaDoorW.PrintLast Go.Proofs.YtohbeninpmmmpaaDoorW.PrintMore
attribute [local go_sem] max2_int min2_int max_two min_two max_three min_three max_four min_four   -- for this text's walks alone
set_option linter.unusedVariables false
set_option linter.unusedSimpArgs false

theorem eqA23 (d : Nat) (w : World) (x0 y0 : Int) (x1 y1 : Int) :
    (Op.equalIn (d + 2) 23 (.agg #[.int .i64 x0, .int .i64 x1]) (.agg #[.int .i64 y0, .int .i64 y1])).run Tryd.prog w = .ok (x0 == y0 && (x1 == y1)) w := by
  refine eqA_of Tryd.underlying23 (by kernel_rfl) ?_
  refine eqf_cons (by rfl) (by go_simp; rfl) (by go_simp; rfl) (by go_simp) ?_
  exact eqf_last (by rfl) (by go_simp; rfl) (by go_simp; rfl) (by go_simp)
end Go.Proofs.TrydX.X
end

section
-- Written by wip/tools/pr.py (a program of this repo over the kit's print.py).
namespace Go.Proofs.TrydX.X
open Go.RowKit Go.Proofs.YtohbeninpmmmpaaDoorW.PrintWords Go.Proofs.YtohbeninpmmmpaaDoorW.PrintLast Go.Proofs.YtohbeninpmmmpaaDoorW.PrintMore
attribute [local go_sem] max2_int min2_int max_two min_two max_three min_three max_four min_four   -- for this text's walks alone
set_option linter.unusedVariables false
set_option linter.unusedSimpArgs false

attribute [local go_sem high] eqA23
/-! ### api_Span: function 82 -/
def api_Span.l0 : Nat → List (S23) → List (S23) → Int → Int → Option (Bool)
  | 0, _, _, _, _ => none
  | k + 1, x0, x1, x12, x13 => if x13 < x12 then (if 0 ≤ x13 then (if x13 < (x0.length : Int) then (if x13 < (x1.length : Int) then (if (!(((rd_T23 x0 x13).f0) == ((rd_T23 x1 x13).f0)) || (!(((rd_T23 x0 x13).f1) == ((rd_T23 x1 x13).f1)))) = true then (some false) else (api_Span.l0 k x0 x1 x12 (wrap64 (x13 + 1)))) else (none)) else (none)) else (none)) else (some true)
def api_Span.f (k : Nat) (l0 : List (S23)) (l1 : List (S23)) : Option (Bool) := if (l0.length : Int) = (l1.length : Int) then (api_Span.l0 k l0 l1 (l0.length : Int) 0) else (some false)
theorem api_Span.mono_l : ∀ k, (∀ y0 y1 y2 y3, LeO (api_Span.l0 k y0 y1 y2 y3) (api_Span.l0 (k + 1) y0 y1 y2 y3))
  | 0 => fun _ _ _ _ r h => by simp [api_Span.l0] at h
  | k + 1 => by
    have ih0 := api_Span.mono_l k
    · intro y0 y1 y2 y3
      unfold api_Span.l0
      repeat' first
      | (with_reducible exact ih0 _ _ _ _)
      | (with_reducible exact LeO.refl _)
      | (with_reducible exact LeO.none _)
      | (with_reducible refine LeO.ite ?_ ?_)
      | (with_reducible refine LeO.bind ?_ (fun _ => ?_))
      | exact ih0 _ _ _ _
      | exact LeO.none _
      | refine LeO.ite ?_ ?_
      | refine LeO.bind ?_ (fun _ => ?_)
theorem api_Span.mono : ∀ a0 a1 k, LeO (api_Span.f k a0 a1) (api_Span.f (k + 1) a0 a1) := by
  intro a0 a1 k
  have ih0 := api_Span.mono_l k
  unfold api_Span.f
  repeat' first
      | (with_reducible exact ih0 _ _ _ _)
      | (with_reducible exact LeO.refl _)
      | (with_reducible exact LeO.none _)
      | (with_reducible refine LeO.ite ?_ ?_)
      | (with_reducible refine LeO.bind ?_ (fun _ => ?_))
      | exact ih0 _ _ _ _
      | exact LeO.none _
      | refine LeO.ite ?_ ?_
      | refine LeO.bind ?_ (fun _ => ?_)
set_option maxHeartbeats 8000000 in
set_option maxRecDepth 100000 in
theorem api_Span.calls (k : Nat) (A0 : Option Addr) (c0 : Nat) (l0 : List (S23)) (A1 : Option Addr) (c1 : Nat) (l1 : List (S23)) (r : Bool) (w : World) (hr0 : Kd.C k23 w A0 l0.length l0) (hc0 : l0.length ≤ c0) (hr1 : Kd.C k23 w A1 l1.length l1) (hc1 : l1.length ≤ c1) (h : api_Span.f k l0 l1 = some r) :
    Calls Tryd.prog 82 #[.slice A0 l0.length c0, .slice A1 l1.length c1] w fun e w' => e = .returned (.bool r) ∧ Drawn0 w w' := by
  have hu23 := Tryd.underlying23
  have HR0 := Aside0.mk hr0
  have HC0 := Aside0.mk hc0
  clear hr0 hc0
  have HR1 := Aside0.mk hr1
  have HC1 := Aside0.mk hc1
  clear hr1 hc1
  have H : (if (l0.length : Int) = (l1.length : Int) then (api_Span.l0 k l0 l1 (l0.length : Int) 0) else (some false)) = some r := h
  clear h
  by_cases c3 : (l0.length : Int) = (l1.length : Int)
  · rw [if_pos c3] at H
    have c3b0 : ((l0.length : Int) == (l1.length : Int)) = true := beq_iff_eq.mpr c3
    have c3b1 : ((l0.length : Int) != (l1.length : Int)) = false := bne_eq_false_iff_eq.mpr c3
    have c3b2 : (l0.length == l1.length) = true := by first | simpa using c3 | (simp at c3 ⊢; omega)
    clear c3
    have H' := Aside0.mk H
    clear H
    go_enter Tryd.func82, Tryd.ntmps82
    go_wp2
    repeat (go_quiet (fail); try go_wp2)
    go_loopg [13] k (fun kq v13 w' => ∃ (x13_1 : Int), v13 = .int .i64 x13_1 ∧ Aside0 (api_Span.l0 kq l0 l1 (l0.length : Int) x13_1 = some r) ∧ Aside0 (kq ≤ k) ∧ Drawn0 w w')
    case atStart => exact ⟨(0), (by first | rfl | (simp; done) | (simp [*]; done)), H', ⟨Nat.le_refl _⟩, by repeat (first | exact Drawn0.refl _ | apply Drawn0.step)⟩
    case round =>
      clear H'
      try clear c1
      try clear p2
      try clear c3
      try clear c3b0
      try clear c3b1
      try clear c3b2
      obtain ⟨x13_1, rfl, HA, HK1, ⟨m1, rfl⟩⟩ := hrel
      cases gk with
      | zero => exact absurd HA.out (by simp [api_Span.l0])
      | succ k1 =>
        have H := HA.out
        clear HA
        simp only [api_Span.l0] at H
        by_cases c4 : x13_1 < (l0.length : Int)
        · rw [if_pos c4] at H
          have c4b0 : decide (x13_1 < (l0.length : Int)) = true := decide_eq_true c4
          clear c4
          by_cases c5 : 0 ≤ x13_1
          · rw [if_pos c5] at H
            have c5b0 : decide (0 ≤ x13_1) = true := decide_eq_true c5
            clear c5
            by_cases c6 : x13_1 < (l0.length : Int)
            · rw [if_pos c6] at H
              have c6b0 : decide (x13_1 < (l0.length : Int)) = true := decide_eq_true c6
              clear c6
              by_cases c7 : x13_1 < (l1.length : Int)
              · rw [if_pos c7] at H
                have c7b0 : decide (x13_1 < (l1.length : Int)) = true := decide_eq_true c7
                clear c7
                by_cases c8 : (!(((rd_T23 l0 x13_1).f0) == ((rd_T23 l1 x13_1).f0)) || (!(((rd_T23 l0 x13_1).f1) == ((rd_T23 l1 x13_1).f1)))) = true
                · rw [if_pos c8] at H
                  have c8b0 : (!(((rd_T23 l0 x13_1).f0) == ((rd_T23 l1 x13_1).f0)) || (!(((rd_T23 l0 x13_1).f1) == ((rd_T23 l1 x13_1).f1)))) = true := c8
                  clear c8
                  obtain rfl := Option.some.inj H
                  have p230 : 0 ≤ (x13_1 : Int) := of_decide_eq_true (by first | (with_reducible assumption) | assumption)
                  have q230 : x13_1 < (l0.length : Int) := of_decide_eq_true (by first | (with_reducible assumption) | assumption)
                  obtain ⟨ad230, e230, hx230_0, hx230_1⟩ := at_T23 HR0.out x13_1 p230 q230
                  cases e230
                  replace p230 := eq_true p230
                  replace q230 := eq_true q230
                  have p231 : 0 ≤ (x13_1 : Int) := of_decide_eq_true (by first | (with_reducible assumption) | assumption)
                  have q231 : x13_1 < (l1.length : Int) := of_decide_eq_true (by first | (with_reducible assumption) | assumption)
                  obtain ⟨ad231, e231, hx231_0, hx231_1⟩ := at_T23 HR1.out x13_1 p231 q231
                  cases e231
                  replace p231 := eq_true p231
                  replace q231 := eq_true q231
                  go_wp2
                  repeat (go_quiet (fail); try go_wp2)
                  go_ret
                  exact ⟨by first | rfl | (simp; done) | (simp [*]; done), by repeat (first | exact Drawn0.refl _ | apply Drawn0.step)⟩
                · rw [if_neg c8] at H
                  have c8b0 : (!(((rd_T23 l0 x13_1).f0) == ((rd_T23 l1 x13_1).f0)) || (!(((rd_T23 l0 x13_1).f1) == ((rd_T23 l1 x13_1).f1)))) = false := by simpa using c8
                  clear c8
                  have H' := Aside0.mk H
                  clear H
                  have p230 : 0 ≤ (x13_1 : Int) := of_decide_eq_true (by first | (with_reducible assumption) | assumption)
                  have q230 : x13_1 < (l0.length : Int) := of_decide_eq_true (by first | (with_reducible assumption) | assumption)
                  obtain ⟨ad230, e230, hx230_0, hx230_1⟩ := at_T23 HR0.out x13_1 p230 q230
                  cases e230
                  replace p230 := eq_true p230
                  replace q230 := eq_true q230
                  have p231 : 0 ≤ (x13_1 : Int) := of_decide_eq_true (by first | (with_reducible assumption) | assumption)
                  have q231 : x13_1 < (l1.length : Int) := of_decide_eq_true (by first | (with_reducible assumption) | assumption)
                  obtain ⟨ad231, e231, hx231_0, hx231_1⟩ := at_T23 HR1.out x13_1 p231 q231
                  cases e231
                  replace p231 := eq_true p231
                  replace q231 := eq_true q231
                  go_wp2
                  repeat (go_quiet (fail); try go_wp2)
                  go_roundg k1
                  case measure => have := HK1.out; omega
                  case rel => exact ⟨(wrap64 (x13_1 + 1)), (by first | rfl | (simp; done) | (simp [*]; done)), H', ⟨by have := HK1.out; omega⟩, by repeat (first | exact Drawn0.refl _ | apply Drawn0.step)⟩
              · rw [if_neg c7] at H
                exact absurd H (by simp)
            · rw [if_neg c6] at H
              exact absurd H (by simp)
          · rw [if_neg c5] at H
            exact absurd H (by simp)
        · rw [if_neg c4] at H
          have c4b0 : decide (x13_1 < (l0.length : Int)) = false := decide_eq_false c4
          clear c4
          obtain rfl := Option.some.inj H
          go_wp2
          repeat (go_quiet (fail); try go_wp2)
          go_ret
          exact ⟨by first | rfl | (simp; done) | (simp [*]; done), by repeat (first | exact Drawn0.refl _ | apply Drawn0.step)⟩
  · rw [if_neg c3] at H
    have c3b0 : ((l0.length : Int) == (l1.length : Int)) = false := beq_eq_false_iff_ne.mpr c3
    have c3b1 : ((l0.length : Int) != (l1.length : Int)) = true := bne_iff_ne.mpr c3
    have c3b2 : (l0.length == l1.length) = false := by first | simpa using c3 | (simp at c3 ⊢; omega)
    obtain rfl := Option.some.inj H
    go_enter Tryd.func82, Tryd.ntmps82
    go_wp2
    repeat (go_quiet (fail); try go_wp2)
    go_ret
    exact ⟨by first | rfl | (simp; done) | (simp [*]; done), by repeat (first | exact Drawn0.refl _ | apply Drawn0.step)⟩

end Go.Proofs.TrydX.X
end

section
/- slices.Equal over spans: are they the same? -/
set_option linter.unusedSimpArgs false
set_option linter.unusedVariables false
namespace Go.Proofs.YtohbeninpmmmpaaDoor
open Go.RowKit Go.Proofs.YtohbeninpmmmpaaDoorW.PrintWords Go.Proofs.YtohbeninpmmmpaaDoorW.PrintLast Go.Proofs.YtohbeninpmmmpaaDoorW.PrintMore TrydX.X
theorem equal_from (xs ys : List S23) (hl : xs.length = ys.length) (hm : xs.length ≤ 1000000) : ∀ n, n ≤ xs.length → ∃ b, api_Span.l0 (n + 1) xs ys (xs.length : Int) ((xs.length - n : Nat) : Int) = some b ∧ (b = true ↔ ∀ j : Nat, xs.length - n ≤ j → j < xs.length → rd_T23 xs j = rd_T23 ys j)
  | 0, _ => ⟨true, by simp [api_Span.l0], by simp; omega⟩
  | n + 1, hn => by
    obtain ⟨b, h1, h2⟩ := equal_from xs ys hl hm n (by omega)
    have hi : ((xs.length - (n + 1) : Nat) : Int) < (xs.length : Int) := by omega
    have hw : wrap64 (((xs.length - (n + 1) : Nat) : Int) + 1) = ((xs.length - n : Nat) : Int) := by
      rw [IntWalk.wrap64_in _ (by constructor <;> omega)]
      omega
    unfold api_Span.l0
    rw [if_pos hi, if_pos (by omega), if_pos hi, if_pos (by omega), hw, h1]
    obtain ⟨p, hp⟩ : ∃ p, p = rd_T23 xs ((xs.length - (n + 1) : Nat) : Int) := ⟨_, rfl⟩
    obtain ⟨q, hq⟩ : ∃ q, q = rd_T23 ys ((xs.length - (n + 1) : Nat) : Int) := ⟨_, rfl⟩
    rw [← hp, ← hq]
    by_cases he : p = q
    · refine ⟨b, by simp [he], h2.trans ⟨fun h j h3 h4 => ?_, fun h j h3 h4 => h j (by omega) h4⟩⟩
      rcases Nat.lt_or_ge j (xs.length - n) with h5 | h5
      · obtain rfl : j = xs.length - (n + 1) := by omega
        rw [← hp, ← hq, he]
      · exact h j h5 h4
    · refine ⟨false, ?_, by
        constructor
        · intro h; cases h
        · intro h
          exact absurd (by rw [hp, hq]; exact h _ (Nat.le_refl _) (by omega)) he⟩
      rw [if_pos]
      cases p; cases q
      simp only [Bool.or_eq_true, Bool.not_eq_true', beq_eq_false_iff_ne, ne_eq]
      simp only [S23.mk.injEq] at he
      by_cases h0 : ‹Int› = ‹Int› <;> simp_all
      omega
theorem equal_is (xs ys : List S23) (hm : xs.length ≤ 1000000) : ∃ b, api_Span.f (xs.length + 1) xs ys = some b ∧ (b = true ↔ xs = ys) := by
  unfold api_Span.f
  by_cases hl : xs.length = ys.length
  · rw [if_pos (by rw [hl])]
    obtain ⟨b, h1, h2⟩ := equal_from xs ys hl hm xs.length (Nat.le_refl _)
    rw [Nat.sub_self] at h1
    refine ⟨b, h1, h2.trans ⟨fun h => List.ext_getElem hl fun j h3 h4 => ?_, fun h j _ _ => by rw [h]⟩⟩
    have h5 := h j (by omega) h3
    unfold rd_T23 at h5
    rw [Int.toNat_natCast, List.getD_eq_getElem?_getD, List.getD_eq_getElem?_getD, List.getElem?_eq_getElem h3, List.getElem?_eq_getElem h4] at h5
    exact h5
  · rw [if_neg (by omega)]
    exact ⟨false, rfl, by constructor; (intro h; cases h); (intro h; exact absurd (by rw [h]) hl)⟩
theorem Equal_any (A : Option Addr) (c : Nat) (xs : List S23) (B : Option Addr) (d : Nat) (ys : List S23) (w : World) (hx : Kd.C k23 w A xs.length xs) (hc : xs.length ≤ c) (hy : Kd.C k23 w B ys.length ys) (hd : ys.length ≤ d) (hm : xs.length ≤ 1000000) :
    Calls Tryd.prog 82 #[.slice A xs.length c, .slice B ys.length d] w fun e w' => ∃ b, e = .returned (.bool b) ∧ (b = true ↔ xs = ys) ∧ Below w.heap.size w w' := by
  obtain ⟨b, h1, h2⟩ := equal_is xs ys hm
  refine (api_Span.calls _ A c xs B d ys b w hx hc hy hd h1).mono ?_
  rintro e w' ⟨rfl, hD⟩
  exact ⟨b, rfl, h2, hD.below⟩
end Go.Proofs.YtohbeninpmmmpaaDoor
end

section
/- Plain: books: what one tells, and what another one does. -/
set_option linter.unusedVariables false
set_option linter.unusedSectionVars false
namespace Go.Proofs.YtohbeninpmmmpaaDoor
open TrydX.X

/-- All that a book says, in one. -/
structure Bk where
  N : Int
  b0 : Int
  b1 : Int
  r0 : Int
  r1 : Int
  l5 : List S23
  l6 : List S23
  l7 : List S63
def Bk.ok (b : Bk) : Prop := BookOk b.N b.b0 b.b1 b.r0 b.r1 b.l5 b.l6 b.l7
def Bk.sat (b : Bk) (wo : List Int) (o : Nat → Int) : Prop := Sat b.N b.b0 b.b1 b.r0 b.r1 b.l5 b.l6 b.l7 wo o
def Bk.can (b : Bk) (wo : List Int) : Bool := canB b.N b.b0 b.b1 b.r0 b.r1 b.l5 b.l6 b.l7 wo
def Bk.told (b : Bk) (wo : List Int) : Tb := YtohbeninpmmmpaaDoor.told b.N b.b0 b.b1 b.r0 b.r1 b.l5 b.l6 b.l7 wo
def Bk.used (b : Bk) (i : Nat) : Prop := Used b.N b.l5 b.l6 i
theorem Bk.so_told {b : Bk} (hb : b.ok) {wo : List Int} {o : Nat → Int} (h : b.sat wo o) {i k : Nat} (hi : b.used i) (hk : b.used k) : o i - o k ≤ b.told wo i k := (YtohbeninpmmmpaaDoor.so_told hb wo h).2 i k hi hk
theorem Bk.told_so {b : Bk} (hb : b.ok) {wo : List Int} (hn : b.can wo = true) {k : Nat} (hk : b.used k) : b.sat wo fun j => b.told wo j k := YtohbeninpmmmpaaDoor.told_so hb wo hn hk
theorem Bk.told_self {b : Bk} (hb : b.ok) {wo : List Int} (hn : b.can wo = true) {i : Nat} (hi : b.used i) : b.told wo i i = 0 := YtohbeninpmmmpaaDoor.told_self hb wo hn hi
theorem Bk.told_near {b : Bk} (hb : b.ok) {wo : List Int} (hn : b.can wo = true) {i k : Nat} (hi : b.used i) (hk : b.used k) : -60000 ≤ b.told wo i k ∧ b.told wo i k ≤ 60000 := YtohbeninpmmmpaaDoor.told_near hb wo hn hi hk
theorem Bk.can_of {b : Bk} (hb : b.ok) {wo : List Int} {o : Nat → Int} (h : b.sat wo o) : b.can wo = true := (YtohbeninpmmmpaaDoor.so_told hb wo h).1
theorem Bk.used0 (b : Bk) : b.used 0 := .inl rfl
theorem Bk.can_iff {b : Bk} (hb : b.ok) {wo : List Int} : b.can wo = true ↔ ∃ o, b.sat wo o := ⟨fun h => ⟨_, Bk.told_so hb h b.used0⟩, fun ⟨_, h⟩ => Bk.can_of hb h⟩
/-- What is told is no more than whatever bounds all that is so. -/
theorem Bk.told_le {b : Bk} (hb : b.ok) {wo : List Int} (hn : b.can wo = true) {i k : Nat} (hk : b.used k) {M : Int} (h : ∀ o, b.sat wo o → o i - o k ≤ M) : b.told wo i k ≤ M := by
  have h1 := h _ (Bk.told_so hb hn hk)
  have h2 := Bk.told_self hb hn hk
  generalize b.told wo = T at h1 h2 ⊢
  omega
/-- Where all that is so of one book is so, moved, of another one: the other one can be, and tells as much, moved. -/
theorem Bk.told_move {a b : Bk} (ha : a.ok) (hb : b.ok) {wa wb : List Int} (c : Nat → Int) (h : ∀ o, a.sat wa o → b.sat wb fun i => o i + c i) (hn : a.can wa = true) : b.can wb = true ∧ ∀ i k, a.used i → b.used i → a.used k → b.used k → a.told wa i k + c i - c k ≤ b.told wb i k := by
  refine ⟨Bk.can_of hb (h _ (Bk.told_so ha hn a.used0)), fun i k hi hi' hk hk' => ?_⟩
  have h1 := Bk.so_told hb (h _ (Bk.told_so ha hn hk)) hi' hk'
  have h2 := Bk.told_self ha hn hk
  generalize a.told wa = T at h1 h2 ⊢
  omega
theorem Bk.told_mono {a b : Bk} (ha : a.ok) (hb : b.ok) {wa wb : List Int} (h : ∀ o, a.sat wa o → b.sat wb o) (hn : a.can wa = true) : b.can wb = true ∧ ∀ i k, a.used i → b.used i → a.used k → b.used k → a.told wa i k ≤ b.told wb i k := by
  have := Bk.told_move ha hb (wa := wa) (wb := wb) (fun _ => 0) (fun o ho => by simpa using h o ho) hn
  refine ⟨this.1, fun i k h1 h2 h3 h4 => ?_⟩
  have := this.2 i k h1 h2 h3 h4
  omega
/-- Without all looks, a book can be true. -/
theorem Bk.can_none {b : Bk} (hb : b.ok) {wo : List Int} (h : ∀ j : Nat, j < b.l7.length → (j : Int) ∈ wo) : b.can wo = true := by
  refine Bk.can_of hb (o := fun i => if i = 0 then 0 else if i ≤ 8 then b.b0 + b.r0 * ((i : Int) - 1) else if i < 13 then -(rd_T23 b.l5 ((i - 9 : Nat) : Int)).f1 else (rd_T23 b.l6 ((i - 13 : Nat) : Int)).f0) ?_
  have hN := hb.n
  have h1 := hb.b
  have h2 := hb.r
  have hl := hb.len
  refine ⟨?_, fun n hn hnN => ?_, fun j hj hw => absurd (h j hj) hw, fun i hi => ?_, fun i hi => ?_⟩
  · skip
    rw [if_neg (by omega), if_pos (by omega), if_pos rfl]
    omega
  · skip
    rw [if_neg (by omega), if_pos (by omega), if_neg (by omega), if_pos (by omega)]
    have e : ((1 + n : Nat) : Int) - 1 = ((n : Int) - 1) + 1 := by omega
    rw [e, Int.mul_add]
    omega
  · have hp := hb.p5 i hi
    rw [if_neg (by omega), if_neg (by omega), if_pos (by omega), if_pos rfl]
    have e : 9 + i - 9 = i := by omega
    rw [e]
    omega
  · have hp := hb.p6 i hi
    rw [if_neg (by omega), if_neg (by omega), if_neg (by omega), if_pos rfl]
    have e : 13 + i - 13 = i := by omega
    rw [e]
    omega
end Go.Proofs.YtohbeninpmmmpaaDoor
end

section
/- Idle. -/
set_option linter.unusedSimpArgs false
set_option linter.unusedVariables false
namespace Go.Proofs.YtohbeninpmmmpaaDoor
open Go.RowKit Go.Proofs.YtohbeninpmmmpaaDoorW.PrintWords Go.Proofs.YtohbeninpmmmpaaDoorW.PrintLast Go.Proofs.YtohbeninpmmmpaaDoorW.PrintMore TrydX.X
attribute [local go_sem] Oper.semAt_some
theorem C_one {w : World} {q : Nat} {k : Int} (h : w.heap[q]? = some (.cells #[.int .i64 k] 3 (0, 0))) : Kd.C (Kd.int .i64) w (some ⟨q, 0, none⟩) [k].length [k] := by
  refine Kd.C_of_reads (d := (0 : Int)) (h1 := fun _ => rfl) ⟨rfl, by simp, fun _ => ⟨⟨q, 0, none⟩, rfl, fun j hj => ?_⟩⟩
  obtain rfl : j = 0 := by simpa using hj
  exact (blk_cell h 0).trans rfl
theorem can_less {N b0 b1 r0 r1 : Int} {l5 l6 : List S23} {l7 : List S63} (hB : BookOk N b0 b1 r0 r1 l5 l6 l7) (h : canB N b0 b1 r0 r1 l5 l6 l7 [] = true) (wo : List Int) : canB N b0 b1 r0 r1 l5 l6 l7 wo = true :=
  (Bk.told_mono (a := ⟨N, b0, b1, r0, r1, l5, l6, l7⟩) (b := ⟨N, b0, b1, r0, r1, l5, l6, l7⟩) (wa := []) (wb := wo) hB hB (fun o ho => ⟨ho.start, ho.rate, fun j hj _ => ho.look j hj (by simp), ho.person, ho.path⟩) h).1
theorem news1 {w : World} {q : Nat} {v : Value} (h : w.heap[q]? = some (.cells #[v] 3 (0, 0))) : ∀ j u, [v][j]? = some u → w.cell? ((⟨q, 0, none⟩ : Addr).add j) = some u := by
  intro j u hu
  match j with
  | 0 => simp at hu; subst hu; exact (blk_cell h 0).trans rfl
  | j + 1 => cases hu
/-- Do two tables tell the same of all things? -/
def sameT (T S : Tb) (N : Int) (n5 n6 : Nat) : Bool := ((spansF T N n5 n6).map fun s => (s.f0, s.f1)) == ((spansF S N n5 n6).map fun s => (s.f0, s.f1))
theorem sameT_iff {T S : Tb} {N : Int} {n5 n6 : Nat} : sameT T S N n5 n6 = true ↔ spansF T N n5 n6 = spansF S N n5 n6 := by
  unfold sameT
  rw [beq_iff_eq]
  constructor
  · intro h
    have h2 := congrArg (fun l => l.map fun p : Int × Int => (⟨p.1, p.2⟩ : S23)) h
    have e : ((fun p : Int × Int => (⟨p.1, p.2⟩ : S23)) ∘ fun s : S23 => (s.f0, s.f1)) = id := rfl
    simp only [List.map_map, e, List.map_id] at h2
    exact h2
  · intro h
    rw [h]
def idleTo (p : Nat → Bool) (k : Nat) : List Int := ((List.range k).filter p).map fun (j : Nat) => (j : Int)
theorem idleTo_succ (p : Nat → Bool) (k : Nat) : idleTo p (k + 1) = if p k = true then idleTo p k ++ [(k : Int)] else idleTo p k := by
  unfold idleTo
  rw [List.range_succ, List.filter_append, List.map_append]
  by_cases h : p k = true <;> simp [h]
theorem idleTo_len (p : Nat → Bool) (k : Nat) : (idleTo p k).length ≤ k := by
  unfold idleTo
  rw [List.length_map]
  have := List.length_filter_le p (List.range k)
  simpa using this
def idleF (N b0 b1 r0 r1 : Int) (l5 l6 : List S23) (l7 : List S63) : List Int := idleTo (fun j => sameT (told N b0 b1 r0 r1 l5 l6 l7 [(j : Int)]) (told N b0 b1 r0 r1 l5 l6 l7 []) N l5.length l6.length) l7.length
/-- The world in a round of Idle. -/
structure IdW (w5 : World) (v : Value) (xs : List Int) (W : World) : Prop where
  bel : Below w5.heap.size w5 W
  own : W.ownsRow w5.heap.size 3 1 v xs.length (encs (Value.int .i64) xs)
theorem IdW.below {w5 : World} {v : Value} {xs : List Int} {W W1 : World} (h : IdW w5 v xs W) (hb : Below W.heap.size W W1) : IdW w5 v xs W1 :=
  ⟨h.bel.trans (hb.mono h.bel.size), pw_own_below h.own hb⟩
theorem IdW.push {w5 : World} {v v' : Value} {xs : List Int} {W W1 : World} {k : Int} (h : IdW w5 v xs W) (ho : W1.ownsRow w5.heap.size 3 1 v' (xs.length + 1) (encs (Value.int .i64) xs ++ [.int .i64 k])) (hg : W.grownBy W1 v.ownBlock) : IdW w5 v' (xs ++ [k]) W1 :=
  ⟨h.bel.grown hg h.bel.size (fun j hj => (h.own.lt j hj).1), by rw [List.length_append]; simpa [encs] using ho⟩
set_option maxRecDepth 100000 in
set_option maxHeartbeats 8000000 in
theorem Idle_any (N b0 b1 r0 r1 : Int) (A5 : Option Addr) (c5 : Nat) (l5 : List S23) (A6 : Option Addr) (c6 : Nat) (l6 : List S23) (A7 : Option Addr) (c7 : Nat) (l7 : List S63)
    (w : World) (hK : Kinds w) (h5 : Kd.C k23 w A5 l5.length l5) (hc5 : l5.length ≤ c5) (h6 : Kd.C k23 w A6 l6.length l6) (hc6 : l6.length ≤ c6) (h7 : Kd.C k63 w A7 l7.length l7) (hc7 : l7.length ≤ c7)
    (hl : l5.length ≤ 4611686018427387904 ∧ l6.length ≤ 4611686018427387904 ∧ l7.length ≤ 4611686018427387904) (err : Int) (herr : askE N b0 b1 r0 r1 l5 l6 l7 true = err) :
    Calls Tryd.prog 34 #[.agg #[.int .i64 N, .int .i64 b0, .int .i64 b1, .int .i64 r0, .int .i64 r1, .slice A5 l5.length c5, .slice A6 l6.length c6, .slice A7 l7.length c7]] w fun e w' => ∃ (l : List Int) (Al : Option Addr), e = .returned (.tuple #[.slice Al l.length l.length, .int .i64 err]) ∧ Below w.heap.size w w' ∧
      l = (if err = 0 then idleF N b0 b1 r0 r1 l5 l6 l7 else []) ∧ (∀ ad, Al = some ad → w.heap.size ≤ ad.block) ∧ Kd.C (Kd.int .i64) w' Al l.length l := by
  have hxx := blk_new w (.cells #[.int .i64 N, .int .i64 b0, .int .i64 b1, .int .i64 r0, .int .i64 r1, .slice A5 l5.length c5, .slice A6 l6.length c6, .slice A7 l7.length c7] 27)
  have hb0 : Below w.heap.size w (w.alloc (.cells #[.int .i64 N, .int .i64 b0, .int .i64 b1, .int .i64 r0, .int .i64 r1, .slice A5 l5.length c5, .slice A6 l6.length c6, .slice A7 l7.length c7] 27)) := (Below.refl _ _).alloc (Nat.le_refl _) _
  have hask := asked_any N b0 b1 r0 r1 A5 c5 l5 A6 c6 l6 A7 c7 l7 true _ (hK.below hb0) (Kd.C_below h5 hb0) hc5 (Kd.C_below h6 hb0) hc6 (Kd.C_below h7 hb0) hc7 hl
  rw [herr] at hask
  have HERR := Lib.hid herr
  have HK := Lib.hid hK
  have H5 := Lib.hid h5
  have H6 := Lib.hid h6
  have H7 := Lib.hid h7
  clear herr hK h5 h6 h7
  by_cases he : err = 0
  · obtain ⟨hBk, _, hcan⟩ := ask0 (HERR.out.trans he)
    subst he
    have hN8 := hBk.n
    obtain ⟨g5, g6, g7⟩ := hBk.len
    obtain ⟨T, hT⟩ : ∃ T, T = told N b0 b1 r0 r1 l5 l6 l7 [] := ⟨_, rfl⟩
    have hnear : ∀ i, Used N l5 l6 i → -1000000000000000 ≤ T 0 i ∧ T 0 i ≤ 1000000000000000 := fun i hu => by
      rw [hT]
      have := told_near hBk [] hcan (.inl rfl) hu
      omega
    have HNEAR := Lib.hid hnear
    have HT := Lib.hid hT
    have HBK := Lib.hid hBk
    have HCAN := Lib.hid hcan
    clear hnear hBk hcan hT
    rw [if_pos rfl]
    obtain ⟨R, hR⟩ : ∃ R, R = idleF N b0 b1 r0 r1 l5 l6 l7 := ⟨_, rfl⟩
    rw [← hR]
    have HR := Lib.hid hR
    clear hR
    go_enter Tryd.func34, Tryd.ntmps34
    go_wp2_with (first | (refine wpList_load_row rfl 27 _ rfl w.heap.size rfl 27 #[.int .i64 N, .int .i64 b0, .int .i64 b1, .int .i64 r0, .int .i64 r1, .slice A5 l5.length c5, .slice A6 l6.length c6, .slice A7 l7.length c7] (0, 0) _ hxx Tryd.underlying27 rfl (by kernel_rfl) ?_) | (refine wpList_load_row rfl 80 _ rfl w2.heap.size rfl 80 #[.int .i64 N, .int .i64 b0, .int .i64 b1, .int .i64 r0, .int .i64 r1, .slice A5 l5.length c5, .slice A6 l6.length c6, .slice A7 l7.length c7, .map (some m)] (0, 0) _ hG4 Tryd.underlying80 rfl (by kernel_rfl) ?_) | (refine wpList_load_row rfl 91 _ rfl (w2.heap.size + 1) rfl 91 (encT t').toArray (0, 0) _ hT4 Tryd.underlying91 rfl (size91a t') ?_) | (go_at_call 65; refine hask.mono ?_; rintro e w2 ⟨bv, t', rfl, hb2, hbv, hz⟩; obtain ⟨m, hm, hbe, ht', hM⟩ := hz rfl; rw [← HT.out] at ht'; subst ht'; have hbe2 : bv = #[.int .i64 N, .int .i64 b0, .int .i64 b1, .int .i64 r0, .int .i64 r1, .slice A5 l5.length c5, .slice A6 l6.length c6, .slice A7 l7.length c7, .map (some m)] := (Value.agg.inj hbe); subst hbe2; clear hbe hz hbv; obtain ⟨W4, hP4, hst4⟩ := storeCells_ex (b := w2.heap.size + 1) (vs := (encT t').toArray) (alloc2_new w2 (.cells #[.int .i64 N, .int .i64 b0, .int .i64 b1, .int .i64 r0, .int .i64 r1, .slice A5 l5.length c5, .slice A6 l6.length c6, .slice A7 l7.length c7, .map (some m)] 80) (.cells Tryd.zeroCells91 91)) (by rw [zeroCells_is]; simp [encT_length]) (all_oneCell_toArray (encT_one t')); simp only [List.toList_toArray] at hst4; have hx2 := blk_below hxx hb2; have hlx2 : w.heap.size < w2.heap.size := blk_lt hx2; have hx4 : W4.heap[w.heap.size]? = some (.cells #[.int .i64 N, .int .i64 b0, .int .i64 b1, .int .i64 r0, .int .i64 r1, .slice A5 l5.length c5, .slice A6 l6.length c6, .slice A7 l7.length c7] 27 (0, 0)) := hP4.blk (blk_alloc (blk_alloc hx2 _) _) (by omega); have hb3 := below_call hb0 hb2; have hb4 : Below w.heap.size w W4 := hb3.trans (((((Below.refl w2.heap.size w2).alloc (Nat.le_refl _) (.cells #[.int .i64 N, .int .i64 b0, .int .i64 b1, .int .i64 r0, .int .i64 r1, .slice A5 l5.length c5, .slice A6 l6.length c6, .slice A7 l7.length c7, .map (some m)] 80)).alloc (by simp) (.cells Tryd.zeroCells91 91)).trans (hP4.below (by omega))).mono hb3.size); have hG4 : W4.heap[w2.heap.size]? = some (.cells #[.int .i64 N, .int .i64 b0, .int .i64 b1, .int .i64 r0, .int .i64 r1, .slice A5 l5.length c5, .slice A6 l6.length c6, .slice A7 l7.length c7, .map (some m)] 80 (0, 0)) := hP4.blk (blk_alloc (blk_new w2 _) _) (by omega); have hT4 := hP4.here; have HB4 := Lib.hid hb4; have HX4 := Lib.hid hx4; clear hb3 hb2 hP4 hask hxx hb0 hM hx2 hx4 hb4) | (go_at_call 81; refine (spans_any N b0 b1 r0 r1 A5 c5 l5 A6 c6 l6 (.slice A7 l7.length c7) m t' hN8 g5 g6 HNEAR.out _).mono ?_; rintro e w5 ⟨Aa, ca, rfl, hca, hCa, hb5⟩; have hx5 := blk_below HX4.out hb5; have hc7' : w5.cell? ⟨w.heap.size, 7, none⟩ = some (.slice A7 l7.length c7) := (blk_cell hx5 7).trans rfl))
    have HB5 := Lib.hid (below_call HB4.out hb5)
    have HX5 := Lib.hid hx5
    obtain ⟨al, hal⟩ : ∃ al, al = spansF t' N l5.length l6.length := ⟨_, rfl⟩
    rw [← hal] at hCa hca ⊢
    obtain ⟨p, hp⟩ : ∃ p : Nat → Bool, p = fun (j : Nat) => sameT (told N b0 b1 r0 r1 l5 l6 l7 [(j : Int)]) t' N l5.length l6.length := ⟨_, rfl⟩
    have hidf : idleF N b0 b1 r0 r1 l5 l6 l7 = idleTo p l7.length := by rw [hp, HT.out]; rfl
    have hR2 : R = idleTo p l7.length := HR.out.trans hidf
    have HR2 := Lib.hid hR2
    have HP := Lib.hid hp
    have HCA := Lib.hid hCa
    have HAL := Lib.hid hal
    have hall : al.length ≤ 16 := by
      rw [hal]
      simp [spansF]
      omega
    obtain ⟨i0, hi, hz0, hz1, hz2⟩ := info_parts info3
    have HL := Lib.hid hl
    clear hp hidf hR2 hCa hal hx5 hb5 hst4 hG4 hT4 hl
    go_loopw [8, 28] (fun v i wr => ∃ k : Nat, k ≤ l7.length ∧ i = .int .i64 k ∧ IdW w5 v (idleTo p k) wr) (fun _ i _ => l7.length - (intOf i).toNat)
    case atStart => exact ⟨0, Nat.zero_le _, rfl, ⟨Below.refl _ _, World.ownsRow_nil _ _ _ _⟩⟩
    case round =>
      obtain ⟨k, hk, rfl, hW⟩ := hrel
      obtain ⟨xs, hxs⟩ : ∃ xs, xs = idleTo p k := ⟨_, rfl⟩
      rw [← hxs] at hW
      have hxl : xs.length ≤ k := by rw [hxs]; exact idleTo_len p k
      have HXS := Lib.hid hxs
      clear hxs
      obtain ⟨Av, cv, rfl⟩ := own_slice hW.own
      by_cases hlt : k < l7.length
      · have hlt1 : (k : Int) < (l7.length : Int) := by omega
        have hXr := blk_below HX5.out hW.bel
        have hbU : Below wr.heap.size wr (wr.alloc (.cells #[.int .i64 (k : Int)] 3)) := (Below.refl _ _).alloc (Nat.le_refl _) _
        have hWU := hW.below hbU
        have hbelU := below_call HB5.out hWU.bel
        have hop := open_any N b0 b1 r0 r1 A5 c5 l5 A6 c6 l6 A7 c7 l7 (some ⟨wr.heap.size, 0, none⟩) 1 [(k : Int)] HBK.out (by simp) _ (HK.out.below hbelU) (Kd.C_below H5.out hbelU) (Kd.C_below H6.out hbelU) (Kd.C_below H7.out hbelU) (C_one (blk_new wr _))
        simp only [List.length_cons, List.length_nil, Nat.zero_add] at hop
        have HCB := Lib.hid (can_less HBK.out HCAN.out [(k : Int)])
        have hsame : p k = true ↔ spansF (told N b0 b1 r0 r1 l5 l6 l7 [(k : Int)]) N l5.length l6.length = al := by rw [HP.out, HAL.out]; exact sameT_iff
        have hnear2 : ∀ i, Used N l5 l6 i → -1000000000000000 ≤ told N b0 b1 r0 r1 l5 l6 l7 [(k : Int)] 0 i ∧ told N b0 b1 r0 r1 l5 l6 l7 [(k : Int)] 0 i ≤ 1000000000000000 := fun i hu => by
          have := told_near HBK.out [(k : Int)] HCB.out (.inl rfl) hu
          omega
        obtain ⟨S, hS⟩ : ∃ S, S = told N b0 b1 r0 r1 l5 l6 l7 [(k : Int)] := ⟨_, rfl⟩
        rw [← hS] at hsame hnear2
        have HN2 := Lib.hid hnear2
        have HS := Lib.hid hS
        have HSAME := Lib.hid hsame
        have HWU := Lib.hid hWU
        have hXl := blk_lt hXr
        clear hnear2 hS hsame hWU hW hbU hbelU
        by_cases hs : p k = true
        · have HPK := Lib.hid hs
          clear hs
          go_wp2_with (first | (refine wpList_load_row rfl 27 _ rfl w.heap.size rfl 27 #[.int .i64 N, .int .i64 b0, .int .i64 b1, .int .i64 r0, .int .i64 r1, .slice A5 l5.length c5, .slice A6 l6.length c6, .slice A7 l7.length c7] (0, 0) _ hXr Tryd.underlying27 rfl (by kernel_rfl) ?_) | (go_at_call 55; refine hop.mono ?_; rintro e w6 ⟨m5, hm5, rfl, hM5, hb6⟩; have hb7 : Below w6.heap.size w6 (w6.alloc (.cells #[.int .i64 N, .int .i64 b0, .int .i64 b1, .int .i64 r0, .int .i64 r1, .slice A5 l5.length c5, .slice A6 l6.length c6, .slice A7 l7.length c7, .map (some m5)] 80)) := (Below.refl _ _).alloc (Nat.le_refl _) _; have hG7 := blk_new w6 (.cells #[.int .i64 N, .int .i64 b0, .int .i64 b1, .int .i64 r0, .int .i64 r1, .slice A5 l5.length c5, .slice A6 l6.length c6, .slice A7 l7.length c7, .map (some m5)] 80); have hM7 := hM5.below hb7; have hW7 := (HWU.out.below hb6).below hb7) | (refine wpList_load_row rfl 80 _ rfl w6.heap.size rfl 80 #[.int .i64 N, .int .i64 b0, .int .i64 b1, .int .i64 r0, .int .i64 r1, .slice A5 l5.length c5, .slice A6 l6.length c6, .slice A7 l7.length c7, .map (some m5)] (0, 0) _ hG7 Tryd.underlying80 rfl (by kernel_rfl) ?_) | (go_at_call 75; refine (solve_any N b0 b1 r0 r1 l5 l6 l7 (.slice A5 l5.length c5) (.slice A6 l6.length c6) (.slice A7 l7.length c7) m5 [(k : Int)] HBK.out _ hM7).mono ?_; rintro e w8 ⟨⟨S', rfl, hS'⟩, hb8⟩; obtain rfl : S' = S := (hS' HCB.out).trans HS.out.symm; obtain ⟨W9, hP9, hst9⟩ := storeCells_ex (b := w8.heap.size) (vs := (encT S').toArray) (blk_new w8 (.cells Tryd.zeroCells91 91)) (by rw [zeroCells_is]; simp [encT_length]) (all_oneCell_toArray (encT_one S')); simp only [List.toList_toArray] at hst9; have hb9 : Below w8.heap.size w8 W9 := ((Below.refl _ _).alloc (Nat.le_refl _) _).trans (hP9.below (Nat.le_refl _)); have hW9 := (hW7.below hb8).below hb9; have hG9 := blk_below (blk_below hG7 hb8) hb9; have hT9 := hP9.here; clear hG7 hM7 hM5 hS') | (refine wpList_load_row rfl 80 _ rfl w6.heap.size rfl 80 #[.int .i64 N, .int .i64 b0, .int .i64 b1, .int .i64 r0, .int .i64 r1, .slice A5 l5.length c5, .slice A6 l6.length c6, .slice A7 l7.length c7, .map (some m5)] (0, 0) _ hG9 Tryd.underlying80 rfl (by kernel_rfl) ?_) | (refine wpList_load_row rfl 91 _ rfl w8.heap.size rfl 91 (encT S').toArray (0, 0) _ hT9 Tryd.underlying91 rfl (size91a S') ?_) | (go_at_call 81; refine (spans_any N b0 b1 r0 r1 A5 c5 l5 A6 c6 l6 (.slice A7 l7.length c7) m5 S' hN8 g5 g6 HN2.out _).mono ?_; rintro e w10 ⟨Ab, cb, rfl, hcb, hCb, hb10⟩; have hW10 := hW9.below hb10; have hCa10 := Kd.C_below HCA.out hW10.bel) | (go_at_call 82; refine (Equal_any Ab cb (spansF S' N l5.length l6.length) Aa ca al _ hCb hcb hCa10 hca (by simp [spansF]; omega)).mono ?_; rintro e w11 ⟨bb, rfl, hbb, hb11⟩; obtain rfl : bb = true := hbb.2 (HSAME.out.1 HPK.out); have hW11 := hW10.below hb11; have hb12 : Below w11.heap.size w11 (w11.alloc (.cells #[.int .i64 (k : Int)] 3)) := (Below.refl _ _).alloc (Nat.le_refl _) _; have hW12 := hW11.below hb12; have HB8 := Lib.hid hb8; clear hst9 hT9 hG9 hbb hb8)  | (refine wpList_append_own _ rfl (.tmp 45) (.tmp 47) 28 rfl w5.heap.size 3 i0 (.int .i64 0) 1 8 Tryd.underlying28 hi hz0 hz1 hz2 rfl (by decide) (.slice Av xs.length cv) xs.length _ rfl hW12.own ⟨w11.heap.size, 0, none⟩ 1 1 [.int .i64 (k : Int)] rfl rfl (news1 (blk_new w11 _)) (by simp [Value.oneCell']) (by unfold maxLen; omega) (by omega) hW12.bel.size ?_; intro v' w13 hown hgr _))
          go_roundw
          case rel => exact ⟨k + 1, by omega, by go_num, by rw [idleTo_succ, if_pos HPK.out, ← HXS.out]; exact hW12.push hown hgr⟩
          case measure => simp [intOf]; omega
        · have HPK := Lib.hid hs
          clear hs
          go_wp2_with (first | (refine wpList_load_row rfl 27 _ rfl w.heap.size rfl 27 #[.int .i64 N, .int .i64 b0, .int .i64 b1, .int .i64 r0, .int .i64 r1, .slice A5 l5.length c5, .slice A6 l6.length c6, .slice A7 l7.length c7] (0, 0) _ hXr Tryd.underlying27 rfl (by kernel_rfl) ?_) | (go_at_call 55; refine hop.mono ?_; rintro e w6 ⟨m5, hm5, rfl, hM5, hb6⟩; have hb7 : Below w6.heap.size w6 (w6.alloc (.cells #[.int .i64 N, .int .i64 b0, .int .i64 b1, .int .i64 r0, .int .i64 r1, .slice A5 l5.length c5, .slice A6 l6.length c6, .slice A7 l7.length c7, .map (some m5)] 80)) := (Below.refl _ _).alloc (Nat.le_refl _) _; have hG7 := blk_new w6 (.cells #[.int .i64 N, .int .i64 b0, .int .i64 b1, .int .i64 r0, .int .i64 r1, .slice A5 l5.length c5, .slice A6 l6.length c6, .slice A7 l7.length c7, .map (some m5)] 80); have hM7 := hM5.below hb7; have hW7 := (HWU.out.below hb6).below hb7) | (refine wpList_load_row rfl 80 _ rfl w6.heap.size rfl 80 #[.int .i64 N, .int .i64 b0, .int .i64 b1, .int .i64 r0, .int .i64 r1, .slice A5 l5.length c5, .slice A6 l6.length c6, .slice A7 l7.length c7, .map (some m5)] (0, 0) _ hG7 Tryd.underlying80 rfl (by kernel_rfl) ?_) | (go_at_call 75; refine (solve_any N b0 b1 r0 r1 l5 l6 l7 (.slice A5 l5.length c5) (.slice A6 l6.length c6) (.slice A7 l7.length c7) m5 [(k : Int)] HBK.out _ hM7).mono ?_; rintro e w8 ⟨⟨S', rfl, hS'⟩, hb8⟩; obtain rfl : S' = S := (hS' HCB.out).trans HS.out.symm; obtain ⟨W9, hP9, hst9⟩ := storeCells_ex (b := w8.heap.size) (vs := (encT S').toArray) (blk_new w8 (.cells Tryd.zeroCells91 91)) (by rw [zeroCells_is]; simp [encT_length]) (all_oneCell_toArray (encT_one S')); simp only [List.toList_toArray] at hst9; have hb9 : Below w8.heap.size w8 W9 := ((Below.refl _ _).alloc (Nat.le_refl _) _).trans (hP9.below (Nat.le_refl _)); have hW9 := (hW7.below hb8).below hb9; have hG9 := blk_below (blk_below hG7 hb8) hb9; have hT9 := hP9.here; clear hG7 hM7 hM5 hS') | (refine wpList_load_row rfl 80 _ rfl w6.heap.size rfl 80 #[.int .i64 N, .int .i64 b0, .int .i64 b1, .int .i64 r0, .int .i64 r1, .slice A5 l5.length c5, .slice A6 l6.length c6, .slice A7 l7.length c7, .map (some m5)] (0, 0) _ hG9 Tryd.underlying80 rfl (by kernel_rfl) ?_) | (refine wpList_load_row rfl 91 _ rfl w8.heap.size rfl 91 (encT S').toArray (0, 0) _ hT9 Tryd.underlying91 rfl (size91a S') ?_) | (go_at_call 81; refine (spans_any N b0 b1 r0 r1 A5 c5 l5 A6 c6 l6 (.slice A7 l7.length c7) m5 S' hN8 g5 g6 HN2.out _).mono ?_; rintro e w10 ⟨Ab, cb, rfl, hcb, hCb, hb10⟩; have hW10 := hW9.below hb10; have hCa10 := Kd.C_below HCA.out hW10.bel) | (go_at_call 82; refine (Equal_any Ab cb (spansF S' N l5.length l6.length) Aa ca al _ hCb hcb hCa10 hca (by simp [spansF]; omega)).mono ?_; rintro e w11 ⟨bb, rfl, hbb, hb11⟩; obtain rfl : bb = false := Bool.eq_false_iff.2 fun hb => HPK.out (HSAME.out.2 (hbb.1 hb)); have hW11 := hW10.below hb11; have hb12 : Below w11.heap.size w11 (w11.alloc (.cells #[.int .i64 (k : Int)] 3)) := (Below.refl _ _).alloc (Nat.le_refl _) _; have hW12 := hW11.below hb12; have HB8 := Lib.hid hb8; clear hst9 hT9 hG9 hbb hb8) )
          go_roundw
          case rel => exact ⟨k + 1, by omega, by go_num, by rw [idleTo_succ, if_neg HPK.out, ← HXS.out]; exact hW11⟩
          case measure => simp [intOf]; omega
      · have hkL : k = l7.length := by omega
        rw [hkL]
        have hxs2 : xs = R := by rw [HXS.out, hkL, HR2.out]
        clear hkL hk
        subst hxs2
        have HW := Lib.hid hW
        clear hW
        obtain ⟨Aq, cq, e1, hre⟩ := own_reads_of (d := (0 : Int)) HW.out.own
        injection e1 with e2 e3 e4
        subst e2
        subst e4
        have hcap : xs.length ≤ cv := by
          rcases HW.out.own.2 with ⟨e5, h0⟩ | ⟨g, cap, cur, e5, _, _, hcap, _⟩
          · omega
          · cases e5
            exact hcap
        have hcap1 : (xs.length : Int) ≤ (cv : Int) := by omega
        have h00 : (0 : Int) ≤ (xs.length : Int) := by omega
        go_wp2_with fail
        go_ret2
        refine ⟨xs, Av, rfl, below_call HB5.out HW.out.bel, rfl, fun ad h => ?_, Kd.C_of_reads (d := (0 : Int)) (h1 := fun _ => rfl) hre⟩
        subst h
        have := HW.out.own.lt ad.block (by rw [Value.ownBlock])
        have := HB5.out.size
        omega
  · have hre : (if err = 0 then idleF N b0 b1 r0 r1 l5 l6 l7 else []) = [] := if_neg he
    rw [hre]
    clear hre
    go_enter Tryd.func34, Tryd.ntmps34
    go_wp2_with (first | (refine wpList_load_row rfl 27 _ rfl w.heap.size rfl 27 #[.int .i64 N, .int .i64 b0, .int .i64 b1, .int .i64 r0, .int .i64 r1, .slice A5 l5.length c5, .slice A6 l6.length c6, .slice A7 l7.length c7] (0, 0) _ hxx Tryd.underlying27 rfl (by kernel_rfl) ?_) | (go_at_call 65; refine hask.mono ?_; rintro e w2 ⟨bv, t', rfl, hb2, hbv, hz⟩; obtain ⟨W3, hP3, hst3⟩ := storeCells_ex (vs := bv) (blk_alloc (blk_new w2 (.cells #[.int .i64 0, .int .i64 0, .int .i64 0, .int .i64 0, .int .i64 0, .slice none 0 0, .slice none 0 0, .slice none 0 0, .map none] 80)) (.cells Tryd.zeroCells91 91)) hbv.1 hbv.2; obtain ⟨W4, hP4, hst4⟩ := storeCells_ex (b := w2.heap.size + 1) (vs := (encT t').toArray) (hP3.blk (alloc2_new w2 _ _) (by omega)) (by rw [zeroCells_is]; simp [encT_length]) (all_oneCell_toArray (encT_one t')); simp only [List.toList_toArray] at hst4; clear hz))
    go_ret2
    refine ⟨[], none, rfl, ?_, rfl, (fun ad h => by cases h), Kd.C_nil _ _⟩
    have hb3 := below_call hb0 hb2
    have hz3 := hb3.size
    exact (hb3.trans ((((Below.refl w2.heap.size w2).alloc (Nat.le_refl _) _).alloc (by simp) _).mono hz3)).trans ((hP3.below hz3).trans (hP4.below (by omega)))
end Go.Proofs.YtohbeninpmmmpaaDoor
end

section
/- What Case sets, one thing after the other. -/
set_option linter.unusedSimpArgs false
set_option linter.unusedVariables false
namespace Go.Proofs.YtohbeninpmmmpaaDoor
open Go.RowKit Go.Proofs.YtohbeninpmmmpaaDoorW.PrintWords Go.Proofs.YtohbeninpmmmpaaDoorW.PrintLast Go.Proofs.YtohbeninpmmmpaaDoorW.PrintMore TrydX.X
attribute [local go_sem] Oper.semAt_some
theorem setsF_append (most : Bool) : ∀ (is js : List Nat) (es : List Con), setsF most (is ++ js) es = ((setsF most js (setsF most is es).1).1, (setsF most is es).2 ++ (setsF most js (setsF most is es).1).2)
  | [], js, es => by simp [setsF]
  | i :: is, js, es => by simp only [List.cons_append, setsF]; rw [setsF_append most is js]
/-- Things in a row, from a first one on. -/
def setRow (most : Bool) (c n : Nat) (es : List Con) : List Con × List Int := setsF most ((List.range n).map fun j => c + j) es
theorem setRow_succ (most : Bool) (c n : Nat) (es : List Con) : setRow most c (n + 1) es = (boundK (setRow most c n es).1 ((c + n : Nat) : Int) 0 (endT most (passF (tab0 (setRow most c n es).1)) (c + n)) (endT most (passF (tab0 (setRow most c n es).1)) (c + n)) 2, (setRow most c n es).2 ++ [endT most (passF (tab0 (setRow most c n es).1)) (c + n)]) := by
  unfold setRow
  rw [List.range_succ, List.map_append, setsF_append]
  rfl
theorem setRow_length (most : Bool) (c n : Nat) (es : List Con) : (setRow most c n es).2.length = n := by simp [setRow, setsF_length]
theorem setRow_ready {most : Bool} {c n : Nat} {C : List Con} {U : Nat → Prop} (h : Ready U C) (hU : ∀ j, j < n → U (c + j) ∧ c + j ≠ 0) : ∃ C', (setRow most c n (addC [] C)).1 = addC [] C' ∧ Ready U C' := by
  obtain ⟨C', h1, h2, _⟩ := sets_ready most ((List.range n).map fun j => c + j) C h (fun i hi => by
    obtain ⟨j, hj, rfl⟩ := List.mem_map.1 hi
    exact hU j (List.mem_range.1 hj))
  exact ⟨C', h1, h2⟩
/-- Where Case begins. -/
def case0 (most : Bool) (n : Nat) (es : List Con) : List Con := boundK es ((1 + n : Nat) : Int) 0 (endT most (passF (tab0 es)) (1 + n)) (endT most (passF (tab0 es)) (1 + n)) 2
/-- All that Case sets. -/
def caseF (most : Bool) (N n5 n6 n : Nat) (es : List Con) : List Int × List Int × List Int :=
  ((setRow most 1 N (case0 most n es)).2, (setRow most 9 n5 (setRow most 1 N (case0 most n es)).1).2.map fun x => -x, (setRow most 13 n6 (setRow most 9 n5 (setRow most 1 N (case0 most n es)).1).1).2)
/-- Nothing that was there has changed but three blocks. -/
structure But3 (p q r : Nat) (w w' : World) : Prop where
  os : w'.os = w.os
  tape : w'.tape = w.tape
  output : w'.output = w.output
  size : w.heap.size ≤ w'.heap.size
  block : ∀ k, k < w.heap.size → k ≠ p → k ≠ q → k ≠ r → w'.heap[k]? = w.heap[k]?
theorem But3.refl (p q r : Nat) (w : World) : But3 p q r w w := ⟨rfl, rfl, rfl, Nat.le_refl _, fun _ _ _ _ _ => rfl⟩
theorem But3.trans {p q r : Nat} {a b c : World} (h : But3 p q r a b) (h' : But3 p q r b c) : But3 p q r a c :=
  ⟨h'.os.trans h.os, h'.tape.trans h.tape, h'.output.trans h.output, Nat.le_trans h.size h'.size, fun k hk h1 h2 h3 => (h'.block k (Nat.lt_of_lt_of_le hk h.size) h1 h2 h3).trans (h.block k hk h1 h2 h3)⟩
theorem But3.of_below {p q r : Nat} {a b : World} (h : Below a.heap.size a b) : But3 p q r a b := ⟨h.os, h.tape, h.output, h.size, fun k hk _ _ _ => h.block k hk⟩
theorem But3.of2 {p q r : Nat} {a b : World} (h : But2 p q a b) : But3 p q r a b := ⟨h.os, h.tape, h.output, h.size, fun k hk h1 h2 _ => h.block k hk h1 h2⟩
theorem But3.of_put {p q r : Nat} {o : Obj} {a b : World} (h : Put r o a b) : But3 p q r a b := ⟨h.os, h.tape, h.output, Nat.le_of_eq h.size.symm, fun k hk _ _ h3 => h.rest k h3⟩
theorem But3.blk {p q r k : Nat} {o : Obj} {a b : World} (h : But3 p q r a b) (hk : a.heap[k]? = some o) (h1 : k ≠ p) (h2 : k ≠ q) (h3 : k ≠ r) : b.heap[k]? = some o := (h.block k (blk_lt hk) h1 h2 h3).trans hk
theorem But3.below {p q r n : Nat} {a b : World} (h : But3 p q r a b) (hp : n ≤ p) (hq : n ≤ q) (hr : n ≤ r) (hn : n ≤ a.heap.size) : Below n a b := ⟨h.os, h.tape, h.output, h.size, fun k hk => h.block k (by omega) (by omega) (by omega) (by omega)⟩
theorem own_same {w W : World} {base sz n : Nat} {e : TypeId} {v : Value} {xs : List Value} (h : w.ownsRow base e sz v n xs) (hs : ∀ k, v.ownBlock = some k → W.heap[k]? = w.heap[k]?) : W.ownsRow base e sz v n xs := by
  rcases h with ⟨h1, h2⟩
  refine ⟨h1, ?_⟩
  rcases h2 with h2 | ⟨g, cap, cur, e1, e2, e3, e4, e5, e6⟩
  · exact .inl h2
  · refine .inr ⟨g, cap, cur, e1, e2, ?_, e4, e5, e6⟩
    rw [hs g (by rw [e1]; rfl)]
    exact e3
/-- The world in a loop of Case. -/
structure LpW (bk : Array Value) (fv : Value) (E T B m O : Nat) (Ws : World) (cs : Array Value) (es : List Con) (v : Value) (xs : List Int) (W : World) : Prop where
  set : SetW bk fv E T B m es W
  but : But3 T m O Ws W
  out : W.heap[O]? = some (.cells cs 30 (0, 0))
  own : W.ownsRow Ws.heap.size 3 1 v xs.length (encs (Value.int .i64) xs)
  lt : (T < Ws.heap.size ∧ m < Ws.heap.size ∧ O < Ws.heap.size ∧ E < Ws.heap.size ∧ B < Ws.heap.size) ∧ O ≠ T ∧ O ≠ m ∧ O ≠ E ∧ O ≠ B
section
variable {bk : Array Value} {fv : Value} {E T B m O : Nat} {Ws : World} {cs : Array Value} {es : List Con} {v : Value} {xs : List Int} {W : World}
theorem LpW.below {W1 : World} (h : LpW bk fv E T B m O Ws cs es v xs W) (hb : Below W.heap.size W W1) : LpW bk fv E T B m O Ws cs es v xs W1 :=
  ⟨h.set.below hb, h.but.trans (But3.of_below hb), blk_below h.out hb, pw_own_below h.own hb, h.lt⟩
theorem LpW.call {W1 : World} {es' : List Con} (h : LpW bk fv E T B m O Ws cs es v xs W) (hs : SetW bk fv E T B m es' W1) (hb : But2 T m W W1) : LpW bk fv E T B m O Ws cs es' v xs W1 := by
  refine ⟨hs, h.but.trans (But3.of2 hb), hb.blk h.out h.lt.2.1 h.lt.2.2.1, own_same h.own (fun k hk => ?_), h.lt⟩
  have h1 := h.own.lt k hk
  have h2 := h.lt.1
  exact hb.block k h1.2 (by omega) (by omega)
theorem LpW.push (h : LpW bk fv E T B m O Ws cs es v xs W) (x : Int) (g : Nat) (hg : W.heap[g]? = some (.cells #[.int .i64 x] 3 (0, 0))) (hl : xs.length ≤ 16) :
    ∃ (v' : Value) (W' : World), (∀ (o : Oper) (a : Act) (q y : Operand), o.op = Op.call { callee := Callee.builtin Builtin.append, args := #[q, y], argTypes := #[28, 28] } → o.type = 28 → a.eval q = v → a.eval y = .slice (some ⟨g, 0, none⟩) 1 1 → (execOp a.eval o).run Tryd.prog W = .ok (.value v') W') ∧ LpW bk fv E T B m O Ws cs es v' (xs ++ [x]) W' := by
  obtain ⟨i0, hi, hz0, hz1, hz2⟩ := info_parts info3
  have hlt1 := h.lt
  have hgl := blk_lt hg
  obtain ⟨v', w', hrun, hown, hgr, _⟩ := run_append_own (P := Tryd.prog) W Ws.heap.size 28 28 3 i0 (.int .i64 0) 1 8 Tryd.underlying28 hi hz0 hz1 hz2 rfl (by decide) v xs.length (encs (Value.int .i64) xs) h.own ⟨g, 0, none⟩ 1 1 [.int .i64 x] rfl (news1 hg) (by simp [Value.oneCell']) (by unfold maxLen; omega) (by omega) h.but.size
  have hlt := h.own.lt
  have hne : ∀ k, k < Ws.heap.size → w'.heap[k]? = W.heap[k]? := fun k hk => hgr.block k (Nat.lt_of_lt_of_le hk h.but.size) (fun e => by have := (hlt k e.symm).1; omega)
  have hlt1' := hlt1.1
  refine ⟨v', w', fun o a q y hop hty hq hy => by simp [execOp, hop, hty, resolve, invoke, builtin, hq, hy, hrun, Result.andThen], ?_⟩
  refine ⟨⟨(hne E (by omega)).trans h.set.e, (hne T (by omega)).trans h.set.t, (hne B (by omega)).trans h.set.b, h.set.pm.grown hgr (fun e => by have := (hlt m e.symm).1; omega), h.set.ne⟩, ⟨hgr.os.trans h.but.os, hgr.tape.trans h.but.tape, hgr.output.trans h.but.output, Nat.le_trans h.but.size hgr.size, fun k hk h1 h2 h3 => (hne k hk).trans (h.but.block k hk h1 h2 h3)⟩, (hne O (by omega)).trans h.out, ?_, hlt1⟩
  rw [List.length_append]
  simpa [encs] using hown
theorem LpW.store (h : LpW bk fv E T B m O Ws cs es v xs W) (j : Nat) (u : Value) : LpW bk fv E T B m O Ws (cs.setIfInBounds j u) es v xs (W.setCell ⟨O, j, none⟩ u) := by
  have hne : ∀ k, k ≠ O → (W.setCell ⟨O, j, none⟩ u).heap[k]? = W.heap[k]? := fun k hk => Below.heap_setCell W ⟨O, j, none⟩ u k hk
  have hg := (setCells_rest [u] j W (b := O))
  have hlt := h.lt
  refine ⟨⟨(hne E (by omega)).trans h.set.e, (hne T (by omega)).trans h.set.t, (hne B (by omega)).trans h.set.b, h.set.pm.set (Ne.symm hlt.2.2.1) u, h.set.ne⟩, ?_, blk_set h.out j u, own_same h.own (fun k hk => hne k (by have := h.own.lt k hk; omega)), h.lt⟩
  exact ⟨hg.2.1.trans h.but.os, hg.2.2.1.trans h.but.tape, hg.2.2.2.1.trans h.but.output, Nat.le_trans h.but.size (Nat.le_of_eq hg.1.symm), fun k hk h1 h2 h3 => (hne k h3).trans (h.but.block k hk h1 h2 h3)⟩
theorem LpW.reads (h : LpW bk fv E T B m O Ws cs es v xs W) : ∃ A c, v = .slice A xs.length c ∧ Kd.C (Kd.int .i64) W A xs.length xs ∧ xs.length ≤ c ∧ (∀ ad, A = some ad → Ws.heap.size ≤ ad.block ∧ ad.block < W.heap.size) := by
  obtain ⟨A, c, e, hr⟩ := own_reads_of (d := (0 : Int)) h.own
  have hl := h.own.lt
  refine ⟨A, c, e, Kd.C_of_reads (d := (0 : Int)) (h1 := fun _ => rfl) hr, ?_, fun ad ha => ?_⟩
  · rcases h.own.2 with ⟨e1, h0⟩ | ⟨g, cap, cur, e1, _, _, hcap, _⟩
    · omega
    · rw [e] at e1
      cases e1
      exact hcap
  · subst ha
    exact hl ad.block (by rw [e]; rfl)
end
theorem exec_store_28 {o : Oper} {a : Act} {w : World} {tx ty : Operand} {b k : Nat} {cs : Array Value} {A : Option Addr} {n c : Nat} (hB : w.heap[b]? = some (.cells cs 30 (0, 0))) (hk : k < cs.size) (hop : o.op = .store 28 tx ty) (hx : a.eval tx = .pointer (some ⟨b, k, none⟩)) (hy : a.eval ty = .slice A n c) :
    (execOp a.eval o).run Tryd.prog w = .ok .skip (w.setCell ⟨b, k, none⟩ (.slice A n c)) := by
  have hc := blk_cell hB k
  have hf := blk_frozen hB k
  simp only [execOp, hop, hx, hy]
  simp [go_sem, hc, hf, hk]
theorem exec_load_28 {o : Oper} {a : Act} {w : World} {ta : Operand} {b k : Nat} {v : Value} (hc : w.cell? ⟨b, k, none⟩ = some v) (hop : o.op = .load 28 ta) (ha : a.eval ta = .pointer (some ⟨b, k, none⟩)) : (execOp a.eval o).run Tryd.prog w = .ok (.value v) w := by
  simp only [execOp, hop, ha]
  simp [go_sem, hc]
end Go.Proofs.YtohbeninpmmmpaaDoor
end
