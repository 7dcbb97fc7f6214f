/- PROVED: StarEndsCardSaid, for every input, where the listed variable reads as the program's text lays it. Part 6 of 7: of this session; merged by wip/tools/mkClaim.py. -/
import Derived.Test.YtohbeninpmmmpaaDoorMEndse
import Derived.Test.YtohbeninpmmmpaaDoorMEndsb
section
/- StarEnds, walked by hand. -/
set_option linter.unusedSimpArgs false
set_option linter.unusedVariables false
namespace Go.Proofs.YtohbeninpmmmpaaDoor
open Go.RowKit Go.Proofs.YtohbeninpmmmpaaDoorW.PrintWords Go.Proofs.YtohbeninpmmmpaaDoorW.PrintLast Go.Proofs.YtohbeninpmmmpaaDoorW.PrintMore TrydX.X
attribute [local go_sem] Oper.semAt_some
theorem held4 {K : World → Prop} (hK : ∀ W W1 : World, K W → Below W.heap.size W W1 → K W1) {W W1 : World} {p0 p1 p2 p3 : Addr} {v0 v1 v2 v3 : Value} (h : (W.cell? p0 = some v0 ∧ W.cell? p1 = some v1 ∧ W.cell? p2 = some v2 ∧ W.cell? p3 = some v3) ∧ K W) (hb : Below W.heap.size W W1) : (W1.cell? p0 = some v0 ∧ W1.cell? p1 = some v1 ∧ W1.cell? p2 = some v2 ∧ W1.cell? p3 = some v3) ∧ K W1 := by
  obtain ⟨⟨h0, h1, h2, h3⟩, hk⟩ := h
  exact ⟨⟨cell_below hb h0, cell_below hb h1, cell_below hb h2, cell_below hb h3⟩, hK _ _ hk hb⟩
theorem held5 {K : World → Prop} (hK : ∀ W W1 : World, K W → Below W.heap.size W W1 → K W1) {W W1 : World} {p0 p1 p2 p3 p4 : Addr} {v0 v1 v2 v3 v4 : Value} (h : (W.cell? p0 = some v0 ∧ W.cell? p1 = some v1 ∧ W.cell? p2 = some v2 ∧ W.cell? p3 = some v3 ∧ W.cell? p4 = some v4) ∧ K W) (hb : Below W.heap.size W W1) : (W1.cell? p0 = some v0 ∧ W1.cell? p1 = some v1 ∧ W1.cell? p2 = some v2 ∧ W1.cell? p3 = some v3 ∧ W1.cell? p4 = some v4) ∧ K W1 := by
  obtain ⟨⟨h0, h1, h2, h3, h4⟩, hk⟩ := h
  exact ⟨⟨cell_below hb h0, cell_below hb h1, cell_below hb h2, cell_below hb h3, cell_below hb h4⟩, hK _ _ hk hb⟩
def ends15T : Bool × List (List Nat × List Nat) := (true, [([], []), ([0], [0]), ([1], [1]), ([2], [2]), ([3, 2], [2, 3]), ([2, 4], [2, 4]), ([5, 2], [5]), ([6], [6]), ([7, 6], [6, 7]), ([8, 6], [6, 8]), ([6], [6]), ([10, 6], [6, 10]), ([9, 11, 6], [6, 9, 11]), ([6, 12], [6, 12]), ([13, 6], [13]), ([14], [14]), ([15, 14], [14, 15]), ([16, 14, 14], [14, 16]), ([17], [17]), ([18, 17], [17, 18]), ([17], [17]), ([19, 20, 17], [17, 19, 20]), ([21, 17], [17, 21]), ([17], [17]), ([23, 17], [17, 23]), ([22, 24, 17], [17, 22, 24]), ([17, 25, 14], [14, 17, 25]), ([14, 26], [14, 26]), ([27, 17], [27]), ([28], [28]), ([29, 28], [28, 29]), ([30, 28, 28], [28, 30]), ([31], [31]), ([32, 31], [31, 32]), ([31], [31]), ([33, 34, 31], [31, 33, 34]), ([35, 31], [31, 35]), ([31], [31]), ([37, 31], [31, 37]), ([36, 38, 31], [31, 36, 38]), ([31, 39, 28], [28, 31, 39]), ([28, 40], [28, 40])])
def ends15B : List Nat := [0, 1, 3, 7, 15, 31, 63, 127, 255, 511, 127, 1151, 4095, 8191, 16383, 32767, 65535, 131071, 262143, 524287, 262143, 2097151, 4194303, 262143, 8650751, 33554431, 67108863, 134217727, 268435455, 536870911, 1073741823, 2147483647, 4294967295, 8589934591, 4294967295, 34359738367, 68719476735, 4294967295, 141733920767, 549755813887, 1099511627775, 2199023255551]
theorem ends15_tab : rtab .any (opsOf Tryd.f8 15) = ends15T := by kernel_rfl
theorem ends15_bits : waitsOk ends15T.2 ends15B = true := by kernel_rfl
theorem exec_load_at {o : Oper} {a : Act} {w : World} {ta : Operand} {ad : Addr} {v : Value} (hc : w.cell? ad = some v) (hop : o.op = .load 3 ta) (ha : a.eval ta = .pointer (some ad)) : (execOp a.eval o).run Tryd.prog w = .ok (.value v) w := by
  simp only [execOp, hop, ha]
  simp [go_sem, hc]
theorem elem_int {W : World} {ad : Addr} {xs : List Int} (h : Kd.C (Kd.int .i64) W (some ad) xs.length xs) {i : Int} (h0 : 0 ≤ i) (h1 : i < xs.length) : W.cell? (ad.add i.toNat) = some (.int .i64 (rd xs i)) := by
  obtain ⟨a, e, hc⟩ := (Kd.reads_of_C (enc := Value.int .i64) (d := (0 : Int)) (h1 := fun _ => rfl) h).2.2 (by omega)
  cases e
  exact hc i.toNat (by omega)
theorem C_some {W : World} {A : Option Addr} {xs : List Int} (h : Kd.C (Kd.int .i64) W A xs.length xs) (h0 : 0 < xs.length) : ∃ ad, A = some ad := by
  obtain ⟨a, e, hc⟩ := (Kd.reads_of_C (enc := Value.int .i64) (d := (0 : Int)) (h1 := fun _ => rfl) h).2.2 h0
  exact ⟨a, e⟩
/-- Case, its rows read. -/
theorem case_c (N b0 b1 r0 r1 : Int) (A5 : Option Addr) (c5 : Nat) (l5 : List S23) (A6 : Option Addr) (c6 : Nat) (l6 : List S23) (A7 : Option Addr) (c7 : Nat) (l7 : List S63) (i : Int) (m : Bool) (o0 o1 o2 : List Int) (err : Int) (w : World) (h5 : Kd.C k23 w A5 l5.length l5) (hc5 : l5.length ≤ c5) (h6 : Kd.C k23 w A6 l6.length l6) (hc6 : l6.length ≤ c6) (h7 : Kd.C k63 w A7 l7.length l7) (hc7 : l7.length ≤ c7) (hW : Ways w) (h : star_Case.f N b0 b1 r0 r1 l5 l6 l7 i m = some (o0, o1, o2, err)) :
    Calls Tryd.prog 30 #[.agg #[.int .i64 N, .int .i64 b0, .int .i64 b1, .int .i64 r0, .int .i64 r1, .slice A5 l5.length c5, .slice A6 l6.length c6, .slice A7 l7.length c7], .int .i64 i, .bool m] w fun e w' => ∃ B0 d0 B1 d1 B2 d2, e = .returned (.tuple #[.agg #[.slice B0 o0.length d0, .slice B1 o1.length d1, .slice B2 o2.length d2], .int .i64 err]) ∧
      Kd.C (Kd.int .i64) w' B0 o0.length o0 ∧ Kd.C (Kd.int .i64) w' B1 o1.length o1 ∧ Kd.C (Kd.int .i64) w' B2 o2.length o2 ∧ (o0.length ≤ d0 ∧ o1.length ≤ d1 ∧ o2.length ≤ d2) ∧ Below w.heap.size w w' := by
  refine (star_Case.calls N b0 b1 r0 r1 A5 c5 l5 A6 c6 l6 A7 c7 l7 i m o0 o1 o2 err w h5 hc5 h6 hc6 h7 hc7 hW h).mono ?_
  rintro e w' ⟨v0, v1, v2, rfl, q0, q1, q2, hb⟩
  obtain ⟨A0, c0, rfl⟩ := Kd.V_slice q0
  obtain ⟨A1, c1, rfl⟩ := Kd.V_slice q1
  obtain ⟨A2, c2, rfl⟩ := Kd.V_slice q2
  have a0 := Kd.V_reads' q0
  have a1 := Kd.V_reads' q1
  have a2 := Kd.V_reads' q2
  exact ⟨A0, c0, A1, c1, A2, c2, rfl, a0.2.2, a1.2.2, a2.2.2, ⟨a0.2.1, a1.2.1, a2.2.1⟩, hb⟩
set_option maxRecDepth 100000 in
set_option maxHeartbeats 16000000 in
theorem ends_no (N b0 b1 r0 r1 : Int) (A5 : Option Addr) (c5 : Nat) (l5 : List S23) (A6 : Option Addr) (c6 : Nat) (l6 : List S23) (A7 : Option Addr) (c7 : Nat) (l7 : List S63) (n : Int) (w : World) (hW : Ways w) (h5 : Kd.C k23 w A5 l5.length l5) (hc5 : l5.length ≤ c5) (h6 : Kd.C k23 w A6 l6.length l6) (hc6 : l6.length ≤ c6) (h7 : Kd.C k63 w A7 l7.length l7) (hc7 : l7.length ≤ c7)
    (hs : remontoirlaw03_sound.f N b0 b1 r0 r1 l5 l6 l7 = some false) :
    Calls Tryd.prog 8 #[.agg #[.int .i64 N, .int .i64 b0, .int .i64 b1, .int .i64 r0, .int .i64 r1, .slice A5 l5.length c5, .slice A6 l6.length c6, .slice A7 l7.length c7], .int .i64 n] w fun e w' => e = .returned (.bool true) ∧ Below w.heap.size w w' := by
  have hx := blk_new w (.cells #[.int .i64 N, .int .i64 b0, .int .i64 b1, .int .i64 r0, .int .i64 r1, .slice A5 l5.length c5, .slice A6 l6.length c6, .slice A7 l7.length c7] 27)
  have HB : Below w.heap.size w (w.alloc (.cells #[.int .i64 N, .int .i64 b0, .int .i64 b1, .int .i64 r0, .int .i64 r1, .slice A5 l5.length c5, .slice A6 l6.length c6, .slice A7 l7.length c7] 27)) := (Below.refl _ _).alloc (Nat.le_refl _) _
  have HW := Lib.hid hW
  have H5 := Lib.hid h5
  have H6 := Lib.hid h6
  have H7 := Lib.hid h7
  clear h5 h6 h7 hW
  go_enter Tryd.func8, Tryd.ntmps8
  go_wp2_with (first | (refine wpList_load_row rfl 27 _ rfl w.heap.size rfl 27 #[.int .i64 N, .int .i64 b0, .int .i64 b1, .int .i64 r0, .int .i64 r1, .slice A5 l5.length c5, .slice A6 l6.length c6, .slice A7 l7.length c7] (0, 0) _ hx Tryd.underlying27 rfl (by kernel_rfl) ?_))
  refine (remontoirlaw03_sound.calls N b0 b1 r0 r1 A5 c5 l5 A6 c6 l6 A7 c7 l7 false _ (Kd.C_below H5.out HB) hc5 (Kd.C_below H6.out HB) hc6 (Kd.C_below H7.out HB) hc7 (HW.out.below HB) hs).mono ?_
  rintro e w1 ⟨rfl, hb⟩
  replace hx := blk_below hx hb
  replace HB := below_call HB hb
  clear hb
  go_wp2_with fail
  refine (works_calls _ (HW.out.below HB)).mono ?_
  rintro e w2 ⟨rfl, hb⟩
  replace hx := blk_below hx hb
  replace HB := below_call HB hb
  clear hb
  go_wp2_with fail
  refine bodyPost_ret (results_tmp rfl _ _ _) rfl ?_
  exact ⟨rfl, HB⟩
set_option maxRecDepth 100000 in
set_option maxHeartbeats 16000000 in
theorem ends_torn (N b0 b1 r0 r1 : Int) (A5 : Option Addr) (c5 : Nat) (l5 : List S23) (A6 : Option Addr) (c6 : Nat) (l6 : List S23) (A7 : Option Addr) (c7 : Nat) (l7 : List S63) (n : Int) (w : World) (hW : Ways w) (h5 : Kd.C k23 w A5 l5.length l5) (hc5 : l5.length ≤ c5) (h6 : Kd.C k23 w A6 l6.length l6) (hc6 : l6.length ≤ c6) (h7 : Kd.C k63 w A7 l7.length l7) (hc7 : l7.length ≤ c7)
    (hs : remontoirlaw03_sound.f N b0 b1 r0 r1 l5 l6 l7 = some true) (i : Int) (hr : remontoirref00_Rest.f n N = some i) (ho : star_Offset.f N b0 b1 r0 r1 l5 l6 l7 i = some (0, 0, 32)) (hcs : ∀ m, star_Case.f N b0 b1 r0 r1 l5 l6 l7 i m = some ([], [], [], 32)) :
    Calls Tryd.prog 8 #[.agg #[.int .i64 N, .int .i64 b0, .int .i64 b1, .int .i64 r0, .int .i64 r1, .slice A5 l5.length c5, .slice A6 l6.length c6, .slice A7 l7.length c7], .int .i64 n] w fun e w' => e = .returned (.bool true) ∧ Below w.heap.size w w' := by
  have hx := blk_new w (.cells #[.int .i64 N, .int .i64 b0, .int .i64 b1, .int .i64 r0, .int .i64 r1, .slice A5 l5.length c5, .slice A6 l6.length c6, .slice A7 l7.length c7] 27)
  have HB : Below w.heap.size w (w.alloc (.cells #[.int .i64 N, .int .i64 b0, .int .i64 b1, .int .i64 r0, .int .i64 r1, .slice A5 l5.length c5, .slice A6 l6.length c6, .slice A7 l7.length c7] 27)) := (Below.refl _ _).alloc (Nat.le_refl _) _
  have HW := Lib.hid hW
  have H5 := Lib.hid h5
  have H6 := Lib.hid h6
  have H7 := Lib.hid h7
  clear h5 h6 h7 hW
  go_enter Tryd.func8, Tryd.ntmps8
  go_wp2_with (first | (refine wpList_load_row rfl 27 _ rfl w.heap.size rfl 27 #[.int .i64 N, .int .i64 b0, .int .i64 b1, .int .i64 r0, .int .i64 r1, .slice A5 l5.length c5, .slice A6 l6.length c6, .slice A7 l7.length c7] (0, 0) _ hx Tryd.underlying27 rfl (by kernel_rfl) ?_))
  refine (remontoirlaw03_sound.calls N b0 b1 r0 r1 A5 c5 l5 A6 c6 l6 A7 c7 l7 true _ (Kd.C_below H5.out HB) hc5 (Kd.C_below H6.out HB) hc6 (Kd.C_below H7.out HB) hc7 (HW.out.below HB) hs).mono ?_
  rintro e w1 ⟨rfl, hb⟩
  replace hx := blk_below hx hb
  replace HB := below_call HB hb
  clear hb
  have hn0 : w1.cell? ⟨w.heap.size, 0, none⟩ = some (.int .i64 N) := (blk_cell hx 0).trans rfl
  go_wp2_with fail
  refine (remontoirref00_Rest.calls n N i _ hr).mono ?_
  rintro e w2 ⟨rfl, hb⟩
  replace hb := hb.below
  replace hx := blk_below hx hb
  replace HB := below_call HB hb
  clear hb
  clear hn0
  go_wp2_with (first | (refine wpList_load_row rfl 27 _ rfl w.heap.size rfl 27 #[.int .i64 N, .int .i64 b0, .int .i64 b1, .int .i64 r0, .int .i64 r1, .slice A5 l5.length c5, .slice A6 l6.length c6, .slice A7 l7.length c7] (0, 0) _ hx Tryd.underlying27 rfl (by kernel_rfl) ?_))
  refine (star_Offset.calls N b0 b1 r0 r1 A5 c5 l5 A6 c6 l6 A7 c7 l7 i 0 0 32 _ (Kd.C_below H5.out HB) hc5 (Kd.C_below H6.out HB) hc6 (Kd.C_below H7.out HB) hc7 (HW.out.below HB) ho).mono ?_
  rintro e w3 ⟨rfl, hb⟩
  replace hx := blk_below hx hb
  replace HB := below_call HB hb
  clear hb
  replace hx := blk_alloc hx (.cells #[.int .i64 0, .int .i64 0] 23)
  have qs := blk_new w3 (.cells #[.int .i64 0, .int .i64 0] 23)
  replace HB := below_alloc HB (.cells #[.int .i64 0, .int .i64 0] 23)
  go_wp2_with (first | (refine wpList_load_row rfl 27 _ rfl w.heap.size rfl 27 #[.int .i64 N, .int .i64 b0, .int .i64 b1, .int .i64 r0, .int .i64 r1, .slice A5 l5.length c5, .slice A6 l6.length c6, .slice A7 l7.length c7] (0, 0) _ hx Tryd.underlying27 rfl (by kernel_rfl) ?_))
  generalize (w3.alloc (.cells #[.int .i64 0, .int .i64 0] 23)) = V0 at *
  have HX0 := Lib.hid hx
  have HQ0 := Lib.hid qs
  have HB0 := Lib.hid HB
  clear hx qs HB
  go_loopw [8] (fun v8 wr => ∃ k : Nat, k ≤ 2 ∧ v8 = .int .i64 k ∧ Below w.heap.size w wr ∧ wr.heap[w.heap.size]? = some (.cells #[.int .i64 N, .int .i64 b0, .int .i64 b1, .int .i64 r0, .int .i64 r1, .slice A5 l5.length c5, .slice A6 l6.length c6, .slice A7 l7.length c7] 27 (0, 0)) ∧ wr.heap[w3.heap.size]? = some (.cells #[.int .i64 0, .int .i64 0] 23 (0, 0))) (fun i _ => 2 - (intOf i).toNat)
  case atStart => exact ⟨0, Nat.zero_le _, rfl, HB0.out, HX0.out, HQ0.out⟩
  case round =>
    obtain ⟨k, hk, rfl, HB, hx, qs⟩ := hrel
    have hk3 : k = 0 ∨ k = 1 ∨ k = 2 := by omega
    rcases hk3 with rfl | rfl | rfl
    ·
      go_wp2_with (first | (refine wpList_load_row rfl 27 _ rfl w.heap.size rfl 27 #[.int .i64 N, .int .i64 b0, .int .i64 b1, .int .i64 r0, .int .i64 r1, .slice A5 l5.length c5, .slice A6 l6.length c6, .slice A7 l7.length c7] (0, 0) _ hx Tryd.underlying27 rfl (by kernel_rfl) ?_))
      refine (case_c N b0 b1 r0 r1 A5 c5 l5 A6 c6 l6 A7 c7 l7 i false [] [] [] 32 _ (Kd.C_below H5.out HB) hc5 (Kd.C_below H6.out HB) hc6 (Kd.C_below H7.out HB) hc7 (HW.out.below HB) (hcs false)).mono ?_
      rintro e w11 ⟨B0, d0, B1, d1, B2, d2, rfl, -, -, -, -, hb⟩
      replace hx := blk_below hx hb
      replace qs := blk_below qs hb
      replace HB := below_call HB hb
      clear hb
      replace hx := blk_alloc hx (.cells #[.slice B0 0 d0, .slice B1 0 d1, .slice B2 0 d2] 30)
      replace qs := blk_alloc qs (.cells #[.slice B0 0 d0, .slice B1 0 d1, .slice B2 0 d2] 30)
      have qt := blk_new w11 (.cells #[.slice B0 0 d0, .slice B1 0 d1, .slice B2 0 d2] 30)
      replace HB := below_alloc HB (.cells #[.slice B0 0 d0, .slice B1 0 d1, .slice B2 0 d2] 30)
      go_wp2_with fail
      generalize (w11.alloc (.cells #[.slice B0 0 d0, .slice B1 0 d1, .slice B2 0 d2] 30)) = V1 at *
      have hK1 : ∀ W W1 : World, (W.heap[w.heap.size]? = some (.cells #[.int .i64 N, .int .i64 b0, .int .i64 b1, .int .i64 r0, .int .i64 r1, .slice A5 l5.length c5, .slice A6 l6.length c6, .slice A7 l7.length c7] 27 (0, 0)) ∧ W.heap[w3.heap.size]? = some (.cells #[.int .i64 0, .int .i64 0] 23 (0, 0)) ∧ Below w.heap.size w W) → Below W.heap.size W W1 → (W1.heap[w.heap.size]? = some (.cells #[.int .i64 N, .int .i64 b0, .int .i64 b1, .int .i64 r0, .int .i64 r1, .slice A5 l5.length c5, .slice A6 l6.length c6, .slice A7 l7.length c7] 27 (0, 0)) ∧ W1.heap[w3.heap.size]? = some (.cells #[.int .i64 0, .int .i64 0] 23 (0, 0)) ∧ Below w.heap.size w W1) := fun W W1 h hb => ⟨blk_below h.1 hb, blk_below h.2.1 hb, below_step h.2.2 hb⟩
      have hS0 : (V1.cell? (⟨w3.heap.size, 0, none⟩) = some (.int .i64 0) ∧ V1.cell? (⟨w3.heap.size, 1, none⟩) = some (.int .i64 0) ∧ V1.cell? (⟨w11.heap.size, 0, none⟩) = some (.slice B0 0 d0) ∧ V1.cell? (⟨w11.heap.size, 1, none⟩) = some (.slice B1 0 d1) ∧ V1.cell? (⟨w11.heap.size, 2, none⟩) = some (.slice B2 0 d2)) ∧ (V1.heap[w.heap.size]? = some (.cells #[.int .i64 N, .int .i64 b0, .int .i64 b1, .int .i64 r0, .int .i64 r1, .slice A5 l5.length c5, .slice A6 l6.length c6, .slice A7 l7.length c7] 27 (0, 0)) ∧ V1.heap[w3.heap.size]? = some (.cells #[.int .i64 0, .int .i64 0] 23 (0, 0)) ∧ Below w.heap.size w V1) := ⟨⟨(blk_cell qs 0).trans rfl, (blk_cell qs 1).trans rfl, (blk_cell qt 0).trans rfl, (blk_cell qt 1).trans rfl, (blk_cell qt 2).trans rfl⟩, ⟨hx, qs, HB⟩⟩
      clear hx qs HB
      go_region_held3 (fun W : World => (W.cell? (⟨w3.heap.size, 0, none⟩) = some (.int .i64 0) ∧ W.cell? (⟨w3.heap.size, 1, none⟩) = some (.int .i64 0) ∧ W.cell? (⟨w11.heap.size, 0, none⟩) = some (.slice B0 0 d0) ∧ W.cell? (⟨w11.heap.size, 1, none⟩) = some (.slice B1 0 d1) ∧ W.cell? (⟨w11.heap.size, 2, none⟩) = some (.slice B2 0 d2)) ∧ (W.heap[w.heap.size]? = some (.cells #[.int .i64 N, .int .i64 b0, .int .i64 b1, .int .i64 r0, .int .i64 r1, .slice A5 l5.length c5, .slice A6 l6.length c6, .slice A7 l7.length c7] 27 (0, 0)) ∧ W.heap[w3.heap.size]? = some (.cells #[.int .i64 0, .int .i64 0] 23 (0, 0)) ∧ Below w.heap.size w W))
        (first | with_reducible exact held5 hK1 (by assumption) (by assumption) | exact held5 hK1 hS0 (Below.refl _ _).drew | assumption)
        (first | (go_at_call 43; refine (remontoirref00_To.calls _ _ _ _ _ rfl).mono ?_; rintro e wT ⟨rfl, hbT⟩))
      rename_i V2 hh
      obtain ⟨-, hx, qs, HB⟩ := hh
      clear hS0 hK1
      go_wp2_with fail
      go_roundw
      case rel => exact ⟨1, by decide, by go_num, HB, hx, qs⟩
      case measure => simp [intOf]
    ·
      go_wp2_with (first | (refine wpList_load_row rfl 27 _ rfl w.heap.size rfl 27 #[.int .i64 N, .int .i64 b0, .int .i64 b1, .int .i64 r0, .int .i64 r1, .slice A5 l5.length c5, .slice A6 l6.length c6, .slice A7 l7.length c7] (0, 0) _ hx Tryd.underlying27 rfl (by kernel_rfl) ?_))
      refine (case_c N b0 b1 r0 r1 A5 c5 l5 A6 c6 l6 A7 c7 l7 i true [] [] [] 32 _ (Kd.C_below H5.out HB) hc5 (Kd.C_below H6.out HB) hc6 (Kd.C_below H7.out HB) hc7 (HW.out.below HB) (hcs true)).mono ?_
      rintro e w11 ⟨B0, d0, B1, d1, B2, d2, rfl, -, -, -, -, hb⟩
      replace hx := blk_below hx hb
      replace qs := blk_below qs hb
      replace HB := below_call HB hb
      clear hb
      replace hx := blk_alloc hx (.cells #[.slice B0 0 d0, .slice B1 0 d1, .slice B2 0 d2] 30)
      replace qs := blk_alloc qs (.cells #[.slice B0 0 d0, .slice B1 0 d1, .slice B2 0 d2] 30)
      have qt := blk_new w11 (.cells #[.slice B0 0 d0, .slice B1 0 d1, .slice B2 0 d2] 30)
      replace HB := below_alloc HB (.cells #[.slice B0 0 d0, .slice B1 0 d1, .slice B2 0 d2] 30)
      go_wp2_with fail
      generalize (w11.alloc (.cells #[.slice B0 0 d0, .slice B1 0 d1, .slice B2 0 d2] 30)) = V1 at *
      have hK2 : ∀ W W1 : World, (W.heap[w.heap.size]? = some (.cells #[.int .i64 N, .int .i64 b0, .int .i64 b1, .int .i64 r0, .int .i64 r1, .slice A5 l5.length c5, .slice A6 l6.length c6, .slice A7 l7.length c7] 27 (0, 0)) ∧ W.heap[w3.heap.size]? = some (.cells #[.int .i64 0, .int .i64 0] 23 (0, 0)) ∧ Below w.heap.size w W) → Below W.heap.size W W1 → (W1.heap[w.heap.size]? = some (.cells #[.int .i64 N, .int .i64 b0, .int .i64 b1, .int .i64 r0, .int .i64 r1, .slice A5 l5.length c5, .slice A6 l6.length c6, .slice A7 l7.length c7] 27 (0, 0)) ∧ W1.heap[w3.heap.size]? = some (.cells #[.int .i64 0, .int .i64 0] 23 (0, 0)) ∧ Below w.heap.size w W1) := fun W W1 h hb => ⟨blk_below h.1 hb, blk_below h.2.1 hb, below_step h.2.2 hb⟩
      have hS0 : (V1.cell? (⟨w3.heap.size, 0, none⟩) = some (.int .i64 0) ∧ V1.cell? (⟨w3.heap.size, 1, none⟩) = some (.int .i64 0) ∧ V1.cell? (⟨w11.heap.size, 0, none⟩) = some (.slice B0 0 d0) ∧ V1.cell? (⟨w11.heap.size, 1, none⟩) = some (.slice B1 0 d1) ∧ V1.cell? (⟨w11.heap.size, 2, none⟩) = some (.slice B2 0 d2)) ∧ (V1.heap[w.heap.size]? = some (.cells #[.int .i64 N, .int .i64 b0, .int .i64 b1, .int .i64 r0, .int .i64 r1, .slice A5 l5.length c5, .slice A6 l6.length c6, .slice A7 l7.length c7] 27 (0, 0)) ∧ V1.heap[w3.heap.size]? = some (.cells #[.int .i64 0, .int .i64 0] 23 (0, 0)) ∧ Below w.heap.size w V1) := ⟨⟨(blk_cell qs 0).trans rfl, (blk_cell qs 1).trans rfl, (blk_cell qt 0).trans rfl, (blk_cell qt 1).trans rfl, (blk_cell qt 2).trans rfl⟩, ⟨hx, qs, HB⟩⟩
      clear hx qs HB
      go_region_held3 (fun W : World => (W.cell? (⟨w3.heap.size, 0, none⟩) = some (.int .i64 0) ∧ W.cell? (⟨w3.heap.size, 1, none⟩) = some (.int .i64 0) ∧ W.cell? (⟨w11.heap.size, 0, none⟩) = some (.slice B0 0 d0) ∧ W.cell? (⟨w11.heap.size, 1, none⟩) = some (.slice B1 0 d1) ∧ W.cell? (⟨w11.heap.size, 2, none⟩) = some (.slice B2 0 d2)) ∧ (W.heap[w.heap.size]? = some (.cells #[.int .i64 N, .int .i64 b0, .int .i64 b1, .int .i64 r0, .int .i64 r1, .slice A5 l5.length c5, .slice A6 l6.length c6, .slice A7 l7.length c7] 27 (0, 0)) ∧ W.heap[w3.heap.size]? = some (.cells #[.int .i64 0, .int .i64 0] 23 (0, 0)) ∧ Below w.heap.size w W))
        (first | with_reducible exact held5 hK2 (by assumption) (by assumption) | exact held5 hK2 hS0 (Below.refl _ _).drew | assumption)
        (first | (go_at_call 43; refine (remontoirref00_To.calls _ _ _ _ _ rfl).mono ?_; rintro e wT ⟨rfl, hbT⟩))
      rename_i V2 hh
      obtain ⟨-, hx, qs, HB⟩ := hh
      clear hS0 hK2
      go_wp2_with fail
      go_roundw
      case rel => exact ⟨2, by decide, by go_num, HB, hx, qs⟩
      case measure => simp [intOf]
    ·
      go_wp2_with fail
      refine (works_calls _ (HW.out.below HB)).mono ?_
      rintro e w11 ⟨rfl, hb⟩
      replace hx := blk_below hx hb
      replace qs := blk_below qs hb
      replace HB := below_call HB hb
      clear hb
      go_wp2_with fail
      refine bodyPost_ret (results_tmp rfl _ _ _) rfl ?_
      exact ⟨rfl, HB⟩
set_option maxRecDepth 100000 in
set_option maxHeartbeats 16000000 in
theorem ends_yes (N b0 b1 r0 r1 : Int) (A5 : Option Addr) (c5 : Nat) (l5 : List S23) (A6 : Option Addr) (c6 : Nat) (l6 : List S23) (A7 : Option Addr) (c7 : Nat) (l7 : List S63) (n : Int) (w : World) (hW : Ways w) (h5 : Kd.C k23 w A5 l5.length l5) (hc5 : l5.length ≤ c5) (h6 : Kd.C k23 w A6 l6.length l6) (hc6 : l6.length ≤ c6) (h7 : Kd.C k63 w A7 l7.length l7) (hc7 : l7.length ≤ c7)
    (hs : remontoirlaw03_sound.f N b0 b1 r0 r1 l5 l6 l7 = some true) (i j lo hi lo2 hi2 : Int) (hr : remontoirref00_Rest.f n N = some i) (hi0 : 0 ≤ i) (hi1 : i < N) (hrj : remontoirref00_Rest.f (wrap64 (n + 1)) N = some j) (hj0 : 0 ≤ j) (hj1 : j < N) (ho : star_Offset.f N b0 b1 r0 r1 l5 l6 l7 i = some (lo, hi, 0)) (hoj : star_Offset.f N b0 b1 r0 r1 l5 l6 l7 j = some (lo2, hi2, 0))
    (Ra0 Ra1 Ra2 : List Int) (hca : star_Case.f N b0 b1 r0 r1 l5 l6 l7 i false = some (Ra0, Ra1, Ra2, 0)) (hla : (Ra0.length : Int) = N) (hta : star_IsTruth.f N b0 b1 r0 r1 l5 l6 l7 Ra0 Ra1 Ra2 = some (true, 0)) (hea : rd Ra0 i = lo) (hha : remontoirref00_Has.f lo2 hi2 (rd Ra0 j) = some true)
    (Rb0 Rb1 Rb2 : List Int) (hcb : star_Case.f N b0 b1 r0 r1 l5 l6 l7 i true = some (Rb0, Rb1, Rb2, 0)) (hlb : (Rb0.length : Int) = N) (htb : star_IsTruth.f N b0 b1 r0 r1 l5 l6 l7 Rb0 Rb1 Rb2 = some (true, 0)) (heb : rd Rb0 i = hi) (hhb : remontoirref00_Has.f lo2 hi2 (rd Rb0 j) = some true) :
    Calls Tryd.prog 8 #[.agg #[.int .i64 N, .int .i64 b0, .int .i64 b1, .int .i64 r0, .int .i64 r1, .slice A5 l5.length c5, .slice A6 l6.length c6, .slice A7 l7.length c7], .int .i64 n] w fun e w' => e = .returned (.bool true) ∧ Below w.heap.size w w' := by
  have hx := blk_new w (.cells #[.int .i64 N, .int .i64 b0, .int .i64 b1, .int .i64 r0, .int .i64 r1, .slice A5 l5.length c5, .slice A6 l6.length c6, .slice A7 l7.length c7] 27)
  have HB : Below w.heap.size w (w.alloc (.cells #[.int .i64 N, .int .i64 b0, .int .i64 b1, .int .i64 r0, .int .i64 r1, .slice A5 l5.length c5, .slice A6 l6.length c6, .slice A7 l7.length c7] 27)) := (Below.refl _ _).alloc (Nat.le_refl _) _
  have HW := Lib.hid hW
  have H5 := Lib.hid h5
  have H6 := Lib.hid h6
  have H7 := Lib.hid h7
  clear h5 h6 h7 hW
  go_enter Tryd.func8, Tryd.ntmps8
  go_wp2_with (first | (refine wpList_load_row rfl 27 _ rfl w.heap.size rfl 27 #[.int .i64 N, .int .i64 b0, .int .i64 b1, .int .i64 r0, .int .i64 r1, .slice A5 l5.length c5, .slice A6 l6.length c6, .slice A7 l7.length c7] (0, 0) _ hx Tryd.underlying27 rfl (by kernel_rfl) ?_))
  refine (remontoirlaw03_sound.calls N b0 b1 r0 r1 A5 c5 l5 A6 c6 l6 A7 c7 l7 true _ (Kd.C_below H5.out HB) hc5 (Kd.C_below H6.out HB) hc6 (Kd.C_below H7.out HB) hc7 (HW.out.below HB) hs).mono ?_
  rintro e w1 ⟨rfl, hb⟩
  replace hx := blk_below hx hb
  replace HB := below_call HB hb
  clear hb
  have hn0 : w1.cell? ⟨w.heap.size, 0, none⟩ = some (.int .i64 N) := (blk_cell hx 0).trans rfl
  go_wp2_with fail
  refine (remontoirref00_Rest.calls n N i _ hr).mono ?_
  rintro e w2 ⟨rfl, hb⟩
  replace hb := hb.below
  replace hx := blk_below hx hb
  replace HB := below_call HB hb
  clear hb
  clear hn0
  go_wp2_with (first | (refine wpList_load_row rfl 27 _ rfl w.heap.size rfl 27 #[.int .i64 N, .int .i64 b0, .int .i64 b1, .int .i64 r0, .int .i64 r1, .slice A5 l5.length c5, .slice A6 l6.length c6, .slice A7 l7.length c7] (0, 0) _ hx Tryd.underlying27 rfl (by kernel_rfl) ?_))
  refine (star_Offset.calls N b0 b1 r0 r1 A5 c5 l5 A6 c6 l6 A7 c7 l7 i lo hi 0 _ (Kd.C_below H5.out HB) hc5 (Kd.C_below H6.out HB) hc6 (Kd.C_below H7.out HB) hc7 (HW.out.below HB) ho).mono ?_
  rintro e w3 ⟨rfl, hb⟩
  replace hx := blk_below hx hb
  replace HB := below_call HB hb
  clear hb
  replace hx := blk_alloc hx (.cells #[.int .i64 lo, .int .i64 hi] 23)
  have qs := blk_new w3 (.cells #[.int .i64 lo, .int .i64 hi] 23)
  replace HB := below_alloc HB (.cells #[.int .i64 lo, .int .i64 hi] 23)
  go_wp2_with (first | (refine wpList_load_row rfl 27 _ rfl w.heap.size rfl 27 #[.int .i64 N, .int .i64 b0, .int .i64 b1, .int .i64 r0, .int .i64 r1, .slice A5 l5.length c5, .slice A6 l6.length c6, .slice A7 l7.length c7] (0, 0) _ hx Tryd.underlying27 rfl (by kernel_rfl) ?_))
  generalize (w3.alloc (.cells #[.int .i64 lo, .int .i64 hi] 23)) = V0 at *
  have HX0 := Lib.hid hx
  have HQ0 := Lib.hid qs
  have HB0 := Lib.hid HB
  clear hx qs HB
  go_loopw [8] (fun v8 wr => ∃ k : Nat, k ≤ 2 ∧ v8 = .int .i64 k ∧ Below w.heap.size w wr ∧ wr.heap[w.heap.size]? = some (.cells #[.int .i64 N, .int .i64 b0, .int .i64 b1, .int .i64 r0, .int .i64 r1, .slice A5 l5.length c5, .slice A6 l6.length c6, .slice A7 l7.length c7] 27 (0, 0)) ∧ wr.heap[w3.heap.size]? = some (.cells #[.int .i64 lo, .int .i64 hi] 23 (0, 0))) (fun i _ => 2 - (intOf i).toNat)
  case atStart => exact ⟨0, Nat.zero_le _, rfl, HB0.out, HX0.out, HQ0.out⟩
  case round =>
    obtain ⟨k, hk, rfl, HB, hx, qs⟩ := hrel
    have hk3 : k = 0 ∨ k = 1 ∨ k = 2 := by omega
    rcases hk3 with rfl | rfl | rfl
    ·
      go_wp2_with (first | (refine wpList_load_row rfl 27 _ rfl w.heap.size rfl 27 #[.int .i64 N, .int .i64 b0, .int .i64 b1, .int .i64 r0, .int .i64 r1, .slice A5 l5.length c5, .slice A6 l6.length c6, .slice A7 l7.length c7] (0, 0) _ hx Tryd.underlying27 rfl (by kernel_rfl) ?_))
      refine (case_c N b0 b1 r0 r1 A5 c5 l5 A6 c6 l6 A7 c7 l7 i false Ra0 Ra1 Ra2 0 _ (Kd.C_below H5.out HB) hc5 (Kd.C_below H6.out HB) hc6 (Kd.C_below H7.out HB) hc7 (HW.out.below HB) hca).mono ?_
      rintro e w11 ⟨B0, d0, B1, d1, B2, d2, rfl, hC, hC1, hC2, hd, hb⟩
      replace hx := blk_below hx hb
      replace qs := blk_below qs hb
      replace HB := below_call HB hb
      clear hb
      obtain ⟨ad, rfl⟩ := C_some hC (by omega)
      replace hx := blk_alloc hx (.cells #[.slice (some ad) Ra0.length d0, .slice B1 Ra1.length d1, .slice B2 Ra2.length d2] 30)
      replace qs := blk_alloc qs (.cells #[.slice (some ad) Ra0.length d0, .slice B1 Ra1.length d1, .slice B2 Ra2.length d2] 30)
      replace hC := Kd.C_alloc hC (.cells #[.slice (some ad) Ra0.length d0, .slice B1 Ra1.length d1, .slice B2 Ra2.length d2] 30)
      replace hC1 := Kd.C_alloc hC1 (.cells #[.slice (some ad) Ra0.length d0, .slice B1 Ra1.length d1, .slice B2 Ra2.length d2] 30)
      replace hC2 := Kd.C_alloc hC2 (.cells #[.slice (some ad) Ra0.length d0, .slice B1 Ra1.length d1, .slice B2 Ra2.length d2] 30)
      have qt := blk_new w11 (.cells #[.slice (some ad) Ra0.length d0, .slice B1 Ra1.length d1, .slice B2 Ra2.length d2] 30)
      replace HB := below_alloc HB (.cells #[.slice (some ad) Ra0.length d0, .slice B1 Ra1.length d1, .slice B2 Ra2.length d2] 30)
      go_wp2_with (first | (refine wpList_load_row rfl 27 _ rfl w.heap.size rfl 27 #[.int .i64 N, .int .i64 b0, .int .i64 b1, .int .i64 r0, .int .i64 r1, .slice A5 l5.length c5, .slice A6 l6.length c6, .slice A7 l7.length c7] (0, 0) _ hx Tryd.underlying27 rfl (by kernel_rfl) ?_) | (refine wpList_load_row rfl 30 _ rfl w11.heap.size rfl 30 #[.slice (some ad) Ra0.length d0, .slice B1 Ra1.length d1, .slice B2 Ra2.length d2] (0, 0) _ qt Tryd.underlying30 rfl (by kernel_rfl) ?_))
      refine (star_IsTruth.calls N b0 b1 r0 r1 A5 c5 l5 A6 c6 l6 A7 c7 l7 (some ad) d0 Ra0 B1 d1 Ra1 B2 d2 Ra2 true 0 _ (Kd.C_below H5.out HB) hc5 (Kd.C_below H6.out HB) hc6 (Kd.C_below H7.out HB) hc7 hC hd.1 hC1 hd.2.1 hC2 hd.2.2 (HW.out.below HB) hta).mono ?_
      rintro e w12 ⟨rfl, hb⟩
      replace hx := blk_below hx hb
      replace qs := blk_below qs hb
      replace qt := blk_below qt hb
      replace hC := Kd.C_below hC hb
      replace hC1 := Kd.C_below hC1 hb
      replace hC2 := Kd.C_below hC2 hb
      replace HB := below_call HB hb
      clear hb
      have he := elem_int (Kd.C_drew hC) hi0 (by omega)
      rw [hea] at he
      go_wp2_with fail
      clear hC1 hC2 hd
      refine wp_calm ?_
      refine start_ (n := 42) (S := fun w' => w'.cell? ⟨w.heap.size, 0, none⟩ = some (.int .i64 N) ∧ w'.cell? ⟨w3.heap.size, 0, none⟩ = some (.int .i64 lo) ∧ w'.cell? ⟨w11.heap.size, 0, none⟩ = some (.slice (some ad) Ra0.length d0) ∧ w'.cell? (ad.add i.toNat) = some (.int .i64 lo)) (ds := []) #[false, false, false, false, false, false, false, false, false, false, false, false, false, false, false, false, false, false, false, false, false, false, false, false, false, false, false, false, false, false, false, false, false, false, false, false, false, false, false, false, false, false] (by kernel_rfl) rfl rfl ⟨(blk_cell (blk_drew hx) 0).trans rfl, (blk_cell (blk_drew qs) 0).trans rfl, (blk_cell (blk_drew qt) 0).trans rfl, he⟩ (fun hHeld => ?_)
      refine with_tabW ends15_tab ends15_bits (fun HT_ HW_ => ?_)
      replace hx := blk_drew hx
      replace qs := blk_drew qs
      replace qt := blk_drew qt
      replace hC := Kd.C_drew hC
      replace HB := below_drew1 HB
      generalize (w12).drew = Vd at *
      refine pureA 0 73 ?_
      refine pureA 1 74 ?_
      refine pureA 2 75 ?_
      refine pureA 3 76 ?_
      refine pureA 4 77 ?_
      refine pureA 5 78 ?_
      refine pureA 6 79 ?_
      refine pureA 7 80 ?_
      refine takeA 8 81 rfl rfl (by rintro w' ⟨s0, s1, s2, s3⟩; exact exec_load_28 s2 rfl rfl) ?_
      refine pureA 9 82 ?_
      refine pureA 10 83 ?_
      refine takeA 11 84 rfl rfl (by rintro w' ⟨s0, s1, s2, s3⟩; exact exec_load_at s0 rfl rfl) ?_
      refine pureA 12 85 ?_
      refine pureA 13 86 ?_
      refine pureA 14 87 ?_
      refine pureA 15 88 ?_
      refine pureA 16 89 ?_
      refine pureA 17 90 ?_
      refine pureA 18 91 ?_
      refine takeA 19 92 rfl rfl (by rintro w' ⟨s0, s1, s2, s3⟩; exact exec_load_28 s2 rfl rfl) ?_
      refine pureA 20 93 ?_
      refine pureA 21 94 ?_
      refine takeA 22 95 rfl rfl (by rintro w' ⟨s0, s1, s2, s3⟩; exact exec_load_at s3 rfl rfl) ?_
      refine pureA 23 96 ?_
      refine takeA 24 97 rfl rfl (by rintro w' ⟨s0, s1, s2, s3⟩; exact exec_load_at s1 rfl rfl) ?_
      refine pureA 25 98 ?_
      refine pureA 26 99 ?_
      refine pureA 27 100 ?_
      refine pureA 28 101 ?_
      refine pureA 29 102 ?_
      refine pureA 30 103 ?_
      refine pureA 31 104 ?_
      refine pureU 32 105 ?_
      refine pureU 33 106 ?_
      refine pureU 34 107 ?_
      refine pureU 35 108 ?_
      refine pureU 36 109 ?_
      refine pureU 37 110 ?_
      refine pureU 38 111 ?_
      refine pureU 39 112 ?_
      refine pureA 40 113 ?_
      refine pureA 41 114 ?_
      refine done_ (done_of HT_.out (by kernel_rfl)) ?_
      clear HT_ HW_ hHeld
      refine calm_normal ?_
      clear he
      have hn0 : Vd.cell? ⟨w.heap.size, 0, none⟩ = some (.int .i64 N) := (blk_cell hx 0).trans rfl
      go_wp2_with fail
      refine (remontoirref00_Rest.calls (wrap64 (n + 1)) N j _ hrj).mono ?_
      rintro e w13 ⟨rfl, hb⟩
      replace hb := hb.below
      replace hx := blk_below hx hb
      replace qs := blk_below qs hb
      replace qt := blk_below qt hb
      replace hC := Kd.C_below hC hb
      replace HB := below_call HB hb
      clear hb
      clear hn0
      go_wp2_with (first | (refine wpList_load_row rfl 27 _ rfl w.heap.size rfl 27 #[.int .i64 N, .int .i64 b0, .int .i64 b1, .int .i64 r0, .int .i64 r1, .slice A5 l5.length c5, .slice A6 l6.length c6, .slice A7 l7.length c7] (0, 0) _ hx Tryd.underlying27 rfl (by kernel_rfl) ?_))
      refine (star_Offset.calls N b0 b1 r0 r1 A5 c5 l5 A6 c6 l6 A7 c7 l7 j lo2 hi2 0 _ (Kd.C_below H5.out HB) hc5 (Kd.C_below H6.out HB) hc6 (Kd.C_below H7.out HB) hc7 (HW.out.below HB) hoj).mono ?_
      rintro e w14 ⟨rfl, hb⟩
      replace hx := blk_below hx hb
      replace qs := blk_below qs hb
      replace qt := blk_below qt hb
      replace hC := Kd.C_below hC hb
      replace HB := below_call HB hb
      clear hb
      replace hx := blk_alloc hx (.cells #[.int .i64 lo2, .int .i64 hi2] 23)
      replace qs := blk_alloc qs (.cells #[.int .i64 lo2, .int .i64 hi2] 23)
      replace qt := blk_alloc qt (.cells #[.int .i64 lo2, .int .i64 hi2] 23)
      replace hC := Kd.C_alloc hC (.cells #[.int .i64 lo2, .int .i64 hi2] 23)
      have qo := blk_new w14 (.cells #[.int .i64 lo2, .int .i64 hi2] 23)
      replace HB := below_alloc HB (.cells #[.int .i64 lo2, .int .i64 hi2] 23)
      have he := elem_int hC hj0 (by omega)
      go_wp2_with fail
      have hK1 : ∀ W W1 : World, (W.heap[w.heap.size]? = some (.cells #[.int .i64 N, .int .i64 b0, .int .i64 b1, .int .i64 r0, .int .i64 r1, .slice A5 l5.length c5, .slice A6 l6.length c6, .slice A7 l7.length c7] 27 (0, 0)) ∧ W.heap[w3.heap.size]? = some (.cells #[.int .i64 lo, .int .i64 hi] 23 (0, 0)) ∧ Below w.heap.size w W) → Below W.heap.size W W1 → (W1.heap[w.heap.size]? = some (.cells #[.int .i64 N, .int .i64 b0, .int .i64 b1, .int .i64 r0, .int .i64 r1, .slice A5 l5.length c5, .slice A6 l6.length c6, .slice A7 l7.length c7] 27 (0, 0)) ∧ W1.heap[w3.heap.size]? = some (.cells #[.int .i64 lo, .int .i64 hi] 23 (0, 0)) ∧ Below w.heap.size w W1) := fun W W1 h hb => ⟨blk_below h.1 hb, blk_below h.2.1 hb, below_step h.2.2 hb⟩
      have hS0 : ((w14.alloc (.cells #[.int .i64 lo2, .int .i64 hi2] 23)).cell? (⟨w14.heap.size, 0, none⟩) = some (.int .i64 lo2) ∧ (w14.alloc (.cells #[.int .i64 lo2, .int .i64 hi2] 23)).cell? (⟨w14.heap.size, 1, none⟩) = some (.int .i64 hi2) ∧ (w14.alloc (.cells #[.int .i64 lo2, .int .i64 hi2] 23)).cell? (⟨w11.heap.size, 0, none⟩) = some (.slice (some ad) Ra0.length d0) ∧ (w14.alloc (.cells #[.int .i64 lo2, .int .i64 hi2] 23)).cell? (ad.add j.toNat) = some (.int .i64 (rd Ra0 j))) ∧ ((w14.alloc (.cells #[.int .i64 lo2, .int .i64 hi2] 23)).heap[w.heap.size]? = some (.cells #[.int .i64 N, .int .i64 b0, .int .i64 b1, .int .i64 r0, .int .i64 r1, .slice A5 l5.length c5, .slice A6 l6.length c6, .slice A7 l7.length c7] 27 (0, 0)) ∧ (w14.alloc (.cells #[.int .i64 lo2, .int .i64 hi2] 23)).heap[w3.heap.size]? = some (.cells #[.int .i64 lo, .int .i64 hi] 23 (0, 0)) ∧ Below w.heap.size w (w14.alloc (.cells #[.int .i64 lo2, .int .i64 hi2] 23))) := ⟨⟨(blk_cell qo 0).trans rfl, (blk_cell qo 1).trans rfl, (blk_cell qt 0).trans rfl, he⟩, ⟨hx, qs, HB⟩⟩
      clear hx qs HB
      go_region_held3 (fun W : World => (W.cell? (⟨w14.heap.size, 0, none⟩) = some (.int .i64 lo2) ∧ W.cell? (⟨w14.heap.size, 1, none⟩) = some (.int .i64 hi2) ∧ W.cell? (⟨w11.heap.size, 0, none⟩) = some (.slice (some ad) Ra0.length d0) ∧ W.cell? (ad.add j.toNat) = some (.int .i64 (rd Ra0 j))) ∧ (W.heap[w.heap.size]? = some (.cells #[.int .i64 N, .int .i64 b0, .int .i64 b1, .int .i64 r0, .int .i64 r1, .slice A5 l5.length c5, .slice A6 l6.length c6, .slice A7 l7.length c7] 27 (0, 0)) ∧ W.heap[w3.heap.size]? = some (.cells #[.int .i64 lo, .int .i64 hi] 23 (0, 0)) ∧ Below w.heap.size w W))
        (first | with_reducible exact held4 hK1 (by assumption) (by assumption) | exact held4 hK1 hS0 (Below.refl _ _).drew | assumption)
        (first | (go_at_call 40; refine (remontoirref00_Has.calls _ _ _ true _ hha).mono ?_; rintro e wT ⟨rfl, hbT⟩))
      rename_i V3 hh
      obtain ⟨-, hx, qs, HB⟩ := hh
      clear hS0 hK1
      go_wp2_with fail
      go_roundw
      case rel => exact ⟨1, by decide, by go_num, HB, hx, qs⟩
      case measure => simp [intOf]
    ·
      go_wp2_with (first | (refine wpList_load_row rfl 27 _ rfl w.heap.size rfl 27 #[.int .i64 N, .int .i64 b0, .int .i64 b1, .int .i64 r0, .int .i64 r1, .slice A5 l5.length c5, .slice A6 l6.length c6, .slice A7 l7.length c7] (0, 0) _ hx Tryd.underlying27 rfl (by kernel_rfl) ?_))
      refine (case_c N b0 b1 r0 r1 A5 c5 l5 A6 c6 l6 A7 c7 l7 i true Rb0 Rb1 Rb2 0 _ (Kd.C_below H5.out HB) hc5 (Kd.C_below H6.out HB) hc6 (Kd.C_below H7.out HB) hc7 (HW.out.below HB) hcb).mono ?_
      rintro e w11 ⟨B0, d0, B1, d1, B2, d2, rfl, hC, hC1, hC2, hd, hb⟩
      replace hx := blk_below hx hb
      replace qs := blk_below qs hb
      replace HB := below_call HB hb
      clear hb
      obtain ⟨ad, rfl⟩ := C_some hC (by omega)
      replace hx := blk_alloc hx (.cells #[.slice (some ad) Rb0.length d0, .slice B1 Rb1.length d1, .slice B2 Rb2.length d2] 30)
      replace qs := blk_alloc qs (.cells #[.slice (some ad) Rb0.length d0, .slice B1 Rb1.length d1, .slice B2 Rb2.length d2] 30)
      replace hC := Kd.C_alloc hC (.cells #[.slice (some ad) Rb0.length d0, .slice B1 Rb1.length d1, .slice B2 Rb2.length d2] 30)
      replace hC1 := Kd.C_alloc hC1 (.cells #[.slice (some ad) Rb0.length d0, .slice B1 Rb1.length d1, .slice B2 Rb2.length d2] 30)
      replace hC2 := Kd.C_alloc hC2 (.cells #[.slice (some ad) Rb0.length d0, .slice B1 Rb1.length d1, .slice B2 Rb2.length d2] 30)
      have qt := blk_new w11 (.cells #[.slice (some ad) Rb0.length d0, .slice B1 Rb1.length d1, .slice B2 Rb2.length d2] 30)
      replace HB := below_alloc HB (.cells #[.slice (some ad) Rb0.length d0, .slice B1 Rb1.length d1, .slice B2 Rb2.length d2] 30)
      go_wp2_with (first | (refine wpList_load_row rfl 27 _ rfl w.heap.size rfl 27 #[.int .i64 N, .int .i64 b0, .int .i64 b1, .int .i64 r0, .int .i64 r1, .slice A5 l5.length c5, .slice A6 l6.length c6, .slice A7 l7.length c7] (0, 0) _ hx Tryd.underlying27 rfl (by kernel_rfl) ?_) | (refine wpList_load_row rfl 30 _ rfl w11.heap.size rfl 30 #[.slice (some ad) Rb0.length d0, .slice B1 Rb1.length d1, .slice B2 Rb2.length d2] (0, 0) _ qt Tryd.underlying30 rfl (by kernel_rfl) ?_))
      refine (star_IsTruth.calls N b0 b1 r0 r1 A5 c5 l5 A6 c6 l6 A7 c7 l7 (some ad) d0 Rb0 B1 d1 Rb1 B2 d2 Rb2 true 0 _ (Kd.C_below H5.out HB) hc5 (Kd.C_below H6.out HB) hc6 (Kd.C_below H7.out HB) hc7 hC hd.1 hC1 hd.2.1 hC2 hd.2.2 (HW.out.below HB) htb).mono ?_
      rintro e w12 ⟨rfl, hb⟩
      replace hx := blk_below hx hb
      replace qs := blk_below qs hb
      replace qt := blk_below qt hb
      replace hC := Kd.C_below hC hb
      replace hC1 := Kd.C_below hC1 hb
      replace hC2 := Kd.C_below hC2 hb
      replace HB := below_call HB hb
      clear hb
      have he := elem_int (Kd.C_drew hC) hi0 (by omega)
      rw [heb] at he
      go_wp2_with fail
      clear hC1 hC2 hd
      refine wp_calm ?_
      refine start_ (n := 42) (S := fun w' => w'.cell? ⟨w.heap.size, 0, none⟩ = some (.int .i64 N) ∧ w'.cell? ⟨w3.heap.size, 1, none⟩ = some (.int .i64 hi) ∧ w'.cell? ⟨w11.heap.size, 0, none⟩ = some (.slice (some ad) Rb0.length d0) ∧ w'.cell? (ad.add i.toNat) = some (.int .i64 hi)) (ds := []) #[false, false, false, false, false, false, false, false, false, false, false, false, false, false, false, false, false, false, false, false, false, false, false, false, false, false, false, false, false, false, false, false, false, false, false, false, false, false, false, false, false, false] (by kernel_rfl) rfl rfl ⟨(blk_cell (blk_drew hx) 0).trans rfl, (blk_cell (blk_drew qs) 1).trans rfl, (blk_cell (blk_drew qt) 0).trans rfl, he⟩ (fun hHeld => ?_)
      refine with_tabW ends15_tab ends15_bits (fun HT_ HW_ => ?_)
      replace hx := blk_drew hx
      replace qs := blk_drew qs
      replace qt := blk_drew qt
      replace hC := Kd.C_drew hC
      replace HB := below_drew1 HB
      generalize (w12).drew = Vd at *
      refine pureA 0 73 ?_
      refine pureA 1 74 ?_
      refine pureA 2 75 ?_
      refine pureA 3 76 ?_
      refine pureA 4 77 ?_
      refine pureA 5 78 ?_
      refine pureA 6 79 ?_
      refine pureA 7 80 ?_
      refine takeA 8 81 rfl rfl (by rintro w' ⟨s0, s1, s2, s3⟩; exact exec_load_28 s2 rfl rfl) ?_
      refine pureA 9 82 ?_
      refine pureA 10 83 ?_
      refine takeA 11 84 rfl rfl (by rintro w' ⟨s0, s1, s2, s3⟩; exact exec_load_at s0 rfl rfl) ?_
      refine pureA 12 85 ?_
      refine pureA 13 86 ?_
      refine pureA 14 87 ?_
      refine pureA 15 88 ?_
      refine pureA 16 89 ?_
      refine pureA 17 90 ?_
      refine pureU 18 91 ?_
      refine pureU 19 92 ?_
      refine pureU 20 93 ?_
      refine pureU 21 94 ?_
      refine pureU 22 95 ?_
      refine pureU 23 96 ?_
      refine pureU 24 97 ?_
      refine pureU 25 98 ?_
      refine pureA 26 99 ?_
      refine pureA 27 100 ?_
      refine pureA 28 101 ?_
      refine pureA 29 102 ?_
      refine pureA 30 103 ?_
      refine pureA 31 104 ?_
      refine pureA 32 105 ?_
      refine takeA 33 106 rfl rfl (by rintro w' ⟨s0, s1, s2, s3⟩; exact exec_load_28 s2 rfl rfl) ?_
      refine pureA 34 107 ?_
      refine pureA 35 108 ?_
      refine takeA 36 109 rfl rfl (by rintro w' ⟨s0, s1, s2, s3⟩; exact exec_load_at s3 rfl rfl) ?_
      refine pureA 37 110 ?_
      refine takeA 38 111 rfl rfl (by rintro w' ⟨s0, s1, s2, s3⟩; exact exec_load_at s1 rfl rfl) ?_
      refine pureA 39 112 ?_
      refine pureA 40 113 ?_
      refine pureA 41 114 ?_
      refine done_ (done_of HT_.out (by kernel_rfl)) ?_
      clear HT_ HW_ hHeld
      refine calm_normal ?_
      clear he
      have hn0 : Vd.cell? ⟨w.heap.size, 0, none⟩ = some (.int .i64 N) := (blk_cell hx 0).trans rfl
      go_wp2_with fail
      refine (remontoirref00_Rest.calls (wrap64 (n + 1)) N j _ hrj).mono ?_
      rintro e w13 ⟨rfl, hb⟩
      replace hb := hb.below
      replace hx := blk_below hx hb
      replace qs := blk_below qs hb
      replace qt := blk_below qt hb
      replace hC := Kd.C_below hC hb
      replace HB := below_call HB hb
      clear hb
      clear hn0
      go_wp2_with (first | (refine wpList_load_row rfl 27 _ rfl w.heap.size rfl 27 #[.int .i64 N, .int .i64 b0, .int .i64 b1, .int .i64 r0, .int .i64 r1, .slice A5 l5.length c5, .slice A6 l6.length c6, .slice A7 l7.length c7] (0, 0) _ hx Tryd.underlying27 rfl (by kernel_rfl) ?_))
      refine (star_Offset.calls N b0 b1 r0 r1 A5 c5 l5 A6 c6 l6 A7 c7 l7 j lo2 hi2 0 _ (Kd.C_below H5.out HB) hc5 (Kd.C_below H6.out HB) hc6 (Kd.C_below H7.out HB) hc7 (HW.out.below HB) hoj).mono ?_
      rintro e w14 ⟨rfl, hb⟩
      replace hx := blk_below hx hb
      replace qs := blk_below qs hb
      replace qt := blk_below qt hb
      replace hC := Kd.C_below hC hb
      replace HB := below_call HB hb
      clear hb
      replace hx := blk_alloc hx (.cells #[.int .i64 lo2, .int .i64 hi2] 23)
      replace qs := blk_alloc qs (.cells #[.int .i64 lo2, .int .i64 hi2] 23)
      replace qt := blk_alloc qt (.cells #[.int .i64 lo2, .int .i64 hi2] 23)
      replace hC := Kd.C_alloc hC (.cells #[.int .i64 lo2, .int .i64 hi2] 23)
      have qo := blk_new w14 (.cells #[.int .i64 lo2, .int .i64 hi2] 23)
      replace HB := below_alloc HB (.cells #[.int .i64 lo2, .int .i64 hi2] 23)
      have he := elem_int hC hj0 (by omega)
      go_wp2_with fail
      have hK2 : ∀ W W1 : World, (W.heap[w.heap.size]? = some (.cells #[.int .i64 N, .int .i64 b0, .int .i64 b1, .int .i64 r0, .int .i64 r1, .slice A5 l5.length c5, .slice A6 l6.length c6, .slice A7 l7.length c7] 27 (0, 0)) ∧ W.heap[w3.heap.size]? = some (.cells #[.int .i64 lo, .int .i64 hi] 23 (0, 0)) ∧ Below w.heap.size w W) → Below W.heap.size W W1 → (W1.heap[w.heap.size]? = some (.cells #[.int .i64 N, .int .i64 b0, .int .i64 b1, .int .i64 r0, .int .i64 r1, .slice A5 l5.length c5, .slice A6 l6.length c6, .slice A7 l7.length c7] 27 (0, 0)) ∧ W1.heap[w3.heap.size]? = some (.cells #[.int .i64 lo, .int .i64 hi] 23 (0, 0)) ∧ Below w.heap.size w W1) := fun W W1 h hb => ⟨blk_below h.1 hb, blk_below h.2.1 hb, below_step h.2.2 hb⟩
      have hS0 : ((w14.alloc (.cells #[.int .i64 lo2, .int .i64 hi2] 23)).cell? (⟨w14.heap.size, 0, none⟩) = some (.int .i64 lo2) ∧ (w14.alloc (.cells #[.int .i64 lo2, .int .i64 hi2] 23)).cell? (⟨w14.heap.size, 1, none⟩) = some (.int .i64 hi2) ∧ (w14.alloc (.cells #[.int .i64 lo2, .int .i64 hi2] 23)).cell? (⟨w11.heap.size, 0, none⟩) = some (.slice (some ad) Rb0.length d0) ∧ (w14.alloc (.cells #[.int .i64 lo2, .int .i64 hi2] 23)).cell? (ad.add j.toNat) = some (.int .i64 (rd Rb0 j))) ∧ ((w14.alloc (.cells #[.int .i64 lo2, .int .i64 hi2] 23)).heap[w.heap.size]? = some (.cells #[.int .i64 N, .int .i64 b0, .int .i64 b1, .int .i64 r0, .int .i64 r1, .slice A5 l5.length c5, .slice A6 l6.length c6, .slice A7 l7.length c7] 27 (0, 0)) ∧ (w14.alloc (.cells #[.int .i64 lo2, .int .i64 hi2] 23)).heap[w3.heap.size]? = some (.cells #[.int .i64 lo, .int .i64 hi] 23 (0, 0)) ∧ Below w.heap.size w (w14.alloc (.cells #[.int .i64 lo2, .int .i64 hi2] 23))) := ⟨⟨(blk_cell qo 0).trans rfl, (blk_cell qo 1).trans rfl, (blk_cell qt 0).trans rfl, he⟩, ⟨hx, qs, HB⟩⟩
      clear hx qs HB
      go_region_held3 (fun W : World => (W.cell? (⟨w14.heap.size, 0, none⟩) = some (.int .i64 lo2) ∧ W.cell? (⟨w14.heap.size, 1, none⟩) = some (.int .i64 hi2) ∧ W.cell? (⟨w11.heap.size, 0, none⟩) = some (.slice (some ad) Rb0.length d0) ∧ W.cell? (ad.add j.toNat) = some (.int .i64 (rd Rb0 j))) ∧ (W.heap[w.heap.size]? = some (.cells #[.int .i64 N, .int .i64 b0, .int .i64 b1, .int .i64 r0, .int .i64 r1, .slice A5 l5.length c5, .slice A6 l6.length c6, .slice A7 l7.length c7] 27 (0, 0)) ∧ W.heap[w3.heap.size]? = some (.cells #[.int .i64 lo, .int .i64 hi] 23 (0, 0)) ∧ Below w.heap.size w W))
        (first | with_reducible exact held4 hK2 (by assumption) (by assumption) | exact held4 hK2 hS0 (Below.refl _ _).drew | assumption)
        (first | (go_at_call 40; refine (remontoirref00_Has.calls _ _ _ true _ hhb).mono ?_; rintro e wT ⟨rfl, hbT⟩))
      rename_i V3 hh
      obtain ⟨-, hx, qs, HB⟩ := hh
      clear hS0 hK2
      go_wp2_with fail
      go_roundw
      case rel => exact ⟨2, by decide, by go_num, HB, hx, qs⟩
      case measure => simp [intOf]
    ·
      go_wp2_with fail
      refine (works_calls _ (HW.out.below HB)).mono ?_
      rintro e w11 ⟨rfl, hb⟩
      replace hx := blk_below hx hb
      replace qs := blk_below qs hb
      replace HB := below_call HB hb
      clear hb
      go_wp2_with fail
      refine bodyPost_ret (results_tmp rfl _ _ _) rfl ?_
      exact ⟨rfl, HB⟩
end Go.Proofs.YtohbeninpmmmpaaDoor
end

section
/- The law of StarEnds: its walk by hand, joined with what is plain. -/
set_option linter.unusedSimpArgs false
set_option linter.unusedVariables false
namespace Go.Proofs.YtohbeninpmmmpaaDoor
open Go.RowKit Go.Proofs.YtohbeninpmmmpaaDoorW.PrintWords Go.Proofs.YtohbeninpmmmpaaDoorW.PrintLast Go.Proofs.YtohbeninpmmmpaaDoorW.PrintMore TrydX.X
theorem Bk.sat_congr {b : Bk} (hb : b.ok) {wo : List Int} {o p : Nat → Int} (h : ∀ i, b.used i → o i = p i) (ho : b.sat wo o) : b.sat wo p := by
  have hN := BookOk.n hb
  have u : ∀ i, b.used i → p i = o i := fun i hi => (h i hi).symm
  have u0 := u 0 b.used0
  refine ⟨?_, fun n hn hnN => ?_, fun j hj hw => ?_, fun i hi => ?_, fun i hi => ?_⟩
  · rw [u 1 (.inr (.inl ⟨by omega, by omega⟩)), u0]; exact ho.start
  · rw [u (1 + n) (.inr (.inl ⟨by omega, by omega⟩)), u n (.inr (.inl ⟨by omega, by omega⟩))]; exact ho.rate n hn hnN
  · obtain ⟨a1, a2, a3, a4, a5⟩ := BookOk.p7 hb j hj
    have ut : b.used (thingN (rd_T63 b.l7 (j : Int))) := by
      show Used _ _ _ _
      unfold Used thingN
      rcases a2 with ⟨e, a2⟩ | ⟨e, a2⟩
      · rw [if_pos e]; omega
      · rw [if_neg (by omega)]; omega
    rw [u (1 + (rd_T63 b.l7 (j : Int)).f0.toNat) (.inr (.inl ⟨by omega, by omega⟩)), u _ ut]
    exact ho.look j hj hw
  · rw [u (9 + i) (.inr (.inr (.inl ⟨by omega, by omega⟩))), u0]; exact ho.person i hi
  · rw [u (13 + i) (.inr (.inr (.inr ⟨by omega, by omega⟩))), u0]; exact ho.path i hi
/-- What Case sets is a truth, which lies within all that is told. -/
theorem case_truth {b : Bk} (hb : b.ok) (hc : b.can [] = true) (most : Bool) (n : Nat) (hn : (n : Int) < b.N) :
    isTruthF b.N b.b0 b.b1 b.r0 b.r1 b.l5 b.l6 b.l7 (b.caseR most n).1 (b.caseR most n).2.1 (b.caseR most n).2.2 = true ∧ ((b.caseR most n).1.length : Int) = b.N ∧ rd (b.caseR most n).1 n = endT most (b.told []) (1 + n) ∧
      ∀ j : Nat, (j : Int) < b.N → -(b.told [] 0 (1 + j)) ≤ rd (b.caseR most n).1 j ∧ rd (b.caseR most n).1 j ≤ b.told [] (1 + j) 0 := by
  obtain ⟨o, h1, h2, h3, h4, h5, h6, h7, h8, h9⟩ := case_is hb hc most n hn
  have hN := BookOk.n hb
  have hl := BookOk.len hb
  have hnear := sat_near hb [] h1
  refine ⟨(isTruth_iff hb).2 ⟨by omega, h7, h8, Bk.sat_congr hb (fun i hi => ?_) h1⟩, by omega, h9, fun j hj => ?_⟩
  · have hni := hnear i hi
    unfold truthO
    rcases hi with rfl | hi | hi | hi
    · exact h2
    · rw [if_neg (by omega), if_pos (by omega), ← h3 (i - 1) (by omega), show 1 + (i - 1) = i by omega]
    · have e := h4 (i - 9) (by omega)
      rw [show 9 + (i - 9) = i by omega] at e
      rw [if_neg (by omega), if_neg (by omega), if_pos (by omega), wr (by omega)]
      exact e
    · rw [if_neg (by omega), if_neg (by omega), if_neg (by omega), ← h5 (i - 13) (by omega), show 13 + (i - 13) = i by omega]
  · have uj : b.used (1 + j) := .inr (.inl ⟨by omega, by omega⟩)
    have g1 := Bk.so_told hb h1 uj b.used0
    have g2 := Bk.so_told hb h1 b.used0 uj
    have g3 := h3 j (by omega)
    omega
theorem endT_false (T : Tb) (i : Nat) : endT false T i = -(T 0 i) := by
  unfold endT
  rw [if_neg (by decide)]
theorem has_yes {a b x : Int} (h : a ≤ x ∧ x ≤ b) : remontoirref00_Has.f a b x = some true := by
  unfold remontoirref00_Has.f
  rw [lies_f, decide_eq_true h]
  rfl
end Go.Proofs.YtohbeninpmmmpaaDoor
namespace Go.Proofs.TrydX.X
open Go.RowKit Go.Proofs.YtohbeninpmmmpaaDoorW.PrintWords Go.Proofs.YtohbeninpmmmpaaDoorW.PrintLast
open Go.Proofs.YtohbeninpmmmpaaDoor
def remontoirlaw03_StarEnds.f (k : Nat) (a0_0 : Int) (a0_1 : Int) (a0_2 : Int) (a0_3 : Int) (a0_4 : Int) (l0_5 : List (S23)) (l0_6 : List (S23)) (l0_7 : List (S63)) (a1 : Int) : Option Bool := if l0_5.length ≤ 17592186044416 ∧ l0_6.length ≤ 17592186044416 ∧ l0_7.length ≤ 17592186044416 then some true else none
theorem remontoirlaw03_StarEnds.calls (k : Nat) (a0_0 : Int) (a0_1 : Int) (a0_2 : Int) (a0_3 : Int) (a0_4 : Int) (A0_5 : Option Addr) (c0_5 : Nat) (l0_5 : List (S23)) (A0_6 : Option Addr) (c0_6 : Nat) (l0_6 : List (S23)) (A0_7 : Option Addr) (c0_7 : Nat) (l0_7 : List (S63)) (a1 : Int) (r : Bool) (w : World) (hr0_5 : Kd.C k23 w A0_5 l0_5.length l0_5) (hc0_5 : l0_5.length ≤ c0_5) (hr0_6 : Kd.C k23 w A0_6 l0_6.length l0_6) (hc0_6 : l0_6.length ≤ c0_6) (hr0_7 : Kd.C k63 w A0_7 l0_7.length l0_7) (hc0_7 : l0_7.length ≤ c0_7) (hWays : Go.Proofs.YtohbeninpmmmpaaDoor.Ways w) (h : remontoirlaw03_StarEnds.f k a0_0 a0_1 a0_2 a0_3 a0_4 l0_5 l0_6 l0_7 a1 = some r) :
    Calls Tryd.prog 8 #[.agg #[.int .i64 a0_0, .int .i64 a0_1, .int .i64 a0_2, .int .i64 a0_3, .int .i64 a0_4, .slice A0_5 l0_5.length c0_5, .slice A0_6 l0_6.length c0_6, .slice A0_7 l0_7.length c0_7], .int .i64 a1] w fun e w' => e = .returned (.bool r) ∧ Below w.heap.size w w' := by
  unfold remontoirlaw03_StarEnds.f at h
  split at h
  · rename_i hb
    obtain ⟨z5, z6, z7⟩ := hb
    simp only [Option.some.injEq] at h
    subst h
    have hs := sound_f (N := a0_0) (b0 := a0_1) (b1 := a0_2) (r0 := a0_3) (r1 := a0_4) z5 z6 z7
    by_cases hc : checkB a0_0 a0_1 a0_2 a0_3 a0_4 l0_5 l0_6 l0_7 = true
    · rw [hc] at hs
      have hok : (Bk.mk a0_0 a0_1 a0_2 a0_3 a0_4 l0_5 l0_6 l0_7).ok := checkB_iff.1 hc
      have hN := BookOk.n hok
      obtain ⟨i, hr, hi0, hi1⟩ := Rest_f a1 a0_0 (by show 0 < (Bk.mk a0_0 a0_1 a0_2 a0_3 a0_4 l0_5 l0_6 l0_7).N; omega) (by show (Bk.mk a0_0 a0_1 a0_2 a0_3 a0_4 l0_5 l0_6 l0_7).N ≤ _; omega)
      obtain ⟨j, hrj, hj0, hj1⟩ := Rest_f (wrap64 (a1 + 1)) a0_0 (by show 0 < (Bk.mk a0_0 a0_1 a0_2 a0_3 a0_4 l0_5 l0_6 l0_7).N; omega) (by show (Bk.mk a0_0 a0_1 a0_2 a0_3 a0_4 l0_5 l0_6 l0_7).N ≤ _; omega)
      have ho := off_f hok ⟨hi0, hi1⟩
      have hoj := off_f hok ⟨hj0, hj1⟩
      have hca := fun m => case_f hok ⟨hi0, hi1⟩ m
      by_cases hcan : (Bk.mk a0_0 a0_1 a0_2 a0_3 a0_4 l0_5 l0_6 l0_7).can [] = true
      · have hin : ((i.toNat : Nat) : Int) < (Bk.mk a0_0 a0_1 a0_2 a0_3 a0_4 l0_5 l0_6 l0_7).N := by show ((i.toNat : Nat) : Int) < a0_0; omega
        have hjn : ((j.toNat : Nat) : Int) < (Bk.mk a0_0 a0_1 a0_2 a0_3 a0_4 l0_5 l0_6 l0_7).N := by show ((j.toNat : Nat) : Int) < a0_0; omega
        have c0 := case_truth hok hcan false i.toNat hin
        have c1 := case_truth hok hcan true i.toNat hin
        unfold Bk.ans at ho hoj
        rw [if_pos hcan] at ho hoj
        have ha0 := hca false
        have ha1 := hca true
        rw [if_pos hcan] at ha0 ha1
        have g0 := c0.2.2.2 j.toNat hjn
        have g1 := c1.2.2.2 j.toNat hjn
        have ei : ((i.toNat : Nat) : Int) = i := by omega
        have ej : ((j.toNat : Nat) : Int) = j := by omega
        have r0 := c0.2.2.1
        have r1 := c1.2.2.1
        rw [ei, endT_false] at r0
        rw [ei, endT_true] at r1
        rw [ej] at g0 g1
        have t0 := isT_f hok ((Bk.mk a0_0 a0_1 a0_2 a0_3 a0_4 l0_5 l0_6 l0_7).caseR false i.toNat).1 ((Bk.mk a0_0 a0_1 a0_2 a0_3 a0_4 l0_5 l0_6 l0_7).caseR false i.toNat).2.1 ((Bk.mk a0_0 a0_1 a0_2 a0_3 a0_4 l0_5 l0_6 l0_7).caseR false i.toNat).2.2
        have t1 := isT_f hok ((Bk.mk a0_0 a0_1 a0_2 a0_3 a0_4 l0_5 l0_6 l0_7).caseR true i.toNat).1 ((Bk.mk a0_0 a0_1 a0_2 a0_3 a0_4 l0_5 l0_6 l0_7).caseR true i.toNat).2.1 ((Bk.mk a0_0 a0_1 a0_2 a0_3 a0_4 l0_5 l0_6 l0_7).caseR true i.toNat).2.2
        rw [c0.1] at t0
        rw [c1.1] at t1
        exact ends_yes a0_0 a0_1 a0_2 a0_3 a0_4 A0_5 c0_5 l0_5 A0_6 c0_6 l0_6 A0_7 c0_7 l0_7 a1 w hWays hr0_5 hc0_5 hr0_6 hc0_6 hr0_7 hc0_7 hs i j _ _ _ _ hr hi0 hi1 hrj hj0 hj1 ho hoj
          _ _ _ ha0 c0.2.1 t0 r0 (has_yes g0) _ _ _ ha1 c1.2.1 t1 r1 (has_yes g1)
      · unfold Bk.ans at ho
        rw [if_neg hcan] at ho
        refine ends_torn a0_0 a0_1 a0_2 a0_3 a0_4 A0_5 c0_5 l0_5 A0_6 c0_6 l0_6 A0_7 c0_7 l0_7 a1 w hWays hr0_5 hc0_5 hr0_6 hc0_6 hr0_7 hc0_7 hs i hr ho (fun m => ?_)
        have := hca m
        rw [if_neg hcan] at this
        exact this
    · rw [Bool.not_eq_true] at hc
      rw [hc] at hs
      exact ends_no a0_0 a0_1 a0_2 a0_3 a0_4 A0_5 c0_5 l0_5 A0_6 c0_6 l0_6 A0_7 c0_7 l0_7 a1 w hWays hr0_5 hc0_5 hr0_6 hc0_6 hr0_7 hc0_7 hs
  · cases h
end Go.Proofs.TrydX.X
namespace Go.Proofs.YtohbeninpmmmpaaDoor
open TrydX.X
theorem starEnds_pure (a0_0 a0_1 a0_2 a0_3 a0_4 : Int) (l0_5 l0_6 : List S23) (l0_7 : List S63) (a1 : Int) (h0 : W64 a0_0 ∧ W64 a0_1 ∧ W64 a0_2 ∧ W64 a0_3 ∧ W64 a0_4)
    (w5 : ∀ z ∈ l0_5, W64 z.f0 ∧ W64 z.f1) (w6 : ∀ z ∈ l0_6, W64 z.f0 ∧ W64 z.f1) (w7 : ∀ z ∈ l0_7, W64 z.f0 ∧ W64 z.f1 ∧ W64 z.f2 ∧ W64 z.f3 ∧ W64 z.f4)
    (h5 : l0_5.length ≤ 8796093022208) (h6 : l0_6.length ≤ 8796093022208) (h7 : l0_7.length ≤ 3518437208883) (h1 : W64 a1) :
    ∃ k, remontoirlaw03_StarEnds.f k a0_0 a0_1 a0_2 a0_3 a0_4 l0_5 l0_6 l0_7 a1 = some true := ⟨0, if_pos ⟨by omega, by omega, by omega⟩⟩
end Go.Proofs.YtohbeninpmmmpaaDoor
end
