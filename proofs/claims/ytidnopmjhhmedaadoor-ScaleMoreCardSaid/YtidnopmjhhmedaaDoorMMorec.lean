/- PROVED: ScaleMoreCardSaid, for every input, where the listed variable reads as the program's text lays it. Part 3 of 6: of this session; merged by wip/tools/mkClaim.py. -/
import Derived.Test.YtidnopmjhhmedaaDoorMMoreb
import Derived.Deep.MidRow
import Derived.ChangeKeysEq
import Derived.WalkMore
import Derived.Deep.Cut
section
/- Plan. -/
set_option linter.unusedSimpArgs false
set_option linter.unusedVariables false
namespace Go.Proofs.YtidnopmjhhmedaaDoor
open Go.RowKit
attribute [local go_sem] Oper.semAt_some

/-- The world in which Plan's first loop begins, out of the one behind opened. -/
def planW (F S J L H : Int) (b ticks way : Nat) (w : World) : World :=
  ((((w.alloc (.cells #[.int .i64 F, .int .i64 S, .int .i64 J, .int .i64 L, .int .i64 H, .map (some b)] 80)).alloc (.cells #[.slice none 0 0] 26)).alloc (.cells #[.int .i64 F, .int .i64 S, .int .i64 J, .int .i64 L, .int .i64 H, .map (some b)] 80)).alloc (.cells #[.int .i64 ticks] 3)).alloc (.cells #[.int .i64 way] 3)
structure PlanW (F S J L H : Int) (b ticks way : Nat) (w W : World) : Prop where
  bel : Below w.heap.size w W
  size : W.heap.size = w.heap.size + 5
  box : Boxed W (w.heap.size + 1) 26 (.slice none 0 0)
  rule : W.cell? ⟨w.heap.size + 2, 0, none⟩ = some (.int .i64 F) ∧ W.cell? ⟨w.heap.size + 2, 1, none⟩ = some (.int .i64 S) ∧ W.cell? ⟨w.heap.size + 2, 2, none⟩ = some (.int .i64 J) ∧ W.cell? ⟨w.heap.size + 2, 3, none⟩ = some (.int .i64 L) ∧ W.cell? ⟨w.heap.size + 2, 4, none⟩ = some (.int .i64 H) ∧ W.cell? ⟨w.heap.size + 2, 5, none⟩ = some (.map (some b))
  tk : W.cell? ⟨w.heap.size + 2 + 1, 0, none⟩ = some (.int .i64 ticks)
  wy : W.cell? ⟨w.heap.size + 2 + 2, 0, none⟩ = some (.int .i64 way)
theorem planW_is (F S J L H : Int) (b ticks way : Nat) (w : World) : PlanW F S J L H b ticks way w (planW F S J L H b ticks way w) := by
  unfold planW
  refine ⟨?_, by simp, ?_, ?_, ?_, ?_⟩
  · repeat with_reducible (first | exact Below.refl _ _ | refine Below.alloc ?_ (by simp <;> omega) _)
  · have h := Boxed.new (w.alloc (.cells #[.int .i64 F, .int .i64 S, .int .i64 J, .int .i64 L, .int .i64 H, .map (some b)] 80)) 26 (.slice none 0 0)
    rw [World.size_alloc] at h
    exact ((h.alloc _).alloc _).alloc _
  all_goals simp [go_sem]

theorem fewFrom_le (F S J off : Int) (d : Nat) : ∀ t : Nat, t + d = 201 → fewFrom F S J off d t ≤ 200 := by
  induction d with
  | zero => intro t h; simp [fewFrom]
  | succ d ih =>
    intro t h
    simp only [fewFrom]
    split
    · omega
    · exact ih (t + 1) (by omega)
theorem fewest_le (F S J off : Int) : fewest F S J off ≤ 200 := fewFrom_le F S J off 201 0 rfl

set_option maxRecDepth 100000 in
set_option maxHeartbeats 1000000 in
theorem Plan_err (F S J L H off e : Int) (w : World) (he : (e == 0) = false)
    (hF : Calls Tryd.prog 18 #[.agg #[.int .i64 F, .int .i64 S, .int .i64 J, .int .i64 L, .int .i64 H], .int .i64 off] (w.alloc (.cells #[.int .i64 F, .int .i64 S, .int .i64 J, .int .i64 L, .int .i64 H] 25)) fun e' w' => e' = .returned (.tuple #[.int .i64 0, .int .i64 e]) ∧ Below (w.heap.size + 1) (w.alloc (.cells #[.int .i64 F, .int .i64 S, .int .i64 J, .int .i64 L, .int .i64 H] 25)) w') :
    Calls Tryd.prog 20 #[.agg #[.int .i64 F, .int .i64 S, .int .i64 J, .int .i64 L, .int .i64 H], .int .i64 off] w fun e' w' => e' = .returned (.tuple #[.slice none 0 0, .int .i64 e]) ∧ Below w.heap.size w w' := by
  go_enter Tryd.func20, Tryd.ntmps20
  go_wp2_with fail
  refine hF.mono ?_
  rintro e' w1 ⟨rfl, hb⟩
  have hB : Below w.heap.size w w1 := ((Below.refl _ _).alloc (Nat.le_refl _) _).trans (hb.mono (by omega))
  clear hb
  go_wp2_with fail
  go_ret2
  exact ⟨rfl, hB⟩


set_option maxRecDepth 100000 in
set_option maxHeartbeats 2000000 in
theorem Plan_pos (F S J L H off : Int) (ticks : Nat) (w : World) (hw : Ways w) (hr : isRuleB F S J L H = true) (ho : -20000 ≤ off ∧ off ≤ 20000) (hs : 0 < off) (ht : ticks ≤ 200) (hft : fewest F S J off = ticks) :
    Calls Tryd.prog 20 #[.agg #[.int .i64 F, .int .i64 S, .int .i64 J, .int .i64 L, .int .i64 H], .int .i64 off] w (ListPost 0 (planOf (-1) (off) (caps S J ticks)) w) := by
  obtain ⟨i0, hi, hy0, hy1, hy2⟩ := info_parts Tryd.info3
  have hfew := fun W h => Fewest_ok F S J L H off hr (lies_iff.2 ho) W h
  have hn0 : ¬ (fewest F S J off < 0) := by omega
  simp only [hn0, if_false] at hfew
  rw [hft] at hfew
  have hB0 : Below w.heap.size w (w.alloc (.cells #[.int .i64 F, .int .i64 S, .int .i64 J, .int .i64 L, .int .i64 H] 25)) := (Below.refl _ _).alloc (Nat.le_refl _) _
  have hw1 := hw.below hB0
  have HFT := Lib.hid hft
  clear hft hn0
  refine (callsIn_wide (n := 5)).1 ?_
  refine callsIn_of_wp_marks Tryd.func20 rfl trivial ?_ rfl
  simp only [Tryd.ntmps20, List.size_toArray, List.length_cons, List.length_nil, Nat.reduceAdd, Nat.reduceSub, Array.replicate_succ, Array.replicate_zero, List.push_toArray, List.append_toArray, List.nil_append, List.cons_append]
  refine wpIn_wide.2 ?_
  go_wp2_with fail
  refine (hfew _ hw1).mono ?_
  rintro e w1 ⟨rfl, hb1⟩
  have hB1 := below_call hB0 hb1
  obtain ⟨hc, hf⟩ := bcell hb1
  have hz := hb1.size
  simp at hz
  have hz1 : w.heap.size < w1.heap.size := by omega
  have HB1 := Lib.hid hB1
  clear hb1 hB1 hfew
  go_wp2_with fail
  refine (opened_ok F S J L H _ hr).mono ?_
  rintro e w2 ⟨b, rfl, hb2, hnb, hnew⟩
  have hB2 := below_call HB1.out hb2
  have hw2 := hw.below hB2
  have hz2 := hb2.size
  have HB2 := Lib.hid hB2
  clear hb2 hB2 hc hf hnew
  go_wp2_with (go_at_call 65; refine (most_any _ _ _ _ rfl).mono ?_; rintro e w' ⟨rfl, rfl⟩)
  change Code.wp Tryd.prog _ _ _ (planW F S J L H b ticks 1 w2)
  have hpf := planW_is F S J L H b ticks 1 w2
  have hw0 := hw2.below hpf.bel
  generalize planW F S J L H b ticks 1 w2 = W0 at hpf hw0 ⊢
  have hsz := hpf.size
  obtain ⟨hF, hS, hJ, _⟩ := isRuleB_spec hr
  refine (wpIn_wide (n := 5)).1 ?_
  refine wpIn_rangeFunc_ownG rfl (by decide) (gf := 81) (lb := #[.pointer (some ⟨w2.heap.size + 2 + 1, 0, none⟩), .pointer (some ⟨w2.heap.size + 2 + 2, 0, none⟩), .pointer (some ⟨w2.heap.size + 2, 0, none⟩)]) rfl trivial (enters_of Tryd.func81 (by kernel_rfl) rfl)
    (most_stops _ (w2.heap.size + 2) (fun k => k < w2.heap.size ∨ (w2.heap.size + 2 ≤ k ∧ k < w2.heap.size + 5)) F S J L H (some b) ticks 1 S (by exact .inr ⟨rfl, rfl⟩) ht hr W0 hw0 ⟨.inl (by have := World.block_lt_of_cell? w2 _ hw2.1; exact this), .inr (by omega), .inr (by omega), .inr (by omega)⟩ (fun k hk => by omega) hpf.rule hpf.tk hpf.wy)
    Kept.trans (keptK_b (fun k hk => by omega)) (Below.refl _ _) (fun _ => rfl)
    (fun pre W => (∃ v, Boxed W (w2.heap.size + 1) 26 v ∧ W.ownsRow (w2.heap.size + 5) 3 1 v pre.length (pre.map (Value.int .i64)) ∧ True) ∧ Below (w2.heap.size + 1) W0 W)
    (fun _ _ _ => False) ?hI (fun _ _ _ _ _ hs _ _ => hs) ?h0 (fun x => { tmps := #[.agg #[.int .i64 F, .int .i64 S, .int .i64 J, .int .i64 L, .int .i64 H], .int .i64 off, .pointer (some ⟨w.heap.size, 0, none⟩), undef, .slice none 0 0, .int .i64 0, .int .i64 ticks, .int .i64 0, .pointer (some ⟨w2.heap.size, 0, none⟩), .int .i64 0, .int .i64 1, .int .i64 (-1), .pointer (some ⟨w2.heap.size + 1, 0, none⟩), .int .i64 x, undef, undef, undef, undef, undef, undef, undef, undef, .tuple #[.int .i64 ticks, .int .i64 0], .agg #[.int .i64 F, .int .i64 S, .int .i64 J, .int .i64 L, .int .i64 H], .int .i64 off, .tuple #[.int .i64 ticks, .int .i64 0], .int .i64 ticks, .int .i64 0, .int .i64 0, .bool false, undef, .tuple #[.agg #[.int .i64 F, .int .i64 S, .int .i64 J, .int .i64 L, .int .i64 H, .map (some b)], .int .i64 0], .agg #[.int .i64 F, .int .i64 S, .int .i64 J, .int .i64 L, .int .i64 H], .tuple #[.agg #[.int .i64 F, .int .i64 S, .int .i64 J, .int .i64 L, .int .i64 H, .map (some b)], .int .i64 0], .agg #[.int .i64 F, .int .i64 S, .int .i64 J, .int .i64 L, .int .i64 H, .map (some b)], .int .i64 0, .int .i64 off, .bool true, .agg #[.int .i64 F, .int .i64 S, .int .i64 J, .int .i64 L, .int .i64 H, .map (some b)], .int .i64 ticks, .int .i64 1, .func (.func 81) #[] #[.pointer (some ⟨w2.heap.size + 1 + 1 + 1, 0, none⟩), .pointer (some ⟨w2.heap.size + 1 + 1 + 2, 0, none⟩), .pointer (some ⟨w2.heap.size + 1 + 1, 0, none⟩)], .int .i64 x, undef, undef, undef, undef, undef, undef, undef, undef, undef, undef, undef, undef, undef, undef, undef, undef, undef, undef, undef, undef, undef, undef, undef, undef, undef, undef, undef, undef, undef, undef, undef, undef, undef, undef, undef, undef, undef, undef, undef, undef, undef, undef, undef, undef, undef, undef, undef, undef, undef, undef, undef, undef, undef, undef, undef, undef, undef, undef, undef, undef, undef, undef, undef, undef, undef, undef, undef, undef, undef, undef, undef], defers := [] }) ?assign ?body ?done ?stop
  case hI => exact OwnFrom.and (Own.from (holdsRow_own (w2.heap.size + 5) (w2.heap.size + 1) 26 3 1 (fun pre : List Int => pre.length) (fun pre => pre.map (Value.int .i64)) (fun _ _ => True)) _) (ownFrom_below (by omega) (by omega))
  case h0 => exact ⟨⟨_, hpf.box, World.ownsRow_nil _ _ _ _, trivial⟩, Below.refl _ _⟩
  case assign =>
    intro l x W K hK
    gi_wp2
    exact hK
  case body =>
    rintro l pre x W ⟨⟨v, hv, hrow, _⟩, hB⟩ hlt
    have hc := hv.cell
    have hBW := hB.size
    gi_wp2_with (gi_at_builtin; refine wpListIn_append_own _ rfl _ _ 26 rfl (w2.heap.size + 5) 3 i0 (.int .i64 0) 1 8 Tryd.underlying26 hi hy0 hy1 hy2 rfl (by decide) _ _ _ rfl (hrow.alloc _) ⟨W.heap.size, 0, none⟩ 1 1 [.int .i64 x] rfl rfl (cell_one_new _ _ _) (by simp [Value.oneCell']) (by unfold maxLen; omega) (by omega) (by simp; omega) ?_; intro v' w1' hown' hgrow _; obtain ⟨g', cap', rfl⟩ := ownsRow_succ hown'; obtain ⟨hv1, hv2, hr2, hk2, hs2, hb2⟩ := appended_kept (St := fun k => k < w2.heap.size ∨ w2.heap.size + 2 ≤ k ∧ k < w2.heap.size + 5) (n₁ := w2.heap.size + 1) hv (by decide) hrow (by omega) (by omega) (fun k hk => by omega) (by omega) (by omega) hown' hgrow; have hc1 := hv1.cell; have hf1 := hv1.frozen)
    exact ⟨hk2.from _, hs2, ⟨_, hv2, by simpa using hr2, trivial⟩, hB.trans hb2⟩
  case stop =>
    rintro D c pre W _ _ h _
    exact h.elim
  case done =>
    rintro D ys W hD rfl ⟨⟨v, hv, hrow, _⟩, hB⟩ hK1
    obtain ⟨a, cap, rfl, hN⟩ := nums_of_row hrow (by simp [caps]; omega)
    obtain ⟨n, hn⟩ : ∃ n, n = (caps S J ticks).length := ⟨_, rfl⟩
    obtain ⟨xs, hxs⟩ : ∃ xs, xs = caps S J ticks := ⟨_, rfl⟩
    rw [← hn, ← hxs] at hN
    rw [← hn] at hv
    have hxb : ∀ x ∈ xs, 0 ≤ x ∧ x ≤ 500 := by rw [hxs]; exact caps_bd (by omega) (by omega) hJ.1
    have hn200 : n ≤ 200 := by rw [hn]; simp [caps]; exact ht
    have hxl : xs.length = n := by rw [hxs, hn]
    have hc26 := hv.cell
    have hBw : Below w.heap.size w W := (HB2.out.trans (hpf.bel.mono HB2.out.size)).trans (hB.mono (by have := HB2.out.size; omega))
    have HXS := Lib.hid hxs
    have HXB := Lib.hid hxb
    have HXL := Lib.hid hxl
    have HBW := Lib.hid hBw
    have HK1 := Lib.hid hK1
    clear hn hxs hxb hxl hBw hK1 hrow hB hv hpf hw0
    obtain ⟨want, hwant⟩ : ∃ want, want = off := ⟨_, rfl⟩
    have hwb : -20000 ≤ want ∧ want ≤ 20000 := by omega
    have HWN := Lib.hid hwb
    have HWE := Lib.hid hwant
    clear hwb hwant
    go_wp2_with fail
    rw [show off = want from HWE.out.symm]
    go_loopw [16] (fun i wr => ∃ k : Nat, k ≤ 500 ∧ i = .int .i64 k ∧ nFrom want xs (500 - k) k = nLevel want xs ∧ Below W.heap.size W wr) (fun i _ => 500 - (intOf i).toNat)
    case atStart => exact ⟨0, by omega, rfl, rfl, Below.refl _ _⟩
    case round =>
      obtain ⟨k, hk, rfl, hkn, hB2⟩ := hrel
      by_cases hlt : k < 500
      · have hcb := cell_below hB2 hc26
        have hNk := hN.below hB2
        have hl1 : (levelL ((k : Int) + 1) xs).length ≤ 17592186044416 := by simp [levelL, HXL.out]; omega
        have ht1 : total (levelL ((k : Int) + 1) xs) = sumL (levelL ((k : Int) + 1) xs) := total_level _ (by omega) xs HXB.out (by rw [HXL.out]; exact hn200)
        have hbd1 := sumL_level_bd ((k : Int) + 1) (by omega) xs HXB.out (by rw [HXL.out]; exact hn200)
        have HL1 := Lib.hid hl1
        have HT1 := Lib.hid ht1
        have HNF := Lib.hid hkn
        have HW2 := Lib.hid (show W.heap.size ≤ wr.heap.size from hB2.size)
        clear hl1 ht1 hkn
        go_wp2_with (first | (go_at_call 66; (refine (level_any _ (w2.heap.size + 1) a n cap xs _ hcb hNk hn200).mono ?_; rintro e w3 ⟨v, rfl, hown3, hb3⟩; obtain ⟨a3, cap3, rfl, hN3⟩ := nums_of_row hown3 HL1.out; clear hown3)) | (go_at_call 58; (refine (sum_any _ _ _ _ _ hN3).mono ?_; rintro e w' ⟨rfl, rfl⟩; rw [HT1.out])))
        · go_roundw
          case rel => exact ⟨k + 1, by omega, by go_num, by rw [← HNF.out, show 500 - k = 500 - (k + 1) + 1 from by omega, nFrom]; rw [if_pos (by assumption)], below_call hB2 (hb3.mono (by have := HW2.out; omega))⟩
          case measure => simp [intOf]; omega
        · have hlev : k = nLevel want xs := by rw [← HNF.out, show 500 - k = 500 - (k + 1) + 1 from by omega, nFrom, if_neg (by first | assumption | omega)]
          have hbz := ((below_call hB2 (hb3.mono (by have := HW2.out; omega)))).size
          refine (level_any _ (w2.heap.size + 1) a n cap xs _ (cell_below (below_call hB2 (hb3.mono (by have := HW2.out; omega))) hc26) (hN.below (below_call hB2 (hb3.mono (by have := HW2.out; omega)))) hn200).mono ?_
          rintro e w4 ⟨v4, rfl, hown4, hb4⟩
          have hlen : (levelL (k : Int) xs).length = n := by simp [levelL, HXL.out]
          obtain ⟨a4, cap4, rfl, hN4⟩ := nums_of_row hown4 (by omega)
          rw [hlen] at hown4 hN4
          rw [hlen]
          have hB4 : Below W.heap.size W w4 := below_call (below_call hB2 (hb3.mono (by have := HW2.out; omega))) hb4
          have ht4 : total (levelL (k : Int) xs) = sumL (levelL (k : Int) xs) := total_level _ (by omega) xs HXB.out (by rw [HXL.out]; exact hn200)
          have hbd4 := sumL_level_bd (k : Int) (by omega) xs HXB.out (by rw [HXL.out]; exact hn200)
          obtain ⟨sm, hsm⟩ : ∃ sm, sm = sumL (levelL (k : Int) xs) := ⟨_, rfl⟩
          rw [← hsm] at ht4 hbd4
          have hwn := HWN.out
          have HSM := Lib.hid hsm
          have HLEV := Lib.hid hlev
          have HLEN := Lib.hid hlen
          have hc26' := cell_below hB4 hc26
          clear hlev hlen hsm
          go_wp2_with (go_at_call 58; refine (sum_any _ _ _ _ _ hN4).mono ?_; rintro e w' ⟨rfl, rfl⟩; rw [ht4])
          have hown5 : w4.ownsRow W.heap.size 3 1 (.slice a4 n cap4) n ((midL k (want - sm) xs 0).map (Value.int .i64)) := by
            rw [midL_zero]; exact own_mono hown4 hbz
          obtain ⟨hg4, hcap4, hmx4⟩ := own_some hown5
          have HB4 := Lib.hid hB4
          have HO5 := Lib.hid hown5
          clear hown4 hown5 hb4 hN4 hB4 ht4
          go_loopw [18, 19, 20, 74] (fun l _ _ i wr => ∃ j : Nat, j ≤ n ∧ i = .int .i64 j ∧ l = .int .i64 (fillS k (want - sm) (xs.take j)) ∧ wr.ownsRow W.heap.size 3 1 (.slice a4 n cap4) n ((midL k (want - sm) xs j).map (Value.int .i64)) ∧ Below W.heap.size W wr) (fun _ _ _ i _ => n - (intOf i).toNat)
          case atStart => exact ⟨0, Nat.zero_le _, rfl, rfl, HO5.out, HB4.out⟩
          case round =>
            obtain ⟨j, hj, rfl, rfl, hownj, hBj⟩ := hrel
            by_cases hlt : j < n
            · have hlx : j < xs.length := by rw [HXL.out]; exact hlt
              have hcl := midL_at (k : Int) (want - sm) xs j hlx
              have hfb := fillS_bd (k : Int) (xs.take j) (want - sm)
              obtain ⟨x, hx⟩ : ∃ x, x = xs[j]?.getD 0 := ⟨_, rfl⟩
              have hxb : 0 ≤ x ∧ x ≤ 500 := by rw [hx]; have := HXB.out xs[j] (List.getElem_mem hlx); simpa [hlx] using this
              obtain ⟨pb, po, rfl, hcell⟩ := (hN.below hBj).2.2 (by omega)
              obtain ⟨g, rfl, hgb⟩ := hg4 (by omega)
              have hck := hcell j hlt
              rw [List.getD_eq_getElem?_getD, ← hx] at hck
              have hcg : wr.cell? ⟨g, j, none⟩ = some (.int .i64 (min (k : Int) x)) := by
                rw [hownj.cellAt j (by omega), List.getElem?_map, hcl, ← hx]; rfl
              have hfg := hownj.frozenAt j
              have hGO := midL_go (k : Int) (want - sm) xs j hlx
              have hST := midL_stay (k : Int) (want - sm) xs j hlx
              rw [← hx] at hGO hST
              obtain ⟨f, hf⟩ : ∃ f, f = fillS k (want - sm) (xs.take j) := ⟨_, rfl⟩
              rw [← hf] at hfb hGO hST ⊢
              have hst1 := hownj.stored j (.int .i64 (min (k : Int) x + 1))
              have HGO := Lib.hid hGO
              have HST := Lib.hid hST
              have HS1 := Lib.hid hst1
              have HOJ := Lib.hid hownj
              have hbj := hBj.size
              have HBJ := Lib.hid hBj
              clear hcell hf hx hGO hST hst1 hownj hcl hBj
              by_cases hf0 : 0 < f
              · by_cases hkx : (k : Int) < x
                · obtain ⟨hg1, hg2⟩ := HGO.out ⟨hf0, hkx⟩
                  have HG1 := Lib.hid hg1
                  have HG2 := Lib.hid hg2
                  clear hg1 hg2
                  go_wp2_with fail
                  go_roundw
                  case rel => exact ⟨j + 1, by omega, by go_num, by rw [HG2.out], by rw [HG1.out, List.map_set]; exact HS1.out.1, HBJ.out.setCell hgb _⟩
                  case measure => simp [intOf]; omega
                · obtain ⟨hg1, hg2⟩ := HST.out (by omega)
                  have HG1 := Lib.hid hg1
                  have HG2 := Lib.hid hg2
                  clear hg1 hg2
                  go_wp2_with fail
                  go_roundw
                  case rel => exact ⟨j + 1, by omega, by go_num, by rw [HG2.out], by rw [HG1.out]; exact HOJ.out, HBJ.out⟩
                  case measure => simp [intOf]; omega
              · obtain ⟨hg1, hg2⟩ := HST.out (by omega)
                have HG1 := Lib.hid hg1
                have HG2 := Lib.hid hg2
                clear hg1 hg2
                go_wp2_with fail
                go_roundw
                case rel => exact ⟨j + 1, by omega, by go_num, by rw [HG2.out], by rw [HG1.out]; exact HOJ.out, HBJ.out⟩
                case measure => simp [intOf]; omega
            · obtain rfl : j = n := by omega
              have hend : (midL (k : Int) (want - sm) xs j) = mulL (-1) (fillL k (want - sm) xs) 0 := by
                have := midL_end (k : Int) (want - sm) xs
                rw [HXL.out] at this
                rw [this, mulL_zero]
              rw [hend] at hownj
              have HOJ := Lib.hid hownj
              have HBJ := Lib.hid hBj
              clear hend hownj hBj
              go_wp2_with fail
              go_loopw [21, 97] (fun _ i wr => ∃ m : Nat, m ≤ j ∧ i = .int .i64 m ∧ wr.ownsRow W.heap.size 3 1 (.slice a4 j cap4) j ((mulL (-1) (fillL k (want - sm) xs) m).map (Value.int .i64)) ∧ Below W.heap.size W wr) (fun _ i _ => j - (intOf i).toNat)
              case atStart => exact ⟨0, Nat.zero_le _, rfl, HOJ.out, HBJ.out⟩
              case round =>
                obtain ⟨m, hm, rfl, hownm, hBm⟩ := hrel
                by_cases hlt : m < j
                · have hlm : m < (fillL (k : Int) (want - sm) xs).length := by rw [fillL_length, HXL.out]; exact hlt
                  have hcl := mulL_at (-1) (fillL (k : Int) (want - sm) xs) m hlm
                  have hsu := mulL_succ (-1) (fillL (k : Int) (want - sm) xs) m hlm
                  obtain ⟨y, hy⟩ : ∃ y, y = (fillL (k : Int) (want - sm) xs)[m]?.getD 0 := ⟨_, rfl⟩
                  have hyb : 0 ≤ y ∧ y ≤ 501 := by rw [hy]; have := fillL_bd (k : Int) (by omega) (by omega) xs HXB.out (want - sm) _ (List.getElem_mem hlm); simpa [hlm] using this
                  obtain ⟨g, rfl, hgb⟩ := hg4 (by omega)
                  have hcg : wr.cell? ⟨g, m, none⟩ = some (.int .i64 y) := by
                    rw [hownm.cellAt m (by omega), List.getElem?_map, hcl, ← hy]; rfl
                  have hfg := hownm.frozenAt m
                  rw [← hy] at hsu
                  have hst1 := hownm.stored m (.int .i64 (-y))
                  have HSU := Lib.hid hsu
                  have HS1 := Lib.hid hst1
                  have HBM := Lib.hid hBm
                  clear hcl hy hsu hst1 hownm hBm
                  go_wp2_with fail
                  go_roundw
                  case rel => exact ⟨m + 1, by omega, by go_num, by rw [HSU.out, show y * (-1) = -y from by omega, List.map_set]; exact HS1.out.1, HBM.out.setCell hgb _⟩
                  case measure => simp [intOf]; omega
                · obtain rfl : m = j := by omega
                  have hend : mulL (-1) (fillL (k : Int) (want - sm) xs) m = planOf (-1) want xs := by
                    have := mulL_end (-1) (fillL (k : Int) (want - sm) xs)
                    rw [fillL_length, HXL.out] at this
                    rw [this, planOf, ← HLEV.out, ← HSM.out]
                  rw [hend] at hownm
                  have HOM := Lib.hid hownm
                  have HBM := Lib.hid hBm
                  clear hend hownm hBm
                  have hDl : D < W.heap.size := (Array.getElem?_eq_some_iff.1 HK1.out).1
                  have hkD := (HBM.out.block D hDl).trans HK1.out
                  have hpl : (planOf (-1) want xs).length = m := by rw [planOf_length, HXL.out]
                  have hnm := nums_of_own HOM.out hpl (by omega)
                  have HKD := Lib.hid hkD
                  have HNM := Lib.hid hnm
                  have HPL := Lib.hid hpl
                  clear hkD hnm hpl
                  go_wp2_with fail
                  refine ⟨by simp, .inl ⟨_, _, rfl, run_takeDeferred HKD.out, ?_⟩⟩
                  have hBw := HBW.out
                  have hBm := HBM.out
                  have hzz := hBw.size
                  refine ⟨_, results_tmp2 rfl _ _ _, ?_⟩
                  have hxe := HXS.out
                  have hwe := HWE.out
                  rw [← hxe, ← hwe]
                  refine ⟨a4, m, ?_, ?_, ?_⟩
                  · rw [HPL.out]; rfl
                  · rw [HPL.out]
                    refine ⟨nums_putObj HNM.out ?_, Nat.le_refl _, ?_⟩
                    · intro g o' hp ha
                      obtain ⟨g', hg', hgb⟩ := hg4 hp
                      rw [hg'] at ha
                      injection ha with ha
                      injection ha with ha
                      omega
                    · intro g o' ha hp
                      obtain ⟨g', hg', hgb⟩ := hg4 hp
                      rw [hg'] at ha
                      injection ha with ha
                      injection ha with ha
                      omega
                  · exact below_putObj (hBw.trans (hBm.mono hzz)) (by omega)
      · have HK5 := Lib.hid (show k = 500 by omega)
        have HNF := Lib.hid hkn
        clear hkn
        go_wp2_with fail
        have hlev : k = nLevel want xs := by have h := HNF.out; rw [HK5.out] at h ⊢; exact h
        have hbz := (hB2).size
        refine (level_any _ (w2.heap.size + 1) a n cap xs _ (cell_below hB2 hc26) (hN.below hB2) hn200).mono ?_
        rintro e w4 ⟨v4, rfl, hown4, hb4⟩
        have hlen : (levelL (k : Int) xs).length = n := by simp [levelL, HXL.out]
        obtain ⟨a4, cap4, rfl, hN4⟩ := nums_of_row hown4 (by omega)
        rw [hlen] at hown4 hN4
        rw [hlen]
        have hB4 : Below W.heap.size W w4 := below_call hB2 hb4
        have ht4 : total (levelL (k : Int) xs) = sumL (levelL (k : Int) xs) := total_level _ (by omega) xs HXB.out (by rw [HXL.out]; exact hn200)
        have hbd4 := sumL_level_bd (k : Int) (by omega) xs HXB.out (by rw [HXL.out]; exact hn200)
        obtain ⟨sm, hsm⟩ : ∃ sm, sm = sumL (levelL (k : Int) xs) := ⟨_, rfl⟩
        rw [← hsm] at ht4 hbd4
        have hwn := HWN.out
        have HSM := Lib.hid hsm
        have HLEV := Lib.hid hlev
        have HLEN := Lib.hid hlen
        have hc26' := cell_below hB4 hc26
        clear hlev hlen hsm
        go_wp2_with (go_at_call 58; refine (sum_any _ _ _ _ _ hN4).mono ?_; rintro e w' ⟨rfl, rfl⟩; rw [ht4])
        have hown5 : w4.ownsRow W.heap.size 3 1 (.slice a4 n cap4) n ((midL k (want - sm) xs 0).map (Value.int .i64)) := by
          rw [midL_zero]; exact own_mono hown4 hbz
        obtain ⟨hg4, hcap4, hmx4⟩ := own_some hown5
        have HB4 := Lib.hid hB4
        have HO5 := Lib.hid hown5
        clear hown4 hown5 hb4 hN4 hB4 ht4
        go_loopw [18, 19, 20, 74] (fun l _ _ i wr => ∃ j : Nat, j ≤ n ∧ i = .int .i64 j ∧ l = .int .i64 (fillS k (want - sm) (xs.take j)) ∧ wr.ownsRow W.heap.size 3 1 (.slice a4 n cap4) n ((midL k (want - sm) xs j).map (Value.int .i64)) ∧ Below W.heap.size W wr) (fun _ _ _ i _ => n - (intOf i).toNat)
        case atStart => exact ⟨0, Nat.zero_le _, rfl, rfl, HO5.out, HB4.out⟩
        case round =>
          obtain ⟨j, hj, rfl, rfl, hownj, hBj⟩ := hrel
          by_cases hlt : j < n
          · have hlx : j < xs.length := by rw [HXL.out]; exact hlt
            have hcl := midL_at (k : Int) (want - sm) xs j hlx
            have hfb := fillS_bd (k : Int) (xs.take j) (want - sm)
            obtain ⟨x, hx⟩ : ∃ x, x = xs[j]?.getD 0 := ⟨_, rfl⟩
            have hxb : 0 ≤ x ∧ x ≤ 500 := by rw [hx]; have := HXB.out xs[j] (List.getElem_mem hlx); simpa [hlx] using this
            obtain ⟨pb, po, rfl, hcell⟩ := (hN.below hBj).2.2 (by omega)
            obtain ⟨g, rfl, hgb⟩ := hg4 (by omega)
            have hck := hcell j hlt
            rw [List.getD_eq_getElem?_getD, ← hx] at hck
            have hcg : wr.cell? ⟨g, j, none⟩ = some (.int .i64 (min (k : Int) x)) := by
              rw [hownj.cellAt j (by omega), List.getElem?_map, hcl, ← hx]; rfl
            have hfg := hownj.frozenAt j
            have hGO := midL_go (k : Int) (want - sm) xs j hlx
            have hST := midL_stay (k : Int) (want - sm) xs j hlx
            rw [← hx] at hGO hST
            obtain ⟨f, hf⟩ : ∃ f, f = fillS k (want - sm) (xs.take j) := ⟨_, rfl⟩
            rw [← hf] at hfb hGO hST ⊢
            have hst1 := hownj.stored j (.int .i64 (min (k : Int) x + 1))
            have HGO := Lib.hid hGO
            have HST := Lib.hid hST
            have HS1 := Lib.hid hst1
            have HOJ := Lib.hid hownj
            have hbj := hBj.size
            have HBJ := Lib.hid hBj
            clear hcell hf hx hGO hST hst1 hownj hcl hBj
            by_cases hf0 : 0 < f
            · by_cases hkx : (k : Int) < x
              · exfalso; omega
              · obtain ⟨hg1, hg2⟩ := HST.out (by omega)
                have HG1 := Lib.hid hg1
                have HG2 := Lib.hid hg2
                clear hg1 hg2
                go_wp2_with fail
                go_roundw
                case rel => exact ⟨j + 1, by omega, by go_num, by rw [HG2.out], by rw [HG1.out]; exact HOJ.out, HBJ.out⟩
                case measure => simp [intOf]; omega
            · obtain ⟨hg1, hg2⟩ := HST.out (by omega)
              have HG1 := Lib.hid hg1
              have HG2 := Lib.hid hg2
              clear hg1 hg2
              go_wp2_with fail
              go_roundw
              case rel => exact ⟨j + 1, by omega, by go_num, by rw [HG2.out], by rw [HG1.out]; exact HOJ.out, HBJ.out⟩
              case measure => simp [intOf]; omega
          · obtain rfl : j = n := by omega
            have hend : (midL (k : Int) (want - sm) xs j) = mulL (-1) (fillL k (want - sm) xs) 0 := by
              have := midL_end (k : Int) (want - sm) xs
              rw [HXL.out] at this
              rw [this, mulL_zero]
            rw [hend] at hownj
            have HOJ := Lib.hid hownj
            have HBJ := Lib.hid hBj
            clear hend hownj hBj
            go_wp2_with fail
            go_loopw [21, 97] (fun _ i wr => ∃ m : Nat, m ≤ j ∧ i = .int .i64 m ∧ wr.ownsRow W.heap.size 3 1 (.slice a4 j cap4) j ((mulL (-1) (fillL k (want - sm) xs) m).map (Value.int .i64)) ∧ Below W.heap.size W wr) (fun _ i _ => j - (intOf i).toNat)
            case atStart => exact ⟨0, Nat.zero_le _, rfl, HOJ.out, HBJ.out⟩
            case round =>
              obtain ⟨m, hm, rfl, hownm, hBm⟩ := hrel
              by_cases hlt : m < j
              · have hlm : m < (fillL (k : Int) (want - sm) xs).length := by rw [fillL_length, HXL.out]; exact hlt
                have hcl := mulL_at (-1) (fillL (k : Int) (want - sm) xs) m hlm
                have hsu := mulL_succ (-1) (fillL (k : Int) (want - sm) xs) m hlm
                obtain ⟨y, hy⟩ : ∃ y, y = (fillL (k : Int) (want - sm) xs)[m]?.getD 0 := ⟨_, rfl⟩
                have hyb : 0 ≤ y ∧ y ≤ 501 := by rw [hy]; have := fillL_bd (k : Int) (by omega) (by omega) xs HXB.out (want - sm) _ (List.getElem_mem hlm); simpa [hlm] using this
                obtain ⟨g, rfl, hgb⟩ := hg4 (by omega)
                have hcg : wr.cell? ⟨g, m, none⟩ = some (.int .i64 y) := by
                  rw [hownm.cellAt m (by omega), List.getElem?_map, hcl, ← hy]; rfl
                have hfg := hownm.frozenAt m
                rw [← hy] at hsu
                have hst1 := hownm.stored m (.int .i64 (-y))
                have HSU := Lib.hid hsu
                have HS1 := Lib.hid hst1
                have HBM := Lib.hid hBm
                clear hcl hy hsu hst1 hownm hBm
                go_wp2_with fail
                go_roundw
                case rel => exact ⟨m + 1, by omega, by go_num, by rw [HSU.out, show y * (-1) = -y from by omega, List.map_set]; exact HS1.out.1, HBM.out.setCell hgb _⟩
                case measure => simp [intOf]; omega
              · obtain rfl : m = j := by omega
                have hend : mulL (-1) (fillL (k : Int) (want - sm) xs) m = planOf (-1) want xs := by
                  have := mulL_end (-1) (fillL (k : Int) (want - sm) xs)
                  rw [fillL_length, HXL.out] at this
                  rw [this, planOf, ← HLEV.out, ← HSM.out]
                rw [hend] at hownm
                have HOM := Lib.hid hownm
                have HBM := Lib.hid hBm
                clear hend hownm hBm
                have hDl : D < W.heap.size := (Array.getElem?_eq_some_iff.1 HK1.out).1
                have hkD := (HBM.out.block D hDl).trans HK1.out
                have hpl : (planOf (-1) want xs).length = m := by rw [planOf_length, HXL.out]
                have hnm := nums_of_own HOM.out hpl (by omega)
                have HKD := Lib.hid hkD
                have HNM := Lib.hid hnm
                have HPL := Lib.hid hpl
                clear hkD hnm hpl
                go_wp2_with fail
                refine ⟨by simp, .inl ⟨_, _, rfl, run_takeDeferred HKD.out, ?_⟩⟩
                have hBw := HBW.out
                have hBm := HBM.out
                have hzz := hBw.size
                refine ⟨_, results_tmp2 rfl _ _ _, ?_⟩
                have hxe := HXS.out
                have hwe := HWE.out
                rw [← hxe, ← hwe]
                refine ⟨a4, m, ?_, ?_, ?_⟩
                · rw [HPL.out]; rfl
                · rw [HPL.out]
                  refine ⟨nums_putObj HNM.out ?_, Nat.le_refl _, ?_⟩
                  · intro g o' hp ha
                    obtain ⟨g', hg', hgb⟩ := hg4 hp
                    rw [hg'] at ha
                    injection ha with ha
                    injection ha with ha
                    omega
                  · intro g o' ha hp
                    obtain ⟨g', hg', hgb⟩ := hg4 hp
                    rw [hg'] at ha
                    injection ha with ha
                    injection ha with ha
                    omega
                · exact below_putObj (hBw.trans (hBm.mono hzz)) (by omega)

set_option maxRecDepth 100000 in
set_option maxHeartbeats 2000000 in
theorem Plan_neg (F S J L H off : Int) (ticks : Nat) (w : World) (hw : Ways w) (hr : isRuleB F S J L H = true) (ho : -20000 ≤ off ∧ off ≤ 20000) (hs : ¬ 0 < off) (ht : ticks ≤ 200) (hft : fewest F S J off = ticks) :
    Calls Tryd.prog 20 #[.agg #[.int .i64 F, .int .i64 S, .int .i64 J, .int .i64 L, .int .i64 H], .int .i64 off] w (ListPost 0 (planOf (1) (-off) (caps F J ticks)) w) := by
  obtain ⟨i0, hi, hy0, hy1, hy2⟩ := info_parts Tryd.info3
  have hfew := fun W h => Fewest_ok F S J L H off hr (lies_iff.2 ho) W h
  have hn0 : ¬ (fewest F S J off < 0) := by omega
  simp only [hn0, if_false] at hfew
  rw [hft] at hfew
  have hB0 : Below w.heap.size w (w.alloc (.cells #[.int .i64 F, .int .i64 S, .int .i64 J, .int .i64 L, .int .i64 H] 25)) := (Below.refl _ _).alloc (Nat.le_refl _) _
  have hw1 := hw.below hB0
  have HFT := Lib.hid hft
  clear hft hn0
  refine (callsIn_wide (n := 5)).1 ?_
  refine callsIn_of_wp_marks Tryd.func20 rfl trivial ?_ rfl
  simp only [Tryd.ntmps20, List.size_toArray, List.length_cons, List.length_nil, Nat.reduceAdd, Nat.reduceSub, Array.replicate_succ, Array.replicate_zero, List.push_toArray, List.append_toArray, List.nil_append, List.cons_append]
  refine wpIn_wide.2 ?_
  go_wp2_with fail
  refine (hfew _ hw1).mono ?_
  rintro e w1 ⟨rfl, hb1⟩
  have hB1 := below_call hB0 hb1
  obtain ⟨hc, hf⟩ := bcell hb1
  have hz := hb1.size
  simp at hz
  have hz1 : w.heap.size < w1.heap.size := by omega
  have HB1 := Lib.hid hB1
  clear hb1 hB1 hfew
  go_wp2_with fail
  refine (opened_ok F S J L H _ hr).mono ?_
  rintro e w2 ⟨b, rfl, hb2, hnb, hnew⟩
  have hB2 := below_call HB1.out hb2
  have hw2 := hw.below hB2
  have hz2 := hb2.size
  have HB2 := Lib.hid hB2
  clear hb2 hB2 hc hf hnew
  go_wp2_with (go_at_call 65; refine (most_any _ _ _ _ rfl).mono ?_; rintro e w' ⟨rfl, rfl⟩)
  change Code.wp Tryd.prog _ _ _ (planW F S J L H b ticks 0 w2)
  have hpf := planW_is F S J L H b ticks 0 w2
  have hw0 := hw2.below hpf.bel
  generalize planW F S J L H b ticks 0 w2 = W0 at hpf hw0 ⊢
  have hsz := hpf.size
  obtain ⟨hF, hS, hJ, _⟩ := isRuleB_spec hr
  refine (wpIn_wide (n := 5)).1 ?_
  refine wpIn_rangeFunc_ownG rfl (by decide) (gf := 81) (lb := #[.pointer (some ⟨w2.heap.size + 2 + 1, 0, none⟩), .pointer (some ⟨w2.heap.size + 2 + 2, 0, none⟩), .pointer (some ⟨w2.heap.size + 2, 0, none⟩)]) rfl trivial (enters_of Tryd.func81 (by kernel_rfl) rfl)
    (most_stops _ (w2.heap.size + 2) (fun k => k < w2.heap.size ∨ (w2.heap.size + 2 ≤ k ∧ k < w2.heap.size + 5)) F S J L H (some b) ticks 0 F (by exact .inl ⟨rfl, rfl⟩) ht hr W0 hw0 ⟨.inl (by have := World.block_lt_of_cell? w2 _ hw2.1; exact this), .inr (by omega), .inr (by omega), .inr (by omega)⟩ (fun k hk => by omega) hpf.rule hpf.tk hpf.wy)
    Kept.trans (keptK_b (fun k hk => by omega)) (Below.refl _ _) (fun _ => rfl)
    (fun pre W => (∃ v, Boxed W (w2.heap.size + 1) 26 v ∧ W.ownsRow (w2.heap.size + 5) 3 1 v pre.length (pre.map (Value.int .i64)) ∧ True) ∧ Below (w2.heap.size + 1) W0 W)
    (fun _ _ _ => False) ?hI (fun _ _ _ _ _ hs _ _ => hs) ?h0 (fun x => { tmps := #[.agg #[.int .i64 F, .int .i64 S, .int .i64 J, .int .i64 L, .int .i64 H], .int .i64 off, .pointer (some ⟨w.heap.size, 0, none⟩), undef, .slice none 0 0, .int .i64 0, .int .i64 ticks, .int .i64 0, .pointer (some ⟨w2.heap.size, 0, none⟩), .int .i64 0, .int .i64 0, .int .i64 (1), .pointer (some ⟨w2.heap.size + 1, 0, none⟩), .int .i64 x, undef, undef, undef, undef, undef, undef, undef, undef, .tuple #[.int .i64 ticks, .int .i64 0], .agg #[.int .i64 F, .int .i64 S, .int .i64 J, .int .i64 L, .int .i64 H], .int .i64 off, .tuple #[.int .i64 ticks, .int .i64 0], .int .i64 ticks, .int .i64 0, .int .i64 0, .bool false, undef, .tuple #[.agg #[.int .i64 F, .int .i64 S, .int .i64 J, .int .i64 L, .int .i64 H, .map (some b)], .int .i64 0], .agg #[.int .i64 F, .int .i64 S, .int .i64 J, .int .i64 L, .int .i64 H], .tuple #[.agg #[.int .i64 F, .int .i64 S, .int .i64 J, .int .i64 L, .int .i64 H, .map (some b)], .int .i64 0], .agg #[.int .i64 F, .int .i64 S, .int .i64 J, .int .i64 L, .int .i64 H, .map (some b)], .int .i64 0, .int .i64 off, .bool (decide (0 < off)), .agg #[.int .i64 F, .int .i64 S, .int .i64 J, .int .i64 L, .int .i64 H, .map (some b)], .int .i64 ticks, .int .i64 0, .func (.func 81) #[] #[.pointer (some ⟨w2.heap.size + 1 + 1 + 1, 0, none⟩), .pointer (some ⟨w2.heap.size + 1 + 1 + 2, 0, none⟩), .pointer (some ⟨w2.heap.size + 1 + 1, 0, none⟩)], .int .i64 x, undef, undef, undef, undef, undef, undef, undef, undef, undef, undef, undef, undef, undef, undef, undef, undef, undef, undef, undef, undef, undef, undef, undef, undef, undef, undef, undef, undef, undef, undef, undef, undef, undef, undef, undef, undef, undef, undef, undef, undef, undef, undef, undef, undef, undef, undef, undef, undef, undef, undef, undef, undef, undef, undef, undef, undef, undef, undef, undef, undef, undef, undef, undef, undef, undef, undef, undef, undef, undef, undef, undef], defers := [] }) ?assign ?body ?done ?stop
  case hI => exact OwnFrom.and (Own.from (holdsRow_own (w2.heap.size + 5) (w2.heap.size + 1) 26 3 1 (fun pre : List Int => pre.length) (fun pre => pre.map (Value.int .i64)) (fun _ _ => True)) _) (ownFrom_below (by omega) (by omega))
  case h0 => exact ⟨⟨_, hpf.box, World.ownsRow_nil _ _ _ _, trivial⟩, Below.refl _ _⟩
  case assign =>
    intro l x W K hK
    gi_wp2
    exact hK
  case body =>
    rintro l pre x W ⟨⟨v, hv, hrow, _⟩, hB⟩ hlt
    have hc := hv.cell
    have hBW := hB.size
    gi_wp2_with (gi_at_builtin; refine wpListIn_append_own _ rfl _ _ 26 rfl (w2.heap.size + 5) 3 i0 (.int .i64 0) 1 8 Tryd.underlying26 hi hy0 hy1 hy2 rfl (by decide) _ _ _ rfl (hrow.alloc _) ⟨W.heap.size, 0, none⟩ 1 1 [.int .i64 x] rfl rfl (cell_one_new _ _ _) (by simp [Value.oneCell']) (by unfold maxLen; omega) (by omega) (by simp; omega) ?_; intro v' w1' hown' hgrow _; obtain ⟨g', cap', rfl⟩ := ownsRow_succ hown'; obtain ⟨hv1, hv2, hr2, hk2, hs2, hb2⟩ := appended_kept (St := fun k => k < w2.heap.size ∨ w2.heap.size + 2 ≤ k ∧ k < w2.heap.size + 5) (n₁ := w2.heap.size + 1) hv (by decide) hrow (by omega) (by omega) (fun k hk => by omega) (by omega) (by omega) hown' hgrow; have hc1 := hv1.cell; have hf1 := hv1.frozen)
    exact ⟨hk2.from _, hs2, ⟨_, hv2, by simpa using hr2, trivial⟩, hB.trans hb2⟩
  case stop =>
    rintro D c pre W _ _ h _
    exact h.elim
  case done =>
    rintro D ys W hD rfl ⟨⟨v, hv, hrow, _⟩, hB⟩ hK1
    obtain ⟨a, cap, rfl, hN⟩ := nums_of_row hrow (by simp [caps]; omega)
    obtain ⟨n, hn⟩ : ∃ n, n = (caps F J ticks).length := ⟨_, rfl⟩
    obtain ⟨xs, hxs⟩ : ∃ xs, xs = caps F J ticks := ⟨_, rfl⟩
    rw [← hn, ← hxs] at hN
    rw [← hn] at hv
    have hxb : ∀ x ∈ xs, 0 ≤ x ∧ x ≤ 500 := by rw [hxs]; exact caps_bd (by omega) (by omega) hJ.1
    have hn200 : n ≤ 200 := by rw [hn]; simp [caps]; exact ht
    have hxl : xs.length = n := by rw [hxs, hn]
    have hc26 := hv.cell
    have hBw : Below w.heap.size w W := (HB2.out.trans (hpf.bel.mono HB2.out.size)).trans (hB.mono (by have := HB2.out.size; omega))
    have HXS := Lib.hid hxs
    have HXB := Lib.hid hxb
    have HXL := Lib.hid hxl
    have HBW := Lib.hid hBw
    have HK1 := Lib.hid hK1
    clear hn hxs hxb hxl hBw hK1 hrow hB hv hpf hw0
    obtain ⟨want, hwant⟩ : ∃ want, want = -off := ⟨_, rfl⟩
    have hwb : -20000 ≤ want ∧ want ≤ 20000 := by omega
    have HWN := Lib.hid hwb
    have HWE := Lib.hid hwant
    clear hwb hwant
    go_wp2_with fail
    rw [show -off = want from HWE.out.symm]
    go_loopw [16] (fun i wr => ∃ k : Nat, k ≤ 500 ∧ i = .int .i64 k ∧ nFrom want xs (500 - k) k = nLevel want xs ∧ Below W.heap.size W wr) (fun i _ => 500 - (intOf i).toNat)
    case atStart => exact ⟨0, by omega, rfl, rfl, Below.refl _ _⟩
    case round =>
      obtain ⟨k, hk, rfl, hkn, hB2⟩ := hrel
      by_cases hlt : k < 500
      · have hcb := cell_below hB2 hc26
        have hNk := hN.below hB2
        have hl1 : (levelL ((k : Int) + 1) xs).length ≤ 17592186044416 := by simp [levelL, HXL.out]; omega
        have ht1 : total (levelL ((k : Int) + 1) xs) = sumL (levelL ((k : Int) + 1) xs) := total_level _ (by omega) xs HXB.out (by rw [HXL.out]; exact hn200)
        have hbd1 := sumL_level_bd ((k : Int) + 1) (by omega) xs HXB.out (by rw [HXL.out]; exact hn200)
        have HL1 := Lib.hid hl1
        have HT1 := Lib.hid ht1
        have HNF := Lib.hid hkn
        have HW2 := Lib.hid (show W.heap.size ≤ wr.heap.size from hB2.size)
        clear hl1 ht1 hkn
        go_wp2_with (first | (go_at_call 66; (refine (level_any _ (w2.heap.size + 1) a n cap xs _ hcb hNk hn200).mono ?_; rintro e w3 ⟨v, rfl, hown3, hb3⟩; obtain ⟨a3, cap3, rfl, hN3⟩ := nums_of_row hown3 HL1.out; clear hown3)) | (go_at_call 58; (refine (sum_any _ _ _ _ _ hN3).mono ?_; rintro e w' ⟨rfl, rfl⟩; rw [HT1.out])))
        · go_roundw
          case rel => exact ⟨k + 1, by omega, by go_num, by rw [← HNF.out, show 500 - k = 500 - (k + 1) + 1 from by omega, nFrom]; rw [if_pos (by assumption)], below_call hB2 (hb3.mono (by have := HW2.out; omega))⟩
          case measure => simp [intOf]; omega
        · have hlev : k = nLevel want xs := by rw [← HNF.out, show 500 - k = 500 - (k + 1) + 1 from by omega, nFrom, if_neg (by first | assumption | omega)]
          have hbz := ((below_call hB2 (hb3.mono (by have := HW2.out; omega)))).size
          refine (level_any _ (w2.heap.size + 1) a n cap xs _ (cell_below (below_call hB2 (hb3.mono (by have := HW2.out; omega))) hc26) (hN.below (below_call hB2 (hb3.mono (by have := HW2.out; omega)))) hn200).mono ?_
          rintro e w4 ⟨v4, rfl, hown4, hb4⟩
          have hlen : (levelL (k : Int) xs).length = n := by simp [levelL, HXL.out]
          obtain ⟨a4, cap4, rfl, hN4⟩ := nums_of_row hown4 (by omega)
          rw [hlen] at hown4 hN4
          rw [hlen]
          have hB4 : Below W.heap.size W w4 := below_call (below_call hB2 (hb3.mono (by have := HW2.out; omega))) hb4
          have ht4 : total (levelL (k : Int) xs) = sumL (levelL (k : Int) xs) := total_level _ (by omega) xs HXB.out (by rw [HXL.out]; exact hn200)
          have hbd4 := sumL_level_bd (k : Int) (by omega) xs HXB.out (by rw [HXL.out]; exact hn200)
          obtain ⟨sm, hsm⟩ : ∃ sm, sm = sumL (levelL (k : Int) xs) := ⟨_, rfl⟩
          rw [← hsm] at ht4 hbd4
          have hwn := HWN.out
          have HSM := Lib.hid hsm
          have HLEV := Lib.hid hlev
          have HLEN := Lib.hid hlen
          have hc26' := cell_below hB4 hc26
          clear hlev hlen hsm
          go_wp2_with (go_at_call 58; refine (sum_any _ _ _ _ _ hN4).mono ?_; rintro e w' ⟨rfl, rfl⟩; rw [ht4])
          have hown5 : w4.ownsRow W.heap.size 3 1 (.slice a4 n cap4) n ((midL k (want - sm) xs 0).map (Value.int .i64)) := by
            rw [midL_zero]; exact own_mono hown4 hbz
          obtain ⟨hg4, hcap4, hmx4⟩ := own_some hown5
          have HB4 := Lib.hid hB4
          have HO5 := Lib.hid hown5
          clear hown4 hown5 hb4 hN4 hB4 ht4
          go_loopw [18, 19, 20, 74] (fun l _ _ i wr => ∃ j : Nat, j ≤ n ∧ i = .int .i64 j ∧ l = .int .i64 (fillS k (want - sm) (xs.take j)) ∧ wr.ownsRow W.heap.size 3 1 (.slice a4 n cap4) n ((midL k (want - sm) xs j).map (Value.int .i64)) ∧ Below W.heap.size W wr) (fun _ _ _ i _ => n - (intOf i).toNat)
          case atStart => exact ⟨0, Nat.zero_le _, rfl, rfl, HO5.out, HB4.out⟩
          case round =>
            obtain ⟨j, hj, rfl, rfl, hownj, hBj⟩ := hrel
            by_cases hlt : j < n
            · have hlx : j < xs.length := by rw [HXL.out]; exact hlt
              have hcl := midL_at (k : Int) (want - sm) xs j hlx
              have hfb := fillS_bd (k : Int) (xs.take j) (want - sm)
              obtain ⟨x, hx⟩ : ∃ x, x = xs[j]?.getD 0 := ⟨_, rfl⟩
              have hxb : 0 ≤ x ∧ x ≤ 500 := by rw [hx]; have := HXB.out xs[j] (List.getElem_mem hlx); simpa [hlx] using this
              obtain ⟨pb, po, rfl, hcell⟩ := (hN.below hBj).2.2 (by omega)
              obtain ⟨g, rfl, hgb⟩ := hg4 (by omega)
              have hck := hcell j hlt
              rw [List.getD_eq_getElem?_getD, ← hx] at hck
              have hcg : wr.cell? ⟨g, j, none⟩ = some (.int .i64 (min (k : Int) x)) := by
                rw [hownj.cellAt j (by omega), List.getElem?_map, hcl, ← hx]; rfl
              have hfg := hownj.frozenAt j
              have hGO := midL_go (k : Int) (want - sm) xs j hlx
              have hST := midL_stay (k : Int) (want - sm) xs j hlx
              rw [← hx] at hGO hST
              obtain ⟨f, hf⟩ : ∃ f, f = fillS k (want - sm) (xs.take j) := ⟨_, rfl⟩
              rw [← hf] at hfb hGO hST ⊢
              have hst1 := hownj.stored j (.int .i64 (min (k : Int) x + 1))
              have HGO := Lib.hid hGO
              have HST := Lib.hid hST
              have HS1 := Lib.hid hst1
              have HOJ := Lib.hid hownj
              have hbj := hBj.size
              have HBJ := Lib.hid hBj
              clear hcell hf hx hGO hST hst1 hownj hcl hBj
              by_cases hf0 : 0 < f
              · by_cases hkx : (k : Int) < x
                · obtain ⟨hg1, hg2⟩ := HGO.out ⟨hf0, hkx⟩
                  have HG1 := Lib.hid hg1
                  have HG2 := Lib.hid hg2
                  clear hg1 hg2
                  go_wp2_with fail
                  go_roundw
                  case rel => exact ⟨j + 1, by omega, by go_num, by rw [HG2.out], by rw [HG1.out, List.map_set]; exact HS1.out.1, HBJ.out.setCell hgb _⟩
                  case measure => simp [intOf]; omega
                · obtain ⟨hg1, hg2⟩ := HST.out (by omega)
                  have HG1 := Lib.hid hg1
                  have HG2 := Lib.hid hg2
                  clear hg1 hg2
                  go_wp2_with fail
                  go_roundw
                  case rel => exact ⟨j + 1, by omega, by go_num, by rw [HG2.out], by rw [HG1.out]; exact HOJ.out, HBJ.out⟩
                  case measure => simp [intOf]; omega
              · obtain ⟨hg1, hg2⟩ := HST.out (by omega)
                have HG1 := Lib.hid hg1
                have HG2 := Lib.hid hg2
                clear hg1 hg2
                go_wp2_with fail
                go_roundw
                case rel => exact ⟨j + 1, by omega, by go_num, by rw [HG2.out], by rw [HG1.out]; exact HOJ.out, HBJ.out⟩
                case measure => simp [intOf]; omega
            · obtain rfl : j = n := by omega
              have hend : (midL (k : Int) (want - sm) xs j) = mulL (1) (fillL k (want - sm) xs) 0 := by
                have := midL_end (k : Int) (want - sm) xs
                rw [HXL.out] at this
                rw [this, mulL_zero]
              rw [hend] at hownj
              have HOJ := Lib.hid hownj
              have HBJ := Lib.hid hBj
              clear hend hownj hBj
              go_wp2_with fail
              go_loopw [21, 97] (fun _ i wr => ∃ m : Nat, m ≤ j ∧ i = .int .i64 m ∧ wr.ownsRow W.heap.size 3 1 (.slice a4 j cap4) j ((mulL (1) (fillL k (want - sm) xs) m).map (Value.int .i64)) ∧ Below W.heap.size W wr) (fun _ i _ => j - (intOf i).toNat)
              case atStart => exact ⟨0, Nat.zero_le _, rfl, HOJ.out, HBJ.out⟩
              case round =>
                obtain ⟨m, hm, rfl, hownm, hBm⟩ := hrel
                by_cases hlt : m < j
                · have hlm : m < (fillL (k : Int) (want - sm) xs).length := by rw [fillL_length, HXL.out]; exact hlt
                  have hcl := mulL_at (1) (fillL (k : Int) (want - sm) xs) m hlm
                  have hsu := mulL_succ (1) (fillL (k : Int) (want - sm) xs) m hlm
                  obtain ⟨y, hy⟩ : ∃ y, y = (fillL (k : Int) (want - sm) xs)[m]?.getD 0 := ⟨_, rfl⟩
                  have hyb : 0 ≤ y ∧ y ≤ 501 := by rw [hy]; have := fillL_bd (k : Int) (by omega) (by omega) xs HXB.out (want - sm) _ (List.getElem_mem hlm); simpa [hlm] using this
                  obtain ⟨g, rfl, hgb⟩ := hg4 (by omega)
                  have hcg : wr.cell? ⟨g, m, none⟩ = some (.int .i64 y) := by
                    rw [hownm.cellAt m (by omega), List.getElem?_map, hcl, ← hy]; rfl
                  have hfg := hownm.frozenAt m
                  rw [← hy] at hsu
                  have hst1 := hownm.stored m (.int .i64 (y))
                  have HSU := Lib.hid hsu
                  have HS1 := Lib.hid hst1
                  have HBM := Lib.hid hBm
                  clear hcl hy hsu hst1 hownm hBm
                  go_wp2_with fail
                  go_roundw
                  case rel => exact ⟨m + 1, by omega, by go_num, by rw [HSU.out, show y * (1) = y from by omega, List.map_set]; exact HS1.out.1, HBM.out.setCell hgb _⟩
                  case measure => simp [intOf]; omega
                · obtain rfl : m = j := by omega
                  have hend : mulL (1) (fillL (k : Int) (want - sm) xs) m = planOf (1) want xs := by
                    have := mulL_end (1) (fillL (k : Int) (want - sm) xs)
                    rw [fillL_length, HXL.out] at this
                    rw [this, planOf, ← HLEV.out, ← HSM.out]
                  rw [hend] at hownm
                  have HOM := Lib.hid hownm
                  have HBM := Lib.hid hBm
                  clear hend hownm hBm
                  have hDl : D < W.heap.size := (Array.getElem?_eq_some_iff.1 HK1.out).1
                  have hkD := (HBM.out.block D hDl).trans HK1.out
                  have hpl : (planOf (1) want xs).length = m := by rw [planOf_length, HXL.out]
                  have hnm := nums_of_own HOM.out hpl (by omega)
                  have HKD := Lib.hid hkD
                  have HNM := Lib.hid hnm
                  have HPL := Lib.hid hpl
                  clear hkD hnm hpl
                  go_wp2_with fail
                  refine ⟨by simp, .inl ⟨_, _, rfl, run_takeDeferred HKD.out, ?_⟩⟩
                  have hBw := HBW.out
                  have hBm := HBM.out
                  have hzz := hBw.size
                  refine ⟨_, results_tmp2 rfl _ _ _, ?_⟩
                  have hxe := HXS.out
                  have hwe := HWE.out
                  rw [← hxe, ← hwe]
                  refine ⟨a4, m, ?_, ?_, ?_⟩
                  · rw [HPL.out]; rfl
                  · rw [HPL.out]
                    refine ⟨nums_putObj HNM.out ?_, Nat.le_refl _, ?_⟩
                    · intro g o' hp ha
                      obtain ⟨g', hg', hgb⟩ := hg4 hp
                      rw [hg'] at ha
                      injection ha with ha
                      injection ha with ha
                      omega
                    · intro g o' ha hp
                      obtain ⟨g', hg', hgb⟩ := hg4 hp
                      rw [hg'] at ha
                      injection ha with ha
                      injection ha with ha
                      omega
                  · exact below_putObj (hBw.trans (hBm.mono hzz)) (by omega)
      · have HK5 := Lib.hid (show k = 500 by omega)
        have HNF := Lib.hid hkn
        clear hkn
        go_wp2_with fail
        have hlev : k = nLevel want xs := by have h := HNF.out; rw [HK5.out] at h ⊢; exact h
        have hbz := (hB2).size
        refine (level_any _ (w2.heap.size + 1) a n cap xs _ (cell_below hB2 hc26) (hN.below hB2) hn200).mono ?_
        rintro e w4 ⟨v4, rfl, hown4, hb4⟩
        have hlen : (levelL (k : Int) xs).length = n := by simp [levelL, HXL.out]
        obtain ⟨a4, cap4, rfl, hN4⟩ := nums_of_row hown4 (by omega)
        rw [hlen] at hown4 hN4
        rw [hlen]
        have hB4 : Below W.heap.size W w4 := below_call hB2 hb4
        have ht4 : total (levelL (k : Int) xs) = sumL (levelL (k : Int) xs) := total_level _ (by omega) xs HXB.out (by rw [HXL.out]; exact hn200)
        have hbd4 := sumL_level_bd (k : Int) (by omega) xs HXB.out (by rw [HXL.out]; exact hn200)
        obtain ⟨sm, hsm⟩ : ∃ sm, sm = sumL (levelL (k : Int) xs) := ⟨_, rfl⟩
        rw [← hsm] at ht4 hbd4
        have hwn := HWN.out
        have HSM := Lib.hid hsm
        have HLEV := Lib.hid hlev
        have HLEN := Lib.hid hlen
        have hc26' := cell_below hB4 hc26
        clear hlev hlen hsm
        go_wp2_with (go_at_call 58; refine (sum_any _ _ _ _ _ hN4).mono ?_; rintro e w' ⟨rfl, rfl⟩; rw [ht4])
        have hown5 : w4.ownsRow W.heap.size 3 1 (.slice a4 n cap4) n ((midL k (want - sm) xs 0).map (Value.int .i64)) := by
          rw [midL_zero]; exact own_mono hown4 hbz
        obtain ⟨hg4, hcap4, hmx4⟩ := own_some hown5
        have HB4 := Lib.hid hB4
        have HO5 := Lib.hid hown5
        clear hown4 hown5 hb4 hN4 hB4 ht4
        go_loopw [18, 19, 20, 74] (fun l _ _ i wr => ∃ j : Nat, j ≤ n ∧ i = .int .i64 j ∧ l = .int .i64 (fillS k (want - sm) (xs.take j)) ∧ wr.ownsRow W.heap.size 3 1 (.slice a4 n cap4) n ((midL k (want - sm) xs j).map (Value.int .i64)) ∧ Below W.heap.size W wr) (fun _ _ _ i _ => n - (intOf i).toNat)
        case atStart => exact ⟨0, Nat.zero_le _, rfl, rfl, HO5.out, HB4.out⟩
        case round =>
          obtain ⟨j, hj, rfl, rfl, hownj, hBj⟩ := hrel
          by_cases hlt : j < n
          · have hlx : j < xs.length := by rw [HXL.out]; exact hlt
            have hcl := midL_at (k : Int) (want - sm) xs j hlx
            have hfb := fillS_bd (k : Int) (xs.take j) (want - sm)
            obtain ⟨x, hx⟩ : ∃ x, x = xs[j]?.getD 0 := ⟨_, rfl⟩
            have hxb : 0 ≤ x ∧ x ≤ 500 := by rw [hx]; have := HXB.out xs[j] (List.getElem_mem hlx); simpa [hlx] using this
            obtain ⟨pb, po, rfl, hcell⟩ := (hN.below hBj).2.2 (by omega)
            obtain ⟨g, rfl, hgb⟩ := hg4 (by omega)
            have hck := hcell j hlt
            rw [List.getD_eq_getElem?_getD, ← hx] at hck
            have hcg : wr.cell? ⟨g, j, none⟩ = some (.int .i64 (min (k : Int) x)) := by
              rw [hownj.cellAt j (by omega), List.getElem?_map, hcl, ← hx]; rfl
            have hfg := hownj.frozenAt j
            have hGO := midL_go (k : Int) (want - sm) xs j hlx
            have hST := midL_stay (k : Int) (want - sm) xs j hlx
            rw [← hx] at hGO hST
            obtain ⟨f, hf⟩ : ∃ f, f = fillS k (want - sm) (xs.take j) := ⟨_, rfl⟩
            rw [← hf] at hfb hGO hST ⊢
            have hst1 := hownj.stored j (.int .i64 (min (k : Int) x + 1))
            have HGO := Lib.hid hGO
            have HST := Lib.hid hST
            have HS1 := Lib.hid hst1
            have HOJ := Lib.hid hownj
            have hbj := hBj.size
            have HBJ := Lib.hid hBj
            clear hcell hf hx hGO hST hst1 hownj hcl hBj
            by_cases hf0 : 0 < f
            · by_cases hkx : (k : Int) < x
              · exfalso; omega
              · obtain ⟨hg1, hg2⟩ := HST.out (by omega)
                have HG1 := Lib.hid hg1
                have HG2 := Lib.hid hg2
                clear hg1 hg2
                go_wp2_with fail
                go_roundw
                case rel => exact ⟨j + 1, by omega, by go_num, by rw [HG2.out], by rw [HG1.out]; exact HOJ.out, HBJ.out⟩
                case measure => simp [intOf]; omega
            · obtain ⟨hg1, hg2⟩ := HST.out (by omega)
              have HG1 := Lib.hid hg1
              have HG2 := Lib.hid hg2
              clear hg1 hg2
              go_wp2_with fail
              go_roundw
              case rel => exact ⟨j + 1, by omega, by go_num, by rw [HG2.out], by rw [HG1.out]; exact HOJ.out, HBJ.out⟩
              case measure => simp [intOf]; omega
          · obtain rfl : j = n := by omega
            have hend : (midL (k : Int) (want - sm) xs j) = mulL (1) (fillL k (want - sm) xs) 0 := by
              have := midL_end (k : Int) (want - sm) xs
              rw [HXL.out] at this
              rw [this, mulL_zero]
            rw [hend] at hownj
            have HOJ := Lib.hid hownj
            have HBJ := Lib.hid hBj
            clear hend hownj hBj
            go_wp2_with fail
            go_loopw [21, 97] (fun _ i wr => ∃ m : Nat, m ≤ j ∧ i = .int .i64 m ∧ wr.ownsRow W.heap.size 3 1 (.slice a4 j cap4) j ((mulL (1) (fillL k (want - sm) xs) m).map (Value.int .i64)) ∧ Below W.heap.size W wr) (fun _ i _ => j - (intOf i).toNat)
            case atStart => exact ⟨0, Nat.zero_le _, rfl, HOJ.out, HBJ.out⟩
            case round =>
              obtain ⟨m, hm, rfl, hownm, hBm⟩ := hrel
              by_cases hlt : m < j
              · have hlm : m < (fillL (k : Int) (want - sm) xs).length := by rw [fillL_length, HXL.out]; exact hlt
                have hcl := mulL_at (1) (fillL (k : Int) (want - sm) xs) m hlm
                have hsu := mulL_succ (1) (fillL (k : Int) (want - sm) xs) m hlm
                obtain ⟨y, hy⟩ : ∃ y, y = (fillL (k : Int) (want - sm) xs)[m]?.getD 0 := ⟨_, rfl⟩
                have hyb : 0 ≤ y ∧ y ≤ 501 := by rw [hy]; have := fillL_bd (k : Int) (by omega) (by omega) xs HXB.out (want - sm) _ (List.getElem_mem hlm); simpa [hlm] using this
                obtain ⟨g, rfl, hgb⟩ := hg4 (by omega)
                have hcg : wr.cell? ⟨g, m, none⟩ = some (.int .i64 y) := by
                  rw [hownm.cellAt m (by omega), List.getElem?_map, hcl, ← hy]; rfl
                have hfg := hownm.frozenAt m
                rw [← hy] at hsu
                have hst1 := hownm.stored m (.int .i64 (y))
                have HSU := Lib.hid hsu
                have HS1 := Lib.hid hst1
                have HBM := Lib.hid hBm
                clear hcl hy hsu hst1 hownm hBm
                go_wp2_with fail
                go_roundw
                case rel => exact ⟨m + 1, by omega, by go_num, by rw [HSU.out, show y * (1) = y from by omega, List.map_set]; exact HS1.out.1, HBM.out.setCell hgb _⟩
                case measure => simp [intOf]; omega
              · obtain rfl : m = j := by omega
                have hend : mulL (1) (fillL (k : Int) (want - sm) xs) m = planOf (1) want xs := by
                  have := mulL_end (1) (fillL (k : Int) (want - sm) xs)
                  rw [fillL_length, HXL.out] at this
                  rw [this, planOf, ← HLEV.out, ← HSM.out]
                rw [hend] at hownm
                have HOM := Lib.hid hownm
                have HBM := Lib.hid hBm
                clear hend hownm hBm
                have hDl : D < W.heap.size := (Array.getElem?_eq_some_iff.1 HK1.out).1
                have hkD := (HBM.out.block D hDl).trans HK1.out
                have hpl : (planOf (1) want xs).length = m := by rw [planOf_length, HXL.out]
                have hnm := nums_of_own HOM.out hpl (by omega)
                have HKD := Lib.hid hkD
                have HNM := Lib.hid hnm
                have HPL := Lib.hid hpl
                clear hkD hnm hpl
                go_wp2_with fail
                refine ⟨by simp, .inl ⟨_, _, rfl, run_takeDeferred HKD.out, ?_⟩⟩
                have hBw := HBW.out
                have hBm := HBM.out
                have hzz := hBw.size
                refine ⟨_, results_tmp2 rfl _ _ _, ?_⟩
                have hxe := HXS.out
                have hwe := HWE.out
                rw [← hxe, ← hwe]
                refine ⟨a4, m, ?_, ?_, ?_⟩
                · rw [HPL.out]; rfl
                · rw [HPL.out]
                  refine ⟨nums_putObj HNM.out ?_, Nat.le_refl _, ?_⟩
                  · intro g o' hp ha
                    obtain ⟨g', hg', hgb⟩ := hg4 hp
                    rw [hg'] at ha
                    injection ha with ha
                    injection ha with ha
                    omega
                  · intro g o' ha hp
                    obtain ⟨g', hg', hgb⟩ := hg4 hp
                    rw [hg'] at ha
                    injection ha with ha
                    injection ha with ha
                    omega
                · exact below_putObj (hBw.trans (hBm.mono hzz)) (by omega)

end Go.Proofs.YtidnopmjhhmedaaDoor
end

section
/- Check of a book. -/
set_option linter.unusedSimpArgs false
set_option linter.unusedVariables false
namespace Go.Proofs.YtidnopmjhhmedaaDoor
open Go.RowKit
attribute [local go_sem] Oper.semAt_some

/-- A look: its tick, and between what the offset was seen. -/
structure Lk where
  t : Int
  lo : Int
  hi : Int
def Lk.zero : Lk := ⟨0, 0, 0⟩
/-- The slice value reads as the looks. -/
def Looks (w : World) (a : Option Addr) (n : Nat) (ls : List Lk) : Prop :=
  ls.length = n ∧ n ≤ 17592186044416 ∧ (0 < n → ∃ b o, a = some ⟨b, o, none⟩ ∧ ∀ j, j < n → w.cell? ⟨b, o + j * 3, none⟩ = some (.int .i64 (ls.getD j Lk.zero).t) ∧ w.cell? ⟨b, o + j * 3 + 1, none⟩ = some (.int .i64 (ls.getD j Lk.zero).lo) ∧ w.cell? ⟨b, o + j * 3 + 2, none⟩ = some (.int .i64 (ls.getD j Lk.zero).hi))
theorem Looks.below {w W : World} {a : Option Addr} {n : Nat} {ls : List Lk} (h : Looks w a n ls) (hb : Below w.heap.size w W) : Looks W a n ls := by
  refine ⟨h.1, h.2.1, fun hn => ?_⟩
  obtain ⟨b, o, ha, hc⟩ := h.2.2 hn
  exact ⟨b, o, ha, fun j hj => ⟨cell_below hb (hc j hj).1, cell_below hb (hc j hj).2.1, cell_below hb (hc j hj).2.2⟩⟩
/-- Is a look one of a book of so many ticks? -/
def lookB (T : Int) (l : Lk) : Bool := lies l.t 0 T && decide (-20000 ≤ l.lo) && decide (l.lo ≤ l.hi) && decide (l.hi ≤ 20000)
def checkB (F S J L H T : Int) (st : List Int) (lk : List Lk) : Bool :=
  isRuleB F S J L H && lies T 1 60 && decide ((st.length : Int) ≤ T) && keepsB F S J 0 st && decide (lk.length ≤ 10) && lk.all (lookB T)
theorem lies_not {n a b : Int} (h : ¬ lies n a b = true) (w : World) : Calls Tryd.prog 57 #[.int .i64 n, .int .i64 a, .int .i64 b] w fun e w' => e = .returned (.bool false) ∧ w = w' := by
  have := lies_any n a b w
  rwa [Bool.eq_false_iff.2 h] at this
theorem Nums.alloc1 {w : World} {a : Option Addr} {n : Nat} {xs : List Int} (h : Nums w a n xs) (o : Obj) : Nums (w.alloc o) a n xs := h.below ((Below.refl _ _).alloc (Nat.le_refl _) _)
theorem Looks.alloc1 {w : World} {a : Option Addr} {n : Nat} {xs : List Lk} (h : Looks w a n xs) (o : Obj) : Looks (w.alloc o) a n xs := h.below ((Below.refl _ _).alloc (Nat.le_refl _) _)
theorem all_take_succ (T : Int) (ls : List Lk) (k : Nat) (h : k < ls.length) : (ls.take (k + 1)).all (lookB T) = ((ls.take k).all (lookB T) && lookB T (ls.getD k Lk.zero)) := by
  rw [List.take_succ_eq_append_getElem h, List.all_append]
  simp [List.getD_eq_getElem?_getD, h]

set_option maxRecDepth 100000 in
set_option maxHeartbeats 1000000 in
theorem Check_no (F S J L H T : Int) (a : Option Addr) (n c : Nat) (a' : Option Addr) (n' c' : Nat) (lk : List Lk) (w : World) (hK : Looks w a' n' lk) (hr : isRuleB F S J L H = false) :
    Calls Tryd.prog 29 #[.agg #[.int .i64 F, .int .i64 S, .int .i64 J, .int .i64 L, .int .i64 H, .int .i64 T, .slice a n c, .slice a' n' c']] w fun e w' => e = .returned (.int .i64 40) ∧ Below w.heap.size w w' := by
  go_enter Tryd.func29, Tryd.ntmps29
  go_wp2_with fail
  refine (opened_bad F S J L H _ _ hr).mono ?_
  rintro e w1 ⟨rfl, hb⟩
  have hB1 := below_call ((Below.refl _ _).alloc (Nat.le_refl _) _) hb
  obtain ⟨hc, hf⟩ := bcell hb
  have hz := hb.size
  simp at hz
  have hz1 : w.heap.size < w1.heap.size := by omega
  go_wp2_with fail
  go_loopw [5, 7, 44] (fun okv _ i wr => ∃ k : Nat, k ≤ n' ∧ i = .int .i64 k ∧ okv = .bool false ∧ Below w.heap.size w wr) (fun _ _ i _ => n' - (intOf i).toNat)
  case atStart => exact ⟨0, Nat.zero_le _, rfl, by first | rfl | (simp; omega), hB1.alloc (by omega) _⟩
  case round =>
    obtain ⟨k, hk, rfl, rfl, hB⟩ := hrel
    have hbz := hB.size
    have HKn := (hK).2.1
    by_cases hlt : k < n'
    · obtain ⟨pb, po, rfl, hcell⟩ := ((hK).below hB).2.2 (by omega)
      obtain ⟨hck0, hck1, hck2⟩ := hcell k hlt
      clear hcell
      go_wp2_with fail
      go_roundw
      case rel => exact ⟨k + 1, by omega, by go_num, rfl, hB.alloc hbz _⟩
      case measure => simp [intOf]; omega
    · go_wp2_with fail
      go_ret
      exact ⟨rfl, hB⟩

set_option maxRecDepth 100000 in
set_option maxHeartbeats 2000000 in
theorem Check_is (F S J L H T : Int) (a : Option Addr) (n c : Nat) (a' : Option Addr) (n' c' : Nat) (st : List Int) (lk : List Lk) (w : World) (hN : Nums w a n st) (hK : Looks w a' n' lk) (hr : isRuleB F S J L H = true) (code : Int) (hcode : code = if checkB F S J L H T st lk then 0 else 40) :
    Calls Tryd.prog 29 #[.agg #[.int .i64 F, .int .i64 S, .int .i64 J, .int .i64 L, .int .i64 H, .int .i64 T, .slice a n c, .slice a' n' c']] w fun e w' => e = .returned (.int .i64 code) ∧ Below w.heap.size w w' := by
  have hnl := hN.1
  have hkl := hK.1
  have hcb : checkB F S J L H T st lk = (lies T 1 60 && decide ((n : Int) ≤ T) && keepsB F S J 0 st && decide (n' ≤ 10) && lk.all (lookB T)) := by simp [checkB, hr, hnl, hkl]
  rw [hcb] at hcode
  have HCB := Lib.hid hcode
  have HKL := Lib.hid hkl
  clear hcb hcode hnl hkl
  go_enter Tryd.func29, Tryd.ntmps29
  go_wp2_with fail
  refine (opened_ok F S J L H _ hr).mono ?_
  rintro e w1 ⟨b, rfl, hb, hnb, hnew⟩
  have hB1 := below_call ((Below.refl _ _).alloc (Nat.le_refl _) _) hb
  have hN1 := hN.below hB1
  obtain ⟨hc, hf⟩ := bcell hb
  have hz := hb.size
  simp at hz
  have hz1 : w.heap.size < w1.heap.size := by omega
  have HNN := hN.2.1
  have HKN := hK.2.1
  have HB1 := Lib.hid hB1
  have HN1 := Lib.hid hN1
  have HK0 := Lib.hid hK
  clear hb hnb hnew hB1 hN1 hN hK
  by_cases h1 : lies T 1 60 = true
  · by_cases h2 : (n : Int) ≤ T
    · cases h3 : keepsB F S J 0 st
      · have HNE := Lib.hid (show code = 40 by rw [HCB.out]; simp [h3])
        go_wp2_with (first | (go_at_call 57; refine (lies_is h1 _).mono ?_; rintro e w' ⟨rfl, rfl⟩) | (go_at_call 56; refine (keeps_any F S J L H (some b) a n c st _ (HN1.out.alloc1 _) hr).mono ?_; rintro e w2 ⟨rfl, hb2⟩; rw [h3]; have hB2 := Lib.hid (below_call (HB1.out.alloc (by omega) _) hb2); obtain ⟨hc2, hf2⟩ := bcell hb2; have hz2 := hb2.size; simp at hz2; have hz3 : w.heap.size < w2.heap.size := (by omega); have hz4 : w1.heap.size < w2.heap.size := (by omega)))
        go_loopw [5, 7, 44] (fun okv _ i wr => ∃ k : Nat, k ≤ n' ∧ i = .int .i64 k ∧ okv = .bool false ∧ Below w.heap.size w wr) (fun _ _ i _ => n' - (intOf i).toNat)
        case atStart => exact ⟨0, Nat.zero_le _, rfl, by first | rfl | (simp; omega), hB2.out⟩
        case round =>
          obtain ⟨k, hk, rfl, rfl, hB⟩ := hrel
          have hbz := hB.size
          have HKn := (HK0.out).2.1
          by_cases hlt : k < n'
          · obtain ⟨pb, po, rfl, hcell⟩ := ((HK0.out).below hB).2.2 (by omega)
            obtain ⟨hck0, hck1, hck2⟩ := hcell k hlt
            clear hcell
            go_wp2_with fail
            go_roundw
            case rel => exact ⟨k + 1, by omega, by go_num, rfl, hB.alloc hbz _⟩
            case measure => simp [intOf]; omega
          · go_wp2_with fail
            go_ret
            exact ⟨by rw [HNE.out]; first | rfl | simp, hB⟩

      · by_cases h4 : n' ≤ 10
        · go_wp2_with (first | (go_at_call 57; refine (lies_is h1 _).mono ?_; rintro e w' ⟨rfl, rfl⟩) | (go_at_call 56; refine (keeps_any F S J L H (some b) a n c st _ (HN1.out.alloc1 _) hr).mono ?_; rintro e w2 ⟨rfl, hb2⟩; rw [h3]; have hB2 := Lib.hid (below_call (HB1.out.alloc (by omega) _) hb2); obtain ⟨hc2, hf2⟩ := bcell hb2; have hz2 := hb2.size; simp at hz2; have hz3 : w.heap.size < w2.heap.size := (by omega); have hz4 : w1.heap.size < w2.heap.size := (by omega)))
          have hW0 : w2.cell? ⟨w.heap.size, 5, none⟩ = some (.int .i64 T) := by rw [hc2 _ _ (by simp; omega)]; simp [go_sem, *]
          have HKL' := HKL.out
          go_loopw [5, 7, 44] (fun okv _ i wr => ∃ k : Nat, k ≤ n' ∧ i = .int .i64 k ∧ okv = .bool ((lk.take k).all (lookB T)) ∧ Below w2.heap.size w2 wr) (fun _ _ i _ => n' - (intOf i).toNat)
          case atStart => exact ⟨0, Nat.zero_le _, rfl, by simp; omega, Below.refl _ _⟩
          case round =>
            obtain ⟨k, hk, rfl, rfl, hB⟩ := hrel
            have hbz := hB.size
            by_cases hlt : k < n'
            · obtain ⟨pb, po, rfl, hcell⟩ := ((HK0.out.below hB2.out).below hB).2.2 (by omega)
              obtain ⟨hck0, hck1, hck2⟩ := hcell k hlt
              have hcT := cell_below hB hW0
              have hz9 : w.heap.size < wr.heap.size := by omega
              have HT := Lib.hid (all_take_succ T lk k (by rw [HKL']; exact hlt))
              obtain ⟨x, hx⟩ : ∃ x, x = lk.getD k Lk.zero := ⟨_, rfl⟩
              rw [← hx] at hck0 hck1 hck2
              have HX := Lib.hid hx
              clear hcell hx
              cases hp : (lk.take k).all (lookB T)
              · go_wp2_with fail
                go_roundw
                case rel => exact ⟨k + 1, by omega, by go_num, by rw [HT.out, hp]; rfl, hB.alloc hbz _⟩
                case measure => simp [intOf]; omega
              · by_cases hl1 : lies x.t 0 T = true
                · by_cases hl2 : -20000 ≤ x.lo
                  · by_cases hl3 : x.lo ≤ x.hi
                    · by_cases hl4 : x.hi ≤ 20000
                      · go_wp2_with (go_at_call 57; refine (lies_is hl1 _).mono ?_; rintro e w' ⟨rfl, rfl⟩)
                        go_roundw
                        case rel => exact ⟨k + 1, by omega, by go_num, by rw [HT.out, hp, Bool.true_and, ← HX.out]; simp [lookB, *], hB.alloc hbz _⟩
                        case measure => simp [intOf]; omega
                      · go_wp2_with (go_at_call 57; refine (lies_is hl1 _).mono ?_; rintro e w' ⟨rfl, rfl⟩)
                        go_roundw
                        case rel => exact ⟨k + 1, by omega, by go_num, by rw [HT.out, hp, Bool.true_and, ← HX.out]; simp [lookB, *], hB.alloc hbz _⟩
                        case measure => simp [intOf]; omega
                    · go_wp2_with (go_at_call 57; refine (lies_is hl1 _).mono ?_; rintro e w' ⟨rfl, rfl⟩)
                      go_roundw
                      case rel => exact ⟨k + 1, by omega, by go_num, by rw [HT.out, hp, Bool.true_and, ← HX.out]; simp [lookB, *], hB.alloc hbz _⟩
                      case measure => simp [intOf]; omega
                  · go_wp2_with (go_at_call 57; refine (lies_is hl1 _).mono ?_; rintro e w' ⟨rfl, rfl⟩)
                    go_roundw
                    case rel => exact ⟨k + 1, by omega, by go_num, by rw [HT.out, hp, Bool.true_and, ← HX.out]; simp [lookB, *], hB.alloc hbz _⟩
                    case measure => simp [intOf]; omega
                · go_wp2_with (go_at_call 57; refine (lies_not hl1 _).mono ?_; rintro e w' ⟨rfl, rfl⟩)
                  go_roundw
                  case rel => exact ⟨k + 1, by omega, by go_num, by rw [HT.out, hp, Bool.true_and, ← HX.out]; simp [lookB, *], hB.alloc hbz _⟩
                  case measure => simp [intOf]; omega
            · have HNE := Lib.hid (show code = if lk.all (lookB T) then 0 else 40 by rw [HCB.out]; simp [h1, h2, h3, h4])
              have hkn : lk.take k = lk := List.take_of_length_le (by omega)
              rw [hkn]
              cases hp : lk.all (lookB T)
              · go_wp2_with fail
                go_ret
                exact ⟨by rw [HNE.out, hp]; rfl, below_call hB2.out hB⟩
              · go_wp2_with fail
                go_ret
                exact ⟨by rw [HNE.out, hp]; rfl, below_call hB2.out hB⟩

        · have HNE := Lib.hid (show code = 40 by rw [HCB.out]; simp [h4])
          go_wp2_with (first | (go_at_call 57; refine (lies_is h1 _).mono ?_; rintro e w' ⟨rfl, rfl⟩) | (go_at_call 56; refine (keeps_any F S J L H (some b) a n c st _ (HN1.out.alloc1 _) hr).mono ?_; rintro e w2 ⟨rfl, hb2⟩; rw [h3]; have hB2 := Lib.hid (below_call (HB1.out.alloc (by omega) _) hb2); obtain ⟨hc2, hf2⟩ := bcell hb2; have hz2 := hb2.size; simp at hz2; have hz3 : w.heap.size < w2.heap.size := (by omega); have hz4 : w1.heap.size < w2.heap.size := (by omega)))
          go_loopw [5, 7, 44] (fun okv _ i wr => ∃ k : Nat, k ≤ n' ∧ i = .int .i64 k ∧ okv = .bool false ∧ Below w.heap.size w wr) (fun _ _ i _ => n' - (intOf i).toNat)
          case atStart => exact ⟨0, Nat.zero_le _, rfl, by first | rfl | (simp; omega), hB2.out⟩
          case round =>
            obtain ⟨k, hk, rfl, rfl, hB⟩ := hrel
            have hbz := hB.size
            have HKn := (HK0.out).2.1
            by_cases hlt : k < n'
            · obtain ⟨pb, po, rfl, hcell⟩ := ((HK0.out).below hB).2.2 (by omega)
              obtain ⟨hck0, hck1, hck2⟩ := hcell k hlt
              clear hcell
              go_wp2_with fail
              go_roundw
              case rel => exact ⟨k + 1, by omega, by go_num, rfl, hB.alloc hbz _⟩
              case measure => simp [intOf]; omega
            · go_wp2_with fail
              go_ret
              exact ⟨by rw [HNE.out]; first | rfl | simp, hB⟩

    · have HNE := Lib.hid (show code = 40 by rw [HCB.out]; simp [h2])
      go_wp2_with (go_at_call 57; refine (lies_is h1 _).mono ?_; rintro e w' ⟨rfl, rfl⟩)
      go_loopw [5, 7, 44] (fun okv _ i wr => ∃ k : Nat, k ≤ n' ∧ i = .int .i64 k ∧ okv = .bool false ∧ Below w.heap.size w wr) (fun _ _ i _ => n' - (intOf i).toNat)
      case atStart => exact ⟨0, Nat.zero_le _, rfl, by first | rfl | (simp; omega), HB1.out.alloc (by omega) _⟩
      case round =>
        obtain ⟨k, hk, rfl, rfl, hB⟩ := hrel
        have hbz := hB.size
        have HKn := (HK0.out).2.1
        by_cases hlt : k < n'
        · obtain ⟨pb, po, rfl, hcell⟩ := ((HK0.out).below hB).2.2 (by omega)
          obtain ⟨hck0, hck1, hck2⟩ := hcell k hlt
          clear hcell
          go_wp2_with fail
          go_roundw
          case rel => exact ⟨k + 1, by omega, by go_num, rfl, hB.alloc hbz _⟩
          case measure => simp [intOf]; omega
        · go_wp2_with fail
          go_ret
          exact ⟨by rw [HNE.out]; first | rfl | simp, hB⟩

  · have HNE := Lib.hid (show code = 40 by rw [HCB.out]; simp [h1])
    go_wp2_with (go_at_call 57; refine (lies_not h1 _).mono ?_; rintro e w' ⟨rfl, rfl⟩)
    go_loopw [5, 7, 44] (fun okv _ i wr => ∃ k : Nat, k ≤ n' ∧ i = .int .i64 k ∧ okv = .bool false ∧ Below w.heap.size w wr) (fun _ _ i _ => n' - (intOf i).toNat)
    case atStart => exact ⟨0, Nat.zero_le _, rfl, by first | rfl | (simp; omega), HB1.out.alloc (by omega) _⟩
    case round =>
      obtain ⟨k, hk, rfl, rfl, hB⟩ := hrel
      have hbz := hB.size
      have HKn := (HK0.out).2.1
      by_cases hlt : k < n'
      · obtain ⟨pb, po, rfl, hcell⟩ := ((HK0.out).below hB).2.2 (by omega)
        obtain ⟨hck0, hck1, hck2⟩ := hcell k hlt
        clear hcell
        go_wp2_with fail
        go_roundw
        case rel => exact ⟨k + 1, by omega, by go_num, rfl, hB.alloc hbz _⟩
        case measure => simp [intOf]; omega
      · go_wp2_with fail
        go_ret
        exact ⟨by rw [HNE.out]; first | rfl | simp, hB⟩


end Go.Proofs.YtidnopmjhhmedaaDoor
end

section
/- The array of 61 spans: its cells, its loads and stores, and when two are the same. -/
set_option linter.unusedSimpArgs false
set_option linter.unusedVariables false
namespace Go.Proofs.YtidnopmjhhmedaaDoor
open Go.RowKit

/-- A span. -/
structure Sp where
  lo : Int
  hi : Int
deriving DecidableEq

/-- The cells of an array of spans. -/
def encL (f : Nat → Sp) : List Value := (List.range 122).map fun j => Value.int .i64 (if j % 2 = 0 then (f (j / 2)).lo else (f (j / 2)).hi)
theorem encL_length (f : Nat → Sp) : (encL f).length = 122 := by simp [encL]
theorem encL_at (f : Nat → Sp) (j : Nat) (h : j < 122) : (encL f)[j]? = some (Value.int .i64 (if j % 2 = 0 then (f (j / 2)).lo else (f (j / 2)).hi)) := by
  simp [encL, h]
theorem encL_lo (f : Nat → Sp) (k : Nat) (h : k < 61) : (encL f)[k * 2]? = some (Value.int .i64 (f k).lo) := by
  rw [encL_at f _ (by omega), if_pos (by omega), show k * 2 / 2 = k by omega]
theorem encL_hi (f : Nat → Sp) (k : Nat) (h : k < 61) : (encL f)[k * 2 + 1]? = some (Value.int .i64 (f k).hi) := by
  rw [encL_at f _ (by omega), if_neg (by omega), show (k * 2 + 1) / 2 = k by omega]
theorem encL_one (f : Nat → Sp) : ∀ v ∈ encL f, v.oneCell' = true := by
  intro v hv
  simp only [encL, List.mem_map] at hv
  obtain ⟨j, _, rfl⟩ := hv
  rfl

/-- The block b holds the spans f. -/
def At (w : World) (b : Nat) (f : Nat → Sp) : Prop := w.rangeAt b 0 (encL f) ∧ w.there b 0 122
theorem At.lo {w : World} {b : Nat} {f : Nat → Sp} (h : At w b f) (k : Nat) (hk : k < 61) : w.cell? ⟨b, k * 2, none⟩ = some (.int .i64 (f k).lo) := by
  have := h.1 (k * 2) _ (encL_lo f k hk)
  rwa [Nat.zero_add] at this
theorem At.hi {w : World} {b : Nat} {f : Nat → Sp} (h : At w b f) (k : Nat) (hk : k < 61) : w.cell? ⟨b, k * 2 + 1, none⟩ = some (.int .i64 (f k).hi) := by
  have := h.1 (k * 2 + 1) _ (encL_hi f k hk)
  rwa [Nat.zero_add] at this
theorem At.free {w : World} {b : Nat} {f : Nat → Sp} (h : At w b f) (j : Nat) (hj : j < 122) : w.frozen? ⟨b, j, none⟩ = false := by
  have := (h.2 j hj).2
  rwa [Nat.zero_add] at this
theorem At.lt {w : World} {b : Nat} {f : Nat → Sp} (h : At w b f) : b < w.heap.size := World.block_lt_of_cell? w _ (h.lo 0 (by omega))
theorem At.below {w W : World} {b : Nat} {f : Nat → Sp} (h : At w b f) (hb : Below w.heap.size w W) : At W b f := by
  have hl := h.lt
  refine ⟨fun j v hv => cell_below hb (h.1 j v hv), fun j hj => ?_⟩
  have h1 := hb.cell (p := ⟨b, 0 + j, none⟩) hl
  have h2 := hb.frozen (p := ⟨b, 0 + j, none⟩) hl
  rw [h1, h2]
  exact h.2 j hj
theorem At.belowN {N : Nat} {w W : World} {b : Nat} {f : Nat → Sp} (h : At w b f) (hN : b < N) (hb : Below N w W) : At W b f := by
  refine ⟨fun j v hv => (hb.cell (p := ⟨b, 0 + j, none⟩) hN).trans (h.1 j v hv), fun j hj => ?_⟩
  rw [hb.cell (p := ⟨b, 0 + j, none⟩) hN, hb.frozen (p := ⟨b, 0 + j, none⟩) hN]
  exact h.2 j hj
theorem At.congr {w : World} {b : Nat} {f g : Nat → Sp} (h : At w b f) (hfg : ∀ k, k < 61 → f k = g k) : At w b g := by
  have : encL f = encL g := by
    apply List.map_congr_left
    intro j hj
    have hj' : j < 122 := by simpa using hj
    rw [hfg (j / 2) (by omega)]
  unfold At
  rw [← this]
  exact h
/-- One span is another then. -/
def putS (f : Nat → Sp) (k : Nat) (s : Sp) : Nat → Sp := fun j => if j = k then s else f j
theorem At.set {w : World} {b : Nat} {f : Nat → Sp} (h : At w b f) (k : Nat) (hk : k < 61) (x y : Int) :
    At ((w.setCell ⟨b, k * 2, none⟩ (.int .i64 x)).setCell ⟨b, k * 2 + 1, none⟩ (.int .i64 y)) b (putS f k ⟨x, y⟩) := by
  have e : ((w.setCell ⟨b, k * 2, none⟩ (.int .i64 x)).setCell ⟨b, k * 2 + 1, none⟩ (.int .i64 y)) = w.setCells b (k * 2) [.int .i64 x, .int .i64 y] := rfl
  refine ⟨fun j v hv => ?_, fun j hj => ?_⟩
  · have hj : j < 122 := by
      rcases Nat.lt_or_ge j 122 with h1 | h1
      · exact h1
      · rw [List.getElem?_eq_none (by rw [encL_length]; exact h1)] at hv; cases hv
    rw [encL_at _ j hj] at hv
    injection hv with hv
    subst hv
    have h0 := h.1 j _ (encL_at f j hj)
    by_cases h1 : j = k * 2
    · have hs := World.rangeAt_setCells_same w b (k * 2) [.int .i64 x, .int .i64 y] (fun i hi => by have := h.2 (k * 2 + i) (by simp at hi; omega); rwa [Nat.zero_add] at this)
      have := hs 0 _ rfl
      rw [e, h1, Nat.zero_add]
      rw [show k * 2 / 2 = k by omega, if_pos (by omega)]
      simpa [putS] using this
    · by_cases h2 : j = k * 2 + 1
      · have hs := World.rangeAt_setCells_same w b (k * 2) [.int .i64 x, .int .i64 y] (fun i hi => by have := h.2 (k * 2 + i) (by simp at hi; omega); rwa [Nat.zero_add] at this)
        have := hs 1 _ rfl
        rw [e, h2, Nat.zero_add]
        rw [show (k * 2 + 1) / 2 = k by omega, if_neg (by omega)]
        simpa [putS] using this
      · have ha := World.rangeAt_setCells_apart (w := w) (b' := b) (o' := j) (cs := [Value.int .i64 (if j % 2 = 0 then (f (j / 2)).lo else (f (j / 2)).hi)]) (fun i v hv => by
          cases i with
          | zero => simp only [List.getElem?_cons_zero] at hv; rw [← hv]; rwa [Nat.zero_add] at h0
          | succ i => simp at hv) b (k * 2) [.int .i64 x, .int .i64 y] (by right; simp; omega)
        have := ha 0 _ rfl
        rw [e, Nat.zero_add]
        have hn : ¬ (j / 2 = k) := by omega
        simpa [putS, hn] using this
  · rw [e]
    exact World.there_setCells h.2 b (k * 2) _ j hj

theorem below_setCells {n b : Nat} {w : World} (vs : List Value) : ∀ (o : Nat) (W : World), Below n w W → n ≤ b → Below n w (W.setCells b o vs) := by
  induction vs with
  | nil => intro o W h _; exact h
  | cons v vs ih => intro o W h hn; exact ih _ _ (h.setCell hn _) hn
/-- The whole array is stored. -/
theorem At.store {w : World} {b : Nat} {f : Nat → Sp} (h : At w b f) (g : Nat → Sp) : At (w.setCells b 0 (encL g)) b g :=
  ⟨World.rangeAt_setCells_same w b 0 _ (by rw [encL_length]; exact h.2), World.there_setCells h.2 b 0 _⟩
theorem At.apart {w : World} {b b' : Nat} {f : Nat → Sp} (h : At w b f) (hb : b ≠ b') (o : Nat) (vs : List Value) : At (w.setCells b' o vs) b f :=
  ⟨World.rangeAt_setCells_apart h.1 b' o vs (.inl hb), World.there_setCells h.2 b' o vs⟩
theorem size_setCells {b : Nat} (vs : List Value) : ∀ (o : Nat) (W : World), (W.setCells b o vs).heap.size = W.heap.size := by
  induction vs with
  | nil => intro o W; rfl
  | cons v vs ih => intro o W; show ((W.setCell _ v).setCells b (o + 1) vs).heap.size = _; rw [ih]; simp

def zeroF : Nat → Sp := fun _ => ⟨0, 0⟩
theorem zeroCells_is : Tryd.zeroCells96 = (encL zeroF).toArray := by kernel_rfl
theorem At.new (w : World) : At (w.alloc (.cells Tryd.zeroCells96 96)) w.heap.size zeroF := by
  have hb := World.alloc_heap_new w (.cells Tryd.zeroCells96 96)
  rw [zeroCells_is] at hb ⊢
  refine ⟨fun j v hv => ?_, fun j hj => ⟨?_, ?_⟩⟩
  · rw [cell_of_row _ _ _ _ _ _ hb]; simpa using hv
  · rw [cell_of_row _ _ _ _ _ _ hb]; simp [encL, hj]
  · exact frozen_of_row _ _ _ _ _ hb

theorem loadVar_At {w : World} {b : Nat} {f : Nat → Sp} (h : At w b f) : (loadVar 96 ⟨b, 0, none⟩).run Tryd.prog w = .ok (.agg (encL f).toArray) w :=
  run_loadVar_mid w b 0 96 (encL f) _ h.1 Tryd.underlying96 rfl (by rw [encL_length]; kernel_rfl)
def eqF (f g : Nat → Sp) : Bool := (List.range 61).all fun k => decide ((f k).lo = (g k).lo) && decide ((f k).hi = (g k).hi)
theorem encL_span (f : Nat → Sp) (k : Nat) (h : k < 61) : ((encL f).toArray).extract (k * 2) (k * 2 + 2) = #[.int .i64 (f k).lo, .int .i64 (f k).hi] := by
  apply Array.ext_getElem?
  intro i
  rw [Array.getElem?_extract]
  have hs : (encL f).toArray.size = 122 := by rw [List.size_toArray, encL_length]
  rcases i with _ | _ | i
  · rw [if_pos (by omega), List.getElem?_toArray, Nat.add_zero, encL_lo f k h]; rfl
  · rw [if_pos (by omega), List.getElem?_toArray, encL_hi f k h]; rfl
  · rw [if_neg (by omega)]; rfl
theorem part_At (f : Nat → Sp) (k : Nat) (h : k < 61) (w : World) : (part 23 (encL f).toArray (k * 2)).run Tryd.prog w = .ok (.agg #[.int .i64 (f k).lo, .int .i64 (f k).hi]) w := by
  have h1 : ∀ w, (isAgg 23).run Tryd.prog w = .ok true w := fun w => by simp [go_sem]
  have h2 : ∀ w, (sizeOf 23).run Tryd.prog w = .ok 2 w := fun w => by simp [go_sem]
  simp only [part, Sem.run_bind, h1, h2, Result.andThen_ok, if_true, Sem.run_pure, encL_span f k h]
theorem eq_span (d : Nat) (a b a' b' : Int) (w : World) : (Op.equalIn (d + 2) 23 (.agg #[.int .i64 a, .int .i64 b]) (.agg #[.int .i64 a', .int .i64 b'])).run Tryd.prog w = .ok (decide (a = a') && decide (b = b')) w := by
  simp [go_sem]
  by_cases h1 : a = a'
  · by_cases h2 : b = b'
    · simp [h1, h2]
    · simp [h1, h2]
  · simp [h1]
theorem eqItems_At (d : Nat) (f g : Nat → Sp) (w : World) : ∀ l : List Nat, (∀ k ∈ l, k < 61) →
    (Op.eqItems (d + 2) 23 2 (encL f).toArray (encL g).toArray l).run Tryd.prog w = .ok (l.all fun k => decide ((f k).lo = (g k).lo) && decide ((f k).hi = (g k).hi)) w
  | [], _ => by simp [Op.eqItems]
  | k :: l, h => by
    have hk := h k (by simp)
    have ih := eqItems_At d f g w l fun j hj => h j (by simp [hj])
    simp only [Op.eqItems, Sem.run_bind, part_At f k hk, part_At g k hk, eq_span, Result.andThen_ok, List.all_cons]
    cases hb : (decide ((f k).lo = (g k).lo) && decide ((f k).hi = (g k).hi))
    · simp
    · simpa using ih
theorem eq_At (f g : Nat → Sp) (w : World) : (Op.equalIn 10000 96 (.agg (encL f).toArray) (.agg (encL g).toArray)).run Tryd.prog w = .ok (eqF f g) w := by
  have hc : Tryd.prog.cellsOf 23 = 2 := by kernel_rfl
  have he : ∃ i, Tryd.prog.info? 23 = some i := by
    cases h : Tryd.prog.info? 23 with
    | some i => exact ⟨i, rfl⟩
    | none => exfalso; have : (Tryd.prog.info? 23).isSome = true := by kernel_rfl
              rw [h] at this; cases this
  obtain ⟨i, hi⟩ := he
  rw [run_equalIn_array w 9999 _ _ Tryd.underlying96 hi, hc, eqItems_At 9997 f g w _ (fun k hk => by simpa using hk)]
  rfl

theorem zeroL_is : Tryd.zeroCells96.toList = encL zeroF := by rw [zeroCells_is]
theorem storeCells_At {w : World} {b : Nat} {f : Nat → Sp} (h : At w b f) (g : Nat → Sp) : (storeCells ⟨b, 0, none⟩ (encL g)).run Tryd.prog w = .ok () (w.setCells b 0 (encL g)) := by
  have := run_storeCells_cells (P := Tryd.prog) b 0 (encL g) 0 w (fun j hj => by simpa using (h.2 j (by rw [encL_length] at hj; exact hj)).1) (fun j hj => by simpa using (h.2 j (by rw [encL_length] at hj; exact hj)).2) (encL_one g)
  simpa using this
end Go.Proofs.YtidnopmjhhmedaaDoor
end

section
/- Plain: between what the offset lies. -/
set_option linter.unusedSimpArgs false
set_option linter.unusedVariables false
namespace Go.Proofs.YtidnopmjhhmedaaDoor
open Go.RowKit

def bothS (s t : Sp) : Sp := ⟨max s.lo t.lo, min s.hi t.hi⟩
def stAt (st : List Int) (k : Nat) : Int := st[k]?.getD 0
def wideF : Nat → Sp := fun _ => ⟨-20000, 20000⟩
def lookS (f : Nat → Sp) (l : Lk) : Nat → Sp := putS f l.t.toNat (bothS (f l.t.toNat) ⟨l.lo, l.hi⟩)
def looksF (lk : List Lk) : Nat → Sp := lk.foldl lookS wideF
def fwdS (st : List Int) (L H : Int) (f : Nat → Sp) (k : Nat) : Nat → Sp := putS f (k + 1) (bothS (f (k + 1)) ⟨(f k).lo + stAt st k + L, (f k).hi + stAt st k + H⟩)
def fwdTo (st : List Int) (L H : Int) (f : Nat → Sp) : Nat → (Nat → Sp)
  | 0 => f
  | k + 1 => fwdS st L H (fwdTo st L H f k) k
def bwdS (st : List Int) (L H : Int) (f : Nat → Sp) (k : Nat) : Nat → Sp := putS f k (bothS (f k) ⟨(f (k + 1)).lo - stAt st k - H, (f (k + 1)).hi - stAt st k - L⟩)
/-- From tick t on back, as many as j. -/
def bwdTo (st : List Int) (L H : Int) (t : Nat) (f : Nat → Sp) : Nat → (Nat → Sp)
  | 0 => f
  | j + 1 => bwdS st L H (bwdTo st L H t f j) (t - (j + 1))
def roundF (st : List Int) (L H : Int) (t : Nat) (f : Nat → Sp) : Nat → Sp := bwdTo st L H t (fwdTo st L H f t) t
def okF (t : Nat) (f : Nat → Sp) : Bool := (List.range (t + 1)).all fun k => decide ((f k).lo ≤ (f k).hi)

theorem putS_same (f : Nat → Sp) (k : Nat) (s : Sp) (h : s = f k) : putS f k s = f := by
  funext j
  unfold putS
  split
  · rename_i e; rw [e, h]
  · rfl
theorem putS_self (f : Nat → Sp) (k : Nat) (s : Sp) : putS f k s k = s := by simp [putS]
theorem putS_ne (f : Nat → Sp) {k j : Nat} (s : Sp) (h : j ≠ k) : putS f k s j = f j := by simp [putS, h]

/-- All ends lie within so much. -/
def Bnd (B : Int) (f : Nat → Sp) : Prop := ∀ k, -B ≤ (f k).lo ∧ (f k).lo ≤ B ∧ -B ≤ (f k).hi ∧ (f k).hi ≤ B
theorem Bnd.mono {B C : Int} {f : Nat → Sp} (h : Bnd B f) (hc : B ≤ C) : Bnd C f := fun k => by have := h k; omega
theorem Bnd.put {B C : Int} {f : Nat → Sp} (h : Bnd B f) (k : Nat) (s : Sp) (hc : B ≤ C) (hs : -C ≤ s.lo ∧ s.lo ≤ C ∧ -C ≤ s.hi ∧ s.hi ≤ C) : Bnd C (putS f k s) := by
  intro j
  unfold putS
  split
  · exact hs
  · have := h j; omega
theorem wide_bnd : Bnd 20000 wideF := fun k => by simp [wideF]
theorem lookS_bnd {f : Nat → Sp} (h : Bnd 20000 f) (T : Int) (l : Lk) (hl : lookB T l = true) : Bnd 20000 (lookS f l) := by
  simp only [lookB, Bool.and_eq_true, decide_eq_true_eq, lies_iff] at hl
  refine h.put _ _ (Int.le_refl _) ?_
  have := h l.t.toNat
  simp only [bothS]
  omega
theorem looks_bnd (T : Int) (lk : List Lk) : ∀ f, Bnd 20000 f → lk.all (lookB T) = true → Bnd 20000 (lk.foldl lookS f) := by
  induction lk with
  | nil => intro f h _; exact h
  | cons l lk ih =>
    intro f h ha
    simp only [List.all_cons, Bool.and_eq_true] at ha
    exact ih _ (lookS_bnd h T l ha.1) ha.2
theorem looksF_bnd (T : Int) (lk : List Lk) (h : lk.all (lookB T) = true) : Bnd 20000 (looksF lk) := looks_bnd T lk _ wide_bnd h

section
variable {st : List Int} {L H : Int} (hst : ∀ k, -500 ≤ stAt st k ∧ stAt st k ≤ 500) (hd : -100 ≤ L ∧ L ≤ H ∧ H ≤ 100)
include hst hd
theorem fwdS_bnd {B : Int} {f : Nat → Sp} (hB : 0 ≤ B) (h : Bnd B f) (k : Nat) : Bnd (B + 600) (fwdS st L H f k) := by
  refine h.put _ _ (by omega) ?_
  have h1 := h k
  have h2 := h (k + 1)
  have h3 := hst k
  simp only [bothS]
  omega
theorem bwdS_bnd {B : Int} {f : Nat → Sp} (hB : 0 ≤ B) (h : Bnd B f) (k : Nat) : Bnd (B + 600) (bwdS st L H f k) := by
  refine h.put _ _ (by omega) ?_
  have h1 := h k
  have h2 := h (k + 1)
  have h3 := hst k
  simp only [bothS]
  omega
theorem fwdTo_bnd {B : Int} {f : Nat → Sp} (hB : 0 ≤ B) (h : Bnd B f) : ∀ k : Nat, Bnd (B + 600 * k) (fwdTo st L H f k)
  | 0 => h.mono (by omega)
  | k + 1 => (fwdS_bnd hst hd (by omega) (fwdTo_bnd hB h k) k).mono (by omega)
theorem bwdTo_bnd {B : Int} {f : Nat → Sp} (hB : 0 ≤ B) (t : Nat) (h : Bnd B f) : ∀ k : Nat, Bnd (B + 600 * k) (bwdTo st L H t f k)
  | 0 => h.mono (by omega)
  | k + 1 => (bwdS_bnd hst hd (by omega) (bwdTo_bnd hB t h k) _).mono (by omega)
theorem roundF_bnd {B : Int} {f : Nat → Sp} (hB : 0 ≤ B) (t : Nat) (ht : t ≤ 60) (h : Bnd B f) : Bnd (B + 72000) (roundF st L H t f) :=
  (bwdTo_bnd hst hd (by omega) t (fwdTo_bnd hst hd hB h t) t).mono (by omega)
end

/-- Going forth changes nothing any more. -/
def Fwd (st : List Int) (L H : Int) (t : Nat) (f : Nat → Sp) : Prop := ∀ k, k < t → (f k).lo + stAt st k + L ≤ (f (k + 1)).lo ∧ (f (k + 1)).hi ≤ (f k).hi + stAt st k + H
/-- Going back changes nothing any more. -/
def Bwd (st : List Int) (L H : Int) (t : Nat) (f : Nat → Sp) : Prop := ∀ k, k < t → (f (k + 1)).lo - stAt st k - H ≤ (f k).lo ∧ (f k).hi ≤ (f (k + 1)).hi - stAt st k - L
theorem fwdTo_fwd (st : List Int) (L H : Int) (f : Nat → Sp) : ∀ j, Fwd st L H j (fwdTo st L H f j)
  | 0 => fun k h => by omega
  | j + 1 => by
    intro k hk
    have ih := fwdTo_fwd st L H f j
    simp only [fwdTo, fwdS]
    by_cases h : k = j
    · subst h
      rw [putS_self, putS_ne _ _ (by omega)]
      simp only [bothS]
      omega
    · rw [putS_ne _ _ (by omega), putS_ne _ _ (by omega)]
      exact ih k (by omega)
theorem bwdS_fwd {st : List Int} {L H : Int} (hd : L ≤ H) {t : Nat} {f : Nat → Sp} (h : Fwd st L H t f) (k : Nat) (hk : k < t) : Fwd st L H t (bwdS st L H f k) := by
  intro j hj
  have h1 := h j hj
  unfold bwdS
  by_cases e : j = k
  · subst e
    rw [putS_self, putS_ne _ _ (by omega)]
    simp only [bothS]
    omega
  · rw [putS_ne _ _ e]
    by_cases e2 : j + 1 = k
    · subst e2
      rw [putS_self]
      simp only [bothS]
      omega
    · rw [putS_ne _ _ e2]
      exact h1
theorem bwdTo_fwd {st : List Int} {L H : Int} (hd : L ≤ H) {t : Nat} {f : Nat → Sp} (h : Fwd st L H t f) : ∀ j, j ≤ t → Fwd st L H t (bwdTo st L H t f j)
  | 0, _ => h
  | j + 1, hj => bwdS_fwd hd (bwdTo_fwd hd h j (by omega)) _ (by omega)
theorem bwdTo_bwd (st : List Int) (L H : Int) (t : Nat) (f : Nat → Sp) : ∀ j, j ≤ t → ∀ k, t - j ≤ k → k < t → (bwdTo st L H t f j (k + 1)).lo - stAt st k - H ≤ (bwdTo st L H t f j k).lo ∧ (bwdTo st L H t f j k).hi ≤ (bwdTo st L H t f j (k + 1)).hi - stAt st k - L
  | 0, _ => fun k h1 h2 => by omega
  | j + 1, hj => by
    intro k h1 h2
    have ih := bwdTo_bwd st L H t f j (by omega)
    simp only [bwdTo, bwdS]
    by_cases e : k = t - (j + 1)
    · rw [← e, putS_self, putS_ne _ _ (by omega)]
      simp only [bothS]
      omega
    · rw [putS_ne _ _ (by omega), putS_ne _ _ (by omega)]
      exact ih k (by omega) h2
theorem fwdTo_same {st : List Int} {L H : Int} {t : Nat} {f : Nat → Sp} (h : Fwd st L H t f) : ∀ j, j ≤ t → fwdTo st L H f j = f
  | 0, _ => rfl
  | j + 1, hj => by
    rw [fwdTo, fwdTo_same h j (by omega), fwdS]
    apply putS_same
    have := h j (by omega)
    cases hc : f (j + 1) with
    | mk a b =>
      rw [hc] at this
      simp only [bothS, Sp.mk.injEq] at *
      omega
theorem bwdTo_same {st : List Int} {L H : Int} {t : Nat} {f : Nat → Sp} (h : Bwd st L H t f) : ∀ j, j ≤ t → bwdTo st L H t f j = f
  | 0, _ => rfl
  | j + 1, hj => by
    rw [bwdTo, bwdTo_same h j (by omega), bwdS]
    apply putS_same
    have := h (t - (j + 1)) (by omega)
    cases hc : f (t - (j + 1)) with
    | mk a b =>
      rw [hc] at this
      simp only [bothS, Sp.mk.injEq] at *
      omega
theorem roundF_fwd (st : List Int) {L H : Int} (hd : L ≤ H) (t : Nat) (f : Nat → Sp) : Fwd st L H t (roundF st L H t f) := bwdTo_fwd hd (fwdTo_fwd st L H f t) t (Nat.le_refl _)
theorem roundF_bwd (st : List Int) (L H : Int) (t : Nat) (f : Nat → Sp) : Bwd st L H t (roundF st L H t f) := fun k hk => bwdTo_bwd st L H t _ t (Nat.le_refl _) k (by omega) hk
/-- A second round changes nothing. -/
theorem roundF_twice (st : List Int) {L H : Int} (hd : L ≤ H) (t : Nat) (f : Nat → Sp) : roundF st L H t (roundF st L H t f) = roundF st L H t f := by
  have h1 := fwdTo_same (roundF_fwd st hd t f) t (Nat.le_refl _)
  have h2 := bwdTo_same (roundF_bwd st L H t f) t (Nat.le_refl _)
  rw [roundF, h1, h2]

theorem exists_not_mem : ∀ (n : Nat) (l : List Nat), l.length < n → ∃ k, k < n ∧ k ∉ l
  | 0, l, h => by omega
  | n + 1, l, h => by
    by_cases hn : n ∈ l
    · obtain ⟨k, hk, hkl⟩ := exists_not_mem n (l.erase n) (by rw [List.length_erase_of_mem hn]; have := List.length_pos_of_mem hn; omega)
      exact ⟨k, by omega, fun hm => hkl ((List.mem_erase_of_ne (by omega)).2 hm)⟩
    · exact ⟨n, by omega, hn⟩
theorem looks_other (k : Nat) (lk : List Lk) : ∀ f, k ∉ lk.map (fun l => l.t.toNat) → lk.foldl lookS f k = f k := by
  induction lk with
  | nil => intro f _; rfl
  | cons l lk ih =>
    intro f h
    simp only [List.map_cons, List.mem_cons, not_or] at h
    rw [List.foldl_cons, ih _ h.2, lookS, putS_ne _ _ h.1]
theorem looksF_ne_zero (lk : List Lk) (h : lk.length ≤ 10) : eqF (looksF lk) zeroF = false := by
  obtain ⟨k, hk, hn⟩ := exists_not_mem 11 (lk.map fun l => l.t.toNat) (by simpa using by omega)
  rw [← Bool.not_eq_true, eqF, List.all_eq_true]
  intro ha
  have := ha k (by simp; omega)
  rw [looksF, looks_other k lk _ hn] at this
  simp [wideF, zeroF] at this
theorem eqF_iff {f g : Nat → Sp} : eqF f g = true ↔ ∀ k, k < 61 → f k = g k := by
  rw [eqF, List.all_eq_true]
  constructor
  · intro h k hk
    have := h k (by simpa using hk)
    simp only [Bool.and_eq_true, decide_eq_true_eq] at this
    cases hf : f k; cases hg : g k
    rw [hf, hg] at this
    simp only [Sp.mk.injEq]
    exact this
  · intro h k hk
    have := h k (by simpa using hk)
    simp [this]

end Go.Proofs.YtidnopmjhhmedaaDoor
end

section
/- Between what the offset lies. -/
set_option linter.unusedSimpArgs false
set_option linter.unusedVariables false
namespace Go.Proofs.YtidnopmjhhmedaaDoor
open Go.RowKit
attribute [local go_sem] Oper.semAt_some

set_option maxHeartbeats 1000000 in
theorem steer_any (k : Nat) (B : Nat) (a : Option Addr) (n c : Nat) (st : List Int) (w : World) (hB : w.cell? ⟨B, 6, none⟩ = some (.slice a n c)) (hN : Nums w a n st) :
    Calls Tryd.prog 89 #[.int .i64 k, .pointer (some ⟨B, 0, none⟩)] w fun e w' => e = .returned (.int .i64 (stAt st k)) ∧ w = w' := by
  have hl := hN.1
  have hm := hN.2.1
  by_cases hlt : k < n
  · obtain ⟨pb, po, rfl, hcell⟩ := hN.2.2 (by omega)
    have hck := hcell k hlt
    rw [List.getD_eq_getElem?_getD] at hck
    clear hcell hN hl
    go_enter Tryd.func89, Tryd.ntmps89
    go_wp2_with fail
    go_ret
    exact ⟨rfl, rfl⟩
  · have hz : stAt st k = 0 := by rw [stAt, List.getElem?_eq_none (by omega)]; rfl
    rw [hz]
    clear hN hl hz
    go_enter Tryd.func89, Tryd.ntmps89
    go_wp2_with fail
    go_ret
    exact ⟨rfl, rfl⟩

/-- A fact that no tactic opens. -/
structure Shut (p : Prop) : Prop where mk :: (out : p)
/-- The first so many spans are wide. -/
def begF (k : Nat) : Nat → Sp := fun j => if j < k then ⟨-20000, 20000⟩ else ⟨0, 0⟩
theorem begF_succ (k : Nat) : begF (k + 1) = putS (begF k) k ⟨-20000, 20000⟩ := by
  funext j
  by_cases h : j = k
  · simp [begF, putS, h]
  · by_cases h2 : j < k
    · simp [begF, putS, h, h2, show j < k + 1 by omega]
    · simp [begF, putS, h, h2, show ¬ j < k + 1 by omega]
theorem begF_end : ∀ k, k < 61 → begF 61 k = wideF k := fun k h => by simp [begF, wideF, h]

theorem size96 (f : Nat → Sp) : (Tryd.prog.info? 96).map (·.size) = some (encL f).length := by rw [encL_length]; kernel_rfl
theorem size96a (f : Nat → Sp) : (Tryd.prog.info? 96).map (·.size) = some (encL f).toArray.size := by rw [List.size_toArray, encL_length]; kernel_rfl
theorem At.there {w : World} {b : Nat} {f : Nat → Sp} (h : At w b f) (g : Nat → Sp) : w.there b 0 (encL g).toArray.size := by rw [List.size_toArray, encL_length]; exact h.2
/-- A load that is to be left to its turn. -/
def laterLoad (t : Tmp) : Op := .load 23 (.tmp t)
theorem load_later (t : Tmp) : Op.load 23 (.tmp t) = laterLoad t := rfl
attribute [local go_sem] laterLoad
theorem three_below {W W1 : World} {b : Nat} {v0 v1 v2 : Value} (h : W.cell? ⟨b, 0, none⟩ = some v0 ∧ W.cell? ⟨b, 1, none⟩ = some v1 ∧ W.cell? ⟨b, 2, none⟩ = some v2) (hb : Below W.heap.size W W1) :
    W1.cell? ⟨b, 0, none⟩ = some v0 ∧ W1.cell? ⟨b, 1, none⟩ = some v1 ∧ W1.cell? ⟨b, 2, none⟩ = some v2 :=
  ⟨cell_below hb h.1, cell_below hb h.2.1, cell_below hb h.2.2⟩

theorem four_below {W W1 : World} {b b' : Nat} {o : Nat} {v0 v1 v2 v3 : Value} (h : W.cell? ⟨b, 3, none⟩ = some v0 ∧ W.cell? ⟨b, 4, none⟩ = some v1 ∧ W.cell? ⟨b', o, none⟩ = some v2 ∧ W.cell? ⟨b', o + 1, none⟩ = some v3) (hb : Below W.heap.size W W1) :
    W1.cell? ⟨b, 3, none⟩ = some v0 ∧ W1.cell? ⟨b, 4, none⟩ = some v1 ∧ W1.cell? ⟨b', o, none⟩ = some v2 ∧ W1.cell? ⟨b', o + 1, none⟩ = some v3 :=
  ⟨cell_below hb h.1, cell_below hb h.2.1, cell_below hb h.2.2.1, cell_below hb h.2.2.2⟩

/-- The world in which between's loops begin. -/
noncomputable def betW (F S J L H : Int) (t : Nat) (a : Option Addr) (n c : Nat) (a' : Option Addr) (n' c' : Nat) (w : World) : World :=
  ((w.alloc (.cells #[.int .i64 F, .int .i64 S, .int .i64 J, .int .i64 L, .int .i64 H, .int .i64 t, .slice a n c, .slice a' n' c'] 44)).alloc (.cells Tryd.zeroCells96 96)).alloc (.cells Tryd.zeroCells96 96)
structure BetW (L H : Int) (t : Nat) (a : Option Addr) (n c : Nat) (a' : Option Addr) (n' c' : Nat) (w W : World) : Prop where
  bel : Below w.heap.size w W
  size : W.heap.size = w.heap.size + 3
  dl : W.cell? ⟨w.heap.size, 3, none⟩ = some (.int .i64 L)
  dh : W.cell? ⟨w.heap.size, 4, none⟩ = some (.int .i64 H)
  tk : W.cell? ⟨w.heap.size, 5, none⟩ = some (.int .i64 t)
  st : W.cell? ⟨w.heap.size, 6, none⟩ = some (.slice a n c)
  lk : W.cell? ⟨w.heap.size, 7, none⟩ = some (.slice a' n' c')
  res : At W (w.heap.size + 1) zeroF
  at_ : At W (w.heap.size + 1 + 1) zeroF
theorem betW_is (F S J L H : Int) (t : Nat) (a : Option Addr) (n c : Nat) (a' : Option Addr) (n' c' : Nat) (w : World) : BetW L H t a n c a' n' c' w (betW F S J L H t a n c a' n' c' w) := by
  unfold betW
  refine ⟨?_, by simp, by simp [go_sem], by simp [go_sem], by simp [go_sem], by simp [go_sem], by simp [go_sem], ?_, ?_⟩
  · repeat with_reducible (first | exact Below.refl _ _ | refine Below.alloc ?_ (by simp <;> omega) _)
  · have h := At.new (w.alloc (.cells #[.int .i64 F, .int .i64 S, .int .i64 J, .int .i64 L, .int .i64 H, .int .i64 t, .slice a n c, .slice a' n' c'] 44))
    rw [World.size_alloc] at h
    exact h.below ((Below.refl _ _).alloc (Nat.le_refl _) _)
  · have h := At.new ((w.alloc (.cells #[.int .i64 F, .int .i64 S, .int .i64 J, .int .i64 L, .int .i64 H, .int .i64 t, .slice a n c, .slice a' n' c'] 44)).alloc (.cells Tryd.zeroCells96 96))
    rw [World.size_alloc, World.size_alloc] at h
    exact h

set_option maxRecDepth 100000 in
set_option maxHeartbeats 16000000 in
theorem between_any (F S J L H : Int) (t : Nat) (a : Option Addr) (n c : Nat) (a' : Option Addr) (n' c' : Nat) (st : List Int) (lk : List Lk) (w : World) (hN : Nums w a n st) (hK : Looks w a' n' lk) (hb : checkB F S J L H t st lk = true) :
    Calls Tryd.prog 83 #[.agg #[.int .i64 F, .int .i64 S, .int .i64 J, .int .i64 L, .int .i64 H, .int .i64 t, .slice a n c, .slice a' n' c']] w fun e w' => e = .returned (.tuple #[.agg (encL (roundF st L H t (looksF lk))).toArray, .bool (okF t (roundF st L H t (looksF lk)))]) ∧ Below w.heap.size w w' := by
  have hcb := hb
  simp only [checkB, Bool.and_eq_true, decide_eq_true_eq, lies_iff] at hcb
  obtain ⟨⟨⟨⟨⟨hrule, hT1, hT2⟩, hlen⟩, hkeep⟩, hlk10⟩, hlkall⟩ := hcb
  have hrl := hrule
  simp only [isRuleB, Bool.and_eq_true, decide_eq_true_eq, lies_iff] at hrl
  have hdr : -100 ≤ L ∧ L ≤ H ∧ H ≤ 100 := by omega
  have hsteer : ∀ k, -500 ≤ stAt st k ∧ stAt st k ≤ 500 := by
    intro k
    unfold stAt
    rcases Nat.lt_or_ge k st.length with h1 | h1
    · have := keepsB_mem F S J st 0 hkeep st[k] (List.getElem_mem h1)
      simp only [List.getElem?_eq_getElem h1, Option.getD_some]
      omega
    · rw [List.getElem?_eq_none h1]; simp
  have HST := Lib.hid hsteer
  have HF1 := Lib.hid (looksF_bnd t lk hlkall)
  have HNZ := Lib.hid (looksF_ne_zero lk hlk10)
  have HTW := Lib.hid (roundF_twice st hdr.2.1 t (looksF lk))
  obtain ⟨R, hR⟩ : ∃ R, R = roundF st L H t (looksF lk) := ⟨_, rfl⟩
  rw [← hR] at HTW ⊢
  have HBR : Hid (Bnd 92000 R) := Lib.hid (by rw [hR]; exact (roundF_bnd hsteer hdr (by omega) t (by omega) (looksF_bnd t lk hlkall)).mono (by omega))
  have HR := Lib.hid hR
  clear hrule hlen hkeep hlk10 hlkall hrl hsteer hR hT1 hT2
  go_enter Tryd.func83, Tryd.ntmps83
  go_wp2_with fail
  change Code.wp Tryd.prog _ _ _ (betW F S J L H t a n c a' n' c' w)
  have hW := betW_is F S J L H t a n c a' n' c' w
  generalize betW F S J L H t a n c a' n' c' w = W0 at hW ⊢
  have hsz := hW.size
  have HW := Lib.hid hW
  have HA0 := Lib.hid hW.at_
  clear hW
  go_loopw [5, 15] (fun _ i wr => ∃ k : Nat, k ≤ 61 ∧ i = .int .i64 k ∧ At wr (w.heap.size + 1 + 1) (begF k) ∧ Below (w.heap.size + 2) W0 wr) (fun _ i _ => 61 - (intOf i).toNat)
  case atStart => exact ⟨0, Nat.zero_le _, rfl, HA0.out.congr (fun k _ => by simp [begF, zeroF]), Below.refl _ _⟩
  case round =>
    obtain ⟨k, hk, rfl, hat, hB⟩ := hrel
    by_cases hlt : k < 61
    · have hc1 := hat.lo k hlt
      have hc2 := hat.hi k hlt
      have hf1 := hat.free (k * 2) (by omega)
      have hf2 := hat.free (k * 2 + 1) (by omega)
      have HAT := Lib.hid hat
      clear hat
      go_wp2_with fail
      go_roundw
      case rel => exact ⟨k + 1, by omega, by go_num, by rw [begF_succ]; exact HAT.out.set k hlt _ _, by repeat with_reducible (first | exact hB | refine Below.setCell ?_ (by first | omega | (simp <;> omega)) _)⟩
      case measure => simp [intOf]; omega
    · have HAT := Lib.hid (hat.congr (g := wideF) (fun j hj => by rw [show k = 61 by omega]; exact begF_end j hj) : At wr (w.heap.size + 1 + 1) wideF)
      rw [show (k : Int) = 61 by omega]
      clear hat
      have hcl := (hB.cell (p := ⟨w.heap.size, 7, none⟩) (by show w.heap.size < w.heap.size + 2; omega)).trans HW.out.lk
      have HB := Lib.hid hB
      have hz1 := hB.size
      have hkl := hK.1
      have hkm := hK.2.1
      have hn10 : n' ≤ 10 ∧ (t : Int) ≤ 60 ∧ 1 ≤ (t : Int) ∧ lk.all (lookB t) = true := by
        simp only [checkB, Bool.and_eq_true, decide_eq_true_eq, lies_iff] at hb
        have := hb.1.1.1.1.2
        exact ⟨by omega, this.2, this.1, hb.2⟩
      obtain ⟨hn10, ht60, ht1, hall⟩ := hn10
      have HALL := Lib.hid hall
      clear hB hall
      go_wp2_with fail
      go_loopw [7, 25] (fun _ i wr => ∃ k : Nat, k ≤ n' ∧ i = .int .i64 k ∧ At wr (w.heap.size + 1 + 1) ((lk.take k).foldl lookS wideF) ∧ Below (w.heap.size + 2) W0 wr) (fun _ i _ => n' - (intOf i).toNat)
      case atStart => exact ⟨0, Nat.zero_le _, rfl, HAT.out, HB.out⟩
      case round =>
        obtain ⟨k, hk, rfl, hat, hB⟩ := hrel
        by_cases hlt : k < n'
        · have hwr : Below w.heap.size w wr := HW.out.bel.trans (hB.mono (by omega))
          obtain ⟨pb, po, rfl, hcell⟩ := (hK.below hwr).2.2 (by omega)
          have hck := hcell k hlt
          clear hcell
          obtain ⟨x, hx⟩ : ∃ x, x = lk.getD k Lk.zero := ⟨_, rfl⟩
          rw [← hx] at hck
          obtain ⟨hck0, hck1, hck2⟩ := hck
          have hxm : lookB t x = true := by
            have := List.all_eq_true.1 HALL.out (lk[k]'(by omega)) (List.getElem_mem _)
            rw [hx]; simpa [List.getD_eq_getElem?_getD, show k < lk.length by omega] using this
          have htk : (lk.take (k + 1)).foldl lookS wideF = lookS ((lk.take k).foldl lookS wideF) x := by
            rw [List.take_succ_eq_append_getElem (show k < lk.length by omega), List.foldl_append, hx]
            simp [List.getD_eq_getElem?_getD, show k < lk.length by omega]
          obtain ⟨g, hg⟩ : ∃ g, g = (lk.take k).foldl lookS wideF := ⟨_, rfl⟩
          rw [← hg] at hat htk
          have hxm' := hxm
          simp only [lookB, Bool.and_eq_true, lies_iff, decide_eq_true_eq] at hxm'
          obtain ⟨q, hq⟩ : ∃ q : Nat, x.t = q := ⟨x.t.toNat, by omega⟩
          have hq61 : q < 61 := by omega
          have hc1 := hat.lo q hq61
          have hc2 := hat.hi q hq61
          have hf1 := hat.free (q * 2) (by omega)
          have hf2 := hat.free (q * 2 + 1) (by omega)
          have hz2 := hB.size
          have hz3 : w.heap.size + 2 < wr.heap.size := by omega
          rw [hq] at hck0
          have HAT2 := Lib.hid hat
          have HTK := Lib.hid htk
          have HQ := Lib.hid hq
          clear hat htk hq hxm hxm' hg hx
          have hq0 : (0 : Int) ≤ (q : Int) := by omega
          have hq1 : (q : Int) < 61 := by omega
          go_wp2_with fail
          rw [load_later 33]
          go_region_held3 (fun W1 : World => W1.cell? ⟨wr.heap.size, 0, none⟩ = some (.int .i64 q) ∧ W1.cell? ⟨wr.heap.size, 1, none⟩ = some (.int .i64 x.lo) ∧ W1.cell? ⟨wr.heap.size, 2, none⟩ = some (.int .i64 x.hi)) (first | with_reducible exact three_below hq2 hb2 | (simp [go_sem, *]; done))
            (first | (go_at_call 88; rename_i hq2 _ _; refine (both_any _ _ _ _ _).mono ?_; rintro e w3 ⟨rfl, hb2⟩; have hB3 := below_call (((Below.refl _ _).alloc (Nat.le_refl _) _).drew) hb2; have hat3 := HAT2.out.below hB3; have hff1 := hat3.free (q * 2) (by omega); have hff2 := hat3.free (q * 2 + 1) (by omega); have hcc1 := hat3.lo q hq61; have hcc2 := hat3.hi q hq61; have HB3 := Lib.hid hB3; have HA3 := Lib.hid hat3; clear hB3 hat3; have hz4 := hb2.size; simp at hz4; have hz5 : w.heap.size + 1 + 1 < w3.heap.size := (by omega); have hz6 : wr.heap.size < w3.heap.size := (by omega)))
          go_wp2_with fail
          go_roundw
          case rel =>
            refine ⟨k + 1, by omega, by go_num, ?_, ?_⟩
            · rw [HTK.out, lookS, HQ.out]
              exact HA3.out.set q hq61 _ _
            · refine Below.setCell (Below.setCell (hB.trans (HB3.out.mono (by omega))) ?_ _) ?_ _
              · show w.heap.size + 2 ≤ w.heap.size + 1 + 1; omega
              · show w.heap.size + 2 ≤ w.heap.size + 1 + 1; omega
          case measure => simp [intOf]; omega
        · obtain rfl : k = n' := by omega
          have htk : (lk.take k).foldl lookS wideF = looksF lk := by rw [List.take_of_length_le (by omega)]; rfl
          rw [htk] at hat
          have HAT2 := Lib.hid hat
          have hz2 := hB.size
          have hsto := storeCells_At (At.new wr) zeroF
          rw [← zeroL_is] at hsto
          have hAw := (At.new wr).store zeroF
          have hBw : Below wr.heap.size wr ((wr.alloc (.cells Tryd.zeroCells96 96)).setCells wr.heap.size 0 (encL zeroF)) := below_setCells _ _ _ ((Below.refl _ _).alloc (Nat.le_refl _) _) (Nat.le_refl _)
          have hA3 := HAT2.out.below hBw
          rw [← zeroL_is] at hAw hBw hA3
          have hSz : ((wr.alloc (.cells Tryd.zeroCells96 96)).setCells wr.heap.size 0 Tryd.zeroCells96.toList).heap.size = wr.heap.size + 1 := by rw [size_setCells]; simp
          have HAW := Lib.hid hAw
          have HBW := Lib.hid hBw
          have HA3 := Lib.hid hA3
          have HSZ := Lib.hid hSz
          clear htk hat hAw hBw hA3 hSz
          go_wp2_with fail
          generalize (wr.alloc (.cells Tryd.zeroCells96 96)).setCells wr.heap.size 0 Tryd.zeroCells96.toList = W3 at *
          go_loopg [9, 10, 11, 12, 13, 14] 3 (fun r p9 _ _ _ _ _ wx => ∃ (f g : Nat → Sp) (b9 : Nat), p9 = .pointer (some ⟨b9, 0, none⟩) ∧ w.heap.size + 1 + 1 < b9 ∧ At wx (w.heap.size + 1 + 1) f ∧ At wx b9 g ∧ Below (w.heap.size + 2) W0 wx ∧ roundF st L H t f = R ∧ Bnd 92000 f ∧ ((r = 3 ∧ eqF f g = false) ∨ (r = 2 ∧ f = R ∧ okF t R = true) ∨ (r = 1 ∧ f = R ∧ okF t R = true ∧ g = R)))
          case atStart => exact ⟨_, _, _, rfl, by omega, HA3.out, HAW.out, hB.trans (HBW.out.mono (by omega)), HR.out.symm, HF1.out.mono (by omega), .inl ⟨rfl, HNZ.out⟩⟩
          case round =>
            obtain ⟨f, g, b9, rfl, hb9, hAt, hA9, hB4, hRf, hbf, hst3⟩ := hrel
            have heq := eq_At f g wr
            have HRF := Lib.hid hRf
            have HBF := Lib.hid hbf
            have HS3 := Lib.hid hst3
            have HAT := Lib.hid hAt
            have HA9 := Lib.hid hA9
            clear hRf hbf hst3 hA9
            cases he : eqF f g
            · rw [he] at heq
              have HA5 := Lib.hid (show At (wr.setCells b9 0 (encL f).toArray.toList) (w.heap.size + 1 + 1) f from HAT.out.apart (by omega) _ _)
              have HA59 := Lib.hid (show At (wr.setCells b9 0 (encL f).toArray.toList) b9 f from HA9.out.store f)
              have hb5 : Below (w.heap.size + 2) W0 (wr.setCells b9 0 (encL f).toArray.toList) := below_setCells _ _ _ hB4 (by omega)
              have HC5 := Lib.hid ((hb5.cell (p := ⟨w.heap.size, 5, none⟩) (by show w.heap.size < w.heap.size + 2; omega)).trans HW.out.tk)
              have HZ5 := Lib.hid hb5.size
              have HB5 := Lib.hid hb5
              clear hb5
              go_wp2_with (first | (refine wpList_load_mid rfl 96 _ rfl (w.heap.size + 1 + 1) 0 rfl (encL f) _ HAT.out.1 Tryd.underlying96 rfl (size96 f) ?_) | (refine wpList_load_mid rfl 96 _ rfl b9 0 rfl (encL g) _ HA9.out.1 Tryd.underlying96 rfl (size96 g) ?_) | (refine wpList_store_mid rfl 96 _ _ rfl b9 0 (encL f).toArray rfl rfl (HA9.out.there f) (size96a f) (all_oneCell_toArray (encL_one f)) ?_; generalize wr.setCells b9 0 (encL f).toArray.toList = W5 at *; have hc5 := HC5.out; have hz5 := HZ5.out))
              go_step3
              go_wp2_with (first | (refine wpList_load_mid rfl 96 _ rfl (w.heap.size + 1 + 1) 0 rfl (encL f) _ HAT.out.1 Tryd.underlying96 rfl (size96 f) ?_) | (refine wpList_load_mid rfl 96 _ rfl b9 0 rfl (encL g) _ HA9.out.1 Tryd.underlying96 rfl (size96 g) ?_) | (refine wpList_store_mid rfl 96 _ _ rfl b9 0 (encL f).toArray rfl rfl (HA9.out.there f) (size96a f) (all_oneCell_toArray (encL_one f)) ?_; generalize wr.setCells b9 0 (encL f).toArray.toList = W5 at *; have hc5 := HC5.out; have hz5 := HZ5.out))
              go_loopw [10, 11, 48] (fun _ _ i wx => ∃ j : Nat, j ≤ t ∧ i = .int .i64 j ∧ At wx (w.heap.size + 1 + 1) (fwdTo st L H f j) ∧ At wx b9 f ∧ Below (w.heap.size + 2) W0 wx) (fun _ _ i _ => t - (intOf i).toNat)
              case atStart => exact ⟨0, Nat.zero_le _, rfl, HA5.out, HA59.out, HB5.out⟩
              case round =>
                obtain ⟨j, hj, rfl, hAx, hA9x, hBx⟩ := hrel
                have hzx := hBx.size
                by_cases hlt : j < t
                · have hNx := hN.below (HW.out.bel.trans (hBx.mono (by omega)))
                  have hc6 := (hBx.cell (p := ⟨w.heap.size, 6, none⟩) (by show w.heap.size < w.heap.size + 2; omega)).trans HW.out.st
                  have hc3 := (hBx.cell (p := ⟨w.heap.size, 3, none⟩) (by show w.heap.size < w.heap.size + 2; omega)).trans HW.out.dl
                  have hc4 := (hBx.cell (p := ⟨w.heap.size, 4, none⟩) (by show w.heap.size < w.heap.size + 2; omega)).trans HW.out.dh
                  have hbj := fwdTo_bnd HST.out hdr (by omega) HBF.out j
                  obtain ⟨h, hh⟩ : ∃ h, h = fwdTo st L H f j := ⟨_, rfl⟩
                  have hnext : fwdTo st L H f (j + 1) = putS h (j + 1) (bothS (h (j + 1)) ⟨(h j).lo + stAt st j + L, (h j).hi + stAt st j + H⟩) := by rw [hh]; rfl
                  rw [← hh] at hAx hbj
                  have hc21 := hAx.lo j (by omega)
                  have hc22 := hAx.hi j (by omega)
                  have hc23 := hAx.lo (j + 1) (by omega)
                  have hc24 := hAx.hi (j + 1) (by omega)
                  have hbs := HST.out j
                  have hbj := hbj j
                  obtain ⟨p0, hp0⟩ : ∃ p0, p0 = (h j).lo := ⟨_, rfl⟩
                  obtain ⟨p1, hp1⟩ : ∃ p1, p1 = (h j).hi := ⟨_, rfl⟩
                  obtain ⟨q0, hq0⟩ : ∃ q0, q0 = (h (j + 1)).lo := ⟨_, rfl⟩
                  obtain ⟨q1, hq1⟩ : ∃ q1, q1 = (h (j + 1)).hi := ⟨_, rfl⟩
                  obtain ⟨s, hs⟩ : ∃ s, s = stAt st j := ⟨_, rfl⟩
                  have hste := steer_any j w.heap.size a n c st wr hc6 hNx
                  rw [← hs] at hste
                  rw [← hs, ← hp0, ← hp1] at hnext
                  rw [← hp0] at hc21
                  rw [← hp1] at hc22
                  rw [← hq0] at hc23
                  rw [← hq1] at hc24
                  rw [← hs] at hbs
                  rw [← hp0, ← hp1] at hbj
                  have HAX := Lib.hid hAx
                  have HA9X := Lib.hid hA9x
                  have HNE := Lib.hid hnext
                  have HQ0 := Lib.hid hq0
                  have HQ1 := Lib.hid hq1
                  have HBX := Lib.hid hBx
                  have hlt9 := hA9x.lt
                  clear hAx hA9x hnext hp0 hp1 hq0 hq1 hs hh hNx hBx
                  have hj0 : (0 : Int) ≤ (j : Int) := by omega
                  have hj1 : (j : Int) < 61 := by omega
                  have hj2 : (0 : Int) ≤ (j : Int) + 1 := by omega
                  have hj3 : (j : Int) + 1 < 61 := by omega
                  have hwr1 : IntKind.i64.wrap ((j : Int) + 1) = (j : Int) + 1 := IntWalk.i64_in _ (by constructor <;> omega)
                  have hwr2 : IntKind.i64.wrap (p0 + s) = p0 + s := IntWalk.i64_in _ (by constructor <;> omega)
                  have hwr3 : IntKind.i64.wrap (p0 + s + L) = p0 + s + L := IntWalk.i64_in _ (by constructor <;> omega)
                  have hwr4 : IntKind.i64.wrap (p1 + s) = p1 + s := IntWalk.i64_in _ (by constructor <;> omega)
                  have hwr5 : IntKind.i64.wrap (p1 + s + H) = p1 + s + H := IntWalk.i64_in _ (by constructor <;> omega)
                  have hx1 : w.heap.size + 1 + 1 < wr.heap.size := by omega
                  have hx0 : w.heap.size < wr.heap.size := by omega
                  go_wp2_with (go_at_call 89; refine hste.mono ?_; rintro e w' ⟨rfl, rfl⟩)
                  rw [load_later 58]
                  go_region_held3 (fun W1 : World => W1.cell? ⟨w.heap.size, 3, none⟩ = some (.int .i64 L) ∧ W1.cell? ⟨w.heap.size, 4, none⟩ = some (.int .i64 H) ∧ W1.cell? ⟨w.heap.size + 1 + 1, j * 2, none⟩ = some (.int .i64 p0) ∧ W1.cell? ⟨w.heap.size + 1 + 1, j * 2 + 1, none⟩ = some (.int .i64 p1)) (first | with_reducible exact four_below hq2 hb2 | (simp [go_sem, *]; done) | (simp [go_sem, *]; omega))
                    (first | (go_at_call 88; rename_i hq2 _ _; refine (both_any _ _ _ _ _).mono ?_; rintro e w3 ⟨rfl, hb2⟩; have hB3 := below_call ((Below.refl _ _).drew) hb2; have hat3 := HAX.out.below hB3; have hff1 := hat3.free ((j + 1) * 2) (by omega); have hff2 := hat3.free ((j + 1) * 2 + 1) (by omega); have hcc1 := hat3.lo (j + 1) (by omega); have hcc2 := hat3.hi (j + 1) (by omega); rw [← HQ0.out] at hcc1; rw [← HQ1.out] at hcc2; have HB3 := Lib.hid hB3; have HA3 := Lib.hid hat3; clear hB3 hat3; have hz4 := hb2.size; simp at hz4; have hz5 : w.heap.size + 1 + 1 < w3.heap.size := (by omega); have hz6 : w.heap.size < w3.heap.size := (by omega)))
                  go_wp2_with fail
                  go_roundw
                  case rel =>
                    refine ⟨j + 1, by omega, by go_num, ?_, ?_, ?_⟩
                    · rw [HNE.out]
                      have := HA3.out.set (j + 1) (by omega) (max q0 (p0 + s + L)) (min q1 (p1 + s + H))
                      rw [HQ0.out, HQ1.out] at this ⊢
                      exact this
                    · exact (HA9X.out.below HB3.out).apart (by omega) ((j + 1) * 2) [_, _]
                    · refine Below.setCell (Below.setCell (HBX.out.trans (HB3.out.mono (by omega))) ?_ _) ?_ _
                      · show w.heap.size + 2 ≤ w.heap.size + 1 + 1; omega
                      · show w.heap.size + 2 ≤ w.heap.size + 1 + 1; omega
                  case measure => simp [intOf]; omega
                · obtain rfl : t = j := by omega
                  have hc5 := (hBx.cell (p := ⟨w.heap.size, 5, none⟩) (by show w.heap.size < w.heap.size + 2; omega)).trans HW.out.tk
                  have hbj := fwdTo_bnd HST.out hdr (by omega) HBF.out t
                  obtain ⟨h, hh⟩ : ∃ h, h = fwdTo st L H f t := ⟨_, rfl⟩
                  rw [← hh] at hAx hbj
                  have HH := Lib.hid hh
                  have HAX := Lib.hid hAx
                  have HA9X := Lib.hid hA9x
                  have HBX := Lib.hid hBx
                  have HBJ := Lib.hid hbj
                  clear hh hAx hA9x hBx hbj
                  go_wp2_with fail
                  go_loopw [12, 13] (fun v _ wx => ∃ i : Nat, i ≤ t ∧ v = .int .i64 ((t : Int) - 1 - i) ∧ At wx (w.heap.size + 1 + 1) (bwdTo st L H t h i) ∧ At wx b9 f ∧ Below (w.heap.size + 2) W0 wx) (fun v _ _ => (intOf v + 1).toNat)
                  case atStart => exact ⟨0, Nat.zero_le _, by go_num, HAX.out, HA9X.out, HBX.out⟩
                  case round =>
                    obtain ⟨i, hi, rfl, hAx, hA9x, hBx⟩ := hrel
                    have hzx := hBx.size
                    by_cases hlt : i < t
                    · obtain ⟨q, hq⟩ : ∃ q : Nat, t = q + 1 + i := ⟨t - 1 - i, by omega⟩
                      rw [show (t : Int) - 1 - i = (q : Int) by omega]
                      have hNx := hN.below (HW.out.bel.trans (hBx.mono (by omega)))
                      have hc6 := (hBx.cell (p := ⟨w.heap.size, 6, none⟩) (by show w.heap.size < w.heap.size + 2; omega)).trans HW.out.st
                      have hc3 := (hBx.cell (p := ⟨w.heap.size, 3, none⟩) (by show w.heap.size < w.heap.size + 2; omega)).trans HW.out.dl
                      have hc4 := (hBx.cell (p := ⟨w.heap.size, 4, none⟩) (by show w.heap.size < w.heap.size + 2; omega)).trans HW.out.dh
                      have hbj := bwdTo_bnd HST.out hdr (by omega) t HBJ.out i
                      obtain ⟨h', hh⟩ : ∃ h', h' = bwdTo st L H t h i := ⟨_, rfl⟩
                      have hnext : bwdTo st L H t h (i + 1) = putS h' q (bothS (h' q) ⟨(h' (q + 1)).lo - stAt st q - H, (h' (q + 1)).hi - stAt st q - L⟩) := by
                        rw [hh, bwdTo, show t - (i + 1) = q by omega]; rfl
                      rw [← hh] at hAx hbj
                      have hc21 := hAx.lo (q + 1) (by omega)
                      have hc22 := hAx.hi (q + 1) (by omega)
                      have hc23 := hAx.lo q (by omega)
                      have hc24 := hAx.hi q (by omega)
                      have hbs := HST.out q
                      have hbj := hbj (q + 1)
                      obtain ⟨p0, hp0⟩ : ∃ p0, p0 = (h' (q + 1)).lo := ⟨_, rfl⟩
                      obtain ⟨p1, hp1⟩ : ∃ p1, p1 = (h' (q + 1)).hi := ⟨_, rfl⟩
                      obtain ⟨q0, hq0⟩ : ∃ q0, q0 = (h' q).lo := ⟨_, rfl⟩
                      obtain ⟨q1, hq1⟩ : ∃ q1, q1 = (h' q).hi := ⟨_, rfl⟩
                      obtain ⟨s, hs⟩ : ∃ s, s = stAt st q := ⟨_, rfl⟩
                      have hste := steer_any q w.heap.size a n c st wr hc6 hNx
                      rw [← hs] at hste
                      rw [← hs, ← hp0, ← hp1] at hnext
                      rw [← hp0] at hc21
                      rw [← hp1] at hc22
                      rw [← hq0] at hc23
                      rw [← hq1] at hc24
                      rw [← hs] at hbs
                      rw [← hp0, ← hp1] at hbj
                      have HAX2 := Lib.hid hAx
                      have HA9X2 := Lib.hid hA9x
                      have HNE := Lib.hid hnext
                      have HQ0 := Lib.hid hq0
                      have HQ1 := Lib.hid hq1
                      have HBX2 := Lib.hid hBx
                      have HQ := Lib.hid hq
                      have hlt9 := hA9x.lt
                      have hj0 : (0 : Int) ≤ (q : Int) := by omega
                      have hj1 : (q : Int) < 61 := by omega
                      have hj2 : (0 : Int) ≤ (q : Int) + 1 := by omega
                      have hj3 : (q : Int) + 1 < 61 := by omega
                      have hqi : q + 1 < 61 := by omega
                      have hwr0 : IntKind.i64.wrap ((q : Int) - 1) = (q : Int) - 1 := IntWalk.i64_in _ (by constructor <;> omega)
                      have hwr1 : IntKind.i64.wrap ((q : Int) + 1) = (q : Int) + 1 := IntWalk.i64_in _ (by constructor <;> omega)
                      have hwr2 : IntKind.i64.wrap (p0 - s) = p0 - s := IntWalk.i64_in _ (by constructor <;> omega)
                      have hwr3 : IntKind.i64.wrap (p0 - s - H) = p0 - s - H := IntWalk.i64_in _ (by constructor <;> omega)
                      have hwr4 : IntKind.i64.wrap (p1 - s) = p1 - s := IntWalk.i64_in _ (by constructor <;> omega)
                      have hwr5 : IntKind.i64.wrap (p1 - s - L) = p1 - s - L := IntWalk.i64_in _ (by constructor <;> omega)
                      have hx1 : w.heap.size + 1 + 1 < wr.heap.size := by omega
                      have hx0 : w.heap.size < wr.heap.size := by omega
                      clear hAx hA9x hnext hp0 hp1 hq0 hq1 hs hh hNx hBx hq
                      go_wp2_with (go_at_call 89; refine hste.mono ?_; rintro e w' ⟨rfl, rfl⟩)
                      rw [load_later 98]
                      go_region_held3 (fun W1 : World => W1.cell? ⟨w.heap.size, 3, none⟩ = some (.int .i64 L) ∧ W1.cell? ⟨w.heap.size, 4, none⟩ = some (.int .i64 H) ∧ W1.cell? ⟨w.heap.size + 1 + 1, (q + 1) * 2, none⟩ = some (.int .i64 p0) ∧ W1.cell? ⟨w.heap.size + 1 + 1, (q + 1) * 2 + 1, none⟩ = some (.int .i64 p1)) (first | with_reducible exact four_below hq2 hb2 | (simp [go_sem, *]; done) | (simp [go_sem, *]; omega))
                        (first | (go_at_call 88; rename_i hq2 _ _; refine (both_any _ _ _ _ _).mono ?_; rintro e w3 ⟨rfl, hb2⟩; have hB3 := below_call ((Below.refl _ _).drew) hb2; have hat3 := HAX2.out.below hB3; have hff1 := hat3.free (q * 2) (by omega); have hff2 := hat3.free (q * 2 + 1) (by omega); have hcc1 := hat3.lo q (by omega); have hcc2 := hat3.hi q (by omega); rw [← HQ0.out] at hcc1; rw [← HQ1.out] at hcc2; have HB3 := Lib.hid hB3; have HA3 := Lib.hid hat3; clear hB3 hat3; have hz4 := hb2.size; simp at hz4; have hz5 : w.heap.size + 1 + 1 < w3.heap.size := (by omega); have hz6 : w.heap.size < w3.heap.size := (by omega)))
                      go_wp2_with fail
                      go_roundw
                      case rel =>
                        refine ⟨i + 1, by omega, by congr 1; have := HQ.out; omega, ?_, ?_, ?_⟩
                        · rw [HNE.out]
                          have := HA3.out.set q (by omega) (max q0 (p0 - s - H)) (min q1 (p1 - s - L))
                          rw [HQ0.out, HQ1.out] at this ⊢
                          exact this
                        · exact (HA9X2.out.below HB3.out).apart (by omega) (q * 2) [_, _]
                        · refine Below.setCell (Below.setCell (HBX2.out.trans (HB3.out.mono (by omega))) ?_ _) ?_ _
                          · show w.heap.size + 2 ≤ w.heap.size + 1 + 1; omega
                          · show w.heap.size + 2 ≤ w.heap.size + 1 + 1; omega
                      case measure => simp [intOf] <;> omega
                    · have hit : i = t := by omega
                      have hfin : bwdTo st L H t h i = R := by rw [hit, HH.out, ← HRF.out]; rfl
                      rw [hfin] at hAx
                      rw [show (t : Int) - 1 - i = -1 by omega]
                      have hc5 := (hBx.cell (p := ⟨w.heap.size, 5, none⟩) (by show w.heap.size < w.heap.size + 2; omega)).trans HW.out.tk
                      have HAX2 := Lib.hid hAx
                      have HA9X2 := Lib.hid hA9x
                      have HBX2 := Lib.hid hBx
                      have HRES := Lib.hid (HW.out.res.belowN (by omega) hBx)
                      have hwr1 : IntKind.i64.wrap ((t : Int) + 1) = (t : Int) + 1 := IntWalk.i64_in _ (by constructor <;> omega)
                      clear hfin hAx hA9x hBx
                      go_wp2_with fail
                      go_step3
                      go_wp2_with fail
                      go_loopw [14, 130] (fun _ v wx => ∃ m : Nat, m ≤ t + 1 ∧ v = .int .i64 m ∧ (∀ k, k < m → (R k).lo ≤ (R k).hi) ∧ At wx (w.heap.size + 1 + 1) R ∧ At wx b9 f ∧ At wx (w.heap.size + 1) zeroF ∧ Below (w.heap.size + 2) W0 wx) (fun _ v _ => t + 1 - (intOf v).toNat)
                      case atStart => exact ⟨0, Nat.zero_le _, rfl, fun k hk => by omega, HAX2.out, HA9X2.out, HRES.out, HBX2.out⟩
                      case round =>
                        obtain ⟨m, hm, rfl, hok, hAx, hA9x, hAr, hBx⟩ := hrel
                        have hzx := hBx.size
                        by_cases hlt : m < t + 1
                        · have hc21 := hAx.lo m (by omega)
                          have hc22 := hAx.hi m (by omega)
                          obtain ⟨p0, hp0⟩ : ∃ p0, p0 = (R m).lo := ⟨_, rfl⟩
                          obtain ⟨p1, hp1⟩ : ∃ p1, p1 = (R m).hi := ⟨_, rfl⟩
                          rw [← hp0] at hc21
                          rw [← hp1] at hc22
                          have hj0 : (0 : Int) ≤ (m : Int) := by omega
                          have hj1 : (m : Int) < 61 := by omega
                          have hlt' : (m : Int) < (t : Int) + 1 := by omega
                          have HAX3 := Lib.hid hAx
                          have HA9X3 := Lib.hid hA9x
                          have HAR := Lib.hid hAr
                          have HOK := Lib.hid hok
                          have HBX3 := Lib.hid hBx
                          have HP0 := Lib.hid hp0
                          have HP1 := Lib.hid hp1
                          clear hAx hA9x hAr hBx hok hp0 hp1
                          by_cases hpp : p0 ≤ p1
                          · go_wp2_with fail
                            go_region_held3 (fun W1 : World => W1.cell? ⟨w.heap.size + 1 + 1, m * 2, none⟩ = some (.int .i64 p0) ∧ W1.cell? ⟨w.heap.size + 1 + 1, m * 2 + 1, none⟩ = some (.int .i64 p1)) (first | (simp [go_sem, *]; done)) (fail)
                            go_wp2_with fail
                            go_roundw
                            case rel =>
                              refine ⟨m + 1, by omega, by go_num, fun k hk => ?_, HAX3.out.below ((Below.refl _ _).drew), HA9X3.out.below ((Below.refl _ _).drew), HAR.out.below ((Below.refl _ _).drew), HBX3.out.drew⟩
                              by_cases hkm : k = m
                              · rw [hkm, ← HP0.out, ← HP1.out]; exact hpp
                              · exact HOK.out k (by omega)
                            case measure => simp [intOf] <;> omega
                          · have hbad : okF t R = false := by
                              rw [← Bool.not_eq_true, okF, List.all_eq_true]
                              intro ha
                              have h1 := ha m (by simpa using (by omega : m < t + 1))
                              simp only [decide_eq_true_eq] at h1
                              rw [← HP0.out, ← HP1.out] at h1
                              exact hpp h1
                            have HBAD := Lib.hid hbad
                            have hAd : At wr.drew (w.heap.size + 1 + 1) R := HAX3.out.below ((Below.refl _ _).drew)
                            have hRd : At wr.drew (w.heap.size + 1) zeroF := HAR.out.below ((Below.refl _ _).drew)
                            have HAD := Lib.hid hAd
                            have HRD := Lib.hid hRd
                            have HBF6 : Hid (Below w.heap.size w (wr.drew.setCells (w.heap.size + 1) 0 (encL R).toArray.toList)) := Lib.hid (below_setCells _ _ _ ((HW.out.bel.trans (HBX3.out.mono (by omega))).drew) (by omega))
                            have HLV2 : Shut ((loadVar 96 ⟨w.heap.size + 1, 0, none⟩).run Tryd.prog (wr.drew.setCells (w.heap.size + 1) 0 (encL R).toArray.toList) = .ok (.agg (encL R).toArray) (wr.drew.setCells (w.heap.size + 1) 0 (encL R).toArray.toList)) := ⟨loadVar_At (hRd.store R)⟩
                            clear hAd hRd hbad
                            go_wp2_with fail
                            go_region_held3 (fun W1 : World => W1.cell? ⟨w.heap.size + 1 + 1, m * 2, none⟩ = some (.int .i64 p0) ∧ W1.cell? ⟨w.heap.size + 1 + 1, m * 2 + 1, none⟩ = some (.int .i64 p1)) (first | (simp [go_sem, *]; done)) (fail)
                            go_wp2_with (first | (refine wpList_load_mid rfl 96 _ rfl (w.heap.size + 1 + 1) 0 rfl (encL R) _ HAD.out.1 Tryd.underlying96 rfl (size96 R) ?_) | (refine wpList_store_mid rfl 96 _ _ rfl (w.heap.size + 1) 0 (encL R).toArray rfl rfl (HRD.out.there R) (size96a R) (all_oneCell_toArray (encL_one R)) ?_; generalize wr.drew.setCells (w.heap.size + 1) 0 (encL R).toArray.toList = W6 at *))
                            rw [Exit.noGoto_ret]
                            go_wp2_with fail
                            have hlv := HLV2.out
                            refine bodyPost_ret (v := .tuple #[.agg (encL R).toArray, .bool false]) (by have ha : ∀ W : World, Sem.run Tryd.prog (asAddr (Value.pointer (some ⟨w.heap.size + 1, 0, none⟩))) W = .ok ⟨w.heap.size + 1, 0, none⟩ W := fun _ => rfl; simp [results, Tryd.results83, Sem.run_bind, hlv, ha]) rfl ?_
                            rw [HBAD.out]
                            exact ⟨rfl, HBF6.out⟩
                        · have hall : okF t R = true := by
                            rw [okF, List.all_eq_true]
                            intro k hk
                            have hk' : k < t + 1 := by simpa using hk
                            simp only [decide_eq_true_eq]
                            exact hok k (by omega)
                          have HALLR := Lib.hid hall
                          have hlt' : ¬ ((m : Int) < (t : Int) + 1) := by omega
                          have hnew := At.new wr
                          have HNEW := Lib.hid hnew
                          have HN9 := Lib.hid (hnew.store f)
                          have hbn : Below wr.heap.size wr ((wr.alloc (.cells Tryd.zeroCells96 96)).setCells wr.heap.size 0 (encL f).toArray.toList) := below_setCells _ _ _ ((Below.refl _ _).alloc (Nat.le_refl _) _) (Nat.le_refl _)
                          have HN9 : Hid (At ((wr.alloc (.cells Tryd.zeroCells96 96)).setCells wr.heap.size 0 (encL f).toArray.toList) wr.heap.size f) := Lib.hid (hnew.store f)
                          have HBN := Lib.hid hbn
                          have HAX3 := Lib.hid (hAx.below hbn)
                          have HA9X3 := Lib.hid hA9x
                          have HBX3 := Lib.hid hBx
                          clear hAx hA9x hAr hBx hok hall hnew hbn
                          go_wp2_with (first | (refine wpList_load_mid rfl 96 _ rfl b9 0 rfl (encL f) _ HA9X3.out.1 Tryd.underlying96 rfl (size96 f) ?_) | (refine wpList_store_mid rfl 96 _ _ rfl wr.heap.size 0 (encL f).toArray rfl rfl (HNEW.out.there f) (size96a f) (all_oneCell_toArray (encL_one f)) ?_; generalize (wr.alloc (.cells Tryd.zeroCells96 96)).setCells wr.heap.size 0 (encL f).toArray.toList = W6 at *))
                          have HS3' : (gk = 3 ∧ eqF f g = false) ∨ (gk = 2 ∧ f = R ∧ okF t R = true) := by
                            rcases HS3.out with h1 | h1 | ⟨_, h2, _, h4⟩
                            · exact .inl h1
                            · exact .inr h1
                            · exfalso
                              have : eqF f g = true := by rw [h2, h4]; exact eqF_iff.2 fun _ _ => rfl
                              rw [he] at this
                              cases this
                          rcases HS3' with ⟨h3, _⟩ | ⟨h3, h4, _⟩
                          · go_roundg 2
                            case measure => omega
                            case rel => exact ⟨R, f, wr.heap.size, rfl, by omega, HAX3.out, HN9.out, HBX3.out.trans (HBN.out.mono (by omega)), HTW.out, HBR.out, .inr (.inl ⟨rfl, rfl, HALLR.out⟩)⟩
                          · go_roundg 1
                            case measure => omega
                            case rel => exact ⟨R, f, wr.heap.size, rfl, by omega, HAX3.out, HN9.out, HBX3.out.trans (HBN.out.mono (by omega)), HTW.out, HBR.out, .inr (.inr ⟨rfl, rfl, HALLR.out, h4⟩)⟩
            · rw [he] at heq
              have hfR : f = R ∧ okF t R = true := by
                rcases HS3.out with ⟨_, h2⟩ | ⟨_, h2, h3⟩ | ⟨_, h2, h3, _⟩
                · rw [he] at h2; cases h2
                · exact ⟨h2, h3⟩
                · exact ⟨h2, h3⟩
              have HFR := Lib.hid hfR
              have hres := HW.out.res.belowN (show w.heap.size + 1 < w.heap.size + 2 by omega) hB4
              have HRES := Lib.hid hres
              have hr6 := hres.store f
              have HLV := Lib.hid (loadVar_At hr6)
              have HBF6 : Hid (Below w.heap.size w (wr.setCells (w.heap.size + 1) 0 (encL f).toArray.toList)) := Lib.hid (below_setCells _ _ _ (HW.out.bel.trans (hB4.mono (by omega))) (by omega))
              have HLV2 : Shut ((loadVar 96 ⟨w.heap.size + 1, 0, none⟩).run Tryd.prog (wr.setCells (w.heap.size + 1) 0 (encL f).toArray.toList) = .ok (.agg (encL f).toArray) (wr.setCells (w.heap.size + 1) 0 (encL f).toArray.toList)) := ⟨loadVar_At hr6⟩
              clear hfR hres hr6 HLV
              go_wp2_with (first | (refine wpList_load_mid rfl 96 _ rfl (w.heap.size + 1 + 1) 0 rfl (encL f) _ HAT.out.1 Tryd.underlying96 rfl (size96 f) ?_) | (refine wpList_load_mid rfl 96 _ rfl b9 0 rfl (encL g) _ HA9.out.1 Tryd.underlying96 rfl (size96 g) ?_) | (refine wpList_store_mid rfl 96 _ _ rfl (w.heap.size + 1) 0 (encL f).toArray rfl rfl (HRES.out.there f) (size96a f) (all_oneCell_toArray (encL_one f)) ?_; generalize wr.setCells (w.heap.size + 1) 0 (encL f).toArray.toList = W6 at *))
              have hlv := HLV2.out
              refine bodyPost_ret (v := .tuple #[.agg (encL f).toArray, .bool true]) (by have ha : ∀ W : World, Sem.run Tryd.prog (asAddr (Value.pointer (some ⟨w.heap.size + 1, 0, none⟩))) W = .ok ⟨w.heap.size + 1, 0, none⟩ W := fun _ => rfl; simp [results, Tryd.results83, Sem.run_bind, hlv, ha]) rfl ?_
              rw [HFR.out.2, HFR.out.1]
              exact ⟨rfl, HBF6.out⟩

end Go.Proofs.YtidnopmjhhmedaaDoor
end

section
/- What is asked of a book. -/
set_option linter.unusedSimpArgs false
set_option linter.unusedVariables false
namespace Go.Proofs.YtidnopmjhhmedaaDoor
open Go.RowKit
attribute [local go_sem] Oper.semAt_some

theorem Check_any (F S J L H T : Int) (a : Option Addr) (n c : Nat) (a' : Option Addr) (n' c' : Nat) (st : List Int) (lk : List Lk) (w : World) (hN : Nums w a n st) (hK : Looks w a' n' lk) :
    Calls Tryd.prog 29 #[.agg #[.int .i64 F, .int .i64 S, .int .i64 J, .int .i64 L, .int .i64 H, .int .i64 T, .slice a n c, .slice a' n' c']] w fun e w' => e = .returned (.int .i64 (if checkB F S J L H T st lk then 0 else 40)) ∧ Below w.heap.size w w' := by
  cases hr : isRuleB F S J L H
  · have : checkB F S J L H T st lk = false := by simp [checkB, hr]
    rw [this]
    exact Check_no F S J L H T a n c a' n' c' lk w hK hr
  · exact Check_is F S J L H T a n c a' n' c' st lk w hN hK hr _ rfl

theorem zero_size : (Tryd.prog.info? 96).map (·.size) = some Tryd.zeroCells96.size := by kernel_rfl
theorem zero_one : ∀ v ∈ Tryd.zeroCells96.toList, v.oneCell' = true := by rw [zeroL_is]; exact encL_one _
theorem zero_there {w : World} {b : Nat} {f : Nat → Sp} (h : At w b f) : w.there b 0 Tryd.zeroCells96.size := by rw [zeroCells_is]; exact h.there _
theorem store_zero {w : World} {b : Nat} {f : Nat → Sp} (h : At w b f) : At (w.setCells b 0 Tryd.zeroCells96.toList) b zeroF := by rw [zeroL_is]; exact h.store _
theorem asAddr_is (b : Nat) (W : World) : Sem.run Tryd.prog (asAddr (Value.pointer (some ⟨b, 0, none⟩))) W = .ok ⟨b, 0, none⟩ W := rfl

/-- A book's cells. -/
abbrev BookAt (W : World) (b : Nat) (F S J L H T : Int) (a : Option Addr) (n c : Nat) (a' : Option Addr) (n' c' : Nat) : Prop :=
  W.cell? ⟨b, 0, none⟩ = some (.int .i64 F) ∧ W.cell? ⟨b, 1, none⟩ = some (.int .i64 S) ∧ W.cell? ⟨b, 2, none⟩ = some (.int .i64 J) ∧ W.cell? ⟨b, 3, none⟩ = some (.int .i64 L) ∧ W.cell? ⟨b, 4, none⟩ = some (.int .i64 H) ∧
  W.cell? ⟨b, 5, none⟩ = some (.int .i64 T) ∧ W.cell? ⟨b, 6, none⟩ = some (.slice a n c) ∧ W.cell? ⟨b, 7, none⟩ = some (.slice a' n' c')
theorem BookAt.new (w : World) (F S J L H T : Int) (a : Option Addr) (n c : Nat) (a' : Option Addr) (n' c' : Nat) :
    BookAt (w.alloc (.cells #[.int .i64 F, .int .i64 S, .int .i64 J, .int .i64 L, .int .i64 H, .int .i64 T, .slice a n c, .slice a' n' c'] 44)) w.heap.size F S J L H T a n c a' n' c' := by
  unfold BookAt
  refine ⟨?_, ?_, ?_, ?_, ?_, ?_, ?_, ?_⟩ <;> simp [go_sem]
theorem BookAt.below {W W1 : World} {b : Nat} {F S J L H T : Int} {a : Option Addr} {n c : Nat} {a' : Option Addr} {n' c' : Nat} (h : BookAt W b F S J L H T a n c a' n' c') (hb : Below W.heap.size W W1) : BookAt W1 b F S J L H T a n c a' n' c' :=
  ⟨cell_below hb h.1, cell_below hb h.2.1, cell_below hb h.2.2.1, cell_below hb h.2.2.2.1, cell_below hb h.2.2.2.2.1, cell_below hb h.2.2.2.2.2.1, cell_below hb h.2.2.2.2.2.2.1, cell_below hb h.2.2.2.2.2.2.2⟩

/-- The world in which asked begins. -/
noncomputable def askW (F S J L H T : Int) (a : Option Addr) (n c : Nat) (a' : Option Addr) (n' c' : Nat) (w : World) : World :=
  (w.alloc (.cells #[.int .i64 F, .int .i64 S, .int .i64 J, .int .i64 L, .int .i64 H, .int .i64 T, .slice a n c, .slice a' n' c'] 44)).alloc (.cells Tryd.zeroCells96 96)
structure AskW (F S J L H T : Int) (a : Option Addr) (n c : Nat) (a' : Option Addr) (n' c' : Nat) (w W : World) : Prop where
  bel : Below w.heap.size w W
  size : W.heap.size = w.heap.size + 2
  book : BookAt W w.heap.size F S J L H T a n c a' n' c'
  res : At W (w.heap.size + 1) zeroF
theorem askW_is (F S J L H T : Int) (a : Option Addr) (n c : Nat) (a' : Option Addr) (n' c' : Nat) (w : World) : AskW F S J L H T a n c a' n' c' w (askW F S J L H T a n c a' n' c' w) := by
  unfold askW
  refine ⟨?_, by simp, ?_, ?_⟩
  · repeat with_reducible (first | exact Below.refl _ _ | refine Below.alloc ?_ (by simp <;> omega) _)
  · exact (BookAt.new w F S J L H T a n c a' n' c').below ((Below.refl _ _).alloc (Nat.le_refl _) _)
  · have h := At.new (w.alloc (.cells #[.int .i64 F, .int .i64 S, .int .i64 J, .int .i64 L, .int .i64 H, .int .i64 T, .slice a n c, .slice a' n' c'] 44))
    rw [World.size_alloc] at h
    exact h

set_option maxRecDepth 100000 in
set_option maxHeartbeats 1000000 in
theorem asked_bad (F S J L H T : Int) (a : Option Addr) (n c : Nat) (a' : Option Addr) (n' c' : Nat) (st : List Int) (lk : List Lk) (ok : Bool) (w : World) (hN : Nums w a n st) (hK : Looks w a' n' lk) (hb : checkB F S J L H T st lk = false) :
    Calls Tryd.prog 71 #[.agg #[.int .i64 F, .int .i64 S, .int .i64 J, .int .i64 L, .int .i64 H, .int .i64 T, .slice a n c, .slice a' n' c'], .bool ok] w fun e w' => e = .returned (.tuple #[.agg (encL zeroF).toArray, .int .i64 40]) ∧ Below w.heap.size w w' := by
  have hW := askW_is F S J L H T a n c a' n' c' w
  have hNa := hN.below hW.bel
  have hKa := hK.below hW.bel
  have hck := Check_any F S J L H T a n c a' n' c' st lk _ hNa hKa
  simp only [hb, if_true, Bool.false_eq_true, if_false] at hck
  go_enter Tryd.func71, Tryd.ntmps71
  go_wp2_with (fail)
  change Calls Tryd.prog 29 _ (askW F S J L H T a n c a' n' c' w) _
  generalize askW F S J L H T a n c a' n' c' w = W0 at *
  refine hck.mono ?_
  clear hck
  rintro e w1 ⟨rfl, hb1⟩
  have hsz := hW.size
  have hz1 := hb1.size
  have hres := hW.res.below hb1
  have hBk := hW.book.below hb1
  obtain ⟨hk0, hk1, hk2, hk3, hk4, hk5, hk6, hk7⟩ := hBk
  have hbw : Below w.heap.size w w1 := below_call hW.bel hb1
  have HRES := Lib.hid hres
  have HBW := Lib.hid hbw
  have HN := Lib.hid (hN.below hbw)
  have HK := Lib.hid (hK.below hbw)
  have hlv := loadVar_At (store_zero hres)
  have HLV : Shut ((loadVar 96 ⟨w.heap.size + 1, 0, none⟩).run Tryd.prog (w1.setCells (w.heap.size + 1) 0 Tryd.zeroCells96.toList) = .ok (.agg (encL zeroF).toArray) (w1.setCells (w.heap.size + 1) 0 Tryd.zeroCells96.toList)) := ⟨hlv⟩
  have HB6 : Shut (Below w.heap.size w (w1.setCells (w.heap.size + 1) 0 Tryd.zeroCells96.toList)) := ⟨below_setCells _ _ _ hbw (by omega)⟩
  clear hlv hres hbw hNa hKa hN hK hb hW hb1
  go_wp2_with (first | (refine wpList_store_mid rfl 96 _ _ rfl (w.heap.size + 1) 0 Tryd.zeroCells96 rfl rfl (zero_there HRES.out) zero_size (Array.all_eq_true'.2 fun v hv => zero_one v (Array.mem_toList_iff.2 hv)) ?_; generalize w1.setCells (w.heap.size + 1) 0 Tryd.zeroCells96.toList = W6 at *))
  have hlv := HLV.out
  refine bodyPost_ret (v := .tuple #[.agg (encL zeroF).toArray, .int .i64 40]) (by simp [results, Tryd.results71, Sem.run_bind, hlv, asAddr_is]) rfl ⟨rfl, HB6.out⟩

set_option maxRecDepth 100000 in
set_option maxHeartbeats 1000000 in
theorem asked_ask (F S J L H T : Int) (a : Option Addr) (n c : Nat) (a' : Option Addr) (n' c' : Nat) (st : List Int) (lk : List Lk) (w : World) (hN : Nums w a n st) (hK : Looks w a' n' lk) (hb : checkB F S J L H T st lk = true) :
    Calls Tryd.prog 71 #[.agg #[.int .i64 F, .int .i64 S, .int .i64 J, .int .i64 L, .int .i64 H, .int .i64 T, .slice a n c, .slice a' n' c'], .bool false] w fun e w' => e = .returned (.tuple #[.agg (encL zeroF).toArray, .int .i64 41]) ∧ Below w.heap.size w w' := by
  have hW := askW_is F S J L H T a n c a' n' c' w
  have hNa := hN.below hW.bel
  have hKa := hK.below hW.bel
  have hck := Check_any F S J L H T a n c a' n' c' st lk _ hNa hKa
  simp only [hb, if_true, Bool.false_eq_true, if_false] at hck
  go_enter Tryd.func71, Tryd.ntmps71
  go_wp2_with (fail)
  change Calls Tryd.prog 29 _ (askW F S J L H T a n c a' n' c' w) _
  generalize askW F S J L H T a n c a' n' c' w = W0 at *
  refine hck.mono ?_
  clear hck
  rintro e w1 ⟨rfl, hb1⟩
  have hsz := hW.size
  have hz1 := hb1.size
  have hres := hW.res.below hb1
  have hBk := hW.book.below hb1
  obtain ⟨hk0, hk1, hk2, hk3, hk4, hk5, hk6, hk7⟩ := hBk
  have hbw : Below w.heap.size w w1 := below_call hW.bel hb1
  have HRES := Lib.hid hres
  have HBW := Lib.hid hbw
  have HN := Lib.hid (hN.below hbw)
  have HK := Lib.hid (hK.below hbw)
  have hlv := loadVar_At (store_zero hres)
  have HLV : Shut ((loadVar 96 ⟨w.heap.size + 1, 0, none⟩).run Tryd.prog (w1.setCells (w.heap.size + 1) 0 Tryd.zeroCells96.toList) = .ok (.agg (encL zeroF).toArray) (w1.setCells (w.heap.size + 1) 0 Tryd.zeroCells96.toList)) := ⟨hlv⟩
  have HB6 : Shut (Below w.heap.size w (w1.setCells (w.heap.size + 1) 0 Tryd.zeroCells96.toList)) := ⟨below_setCells _ _ _ hbw (by omega)⟩
  clear hlv hres hbw hNa hKa hN hK hb hW hb1
  go_wp2_with (first | (refine wpList_store_mid rfl 96 _ _ rfl (w.heap.size + 1) 0 Tryd.zeroCells96 rfl rfl (zero_there HRES.out) zero_size (Array.all_eq_true'.2 fun v hv => zero_one v (Array.mem_toList_iff.2 hv)) ?_; generalize w1.setCells (w.heap.size + 1) 0 Tryd.zeroCells96.toList = W6 at *))
  have hlv := HLV.out
  refine bodyPost_ret (v := .tuple #[.agg (encL zeroF).toArray, .int .i64 41]) (by simp [results, Tryd.results71, Sem.run_bind, hlv, asAddr_is]) rfl ⟨rfl, HB6.out⟩

set_option maxRecDepth 100000 in
set_option maxHeartbeats 2000000 in
theorem asked_false (F S J L H : Int) (a : Option Addr) (n c : Nat) (a' : Option Addr) (n' c' : Nat) (st : List Int) (lk : List Lk) (t : Nat) (w : World) (hN : Nums w a n st) (hK : Looks w a' n' lk) (hb : checkB F S J L H t st lk = true) (hok : okF t (roundF st L H t (looksF lk)) = false) :
    Calls Tryd.prog 71 #[.agg #[.int .i64 F, .int .i64 S, .int .i64 J, .int .i64 L, .int .i64 H, .int .i64 t, .slice a n c, .slice a' n' c'], .bool true] w fun e w' => e = .returned (.tuple #[.agg (encL (zeroF)).toArray, .int .i64 42]) ∧ Below w.heap.size w w' := by
  have hb0 := hb
  obtain ⟨R, hR⟩ : ∃ R, R = roundF st L H t (looksF lk) := ⟨_, rfl⟩
  rw [← hR] at hok 
  have HR := Lib.hid hR
  clear hR
  have hW := askW_is F S J L H t a n c a' n' c' w
  have hNa := hN.below hW.bel
  have hKa := hK.below hW.bel
  have hck := Check_any F S J L H t a n c a' n' c' st lk _ hNa hKa
  simp only [hb, if_true, Bool.false_eq_true, if_false] at hck
  go_enter Tryd.func71, Tryd.ntmps71
  go_wp2_with (fail)
  change Calls Tryd.prog 29 _ (askW F S J L H t a n c a' n' c' w) _
  generalize askW F S J L H t a n c a' n' c' w = W0 at *
  refine hck.mono ?_
  clear hck
  rintro e w1 ⟨rfl, hb1⟩
  have hsz := hW.size
  have hz1 := hb1.size
  have hres := hW.res.below hb1
  have hBk := hW.book.below hb1
  obtain ⟨hk0, hk1, hk2, hk3, hk4, hk5, hk6, hk7⟩ := hBk
  have hbw : Below w.heap.size w w1 := below_call hW.bel hb1
  have HRES := Lib.hid hres
  have HBW := Lib.hid hbw
  have HN := Lib.hid (hN.below hbw)
  have HK := Lib.hid (hK.below hbw)
  have hlv := loadVar_At (store_zero hres)
  have HLV : Shut ((loadVar 96 ⟨w.heap.size + 1, 0, none⟩).run Tryd.prog (w1.setCells (w.heap.size + 1) 0 Tryd.zeroCells96.toList) = .ok (.agg (encL zeroF).toArray) (w1.setCells (w.heap.size + 1) 0 Tryd.zeroCells96.toList)) := ⟨hlv⟩
  have HB6 : Shut (Below w.heap.size w (w1.setCells (w.heap.size + 1) 0 Tryd.zeroCells96.toList)) := ⟨below_setCells _ _ _ hbw (by omega)⟩
  clear hlv hres hbw hNa hKa hN hK hb hW hb1
  have hbt := between_any F S J L H t a n c a' n' c' st lk w1 HN.out HK.out hb0
  rw [← HR.out, hok] at hbt
  clear hok
  clear hb0
  go_wp2_with fail
  refine hbt.mono ?_
  clear hbt
  rintro e w2 ⟨rfl, hb2⟩
  have hz2 := hb2.size
  have hres2 := HRES.out.below hb2
  have hbw2 := below_call HBW.out hb2
  have hnew := At.new w2
  have hNEW := Lib.hid hnew
  have hbn : Below w2.heap.size w2 ((w2.alloc (.cells Tryd.zeroCells96 96)).setCells w2.heap.size 0 (encL R).toArray.toList) := below_setCells _ _ _ ((Below.refl _ _).alloc (Nat.le_refl _) _) (Nat.le_refl _)
  have hr4 := hres2.below hbn
  have h74 : At ((w2.alloc (.cells Tryd.zeroCells96 96)).setCells w2.heap.size 0 (encL R).toArray.toList) w2.heap.size R := hnew.store R
  have hbw4 := below_call hbw2 hbn
  have hz4 := hbn.size
  have HR4 := Lib.hid hr4
  have H74 := Lib.hid h74
  have HBW4 := Lib.hid hbw4
  clear HLV HB6 HN HK hres2 hbw2 hnew hbn hr4 h74 hbw4 HBW HRES
  go_upto_region 7 with ((refine wpList_store_mid rfl 96 (Operand.tmp 7) (Operand.tmp 21) rfl w2.heap.size 0 (encL R).toArray rfl rfl (hNEW.out.there R) (size96a R) (all_oneCell_toArray (encL_one R)) ?_; generalize (w2.alloc (.cells Tryd.zeroCells96 96)).setCells w2.heap.size 0 (encL R).toArray.toList = W4 at *; have HLV : Shut ((loadVar 96 ⟨w.heap.size + 1, 0, none⟩).run Tryd.prog (W4.setCells (w.heap.size + 1) 0 Tryd.zeroCells96.toList) = .ok (.agg (encL zeroF).toArray) (W4.setCells (w.heap.size + 1) 0 Tryd.zeroCells96.toList)) := ⟨loadVar_At (store_zero HR4.out)⟩; have HB6 : Shut (Below w.heap.size w (W4.setCells (w.heap.size + 1) 0 Tryd.zeroCells96.toList)) := ⟨below_setCells _ _ _ HBW4.out (by omega)⟩))
  go_upto_region 8 with (fail)
  go_wp2_with (first | (refine wpList_store_mid rfl 96 (Operand.tmp 4) (Operand.tmp 25) rfl (w.heap.size + 1) 0 Tryd.zeroCells96 rfl rfl (zero_there HR4.out) zero_size (Array.all_eq_true'.2 fun v hv => zero_one v (Array.mem_toList_iff.2 hv)) ?_; generalize W4.setCells (w.heap.size + 1) 0 Tryd.zeroCells96.toList = W6 at *))
  have hlv := HLV.out
  refine bodyPost_ret (v := .tuple #[.agg (encL zeroF).toArray, .int .i64 42]) (by simp [results, Tryd.results71, Sem.run_bind, hlv, asAddr_is]) rfl ⟨rfl, HB6.out⟩

set_option maxRecDepth 100000 in
set_option maxHeartbeats 2000000 in
theorem asked_true (F S J L H : Int) (a : Option Addr) (n c : Nat) (a' : Option Addr) (n' c' : Nat) (st : List Int) (lk : List Lk) (t : Nat) (w : World) (hN : Nums w a n st) (hK : Looks w a' n' lk) (hb : checkB F S J L H t st lk = true) (hok : okF t (roundF st L H t (looksF lk)) = true) :
    Calls Tryd.prog 71 #[.agg #[.int .i64 F, .int .i64 S, .int .i64 J, .int .i64 L, .int .i64 H, .int .i64 t, .slice a n c, .slice a' n' c'], .bool true] w fun e w' => e = .returned (.tuple #[.agg (encL (roundF st L H t (looksF lk))).toArray, .int .i64 0]) ∧ Below w.heap.size w w' := by
  have hb0 := hb
  obtain ⟨R, hR⟩ : ∃ R, R = roundF st L H t (looksF lk) := ⟨_, rfl⟩
  rw [← hR] at hok ⊢
  have HR := Lib.hid hR
  clear hR
  have hW := askW_is F S J L H t a n c a' n' c' w
  have hNa := hN.below hW.bel
  have hKa := hK.below hW.bel
  have hck := Check_any F S J L H t a n c a' n' c' st lk _ hNa hKa
  simp only [hb, if_true, Bool.false_eq_true, if_false] at hck
  go_enter Tryd.func71, Tryd.ntmps71
  go_wp2_with (fail)
  change Calls Tryd.prog 29 _ (askW F S J L H t a n c a' n' c' w) _
  generalize askW F S J L H t a n c a' n' c' w = W0 at *
  refine hck.mono ?_
  clear hck
  rintro e w1 ⟨rfl, hb1⟩
  have hsz := hW.size
  have hz1 := hb1.size
  have hres := hW.res.below hb1
  have hBk := hW.book.below hb1
  obtain ⟨hk0, hk1, hk2, hk3, hk4, hk5, hk6, hk7⟩ := hBk
  have hbw : Below w.heap.size w w1 := below_call hW.bel hb1
  have HRES := Lib.hid hres
  have HBW := Lib.hid hbw
  have HN := Lib.hid (hN.below hbw)
  have HK := Lib.hid (hK.below hbw)
  have hlv := loadVar_At (store_zero hres)
  have HLV : Shut ((loadVar 96 ⟨w.heap.size + 1, 0, none⟩).run Tryd.prog (w1.setCells (w.heap.size + 1) 0 Tryd.zeroCells96.toList) = .ok (.agg (encL zeroF).toArray) (w1.setCells (w.heap.size + 1) 0 Tryd.zeroCells96.toList)) := ⟨hlv⟩
  have HB6 : Shut (Below w.heap.size w (w1.setCells (w.heap.size + 1) 0 Tryd.zeroCells96.toList)) := ⟨below_setCells _ _ _ hbw (by omega)⟩
  clear hlv hres hbw hNa hKa hN hK hb hW hb1
  have hbt := between_any F S J L H t a n c a' n' c' st lk w1 HN.out HK.out hb0
  rw [← HR.out, hok] at hbt
  clear hok
  clear hb0
  go_wp2_with fail
  refine hbt.mono ?_
  clear hbt
  rintro e w2 ⟨rfl, hb2⟩
  have hz2 := hb2.size
  have hres2 := HRES.out.below hb2
  have hbw2 := below_call HBW.out hb2
  have hnew := At.new w2
  have hNEW := Lib.hid hnew
  have hbn : Below w2.heap.size w2 ((w2.alloc (.cells Tryd.zeroCells96 96)).setCells w2.heap.size 0 (encL R).toArray.toList) := below_setCells _ _ _ ((Below.refl _ _).alloc (Nat.le_refl _) _) (Nat.le_refl _)
  have hr4 := hres2.below hbn
  have h74 : At ((w2.alloc (.cells Tryd.zeroCells96 96)).setCells w2.heap.size 0 (encL R).toArray.toList) w2.heap.size R := hnew.store R
  have hbw4 := below_call hbw2 hbn
  have hz4 := hbn.size
  have HR4 := Lib.hid hr4
  have H74 := Lib.hid h74
  have HBW4 := Lib.hid hbw4
  clear HLV HB6 HN HK hres2 hbw2 hnew hbn hr4 h74 hbw4 HBW HRES
  go_upto_region 7 with ((refine wpList_store_mid rfl 96 (Operand.tmp 7) (Operand.tmp 21) rfl w2.heap.size 0 (encL R).toArray rfl rfl (hNEW.out.there R) (size96a R) (all_oneCell_toArray (encL_one R)) ?_; generalize (w2.alloc (.cells Tryd.zeroCells96 96)).setCells w2.heap.size 0 (encL R).toArray.toList = W4 at *; have HLV : Shut ((loadVar 96 ⟨w.heap.size + 1, 0, none⟩).run Tryd.prog (W4.setCells (w.heap.size + 1) 0 (encL R).toArray.toList) = .ok (.agg (encL R).toArray) (W4.setCells (w.heap.size + 1) 0 (encL R).toArray.toList)) := ⟨loadVar_At (HR4.out.store R)⟩; have HB6 : Shut (Below w.heap.size w (W4.setCells (w.heap.size + 1) 0 (encL R).toArray.toList)) := ⟨below_setCells _ _ _ HBW4.out (by omega)⟩))
  go_upto_region 9 with (fail)
  go_wp2_with (first | (refine wpList_load_mid rfl 96 (Operand.tmp 7) rfl w2.heap.size 0 rfl (encL R) _ H74.out.1 Tryd.underlying96 rfl (size96 R) ?_) | (refine wpList_store_mid rfl 96 (Operand.tmp 4) (Operand.tmp 26) rfl (w.heap.size + 1) 0 (encL R).toArray rfl rfl (HR4.out.there R) (size96a R) (all_oneCell_toArray (encL_one R)) ?_; generalize W4.setCells (w.heap.size + 1) 0 (encL R).toArray.toList = W6 at *))
  have hlv := HLV.out
  refine bodyPost_ret (v := .tuple #[.agg (encL R).toArray, .int .i64 0]) (by simp [results, Tryd.results71, Sem.run_bind, hlv, asAddr_is]) rfl ⟨rfl, HB6.out⟩


end Go.Proofs.YtidnopmjhhmedaaDoor
end

section
/- What an offset is told as: Error, Stated, Worst. -/
set_option linter.unusedSimpArgs false
set_option linter.unusedVariables false
namespace Go.Proofs.YtidnopmjhhmedaaDoor
open Go.RowKit
attribute [local go_sem] Oper.semAt_some

/-- What is solved of a book. -/
def solF (F S J L H T : Int) (st : List Int) (lk : List Lk) : Nat → Sp := roundF st L H T.toNat (looksF lk)
/-- The error of a book that is asked. -/
def askE (F S J L H T : Int) (st : List Int) (lk : List Lk) (ok : Bool) : Int :=
  if checkB F S J L H T st lk = true then if ok = true then if okF T.toNat (solF F S J L H T st lk) = true then 0 else 42 else 41 else 40
theorem askE_ok {F S J L H T : Int} {st : List Int} {lk : List Lk} {ok : Bool} (h : askE F S J L H T st lk ok = 0) : checkB F S J L H T st lk = true ∧ ok = true ∧ okF T.toNat (solF F S J L H T st lk) = true := by
  unfold askE at h
  split at h
  · split at h
    · split at h
      · exact ⟨‹_›, ‹_›, ‹_›⟩
      · omega
    · omega
  · omega
theorem check_ticks {F S J L H T : Int} {st : List Int} {lk : List Lk} (h : checkB F S J L H T st lk = true) : 1 ≤ T ∧ T ≤ 60 := by
  simp only [checkB, Bool.and_eq_true, decide_eq_true_eq, lies_iff] at h
  omega

theorem asked_is (F S J L H T : Int) (a : Option Addr) (n c : Nat) (a' : Option Addr) (n' c' : Nat) (st : List Int) (lk : List Lk) (ok : Bool) (E : Int) (G : Nat → Sp) (hE : E = askE F S J L H T st lk ok) (hG : G = if E = 0 then solF F S J L H T st lk else zeroF) (w : World) (hN : Nums w a n st) (hK : Looks w a' n' lk) :
    Calls Tryd.prog 71 #[.agg #[.int .i64 F, .int .i64 S, .int .i64 J, .int .i64 L, .int .i64 H, .int .i64 T, .slice a n c, .slice a' n' c'], .bool ok] w fun e w' => e = .returned (.tuple #[.agg (encL G).toArray, .int .i64 E]) ∧ Below w.heap.size w w' := by
  cases hb : checkB F S J L H T st lk
  · obtain rfl : E = 40 := by rw [hE, askE, hb]; rfl
    obtain rfl : G = zeroF := by rw [hG]; rfl
    exact asked_bad F S J L H T a n c a' n' c' st lk ok w hN hK hb
  · cases ok
    · obtain rfl : E = 41 := by rw [hE, askE, hb]; rfl
      obtain rfl : G = zeroF := by rw [hG]; rfl
      exact asked_ask F S J L H T a n c a' n' c' st lk w hN hK hb
    · have hT := check_ticks hb
      obtain ⟨t, rfl⟩ : ∃ t : Nat, T = t := ⟨T.toNat, by omega⟩
      cases hok : okF t (roundF st L H t (looksF lk))
      · obtain rfl : E = 42 := by rw [hE, askE, hb]; simp only [if_true, solF, Int.toNat_natCast, hok, Bool.false_eq_true, if_false]
        obtain rfl : G = zeroF := by rw [hG]; rfl
        exact asked_false F S J L H a n c a' n' c' st lk t w hN hK hb hok
      · obtain rfl : E = 0 := by rw [hE, askE, hb]; simp only [if_true, solF, Int.toNat_natCast, hok]
        obtain rfl : G = roundF st L H t (looksF lk) := by rw [hG]; simp only [if_true, solF, Int.toNat_natCast]
        exact asked_true F S J L H a n c a' n' c' st lk t w hN hK hb hok

theorem stored {w : World} {b : Nat} {f : Nat → Sp} (h : At w b f) (g : Nat → Sp) : ∃ W, (storeCells ⟨b, 0, none⟩ (encL g)).run Tryd.prog w = .ok () W ∧ At W b g ∧ (∀ n, n ≤ b → Below n w W) ∧ W.heap.size = w.heap.size :=
  ⟨_, storeCells_At h g, by have := h.store g; simpa using this, fun n hn => below_setCells _ _ _ (Below.refl _ _) hn, size_setCells _ _ _⟩
theorem bcellN {n : Nat} {W w1 : World} (hb : Below n W w1) : (∀ b o, b < n → w1.cell? ⟨b, o, none⟩ = W.cell? ⟨b, o, none⟩) ∧ (∀ b o, b < n → w1.frozen? ⟨b, o, none⟩ = W.frozen? ⟨b, o, none⟩) :=
  ⟨fun b o h => hb.cell (p := ⟨b, o, none⟩) h, fun b o h => hb.frozen (p := ⟨b, o, none⟩) h⟩
theorem far_cells (W : World) (b : Nat) (g : Nat → Sp) : (∀ b' o, b' < b → (W.setCells b 0 (encL g)).cell? ⟨b', o, none⟩ = W.cell? ⟨b', o, none⟩) ∧ (∀ b' o, b' < b → (W.setCells b 0 (encL g)).frozen? ⟨b', o, none⟩ = W.frozen? ⟨b', o, none⟩) :=
  bcellN (below_setCells (encL g) 0 W (Below.refl b W) (Nat.le_refl b))
theorem At.drew {w : World} {b : Nat} {f : Nat → Sp} (h : At w b f) : At w.drew b f := h.below ((Below.refl _ _).drew)
theorem there_enc {W : World} {b : Nat} {f : Nat → Sp} (h : At W b f) (g : Nat → Sp) : W.there b 0 (encL g).length := by rw [encL_length]; exact h.2
theorem bookAt_held {W W1 : World} {b : Nat} {F S J L H T : Int} {a : Option Addr} {n c : Nat} {a' : Option Addr} {n' c' : Nat} (h : BookAt W b F S J L H T a n c a' n' c') (hb : Below W.heap.size W W1) : BookAt W1 b F S J L H T a n c a' n' c' := h.below hb
/-- The world in which Error begins. -/
noncomputable def errW0 (F S J L H T : Int) (a : Option Addr) (n c : Nat) (a' : Option Addr) (n' c' : Nat) (w : World) : World :=
  (w.alloc (.cells #[.int .i64 F, .int .i64 S, .int .i64 J, .int .i64 L, .int .i64 H, .int .i64 T, .slice a n c, .slice a' n' c'] 44)).alloc (.cells #[.int .i64 0, .int .i64 0] 23)
structure ErrW (F S J L H T : Int) (a : Option Addr) (n c : Nat) (a' : Option Addr) (n' c' : Nat) (w W : World) : Prop where
  bel : Below w.heap.size w W
  size : W.heap.size = w.heap.size + 2
  book : BookAt W w.heap.size F S J L H T a n c a' n' c'
  r0 : W.cell? ⟨w.heap.size + 1, 0, none⟩ = some (.int .i64 0)
  r1 : W.cell? ⟨w.heap.size + 1, 1, none⟩ = some (.int .i64 0)
  f0 : W.frozen? ⟨w.heap.size + 1, 0, none⟩ = false
  f1 : W.frozen? ⟨w.heap.size + 1, 1, none⟩ = false
theorem errW_is (F S J L H T : Int) (a : Option Addr) (n c : Nat) (a' : Option Addr) (n' c' : Nat) (w : World) : ErrW F S J L H T a n c a' n' c' w (errW0 F S J L H T a n c a' n' c' w) := by
  unfold errW0
  refine ⟨?_, by simp, ?_, by simp [go_sem], by simp [go_sem], by simp [go_sem], by simp [go_sem]⟩
  · repeat with_reducible (first | exact Below.refl _ _ | refine Below.alloc ?_ (by simp <;> omega) _)
  · exact (BookAt.new w F S J L H T a n c a' n' c').below ((Below.refl _ _).alloc (Nat.le_refl _) _)
set_option maxRecDepth 100000 in
set_option maxHeartbeats 2000000 in
theorem Error_bad (F S J L H T tick : Int) (a : Option Addr) (n c : Nat) (a' : Option Addr) (n' c' : Nat) (st : List Int) (lk : List Lk) (E : Int) (hE : E = askE F S J L H T st lk (lies tick 0 T)) (hE0 : (E == 0) = false) (w : World) (hN : Nums w a n st) (hK : Looks w a' n' lk) :
    Calls Tryd.prog 27 #[.agg #[.int .i64 F, .int .i64 S, .int .i64 J, .int .i64 L, .int .i64 H, .int .i64 T, .slice a n c, .slice a' n' c'], .int .i64 tick] w fun e w' => e = .returned (.tuple #[.agg #[.int .i64 0, .int .i64 0], .int .i64 E]) ∧ Below w.heap.size w w' := by
  obtain ⟨G, hG⟩ : ∃ G, G = if E = 0 then solF F S J L H T st lk else zeroF := ⟨_, rfl⟩
  have hask := fun W h1 h2 => asked_is F S J L H T a n c a' n' c' st lk (lies tick 0 T) E G hE hG W h1 h2
  have hW := errW_is F S J L H T a n c a' n' c' w
  have hN0 := hN.below hW.bel
  have hK0 := hK.below hW.bel
  clear hE hG hN hK
  have hE1 : (E != 0) = true := by simpa using hE0
  go_enter Tryd.func27, Tryd.ntmps27
  go_wp2_with fail
  change Code.wp Tryd.prog _ _ _ (errW0 F S J L H T a n c a' n' c' w)
  generalize errW0 F S J L H T a n c a' n' c' w = W0 at *
  have hsz := hW.size
  obtain ⟨hk0, hk1, hk2, hk3, hk4, hk5, hk6, hk7⟩ := hW.book
  have hr0 := hW.r0
  have hr1 := hW.r1
  have hf0 := hW.f0
  have hf1 := hW.f1
  have HN := Lib.hid hN0
  have HK := Lib.hid hK0
  have HB := Lib.hid hW.bel
  clear hW hN0 hK0
  have hone := encL_one G
  have hsize := size96 G
  go_region_held3 (fun W : World => W.cell? ⟨w.heap.size, 0, none⟩ = some (.int .i64 F) ∧ W.cell? ⟨w.heap.size, 1, none⟩ = some (.int .i64 S) ∧ W.cell? ⟨w.heap.size, 2, none⟩ = some (.int .i64 J) ∧ W.cell? ⟨w.heap.size, 3, none⟩ = some (.int .i64 L) ∧ W.cell? ⟨w.heap.size, 4, none⟩ = some (.int .i64 H) ∧ W.cell? ⟨w.heap.size, 5, none⟩ = some (.int .i64 T) ∧ W.cell? ⟨w.heap.size, 6, none⟩ = some (.slice a n c) ∧ W.cell? ⟨w.heap.size, 7, none⟩ = some (.slice a' n' c')) (first | with_reducible exact bookAt_held (by assumption) (by assumption) | (simp [go_sem, *]; done))
    (first | (go_at_call 57; refine (lies_any _ _ _ _).mono ?_; rintro e w' ⟨rfl, rfl⟩) | (go_at_call 71; refine (hask _ (HN.out.below (by repeat with_reducible (first | exact Below.refl _ _ | refine Below.drew ?_ | refine Below.alloc ?_ (Nat.le_refl _) _))) (HK.out.below (by repeat with_reducible (first | exact Below.refl _ _ | refine Below.drew ?_ | refine Below.alloc ?_ (Nat.le_refl _) _)))).mono ?_; rintro e w2 ⟨rfl, hb2⟩; have hz2 := hb2.size; simp at hz2; have hz3 : w.heap.size + 1 < w2.heap.size := (by omega); have hz4 : w.heap.size < w2.heap.size := (by omega); have hbW := below_call (w := W0) (by repeat with_reducible (first | exact Below.refl _ _ | refine Below.drew ?_ | refine Below.alloc ?_ (Nat.le_refl _) _)) hb2; have hq0 := cell_below hbW hr0; have hq1 := cell_below hbW hr1; have hg0 := (hbW.frozen (p := ⟨w.heap.size + 1, 0, none⟩) (by show w.heap.size + 1 < _; omega)).trans hf0; have hg1 := (hbW.frozen (p := ⟨w.heap.size + 1, 1, none⟩) (by show w.heap.size + 1 < _; omega)).trans hf1; have HBF := Lib.hid (HB.out.trans (hbW.mono (by omega)) : Below w.heap.size w w2); clear hbW; (first | (have hA0 := (At.new _).drew.below hb2; have hA : At w2 (w.heap.size + 2) zeroF := (by rw [← hsz]; exact hA0); clear hA0; have hth := there_enc hA G; have hfar := (far_cells w2 (w.heap.size + 2) G); have HA := Lib.hid hA; clear hA) | (have hA := At.new w2; have hth := there_enc hA G; have hfar := far_cells (w2.alloc (.cells Tryd.zeroCells96 96)) w2.heap.size G; have HA := Lib.hid hA; clear hA))))
  all_goals
    go_wp2_with fail
    refine bodyPost_ret (v := .tuple #[.agg #[.int .i64 0, .int .i64 0], .int .i64 E]) (by simp [results, Tryd.results27, go_sem, *]) rfl ⟨rfl, ?_⟩
    have hbf := ‹Hid (Below w.heap.size w _)›.out
    repeat (refine Below.setCell ?_ (by show w.heap.size ≤ w.heap.size + 1; omega) _)
    first
    | exact below_setCells _ _ _ hbf (by omega)
    | exact below_setCells _ _ _ (hbf.alloc (by omega) _) (by omega)
set_option maxRecDepth 100000 in
set_option maxHeartbeats 2000000 in
theorem Error_ok (F S J L H T tick : Int) (a : Option Addr) (n c : Nat) (a' : Option Addr) (n' c' : Nat) (st : List Int) (lk : List Lk) (hE : askE F S J L H T st lk (lies tick 0 T) = 0) (w : World) (hN : Nums w a n st) (hK : Looks w a' n' lk) :
    Calls Tryd.prog 27 #[.agg #[.int .i64 F, .int .i64 S, .int .i64 J, .int .i64 L, .int .i64 H, .int .i64 T, .slice a n c, .slice a' n' c'], .int .i64 tick] w fun e w' => e = .returned (.tuple #[.agg #[.int .i64 (solF F S J L H T st lk tick.toNat).lo, .int .i64 (solF F S J L H T st lk tick.toNat).hi], .int .i64 0]) ∧ Below w.heap.size w w' := by
  obtain ⟨hch, hli, _⟩ := askE_ok hE
  have hT := check_ticks hch
  rw [lies_iff] at hli
  obtain ⟨G, hG⟩ : ∃ G, G = solF F S J L H T st lk := ⟨_, rfl⟩
  rw [← hG]
  have hask := fun W h1 h2 => asked_is F S J L H T a n c a' n' c' st lk (lies tick 0 T) 0 G hE.symm (by rw [hG]; rfl) W h1 h2
  have hW := errW_is F S J L H T a n c a' n' c' w
  have hN0 := hN.below hW.bel
  have hK0 := hK.below hW.bel
  clear hE hG hN hK
  obtain ⟨k, rfl⟩ : ∃ k : Nat, tick = k := ⟨tick.toNat, by omega⟩
  have hk61 : k < 61 := by omega
  have hk0 : (0 : Int) ≤ (k : Int) := by omega
  have hk1 : (k : Int) < 61 := by omega
  rw [Int.toNat_natCast]
  obtain ⟨p0, hp0⟩ : ∃ p0, p0 = (G k).lo := ⟨_, rfl⟩
  obtain ⟨p1, hp1⟩ : ∃ p1, p1 = (G k).hi := ⟨_, rfl⟩
  rw [← hp0, ← hp1]
  have HP0 := Lib.hid hp0
  have HP1 := Lib.hid hp1
  clear hp0 hp1 hch hli hT
  go_enter Tryd.func27, Tryd.ntmps27
  go_wp2_with fail
  change Code.wp Tryd.prog _ _ _ (errW0 F S J L H T a n c a' n' c' w)
  generalize errW0 F S J L H T a n c a' n' c' w = W0 at *
  have hsz := hW.size
  obtain ⟨hb0, hb1, hb22, hb3, hb4, hb5, hb6, hb7⟩ := hW.book
  have hr0 := hW.r0
  have hr1 := hW.r1
  have hf0 := hW.f0
  have hf1 := hW.f1
  have HN := Lib.hid hN0
  have HK := Lib.hid hK0
  have HB := Lib.hid hW.bel
  clear hW hN0 hK0
  have hone := encL_one G
  have hsize := size96 G
  go_region_held3 (fun W : World => W.cell? ⟨w.heap.size, 0, none⟩ = some (.int .i64 F) ∧ W.cell? ⟨w.heap.size, 1, none⟩ = some (.int .i64 S) ∧ W.cell? ⟨w.heap.size, 2, none⟩ = some (.int .i64 J) ∧ W.cell? ⟨w.heap.size, 3, none⟩ = some (.int .i64 L) ∧ W.cell? ⟨w.heap.size, 4, none⟩ = some (.int .i64 H) ∧ W.cell? ⟨w.heap.size, 5, none⟩ = some (.int .i64 T) ∧ W.cell? ⟨w.heap.size, 6, none⟩ = some (.slice a n c) ∧ W.cell? ⟨w.heap.size, 7, none⟩ = some (.slice a' n' c')) (first | with_reducible exact bookAt_held (by assumption) (by assumption) | (simp [go_sem, *]; done))
    (first | (go_at_call 57; refine (lies_any _ _ _ _).mono ?_; rintro e w' ⟨rfl, rfl⟩) | (go_at_call 71; refine (hask _ (HN.out.below (by repeat with_reducible (first | exact Below.refl _ _ | refine Below.drew ?_ | refine Below.alloc ?_ (Nat.le_refl _) _))) (HK.out.below (by repeat with_reducible (first | exact Below.refl _ _ | refine Below.drew ?_ | refine Below.alloc ?_ (Nat.le_refl _) _)))).mono ?_; rintro e w2 ⟨rfl, hb2⟩; have hz2 := hb2.size; simp at hz2; have hz3 : w.heap.size + 1 < w2.heap.size := (by omega); have hz4 : w.heap.size < w2.heap.size := (by omega); have hbW := below_call (w := W0) (by repeat with_reducible (first | exact Below.refl _ _ | refine Below.drew ?_ | refine Below.alloc ?_ (Nat.le_refl _) _)) hb2; have hq0 := cell_below hbW hr0; have hq1 := cell_below hbW hr1; have hg0 := (hbW.frozen (p := ⟨w.heap.size + 1, 0, none⟩) (by show w.heap.size + 1 < _; omega)).trans hf0; have hg1 := (hbW.frozen (p := ⟨w.heap.size + 1, 1, none⟩) (by show w.heap.size + 1 < _; omega)).trans hf1; have HBF := Lib.hid (HB.out.trans (hbW.mono (by omega)) : Below w.heap.size w w2); clear hbW; (first | (have hA0 := (At.new _).drew.below hb2; have hA : At w2 (w.heap.size + 2) zeroF := (by rw [← hsz]; exact hA0); clear hA0; have hth := there_enc hA G; have hfar := (far_cells w2 (w.heap.size + 2) G); have hl0 := (hA.store G).lo k hk61; have hl1 := (hA.store G).hi k hk61; rw [← HP0.out] at hl0; rw [← HP1.out] at hl1; have HL0 := Shut.mk hl0; have HL1 := Shut.mk hl1; clear hA hl0 hl1) | (have hA := At.new w2; have hth := there_enc hA G; have hfar := far_cells (w2.alloc (.cells Tryd.zeroCells96 96)) w2.heap.size G; have hl0 := (hA.store G).lo k hk61; have hl1 := (hA.store G).hi k hk61; rw [← HP0.out] at hl0; rw [← HP1.out] at hl1; have HL0 := Shut.mk hl0; have HL1 := Shut.mk hl1; clear hA hl0 hl1))))
  all_goals
    go_upto_region 4 with (fail)
    have hl0 := (‹Shut (_ = some (Value.int .i64 p0))›).out
    have hl1 := (‹Shut (_ = some (Value.int .i64 p1))›).out
    go_wp2_with fail
    refine bodyPost_ret (v := .tuple #[.agg #[.int .i64 p0, .int .i64 p1], .int .i64 0]) (by simp [results, Tryd.results27, go_sem, *]) rfl ⟨rfl, ?_⟩
    have hbf := ‹Hid (Below w.heap.size w _)›.out
    repeat (refine Below.setCell ?_ (by show w.heap.size ≤ w.heap.size + 1; omega) _)
    first
    | exact below_setCells _ _ _ hbf (by omega)
    | exact below_setCells _ _ _ (hbf.alloc (by omega) _) (by omega)

end Go.Proofs.YtidnopmjhhmedaaDoor
end

section
/- By how much the scale is off at most: Stated, Worst. -/
set_option linter.unusedSimpArgs false
set_option linter.unusedVariables false
namespace Go.Proofs.YtidnopmjhhmedaaDoor
open Go.RowKit
attribute [local go_sem] Oper.semAt_some

theorem rule_of_check {F S J L H T : Int} {st : List Int} {lk : List Lk} (h : checkB F S J L H T st lk = true) : isRuleB F S J L H = true := by
  simp only [checkB, Bool.and_eq_true] at h
  exact h.1.1.1.1.1
theorem stAt_bd {F S J L H T : Int} {st : List Int} {lk : List Lk} (h : checkB F S J L H T st lk = true) : ∀ k, -500 ≤ stAt st k ∧ stAt st k ≤ 500 := by
  have hr := isRuleB_spec (rule_of_check h)
  simp only [checkB, Bool.and_eq_true, decide_eq_true_eq, lies_iff] at h
  obtain ⟨⟨⟨⟨⟨_, _⟩, _⟩, hkeep⟩, _⟩, _⟩ := h
  intro k
  unfold stAt
  rcases Nat.lt_or_ge k st.length with h1 | h1
  · have := keepsB_mem F S J st 0 hkeep st[k] (List.getElem_mem h1)
    simp only [List.getElem?_eq_getElem h1, Option.getD_some]
    omega
  · rw [List.getElem?_eq_none h1]; simp
theorem solF_bd {F S J L H T : Int} {st : List Int} {lk : List Lk} (h : checkB F S J L H T st lk = true) : Bnd 92000 (solF F S J L H T st lk) := by
  have hr := isRuleB_spec (rule_of_check h)
  have hT := check_ticks h
  have hs := stAt_bd h
  simp only [checkB, Bool.and_eq_true, decide_eq_true_eq, lies_iff] at h
  have hl := h.2
  obtain ⟨t, rfl⟩ : ∃ t : Nat, T = t := ⟨T.toNat, by omega⟩
  rw [solF, Int.toNat_natCast]
  exact (roundF_bnd hs hr.2.2.2 (by omega) t (by omega) (looksF_bnd t lk hl)).mono (by omega)

set_option maxRecDepth 100000 in
set_option maxHeartbeats 2000000 in
theorem Stated_bad (F S J L H T tick : Int) (a : Option Addr) (n c : Nat) (a' : Option Addr) (n' c' : Nat) (st : List Int) (lk : List Lk) (E : Int) (hE : E = askE F S J L H T st lk (lies tick 0 T)) (hE0 : (E == 0) = false) (w : World) (hN : Nums w a n st) (hK : Looks w a' n' lk) :
    Calls Tryd.prog 31 #[.agg #[.int .i64 F, .int .i64 S, .int .i64 J, .int .i64 L, .int .i64 H, .int .i64 T, .slice a n c, .slice a' n' c'], .int .i64 tick] w fun e w' => e = .returned (.tuple #[.int .i64 0, .int .i64 E]) ∧ Below w.heap.size w w' := by
  have her := Error_bad F S J L H T tick a n c a' n' c' st lk E hE hE0 _ (hN.alloc1 (.cells #[.int .i64 F, .int .i64 S, .int .i64 J, .int .i64 L, .int .i64 H, .int .i64 T, .slice a n c, .slice a' n' c'] 44)) (hK.alloc1 _)
  have hE1 : (E != 0) = true := by simpa using hE0
  clear hE hN hK
  go_enter Tryd.func31, Tryd.ntmps31
  go_wp2_with (first | (go_at_call 27; refine her.mono ?_; rintro e w1 ⟨rfl, hb⟩; have hz := hb.size; simp at hz; have hz0 : w.heap.size < w1.heap.size := (by omega)))
  go_ret2
  refine ⟨rfl, ?_⟩
  repeat (refine Below.setCell ?_ (by first | omega | (simp <;> omega)) _)
  exact (((Below.refl _ _).alloc (Nat.le_refl _) _).trans (hb.mono (by simp))).alloc (by omega) _

set_option maxRecDepth 100000 in
set_option maxHeartbeats 2000000 in
theorem Stated_ok (F S J L H T tick : Int) (a : Option Addr) (n c : Nat) (a' : Option Addr) (n' c' : Nat) (st : List Int) (lk : List Lk) (hE : askE F S J L H T st lk (lies tick 0 T) = 0) (w : World) (hN : Nums w a n st) (hK : Looks w a' n' lk) :
    Calls Tryd.prog 31 #[.agg #[.int .i64 F, .int .i64 S, .int .i64 J, .int .i64 L, .int .i64 H, .int .i64 T, .slice a n c, .slice a' n' c'], .int .i64 tick] w fun e w' => e = .returned (.tuple #[.int .i64 (max (-(solF F S J L H T st lk tick.toNat).lo) (solF F S J L H T st lk tick.toNat).hi), .int .i64 0]) ∧ Below w.heap.size w w' := by
  have her := Error_ok F S J L H T tick a n c a' n' c' st lk hE _ (hN.alloc1 (.cells #[.int .i64 F, .int .i64 S, .int .i64 J, .int .i64 L, .int .i64 H, .int .i64 T, .slice a n c, .slice a' n' c'] 44)) (hK.alloc1 _)
  have hbd := solF_bd (askE_ok hE).1 tick.toNat
  generalize (solF F S J L H T st lk tick.toNat).lo = p0 at *
  generalize (solF F S J L H T st lk tick.toNat).hi = p1 at *
  clear hE hN hK
  have hp0 : -1000000 ≤ p0 := by omega
  have hp1 : p0 ≤ 1000000 := by omega
  clear hbd
  go_enter Tryd.func31, Tryd.ntmps31
  go_wp2_with (first | (go_at_call 27; refine her.mono ?_; rintro e w1 ⟨rfl, hb⟩; have hz := hb.size; simp at hz; have hz0 : w.heap.size < w1.heap.size := (by omega)) | (go_at_call 74; refine (stated_any _ _ _ hp0 hp1).mono ?_; rintro e w2 ⟨rfl, hb2⟩))
  go_ret2
  refine ⟨rfl, ?_⟩
  refine below_call ?_ hb2
  repeat (refine Below.setCell ?_ (by first | omega | (simp <;> omega)) _)
  exact (((Below.refl _ _).alloc (Nat.le_refl _) _).trans (hb.mono (by simp))).alloc (by omega) _

def statedS (s : Sp) : Int := max (-s.lo) s.hi
/-- The worst of the first so many ticks, and how bad. -/
def worstTo (f : Nat → Sp) : Nat → Int × Int
  | 0 => (0, 0)
  | k + 1 => if k = 0 ∨ (worstTo f k).2 < statedS (f k) then (k, statedS (f k)) else worstTo f k
theorem worstTo_bd {f : Nat → Sp} {B : Int} (h : Bnd B f) (h0 : 0 ≤ B) : ∀ k, -B ≤ (worstTo f k).2 ∧ (worstTo f k).2 ≤ B
  | 0 => by simp [worstTo]; omega
  | k + 1 => by
    have := worstTo_bd h h0 k
    have h2 := h k
    simp only [worstTo]
    split
    · simp only [statedS]; omega
    · exact this

set_option maxRecDepth 100000 in
set_option maxHeartbeats 2000000 in
theorem Worst_bad (F S J L H T : Int) (a : Option Addr) (n c : Nat) (a' : Option Addr) (n' c' : Nat) (st : List Int) (lk : List Lk) (E : Int) (hE : E = askE F S J L H T st lk true) (hE0 : (E == 0) = false) (w : World) (hN : Nums w a n st) (hK : Looks w a' n' lk) :
    Calls Tryd.prog 33 #[.agg #[.int .i64 F, .int .i64 S, .int .i64 J, .int .i64 L, .int .i64 H, .int .i64 T, .slice a n c, .slice a' n' c']] w fun e w' => e = .returned (.tuple #[.int .i64 0, .int .i64 0, .int .i64 E]) ∧ Below w.heap.size w w' := by
  obtain ⟨G, hG⟩ : ∃ G, G = if E = 0 then solF F S J L H T st lk else zeroF := ⟨_, rfl⟩
  have her := asked_is F S J L H T a n c a' n' c' st lk true E G hE hG _ (hN.alloc1 (.cells #[.int .i64 F, .int .i64 S, .int .i64 J, .int .i64 L, .int .i64 H, .int .i64 T, .slice a n c, .slice a' n' c'] 44)) (hK.alloc1 _)
  have hE1 : (E != 0) = true := by simpa using hE0
  clear hE hG hN hK
  go_enter Tryd.func33, Tryd.ntmps33
  go_wp2_with fail
  refine her.mono ?_
  clear her
  rintro e w2 ⟨rfl, hb⟩
  have hz := hb.size
  simp at hz
  have HNEW := Lib.hid (At.new w2)
  have HB : Shut (Below w.heap.size w ((w2.alloc (.cells Tryd.zeroCells96 96)).setCells w2.heap.size 0 (encL G).toArray.toList)) := ⟨below_setCells _ _ _ ((((Below.refl _ _).alloc (Nat.le_refl _) _).trans (hb.mono (by simp))).alloc (by omega) _) (by omega)⟩
  go_upto_region 2 with ((refine wpList_store_mid rfl 96 (Operand.tmp 5) (Operand.tmp 11) rfl w2.heap.size 0 (encL G).toArray rfl rfl (HNEW.out.there G) (size96a G) (all_oneCell_toArray (encL_one G)) ?_; generalize (w2.alloc (.cells Tryd.zeroCells96 96)).setCells w2.heap.size 0 (encL G).toArray.toList = W6 at *))
  go_wp2_with fail
  go_ret3
  exact ⟨rfl, HB.out⟩

set_option maxRecDepth 100000 in
set_option maxHeartbeats 4000000 in
theorem Worst_ok (F S J L H T : Int) (a : Option Addr) (n c : Nat) (a' : Option Addr) (n' c' : Nat) (st : List Int) (lk : List Lk) (t : Nat) (ht : T = t) (hE : askE F S J L H T st lk true = 0) (w : World) (hN : Nums w a n st) (hK : Looks w a' n' lk) :
    Calls Tryd.prog 33 #[.agg #[.int .i64 F, .int .i64 S, .int .i64 J, .int .i64 L, .int .i64 H, .int .i64 T, .slice a n c, .slice a' n' c']] w fun e w' => e = .returned (.tuple #[.int .i64 (worstTo (solF F S J L H T st lk) (t + 1)).1, .int .i64 (worstTo (solF F S J L H T st lk) (t + 1)).2, .int .i64 0]) ∧ Below w.heap.size w w' := by
  have hT := check_ticks (askE_ok hE).1
  have hbd := solF_bd (askE_ok hE).1
  obtain ⟨G, hG⟩ : ∃ G, G = solF F S J L H T st lk := ⟨_, rfl⟩
  have her := asked_is F S J L H T a n c a' n' c' st lk true 0 G hE.symm (by rw [hG]; rfl) _ (hN.alloc1 (.cells #[.int .i64 F, .int .i64 S, .int .i64 J, .int .i64 L, .int .i64 H, .int .i64 T, .slice a n c, .slice a' n' c'] 44)) (hK.alloc1 _)
  rw [← hG] at hbd ⊢
  subst ht
  have HWB := Lib.hid (worstTo_bd hbd (by omega))
  have HBD := Lib.hid hbd
  clear hE hG hN hK hbd
  go_enter Tryd.func33, Tryd.ntmps33
  go_wp2_with fail
  refine her.mono ?_
  clear her
  rintro e w2 ⟨rfl, hb⟩
  have hz := hb.size
  simp at hz
  have HNEW := Lib.hid (At.new w2)
  have hB0 : Below w.heap.size w ((w2.alloc (.cells Tryd.zeroCells96 96)).setCells w2.heap.size 0 (encL G).toArray.toList) := below_setCells _ _ _ ((((Below.refl _ _).alloc (Nat.le_refl _) _).trans (hb.mono (by simp))).alloc (by omega) _) (by omega)
  have HB := Shut.mk hB0
  have HA : Shut (At ((w2.alloc (.cells Tryd.zeroCells96 96)).setCells w2.heap.size 0 (encL G).toArray.toList) w2.heap.size G) := ⟨(At.new w2).store G⟩
  have HT : Shut (((w2.alloc (.cells Tryd.zeroCells96 96)).setCells w2.heap.size 0 (encL G).toArray.toList).cell? ⟨w.heap.size, 5, none⟩ = some (.int .i64 t)) := by
    refine ⟨?_⟩
    have h1 := (bcellN (below_setCells (encL G) 0 (w2.alloc (.cells Tryd.zeroCells96 96)) (Below.refl w2.heap.size _) (Nat.le_refl _))).1 w.heap.size 5 (by omega)
    simp only [List.toList_toArray] at h1 ⊢
    rw [h1]
    exact cell_below ((Below.refl _ _).alloc (Nat.le_refl _) _) (cell_below hb (by simp [go_sem]))
  clear hB0
  go_upto_region 2 with ((refine wpList_store_mid rfl 96 (Operand.tmp 5) (Operand.tmp 11) rfl w2.heap.size 0 (encL G).toArray rfl rfl (HNEW.out.there G) (size96a G) (all_oneCell_toArray (encL_one G)) ?_; generalize (w2.alloc (.cells Tryd.zeroCells96 96)).setCells w2.heap.size 0 (encL G).toArray.toList = W6 at *))
  have hct := HT.out
  go_wp2_with fail
  go_loopw [2, 3, 6, 7, 19] (fun p q _ _ i wx => ∃ k : Nat, k ≤ t + 1 ∧ i = .int .i64 k ∧ p = .int .i64 (worstTo G k).1 ∧ q = .int .i64 (worstTo G k).2 ∧ At wx w2.heap.size G ∧ Below w.heap.size w wx) (fun _ _ _ _ i _ => t + 1 - (intOf i).toNat)
  case atStart => exact ⟨0, Nat.zero_le _, rfl, rfl, rfl, HA.out, HB.out⟩
  case round =>
    obtain ⟨k, hk, rfl, rfl, rfl, hat, hbx⟩ := hrel
    by_cases hlt : k < t + 1
    · have hc1 := hat.lo k (by omega)
      have hc2 := hat.hi k (by omega)
      have hbk := HBD.out k
      have hwk := HWB.out k
      have HS : Hid (worstTo G (k + 1) = if k = 0 ∨ (worstTo G k).2 < statedS (G k) then ((k : Int), statedS (G k)) else worstTo G k) := Lib.hid rfl
      have hsk : statedS (G k) = max (-(G k).lo) (G k).hi := rfl
      obtain ⟨r1, hr1⟩ : ∃ r1, r1 = worstTo G (k + 1) := ⟨_, rfl⟩
      rw [← hr1] at HS
      have HR1 := Lib.hid hr1
      clear hr1
      generalize hr0 : worstTo G k = r0 at *
      obtain ⟨x0, q0⟩ := r0
      generalize (G k).lo = p0 at *
      generalize (G k).hi = p1 at *
      generalize statedS (G k) = s0 at *
      have HSK := Lib.hid hsk
      have hz6 := hat.lt
      have HAT := Lib.hid hat
      have HBX := Lib.hid hbx
      have hi0 : (0 : Int) ≤ (k : Int) := by omega
      have hi1 : (k : Int) < 61 := by omega
      have hp0 : -1000000 ≤ p0 := by omega
      have hp1 : p0 ≤ 1000000 := by omega
      simp only at hwk
      clear hat hbx hsk hbk hr0
      by_cases hc : k = 0 ∨ q0 < s0
      · have HS2 : Hid (r1 = ((k : Int), s0)) := Lib.hid (by rw [HS.out]; simp only [hc, if_true])
        have HC : Hid (k = 0 ∨ q0 < s0) := hc
        rw [HSK.out] at hc
        by_cases h0 : k = 0
        · have hb0 : ((k : Int) == 0) = true := by simp [h0]
          have H0 := Lib.hid h0
          clear hc h0
          go_wp2_with (first | (go_at_call 74; refine (stated_any _ _ _ hp0 hp1).mono ?_; rintro e w3 ⟨rfl, hb3⟩))
          go_roundw
          case rel => exact ⟨k + 1, by omega, by go_num, by rw [← HR1.out, HS2.out], by rw [← HR1.out, HS2.out, HSK.out], HAT.out.below hb3, below_call HBX.out hb3⟩
          case measure => simp [intOf]; omega
        · have hb0 : ((k : Int) == 0) = false := by simp [h0]
          have hgt : q0 < max (-p0) p1 := hc.resolve_left h0
          clear hc h0
          go_wp2_with (first | (go_at_call 74; refine (stated_any _ _ _ hp0 hp1).mono ?_; rintro e w3 ⟨rfl, hb3⟩))
          go_roundw
          case rel => exact ⟨k + 1, by omega, by go_num, by rw [← HR1.out, HS2.out], by rw [← HR1.out, HS2.out, HSK.out], HAT.out.below hb3, below_call HBX.out hb3⟩
          case measure => simp [intOf]; omega
      · have HS2 : Hid (r1 = (x0, q0)) := Lib.hid (by rw [HS.out]; simp only [hc, if_false])
        rw [HSK.out] at hc
        have hb0 : ((k : Int) == 0) = false := by simp; omega
        have hgt : ¬ q0 < max (-p0) p1 := fun h => hc (.inr h)
        clear hc
        go_wp2_with (first | (go_at_call 74; refine (stated_any _ _ _ hp0 hp1).mono ?_; rintro e w3 ⟨rfl, hb3⟩))
        go_roundw
        case rel => exact ⟨k + 1, by omega, by go_num, by rw [← HR1.out, HS2.out], by rw [← HR1.out, HS2.out], HAT.out.below hb3, below_call HBX.out hb3⟩
        case measure => simp [intOf]; omega
    · obtain rfl : k = t + 1 := by omega
      have hlt' : ¬ (((t + 1 : Nat) : Int) < (t : Int) + 1) := by omega
      have HBX := Lib.hid hbx
      clear hat hbx
      go_wp2_with fail
      go_ret3
      exact ⟨rfl, HBX.out⟩

end Go.Proofs.YtidnopmjhhmedaaDoor
end

section
/- When the scale meets true time again: Meets. -/
set_option linter.unusedSimpArgs false
set_option linter.unusedVariables false
namespace Go.Proofs.YtidnopmjhhmedaaDoor
open Go.RowKit
attribute [local go_sem] Oper.semAt_some

set_option maxRecDepth 100000 in
set_option maxHeartbeats 2000000 in
theorem Meets_bad (F S J L H T : Int) (a : Option Addr) (n c : Nat) (a' : Option Addr) (n' c' : Nat) (st : List Int) (lk : List Lk) (E : Int) (hE : E = askE F S J L H T st lk true) (hE0 : (E == 0) = false) (w : World) (hN : Nums w a n st) (hK : Looks w a' n' lk) :
    Calls Tryd.prog 35 #[.agg #[.int .i64 F, .int .i64 S, .int .i64 J, .int .i64 L, .int .i64 H, .int .i64 T, .slice a n c, .slice a' n' c']] w fun e w' => e = .returned (.tuple #[.int .i64 0, .int .i64 0, .int .i64 E]) ∧ Below w.heap.size w w' := by
  obtain ⟨G, hG⟩ : ∃ G, G = if E = 0 then solF F S J L H T st lk else zeroF := ⟨_, rfl⟩
  have her := asked_is F S J L H T a n c a' n' c' st lk true E G hE hG _ (hN.alloc1 (.cells #[.int .i64 F, .int .i64 S, .int .i64 J, .int .i64 L, .int .i64 H, .int .i64 T, .slice a n c, .slice a' n' c'] 44)) (hK.alloc1 _)
  have hE1 : (E != 0) = true := by simpa using hE0
  clear hE hG hN hK
  go_enter Tryd.func35, Tryd.ntmps35
  go_wp2_with fail
  refine her.mono ?_
  clear her
  rintro e w2 ⟨rfl, hb⟩
  have hz := hb.size
  simp at hz
  have HNEW := Lib.hid (At.new w2)
  have HB : Shut (Below w.heap.size w ((w2.alloc (.cells Tryd.zeroCells96 96)).setCells w2.heap.size 0 (encL G).toArray.toList)) := ⟨below_setCells _ _ _ ((((Below.refl _ _).alloc (Nat.le_refl _) _).trans (hb.mono (by simp))).alloc (by omega) _) (by omega)⟩
  go_upto_region 2 with ((refine wpList_store_mid rfl 96 (Operand.tmp 5) (Operand.tmp 13) rfl w2.heap.size 0 (encL G).toArray rfl rfl (HNEW.out.there G) (size96a G) (all_oneCell_toArray (encL_one G)) ?_; generalize (w2.alloc (.cells Tryd.zeroCells96 96)).setCells w2.heap.size 0 (encL G).toArray.toList = W6 at *))
  go_wp2_with fail
  go_ret3
  exact ⟨rfl, HB.out⟩

/-- All lies within what an offset can be. -/
def Nar (f : Nat → Sp) : Prop := ∀ k, -20000 ≤ (f k).lo ∧ (f k).hi ≤ 20000
theorem Nar.put {f : Nat → Sp} (h : Nar f) (k : Nat) (s : Sp) : Nar (putS f k (bothS (f k) s)) := by
  intro j
  have hk := h k
  unfold putS
  split
  · simp only [bothS]; omega
  · exact h j
theorem wide_nar : Nar wideF := fun k => by simp [wideF]
theorem looks_nar (lk : List Lk) : ∀ f, Nar f → Nar (lk.foldl lookS f) := by
  induction lk with
  | nil => intro f h; exact h
  | cons l lk ih => intro f h; exact ih _ (h.put _ _)
theorem fwdTo_nar (st : List Int) (L H : Int) {f : Nat → Sp} (h : Nar f) : ∀ j, Nar (fwdTo st L H f j)
  | 0 => h
  | j + 1 => (fwdTo_nar st L H h j).put _ _
theorem bwdTo_nar (st : List Int) (L H : Int) (t : Nat) {f : Nat → Sp} (h : Nar f) : ∀ j, Nar (bwdTo st L H t f j)
  | 0 => h
  | j + 1 => (bwdTo_nar st L H t h j).put _ _
theorem solF_nar (F S J L H T : Int) (st : List Int) (lk : List Lk) : Nar (solF F S J L H T st lk) := bwdTo_nar _ _ _ _ (fwdTo_nar _ _ _ (looks_nar lk _ wide_nar) _) _
theorem solF_in {F S J L H T : Int} {st : List Int} {lk : List Lk} {ok : Bool} (hE : askE F S J L H T st lk ok = 0) (k : Nat) (hk : (k : Int) ≤ T) :
    -20000 ≤ (solF F S J L H T st lk k).lo ∧ (solF F S J L H T st lk k).lo ≤ (solF F S J L H T st lk k).hi ∧ (solF F S J L H T st lk k).hi ≤ 20000 := by
  have h1 := solF_nar F S J L H T st lk k
  have h2 := (askE_ok hE).2.2
  rw [okF, List.all_eq_true] at h2
  have h3 := h2 k (by simp; omega)
  simp only [decide_eq_true_eq] at h3
  exact ⟨h1.1, h3, h1.2⟩

theorem meets_held {F S J L H : Int} {b P : Nat} {p0 p1 : Int} {w W W1 : World} (hx : RuleAt W P F S J L H b ∧ (W.cell? ⟨P + 1, 0, none⟩ = some (.int .i64 p0) ∧ W.cell? ⟨P + 1, 1, none⟩ = some (.int .i64 p1)) ∧ MW F S J b w W) (hb0 : b ≠ 0) (hP : P ≠ b) (hQ : P + 1 ≠ b) (hp : MemoPost F S J b W W1) :
    RuleAt W1 P F S J L H b ∧ (W1.cell? ⟨P + 1, 0, none⟩ = some (.int .i64 p0) ∧ W1.cell? ⟨P + 1, 1, none⟩ = some (.int .i64 p1)) ∧ MW F S J b w W1 :=
  ⟨RuleAt.next hx.1 hp hP, ⟨cell_grown hp.1 (p := ⟨P + 1, 0, none⟩) hQ hx.2.1.1, cell_grown hp.1 (p := ⟨P + 1, 1, none⟩) hQ hx.2.1.2⟩, MW.next hx.2.2 hb0 hp⟩
theorem RuleAt.below {W W1 : World} {B b : Nat} {F S J L H : Int} (h : RuleAt W B F S J L H b) (hb : Below W.heap.size W W1) : RuleAt W1 B F S J L H b :=
  ⟨cell_below hb h.1, cell_below hb h.2.1, cell_below hb h.2.2.1, cell_below hb h.2.2.2.1, cell_below hb h.2.2.2.2.1, cell_below hb h.2.2.2.2.2⟩
theorem meets_alloc {F S J L H : Int} {b P : Nat} {p0 p1 : Int} {w W : World} {o : Obj} (hx : RuleAt W P F S J L H b ∧ (W.cell? ⟨P + 1, 0, none⟩ = some (.int .i64 p0) ∧ W.cell? ⟨P + 1, 1, none⟩ = some (.int .i64 p1)) ∧ MW F S J b w W) :
    RuleAt (W.alloc o) P F S J L H b ∧ ((W.alloc o).cell? ⟨P + 1, 0, none⟩ = some (.int .i64 p0) ∧ (W.alloc o).cell? ⟨P + 1, 1, none⟩ = some (.int .i64 p1)) ∧ MW F S J b w (W.alloc o) :=
  have hb : Below W.heap.size W (W.alloc o) := (Below.refl _ _).alloc (Nat.le_refl _) _
  ⟨hx.1.below hb, ⟨cell_below hb hx.2.1.1, cell_below hb hx.2.1.2⟩, hx.2.2.below hb⟩

set_option maxRecDepth 100000 in
set_option maxHeartbeats 4000000 in
theorem Meets_ok (F S J L H T : Int) (a : Option Addr) (n c : Nat) (a' : Option Addr) (n' c' : Nat) (st : List Int) (lk : List Lk) (t : Nat) (ht : T = t) (hE : askE F S J L H T st lk true = 0) (w : World) (hw : Ways w) (hN : Nums w a n st) (hK : Looks w a' n' lk) (f0 f1 : Int)
    (hf0 : f0 = fewest F S J (solF F S J L H T st lk t).lo) (hf1 : f1 = fewest F S J (solF F S J L H T st lk t).hi) (v : Value)
    (hv : v = if f0 = -1 ∨ f1 = -1 then .tuple #[.int .i64 0, .int .i64 0, .int .i64 4] else .tuple #[.int .i64 (max f0 f1), .int .i64 (if (solF F S J L H T st lk t).lo ≤ 0 ∧ 0 ≤ (solF F S J L H T st lk t).hi then 0 else min f0 f1), .int .i64 0]) :
    Calls Tryd.prog 35 #[.agg #[.int .i64 F, .int .i64 S, .int .i64 J, .int .i64 L, .int .i64 H, .int .i64 T, .slice a n c, .slice a' n' c']] w fun e w' => e = .returned v ∧ Below w.heap.size w w' := by
  have hT := check_ticks (askE_ok hE).1
  have hrule := rule_of_check (askE_ok hE).1
  have hin := solF_in hE t (by omega)
  obtain ⟨G, hG⟩ : ∃ G, G = solF F S J L H T st lk := ⟨_, rfl⟩
  have her := asked_is F S J L H T a n c a' n' c' st lk true 0 G hE.symm (by rw [hG]; rfl) _ (hN.alloc1 (.cells #[.int .i64 F, .int .i64 S, .int .i64 J, .int .i64 L, .int .i64 H, .int .i64 T, .slice a n c, .slice a' n' c'] 44)) (hK.alloc1 _)
  rw [← hG] at hin hf0 hf1 hv
  subst ht
  obtain ⟨p0, hp0⟩ : ∃ p0, p0 = (G t).lo := ⟨_, rfl⟩
  obtain ⟨p1, hp1⟩ : ∃ p1, p1 = (G t).hi := ⟨_, rfl⟩
  rw [← hp0, ← hp1] at hin hv
  rw [← hp0] at hf0
  rw [← hp1] at hf1
  have HP0 := Lib.hid hp0
  have HP1 := Lib.hid hp1
  have HF0 := Lib.hid hf0
  have HF1 := Lib.hid hf1
  have HV := Lib.hid hv
  have HR := Lib.hid hrule
  have hw0 : 0 < w.heap.size := World.block_lt_of_cell? w _ hw.1
  have HW := Lib.hid hw
  clear hE hG hN hK hp0 hp1 hf0 hf1 hv hrule hw
  go_enter Tryd.func35, Tryd.ntmps35
  go_wp2_with fail
  refine her.mono ?_
  clear her
  rintro e w2 ⟨rfl, hb⟩
  have hz := hb.size
  simp at hz
  have HNEW := Lib.hid (At.new w2)
  have hB0 : Below w.heap.size w ((w2.alloc (.cells Tryd.zeroCells96 96)).setCells w2.heap.size 0 (encL G).toArray.toList) := below_setCells _ _ _ ((((Below.refl _ _).alloc (Nat.le_refl _) _).trans (hb.mono (by simp))).alloc (by omega) _) (by omega)
  have HB := Shut.mk hB0
  have HA : Shut (At ((w2.alloc (.cells Tryd.zeroCells96 96)).setCells w2.heap.size 0 (encL G).toArray.toList) w2.heap.size G) := ⟨(At.new w2).store G⟩
  have HBK : Shut (BookAt ((w2.alloc (.cells Tryd.zeroCells96 96)).setCells w2.heap.size 0 (encL G).toArray.toList) w.heap.size F S J L H t a n c a' n' c') := by
    have h1 := (bcellN (below_setCells (encL G) 0 (w2.alloc (.cells Tryd.zeroCells96 96)) (Below.refl w2.heap.size _) (Nat.le_refl _))).1 w.heap.size
    have h2 := ((BookAt.new w F S J L H t a n c a' n' c').below hb).below ((Below.refl _ _).alloc (Nat.le_refl _) (.cells Tryd.zeroCells96 96))
    obtain ⟨q0, q1, q2, q3, q4, q5, q6, q7⟩ := h2
    simp only [List.toList_toArray] at h1 ⊢
    exact ⟨⟨(h1 0 (by omega)).trans q0, (h1 1 (by omega)).trans q1, (h1 2 (by omega)).trans q2, (h1 3 (by omega)).trans q3, (h1 4 (by omega)).trans q4, (h1 5 (by omega)).trans q5, (h1 6 (by omega)).trans q6, (h1 7 (by omega)).trans q7⟩⟩
  clear hB0
  go_upto_region 2 with ((refine wpList_store_mid rfl 96 (Operand.tmp 5) (Operand.tmp 13) rfl w2.heap.size 0 (encL G).toArray rfl rfl (HNEW.out.there G) (size96a G) (all_oneCell_toArray (encL_one G)) ?_; generalize (w2.alloc (.cells Tryd.zeroCells96 96)).setCells w2.heap.size 0 (encL G).toArray.toList = W6 at *))
  obtain ⟨hk0, hk1, hk2, hk3, hk4, hk5, hk6, hk7⟩ := HBK.out
  go_wp2_with fail
  refine (opened_ok F S J L H W6 HR.out).mono ?_
  rintro e w3 ⟨b, rfl, hb3, hnb, hnew⟩
  have hbk3 := HBK.out.below hb3
  obtain ⟨hc0, hc1, hc2, hc3, hc4, hc5, hc6, hc7⟩ := hbk3
  have hat3 := HA.out.below hb3
  have hcl := hat3.lo t (by omega)
  have hch := hat3.hi t (by omega)
  rw [← HP0.out] at hcl
  rw [← HP1.out] at hch
  have hz3 := hb3.size
  have hz6 := HA.out.lt
  have hbw := HB.out.size
  have hlt3 := (Array.getElem?_eq_some_iff.1 hnew).1
  have HB3 := Lib.hid (below_call HB.out hb3)
  have HN := Lib.hid hnew
  have hi0 : (0 : Int) ≤ (t : Int) := by omega
  have hi1 : (t : Int) < 61 := by omega
  have hy1 : w.heap.size < w3.heap.size := by omega
  have hy2 : w2.heap.size < w3.heap.size := by omega
  clear hk0 hk1 hk2 hk3 hk4 hk5 hk6 hk7 hat3 hnew
  go_wp2_with fail
  have hMW0 : MW F S J b w (((w3.alloc (.cells #[.int .i64 F, .int .i64 S, .int .i64 J, .int .i64 L, .int .i64 H, .map (some b)] 80)).alloc (.cells #[.int .i64 p0, .int .i64 p1] 23)).drew) := by
    refine mw_new HW.out ?_ ?_
    · exact ((HB3.out.alloc (by omega) _).alloc (by simp <;> omega) _).drew
    · rw [heap_drew, Below.heap_alloc _ _ _ (by simp <;> omega), Below.heap_alloc _ _ _ (by omega)]
      exact HN.out
  have hb0 : b ≠ 0 := by omega
  have hPb : w3.heap.size ≠ b := by omega
  have hQb : w3.heap.size + 1 ≠ b := by omega
  go_region_held3 (fun W1 : World => (W1.cell? ⟨w3.heap.size, 0, none⟩ = some (.int .i64 F) ∧ W1.cell? ⟨w3.heap.size, 1, none⟩ = some (.int .i64 S) ∧ W1.cell? ⟨w3.heap.size, 2, none⟩ = some (.int .i64 J) ∧ W1.cell? ⟨w3.heap.size, 3, none⟩ = some (.int .i64 L) ∧ W1.cell? ⟨w3.heap.size, 4, none⟩ = some (.int .i64 H) ∧ W1.cell? ⟨w3.heap.size, 5, none⟩ = some (.map (some b))) ∧ (W1.cell? ⟨w3.heap.size + 1, 0, none⟩ = some (.int .i64 p0) ∧ W1.cell? ⟨w3.heap.size + 1, 1, none⟩ = some (.int .i64 p1)) ∧ MW F S J b w W1)
    (first | with_reducible exact meets_held hx hb0 hPb hQb hp | with_reducible exact meets_alloc (by assumption) | exact meets_alloc ⟨⟨by assumption, by assumption, by assumption, by assumption, by assumption, by assumption⟩, ⟨by assumption, by assumption⟩, by assumption⟩ | ((repeat' apply And.intro) <;> (first | with_reducible exact hMW0 | (simp [go_sem, *]; done))))
    (first | (go_at_call 62; rename_i hx _ _; refine (fewest_any F S J L H b _ (by omega) HR.out _ hx.2.2.ways hx.2.2.memo hb0).mono ?_; rintro e w4 ⟨rfl, hp⟩))
  rename_i hh
  have hf0 := HF0.out
  have hf1 := HF1.out
  generalize fewest F S J p0 = g0 at *
  generalize fewest F S J p1 = g1 at *
  subst hf0
  subst hf1
  clear HF0 HF1
  obtain ⟨_, ⟨hq0, hq1⟩, hm⟩ := hh
  have hNu : Nums (w4.alloc (.cells #[.int .i64 f0, .int .i64 f1] 3)) (some ⟨w4.heap.size, 0, none⟩) 2 [f0, f1] :=
    ⟨rfl, by omega, fun _ => ⟨_, 0, rfl, fun j hj => by
      rcases j with _ | _ | j
      · simp [go_sem]
      · simp [go_sem]
      · omega⟩⟩
  have HBF := Lib.hid (below_of_grown hm.gr (n := w.heap.size) (by omega) (Nat.le_refl _))
  generalize w4.alloc (.cells #[.int .i64 f0, .int .i64 f1] 3) = W8 at *
  have hct := contains_any _ 2 2 [f0, f1] (-1) W8 hNu
  have hmx := max_any _ 2 2 [f0, f1] W8 hNu (by omega)
  have hmn := min_any _ 2 2 [f0, f1] W8 hNu (by omega)
  clear hNu hm
  rw [show maxOf [f0, f1] = max f0 f1 from rfl] at hmx
  rw [show minOf [f0, f1] = min f0 f1 from rfl] at hmn
  by_cases hno : f0 = -1 ∨ f1 = -1
  · have hv : v = .tuple #[.int .i64 0, .int .i64 0, .int .i64 4] := by rw [HV.out, if_pos hno]
    have hmem : decide ((-1 : Int) ∈ [f0, f1]) = true := by simp only [List.mem_cons, List.not_mem_nil, or_false, decide_eq_true_eq]; omega
    rw [hmem] at hct
    clear hmem hno HV
    subst hv
    go_wp2_with (first | (go_at_call 75; refine hct.mono ?_; rintro e w' ⟨rfl, rfl⟩))
    go_ret3
    exact ⟨rfl, HBF.out⟩
  · have hmem : decide ((-1 : Int) ∈ [f0, f1]) = false := by simp only [List.mem_cons, List.not_mem_nil, or_false, decide_eq_false_iff_not]; omega
    rw [hmem] at hct
    have hv0 := HV.out
    rw [if_neg hno] at hv0
    clear hmem hno HV
    by_cases hz0 : p0 ≤ 0 ∧ 0 ≤ p1
    · have hv : v = .tuple #[.int .i64 (max f0 f1), .int .i64 0, .int .i64 0] := by rw [hv0, if_pos hz0]
      have hl := lies_is (n := 0) (a := p0) (b := p1) (v := true) (lies_iff.2 hz0)
      clear hv0 hz0
      subst hv
      go_wp2_with (first | (go_at_call 75; refine hct.mono ?_; rintro e w' ⟨rfl, rfl⟩) | (go_at_call 76; refine hmx.mono ?_; rintro e w' ⟨rfl, rfl⟩) | (go_at_call 77; refine hmn.mono ?_; rintro e w' ⟨rfl, rfl⟩) | (go_at_call 57; refine (hl _).mono ?_; rintro e w' ⟨rfl, rfl⟩))
      go_ret3
      exact ⟨rfl, HBF.out⟩
    · have hv : v = .tuple #[.int .i64 (max f0 f1), .int .i64 (min f0 f1), .int .i64 0] := by rw [hv0, if_neg hz0]
      have hl := lies_is (n := 0) (a := p0) (b := p1) (v := false) (by rw [← Bool.not_eq_true, lies_iff]; exact hz0)
      clear hv0 hz0
      subst hv
      go_wp2_with (first | (go_at_call 75; refine hct.mono ?_; rintro e w' ⟨rfl, rfl⟩) | (go_at_call 76; refine hmx.mono ?_; rintro e w' ⟨rfl, rfl⟩) | (go_at_call 77; refine hmn.mono ?_; rintro e w' ⟨rfl, rfl⟩) | (go_at_call 57; refine (hl _).mono ?_; rintro e w' ⟨rfl, rfl⟩))
      go_ret3
      exact ⟨rfl, HBF.out⟩

end Go.Proofs.YtidnopmjhhmedaaDoor
end

section
/- The contracts of scale's functions, in the form that the printed texts take. Written by wip/tools/mkXI.py. -/
set_option linter.unusedSimpArgs false
set_option linter.unusedVariables false
namespace Go.Proofs.TrydX.X
open Go.RowKit Go.Proofs.YtidnopmjhhmedaaDoorW.PrintWords Go.Proofs.YtidnopmjhhmedaaDoorW.PrintLast
open Go.Proofs.YtidnopmjhhmedaaDoor (isRuleB lies isPlanB fewest planOf caps capSum keepsB shownL checkB Lk Nums askE solF worstTo lies_iff)

/-- A look, as the hand's texts have it. -/
def toLk (x : S71) : Lk := ⟨x.f0, x.f1.f0, x.f1.f1⟩
theorem nums_of_C {w : World} {A : Option Addr} {l : List Int} (h : Kd.C (Kd.int .i64) w A l.length l) (hb : l.length ≤ 17592186044416) : Nums w A l.length l := by
  have h2 := Kd.reads_of_C (enc := Value.int .i64) (d := (0 : Int)) (h1 := fun _ => rfl) h
  refine ⟨rfl, hb, fun hn => ?_⟩
  obtain ⟨ad, e, hc⟩ := h2.2.2 hn
  obtain ⟨b, off, sp⟩ := ad
  have h0 := hc 0 hn
  have hs : sp = none := by
    rw [show Addr.add ⟨b, off, sp⟩ 0 = ⟨b, off, sp⟩ from rfl] at h0
    unfold World.cell? at h0
    split at h0
    · cases sp with
      | none => rfl
      | some x => simp at h0
    · cases h0
  subst hs
  refine ⟨b, off, e, fun j hj => ?_⟩
  have := hc j hj
  rwa [Addr.add_mid] at this
theorem looks_of_C {w : World} {A : Option Addr} {l : List S71} (h : Kd.C k71 w A l.length l) (hb : l.length ≤ 17592186044416) : YtidnopmjhhmedaaDoor.Looks w A l.length (l.map toLk) := by
  refine ⟨by simp, hb, fun hn => ?_⟩
  have h2 := h.2.2 hn
  obtain ⟨ad, e, _⟩ := h2
  obtain ⟨b, off, sp⟩ := ad
  have get : ∀ j, j < l.length → w.cell? ((⟨b, off, sp⟩ : Addr).add (j * 3)) = some (.int .i64 (rd_T71 l j).f0) ∧ w.cell? ⟨b, off + j * 3 + 1, none⟩ = some (.int .i64 (rd_T71 l j).f1.f0) ∧ w.cell? ⟨b, off + j * 3 + 2, none⟩ = some (.int .i64 (rd_T71 l j).f1.f1) := by
    intro j hj
    obtain ⟨ad2, e2, h1, h2, h3⟩ := at_T71 h j (by omega) (by omega)
    rw [e] at e2
    injection e2 with e2
    subst e2
    rw [Int.toNat_natCast] at h1 h2 h3
    have hadd : ((⟨b, off, sp⟩ : Addr).add (j * 3)).off = off + j * 3 ∧ ((⟨b, off, sp⟩ : Addr).add (j * 3)).block = b := by
      unfold Addr.add
      split <;> simp_all
    rw [hadd.1, hadd.2] at h2 h3
    exact ⟨h1, h2, h3⟩
  have h0 := (get 0 hn).1
  have hs : sp = none := by
    rw [show Addr.add ⟨b, off, sp⟩ (0 * 3) = ⟨b, off, sp⟩ from rfl] at h0
    unfold World.cell? at h0
    split at h0
    · cases sp with
      | none => rfl
      | some x => simp at h0
    · cases h0
  subst hs
  refine ⟨b, off, e, fun j hj => ?_⟩
  obtain ⟨h1, h2, h3⟩ := get j hj
  rw [Addr.add_mid] at h1
  have hl : (l.map toLk).getD j Lk.zero = toLk (rd_T71 l j) := by
    simp [rd_T71, List.getD_eq_getElem?_getD, hj]
  rw [hl]
  exact ⟨h1, h2, h3⟩
/-- A list that is handed back is read where it is new. -/
theorem V_of_nums {w w' : World} {a : Option Addr} {cap : Nat} {l : List Int} (hN : Nums w' a l.length l) (hc : l.length ≤ cap) (hb : ∀ g o, a = some ⟨g, o, none⟩ → 0 < l.length → w.heap.size ≤ g) : Kd.V (Kd.int .i64) 3 w' w.heap.size (fun k_ => w.heap.size ≤ k_) (.slice a l.length cap) l := by
  refine Kd.V_mk hc ?_
  intro W' hW
  refine Kd.C_of_reads (d := (0 : Int)) (h1 := fun _ => rfl) ⟨rfl, by have := hN.2.1; omega, fun hn => ?_⟩
  obtain ⟨b, off, e, hcell⟩ := hN.2.2 hn
  refine ⟨⟨b, off, none⟩, e, fun j hj => ?_⟩
  rw [Addr.add_mid]
  have h1 := hcell j hj
  have hlt := World.block_lt_of_cell? w' _ h1
  exact (World.cell?_of_block (w := w') (hW b (hb b off e hn) hlt)).trans h1

def scale_IsPlan.f (a0_0 : Int) (a0_1 : Int) (a0_2 : Int) (a0_3 : Int) (a0_4 : Int) (a1 : Int) (l2 : List Int) : Option (Bool × Int) := if l2.length ≤ 17592186044416 then (if isRuleB a0_0 a0_1 a0_2 a0_3 a0_4 = true then (if lies a1 (-20000) 20000 = true then some (isPlanB a0_0 a0_1 a0_2 a1 l2.length l2, 0) else some (false, 41)) else some (false, 40)) else none
set_option maxHeartbeats 1000000 in
theorem scale_IsPlan.calls (a0_0 : Int) (a0_1 : Int) (a0_2 : Int) (a0_3 : Int) (a0_4 : Int) (a1 : Int) (A2 : Option Addr) (c2 : Nat) (l2 : List Int) (r1 : Bool) (r2 : Int) (w : World) (hr2 : Kd.C (Kd.int .i64) w A2 l2.length l2) (hc2 : l2.length ≤ c2) (hWays : Go.Proofs.YtidnopmjhhmedaaDoor.Ways w) (h : scale_IsPlan.f a0_0 a0_1 a0_2 a0_3 a0_4 a1 l2 = some (r1, r2)) :
    Calls Tryd.prog 16 #[.agg #[.int .i64 a0_0, .int .i64 a0_1, .int .i64 a0_2, .int .i64 a0_3, .int .i64 a0_4], .int .i64 a1, .slice A2 l2.length c2] w fun e w' => e = .returned (.tuple #[.bool r1, .int .i64 r2]) ∧ Below w.heap.size w w' := by
  unfold scale_IsPlan.f at h
  split at h
  · rename_i hb
    have hN := nums_of_C hr2 hb
    split at h
    · split at h
      · simp only [Option.some.injEq, Prod.mk.injEq] at h
        obtain ⟨rfl, rfl⟩ := h
        exact YtidnopmjhhmedaaDoor.IsPlan_ok _ _ _ _ _ _ _ _ _ _ ‹_› ‹_› w hWays hN
      · simp only [Option.some.injEq, Prod.mk.injEq] at h
        obtain ⟨rfl, rfl⟩ := h
        exact YtidnopmjhhmedaaDoor.IsPlan_ask _ _ _ _ _ _ _ _ _ ‹_› (by simpa using ‹¬ lies _ _ _ = true›) w
    · simp only [Option.some.injEq, Prod.mk.injEq] at h
      obtain ⟨rfl, rfl⟩ := h
      exact YtidnopmjhhmedaaDoor.IsPlan_bad _ _ _ _ _ _ _ _ _ (by simpa using ‹¬ isRuleB _ _ _ _ _ = true›) w
  · cases h

def scale_Fewest.f (a0_0 : Int) (a0_1 : Int) (a0_2 : Int) (a0_3 : Int) (a0_4 : Int) (a1 : Int) : Option (Int × Int) := if isRuleB a0_0 a0_1 a0_2 a0_3 a0_4 = true then (if lies a1 (-20000) 20000 = true then some (if fewest a0_0 a0_1 a0_2 a1 < 0 then 0 else fewest a0_0 a0_1 a0_2 a1, if fewest a0_0 a0_1 a0_2 a1 < 0 then 4 else 0) else some (0, 41)) else some (0, 40)
set_option maxHeartbeats 1000000 in
theorem scale_Fewest.calls (a0_0 : Int) (a0_1 : Int) (a0_2 : Int) (a0_3 : Int) (a0_4 : Int) (a1 : Int) (r1 : Int) (r2 : Int) (w : World) (hWays : Go.Proofs.YtidnopmjhhmedaaDoor.Ways w) (h : scale_Fewest.f a0_0 a0_1 a0_2 a0_3 a0_4 a1 = some (r1, r2)) :
    Calls Tryd.prog 18 #[.agg #[.int .i64 a0_0, .int .i64 a0_1, .int .i64 a0_2, .int .i64 a0_3, .int .i64 a0_4], .int .i64 a1] w fun e w' => e = .returned (.tuple #[.int .i64 r1, .int .i64 r2]) ∧ Below w.heap.size w w' := by
  unfold scale_Fewest.f at h
  split at h
  · split at h
    · simp only [Option.some.injEq, Prod.mk.injEq] at h
      obtain ⟨rfl, rfl⟩ := h
      exact YtidnopmjhhmedaaDoor.Fewest_ok _ _ _ _ _ _ ‹_› ‹_› w hWays
    · simp only [Option.some.injEq, Prod.mk.injEq] at h
      obtain ⟨rfl, rfl⟩ := h
      exact YtidnopmjhhmedaaDoor.Fewest_ask _ _ _ _ _ _ ‹_› (by simpa using ‹¬ lies _ _ _ = true›) w
  · simp only [Option.some.injEq, Prod.mk.injEq] at h
    obtain ⟨rfl, rfl⟩ := h
    exact YtidnopmjhhmedaaDoor.Fewest_bad _ _ _ _ _ _ (by simpa using ‹¬ isRuleB _ _ _ _ _ = true›) w

/-- The plan. -/
def planL (F S J off : Int) : List Int := if 0 < off then planOf (-1) off (caps S J (fewest F S J off).toNat) else planOf 1 (-off) (caps F J (fewest F S J off).toNat)
theorem few_nat {F S J off : Int} (h : ¬ fewest F S J off < 0) : fewest F S J off = ((fewest F S J off).toNat : Int) := by omega
theorem nil_V (w w' : World) : Kd.V (Kd.int .i64) 3 w' w.heap.size (fun k_ => w.heap.size ≤ k_) (.slice none 0 0) [] := Kd.V_nil _ _ _ _ _
def scale_Plan.f (a0_0 : Int) (a0_1 : Int) (a0_2 : Int) (a0_3 : Int) (a0_4 : Int) (a1 : Int) : Option ((List Int) × Int) := if isRuleB a0_0 a0_1 a0_2 a0_3 a0_4 = true then (if lies a1 (-20000) 20000 = true then (if fewest a0_0 a0_1 a0_2 a1 < 0 then some ([], 4) else some (planL a0_0 a0_1 a0_2 a1, 0)) else some ([], 41)) else some ([], 40)
set_option maxHeartbeats 1000000 in
theorem scale_Plan.calls (a0_0 : Int) (a0_1 : Int) (a0_2 : Int) (a0_3 : Int) (a0_4 : Int) (a1 : Int) (r1 : List Int) (r2 : Int) (w : World) (hWays : Go.Proofs.YtidnopmjhhmedaaDoor.Ways w) (h : scale_Plan.f a0_0 a0_1 a0_2 a0_3 a0_4 a1 = some (r1, r2)) :
    Calls Tryd.prog 20 #[.agg #[.int .i64 a0_0, .int .i64 a0_1, .int .i64 a0_2, .int .i64 a0_3, .int .i64 a0_4], .int .i64 a1] w fun e w' => ∃ v0_ : Value, e = .returned (.tuple #[v0_, .int .i64 r2]) ∧ Kd.V (Kd.int .i64) 3 w' w.heap.size (fun k_ => (w.heap.size ≤ k_)) v0_ r1 ∧ Below w.heap.size w w' := by
  have hwa : Go.Proofs.YtidnopmjhhmedaaDoor.Ways (w.alloc (.cells #[.int .i64 a0_0, .int .i64 a0_1, .int .i64 a0_2, .int .i64 a0_3, .int .i64 a0_4] 25)) := hWays.below ((Below.refl _ _).alloc (Nat.le_refl _) _)
  unfold scale_Plan.f at h
  split at h
  · split at h
    · split at h
      · rename_i hr hl hf
        simp only [Option.some.injEq, Prod.mk.injEq] at h
        obtain ⟨rfl, rfl⟩ := h
        have h1 := YtidnopmjhhmedaaDoor.Fewest_ok a0_0 a0_1 a0_2 a0_3 a0_4 a1 hr hl _ hwa
        rw [if_pos hf, if_pos hf] at h1
        exact (YtidnopmjhhmedaaDoor.Plan_err a0_0 a0_1 a0_2 a0_3 a0_4 a1 4 w (by decide) (h1.mono fun e w' h => ⟨h.1, by simpa using h.2⟩)).mono fun e w' h => ⟨_, h.1, nil_V _ _, h.2⟩
      · rename_i hr hl hf
        simp only [Option.some.injEq, Prod.mk.injEq] at h
        obtain ⟨rfl, rfl⟩ := h
        have hle := YtidnopmjhhmedaaDoor.fewest_le a0_0 a0_1 a0_2 a1
        unfold planL
        split
        · refine (YtidnopmjhhmedaaDoor.Plan_pos a0_0 a0_1 a0_2 a0_3 a0_4 a1 _ w hWays hr (lies_iff.1 hl) ‹_› (by omega) (few_nat hf)).mono ?_
          rintro e w' ⟨a, cap, he, ⟨hN, hc, hb⟩, hB⟩
          exact ⟨_, he, V_of_nums hN hc hb, hB⟩
        · refine (YtidnopmjhhmedaaDoor.Plan_neg a0_0 a0_1 a0_2 a0_3 a0_4 a1 _ w hWays hr (lies_iff.1 hl) ‹_› (by omega) (few_nat hf)).mono ?_
          rintro e w' ⟨a, cap, he, ⟨hN, hc, hb⟩, hB⟩
          exact ⟨_, he, V_of_nums hN hc hb, hB⟩
    · rename_i hr hl
      simp only [Option.some.injEq, Prod.mk.injEq] at h
      obtain ⟨rfl, rfl⟩ := h
      have h1 := YtidnopmjhhmedaaDoor.Fewest_ask a0_0 a0_1 a0_2 a0_3 a0_4 a1 hr (by simpa using hl) (w.alloc (.cells #[.int .i64 a0_0, .int .i64 a0_1, .int .i64 a0_2, .int .i64 a0_3, .int .i64 a0_4] 25))
      exact (YtidnopmjhhmedaaDoor.Plan_err a0_0 a0_1 a0_2 a0_3 a0_4 a1 41 w (by decide) (h1.mono fun e w' h => ⟨h.1, by simpa using h.2⟩)).mono fun e w' h => ⟨_, h.1, nil_V _ _, h.2⟩
  · rename_i hr
    simp only [Option.some.injEq, Prod.mk.injEq] at h
    obtain ⟨rfl, rfl⟩ := h
    have h1 := YtidnopmjhhmedaaDoor.Fewest_bad a0_0 a0_1 a0_2 a0_3 a0_4 a1 (by simpa using hr) (w.alloc (.cells #[.int .i64 a0_0, .int .i64 a0_1, .int .i64 a0_2, .int .i64 a0_3, .int .i64 a0_4] 25))
    exact (YtidnopmjhhmedaaDoor.Plan_err a0_0 a0_1 a0_2 a0_3 a0_4 a1 40 w (by decide) (h1.mono fun e w' h => ⟨h.1, by simpa using h.2⟩)).mono fun e w' h => ⟨_, h.1, nil_V _ _, h.2⟩

def scale_Reach.f (a0_0 : Int) (a0_1 : Int) (a0_2 : Int) (a0_3 : Int) (a0_4 : Int) (a1 : Int) : Option (Int × Int × Int) := if isRuleB a0_0 a0_1 a0_2 a0_3 a0_4 = true then (if lies a1 0 200 = true then some (-(capSum a0_1 a0_2 a1.toNat), capSum a0_0 a0_2 a1.toNat, 0) else some (0, 0, 41)) else some (0, 0, 40)
set_option maxHeartbeats 1000000 in
theorem scale_Reach.calls (a0_0 : Int) (a0_1 : Int) (a0_2 : Int) (a0_3 : Int) (a0_4 : Int) (a1 : Int) (r1 : Int) (r2 : Int) (r3 : Int) (w : World) (hWays : Go.Proofs.YtidnopmjhhmedaaDoor.Ways w) (h : scale_Reach.f a0_0 a0_1 a0_2 a0_3 a0_4 a1 = some (r1, r2, r3)) :
    Calls Tryd.prog 22 #[.agg #[.int .i64 a0_0, .int .i64 a0_1, .int .i64 a0_2, .int .i64 a0_3, .int .i64 a0_4], .int .i64 a1] w fun e w' => e = .returned (.tuple #[.agg #[.int .i64 r1, .int .i64 r2], .int .i64 r3]) ∧ Below w.heap.size w w' := by
  unfold scale_Reach.f at h
  split at h
  · split at h
    · rename_i hr hl
      simp only [Option.some.injEq, Prod.mk.injEq] at h
      obtain ⟨rfl, rfl, rfl⟩ := h
      have h1 := lies_iff.1 hl
      obtain ⟨t, rfl⟩ : ∃ t : Nat, a1 = t := ⟨a1.toNat, by omega⟩
      rw [Int.toNat_natCast]
      exact YtidnopmjhhmedaaDoor.Reach_ok _ _ _ _ _ t hr (by omega) w hWays
    · simp only [Option.some.injEq, Prod.mk.injEq] at h
      obtain ⟨rfl, rfl, rfl⟩ := h
      exact YtidnopmjhhmedaaDoor.Reach_ask _ _ _ _ _ _ ‹_› (by simpa using ‹¬ lies _ _ _ = true›) w
  · simp only [Option.some.injEq, Prod.mk.injEq] at h
    obtain ⟨rfl, rfl, rfl⟩ := h
    exact YtidnopmjhhmedaaDoor.Reach_bad _ _ _ _ _ _ (by simpa using ‹¬ isRuleB _ _ _ _ _ = true›) w

def scale_Shown.f (a0_0 : Int) (a0_1 : Int) (a0_2 : Int) (a0_3 : Int) (a0_4 : Int) (a1 : Int) (l2 : List Int) : Option ((List Int) × Int) := if l2.length ≤ 17592186044416 then (if isRuleB a0_0 a0_1 a0_2 a0_3 a0_4 = true then (if lies a1 0 10000000 = true ∧ l2.length ≤ 200 ∧ keepsB a0_0 a0_1 a0_2 0 l2 = true then some (shownL a1 l2, 0) else some ([], 41)) else some ([], 40)) else none
set_option maxHeartbeats 1000000 in
theorem scale_Shown.calls (a0_0 : Int) (a0_1 : Int) (a0_2 : Int) (a0_3 : Int) (a0_4 : Int) (a1 : Int) (A2 : Option Addr) (c2 : Nat) (l2 : List Int) (r1 : List Int) (r2 : Int) (w : World) (hr2 : Kd.C (Kd.int .i64) w A2 l2.length l2) (hc2 : l2.length ≤ c2) (hWays : Go.Proofs.YtidnopmjhhmedaaDoor.Ways w) (h : scale_Shown.f a0_0 a0_1 a0_2 a0_3 a0_4 a1 l2 = some (r1, r2)) :
    Calls Tryd.prog 24 #[.agg #[.int .i64 a0_0, .int .i64 a0_1, .int .i64 a0_2, .int .i64 a0_3, .int .i64 a0_4], .int .i64 a1, .slice A2 l2.length c2] w fun e w' => ∃ v0_ : Value, e = .returned (.tuple #[v0_, .int .i64 r2]) ∧ Kd.V (Kd.int .i64) 3 w' w.heap.size (fun k_ => (w.heap.size ≤ k_)) v0_ r1 ∧ Below w.heap.size w w' := by
  unfold scale_Shown.f at h
  split at h
  · rename_i hb
    have hN := nums_of_C hr2 hb
    split at h
    · rename_i hr
      split at h
      · rename_i hk
        simp only [Option.some.injEq, Prod.mk.injEq] at h
        obtain ⟨rfl, rfl⟩ := h
        refine (YtidnopmjhhmedaaDoor.Shown_ok a0_0 a0_1 a0_2 a0_3 a0_4 a1 A2 l2.length c2 l2 w hN hr hk.1 hk.2.1 hk.2.2).mono ?_
        rintro e w' ⟨a, cap, he, ⟨hN, hc, hb⟩, hB⟩
        exact ⟨_, he, V_of_nums hN hc hb, hB⟩
      · rename_i hk
        simp only [Option.some.injEq, Prod.mk.injEq] at h
        obtain ⟨rfl, rfl⟩ := h
        have fin : ∀ {e w'}, (e = Ending.returned (.tuple #[.slice none 0 0, .int .i64 41]) ∧ Below w.heap.size w w') → ∃ v0_ : Value, e = .returned (.tuple #[v0_, .int .i64 41]) ∧ Kd.V (Kd.int .i64) 3 w' w.heap.size (fun k_ => (w.heap.size ≤ k_)) v0_ [] ∧ Below w.heap.size w w' := fun h => ⟨_, h.1, nil_V _ _, h.2⟩
        by_cases hl : lies a1 0 10000000 = true
        · by_cases hn : l2.length ≤ 200
          · exact (YtidnopmjhhmedaaDoor.Shown_not a0_0 a0_1 a0_2 a0_3 a0_4 a1 A2 l2.length c2 l2 w hN hr hl hn (by rw [← Bool.not_eq_true]; exact fun h => hk ⟨hl, hn, h⟩)).mono fun e w' h => fin h
          · exact (YtidnopmjhhmedaaDoor.Shown_ask2 a0_0 a0_1 a0_2 a0_3 a0_4 a1 A2 l2.length c2 l2 w hN hr hl hn).mono fun e w' h => fin h
        · exact (YtidnopmjhhmedaaDoor.Shown_ask1 a0_0 a0_1 a0_2 a0_3 a0_4 a1 A2 l2.length c2 l2 w hN hr (by simpa using hl)).mono fun e w' h => fin h
    · rename_i hr
      simp only [Option.some.injEq, Prod.mk.injEq] at h
      obtain ⟨rfl, rfl⟩ := h
      have hr' : isRuleB a0_0 a0_1 a0_2 a0_3 a0_4 = false := by simpa using hr
      have fin : ∀ {e w'}, (e = Ending.returned (.tuple #[.slice none 0 0, .int .i64 40]) ∧ Below w.heap.size w w') → ∃ v0_ : Value, e = .returned (.tuple #[v0_, .int .i64 40]) ∧ Kd.V (Kd.int .i64) 3 w' w.heap.size (fun k_ => (w.heap.size ≤ k_)) v0_ [] ∧ Below w.heap.size w w' := fun h => ⟨_, h.1, nil_V _ _, h.2⟩
      by_cases hl : lies a1 0 10000000 = true
      · by_cases hn : l2.length ≤ 200
        · exact (YtidnopmjhhmedaaDoor.Shown_bad3 a0_0 a0_1 a0_2 a0_3 a0_4 a1 A2 l2.length c2 l2 w hN hr' hl hn).mono fun e w' h => fin h
        · exact (YtidnopmjhhmedaaDoor.Shown_bad2 a0_0 a0_1 a0_2 a0_3 a0_4 a1 A2 l2.length c2 l2 w hN hr' hl hn).mono fun e w' h => fin h
      · exact (YtidnopmjhhmedaaDoor.Shown_bad1 a0_0 a0_1 a0_2 a0_3 a0_4 a1 A2 l2.length c2 l2 w hN hr' (by simpa using hl)).mono fun e w' h => fin h
  · cases h

def scale_Check.f (a0_0 : Int) (a0_1 : Int) (a0_2 : Int) (a0_3 : Int) (a0_4 : Int) (a0_5 : Int) (l0_6 : List Int) (l0_7 : List (S71)) : Option (Int) := if l0_6.length ≤ 17592186044416 ∧ l0_7.length ≤ 17592186044416 then some (if checkB a0_0 a0_1 a0_2 a0_3 a0_4 a0_5 l0_6 (l0_7.map toLk) = true then 0 else 40) else none
set_option maxHeartbeats 1000000 in
theorem scale_Check.calls (a0_0 : Int) (a0_1 : Int) (a0_2 : Int) (a0_3 : Int) (a0_4 : Int) (a0_5 : Int) (A0_6 : Option Addr) (c0_6 : Nat) (l0_6 : List Int) (A0_7 : Option Addr) (c0_7 : Nat) (l0_7 : List (S71)) (r : Int) (w : World) (hr0_6 : Kd.C (Kd.int .i64) w A0_6 l0_6.length l0_6) (hc0_6 : l0_6.length ≤ c0_6) (hr0_7 : Kd.C k71 w A0_7 l0_7.length l0_7) (hc0_7 : l0_7.length ≤ c0_7) (hWays : Go.Proofs.YtidnopmjhhmedaaDoor.Ways w) (h : scale_Check.f a0_0 a0_1 a0_2 a0_3 a0_4 a0_5 l0_6 l0_7 = some r) :
    Calls Tryd.prog 29 #[.agg #[.int .i64 a0_0, .int .i64 a0_1, .int .i64 a0_2, .int .i64 a0_3, .int .i64 a0_4, .int .i64 a0_5, .slice A0_6 l0_6.length c0_6, .slice A0_7 l0_7.length c0_7]] w fun e w' => e = .returned (.int .i64 r) ∧ Below w.heap.size w w' := by
  unfold scale_Check.f at h
  split at h
  · rename_i hb
    have hN := nums_of_C hr0_6 hb.1
    have hK := looks_of_C hr0_7 hb.2
    simp only [Option.some.injEq] at h
    subst h
    exact YtidnopmjhhmedaaDoor.Check_any _ _ _ _ _ _ _ _ _ _ _ _ _ _ w hN hK
  · cases h

def scale_Error.f (a0_0 : Int) (a0_1 : Int) (a0_2 : Int) (a0_3 : Int) (a0_4 : Int) (a0_5 : Int) (l0_6 : List Int) (l0_7 : List (S71)) (a1 : Int) : Option (Int × Int × Int) := if l0_6.length ≤ 17592186044416 ∧ l0_7.length ≤ 17592186044416 then (if askE a0_0 a0_1 a0_2 a0_3 a0_4 a0_5 l0_6 (l0_7.map toLk) (lies a1 0 a0_5) = 0 then some ((solF a0_0 a0_1 a0_2 a0_3 a0_4 a0_5 l0_6 (l0_7.map toLk) a1.toNat).lo, (solF a0_0 a0_1 a0_2 a0_3 a0_4 a0_5 l0_6 (l0_7.map toLk) a1.toNat).hi, 0) else some (0, 0, askE a0_0 a0_1 a0_2 a0_3 a0_4 a0_5 l0_6 (l0_7.map toLk) (lies a1 0 a0_5))) else none
set_option maxHeartbeats 1000000 in
theorem scale_Error.calls (a0_0 : Int) (a0_1 : Int) (a0_2 : Int) (a0_3 : Int) (a0_4 : Int) (a0_5 : Int) (A0_6 : Option Addr) (c0_6 : Nat) (l0_6 : List Int) (A0_7 : Option Addr) (c0_7 : Nat) (l0_7 : List (S71)) (a1 : Int) (r1 : Int) (r2 : Int) (r3 : Int) (w : World) (hr0_6 : Kd.C (Kd.int .i64) w A0_6 l0_6.length l0_6) (hc0_6 : l0_6.length ≤ c0_6) (hr0_7 : Kd.C k71 w A0_7 l0_7.length l0_7) (hc0_7 : l0_7.length ≤ c0_7) (hWays : Go.Proofs.YtidnopmjhhmedaaDoor.Ways w) (h : scale_Error.f a0_0 a0_1 a0_2 a0_3 a0_4 a0_5 l0_6 l0_7 a1 = some (r1, r2, r3)) :
    Calls Tryd.prog 27 #[.agg #[.int .i64 a0_0, .int .i64 a0_1, .int .i64 a0_2, .int .i64 a0_3, .int .i64 a0_4, .int .i64 a0_5, .slice A0_6 l0_6.length c0_6, .slice A0_7 l0_7.length c0_7], .int .i64 a1] w fun e w' => e = .returned (.tuple #[.agg #[.int .i64 r1, .int .i64 r2], .int .i64 r3]) ∧ Below w.heap.size w w' := by
  unfold scale_Error.f at h
  split at h
  · rename_i hb
    have hN := nums_of_C hr0_6 hb.1
    have hK := looks_of_C hr0_7 hb.2
    split at h
    · rename_i hE
      simp only [Option.some.injEq, Prod.mk.injEq] at h
      obtain ⟨rfl, rfl, rfl⟩ := h
      exact YtidnopmjhhmedaaDoor.Error_ok _ _ _ _ _ _ _ _ _ _ _ _ _ _ _ hE w hN hK
    · rename_i hE
      simp only [Option.some.injEq, Prod.mk.injEq] at h
      obtain ⟨rfl, rfl, rfl⟩ := h
      exact YtidnopmjhhmedaaDoor.Error_bad _ _ _ _ _ _ _ _ _ _ _ _ _ _ _ _ rfl (by simpa using hE) w hN hK
  · cases h

def scale_Stated.f (a0_0 : Int) (a0_1 : Int) (a0_2 : Int) (a0_3 : Int) (a0_4 : Int) (a0_5 : Int) (l0_6 : List Int) (l0_7 : List (S71)) (a1 : Int) : Option (Int × Int) := if l0_6.length ≤ 17592186044416 ∧ l0_7.length ≤ 17592186044416 then (if askE a0_0 a0_1 a0_2 a0_3 a0_4 a0_5 l0_6 (l0_7.map toLk) (lies a1 0 a0_5) = 0 then some (max (-(solF a0_0 a0_1 a0_2 a0_3 a0_4 a0_5 l0_6 (l0_7.map toLk) a1.toNat).lo) (solF a0_0 a0_1 a0_2 a0_3 a0_4 a0_5 l0_6 (l0_7.map toLk) a1.toNat).hi, 0) else some (0, askE a0_0 a0_1 a0_2 a0_3 a0_4 a0_5 l0_6 (l0_7.map toLk) (lies a1 0 a0_5))) else none
set_option maxHeartbeats 1000000 in
theorem scale_Stated.calls (a0_0 : Int) (a0_1 : Int) (a0_2 : Int) (a0_3 : Int) (a0_4 : Int) (a0_5 : Int) (A0_6 : Option Addr) (c0_6 : Nat) (l0_6 : List Int) (A0_7 : Option Addr) (c0_7 : Nat) (l0_7 : List (S71)) (a1 : Int) (r1 : Int) (r2 : Int) (w : World) (hr0_6 : Kd.C (Kd.int .i64) w A0_6 l0_6.length l0_6) (hc0_6 : l0_6.length ≤ c0_6) (hr0_7 : Kd.C k71 w A0_7 l0_7.length l0_7) (hc0_7 : l0_7.length ≤ c0_7) (hWays : Go.Proofs.YtidnopmjhhmedaaDoor.Ways w) (h : scale_Stated.f a0_0 a0_1 a0_2 a0_3 a0_4 a0_5 l0_6 l0_7 a1 = some (r1, r2)) :
    Calls Tryd.prog 31 #[.agg #[.int .i64 a0_0, .int .i64 a0_1, .int .i64 a0_2, .int .i64 a0_3, .int .i64 a0_4, .int .i64 a0_5, .slice A0_6 l0_6.length c0_6, .slice A0_7 l0_7.length c0_7], .int .i64 a1] w fun e w' => e = .returned (.tuple #[.int .i64 r1, .int .i64 r2]) ∧ Below w.heap.size w w' := by
  unfold scale_Stated.f at h
  split at h
  · rename_i hb
    have hN := nums_of_C hr0_6 hb.1
    have hK := looks_of_C hr0_7 hb.2
    split at h
    · rename_i hE
      simp only [Option.some.injEq, Prod.mk.injEq] at h
      obtain ⟨rfl, rfl⟩ := h
      exact YtidnopmjhhmedaaDoor.Stated_ok _ _ _ _ _ _ _ _ _ _ _ _ _ _ _ hE w hN hK
    · rename_i hE
      simp only [Option.some.injEq, Prod.mk.injEq] at h
      obtain ⟨rfl, rfl⟩ := h
      exact YtidnopmjhhmedaaDoor.Stated_bad _ _ _ _ _ _ _ _ _ _ _ _ _ _ _ _ rfl (by simpa using hE) w hN hK
  · cases h

def scale_Worst.f (a0_0 : Int) (a0_1 : Int) (a0_2 : Int) (a0_3 : Int) (a0_4 : Int) (a0_5 : Int) (l0_6 : List Int) (l0_7 : List (S71)) : Option (Int × Int × Int) := if l0_6.length ≤ 17592186044416 ∧ l0_7.length ≤ 17592186044416 then (if askE a0_0 a0_1 a0_2 a0_3 a0_4 a0_5 l0_6 (l0_7.map toLk) true = 0 then some ((worstTo (solF a0_0 a0_1 a0_2 a0_3 a0_4 a0_5 l0_6 (l0_7.map toLk)) (a0_5.toNat + 1)).1, (worstTo (solF a0_0 a0_1 a0_2 a0_3 a0_4 a0_5 l0_6 (l0_7.map toLk)) (a0_5.toNat + 1)).2, 0) else some (0, 0, askE a0_0 a0_1 a0_2 a0_3 a0_4 a0_5 l0_6 (l0_7.map toLk) true)) else none
set_option maxHeartbeats 1000000 in
theorem scale_Worst.calls (a0_0 : Int) (a0_1 : Int) (a0_2 : Int) (a0_3 : Int) (a0_4 : Int) (a0_5 : Int) (A0_6 : Option Addr) (c0_6 : Nat) (l0_6 : List Int) (A0_7 : Option Addr) (c0_7 : Nat) (l0_7 : List (S71)) (r1 : Int) (r2 : Int) (r3 : Int) (w : World) (hr0_6 : Kd.C (Kd.int .i64) w A0_6 l0_6.length l0_6) (hc0_6 : l0_6.length ≤ c0_6) (hr0_7 : Kd.C k71 w A0_7 l0_7.length l0_7) (hc0_7 : l0_7.length ≤ c0_7) (hWays : Go.Proofs.YtidnopmjhhmedaaDoor.Ways w) (h : scale_Worst.f a0_0 a0_1 a0_2 a0_3 a0_4 a0_5 l0_6 l0_7 = some (r1, r2, r3)) :
    Calls Tryd.prog 33 #[.agg #[.int .i64 a0_0, .int .i64 a0_1, .int .i64 a0_2, .int .i64 a0_3, .int .i64 a0_4, .int .i64 a0_5, .slice A0_6 l0_6.length c0_6, .slice A0_7 l0_7.length c0_7]] w fun e w' => e = .returned (.tuple #[.int .i64 r1, .int .i64 r2, .int .i64 r3]) ∧ Below w.heap.size w w' := by
  unfold scale_Worst.f at h
  split at h
  · rename_i hb
    have hN := nums_of_C hr0_6 hb.1
    have hK := looks_of_C hr0_7 hb.2
    split at h
    · rename_i hE
      simp only [Option.some.injEq, Prod.mk.injEq] at h
      obtain ⟨rfl, rfl, rfl⟩ := h
      have hT := YtidnopmjhhmedaaDoor.check_ticks (YtidnopmjhhmedaaDoor.askE_ok hE).1
      exact YtidnopmjhhmedaaDoor.Worst_ok _ _ _ _ _ _ _ _ _ _ _ _ _ _ a0_5.toNat (by omega) hE w hN hK
    · rename_i hE
      simp only [Option.some.injEq, Prod.mk.injEq] at h
      obtain ⟨rfl, rfl, rfl⟩ := h
      exact YtidnopmjhhmedaaDoor.Worst_bad _ _ _ _ _ _ _ _ _ _ _ _ _ _ _ rfl (by simpa using hE) w hN hK
  · cases h

/-- What Meets tells where the book can be true. -/
def meetsP (F S J : Int) (s : YtidnopmjhhmedaaDoor.Sp) : Int × Int × Int :=
  if fewest F S J s.lo = -1 ∨ fewest F S J s.hi = -1 then (0, 0, 4) else (max (fewest F S J s.lo) (fewest F S J s.hi), if s.lo ≤ 0 ∧ 0 ≤ s.hi then 0 else min (fewest F S J s.lo) (fewest F S J s.hi), 0)
theorem meets_val (F S J : Int) (s : YtidnopmjhhmedaaDoor.Sp) : Value.tuple #[.int .i64 (meetsP F S J s).1, .int .i64 (meetsP F S J s).2.1, .int .i64 (meetsP F S J s).2.2] = if fewest F S J s.lo = -1 ∨ fewest F S J s.hi = -1 then .tuple #[.int .i64 0, .int .i64 0, .int .i64 4] else .tuple #[.int .i64 (max (fewest F S J s.lo) (fewest F S J s.hi)), .int .i64 (if s.lo ≤ 0 ∧ 0 ≤ s.hi then 0 else min (fewest F S J s.lo) (fewest F S J s.hi)), .int .i64 0] := by
  unfold meetsP
  split <;> rfl
def scale_Meets.f (a0_0 : Int) (a0_1 : Int) (a0_2 : Int) (a0_3 : Int) (a0_4 : Int) (a0_5 : Int) (l0_6 : List Int) (l0_7 : List (S71)) : Option (Int × Int × Int) := if l0_6.length ≤ 17592186044416 ∧ l0_7.length ≤ 17592186044416 then (if askE a0_0 a0_1 a0_2 a0_3 a0_4 a0_5 l0_6 (l0_7.map toLk) true = 0 then some (meetsP a0_0 a0_1 a0_2 (solF a0_0 a0_1 a0_2 a0_3 a0_4 a0_5 l0_6 (l0_7.map toLk) a0_5.toNat)) else some (0, 0, askE a0_0 a0_1 a0_2 a0_3 a0_4 a0_5 l0_6 (l0_7.map toLk) true)) else none
set_option maxHeartbeats 1000000 in
theorem scale_Meets.calls (a0_0 : Int) (a0_1 : Int) (a0_2 : Int) (a0_3 : Int) (a0_4 : Int) (a0_5 : Int) (A0_6 : Option Addr) (c0_6 : Nat) (l0_6 : List Int) (A0_7 : Option Addr) (c0_7 : Nat) (l0_7 : List (S71)) (r1 : Int) (r2 : Int) (r3 : Int) (w : World) (hr0_6 : Kd.C (Kd.int .i64) w A0_6 l0_6.length l0_6) (hc0_6 : l0_6.length ≤ c0_6) (hr0_7 : Kd.C k71 w A0_7 l0_7.length l0_7) (hc0_7 : l0_7.length ≤ c0_7) (hWays : Go.Proofs.YtidnopmjhhmedaaDoor.Ways w) (h : scale_Meets.f a0_0 a0_1 a0_2 a0_3 a0_4 a0_5 l0_6 l0_7 = some (r1, r2, r3)) :
    Calls Tryd.prog 35 #[.agg #[.int .i64 a0_0, .int .i64 a0_1, .int .i64 a0_2, .int .i64 a0_3, .int .i64 a0_4, .int .i64 a0_5, .slice A0_6 l0_6.length c0_6, .slice A0_7 l0_7.length c0_7]] w fun e w' => e = .returned (.tuple #[.int .i64 r1, .int .i64 r2, .int .i64 r3]) ∧ Below w.heap.size w w' := by
  unfold scale_Meets.f at h
  split at h
  · rename_i hb
    have hN := nums_of_C hr0_6 hb.1
    have hK := looks_of_C hr0_7 hb.2
    split at h
    · rename_i hE
      simp only [Option.some.injEq] at h
      have hT := YtidnopmjhhmedaaDoor.check_ticks (YtidnopmjhhmedaaDoor.askE_ok hE).1
      have hv := meets_val a0_0 a0_1 a0_2 (solF a0_0 a0_1 a0_2 a0_3 a0_4 a0_5 l0_6 (l0_7.map toLk) a0_5.toNat)
      rw [h] at hv
      exact YtidnopmjhhmedaaDoor.Meets_ok _ _ _ _ _ _ _ _ _ _ _ _ _ _ a0_5.toNat (by omega) hE w hWays hN hK _ _ rfl rfl _ hv
    · rename_i hE
      simp only [Option.some.injEq, Prod.mk.injEq] at h
      obtain ⟨rfl, rfl, rfl⟩ := h
      exact YtidnopmjhhmedaaDoor.Meets_bad _ _ _ _ _ _ _ _ _ _ _ _ _ _ _ rfl (by simpa using hE) w hN hK
  · cases h

end Go.Proofs.TrydX.X
end

section
-- Written by wip/tools/pr.py (a program of this repo over the kit's print.py).
namespace Go.Proofs.TrydX.X
open Go.RowKit Go.Proofs.YtidnopmjhhmedaaDoorW.PrintWords Go.Proofs.YtidnopmjhhmedaaDoorW.PrintLast Go.Proofs.YtidnopmjhhmedaaDoorW.PrintMore
attribute [local go_sem] max2_int min2_int max_two min_two max_three min_three max_four min_four   -- for this text's walks alone
set_option linter.unusedVariables false
set_option linter.unusedSimpArgs false

/-! ### remontoirlaw04_isRule: function 37 -/
def remontoirlaw04_isRule.f (a0_0 : Int) (a0_1 : Int) (a0_2 : Int) (a0_3 : Int) (a0_4 : Int) : Option (Bool) := (scale_Reach.f a0_0 a0_1 a0_2 a0_3 a0_4 0).bind fun bt317 => (if bt317.2.2 = 0 then ((remontoirref00_Lies.f a0_0 0 500).bind fun t321 => (if t321 = true then ((remontoirref00_Lies.f a0_1 0 500).bind fun t322 => (if t322 = true then ((remontoirref00_Lies.f a0_2 1 500).bind fun t323 => (if t323 = true then ((remontoirref00_Valid.f a0_3 a0_4 (-100) 100).bind fun t324 => (some t324)) else (some false))) else (some false))) else (some false))) else (some false))
set_option maxHeartbeats 8000000 in
set_option maxRecDepth 100000 in
theorem remontoirlaw04_isRule.calls (a0_0 : Int) (a0_1 : Int) (a0_2 : Int) (a0_3 : Int) (a0_4 : Int) (r : Bool) (w : World) (hWays : Go.Proofs.YtidnopmjhhmedaaDoor.Ways w) (h : remontoirlaw04_isRule.f a0_0 a0_1 a0_2 a0_3 a0_4 = some r) :
    Calls Tryd.prog 37 #[.agg #[.int .i64 a0_0, .int .i64 a0_1, .int .i64 a0_2, .int .i64 a0_3, .int .i64 a0_4]] w fun e w' => e = .returned (.bool r) ∧ Below w.heap.size w w' := by
  have hu25 := Tryd.underlying25
  have hu23 := Tryd.underlying23
  have HB := Aside0.mk (Below.refl w.heap.size w)
  have HWays := Aside0.mk hWays
  clear hWays
  have H : ((scale_Reach.f a0_0 a0_1 a0_2 a0_3 a0_4 0).bind fun bt317 => (if bt317.2.2 = 0 then ((remontoirref00_Lies.f a0_0 0 500).bind fun t321 => (if t321 = true then ((remontoirref00_Lies.f a0_1 0 500).bind fun t322 => (if t322 = true then ((remontoirref00_Lies.f a0_2 1 500).bind fun t323 => (if t323 = true then ((remontoirref00_Valid.f a0_3 a0_4 (-100) 100).bind fun t324 => (some t324)) else (some false))) else (some false))) else (some false))) else (some false))) = some r := h
  clear h
  replace H := Option.bind_eq_some_iff.mp H
  obtain ⟨⟨t317, t318, t319⟩, A20, H⟩ := H
  replace H : (if t319 = 0 then ((remontoirref00_Lies.f a0_0 0 500).bind fun t321 => (if t321 = true then ((remontoirref00_Lies.f a0_1 0 500).bind fun t322 => (if t322 = true then ((remontoirref00_Lies.f a0_2 1 500).bind fun t323 => (if t323 = true then ((remontoirref00_Valid.f a0_3 a0_4 (-100) 100).bind fun t324 => (some t324)) else (some false))) else (some false))) else (some false))) else (some false)) = some r := H
  have A2 := Aside0.mk A20
  clear A20
  by_cases c3 : t319 = 0
  · rw [if_pos c3] at H
    have c3b0 : (t319 == 0) = true := beq_iff_eq.mpr c3
    have c3b1 : (t319 != 0) = false := bne_eq_false_iff_eq.mpr c3
    clear c3
    replace H := Option.bind_eq_some_iff.mp H
    obtain ⟨t321, A40, H⟩ := H
    replace H : (if t321 = true then ((remontoirref00_Lies.f a0_1 0 500).bind fun t322 => (if t322 = true then ((remontoirref00_Lies.f a0_2 1 500).bind fun t323 => (if t323 = true then ((remontoirref00_Valid.f a0_3 a0_4 (-100) 100).bind fun t324 => (some t324)) else (some false))) else (some false))) else (some false)) = some r := H
    have A4 := Aside0.mk A40
    clear A40
    by_cases c5 : t321 = true
    · subst c5
      have H1 : ((remontoirref00_Lies.f a0_1 0 500).bind fun t322 => (if t322 = true then ((remontoirref00_Lies.f a0_2 1 500).bind fun t323 => (if t323 = true then ((remontoirref00_Valid.f a0_3 a0_4 (-100) 100).bind fun t324 => (some t324)) else (some false))) else (some false))) = some r := by rw [if_pos rfl] at H; exact H
      clear H
      have H := H1
      clear H1
      replace H := Option.bind_eq_some_iff.mp H
      obtain ⟨t322, A60, H⟩ := H
      replace H : (if t322 = true then ((remontoirref00_Lies.f a0_2 1 500).bind fun t323 => (if t323 = true then ((remontoirref00_Valid.f a0_3 a0_4 (-100) 100).bind fun t324 => (some t324)) else (some false))) else (some false)) = some r := H
      have A6 := Aside0.mk A60
      clear A60
      by_cases c7 : t322 = true
      · subst c7
        have H1 : ((remontoirref00_Lies.f a0_2 1 500).bind fun t323 => (if t323 = true then ((remontoirref00_Valid.f a0_3 a0_4 (-100) 100).bind fun t324 => (some t324)) else (some false))) = some r := by rw [if_pos rfl] at H; exact H
        clear H
        have H := H1
        clear H1
        replace H := Option.bind_eq_some_iff.mp H
        obtain ⟨t323, A80, H⟩ := H
        replace H : (if t323 = true then ((remontoirref00_Valid.f a0_3 a0_4 (-100) 100).bind fun t324 => (some t324)) else (some false)) = some r := H
        have A8 := Aside0.mk A80
        clear A80
        by_cases c9 : t323 = true
        · subst c9
          have H1 : ((remontoirref00_Valid.f a0_3 a0_4 (-100) 100).bind fun t324 => (some t324)) = some r := by rw [if_pos rfl] at H; exact H
          clear H
          have H := H1
          clear H1
          replace H := Option.bind_eq_some_iff.mp H
          obtain ⟨t324, A100, H⟩ := H
          replace H : (some t324) = some r := H
          have A10 := Aside0.mk A100
          clear A100
          obtain rfl := Option.some.inj H
          go_enter Tryd.func37, Tryd.ntmps37
          go_wp2_with (first | ((with_reducible refine gate_dst (N := 1) rfl ?_); refine box_event ?hg (N := 1) ?hd (cs := #[.int .i64 a0_0, .int .i64 a0_1, .int .i64 a0_2, .int .i64 a0_3, .int .i64 a0_4]) (t := 25) ?hr ?_; (case hd => rfl); (case hg => rfl); (case hr => first | (go_simp; done) | (go_simp; rfl)); intro gb316 hg w11 hbox hb; have n0_ := Aside0.mk (below_step (by repeat (first | (with_reducible first | exact HB.out | apply below_alloc | apply pw_below_drewN | apply below_drew1) | exact HB.out)) hb); have n1_ := Aside0.mk (hbox); have n2_ := Aside0.mk ((by rw [hg]; exact (below_size (by repeat (first | (with_reducible first | exact HB.out | apply below_alloc | apply pw_below_drewN | apply below_drew1) | exact HB.out))) : w.heap.size ≤ gb316)); have n3_ := Aside0.mk ((by rw [hg]; exact (below_size (by repeat (first | (with_reducible first | exact HB.out | apply below_alloc | apply pw_below_drewN | apply below_drew1) | exact HB.out))) : w.heap.size ≤ gb316)); clear HB; have HB := n0_; have BK316 := n1_; have GW316 := n2_; have GE316 := n3_; clear n0_ n1_ n2_ n3_; clear hb hbox hg; have hcz12_0 : w11.cell? ⟨gb316, 0, none⟩ = some (.int .i64 a0_0) := (blk_cell BK316.out 0).trans rfl; have hcz12_1 : w11.cell? ⟨gb316, 1, none⟩ = some (.int .i64 a0_1) := (blk_cell BK316.out 1).trans rfl; have hcz12_2 : w11.cell? ⟨gb316, 2, none⟩ = some (.int .i64 a0_2) := (blk_cell BK316.out 2).trans rfl; have hcz12_3 : w11.cell? ⟨gb316, 3, none⟩ = some (.int .i64 a0_3) := (blk_cell BK316.out 3).trans rfl; have hcz12_4 : w11.cell? ⟨gb316, 4, none⟩ = some (.int .i64 a0_4) := (blk_cell BK316.out 4).trans rfl; have hfz12_0 := blk_frozen BK316.out 0; have hfz12_1 := blk_frozen BK316.out 1; have hfz12_2 := blk_frozen BK316.out 2; have hfz12_3 := blk_frozen BK316.out 3; have hfz12_4 := blk_frozen BK316.out 4) | ((with_reducible refine gate_callee (f := 22) rfl ?_); refine goesL_ (some 7) rfl rfl Tryd.func22 (by kernel_rfl) rfl #[.agg #[.int .i64 a0_0, .int .i64 a0_1, .int .i64 a0_2, .int .i64 a0_3, .int .i64 a0_4], .int .i64 0] rfl (by (try simp only [List.map_toArray, List.map_cons, List.map_nil]); first | done | rfl | (simp only [List.length_drop, List.length_take]; rfl)) ?_; (with_reducible refine (scale_Reach.calls a0_0 a0_1 a0_2 a0_3 a0_4 0 t317 t318 t319 _ ?side1 A2.out).mono ?_); (case side1 => exact Go.Proofs.YtidnopmjhhmedaaDoor.Ways.below HWays.out (by repeat (first | (with_reducible first | exact HB.out | apply below_alloc | apply pw_below_drewN | apply below_drew1 | refine below_set ?_ GE316.out) | exact HB.out))); rintro e w13 ⟨rfl, hb⟩; refine ⟨_, rfl, ?_⟩; have n0_ := Aside0.mk (blk_below (g := gb316) (o := .cells #[.int .i64 a0_0, .int .i64 a0_1, .int .i64 a0_2, .int .i64 a0_3, .int .i64 a0_4] 25 (0, 0)) (by (with_reducible repeat (first | refine blk_drewN ?_ _ | refine blk_drew ?_ | refine blk_alloc ?_ _)); exact BK316.out) hb); have n1_ := Aside0.mk (below_step (by repeat (first | (with_reducible first | exact HB.out | apply below_alloc | apply pw_below_drewN | apply below_drew1 | refine below_set ?_ GE316.out) | exact HB.out)) hb); clear BK316; clear HB; have BK316 := n0_; have HB := n1_; clear n0_ n1_; (try clear hb); (try clear hb2); (try clear hk); (try clear hi)) | ((with_reducible refine gate_dst (N := 3) rfl ?_); refine box_event ?hg (N := 3) ?hd (cs := #[.int .i64 0, .int .i64 0]) (t := 23) ?hr ?_; (case hd => rfl); (case hg => rfl); (case hr => first | (go_simp; done) | (go_simp; rfl)); intro gb320 hg w14 hbox hb; have n0_ := Aside0.mk (blk_below (g := gb316) (o := .cells #[.int .i64 a0_0, .int .i64 a0_1, .int .i64 a0_2, .int .i64 a0_3, .int .i64 a0_4] 25 (0, 0)) (by (with_reducible repeat (first | refine blk_drewN ?_ _ | refine blk_drew ?_ | refine blk_alloc ?_ _)); exact BK316.out) hb); have n1_ := Aside0.mk (below_step (by repeat (first | (with_reducible first | exact HB.out | apply below_alloc | apply pw_below_drewN | apply below_drew1 | refine below_set ?_ GE316.out) | exact HB.out)) hb); have n2_ := Aside0.mk (hbox); have n3_ := Aside0.mk ((by rw [hg]; exact (below_size (by repeat (first | (with_reducible first | exact HB.out | apply below_alloc | apply pw_below_drewN | apply below_drew1 | refine below_set ?_ GE316.out) | exact HB.out))) : w.heap.size ≤ gb320)); have n4_ := Aside0.mk ((by rw [hg]; exact (below_size (by repeat (first | (with_reducible first | exact HB.out | apply below_alloc | apply pw_below_drewN | apply below_drew1 | refine below_set ?_ GE316.out) | exact HB.out))) : w.heap.size ≤ gb320)); have n5_ := Aside0.mk ((by rw [hg]; exact Nat.ne_of_lt (blk_lt (g := gb316) (o := .cells #[.int .i64 a0_0, .int .i64 a0_1, .int .i64 a0_2, .int .i64 a0_3, .int .i64 a0_4] 25 (0, 0)) (by (with_reducible repeat (first | refine blk_drewN ?_ _ | refine blk_drew ?_ | refine blk_alloc ?_ _)); exact BK316.out)) : gb316 ≠ gb320)); have n6_ := Aside0.mk ((by rw [hg]; exact Nat.ne_of_gt (blk_lt (g := gb316) (o := .cells #[.int .i64 a0_0, .int .i64 a0_1, .int .i64 a0_2, .int .i64 a0_3, .int .i64 a0_4] 25 (0, 0)) (by (with_reducible repeat (first | refine blk_drewN ?_ _ | refine blk_drew ?_ | refine blk_alloc ?_ _)); exact BK316.out)) : gb320 ≠ gb316)); clear BK316; clear HB; have BK316 := n0_; have HB := n1_; have BK320 := n2_; have GW320 := n3_; have GE320 := n4_; have NB316_320 := n5_; have NB320_316 := n6_; clear n0_ n1_ n2_ n3_ n4_ n5_ n6_; clear hb hbox hg; have hnb15 := NB320_316.out; have hnc15 := NB316_320.out; have hcz16_0 : w14.cell? ⟨gb320, 0, none⟩ = some (.int .i64 0) := (blk_cell BK320.out 0).trans rfl; have hcz16_1 : w14.cell? ⟨gb320, 1, none⟩ = some (.int .i64 0) := (blk_cell BK320.out 1).trans rfl; have hfz16_0 := blk_frozen BK320.out 0; have hfz16_1 := blk_frozen BK320.out 1; have hcz17_0 : w14.cell? ⟨gb316, 0, none⟩ = some (.int .i64 a0_0) := (blk_cell BK316.out 0).trans rfl; have hcz17_1 : w14.cell? ⟨gb316, 1, none⟩ = some (.int .i64 a0_1) := (blk_cell BK316.out 1).trans rfl; have hcz17_2 : w14.cell? ⟨gb316, 2, none⟩ = some (.int .i64 a0_2) := (blk_cell BK316.out 2).trans rfl; have hcz17_3 : w14.cell? ⟨gb316, 3, none⟩ = some (.int .i64 a0_3) := (blk_cell BK316.out 3).trans rfl; have hcz17_4 : w14.cell? ⟨gb316, 4, none⟩ = some (.int .i64 a0_4) := (blk_cell BK316.out 4).trans rfl; have hfz17_0 := blk_frozen BK316.out 0; have hfz17_1 := blk_frozen BK316.out 1; have hfz17_2 := blk_frozen BK316.out 2; have hfz17_3 := blk_frozen BK316.out 3; have hfz17_4 := blk_frozen BK316.out 4) | (go_at_call 42; (with_reducible refine (remontoirref00_Lies.calls a0_0 0 500 true _ A4.out).mono ?_); rintro e w' ⟨rfl, ⟨nd, rfl⟩⟩) | (go_at_call 42; (with_reducible refine (remontoirref00_Lies.calls a0_1 0 500 true _ A6.out).mono ?_); rintro e w' ⟨rfl, ⟨nd, rfl⟩⟩) | (go_at_call 42; (with_reducible refine (remontoirref00_Lies.calls a0_2 1 500 true _ A8.out).mono ?_); rintro e w' ⟨rfl, ⟨nd, rfl⟩⟩) | (go_at_call 73; (with_reducible refine (remontoirref00_Valid.calls a0_3 a0_4 (-100) 100 t324 _ A10.out).mono ?_); rintro e w18 ⟨rfl, hb⟩; have n0_ := Aside0.mk (blk_below (g := gb316) (o := .cells #[.int .i64 a0_0, .int .i64 a0_1, .int .i64 a0_2, .int .i64 a0_3, .int .i64 a0_4] 25 (0, 0)) (by (with_reducible repeat (first | refine blk_drewN ?_ _ | refine blk_drew ?_ | refine blk_alloc ?_ _)); refine blk_far ?_ NB316_320.out _; (with_reducible repeat (first | refine blk_drewN ?_ _ | refine blk_drew ?_ | refine blk_alloc ?_ _)); refine blk_far ?_ NB316_320.out _; (with_reducible repeat (first | refine blk_drewN ?_ _ | refine blk_drew ?_ | refine blk_alloc ?_ _)); exact BK316.out) hb); have n1_ := Aside0.mk (blk_below (g := gb320) (o := .cells #[.int .i64 t317, .int .i64 t318] 23 (0, 0)) (by (with_reducible repeat (first | refine blk_drewN ?_ _ | refine blk_drew ?_ | refine blk_alloc ?_ _)); refine blk_put (cs := #[.int .i64 t317, .int .i64 0]) ?_ 1 _ rfl; (with_reducible repeat (first | refine blk_drewN ?_ _ | refine blk_drew ?_ | refine blk_alloc ?_ _)); refine blk_put (cs := #[.int .i64 0, .int .i64 0]) ?_ 0 _ rfl; (with_reducible repeat (first | refine blk_drewN ?_ _ | refine blk_drew ?_ | refine blk_alloc ?_ _)); exact BK320.out) hb); have n2_ := Aside0.mk (below_step (by repeat (first | (with_reducible first | exact HB.out | apply below_alloc | apply pw_below_drewN | apply below_drew1 | refine below_set ?_ GE316.out | refine below_set ?_ GE320.out) | exact HB.out)) hb); clear BK316; clear BK320; clear HB; have BK316 := n0_; have BK320 := n1_; have HB := n2_; clear n0_ n1_ n2_; (try clear hb); (try clear hb2); (try clear hk); (try clear hi)))
          go_ret
          exact ⟨by first | rfl | (simp [errW_none, errW_some] <;> rfl) | (simp [*, errW_none, errW_some] <;> rfl), by repeat (first | (with_reducible first | exact HB.out | apply below_alloc | apply pw_below_drewN | apply below_drew1 | refine below_set ?_ GE316.out | refine below_set ?_ GE320.out) | exact HB.out)⟩
        · replace c9 := Bool.eq_false_iff.mpr c9
          subst c9
          have H1 : (some false) = some r := by rw [if_neg (show ¬ (false = true) by decide)] at H; exact H
          clear H
          have H := H1
          clear H1
          obtain rfl := Option.some.inj H
          go_enter Tryd.func37, Tryd.ntmps37
          go_wp2_with (first | ((with_reducible refine gate_dst (N := 1) rfl ?_); refine box_event ?hg (N := 1) ?hd (cs := #[.int .i64 a0_0, .int .i64 a0_1, .int .i64 a0_2, .int .i64 a0_3, .int .i64 a0_4]) (t := 25) ?hr ?_; (case hd => rfl); (case hg => rfl); (case hr => first | (go_simp; done) | (go_simp; rfl)); intro gb316 hg w19 hbox hb; have n0_ := Aside0.mk (below_step (by repeat (first | (with_reducible first | exact HB.out | apply below_alloc | apply pw_below_drewN | apply below_drew1) | exact HB.out)) hb); have n1_ := Aside0.mk (hbox); have n2_ := Aside0.mk ((by rw [hg]; exact (below_size (by repeat (first | (with_reducible first | exact HB.out | apply below_alloc | apply pw_below_drewN | apply below_drew1) | exact HB.out))) : w.heap.size ≤ gb316)); have n3_ := Aside0.mk ((by rw [hg]; exact (below_size (by repeat (first | (with_reducible first | exact HB.out | apply below_alloc | apply pw_below_drewN | apply below_drew1) | exact HB.out))) : w.heap.size ≤ gb316)); clear HB; have HB := n0_; have BK316 := n1_; have GW316 := n2_; have GE316 := n3_; clear n0_ n1_ n2_ n3_; clear hb hbox hg; have hcz20_0 : w19.cell? ⟨gb316, 0, none⟩ = some (.int .i64 a0_0) := (blk_cell BK316.out 0).trans rfl; have hcz20_1 : w19.cell? ⟨gb316, 1, none⟩ = some (.int .i64 a0_1) := (blk_cell BK316.out 1).trans rfl; have hcz20_2 : w19.cell? ⟨gb316, 2, none⟩ = some (.int .i64 a0_2) := (blk_cell BK316.out 2).trans rfl; have hcz20_3 : w19.cell? ⟨gb316, 3, none⟩ = some (.int .i64 a0_3) := (blk_cell BK316.out 3).trans rfl; have hcz20_4 : w19.cell? ⟨gb316, 4, none⟩ = some (.int .i64 a0_4) := (blk_cell BK316.out 4).trans rfl; have hfz20_0 := blk_frozen BK316.out 0; have hfz20_1 := blk_frozen BK316.out 1; have hfz20_2 := blk_frozen BK316.out 2; have hfz20_3 := blk_frozen BK316.out 3; have hfz20_4 := blk_frozen BK316.out 4) | ((with_reducible refine gate_callee (f := 22) rfl ?_); refine goesL_ (some 7) rfl rfl Tryd.func22 (by kernel_rfl) rfl #[.agg #[.int .i64 a0_0, .int .i64 a0_1, .int .i64 a0_2, .int .i64 a0_3, .int .i64 a0_4], .int .i64 0] rfl (by (try simp only [List.map_toArray, List.map_cons, List.map_nil]); first | done | rfl | (simp only [List.length_drop, List.length_take]; rfl)) ?_; (with_reducible refine (scale_Reach.calls a0_0 a0_1 a0_2 a0_3 a0_4 0 t317 t318 t319 _ ?side1 A2.out).mono ?_); (case side1 => exact Go.Proofs.YtidnopmjhhmedaaDoor.Ways.below HWays.out (by repeat (first | (with_reducible first | exact HB.out | apply below_alloc | apply pw_below_drewN | apply below_drew1 | refine below_set ?_ GE316.out) | exact HB.out))); rintro e w21 ⟨rfl, hb⟩; refine ⟨_, rfl, ?_⟩; have n0_ := Aside0.mk (blk_below (g := gb316) (o := .cells #[.int .i64 a0_0, .int .i64 a0_1, .int .i64 a0_2, .int .i64 a0_3, .int .i64 a0_4] 25 (0, 0)) (by (with_reducible repeat (first | refine blk_drewN ?_ _ | refine blk_drew ?_ | refine blk_alloc ?_ _)); exact BK316.out) hb); have n1_ := Aside0.mk (below_step (by repeat (first | (with_reducible first | exact HB.out | apply below_alloc | apply pw_below_drewN | apply below_drew1 | refine below_set ?_ GE316.out) | exact HB.out)) hb); clear BK316; clear HB; have BK316 := n0_; have HB := n1_; clear n0_ n1_; (try clear hb); (try clear hb2); (try clear hk); (try clear hi)) | ((with_reducible refine gate_dst (N := 3) rfl ?_); refine box_event ?hg (N := 3) ?hd (cs := #[.int .i64 0, .int .i64 0]) (t := 23) ?hr ?_; (case hd => rfl); (case hg => rfl); (case hr => first | (go_simp; done) | (go_simp; rfl)); intro gb320 hg w22 hbox hb; have n0_ := Aside0.mk (blk_below (g := gb316) (o := .cells #[.int .i64 a0_0, .int .i64 a0_1, .int .i64 a0_2, .int .i64 a0_3, .int .i64 a0_4] 25 (0, 0)) (by (with_reducible repeat (first | refine blk_drewN ?_ _ | refine blk_drew ?_ | refine blk_alloc ?_ _)); exact BK316.out) hb); have n1_ := Aside0.mk (below_step (by repeat (first | (with_reducible first | exact HB.out | apply below_alloc | apply pw_below_drewN | apply below_drew1 | refine below_set ?_ GE316.out) | exact HB.out)) hb); have n2_ := Aside0.mk (hbox); have n3_ := Aside0.mk ((by rw [hg]; exact (below_size (by repeat (first | (with_reducible first | exact HB.out | apply below_alloc | apply pw_below_drewN | apply below_drew1 | refine below_set ?_ GE316.out) | exact HB.out))) : w.heap.size ≤ gb320)); have n4_ := Aside0.mk ((by rw [hg]; exact (below_size (by repeat (first | (with_reducible first | exact HB.out | apply below_alloc | apply pw_below_drewN | apply below_drew1 | refine below_set ?_ GE316.out) | exact HB.out))) : w.heap.size ≤ gb320)); have n5_ := Aside0.mk ((by rw [hg]; exact Nat.ne_of_lt (blk_lt (g := gb316) (o := .cells #[.int .i64 a0_0, .int .i64 a0_1, .int .i64 a0_2, .int .i64 a0_3, .int .i64 a0_4] 25 (0, 0)) (by (with_reducible repeat (first | refine blk_drewN ?_ _ | refine blk_drew ?_ | refine blk_alloc ?_ _)); exact BK316.out)) : gb316 ≠ gb320)); have n6_ := Aside0.mk ((by rw [hg]; exact Nat.ne_of_gt (blk_lt (g := gb316) (o := .cells #[.int .i64 a0_0, .int .i64 a0_1, .int .i64 a0_2, .int .i64 a0_3, .int .i64 a0_4] 25 (0, 0)) (by (with_reducible repeat (first | refine blk_drewN ?_ _ | refine blk_drew ?_ | refine blk_alloc ?_ _)); exact BK316.out)) : gb320 ≠ gb316)); clear BK316; clear HB; have BK316 := n0_; have HB := n1_; have BK320 := n2_; have GW320 := n3_; have GE320 := n4_; have NB316_320 := n5_; have NB320_316 := n6_; clear n0_ n1_ n2_ n3_ n4_ n5_ n6_; clear hb hbox hg; have hnb23 := NB320_316.out; have hnc23 := NB316_320.out; have hcz24_0 : w22.cell? ⟨gb320, 0, none⟩ = some (.int .i64 0) := (blk_cell BK320.out 0).trans rfl; have hcz24_1 : w22.cell? ⟨gb320, 1, none⟩ = some (.int .i64 0) := (blk_cell BK320.out 1).trans rfl; have hfz24_0 := blk_frozen BK320.out 0; have hfz24_1 := blk_frozen BK320.out 1; have hcz25_0 : w22.cell? ⟨gb316, 0, none⟩ = some (.int .i64 a0_0) := (blk_cell BK316.out 0).trans rfl; have hcz25_1 : w22.cell? ⟨gb316, 1, none⟩ = some (.int .i64 a0_1) := (blk_cell BK316.out 1).trans rfl; have hcz25_2 : w22.cell? ⟨gb316, 2, none⟩ = some (.int .i64 a0_2) := (blk_cell BK316.out 2).trans rfl; have hcz25_3 : w22.cell? ⟨gb316, 3, none⟩ = some (.int .i64 a0_3) := (blk_cell BK316.out 3).trans rfl; have hcz25_4 : w22.cell? ⟨gb316, 4, none⟩ = some (.int .i64 a0_4) := (blk_cell BK316.out 4).trans rfl; have hfz25_0 := blk_frozen BK316.out 0; have hfz25_1 := blk_frozen BK316.out 1; have hfz25_2 := blk_frozen BK316.out 2; have hfz25_3 := blk_frozen BK316.out 3; have hfz25_4 := blk_frozen BK316.out 4) | (go_at_call 42; (with_reducible refine (remontoirref00_Lies.calls a0_0 0 500 true _ A4.out).mono ?_); rintro e w' ⟨rfl, ⟨nd, rfl⟩⟩) | (go_at_call 42; (with_reducible refine (remontoirref00_Lies.calls a0_1 0 500 true _ A6.out).mono ?_); rintro e w' ⟨rfl, ⟨nd, rfl⟩⟩) | (go_at_call 42; (with_reducible refine (remontoirref00_Lies.calls a0_2 1 500 false _ A8.out).mono ?_); rintro e w' ⟨rfl, ⟨nd, rfl⟩⟩))
          go_ret
          exact ⟨by first | rfl | (simp [errW_none, errW_some] <;> rfl) | (simp [*, errW_none, errW_some] <;> rfl), by repeat (first | (with_reducible first | exact HB.out | apply below_alloc | apply pw_below_drewN | apply below_drew1 | refine below_set ?_ GE316.out | refine below_set ?_ GE320.out) | exact HB.out)⟩
      · replace c7 := Bool.eq_false_iff.mpr c7
        subst c7
        have H1 : (some false) = some r := by rw [if_neg (show ¬ (false = true) by decide)] at H; exact H
        clear H
        have H := H1
        clear H1
        obtain rfl := Option.some.inj H
        go_enter Tryd.func37, Tryd.ntmps37
        go_wp2_with (first | ((with_reducible refine gate_dst (N := 1) rfl ?_); refine box_event ?hg (N := 1) ?hd (cs := #[.int .i64 a0_0, .int .i64 a0_1, .int .i64 a0_2, .int .i64 a0_3, .int .i64 a0_4]) (t := 25) ?hr ?_; (case hd => rfl); (case hg => rfl); (case hr => first | (go_simp; done) | (go_simp; rfl)); intro gb316 hg w26 hbox hb; have n0_ := Aside0.mk (below_step (by repeat (first | (with_reducible first | exact HB.out | apply below_alloc | apply pw_below_drewN | apply below_drew1) | exact HB.out)) hb); have n1_ := Aside0.mk (hbox); have n2_ := Aside0.mk ((by rw [hg]; exact (below_size (by repeat (first | (with_reducible first | exact HB.out | apply below_alloc | apply pw_below_drewN | apply below_drew1) | exact HB.out))) : w.heap.size ≤ gb316)); have n3_ := Aside0.mk ((by rw [hg]; exact (below_size (by repeat (first | (with_reducible first | exact HB.out | apply below_alloc | apply pw_below_drewN | apply below_drew1) | exact HB.out))) : w.heap.size ≤ gb316)); clear HB; have HB := n0_; have BK316 := n1_; have GW316 := n2_; have GE316 := n3_; clear n0_ n1_ n2_ n3_; clear hb hbox hg; have hcz27_0 : w26.cell? ⟨gb316, 0, none⟩ = some (.int .i64 a0_0) := (blk_cell BK316.out 0).trans rfl; have hcz27_1 : w26.cell? ⟨gb316, 1, none⟩ = some (.int .i64 a0_1) := (blk_cell BK316.out 1).trans rfl; have hcz27_2 : w26.cell? ⟨gb316, 2, none⟩ = some (.int .i64 a0_2) := (blk_cell BK316.out 2).trans rfl; have hcz27_3 : w26.cell? ⟨gb316, 3, none⟩ = some (.int .i64 a0_3) := (blk_cell BK316.out 3).trans rfl; have hcz27_4 : w26.cell? ⟨gb316, 4, none⟩ = some (.int .i64 a0_4) := (blk_cell BK316.out 4).trans rfl; have hfz27_0 := blk_frozen BK316.out 0; have hfz27_1 := blk_frozen BK316.out 1; have hfz27_2 := blk_frozen BK316.out 2; have hfz27_3 := blk_frozen BK316.out 3; have hfz27_4 := blk_frozen BK316.out 4) | ((with_reducible refine gate_callee (f := 22) rfl ?_); refine goesL_ (some 7) rfl rfl Tryd.func22 (by kernel_rfl) rfl #[.agg #[.int .i64 a0_0, .int .i64 a0_1, .int .i64 a0_2, .int .i64 a0_3, .int .i64 a0_4], .int .i64 0] rfl (by (try simp only [List.map_toArray, List.map_cons, List.map_nil]); first | done | rfl | (simp only [List.length_drop, List.length_take]; rfl)) ?_; (with_reducible refine (scale_Reach.calls a0_0 a0_1 a0_2 a0_3 a0_4 0 t317 t318 t319 _ ?side1 A2.out).mono ?_); (case side1 => exact Go.Proofs.YtidnopmjhhmedaaDoor.Ways.below HWays.out (by repeat (first | (with_reducible first | exact HB.out | apply below_alloc | apply pw_below_drewN | apply below_drew1 | refine below_set ?_ GE316.out) | exact HB.out))); rintro e w28 ⟨rfl, hb⟩; refine ⟨_, rfl, ?_⟩; have n0_ := Aside0.mk (blk_below (g := gb316) (o := .cells #[.int .i64 a0_0, .int .i64 a0_1, .int .i64 a0_2, .int .i64 a0_3, .int .i64 a0_4] 25 (0, 0)) (by (with_reducible repeat (first | refine blk_drewN ?_ _ | refine blk_drew ?_ | refine blk_alloc ?_ _)); exact BK316.out) hb); have n1_ := Aside0.mk (below_step (by repeat (first | (with_reducible first | exact HB.out | apply below_alloc | apply pw_below_drewN | apply below_drew1 | refine below_set ?_ GE316.out) | exact HB.out)) hb); clear BK316; clear HB; have BK316 := n0_; have HB := n1_; clear n0_ n1_; (try clear hb); (try clear hb2); (try clear hk); (try clear hi)) | ((with_reducible refine gate_dst (N := 3) rfl ?_); refine box_event ?hg (N := 3) ?hd (cs := #[.int .i64 0, .int .i64 0]) (t := 23) ?hr ?_; (case hd => rfl); (case hg => rfl); (case hr => first | (go_simp; done) | (go_simp; rfl)); intro gb320 hg w29 hbox hb; have n0_ := Aside0.mk (blk_below (g := gb316) (o := .cells #[.int .i64 a0_0, .int .i64 a0_1, .int .i64 a0_2, .int .i64 a0_3, .int .i64 a0_4] 25 (0, 0)) (by (with_reducible repeat (first | refine blk_drewN ?_ _ | refine blk_drew ?_ | refine blk_alloc ?_ _)); exact BK316.out) hb); have n1_ := Aside0.mk (below_step (by repeat (first | (with_reducible first | exact HB.out | apply below_alloc | apply pw_below_drewN | apply below_drew1 | refine below_set ?_ GE316.out) | exact HB.out)) hb); have n2_ := Aside0.mk (hbox); have n3_ := Aside0.mk ((by rw [hg]; exact (below_size (by repeat (first | (with_reducible first | exact HB.out | apply below_alloc | apply pw_below_drewN | apply below_drew1 | refine below_set ?_ GE316.out) | exact HB.out))) : w.heap.size ≤ gb320)); have n4_ := Aside0.mk ((by rw [hg]; exact (below_size (by repeat (first | (with_reducible first | exact HB.out | apply below_alloc | apply pw_below_drewN | apply below_drew1 | refine below_set ?_ GE316.out) | exact HB.out))) : w.heap.size ≤ gb320)); have n5_ := Aside0.mk ((by rw [hg]; exact Nat.ne_of_lt (blk_lt (g := gb316) (o := .cells #[.int .i64 a0_0, .int .i64 a0_1, .int .i64 a0_2, .int .i64 a0_3, .int .i64 a0_4] 25 (0, 0)) (by (with_reducible repeat (first | refine blk_drewN ?_ _ | refine blk_drew ?_ | refine blk_alloc ?_ _)); exact BK316.out)) : gb316 ≠ gb320)); have n6_ := Aside0.mk ((by rw [hg]; exact Nat.ne_of_gt (blk_lt (g := gb316) (o := .cells #[.int .i64 a0_0, .int .i64 a0_1, .int .i64 a0_2, .int .i64 a0_3, .int .i64 a0_4] 25 (0, 0)) (by (with_reducible repeat (first | refine blk_drewN ?_ _ | refine blk_drew ?_ | refine blk_alloc ?_ _)); exact BK316.out)) : gb320 ≠ gb316)); clear BK316; clear HB; have BK316 := n0_; have HB := n1_; have BK320 := n2_; have GW320 := n3_; have GE320 := n4_; have NB316_320 := n5_; have NB320_316 := n6_; clear n0_ n1_ n2_ n3_ n4_ n5_ n6_; clear hb hbox hg; have hnb30 := NB320_316.out; have hnc30 := NB316_320.out; have hcz31_0 : w29.cell? ⟨gb320, 0, none⟩ = some (.int .i64 0) := (blk_cell BK320.out 0).trans rfl; have hcz31_1 : w29.cell? ⟨gb320, 1, none⟩ = some (.int .i64 0) := (blk_cell BK320.out 1).trans rfl; have hfz31_0 := blk_frozen BK320.out 0; have hfz31_1 := blk_frozen BK320.out 1; have hcz32_0 : w29.cell? ⟨gb316, 0, none⟩ = some (.int .i64 a0_0) := (blk_cell BK316.out 0).trans rfl; have hcz32_1 : w29.cell? ⟨gb316, 1, none⟩ = some (.int .i64 a0_1) := (blk_cell BK316.out 1).trans rfl; have hcz32_2 : w29.cell? ⟨gb316, 2, none⟩ = some (.int .i64 a0_2) := (blk_cell BK316.out 2).trans rfl; have hcz32_3 : w29.cell? ⟨gb316, 3, none⟩ = some (.int .i64 a0_3) := (blk_cell BK316.out 3).trans rfl; have hcz32_4 : w29.cell? ⟨gb316, 4, none⟩ = some (.int .i64 a0_4) := (blk_cell BK316.out 4).trans rfl; have hfz32_0 := blk_frozen BK316.out 0; have hfz32_1 := blk_frozen BK316.out 1; have hfz32_2 := blk_frozen BK316.out 2; have hfz32_3 := blk_frozen BK316.out 3; have hfz32_4 := blk_frozen BK316.out 4) | (go_at_call 42; (with_reducible refine (remontoirref00_Lies.calls a0_0 0 500 true _ A4.out).mono ?_); rintro e w' ⟨rfl, ⟨nd, rfl⟩⟩) | (go_at_call 42; (with_reducible refine (remontoirref00_Lies.calls a0_1 0 500 false _ A6.out).mono ?_); rintro e w' ⟨rfl, ⟨nd, rfl⟩⟩))
        go_ret
        exact ⟨by first | rfl | (simp [errW_none, errW_some] <;> rfl) | (simp [*, errW_none, errW_some] <;> rfl), by repeat (first | (with_reducible first | exact HB.out | apply below_alloc | apply pw_below_drewN | apply below_drew1 | refine below_set ?_ GE316.out | refine below_set ?_ GE320.out) | exact HB.out)⟩
    · replace c5 := Bool.eq_false_iff.mpr c5
      subst c5
      have H1 : (some false) = some r := by rw [if_neg (show ¬ (false = true) by decide)] at H; exact H
      clear H
      have H := H1
      clear H1
      obtain rfl := Option.some.inj H
      go_enter Tryd.func37, Tryd.ntmps37
      go_wp2_with (first | ((with_reducible refine gate_dst (N := 1) rfl ?_); refine box_event ?hg (N := 1) ?hd (cs := #[.int .i64 a0_0, .int .i64 a0_1, .int .i64 a0_2, .int .i64 a0_3, .int .i64 a0_4]) (t := 25) ?hr ?_; (case hd => rfl); (case hg => rfl); (case hr => first | (go_simp; done) | (go_simp; rfl)); intro gb316 hg w33 hbox hb; have n0_ := Aside0.mk (below_step (by repeat (first | (with_reducible first | exact HB.out | apply below_alloc | apply pw_below_drewN | apply below_drew1) | exact HB.out)) hb); have n1_ := Aside0.mk (hbox); have n2_ := Aside0.mk ((by rw [hg]; exact (below_size (by repeat (first | (with_reducible first | exact HB.out | apply below_alloc | apply pw_below_drewN | apply below_drew1) | exact HB.out))) : w.heap.size ≤ gb316)); have n3_ := Aside0.mk ((by rw [hg]; exact (below_size (by repeat (first | (with_reducible first | exact HB.out | apply below_alloc | apply pw_below_drewN | apply below_drew1) | exact HB.out))) : w.heap.size ≤ gb316)); clear HB; have HB := n0_; have BK316 := n1_; have GW316 := n2_; have GE316 := n3_; clear n0_ n1_ n2_ n3_; clear hb hbox hg; have hcz34_0 : w33.cell? ⟨gb316, 0, none⟩ = some (.int .i64 a0_0) := (blk_cell BK316.out 0).trans rfl; have hcz34_1 : w33.cell? ⟨gb316, 1, none⟩ = some (.int .i64 a0_1) := (blk_cell BK316.out 1).trans rfl; have hcz34_2 : w33.cell? ⟨gb316, 2, none⟩ = some (.int .i64 a0_2) := (blk_cell BK316.out 2).trans rfl; have hcz34_3 : w33.cell? ⟨gb316, 3, none⟩ = some (.int .i64 a0_3) := (blk_cell BK316.out 3).trans rfl; have hcz34_4 : w33.cell? ⟨gb316, 4, none⟩ = some (.int .i64 a0_4) := (blk_cell BK316.out 4).trans rfl; have hfz34_0 := blk_frozen BK316.out 0; have hfz34_1 := blk_frozen BK316.out 1; have hfz34_2 := blk_frozen BK316.out 2; have hfz34_3 := blk_frozen BK316.out 3; have hfz34_4 := blk_frozen BK316.out 4) | ((with_reducible refine gate_callee (f := 22) rfl ?_); refine goesL_ (some 7) rfl rfl Tryd.func22 (by kernel_rfl) rfl #[.agg #[.int .i64 a0_0, .int .i64 a0_1, .int .i64 a0_2, .int .i64 a0_3, .int .i64 a0_4], .int .i64 0] rfl (by (try simp only [List.map_toArray, List.map_cons, List.map_nil]); first | done | rfl | (simp only [List.length_drop, List.length_take]; rfl)) ?_; (with_reducible refine (scale_Reach.calls a0_0 a0_1 a0_2 a0_3 a0_4 0 t317 t318 t319 _ ?side1 A2.out).mono ?_); (case side1 => exact Go.Proofs.YtidnopmjhhmedaaDoor.Ways.below HWays.out (by repeat (first | (with_reducible first | exact HB.out | apply below_alloc | apply pw_below_drewN | apply below_drew1 | refine below_set ?_ GE316.out) | exact HB.out))); rintro e w35 ⟨rfl, hb⟩; refine ⟨_, rfl, ?_⟩; have n0_ := Aside0.mk (blk_below (g := gb316) (o := .cells #[.int .i64 a0_0, .int .i64 a0_1, .int .i64 a0_2, .int .i64 a0_3, .int .i64 a0_4] 25 (0, 0)) (by (with_reducible repeat (first | refine blk_drewN ?_ _ | refine blk_drew ?_ | refine blk_alloc ?_ _)); exact BK316.out) hb); have n1_ := Aside0.mk (below_step (by repeat (first | (with_reducible first | exact HB.out | apply below_alloc | apply pw_below_drewN | apply below_drew1 | refine below_set ?_ GE316.out) | exact HB.out)) hb); clear BK316; clear HB; have BK316 := n0_; have HB := n1_; clear n0_ n1_; (try clear hb); (try clear hb2); (try clear hk); (try clear hi)) | ((with_reducible refine gate_dst (N := 3) rfl ?_); refine box_event ?hg (N := 3) ?hd (cs := #[.int .i64 0, .int .i64 0]) (t := 23) ?hr ?_; (case hd => rfl); (case hg => rfl); (case hr => first | (go_simp; done) | (go_simp; rfl)); intro gb320 hg w36 hbox hb; have n0_ := Aside0.mk (blk_below (g := gb316) (o := .cells #[.int .i64 a0_0, .int .i64 a0_1, .int .i64 a0_2, .int .i64 a0_3, .int .i64 a0_4] 25 (0, 0)) (by (with_reducible repeat (first | refine blk_drewN ?_ _ | refine blk_drew ?_ | refine blk_alloc ?_ _)); exact BK316.out) hb); have n1_ := Aside0.mk (below_step (by repeat (first | (with_reducible first | exact HB.out | apply below_alloc | apply pw_below_drewN | apply below_drew1 | refine below_set ?_ GE316.out) | exact HB.out)) hb); have n2_ := Aside0.mk (hbox); have n3_ := Aside0.mk ((by rw [hg]; exact (below_size (by repeat (first | (with_reducible first | exact HB.out | apply below_alloc | apply pw_below_drewN | apply below_drew1 | refine below_set ?_ GE316.out) | exact HB.out))) : w.heap.size ≤ gb320)); have n4_ := Aside0.mk ((by rw [hg]; exact (below_size (by repeat (first | (with_reducible first | exact HB.out | apply below_alloc | apply pw_below_drewN | apply below_drew1 | refine below_set ?_ GE316.out) | exact HB.out))) : w.heap.size ≤ gb320)); have n5_ := Aside0.mk ((by rw [hg]; exact Nat.ne_of_lt (blk_lt (g := gb316) (o := .cells #[.int .i64 a0_0, .int .i64 a0_1, .int .i64 a0_2, .int .i64 a0_3, .int .i64 a0_4] 25 (0, 0)) (by (with_reducible repeat (first | refine blk_drewN ?_ _ | refine blk_drew ?_ | refine blk_alloc ?_ _)); exact BK316.out)) : gb316 ≠ gb320)); have n6_ := Aside0.mk ((by rw [hg]; exact Nat.ne_of_gt (blk_lt (g := gb316) (o := .cells #[.int .i64 a0_0, .int .i64 a0_1, .int .i64 a0_2, .int .i64 a0_3, .int .i64 a0_4] 25 (0, 0)) (by (with_reducible repeat (first | refine blk_drewN ?_ _ | refine blk_drew ?_ | refine blk_alloc ?_ _)); exact BK316.out)) : gb320 ≠ gb316)); clear BK316; clear HB; have BK316 := n0_; have HB := n1_; have BK320 := n2_; have GW320 := n3_; have GE320 := n4_; have NB316_320 := n5_; have NB320_316 := n6_; clear n0_ n1_ n2_ n3_ n4_ n5_ n6_; clear hb hbox hg; have hnb37 := NB320_316.out; have hnc37 := NB316_320.out; have hcz38_0 : w36.cell? ⟨gb320, 0, none⟩ = some (.int .i64 0) := (blk_cell BK320.out 0).trans rfl; have hcz38_1 : w36.cell? ⟨gb320, 1, none⟩ = some (.int .i64 0) := (blk_cell BK320.out 1).trans rfl; have hfz38_0 := blk_frozen BK320.out 0; have hfz38_1 := blk_frozen BK320.out 1; have hcz39_0 : w36.cell? ⟨gb316, 0, none⟩ = some (.int .i64 a0_0) := (blk_cell BK316.out 0).trans rfl; have hcz39_1 : w36.cell? ⟨gb316, 1, none⟩ = some (.int .i64 a0_1) := (blk_cell BK316.out 1).trans rfl; have hcz39_2 : w36.cell? ⟨gb316, 2, none⟩ = some (.int .i64 a0_2) := (blk_cell BK316.out 2).trans rfl; have hcz39_3 : w36.cell? ⟨gb316, 3, none⟩ = some (.int .i64 a0_3) := (blk_cell BK316.out 3).trans rfl; have hcz39_4 : w36.cell? ⟨gb316, 4, none⟩ = some (.int .i64 a0_4) := (blk_cell BK316.out 4).trans rfl; have hfz39_0 := blk_frozen BK316.out 0; have hfz39_1 := blk_frozen BK316.out 1; have hfz39_2 := blk_frozen BK316.out 2; have hfz39_3 := blk_frozen BK316.out 3; have hfz39_4 := blk_frozen BK316.out 4) | (go_at_call 42; (with_reducible refine (remontoirref00_Lies.calls a0_0 0 500 false _ A4.out).mono ?_); rintro e w' ⟨rfl, ⟨nd, rfl⟩⟩))
      go_ret
      exact ⟨by first | rfl | (simp [errW_none, errW_some] <;> rfl) | (simp [*, errW_none, errW_some] <;> rfl), by repeat (first | (with_reducible first | exact HB.out | apply below_alloc | apply pw_below_drewN | apply below_drew1 | refine below_set ?_ GE316.out | refine below_set ?_ GE320.out) | exact HB.out)⟩
  · rw [if_neg c3] at H
    have c3b0 : (t319 == 0) = false := beq_eq_false_iff_ne.mpr c3
    have c3b1 : (t319 != 0) = true := bne_iff_ne.mpr c3
    obtain rfl := Option.some.inj H
    go_enter Tryd.func37, Tryd.ntmps37
    go_wp2_with (first | ((with_reducible refine gate_dst (N := 1) rfl ?_); refine box_event ?hg (N := 1) ?hd (cs := #[.int .i64 a0_0, .int .i64 a0_1, .int .i64 a0_2, .int .i64 a0_3, .int .i64 a0_4]) (t := 25) ?hr ?_; (case hd => rfl); (case hg => rfl); (case hr => first | (go_simp; done) | (go_simp; rfl)); intro gb316 hg w40 hbox hb; have n0_ := Aside0.mk (below_step (by repeat (first | (with_reducible first | exact HB.out | apply below_alloc | apply pw_below_drewN | apply below_drew1) | exact HB.out)) hb); have n1_ := Aside0.mk (hbox); have n2_ := Aside0.mk ((by rw [hg]; exact (below_size (by repeat (first | (with_reducible first | exact HB.out | apply below_alloc | apply pw_below_drewN | apply below_drew1) | exact HB.out))) : w.heap.size ≤ gb316)); have n3_ := Aside0.mk ((by rw [hg]; exact (below_size (by repeat (first | (with_reducible first | exact HB.out | apply below_alloc | apply pw_below_drewN | apply below_drew1) | exact HB.out))) : w.heap.size ≤ gb316)); clear HB; have HB := n0_; have BK316 := n1_; have GW316 := n2_; have GE316 := n3_; clear n0_ n1_ n2_ n3_; clear hb hbox hg; have hcz41_0 : w40.cell? ⟨gb316, 0, none⟩ = some (.int .i64 a0_0) := (blk_cell BK316.out 0).trans rfl; have hcz41_1 : w40.cell? ⟨gb316, 1, none⟩ = some (.int .i64 a0_1) := (blk_cell BK316.out 1).trans rfl; have hcz41_2 : w40.cell? ⟨gb316, 2, none⟩ = some (.int .i64 a0_2) := (blk_cell BK316.out 2).trans rfl; have hcz41_3 : w40.cell? ⟨gb316, 3, none⟩ = some (.int .i64 a0_3) := (blk_cell BK316.out 3).trans rfl; have hcz41_4 : w40.cell? ⟨gb316, 4, none⟩ = some (.int .i64 a0_4) := (blk_cell BK316.out 4).trans rfl; have hfz41_0 := blk_frozen BK316.out 0; have hfz41_1 := blk_frozen BK316.out 1; have hfz41_2 := blk_frozen BK316.out 2; have hfz41_3 := blk_frozen BK316.out 3; have hfz41_4 := blk_frozen BK316.out 4) | ((with_reducible refine gate_callee (f := 22) rfl ?_); refine goesL_ (some 7) rfl rfl Tryd.func22 (by kernel_rfl) rfl #[.agg #[.int .i64 a0_0, .int .i64 a0_1, .int .i64 a0_2, .int .i64 a0_3, .int .i64 a0_4], .int .i64 0] rfl (by (try simp only [List.map_toArray, List.map_cons, List.map_nil]); first | done | rfl | (simp only [List.length_drop, List.length_take]; rfl)) ?_; (with_reducible refine (scale_Reach.calls a0_0 a0_1 a0_2 a0_3 a0_4 0 t317 t318 t319 _ ?side1 A2.out).mono ?_); (case side1 => exact Go.Proofs.YtidnopmjhhmedaaDoor.Ways.below HWays.out (by repeat (first | (with_reducible first | exact HB.out | apply below_alloc | apply pw_below_drewN | apply below_drew1 | refine below_set ?_ GE316.out) | exact HB.out))); rintro e w42 ⟨rfl, hb⟩; refine ⟨_, rfl, ?_⟩; have n0_ := Aside0.mk (blk_below (g := gb316) (o := .cells #[.int .i64 a0_0, .int .i64 a0_1, .int .i64 a0_2, .int .i64 a0_3, .int .i64 a0_4] 25 (0, 0)) (by (with_reducible repeat (first | refine blk_drewN ?_ _ | refine blk_drew ?_ | refine blk_alloc ?_ _)); exact BK316.out) hb); have n1_ := Aside0.mk (below_step (by repeat (first | (with_reducible first | exact HB.out | apply below_alloc | apply pw_below_drewN | apply below_drew1 | refine below_set ?_ GE316.out) | exact HB.out)) hb); clear BK316; clear HB; have BK316 := n0_; have HB := n1_; clear n0_ n1_; (try clear hb); (try clear hb2); (try clear hk); (try clear hi)) | ((with_reducible refine gate_dst (N := 3) rfl ?_); refine box_event ?hg (N := 3) ?hd (cs := #[.int .i64 0, .int .i64 0]) (t := 23) ?hr ?_; (case hd => rfl); (case hg => rfl); (case hr => first | (go_simp; done) | (go_simp; rfl)); intro gb320 hg w43 hbox hb; have n0_ := Aside0.mk (blk_below (g := gb316) (o := .cells #[.int .i64 a0_0, .int .i64 a0_1, .int .i64 a0_2, .int .i64 a0_3, .int .i64 a0_4] 25 (0, 0)) (by (with_reducible repeat (first | refine blk_drewN ?_ _ | refine blk_drew ?_ | refine blk_alloc ?_ _)); exact BK316.out) hb); have n1_ := Aside0.mk (below_step (by repeat (first | (with_reducible first | exact HB.out | apply below_alloc | apply pw_below_drewN | apply below_drew1 | refine below_set ?_ GE316.out) | exact HB.out)) hb); have n2_ := Aside0.mk (hbox); have n3_ := Aside0.mk ((by rw [hg]; exact (below_size (by repeat (first | (with_reducible first | exact HB.out | apply below_alloc | apply pw_below_drewN | apply below_drew1 | refine below_set ?_ GE316.out) | exact HB.out))) : w.heap.size ≤ gb320)); have n4_ := Aside0.mk ((by rw [hg]; exact (below_size (by repeat (first | (with_reducible first | exact HB.out | apply below_alloc | apply pw_below_drewN | apply below_drew1 | refine below_set ?_ GE316.out) | exact HB.out))) : w.heap.size ≤ gb320)); have n5_ := Aside0.mk ((by rw [hg]; exact Nat.ne_of_lt (blk_lt (g := gb316) (o := .cells #[.int .i64 a0_0, .int .i64 a0_1, .int .i64 a0_2, .int .i64 a0_3, .int .i64 a0_4] 25 (0, 0)) (by (with_reducible repeat (first | refine blk_drewN ?_ _ | refine blk_drew ?_ | refine blk_alloc ?_ _)); exact BK316.out)) : gb316 ≠ gb320)); have n6_ := Aside0.mk ((by rw [hg]; exact Nat.ne_of_gt (blk_lt (g := gb316) (o := .cells #[.int .i64 a0_0, .int .i64 a0_1, .int .i64 a0_2, .int .i64 a0_3, .int .i64 a0_4] 25 (0, 0)) (by (with_reducible repeat (first | refine blk_drewN ?_ _ | refine blk_drew ?_ | refine blk_alloc ?_ _)); exact BK316.out)) : gb320 ≠ gb316)); clear BK316; clear HB; have BK316 := n0_; have HB := n1_; have BK320 := n2_; have GW320 := n3_; have GE320 := n4_; have NB316_320 := n5_; have NB320_316 := n6_; clear n0_ n1_ n2_ n3_ n4_ n5_ n6_; clear hb hbox hg; have hnb44 := NB320_316.out; have hnc44 := NB316_320.out; have hcz45_0 : w43.cell? ⟨gb320, 0, none⟩ = some (.int .i64 0) := (blk_cell BK320.out 0).trans rfl; have hcz45_1 : w43.cell? ⟨gb320, 1, none⟩ = some (.int .i64 0) := (blk_cell BK320.out 1).trans rfl; have hfz45_0 := blk_frozen BK320.out 0; have hfz45_1 := blk_frozen BK320.out 1))
    go_ret
    exact ⟨by first | rfl | (simp [errW_none, errW_some] <;> rfl) | (simp [*, errW_none, errW_some] <;> rfl), by repeat (first | (with_reducible first | exact HB.out | apply below_alloc | apply pw_below_drewN | apply below_drew1 | refine below_set ?_ GE316.out | refine below_set ?_ GE320.out) | exact HB.out)⟩

end Go.Proofs.TrydX.X
end
