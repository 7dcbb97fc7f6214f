/- PROVED: StarLeftCardSaid, for every input, where the listed variable reads as the program's text lays it. Part 4 of 7: of this session; merged by wip/tools/mkClaim.py. -/
import Derived.Test.YtohbeninpmmmpaaDoorMLeftc
import Derived.Laws.EntriesVeiled
import Derived.Test.YtohbeninpmmmpaaDoorMLeftb
import Derived.MapKept
import Derived.Maps.RangeRun
import Derived.Maps.RangeWalk
import Derived.Test.YtohbeninpmmmpaaDoorRows
import Derived.KernelRfl
import Derived.ProofKit
import Derived.LaidMore
import Derived.LaidHandle
import Derived.OpenShut
import Derived.Handed
section
/- Case. -/
set_option linter.unusedSimpArgs false
set_option linter.unusedVariables false
namespace Go.Proofs.YtohbeninpmmmpaaDoor
open Go.RowKit Go.Proofs.YtohbeninpmmmpaaDoorW.PrintWords Go.Proofs.YtohbeninpmmmpaaDoorW.PrintLast Go.Proofs.YtohbeninpmmmpaaDoorW.PrintMore TrydX.X
attribute [local go_sem] Oper.semAt_some
/-- A row of numbers that is handed back. -/
structure RowIs (w w' : World) (A : Option Addr) (c : Nat) (xs : List Int) : Prop where
  cap : xs.length ≤ c
  new : ∀ ad, A = some ad → w.heap.size ≤ ad.block
  row : Kd.C (Kd.int .i64) w' A xs.length xs
theorem pmap_ne {w : World} {m g : Nat} {es : List ((Int × Int) × Int)} {cs : Array Value} {t : TypeId} (h : PMap w m es) (hg : w.heap[g]? = some (.cells cs t (0, 0))) : m ≠ g := by
  rintro rfl
  obtain ⟨arr, clk, h1, _⟩ := h
  rw [h1] at hg
  cases hg
theorem C_same {w W : World} {A : Option Addr} {xs : List Int} (h : Kd.C (Kd.int .i64) w A xs.length xs) (hs : ∀ ad, A = some ad → W.heap[ad.block]? = w.heap[ad.block]?) : Kd.C (Kd.int .i64) W A xs.length xs := by
  have h2 := Kd.reads_of_C (enc := Value.int .i64) (d := (0 : Int)) (h1 := fun _ => rfl) h
  refine Kd.C_of_reads (d := (0 : Int)) (h1 := fun _ => rfl) ⟨h2.1, h2.2.1, fun hn => ?_⟩
  obtain ⟨ad, e, hc⟩ := h2.2.2 hn
  refine ⟨ad, e, fun j hj => ?_⟩
  refine (World.cell?_of_block ?_).trans (hc j hj)
  rw [add_block]
  exact hs ad e
theorem case0_ready {most : Bool} {U : Nat → Prop} {C : List Con} {n : Nat} {es : List Con} (hes : es = addC [] C) (h : Ready U C) (hi : U (1 + n)) : ∃ C', case0 most n es = addC [] C' ∧ Ready U C' := by
  subst hes
  refine ⟨_, ?_, h.step most hi (by omega)⟩
  rw [addC_append, addC_two]
  rfl
def case1T : Bool × List (List Nat × List Nat) := (true, [([], []), ([], []), ([], []), ([2], [2]), ([3], [3]), ([1, 4], [1, 4]), ([0, 5, 5], [0, 5]), ([6], [6]), ([7], [7]), ([7], [7]), ([7], [7]), ([], []), ([], []), ([11, 8, 6, 0, 1, 2, 3, 4, 5, 6, 7, 8, 11, 12], [8, 11]), ([12, 9, 13, 0, 1, 2, 3, 4, 5, 6, 7, 8, 9, 11, 12, 13], [9, 12]), ([10, 14, 0, 1, 2, 3, 4, 5, 6, 7, 8, 9, 10, 11, 12, 13, 14], [10])])
def case1B : List Nat := [0, 0, 0, 4, 12, 30, 63, 127, 255, 255, 255, 0, 0, 6655, 15359, 32767]
theorem case1_tab : rtab .any (opsOf Tryd.f30 1) = case1T := by kernel_rfl
theorem case1_bits : waitsOk case1T.2 case1B = true := by kernel_rfl
def case13T : Bool × List (List Nat × List Nat) := (true, [([], []), ([0], [0]), ([], []), ([], []), ([], []), ([3, 4], [3, 4]), ([2, 5, 5], [2, 5]), ([6], [6]), ([1, 7, 6], [1, 7]), ([0, 1, 2, 3, 4, 5, 6, 7, 8], []), ([9, 8, 8, 0, 1, 2, 3, 4, 5, 6, 7, 8], [8, 9])])
def case13B : List Nat := [0, 1, 0, 0, 0, 24, 60, 124, 255, 511, 1023]
theorem case13_tab : rtab .any (opsOf Tryd.f30 13) = case13T := by kernel_rfl
theorem case13_bits : waitsOk case13T.2 case13B = true := by kernel_rfl
def case18T : Bool × List (List Nat × List Nat) := (true, [([], []), ([0], [0]), ([], []), ([], []), ([], []), ([3, 4], [3, 4]), ([2, 5, 5], [2, 5]), ([6], [6]), ([7], [7]), ([1, 8, 6], [1, 8]), ([0, 1, 2, 3, 4, 5, 6, 7, 8, 9], []), ([10, 9, 9, 0, 1, 2, 3, 4, 5, 6, 7, 8, 9], [9, 10])])
def case18B : List Nat := [0, 1, 0, 0, 0, 24, 60, 124, 252, 511, 1023, 2047]
theorem case18_tab : rtab .any (opsOf Tryd.f30 18) = case18T := by kernel_rfl
theorem case18_bits : waitsOk case18T.2 case18B = true := by kernel_rfl
def case23T : Bool × List (List Nat × List Nat) := (true, [([], []), ([0], [0]), ([], []), ([], []), ([], []), ([3, 4], [3, 4]), ([2, 5, 5], [2, 5]), ([6], [6]), ([1, 7, 6], [1, 7]), ([0, 1, 2, 3, 4, 5, 6, 7, 8], []), ([9, 8, 8, 0, 1, 2, 3, 4, 5, 6, 7, 8], [8, 9])])
def case23B : List Nat := [0, 1, 0, 0, 0, 24, 60, 124, 255, 511, 1023]
theorem case23_tab : rtab .any (opsOf Tryd.f30 23) = case23T := by kernel_rfl
theorem case23_bits : waitsOk case23T.2 case23B = true := by kernel_rfl
set_option maxRecDepth 100000 in
set_option maxHeartbeats 8000000 in
theorem Case_any (N b0 b1 r0 r1 : Int) (A5 : Option Addr) (c5 : Nat) (l5 : List S23) (A6 : Option Addr) (c6 : Nat) (l6 : List S23) (A7 : Option Addr) (c7 : Nat) (l7 : List S63) (n : Int) (most : Bool)
    (w : World) (hK : Kinds w) (h5' : Kd.C k23 w A5 l5.length l5) (hc5 : l5.length ≤ c5) (h6' : Kd.C k23 w A6 l6.length l6) (hc6 : l6.length ≤ c6) (h7' : Kd.C k63 w A7 l7.length l7) (hc7 : l7.length ≤ c7)
    (hl : l5.length ≤ 4611686018427387904 ∧ l6.length ≤ 4611686018427387904 ∧ l7.length ≤ 4611686018427387904) (ok : Bool) (hok : ok = decide (0 ≤ n ∧ n ≤ wrap64 (N - 1))) (err : Int) (herr : askE N b0 b1 r0 r1 l5 l6 l7 ok = err)
    (o0 o1 o2 : List Int) (ho : (if err = 0 then caseF most N.toNat l5.length l6.length n.toNat (openedM N b0 b1 r0 r1 l5 l6 l7 []) else ([], [], [])) = (o0, o1, o2)) :
    Calls Tryd.prog 30 #[.agg #[.int .i64 N, .int .i64 b0, .int .i64 b1, .int .i64 r0, .int .i64 r1, .slice A5 l5.length c5, .slice A6 l6.length c6, .slice A7 l7.length c7], .int .i64 n, .bool most] w fun e w' =>
      ∃ B0 d0 B1 d1 B2 d2, e = .returned (.tuple #[.agg #[.slice B0 o0.length d0, .slice B1 o1.length d1, .slice B2 o2.length d2], .int .i64 err]) ∧ Below w.heap.size w w' ∧ RowIs w w' B0 d0 o0 ∧ RowIs w w' B1 d1 o1 ∧ RowIs w w' B2 d2 o2 := by
  have HERR := Lib.hid herr
  have HK := Lib.hid hK
  have HOK := Lib.hid hok
  have HO := Lib.hid ho
  clear herr hK hok ho
  go_enter Tryd.func30, Tryd.ntmps30
  go_wp2_with fail
  refine wp_calm ?_
  have hb0 : Below w.heap.size w ((w.alloc (.cells #[.int .i64 N, .int .i64 b0, .int .i64 b1, .int .i64 r0, .int .i64 r1, .slice A5 l5.length c5, .slice A6 l6.length c6, .slice A7 l7.length c7] 27)).alloc (.cells #[.slice none 0 0, .slice none 0 0, .slice none 0 0] 30)).drew := by
    refine Below.drew ?_
    repeat with_reducible (first | exact Below.refl _ _ | refine Below.alloc ?_ (by simp <;> omega) _)
  have hr0 : ((w.alloc (.cells #[.int .i64 N, .int .i64 b0, .int .i64 b1, .int .i64 r0, .int .i64 r1, .slice A5 l5.length c5, .slice A6 l6.length c6, .slice A7 l7.length c7] 27)).alloc (.cells #[.slice none 0 0, .slice none 0 0, .slice none 0 0] 30)).drew.heap[w.heap.size + 1]? = some (.cells #[.slice none 0 0, .slice none 0 0, .slice none 0 0] 30 (0, 0)) := by
    have h := blk_new (w.alloc (.cells #[.int .i64 N, .int .i64 b0, .int .i64 b1, .int .i64 r0, .int .i64 r1, .slice A5 l5.length c5, .slice A6 l6.length c6, .slice A7 l7.length c7] 27)) (.cells #[.slice none 0 0, .slice none 0 0, .slice none 0 0] 30)
    rw [World.size_alloc] at h
    exact blk_drew h
  have hV : ((w.alloc (.cells #[.int .i64 N, .int .i64 b0, .int .i64 b1, .int .i64 r0, .int .i64 r1, .slice A5 l5.length c5, .slice A6 l6.length c6, .slice A7 l7.length c7] 27)).alloc (.cells #[.slice none 0 0, .slice none 0 0, .slice none 0 0] 30)).drew.heap[w.heap.size]? = some (.cells #[.int .i64 N, .int .i64 b0, .int .i64 b1, .int .i64 r0, .int .i64 r1, .slice A5 l5.length c5, .slice A6 l6.length c6, .slice A7 l7.length c7] 27 (0, 0)) ∧ ((w.alloc (.cells #[.int .i64 N, .int .i64 b0, .int .i64 b1, .int .i64 r0, .int .i64 r1, .slice A5 l5.length c5, .slice A6 l6.length c6, .slice A7 l7.length c7] 27)).alloc (.cells #[.slice none 0 0, .slice none 0 0, .slice none 0 0] 30)).drew.heap[w.heap.size + 1]? = some (.cells #[.slice none 0 0, .slice none 0 0, .slice none 0 0] 30 (0, 0)) := ⟨blk_drew (blk_alloc (blk_new w _) _), hr0⟩
  have hlt0 : w.heap.size + 1 < ((w.alloc (.cells #[.int .i64 N, .int .i64 b0, .int .i64 b1, .int .i64 r0, .int .i64 r1, .slice A5 l5.length c5, .slice A6 l6.length c6, .slice A7 l7.length c7] 27)).alloc (.cells #[.slice none 0 0, .slice none 0 0, .slice none 0 0] 30)).drew.heap.size := blk_lt hr0
  refine start_ (n := 16) (S := (fun w' => w'.heap[w.heap.size]? = some (.cells #[.int .i64 N, .int .i64 b0, .int .i64 b1, .int .i64 r0, .int .i64 r1, .slice A5 l5.length c5, .slice A6 l6.length c6, .slice A7 l7.length c7] 27 (0, 0)) ∧ w'.heap[w.heap.size + 1]? = some (.cells #[.slice none 0 0, .slice none 0 0, .slice none 0 0] 30 (0, 0)))) (ds := []) #[false, false, false, false, false, false, false, false, false, false, false, false, false, false, false, false] (by kernel_rfl) rfl rfl hV (fun hHeld => ?_)
  refine with_tabW case1_tab case1_bits (fun HT_ HW_ => ?_)
  generalize ((w.alloc (.cells #[.int .i64 N, .int .i64 b0, .int .i64 b1, .int .i64 r0, .int .i64 r1, .slice A5 l5.length c5, .slice A6 l6.length c6, .slice A7 l7.length c7] 27)).alloc (.cells #[.slice none 0 0, .slice none 0 0, .slice none 0 0] 30)).drew = V0 at hb0 hr0 hHeld hlt0 ⊢
  refine takeA 0 18 rfl rfl (by rintro w' ⟨s0, s1⟩; exact exec_load_blk s0 rfl rfl Tryd.underlying27 rfl (by kernel_rfl)) ?_
  refine pureA 1 19 ?_
  refine pureA 2 20 ?_
  refine takeA 3 21 rfl rfl (by rintro w' ⟨s0, s1⟩; exact exec_load_int ((blk_cell s0 0).trans rfl) rfl rfl) ?_
  refine pureA 4 22 ?_
  refine any_upto (m := 15) (r := 1) (Lend := #[true, true, true, true, true, true, true, true, true, true, true, true, true, true, true, false]) (fun listed a W => ∃ (x : Nat → Value) (bv : Array Value) (t' : Tb), a = { tmps := #[.agg #[.int .i64 N, .int .i64 b0, .int .i64 b1, .int .i64 r0, .int .i64 r1, .slice A5 l5.length c5, .slice A6 l6.length c6, .slice A7 l7.length c7], .int .i64 n, .bool most, .pointer (some ⟨w.heap.size, 0, none⟩), undef, undef, .pointer (some ⟨w.heap.size + 1, 0, none⟩), .int .i64 0, x 8, x 9, undef, undef, undef, undef, undef, undef, undef, x 17, .agg #[.int .i64 N, .int .i64 b0, .int .i64 b1, .int .i64 r0, .int .i64 r1, .slice A5 l5.length c5, .slice A6 l6.length c6, .slice A7 l7.length c7], .int .i64 n, .pointer (some ⟨w.heap.size, 0, none⟩), .int .i64 N, .int .i64 (wrap64 (N - 1)), x 23, x 24, x 25, x 26, x 27, undef, undef, undef, undef, undef, undef, undef, undef, undef, undef, undef, undef, undef, undef, undef, undef, undef, undef, undef, undef, undef, undef, undef, undef, undef, undef, undef, undef, undef, undef, undef, undef, undef, undef, undef, undef, undef, undef, undef, undef, undef, undef, undef, undef, undef, undef, undef, undef, undef, undef, undef, undef, undef, undef, undef, undef, undef, undef, undef, undef, undef, undef, undef, undef, undef], defers := [] } ∧ (∀ j, j < 5 → listed.getD j false = true) ∧ ((fun w' => w'.heap[w.heap.size]? = some (.cells #[.int .i64 N, .int .i64 b0, .int .i64 b1, .int .i64 r0, .int .i64 r1, .slice A5 l5.length c5, .slice A6 l6.length c6, .slice A7 l7.length c7] 27 (0, 0)) ∧ w'.heap[w.heap.size + 1]? = some (.cells #[.slice none 0 0, .slice none 0 0, .slice none 0 0] 30 (0, 0))) W) ∧ (listed.getD 5 false = true → x 23 = .bool ok) ∧ AskR N b0 b1 r0 r1 (.slice A5 l5.length c5) (.slice A6 l6.length c6) (.slice A7 l7.length c7) l5 l6 l7 err w.heap.size 6 24 17 25 26 27 8 9 V0 listed x bv t' W) (by kernel_rfl) rfl rfl ?step ?fin 11 _ _ _ (closed_of (by kernel_rfl)) (fun j hj => ?late) ⟨fun k => undef, #[], zeroT, rfl, fun j hj => ?early, hHeld, (fun h => by cases h), AskR.start (fun k hk => ?none0) _ _ _⟩ (by decide)
  case late =>
    by_cases e : j = 15
    · subst e; rfl
    · exact getD_out (by show 16 ≤ j; omega)
  case early =>
    have : j = 0 ∨ j = 1 ∨ j = 2 ∨ j = 3 ∨ j = 4 := by omega
    rcases this with rfl | rfl | rfl | rfl | rfl <;> rfl
  case none0 =>
    have : k = 0 ∨ k = 1 ∨ k = 2 ∨ k = 3 ∨ k = 4 ∨ k = 5 ∨ k = 6 ∨ k = 7 ∨ k = 8 := by omega
    rcases this with rfl | rfl | rfl | rfl | rfl | rfl | rfl | rfl | rfl <;> rfl
  case step =>
    rintro listed a W i o hc ⟨x, bv, t', rfl, hE, hS, h5, hA⟩ hi ho hun hpre K hK
    have hs : listed.size = 16 := hc.1
    have hE2 : ∀ j, j < 5 → j ≠ i := fun j hj e => by rw [e] at hj; rw [hE i hj] at hun; cases hun
    have hE3 : ∀ (i : Nat), i < listed.size → ∀ j, j < 5 → (listed.setIfInBounds i true).getD j false = true := fun i hi j hj => by rw [getD_set hi]; split <;> first | rfl | exact hE j hj
    have hno : ∀ j, i ∈ preds .any _ j → listed.getD j false = false := fun j hj => by
      cases h : listed.getD j false with
      | false => rfl
      | true => have := hc.2 j h i hj; rw [hun] at this; cases this
    have hno2 : ∀ j p, p ∈ preds .any _ j → listed.getD p false = false → listed.getD j false = false := fun j p hj hp => by
      cases h : listed.getD j false with
      | false => rfl
      | true => have := hc.2 j h p hj; rw [hp] at this; cases this
    have hcases : i = 5 ∨ i = 6 ∨ i = 7 ∨ i = 8 ∨ i = 9 ∨ i = 10 ∨ i = 11 ∨ i = 12 ∨ i = 13 ∨ i = 14 := by have := hE2 i; omega
    rcases hcases with rfl | rfl | rfl | rfl | rfl | rfl | rfl | rfl | rfl | rfl
    · cases ho
      refine call_ 59 #[.int .i64 n, .int .i64 0, .int .i64 (wrap64 (N - 1))] (by rfl) rfl (by go_simp) ?_
      refine (star_within.calls n 0 (wrap64 (N - 1)) ok W (by rw [within_is, HOK.out])).mono ?_
      rintro e w' ⟨rfl, hdr⟩
      have hb : Below W.heap.size W w' := hdr.below
      exact ⟨_, rfl, hK.out _ _ (⟨blk_below hS.1 hb, blk_below hS.2 hb⟩) ⟨upd x 23 (.bool ok), bv, t', rfl, hE3 _ (by omega), ⟨blk_below hS.1 hb, blk_below hS.2 hb⟩, fun _ => rfl, hA.pre _ (by omega) (by omega) (by decide) hb⟩⟩
    · cases ho
      have hx := h5 (hpre 5 (by decide))
      refine call_ 65 #[.agg #[.int .i64 N, .int .i64 b0, .int .i64 b1, .int .i64 r0, .int .i64 r1, .slice A5 l5.length c5, .slice A6 l6.length c6, .slice A7 l7.length c7], .bool ok] (by rfl) rfl (by go_simp <;> simp [hx]) ?_
      have hbw := hb0.trans (hA.bel.mono hb0.size)
      refine (asked_any N b0 b1 r0 r1 A5 c5 l5 A6 c6 l6 A7 c7 l7 ok W (HK.out.below hbw) (Kd.C_below h5' hbw) hc5 (Kd.C_below h6' hbw) hc6 (Kd.C_below h7' hbw) hc7 hl).mono ?_
      rintro e w' ⟨bw, s', rfl, hb, hbv, hok⟩
      rw [HERR.out] at hok ⊢
      have hG : Gd N b0 b1 r0 r1 (.slice A5 l5.length c5) (.slice A6 l6.length c6) (.slice A7 l7.length c7) l5 l6 l7 err w.heap.size bw s' w' := ⟨hbv, fun e => by obtain ⟨m, h1, h2⟩ := hok e; exact ⟨m, Nat.le_trans hbw.size h1, h2⟩⟩
      exact ⟨_, rfl, hK.out _ _ (⟨blk_below hS.1 hb, blk_below hS.2 hb⟩) ⟨upd x 24 _, bw, s', rfl, hE3 _ (by omega), ⟨blk_below hS.1 hb, blk_below hS.2 hb⟩, fun h => by rw [getD_set (by omega), if_neg (by decide)] at h; exact h5 h, hA.called (by decide) (by omega) (fun k hk => by rcases (show k = 1 ∨ k = 2 ∨ k = 3 ∨ k = 4 ∨ k = 7 ∨ k = 8 by omega) with rfl | rfl | rfl | rfl | rfl | rfl <;> first | exact hno _ (by decide) | exact hno2 _ _ (by decide) (hno _ (by decide : 6 ∈ preds .any _ 7))) bw s' hb hG⟩⟩
    · cases ho
      have hx := (hA.call (hpre 6 (by decide))).1
      refine value_ (v := .tuple #[.agg bv, .agg (encT t').toArray, .int .i64 err]) (w1 := W) rfl rfl (by go_simp <;> simp [hx]) ?_
      exact hK.out _ _ hS ⟨upd x 17 _, bv, t', rfl, hE3 _ (by omega), hS, fun h => by rw [getD_set (by omega), if_neg (by decide)] at h; exact h5 h, hA.moved (by decide) (by omega)⟩
    · cases ho
      have hx := hA.mv (hpre 7 (by decide))
      refine value_ (v := .agg bv) (w1 := W) rfl rfl (by go_simp <;> simp [hx]) ?_
      exact hK.out _ _ hS ⟨upd x 25 _, bv, t', rfl, hE3 _ (by omega), hS, fun h => by rw [getD_set (by omega), if_neg (by decide)] at h; exact h5 h, hA.ext0 (by decide) (by omega)⟩
    · cases ho
      have hx := hA.mv (hpre 7 (by decide))
      refine value_ (v := .agg (encT t').toArray) (w1 := W) rfl rfl (by go_simp <;> simp [hx]) ?_
      exact hK.out _ _ hS ⟨upd x 26 _, bv, t', rfl, hE3 _ (by omega), hS, fun h => by rw [getD_set (by omega), if_neg (by decide)] at h; exact h5 h, hA.ext1 (by decide) (by omega)⟩
    · cases ho
      have hx := hA.mv (hpre 7 (by decide))
      refine value_ (v := .int .i64 err) (w1 := W) rfl rfl (by go_simp <;> simp [hx]) ?_
      exact hK.out _ _ hS ⟨upd x 27 _, bv, t', rfl, hE3 _ (by omega), hS, fun h => by rw [getD_set (by omega), if_neg (by decide)] at h; exact h5 h, hA.ext2 (by decide) (by omega)⟩
    · cases ho
      have hb : Below W.heap.size W (W.alloc (.cells zero9 80)) := (Below.refl _ _).alloc (Nat.le_refl _) _
      refine value_ (v := .pointer (some ⟨W.heap.size, 0, none⟩)) (w1 := W.alloc (.cells zero9 80)) rfl rfl (by go_simp; try rfl) ?_
      exact hK.out _ _ (⟨blk_below hS.1 hb, blk_below hS.2 hb⟩) ⟨upd x 8 _, bv, t', rfl, hE3 _ (by omega), ⟨blk_below hS.1 hb, blk_below hS.2 hb⟩, fun h => by rw [getD_set (by omega), if_neg (by decide)] at h; exact h5 h, hA.alA (by decide) (by omega) (hno _ (by decide))⟩
    · cases ho
      have hb : Below W.heap.size W (W.alloc (.cells Tryd.zeroCells91 91)) := (Below.refl _ _).alloc (Nat.le_refl _) _
      refine value_ (v := .pointer (some ⟨W.heap.size, 0, none⟩)) (w1 := W.alloc (.cells Tryd.zeroCells91 91)) rfl rfl (by go_simp; try rfl) ?_
      exact hK.out _ _ (⟨blk_below hS.1 hb, blk_below hS.2 hb⟩) ⟨upd x 9 _, bv, t', rfl, hE3 _ (by omega), ⟨blk_below hS.1 hb, blk_below hS.2 hb⟩, fun h => by rw [getD_set (by omega), if_neg (by decide)] at h; exact h5 h, hA.alB (by decide) (by omega) (hno _ (by decide))⟩
    · cases ho
      obtain ⟨g, hg, hg0, hB⟩ := hA.al (hpre 11 (by decide))
      have hx := hA.e0 (hpre 8 (by decide))
      have hG := (hA.call (hpre 6 (by decide))).2
      obtain ⟨w', hP, hr⟩ := store_ex (ty := 80) (vs := bv) hB (by rw [hun]; exact hG.1.1) (by rw [hG.1.1]; kernel_rfl) hG.1.2
      refine skip_ (w1 := w') rfl rfl (hr _ _ _ _ rfl hg hx) ?_
      exact hK.out _ _ (⟨hP.blk hS.1 (by omega), hP.blk hS.2 (by omega)⟩) ⟨x, bv, t', rfl, hE3 _ (by omega), ⟨hP.blk hS.1 (by omega), hP.blk hS.2 (by omega)⟩, fun h => by rw [getD_set (by omega), if_neg (by decide)] at h; exact h5 h, hA.stA (by omega) hg hB hg0 hP⟩
    · cases ho
      obtain ⟨g, hg, hg0, hB⟩ := hA.bl (hpre 12 (by decide))
      have hx := hA.e1 (hpre 9 (by decide))
      obtain ⟨w', hP, hr⟩ := store_ex (ty := 91) (vs := (encT t').toArray) hB (by rw [hun, zeroCells_is]; simp [encT_length]) (size91a t') (all_oneCell_toArray (encT_one t'))
      refine skip_ (w1 := w') rfl rfl (hr _ _ _ _ rfl hg hx) ?_
      exact hK.out _ _ (⟨hP.blk hS.1 (by omega), hP.blk hS.2 (by omega)⟩) ⟨x, bv, t', rfl, hE3 _ (by omega), ⟨hP.blk hS.1 (by omega), hP.blk hS.2 (by omega)⟩, fun h => by rw [getD_set (by omega), if_neg (by decide)] at h; exact h5 h, hA.stB (by omega) hg hB hg0 hP⟩
  case fin =>
    rintro d a W ⟨x, bv, t', rfl, hE, hS, h5, hA⟩
    have x5 := h5 rfl
    obtain ⟨x6, hG⟩ := hA.call rfl
    have x7 := hA.mv rfl
    have x8 := hA.e0 rfl
    have x9 := hA.e1 rfl
    have x10 := hA.e2 rfl
    obtain ⟨g, x11, hg0, hgB⟩ := hA.al rfl
    obtain ⟨g', x12, hg0', hgB'⟩ := hA.bl rfl
    have hgC : W.heap[g]? = some (.cells bv 80 (0, 0)) := hgB
    have hgC' : W.heap[g']? = some (.cells (encT t').toArray 91 (0, 0)) := hgB'
    clear hgB hgB'
    simp only [x5, x6, x7, x8, x9, x10, x11, x12]
    refine pureA 15 10 ?_
    refine done_ (done_of HT_.out (by kernel_rfl)) ?_
    clear HT_ HW_ hHeld
    have hbW := hb0.trans (hA.bel.mono hb0.size)
    have hzz := hb0.size
    clear hA hE h5 x5 x6 x7 x8 x9 x10 x11 x12
    refine calm_normal ?_
    have hS1 := hS.1
    have hS2 := hS.2
    by_cases he : err = 0
    · obtain ⟨hBk, hok, hcan⟩ := ask0 (HERR.out.trans he)
      obtain ⟨hbv, hG2⟩ := hG
      obtain ⟨m, hm, hbe, ht, hM⟩ := hG2 he
      have hn : 0 ≤ n ∧ n ≤ N - 1 := by
        have h1 := HOK.out
        rw [hok] at h1
        have h2 := of_decide_eq_true h1.symm
        have := hBk.n
        rw [IntWalk.wrap64_in (N - 1) (by constructor <;> omega)] at h2
        exact h2
      have hN8 := hBk.n
      obtain ⟨q5, q6, q7⟩ := hBk.len
      have hu : Used N l5 l6 (1 + n.toNat) := .inr (.inl ⟨by omega, by omega⟩)
      have hbe2 : bv = #[.int .i64 N, .int .i64 b0, .int .i64 b1, .int .i64 r0, .int .i64 r1, .slice A5 l5.length c5, .slice A6 l6.length c6, .slice A7 l7.length c7, .map (some m)] := by injection hbe
      rw [hbe2] at hgC
      have hrdy := book_ready hBk [] hcan
      obtain ⟨e0, he0⟩ : ∃ e0, e0 = openedM N b0 b1 r0 r1 l5 l6 l7 [] := ⟨_, rfl⟩
      have hc0 : e0 = addC [] (bookC N b0 b1 r0 r1 l5 l6 l7 []) := he0.trans (openedM_is _ _ _ _ _ _ _ _ _)
      have htt : t' = passF (tab0 e0) := by rw [ht, he0]; rfl
      rw [← he0] at hM
      rw [htt] at hgC'
      have hmg : m ≠ g ∧ m ≠ g' := ⟨pmap_ne hM hgC, pmap_ne hM hgC'⟩
      have hgg : g ≠ g' := fun e => by rw [e] at hgC; rw [hgC] at hgC'; injection hgC' with h; injection h with _ h; cases h
      have HO2 : Hid (caseF most N.toNat l5.length l6.length n.toNat e0 = (o0, o1, o2)) := Lib.hid (by have h := HO.out; rw [if_pos he, ← he0] at h; exact h)
      have hnb : -1000000 ≤ n ∧ n ≤ 1000000 := by omega
      have HRDY := Lib.hid (And.intro hc0 hrdy)
      rw [hbe2, htt]
      clear HO hbe hbe2 hbv hG2 hcan hok he0 hc0 ht htt hrdy
      subst he
      go_upto_if 33 with fail
      go_cut [] (fun wc => wc.heap[W.heap.size]? = some (.cells #[(.func (.func (if most = true then 72 else 71)) #[] #[])] 101 (0, 0)) ∧ Below W.heap.size W wc ∧ W.heap.size < wc.heap.size)
      case first =>
        have hn0 := blk_new W (.cells #[.func (.func 71) #[] #[]] 101)
        have hbn : Below W.heap.size W (W.alloc (.cells #[.func (.func 71) #[] #[]] 101)) := (Below.refl _ _).alloc (Nat.le_refl _) _
        cases most with
        | true =>
          go_wp2
          go_meet
          case rel => exact ⟨by simpa using blk_new W (.cells #[.func (.func 72) #[] #[]] 101), (Below.refl _ _).alloc (Nat.le_refl _) _, blk_lt (blk_new W (.cells #[.func (.func 72) #[] #[]] 101))⟩
        | false =>
          go_wp2
          go_meet
          case rel => exact ⟨by simpa using hn0, hbn, blk_lt hn0⟩
      case rest =>
        obtain ⟨hE, hbc, hzc⟩ := hcut
        rename_i wc
        obtain ⟨g2, hg2⟩ : ∃ g2, g2 = W.heap.size := ⟨_, rfl⟩
        have hlg := blk_lt hgC
        have hlg' := blk_lt hgC'
        have hlm := hM.lt
        have hmx := pmap_ne hM hS1
        have hmz := pmap_ne hM hS2
        rw [← hg2] at hE hlg hlg' hlm hzc hbc ⊢
        have hW0 : SetW #[.int .i64 N, .int .i64 b0, .int .i64 b1, .int .i64 r0, .int .i64 r1, .slice A5 l5.length c5, .slice A6 l6.length c6, .slice A7 l7.length c7, .map (some m)] (.func (.func (if most = true then 72 else 71)) #[] #[]) g2 g' g m e0 wc := ⟨hE, blk_below hgC' (by rw [← hg2]; exact hbc), blk_below hgC (by rw [← hg2]; exact hbc), hM.below (by rw [← hg2]; exact hbc), by omega⟩
        have hset : ∀ V, SetW #[.int .i64 N, .int .i64 b0, .int .i64 b1, .int .i64 r0, .int .i64 r1, .slice A5 l5.length c5, .slice A6 l6.length c6, .slice A7 l7.length c7, .map (some m)] (.func (.func (if most = true then 72 else 71)) #[] #[]) g2 g' g m e0 V → Calls Tryd.prog 73 #[.int .i64 (1 + n), .pointer (some ⟨g2, 0, none⟩), .pointer (some ⟨g', 0, none⟩), .pointer (some ⟨g, 0, none⟩)] V fun e w' => e = .returned (.int .i64 (endT most (passF (tab0 e0)) (1 + n.toNat))) ∧ SetW #[.int .i64 N, .int .i64 b0, .int .i64 b1, .int .i64 r0, .int .i64 r1, .slice A5 l5.length c5, .slice A6 l6.length c6, .slice A7 l7.length c7, .map (some m)] (.func (.func (if most = true then 72 else 71)) #[] #[]) g2 g' g m (case0 most n.toNat e0) w' ∧ But2 g' m V w' := by
          intro V hV
          have h := set_any N b0 b1 r0 r1 (.slice A5 l5.length c5) (.slice A6 l6.length c6) (.slice A7 l7.length c7) most (bookC N b0 b1 r0 r1 l5 l6 l7 []) HRDY.out.2 (1 + n.toNat) hu (by omega) g2 g' g m V (by rw [← HRDY.out.1]; exact hV)
          rw [← HRDY.out.1] at h
          unfold case0
          rw [show ((1 + n.toNat : Nat) : Int) = 1 + n by omega] at h ⊢
          exact h
        obtain ⟨C0, hRD0⟩ := case0_ready (most := most) HRDY.out.1 HRDY.out.2 hu
        obtain ⟨e1, he1⟩ : ∃ e1, e1 = case0 most n.toNat e0 := ⟨_, rfl⟩
        rw [← he1] at hset hRD0
        have HE0 := Lib.hid he1
        have HRD0 := Lib.hid hRD0
        have HSET0 := Lib.hid hset
        have hbw0 : Below w.heap.size w wc := hbW.trans (hbc.mono (by have := hbW.size; omega))
        have hx0 : wc.heap[w.heap.size]? = some (.cells #[.int .i64 N, .int .i64 b0, .int .i64 b1, .int .i64 r0, .int .i64 r1, .slice A5 l5.length c5, .slice A6 l6.length c6, .slice A7 l7.length c7] 27 (0, 0)) := blk_below hS1 (by rw [← hg2]; exact hbc)
        have hy0 : wc.heap[w.heap.size + 1]? = some (.cells #[.slice none 0 0, .slice none 0 0, .slice none 0 0] 30 (0, 0)) := blk_below hS2 (by rw [← hg2]; exact hbc)
        have hzw := hbW.size
        have HNUM : Hid ((g < g2 ∧ g' < g2 ∧ m < g2 ∧ g2 < wc.heap.size ∧ w.heap.size ≤ m ∧ w.heap.size + 1 < V0.heap.size ∧ V0.heap.size ≤ g ∧ V0.heap.size ≤ g') ∧ m ≠ w.heap.size ∧ m ≠ w.heap.size + 1 ∧ g ≠ g' ∧ m ≠ g ∧ m ≠ g') := Lib.hid (by omega)
        have HOLD := Lib.hid (And.intro hbw0 (And.intro hx0 hy0))
        have hG := hW0.b
        have HW0 := Lib.hid hW0
        clear hset hRD0 he1 hbc hzc hE hlg hlg' hlm hmx hmz hgC hgC' hM hmg hgg hS hS1 hS2 hbW hG hbw0 hx0 hy0 hzw hg0 hg0' hm hu hW0 hb0 hr0 hlt0 hzz hg2
        have hG := HW0.out.b
        go_wp2_with (first | (refine wpList_load_row rfl 80 _ rfl g rfl 80 #[.int .i64 N, .int .i64 b0, .int .i64 b1, .int .i64 r0, .int .i64 r1, .slice A5 l5.length c5, .slice A6 l6.length c6, .slice A7 l7.length c7, .map (some m)] (0, 0) _ hG Tryd.underlying80 rfl (by kernel_rfl) ?_) | (go_at_call 56; refine (night_any N b0 b1 r0 r1 _ _ _ _ n hnb _).mono ?_; rintro e V2 ⟨rfl, hb2⟩) | (go_at_call 73; refine (HSET0.out _ (HW0.out.below hb2)).mono ?_; rintro e V3 ⟨rfl, hs3, hb3⟩; have hx3 := hb3.blk (blk_below HOLD.out.2.1 hb2) (by have := HNUM.out; omega) (by have := HNUM.out; omega); have hy3 := hb3.blk (blk_below HOLD.out.2.2 hb2) (by have := HNUM.out; omega) (by have := HNUM.out; omega); have hn3 : V3.cell? ⟨w.heap.size, 0, none⟩ = some (.int .i64 N) := (blk_cell hx3 0).trans rfl; have hn3a : (V3.alloc (.cells #[.slice none 0 0, .slice none 0 0, .slice none 0 0] 30)).cell? ⟨w.heap.size, 0, none⟩ = some (.int .i64 N) := (blk_cell (blk_alloc hx3 _) 0).trans rfl; have hz3 := blk_lt hx3))
        have hO5 := blk_new V3 (.cells #[.slice none 0 0, .slice none 0 0, .slice none 0 0] 30)
        have hb5 : Below V3.heap.size V3 (V3.alloc (.cells #[.slice none 0 0, .slice none 0 0, .slice none 0 0] 30)) := (Below.refl _ _).alloc (Nat.le_refl _) _
        have hz2 := hb2.size
        have hz4 := hb3.size
        have hz5 := hb5.size
        have hzO := blk_lt hO5
        have hnum := HNUM.out
        have hs5 := hs3.below hb5
        have hx5 := blk_below hx3 hb5
        have hy5 := blk_below hy3 hb5
        have hw5 : Below w.heap.size w (V3.alloc (.cells #[.slice none 0 0, .slice none 0 0, .slice none 0 0] 30)) := HOLD.out.1.trans (((hb2.mono (by omega)).trans ((But3.of2 (r := m) hb3).below (by omega) (by omega) (by omega) (by omega))).trans (hb5.mono (by omega)))
        obtain ⟨O, hO⟩ : ∃ O, O = V3.heap.size := ⟨_, rfl⟩
        rw [← hO] at hO5 hzO hz4 hz5 ⊢
        generalize V3.alloc (.cells #[.slice none 0 0, .slice none 0 0, .slice none 0 0] 30) = V5 at hO5 hzO hz5 hs5 hx5 hy5 hw5 ⊢
        have HL0 : Hid (LpW #[.int .i64 N, .int .i64 b0, .int .i64 b1, .int .i64 r0, .int .i64 r1, .slice A5 l5.length c5, .slice A6 l6.length c6, .slice A7 l7.length c7, .map (some m)] (.func (.func (if most = true then 72 else 71)) #[] #[]) g2 g' g m O V5 #[.slice none 0 0, .slice none 0 0, .slice none 0 0] e1 (.slice none 0 0) [] V5) := Lib.hid ⟨hs5, But3.refl _ _ _ _, hO5, World.ownsRow_nil _ _ _ _, by omega⟩
        have HS0 := Lib.hid (And.intro hx5 (And.intro hy5 (And.intro hw5 (show w.heap.size ≤ m ∧ w.heap.size + 1 < g' ∧ w.heap.size + 1 < O ∧ w.heap.size + 1 < V5.heap.size by omega))))
        have HNE : Hid (w.heap.size ≠ g' ∧ w.heap.size ≠ m ∧ w.heap.size ≠ O ∧ w.heap.size + 1 ≠ g' ∧ w.heap.size + 1 ≠ m ∧ w.heap.size + 1 ≠ O) := Lib.hid (by omega)
        clear hO5 hzO hz4 hz5 hs5 hx5 hy5 hw5 hz2 hnum hb5 hb2 hb3 hs3 hx3 hy3 hn3 hn3a hz3 hG hO HNUM HOLD HSET0 HW0 HRDY HOK HERR HK
        go_loopw [43] (fun i wr0 => ∃ k : Nat, k ≤ N.toNat ∧ i = .int .i64 k ∧ ∃ v, LpW #[.int .i64 N, .int .i64 b0, .int .i64 b1, .int .i64 r0, .int .i64 r1, .slice A5 l5.length c5, .slice A6 l6.length c6, .slice A7 l7.length c7, .map (some m)] (.func (.func (if most = true then 72 else 71)) #[] #[]) g2 g' g m O V5 #[v, .slice none 0 0, .slice none 0 0] (setRow most 1 k e1).1 v (setRow most 1 k e1).2 wr0) (fun i _ => N.toNat - (intOf i).toNat)
        case atStart => exact ⟨0, Nat.zero_le _, rfl, .slice none 0 0, HL0.out⟩
        case round =>
          rename World => wr0
          obtain ⟨k, hk, rfl, v, hL⟩ := hrel
          obtain ⟨xs0, hxs⟩ : ∃ xs, xs = (setRow most 1 k e1).2 := ⟨_, rfl⟩
          rw [← hxs] at hL
          have HXS := Lib.hid hxs
          have HL := Lib.hid hL
          clear HL0 hxs
          by_cases hlt : k < N.toNat
          · have hlt1 : (k : Int) < (N : Int) := by omega
            obtain ⟨D, hD1, hD2⟩ := setRow_ready (most := most) (c := 1) (n := k) HRD0.out.2 (fun j hj => ⟨by unfold Used; omega, by omega⟩)
            rw [← HRD0.out.1] at hD1
            have hui : Used N l5 l6 (1 + k) := by unfold Used; omega
            have hbd := hD2.end_bd most hui
            have hlen : xs0.length ≤ 16 := by
              rw [HXS.out]
              simp only [List.length_map, setRow_length]
              omega
            have hset := set_any N b0 b1 r0 r1 (.slice A5 l5.length c5) (.slice A6 l6.length c6) (.slice A7 l7.length c7) most D hD2 (1 + k) hui (by omega) g2 g' g m
            have hnn : ((1 + k : Nat) : Int) = 1 + (k : Int) := by omega
            have hsu := setRow_succ most 1 k e1
            rw [hD1] at hL hsu
            rw [hnn] at hset hsu
            obtain ⟨E, hE⟩ : ∃ E, E = addC [] D := ⟨_, rfl⟩
            rw [← hE] at hL hset hsu hbd
            obtain ⟨y, hy⟩ : ∃ y, y = endT most (passF (tab0 E)) (1 + k) := ⟨_, rfl⟩
            rw [← hy] at hset hsu hbd
            have HSET := Lib.hid hset
            have HSU := Lib.hid hsu
            have hG := hL.set.b
            have hO := hL.out
            have HLa := Lib.hid hL
            have hwx : IntKind.i64.wrap (-y) = -y := (IntKind.wrap_i64 _).trans (by omega)
            have HWX := Lib.hid hwx
            clear hset hsu hnn hL hD2 hD1 hy hE HL hbd hwx
            go_wp2_with fail
            refine wp_calm ?_
            refine start_ (n := 11) (S := fun w' => w'.heap[g]? = some (.cells #[.int .i64 N, .int .i64 b0, .int .i64 b1, .int .i64 r0, .int .i64 r1, .slice A5 l5.length c5, .slice A6 l6.length c6, .slice A7 l7.length c7, .map (some m)] 80 (0, 0)) ∧ w'.heap[O]? = some (.cells #[v, .slice none 0 0, .slice none 0 0] 30 (0, 0))) (ds := [10]) #[false, false, false, false, false, false, false, false, false, false, false] (by kernel_rfl) rfl rfl ⟨blk_drew hG, blk_drew hO⟩ (fun hHeld => ?_)
            refine with_tabW case13_tab case13_bits (fun HT_ HW_ => ?_)
            have hL1 := HLa.out.below (Below.refl _ _).drew
            generalize wr0.drew = V1 at hHeld hL1 ⊢
            obtain ⟨Av, cv, ev, -⟩ := hL1.reads
            subst ev
            refine pureA 0 46 ?_
            refine takeA 1 47 rfl rfl (by rintro w' ⟨s0, s1⟩; exact exec_load_28 ((blk_cell s1 0).trans rfl) rfl rfl) ?_
            refine pureA 2 48 ?_
            refine takeA 3 49 rfl rfl (by rintro w' ⟨s0, s1⟩; exact exec_load_blk s0 rfl rfl Tryd.underlying80 rfl (by kernel_rfl)) ?_
            refine pureA 4 50 ?_
            refine oneA 5 (some 51) (fun K hK => ?_)
            refine call_ 56 #[(bookV N b0 b1 r0 r1 (.slice A5 l5.length c5) (.slice A6 l6.length c6) (.slice A7 l7.length c7) m), .int .i64 (k : Int)] (by rfl) rfl ?_ ?_
            · go_simp
              try rfl
            refine (night_any N b0 b1 r0 r1 _ _ _ _ (k : Int) (by omega) V1).mono ?_
            rintro e V2 ⟨rfl, hb2⟩
            refine ⟨_, rfl, ?_⟩
            have hL2 := hL1.below hb2
            refine hK.out _ _ ⟨hL2.set.b, hL2.out⟩ (fun hHeld2 => ?_)
            clear hK K hHeld hL1
            refine normA 51 ?_
            refine oneA 6 (some 52) (fun K hK => ?_)
            refine call_ 73 #[.int .i64 (1 + (k : Int)), .pointer (some ⟨g2, 0, none⟩), .pointer (some ⟨g', 0, none⟩), .pointer (some ⟨g, 0, none⟩)] (by rfl) rfl ?_ ?_
            · go_simp
              try rfl
            refine (HSET.out V2 hL2.set).mono ?_
            rintro e V3 ⟨rfl, hs3, hb3⟩
            refine ⟨_, rfl, ?_⟩
            have hL3 := hL2.call hs3 hb3
            refine hK.out _ _ ⟨hL3.set.b, hL3.out⟩ (fun hHeld3 => ?_)
            clear hK K hHeld2 hL2 hs3
            refine normA 52 ?_
            have hb4 : Below V3.heap.size V3 (V3.alloc (.cells #[.int .i64 y] 3)) := (Below.refl _ _).alloc (Nat.le_refl _) _
            have hN4 := blk_new V3 (.cells #[.int .i64 y] 3)
            have hL4 := hL3.below hb4
            refine oneA 7 (some 53) (fun K hK => ?_)
            refine value_ (v := .slice (some ⟨V3.heap.size, 0, none⟩) 1 1) (w1 := V3.alloc (.cells #[.int .i64 y] 3)) rfl rfl (by go_simp; try rfl) ?_
            refine hK.out _ _ ⟨hL4.set.b, hL4.out⟩ (fun hHeld4 => ?_)
            clear hK K hHeld3 hL3
            refine normA 53 ?_
            generalize V3.alloc (.cells #[.int .i64 y] 3) = V4 at hb4 hN4 hL4 hHeld4 ⊢
            obtain ⟨v', V5, hrun, hL5⟩ := hL4.push y V3.heap.size hN4 hlen
            refine oneA 8 (some 54) (fun K hK => ?_)
            refine value_ (v := v') (w1 := V5) rfl rfl (hrun _ _ _ _ rfl rfl rfl rfl) ?_
            refine hK.out _ _ ⟨hL5.set.b, hL5.out⟩ (fun hHeld5 => ?_)
            clear hK K hHeld4 hL4
            refine normA 54 ?_
            obtain ⟨Aw, cw, ew, -⟩ := hL5.reads
            subst ew
            refine pureA 9 55 ?_
            have hL6 := hL5.store 0 (.slice Aw (xs0 ++ [y]).length cw)
            refine lastA 10 none (fun K hK => ?_)
            refine skip_ (w1 := V5.setCell ⟨O, 0, none⟩ (.slice Aw (xs0 ++ [y]).length cw)) rfl rfl (exec_store_28 hL5.out (by simp) rfl rfl rfl) ?_
            refine hK.out _ _ ?_
            clear hK K
            refine done_ (done_of HT_.out (by kernel_rfl)) ?_
            have HL6 := Lib.hid hL6
            generalize V5.setCell ⟨O, 0, none⟩ (.slice Aw (xs0 ++ [y]).length cw) = V6 at hL6 HL6 ⊢
            clear HT_ HW_ hHeld5 hrun hN4 hb4 hb3 hb2 hG hO hL5 hL6
            refine calm_normal ?_
            go_wp2_with fail
            go_roundw
            case rel =>
              refine ⟨k + 1, by omega, by go_num, .slice Aw (xs0 ++ [y]).length cw, ?_⟩
              rw [HSU.out]
              skip
              rw [← HXS.out]
              exact HL6.out
            case measure => simp [intOf]; omega
          · have hkN : k = N.toNat := by omega
            have hL := HL.out
            rw [hkN] at hL
            have HX0x : Hid (xs0 = (setRow most 1 N.toNat e1).2) := Lib.hid (by have h := HXS.out; rw [hkN] at h; exact h)
            obtain ⟨Aa, ca, ev, hCAa, hca, hAa⟩ := hL.reads
            subst ev
            have HCAa := Lib.hid (And.intro hCAa (And.intro hca hAa))
            have HS1 : Hid (wr0.heap[w.heap.size]? = some (.cells #[.int .i64 N, .int .i64 b0, .int .i64 b1, .int .i64 r0, .int .i64 r1, .slice A5 l5.length c5, .slice A6 l6.length c6, .slice A7 l7.length c7] 27 (0, 0)) ∧ wr0.heap[w.heap.size + 1]? = some (.cells #[.slice none 0 0, .slice none 0 0, .slice none 0 0] 30 (0, 0)) ∧ But3 g' m O V5 wr0) := Lib.hid ⟨hL.but.blk HS0.out.1 HNE.out.1 HNE.out.2.1 HNE.out.2.2.1, hL.but.blk HS0.out.2.1 HNE.out.2.2.2.1 HNE.out.2.2.2.2.1 HNE.out.2.2.2.2.2, hL.but⟩
            obtain ⟨e2, he2⟩ : ∃ e, e = (setRow most 1 N.toNat e1).1 := ⟨_, rfl⟩
            rw [← he2] at hL
            have hzs := hL.but.size
            have hlt9 := hL.lt
            have HLT0 := Lib.hid hlt9
            have hRDx : ∃ C, e2 = addC [] C ∧ Ready (Used N l5 l6) C := by
              obtain ⟨C, h1, h2⟩ := setRow_ready (most := most) (c := 1) (n := N.toNat) HRD0.out.2 (fun j hj => ⟨by unfold Used; omega, by omega⟩)
              exact ⟨C, by rw [he2, HRD0.out.1]; exact h1, h2⟩
            obtain ⟨C1, hRDx⟩ := hRDx
            have HRD1 := Lib.hid hRDx
            have HE1 := Lib.hid he2
            have hp5 : wr0.cell? ⟨w.heap.size, 5, none⟩ = some (.slice A5 l5.length c5) := (blk_cell HS1.out.1 5).trans rfl
            have HL1 : Hid (LpW #[.int .i64 N, .int .i64 b0, .int .i64 b1, .int .i64 r0, .int .i64 r1, .slice A5 l5.length c5, .slice A6 l6.length c6, .slice A7 l7.length c7, .map (some m)] (.func (.func (if most = true then 72 else 71)) #[] #[]) g2 g' g m O wr0 #[.slice Aa xs0.length ca, .slice none 0 0, .slice none 0 0] e2 (.slice none 0 0) [] wr0) := Lib.hid ⟨hL.set, But3.refl _ _ _ _, hL.out, World.ownsRow_nil _ _ _ _, by omega⟩
            clear hRDx he2 hL hzs hlt9 hCAa hca hAa HXS HL hlt hk
            go_wp2_with fail
            
            go_loopw [60] (fun i wr1 => ∃ k : Nat, k ≤ l5.length ∧ i = .int .i64 k ∧ ∃ v, LpW #[.int .i64 N, .int .i64 b0, .int .i64 b1, .int .i64 r0, .int .i64 r1, .slice A5 l5.length c5, .slice A6 l6.length c6, .slice A7 l7.length c7, .map (some m)] (.func (.func (if most = true then 72 else 71)) #[] #[]) g2 g' g m O wr0 #[.slice Aa xs0.length ca, v, .slice none 0 0] (setRow most 9 k e2).1 v ((setRow most 9 k e2).2.map fun x => -x) wr1) (fun i _ => l5.length - (intOf i).toNat)
            case atStart => exact ⟨0, Nat.zero_le _, rfl, .slice none 0 0, HL1.out⟩
            case round =>
              rename World => wr1
              obtain ⟨k, hk, rfl, v, hL⟩ := hrel
              obtain ⟨xs1, hxs⟩ : ∃ xs, xs = ((setRow most 9 k e2).2.map fun x => -x) := ⟨_, rfl⟩
              rw [← hxs] at hL
              have HXS := Lib.hid hxs
              have HL := Lib.hid hL
              clear HL1 hxs
              by_cases hlt : k < l5.length
              · have hlt1 : (k : Int) < (l5.length : Int) := by omega
                obtain ⟨D, hD1, hD2⟩ := setRow_ready (most := most) (c := 9) (n := k) HRD1.out.2 (fun j hj => ⟨by unfold Used; omega, by omega⟩)
                rw [← HRD1.out.1] at hD1
                have hui : Used N l5 l6 (9 + k) := by unfold Used; omega
                have hbd := hD2.end_bd most hui
                have hlen : xs1.length ≤ 16 := by
                  rw [HXS.out]
                  simp only [List.length_map, setRow_length]
                  omega
                have hset := set_any N b0 b1 r0 r1 (.slice A5 l5.length c5) (.slice A6 l6.length c6) (.slice A7 l7.length c7) most D hD2 (9 + k) hui (by omega) g2 g' g m
                have hnn : ((9 + k : Nat) : Int) = 9 + (k : Int) := by omega
                have hsu := setRow_succ most 9 k e2
                rw [hD1] at hL hsu
                rw [hnn] at hset hsu
                obtain ⟨E, hE⟩ : ∃ E, E = addC [] D := ⟨_, rfl⟩
                rw [← hE] at hL hset hsu hbd
                obtain ⟨y, hy⟩ : ∃ y, y = endT most (passF (tab0 E)) (9 + k) := ⟨_, rfl⟩
                rw [← hy] at hset hsu hbd
                have HSET := Lib.hid hset
                have HSU := Lib.hid hsu
                have hG := hL.set.b
                have hO := hL.out
                have HLa := Lib.hid hL
                have hwx : IntKind.i64.wrap (-y) = -y := (IntKind.wrap_i64 _).trans (by omega)
                have HWX := Lib.hid hwx
                clear hset hsu hnn hL hD2 hD1 hy hE HL hbd hwx
                go_wp2_with fail
                refine wp_calm ?_
                refine start_ (n := 12) (S := fun w' => w'.heap[g]? = some (.cells #[.int .i64 N, .int .i64 b0, .int .i64 b1, .int .i64 r0, .int .i64 r1, .slice A5 l5.length c5, .slice A6 l6.length c6, .slice A7 l7.length c7, .map (some m)] 80 (0, 0)) ∧ w'.heap[O]? = some (.cells #[.slice Aa xs0.length ca, v, .slice none 0 0] 30 (0, 0))) (ds := [11]) #[false, false, false, false, false, false, false, false, false, false, false, false] (by kernel_rfl) rfl rfl ⟨blk_drew hG, blk_drew hO⟩ (fun hHeld => ?_)
                refine with_tabW case18_tab case18_bits (fun HT_ HW_ => ?_)
                have hL1 := HLa.out.below (Below.refl _ _).drew
                generalize wr1.drew = V1 at hHeld hL1 ⊢
                obtain ⟨Av, cv, ev, -⟩ := hL1.reads
                subst ev
                refine pureA 0 63 ?_
                refine takeA 1 64 rfl rfl (by rintro w' ⟨s0, s1⟩; exact exec_load_28 ((blk_cell s1 1).trans rfl) rfl rfl) ?_
                refine pureA 2 65 ?_
                refine takeA 3 66 rfl rfl (by rintro w' ⟨s0, s1⟩; exact exec_load_blk s0 rfl rfl Tryd.underlying80 rfl (by kernel_rfl)) ?_
                refine pureA 4 67 ?_
                refine oneA 5 (some 68) (fun K hK => ?_)
                refine call_ 57 #[(bookV N b0 b1 r0 r1 (.slice A5 l5.length c5) (.slice A6 l6.length c6) (.slice A7 l7.length c7) m), .int .i64 (k : Int)] (by rfl) rfl ?_ ?_
                · go_simp
                  try rfl
                refine (seen_any N b0 b1 r0 r1 _ _ _ _ (k : Int) (by omega) V1).mono ?_
                rintro e V2 ⟨rfl, hb2⟩
                refine ⟨_, rfl, ?_⟩
                have hL2 := hL1.below hb2
                refine hK.out _ _ ⟨hL2.set.b, hL2.out⟩ (fun hHeld2 => ?_)
                clear hK K hHeld hL1
                refine normA 68 ?_
                refine oneA 6 (some 69) (fun K hK => ?_)
                refine call_ 73 #[.int .i64 (9 + (k : Int)), .pointer (some ⟨g2, 0, none⟩), .pointer (some ⟨g', 0, none⟩), .pointer (some ⟨g, 0, none⟩)] (by rfl) rfl ?_ ?_
                · go_simp
                  try rfl
                refine (HSET.out V2 hL2.set).mono ?_
                rintro e V3 ⟨rfl, hs3, hb3⟩
                refine ⟨_, rfl, ?_⟩
                have hL3 := hL2.call hs3 hb3
                refine hK.out _ _ ⟨hL3.set.b, hL3.out⟩ (fun hHeld3 => ?_)
                clear hK K hHeld2 hL2 hs3
                refine normA 69 ?_
                refine pureA (v := .int .i64 (-y)) 7 70 ?_ (hy := by refine Or.inl ⟨by rfl, ?_⟩; intro w'; go_simp; rw [HWX.out])
                have hb4 : Below V3.heap.size V3 (V3.alloc (.cells #[.int .i64 (-y)] 3)) := (Below.refl _ _).alloc (Nat.le_refl _) _
                have hN4 := blk_new V3 (.cells #[.int .i64 (-y)] 3)
                have hL4 := hL3.below hb4
                refine oneA 8 (some 71) (fun K hK => ?_)
                refine value_ (v := .slice (some ⟨V3.heap.size, 0, none⟩) 1 1) (w1 := V3.alloc (.cells #[.int .i64 (-y)] 3)) rfl rfl (by go_simp; try rfl) ?_
                refine hK.out _ _ ⟨hL4.set.b, hL4.out⟩ (fun hHeld4 => ?_)
                clear hK K hHeld3 hL3
                refine normA 71 ?_
                generalize V3.alloc (.cells #[.int .i64 (-y)] 3) = V4 at hb4 hN4 hL4 hHeld4 ⊢
                obtain ⟨v', V5, hrun, hL5⟩ := hL4.push (-y) V3.heap.size hN4 hlen
                refine oneA 9 (some 72) (fun K hK => ?_)
                refine value_ (v := v') (w1 := V5) rfl rfl (hrun _ _ _ _ rfl rfl rfl rfl) ?_
                refine hK.out _ _ ⟨hL5.set.b, hL5.out⟩ (fun hHeld5 => ?_)
                clear hK K hHeld4 hL4
                refine normA 72 ?_
                obtain ⟨Aw, cw, ew, -⟩ := hL5.reads
                subst ew
                refine pureA 10 73 ?_
                have hL6 := hL5.store 1 (.slice Aw (xs1 ++ [(-y)]).length cw)
                refine lastA 11 none (fun K hK => ?_)
                refine skip_ (w1 := V5.setCell ⟨O, 1, none⟩ (.slice Aw (xs1 ++ [(-y)]).length cw)) rfl rfl (exec_store_28 hL5.out (by simp) rfl rfl rfl) ?_
                refine hK.out _ _ ?_
                clear hK K
                refine done_ (done_of HT_.out (by kernel_rfl)) ?_
                have HL6 := Lib.hid hL6
                generalize V5.setCell ⟨O, 1, none⟩ (.slice Aw (xs1 ++ [(-y)]).length cw) = V6 at hL6 HL6 ⊢
                clear HT_ HW_ hHeld5 hrun hN4 hb4 hb3 hb2 hG hO hL5 hL6
                refine calm_normal ?_
                go_wp2_with fail
                go_roundw
                case rel =>
                  refine ⟨k + 1, by omega, by go_num, .slice Aw (xs1 ++ [(-y)]).length cw, ?_⟩
                  rw [HSU.out]
                  simp only [List.map_append, List.map_cons, List.map_nil]
                  rw [← HXS.out]
                  exact HL6.out
                case measure => simp [intOf]; omega
              · have hkN : k = l5.length := by omega
                have hL := HL.out
                rw [hkN] at hL
                have HX1x : Hid (xs1 = ((setRow most 9 l5.length e2).2.map fun x => -x)) := Lib.hid (by have h := HXS.out; rw [hkN] at h; exact h)
                obtain ⟨Ab, cb, ev, hCAb, hcb, hAb⟩ := hL.reads
                subst ev
                have HCAb := Lib.hid (And.intro hCAb (And.intro hcb hAb))
                have HS2 : Hid (wr1.heap[w.heap.size]? = some (.cells #[.int .i64 N, .int .i64 b0, .int .i64 b1, .int .i64 r0, .int .i64 r1, .slice A5 l5.length c5, .slice A6 l6.length c6, .slice A7 l7.length c7] 27 (0, 0)) ∧ wr1.heap[w.heap.size + 1]? = some (.cells #[.slice none 0 0, .slice none 0 0, .slice none 0 0] 30 (0, 0)) ∧ But3 g' m O wr0 wr1) := Lib.hid ⟨hL.but.blk HS1.out.1 HNE.out.1 HNE.out.2.1 HNE.out.2.2.1, hL.but.blk HS1.out.2.1 HNE.out.2.2.2.1 HNE.out.2.2.2.2.1 HNE.out.2.2.2.2.2, hL.but⟩
                obtain ⟨e3, he3⟩ : ∃ e, e = (setRow most 9 l5.length e2).1 := ⟨_, rfl⟩
                rw [← he3] at hL
                have hzs := hL.but.size
                have hlt9 := hL.lt
                have HLT1 := Lib.hid hlt9
                have hRDx : ∃ C, e3 = addC [] C ∧ Ready (Used N l5 l6) C := by
                  obtain ⟨C, h1, h2⟩ := setRow_ready (most := most) (c := 9) (n := l5.length) HRD1.out.2 (fun j hj => ⟨by unfold Used; omega, by omega⟩)
                  exact ⟨C, by rw [he3, HRD1.out.1]; exact h1, h2⟩
                obtain ⟨C2, hRDx⟩ := hRDx
                have HRD2 := Lib.hid hRDx
                have HE2 := Lib.hid he3
                have hp5 : wr1.cell? ⟨w.heap.size, 6, none⟩ = some (.slice A6 l6.length c6) := (blk_cell HS2.out.1 6).trans rfl
                have HL2 : Hid (LpW #[.int .i64 N, .int .i64 b0, .int .i64 b1, .int .i64 r0, .int .i64 r1, .slice A5 l5.length c5, .slice A6 l6.length c6, .slice A7 l7.length c7, .map (some m)] (.func (.func (if most = true then 72 else 71)) #[] #[]) g2 g' g m O wr1 #[.slice Aa xs0.length ca, .slice Ab xs1.length cb, .slice none 0 0] e3 (.slice none 0 0) [] wr1) := Lib.hid ⟨hL.set, But3.refl _ _ _ _, hL.out, World.ownsRow_nil _ _ _ _, by omega⟩
                clear hRDx he3 hL hzs hlt9 hCAb hcb hAb HXS HL hlt hk
                go_wp2_with fail
                
                go_loopw [78] (fun i wr2 => ∃ k : Nat, k ≤ l6.length ∧ i = .int .i64 k ∧ ∃ v, LpW #[.int .i64 N, .int .i64 b0, .int .i64 b1, .int .i64 r0, .int .i64 r1, .slice A5 l5.length c5, .slice A6 l6.length c6, .slice A7 l7.length c7, .map (some m)] (.func (.func (if most = true then 72 else 71)) #[] #[]) g2 g' g m O wr1 #[.slice Aa xs0.length ca, .slice Ab xs1.length cb, v] (setRow most 13 k e3).1 v (setRow most 13 k e3).2 wr2) (fun i _ => l6.length - (intOf i).toNat)
                case atStart => exact ⟨0, Nat.zero_le _, rfl, .slice none 0 0, HL2.out⟩
                case round =>
                  rename World => wr2
                  obtain ⟨k, hk, rfl, v, hL⟩ := hrel
                  obtain ⟨xs2, hxs⟩ : ∃ xs, xs = (setRow most 13 k e3).2 := ⟨_, rfl⟩
                  rw [← hxs] at hL
                  have HXS := Lib.hid hxs
                  have HL := Lib.hid hL
                  clear HL2 hxs
                  by_cases hlt : k < l6.length
                  · have hlt1 : (k : Int) < (l6.length : Int) := by omega
                    obtain ⟨D, hD1, hD2⟩ := setRow_ready (most := most) (c := 13) (n := k) HRD2.out.2 (fun j hj => ⟨by unfold Used; omega, by omega⟩)
                    rw [← HRD2.out.1] at hD1
                    have hui : Used N l5 l6 (13 + k) := by unfold Used; omega
                    have hbd := hD2.end_bd most hui
                    have hlen : xs2.length ≤ 16 := by
                      rw [HXS.out]
                      simp only [List.length_map, setRow_length]
                      omega
                    have hset := set_any N b0 b1 r0 r1 (.slice A5 l5.length c5) (.slice A6 l6.length c6) (.slice A7 l7.length c7) most D hD2 (13 + k) hui (by omega) g2 g' g m
                    have hnn : ((13 + k : Nat) : Int) = 13 + (k : Int) := by omega
                    have hsu := setRow_succ most 13 k e3
                    rw [hD1] at hL hsu
                    rw [hnn] at hset hsu
                    obtain ⟨E, hE⟩ : ∃ E, E = addC [] D := ⟨_, rfl⟩
                    rw [← hE] at hL hset hsu hbd
                    obtain ⟨y, hy⟩ : ∃ y, y = endT most (passF (tab0 E)) (13 + k) := ⟨_, rfl⟩
                    rw [← hy] at hset hsu hbd
                    have HSET := Lib.hid hset
                    have HSU := Lib.hid hsu
                    have hG := hL.set.b
                    have hO := hL.out
                    have HLa := Lib.hid hL
                    have hwx : IntKind.i64.wrap (-y) = -y := (IntKind.wrap_i64 _).trans (by omega)
                    have HWX := Lib.hid hwx
                    clear hset hsu hnn hL hD2 hD1 hy hE HL hbd hwx
                    go_wp2_with fail
                    refine wp_calm ?_
                    refine start_ (n := 11) (S := fun w' => w'.heap[g]? = some (.cells #[.int .i64 N, .int .i64 b0, .int .i64 b1, .int .i64 r0, .int .i64 r1, .slice A5 l5.length c5, .slice A6 l6.length c6, .slice A7 l7.length c7, .map (some m)] 80 (0, 0)) ∧ w'.heap[O]? = some (.cells #[.slice Aa xs0.length ca, .slice Ab xs1.length cb, v] 30 (0, 0))) (ds := [10]) #[false, false, false, false, false, false, false, false, false, false, false] (by kernel_rfl) rfl rfl ⟨blk_drew hG, blk_drew hO⟩ (fun hHeld => ?_)
                    refine with_tabW case23_tab case23_bits (fun HT_ HW_ => ?_)
                    have hL1 := HLa.out.below (Below.refl _ _).drew
                    generalize wr2.drew = V1 at hHeld hL1 ⊢
                    obtain ⟨Av, cv, ev, -⟩ := hL1.reads
                    subst ev
                    refine pureA 0 81 ?_
                    refine takeA 1 82 rfl rfl (by rintro w' ⟨s0, s1⟩; exact exec_load_28 ((blk_cell s1 2).trans rfl) rfl rfl) ?_
                    refine pureA 2 83 ?_
                    refine takeA 3 84 rfl rfl (by rintro w' ⟨s0, s1⟩; exact exec_load_blk s0 rfl rfl Tryd.underlying80 rfl (by kernel_rfl)) ?_
                    refine pureA 4 85 ?_
                    refine oneA 5 (some 86) (fun K hK => ?_)
                    refine call_ 58 #[(bookV N b0 b1 r0 r1 (.slice A5 l5.length c5) (.slice A6 l6.length c6) (.slice A7 l7.length c7) m), .int .i64 (k : Int)] (by rfl) rfl ?_ ?_
                    · go_simp
                      try rfl
                    refine (signal_any N b0 b1 r0 r1 _ _ _ _ (k : Int) (by omega) V1).mono ?_
                    rintro e V2 ⟨rfl, hb2⟩
                    refine ⟨_, rfl, ?_⟩
                    have hL2 := hL1.below hb2
                    refine hK.out _ _ ⟨hL2.set.b, hL2.out⟩ (fun hHeld2 => ?_)
                    clear hK K hHeld hL1
                    refine normA 86 ?_
                    refine oneA 6 (some 87) (fun K hK => ?_)
                    refine call_ 73 #[.int .i64 (13 + (k : Int)), .pointer (some ⟨g2, 0, none⟩), .pointer (some ⟨g', 0, none⟩), .pointer (some ⟨g, 0, none⟩)] (by rfl) rfl ?_ ?_
                    · go_simp
                      try rfl
                    refine (HSET.out V2 hL2.set).mono ?_
                    rintro e V3 ⟨rfl, hs3, hb3⟩
                    refine ⟨_, rfl, ?_⟩
                    have hL3 := hL2.call hs3 hb3
                    refine hK.out _ _ ⟨hL3.set.b, hL3.out⟩ (fun hHeld3 => ?_)
                    clear hK K hHeld2 hL2 hs3
                    refine normA 87 ?_
                    have hb4 : Below V3.heap.size V3 (V3.alloc (.cells #[.int .i64 y] 3)) := (Below.refl _ _).alloc (Nat.le_refl _) _
                    have hN4 := blk_new V3 (.cells #[.int .i64 y] 3)
                    have hL4 := hL3.below hb4
                    refine oneA 7 (some 88) (fun K hK => ?_)
                    refine value_ (v := .slice (some ⟨V3.heap.size, 0, none⟩) 1 1) (w1 := V3.alloc (.cells #[.int .i64 y] 3)) rfl rfl (by go_simp; try rfl) ?_
                    refine hK.out _ _ ⟨hL4.set.b, hL4.out⟩ (fun hHeld4 => ?_)
                    clear hK K hHeld3 hL3
                    refine normA 88 ?_
                    generalize V3.alloc (.cells #[.int .i64 y] 3) = V4 at hb4 hN4 hL4 hHeld4 ⊢
                    obtain ⟨v', V5, hrun, hL5⟩ := hL4.push y V3.heap.size hN4 hlen
                    refine oneA 8 (some 89) (fun K hK => ?_)
                    refine value_ (v := v') (w1 := V5) rfl rfl (hrun _ _ _ _ rfl rfl rfl rfl) ?_
                    refine hK.out _ _ ⟨hL5.set.b, hL5.out⟩ (fun hHeld5 => ?_)
                    clear hK K hHeld4 hL4
                    refine normA 89 ?_
                    obtain ⟨Aw, cw, ew, -⟩ := hL5.reads
                    subst ew
                    refine pureA 9 90 ?_
                    have hL6 := hL5.store 2 (.slice Aw (xs2 ++ [y]).length cw)
                    refine lastA 10 none (fun K hK => ?_)
                    refine skip_ (w1 := V5.setCell ⟨O, 2, none⟩ (.slice Aw (xs2 ++ [y]).length cw)) rfl rfl (exec_store_28 hL5.out (by simp) rfl rfl rfl) ?_
                    refine hK.out _ _ ?_
                    clear hK K
                    refine done_ (done_of HT_.out (by kernel_rfl)) ?_
                    have HL6 := Lib.hid hL6
                    generalize V5.setCell ⟨O, 2, none⟩ (.slice Aw (xs2 ++ [y]).length cw) = V6 at hL6 HL6 ⊢
                    clear HT_ HW_ hHeld5 hrun hN4 hb4 hb3 hb2 hG hO hL5 hL6
                    refine calm_normal ?_
                    go_wp2_with fail
                    go_roundw
                    case rel =>
                      refine ⟨k + 1, by omega, by go_num, .slice Aw (xs2 ++ [y]).length cw, ?_⟩
                      rw [HSU.out]
                      skip
                      rw [← HXS.out]
                      exact HL6.out
                    case measure => simp [intOf]; omega
                  · have hkN : k = l6.length := by omega
                    have hL := HL.out
                    rw [hkN] at hL
                    have HX2x : Hid (xs2 = (setRow most 13 l6.length e3).2) := Lib.hid (by have h := HXS.out; rw [hkN] at h; exact h)
                    obtain ⟨Ac, cc, ev, hCAc, hcc, hAc⟩ := hL.reads
                    subst ev
                    have HCAc := Lib.hid (And.intro hCAc (And.intro hcc hAc))
                    have HS3 : Hid (wr2.heap[w.heap.size]? = some (.cells #[.int .i64 N, .int .i64 b0, .int .i64 b1, .int .i64 r0, .int .i64 r1, .slice A5 l5.length c5, .slice A6 l6.length c6, .slice A7 l7.length c7] 27 (0, 0)) ∧ wr2.heap[w.heap.size + 1]? = some (.cells #[.slice none 0 0, .slice none 0 0, .slice none 0 0] 30 (0, 0)) ∧ But3 g' m O wr1 wr2) := Lib.hid ⟨hL.but.blk HS2.out.1 HNE.out.1 HNE.out.2.1 HNE.out.2.2.1, hL.but.blk HS2.out.2.1 HNE.out.2.2.2.1 HNE.out.2.2.2.2.1 HNE.out.2.2.2.2.2, hL.but⟩
                    obtain ⟨e4, he4⟩ : ∃ e, e = (setRow most 13 l6.length e3).1 := ⟨_, rfl⟩
                    rw [← he4] at hL
                    have hzs := hL.but.size
                    have hlt9 := hL.lt
                    have HLT2 := Lib.hid hlt9
                    have HE3 := Lib.hid he4
                    have hO := hL.out
                    have hZ := HS3.out.2.1
                    clear he4 hL hzs hlt9 hCAc hcc hAc HXS HL hlt hk
                    go_wp2_with (first | (refine wpList_load_row rfl 30 _ rfl O rfl 30 #[.slice Aa xs0.length ca, .slice Ab xs1.length cb, .slice Ac xs2.length cc] (0, 0) _ hO Tryd.underlying30 rfl (by kernel_rfl) ?_) | (refine wpList_store_blk rfl rfl rfl rfl hZ rfl (by kernel_rfl) (by simp [Value.oneCell']) ?_; intro W9 hP9))
                    refine bodyPost_ret (results_ct rfl _ _ (w.heap.size + 1) 30 #[.slice Aa xs0.length ca, .slice Ab xs1.length cb, .slice Ac xs2.length cc] (0, 0) _ rfl hP9.here Tryd.underlying30 rfl (by kernel_rfl)) rfl ?_
                    have ho := HO2.out
                    unfold caseF at ho
                    rw [← HE0.out, ← HE1.out, ← HE2.out, ← HX0x.out, ← HX1x.out, ← HX2x.out] at ho
                    simp only [Prod.mk.injEq] at ho
                    obtain ⟨rfl, rfl, rfl⟩ := ho
                    have hlt9 := HLT0.out.1
                    have hlt8 := HLT1.out.1
                    have hlt7 := HLT2.out.1
                    have h01 := HS1.out.2.2
                    have h12 := HS2.out.2.2
                    have h23 := HS3.out.2.2
                    have z0 := HS0.out.2.2
                    have s0 := z0.1.size
                    have s01 := h01.size
                    have s12 := h12.size
                    have s23 := h23.size
                    refine ⟨Aa, ca, Ab, cb, Ac, cc, rfl, ?_, ⟨HCAa.out.2.1, fun ad h => by have := HCAa.out.2.2 ad h; omega, ?_⟩, ⟨HCAb.out.2.1, fun ad h => by have := HCAb.out.2.2 ad h; omega, ?_⟩, ⟨HCAc.out.2.1, fun ad h => by have := HCAc.out.2.2 ad h; omega, ?_⟩⟩
                    · exact z0.1.trans ((((h01.trans h12).trans h23).below (by omega) (by omega) (by omega) (by omega)).trans (hP9.below (by omega)))
                    · refine C_same HCAa.out.1 (fun ad h => ?_)
                      have hh := HCAa.out.2.2 ad h
                      exact (hP9.rest _ (by omega)).trans (((h12.trans h23).block _ (by omega) (by omega) (by omega) (by omega)))
                    · refine C_same HCAb.out.1 (fun ad h => ?_)
                      have hh := HCAb.out.2.2 ad h
                      exact (hP9.rest _ (by omega)).trans ((h23.block _ (by omega) (by omega) (by omega) (by omega)))
                    · refine C_same HCAc.out.1 (fun ad h => ?_)
                      have hh := HCAc.out.2.2 ad h
                      exact (hP9.rest _ (by omega))
    · have hnil := HO.out
      rw [if_neg he] at hnil
      simp only [Prod.mk.injEq] at hnil
      obtain ⟨rfl, rfl, rfl⟩ := hnil
      clear hG hgC hgC'
      go_wp2_with (refine wpList_store_blk rfl rfl rfl rfl hS2 rfl (by kernel_rfl) (by simp [Value.oneCell']) ?_; intro W9 hP9)
      refine bodyPost_ret (results_ct rfl _ _ (w.heap.size + 1) 30 #[.slice none 0 0, .slice none 0 0, .slice none 0 0] (0, 0) _ rfl hP9.here Tryd.underlying30 rfl (by kernel_rfl)) rfl ?_
      have nil : RowIs w W9 none 0 [] := ⟨Nat.le_refl _, (fun ad h => by cases h), Kd.C_nil _ _⟩
      exact ⟨none, 0, none, 0, none, 0, rfl, hbW.trans (hP9.below (by omega)), nil, nil, nil⟩
end Go.Proofs.YtohbeninpmmmpaaDoor
end

section
/- The recursive closure of Wrong. -/
set_option linter.unusedSimpArgs false
set_option linter.unusedVariables false
namespace Go.Proofs.YtohbeninpmmmpaaDoor
open Go.RowKit Go.Proofs.YtohbeninpmmmpaaDoorW.PrintWords Go.Proofs.YtohbeninpmmmpaaDoorW.PrintLast Go.Proofs.YtohbeninpmmmpaaDoorW.PrintMore TrydX.X
attribute [local go_sem] Oper.semAt_some
def choose9T : Bool × List (List Nat × List Nat) := (true, [([], []), ([], []), ([], []), ([2], [2]), ([], []), ([4], [4]), ([1, 3, 5], [1, 3, 5]), ([], []), ([7], [7]), ([6, 8], [6, 8]), ([], []), ([0, 9, 10, 9], [0, 9, 10]), ([11], [11]), ([12], [12]), ([12], [12]), ([13, 11, 0, 1, 2, 3, 4, 5, 6, 7, 8, 9, 10, 11, 12, 13], [13]), ([14, 15, 0, 1, 2, 3, 4, 5, 6, 7, 8, 9, 10, 11, 12, 13, 14, 15], [14])])
def choose9B : List Nat := [0, 0, 0, 4, 0, 16, 62, 0, 128, 510, 0, 2047, 4095, 8191, 8191, 16383, 65535]
theorem choose9_tab : rtab .any (opsOf Tryd.f76 9) = choose9T := by kernel_rfl
theorem choose9_bits : waitsOk choose9T.2 choose9B = true := by kernel_rfl

theorem exec_load_f105 {o : Oper} {a : Act} {w : World} {ta : Operand} {b k : Nat} {v : Value} (hc : w.cell? ⟨b, k, none⟩ = some v) (hop : o.op = .load 105 ta) (ha : a.eval ta = .pointer (some ⟨b, k, none⟩)) : (execOp a.eval o).run Tryd.prog w = .ok (.value v) w := by
  simp only [execOp, hop, ha]
  simp [go_sem, hc]
/-- Where the next number begins. -/
def fromN (s : List Int) : Int := if s.length = 0 then 0 else rd s ((s.length : Int) - 1) + 1
theorem fromN_next (s : List Int) (k : Nat) : ((k + 1 : Nat) : Int) = fromN (s ++ [(k : Int)]) := by
  unfold fromN rd
  rw [if_neg (by simp)]
  simp
set_option maxRecDepth 100000 in
set_option maxHeartbeats 8000000 in
theorem choose_any (N b0 b1 r0 r1 : Int) (A5 : Option Addr) (c5 : Nat) (l5 : List S23) (A6 : Option Addr) (c6 : Nat) (l6 : List S23) (A7 : Option Addr) (c7 : Nat) (l7 : List S63) (hB : BookOk N b0 b1 r0 r1 l5 l6 l7) (X FB many base : Nat) (hmany : many ≤ 10) :
    ∀ (d : Nat) (s : List Int) (A : Option Addr) (c a : Nat) (w : World), s.length + d = many → (a : Int) = fromN s → a ≤ l7.length → s.length ≤ c → (A = none → s.length = 0) → (∀ ad, A = some ad → base ≤ ad.block) → base ≤ w.heap.size → Kinds w → Kd.C k23 w A5 l5.length l5 → Kd.C k23 w A6 l6.length l6 → Kd.C k63 w A7 l7.length l7 → Kd.C (Kd.int .i64) w A s.length s →
      w.heap[X]? = some (.cells #[.int .i64 N, .int .i64 b0, .int .i64 b1, .int .i64 r0, .int .i64 r1, .slice A5 l5.length c5, .slice A6 l6.length c6, .slice A7 l7.length c7] 27 (0, 0)) → w.heap[FB]? = some (.cells #[.func (.func 76) #[] #[.pointer (some ⟨X, 0, none⟩), .pointer (some ⟨FB, 0, none⟩)]] 105 (0, 0)) →
      Calls Tryd.prog 76 #[.slice A s.length c, .int .i64 many, .pointer (some ⟨X, 0, none⟩), .pointer (some ⟨FB, 0, none⟩)] w fun e w' => ∃ v : Value, e = .returned (.tuple #[v, .bool (chooseF l7.length (canB N b0 b1 r0 r1 l5 l6 l7) d a s).isSome]) ∧ Below w.heap.size w w' ∧
        ∀ l, chooseF l7.length (canB N b0 b1 r0 r1 l5 l6 l7) d a s = some l → ∃ (Al : Option Addr) (cl : Nat), v = .slice Al l.length cl ∧ l.length ≤ cl ∧ l.length ≤ 10 ∧ (∀ ad, Al = some ad → base ≤ ad.block) ∧ Kd.C (Kd.int .i64) w' Al l.length l := by
  intro d
  induction d with
  | zero =>
    intro s A c a w hsd hfa haL hsc hAn hbA hbw hK h5 h6 h7 hs hX hF
    have hsm : (s.length : Int) = (many : Int) := by omega
    have hcan := can_any N b0 b1 r0 r1 A5 c5 l5 A6 c6 l6 A7 c7 l7 A c s hB (by omega) w hK h5 h6 h7 hs
    have hsl : s.length ≤ 10 := by omega
    obtain ⟨R, hR⟩ : ∃ R, R = chooseF l7.length (canB N b0 b1 r0 r1 l5 l6 l7) 0 a s := ⟨_, rfl⟩
    rw [← hR]
    have hR2 : R = if canB N b0 b1 r0 r1 l5 l6 l7 s = true then some s else none := hR
    have HR := Lib.hid hR2
    have HS := Lib.hid hs
    have HBA := Lib.hid hbA
    clear hR hR2 hsd hfa hs hbA
    go_enter Tryd.func76, Tryd.ntmps76
    go_wp2_with (first | (refine wpList_load_row rfl 27 _ rfl X rfl 27 #[.int .i64 N, .int .i64 b0, .int .i64 b1, .int .i64 r0, .int .i64 r1, .slice A5 l5.length c5, .slice A6 l6.length c6, .slice A7 l7.length c7] (0, 0) _ hX Tryd.underlying27 rfl (by kernel_rfl) ?_) | (go_at_call 77; refine hcan.mono ?_; rintro e w2 ⟨rfl, hb2⟩))
    go_ret2
    refine ⟨.slice A s.length c, ?_, hb2, fun l hl => ?_⟩
    · rw [HR.out]
      by_cases hc : canB N b0 b1 r0 r1 l5 l6 l7 s = true
      · rw [if_pos hc, hc]; rfl
      · rw [if_neg hc]
        simp only [Bool.not_eq_true] at hc
        rw [hc]; rfl
    · rw [HR.out] at hl
      split at hl
      · injection hl with hl
        subst hl
        exact ⟨A, c, rfl, hsc, hsl, HBA.out, Kd.C_below HS.out hb2⟩
      · cases hl
  | succ d ih =>
    intro s A c a w hsd hfa haL hsc hAn hbA hbw hK h5 h6 h7 hs hX hF
    have hne : ¬ (s.length : Int) = (many : Int) := by omega
    have hsl : s.length ≤ 10 := by omega
    have hlL : l7.length ≤ 10 := hB.len.2.2
    have IH := Lib.hid ih
    have HS := Lib.hid hs
    have HK := Lib.hid hK
    have H5 := Lib.hid h5
    have H6 := Lib.hid h6
    have H7 := Lib.hid h7
    have HB := Lib.hid hB
    have HSD := Lib.hid hsd
    have HBA := Lib.hid hbA
    clear hbA
    obtain ⟨R, hR⟩ : ∃ R, R = chooseF l7.length (canB N b0 b1 r0 r1 l5 l6 l7) (d + 1) a s := ⟨_, rfl⟩
    rw [← hR]
    have hR2 : R = firstOf (fun k => chooseF l7.length (canB N b0 b1 r0 r1 l5 l6 l7) d (k + 1) (s ++ [(k : Int)])) a (l7.length - a) := hR
    have HR := Lib.hid hR2
    have hcX : w.cell? ⟨X, 7, none⟩ = some (.slice A7 l7.length c7) := (blk_cell hX 7).trans rfl
    clear hR hR2 hs hK ih hB
    by_cases hs0 : s.length = 0
    · have ha0 : (a : Int) = 0 := by
        have := hfa
        unfold fromN at this
        rw [if_pos hs0] at this
        exact this
      have hn0 : ¬ (0 : Int) < (s.length : Int) := by omega
      obtain rfl : a = 0 := by omega
      have HS0 := Lib.hid hs0
      clear ha0 hfa hs0
      go_enter Tryd.func76, Tryd.ntmps76
      go_wp2_with fail
      go_loopw [9] (fun i wr => ∃ k : Nat, 0 ≤ k ∧ k ≤ l7.length ∧ i = .int .i64 k ∧ Below w.heap.size w wr ∧ Hid (R = firstOf (fun k => chooseF l7.length (canB N b0 b1 r0 r1 l5 l6 l7) d (k + 1) (s ++ [(k : Int)])) k (l7.length - k))) (fun i _ => l7.length - (intOf i).toNat)
      case atStart => exact ⟨0, Nat.le_refl _, haL, rfl, Below.refl _ _, HR⟩
      case round =>
        obtain ⟨k, hak, hkL, rfl, hBW, hRk⟩ := hrel
        have hXr := blk_below hX hBW
        have hFr := blk_below hF hBW
        have hcXr : wr.cell? ⟨X, 7, none⟩ = some (.slice A7 l7.length c7) := (blk_cell hXr 7).trans rfl
        have HBW := Lib.hid hBW
        clear hBW
        by_cases hlt : k < l7.length
        · have hlt1 : (k : Int) < (l7.length : Int) := by omega
          cases hFk : chooseF l7.length (canB N b0 b1 r0 r1 l5 l6 l7) d (k + 1) (s ++ [(k : Int)]) with
          | none =>
            have HFK := Lib.hid hFk
            clear hFk
            go_wp2_with fail
            refine wp_calm ?_
            have hFd : wr.drew.heap[FB]? = some (.cells #[.func (.func 76) #[] #[.pointer (some ⟨X, 0, none⟩), .pointer (some ⟨FB, 0, none⟩)]] 105 (0, 0)) := blk_drew hFr
            have hb1 : Below w.heap.size w wr.drew := HBW.out.drew
            refine start_ (n := 17) (S := fun w' => w'.heap[FB]? = some (.cells #[.func (.func 76) #[] #[.pointer (some ⟨X, 0, none⟩), .pointer (some ⟨FB, 0, none⟩)]] 105 (0, 0))) (ds := []) #[false, false, false, false, false, false, false, false, false, false, false, false, false, false, false, false, false] (by kernel_rfl) rfl rfl hFd (fun hHeld => ?_)
            refine with_tabW choose9_tab choose9_bits (fun HT_ HW_ => ?_)
            generalize wr.drew = V1 at hFd hb1 hHeld ⊢
            refine takeA 0 39 rfl rfl (by rintro w' s0; exact exec_load_f105 ((blk_cell s0 0).trans rfl) rfl rfl) ?_
            refine pureA 1 40 ?_
            refine pureA 2 41 ?_
            refine pureA 3 42 ?_
            refine pureA 4 43 ?_
            refine pureA 5 44 ?_
            refine takeA 6 45 rfl rfl (by rintro w' s0; exact exec_cut rfl rfl rfl rfl hsc) ?_
            refine pureA 7 46 ?_
            refine pureA 10 49 ?_
            have hb2 : Below V1.heap.size V1 (V1.alloc (.cells #[.int .i64 (k : Int)] 3)) := (Below.refl _ _).alloc (Nat.le_refl _) _
            have hF2 := blk_below hFd hb2
            have hk2 := blk_new V1 (.cells #[.int .i64 (k : Int)] 3)
            have hb3 := below_call hb1 hb2
            refine oneA 8 (some 47) (fun K hK => ?_)
            refine value_ (v := .slice (some ⟨V1.heap.size, 0, none⟩) 1 1) (w1 := V1.alloc (.cells #[.int .i64 (k : Int)] 3)) rfl rfl (by go_simp; try rfl) ?_
            refine hK.out _ _ hF2 (fun hHeld2 => ?_)
            clear hK K
            refine normA 47 ?_
            generalize V1.alloc (.cells #[.int .i64 (k : Int)] 3) = V2 at hb2 hF2 hk2 hb3 hHeld2 ⊢
            obtain ⟨A', c', V3, hrun, hc', hA', hC', hb4⟩ := append_full V2 A s (Kd.C_below HS.out hb3) hAn (k : Int) V1.heap.size ((blk_cell hk2 0).trans rfl) (by omega)
            have hF3 := blk_below hF2 hb4
            have hb5 := below_call hb3 hb4
            refine oneA 9 (some 48) (fun K hK => ?_)
            refine value_ (v := .slice A' (s ++ [(k : Int)]).length c') (w1 := V3) rfl rfl (hrun _ _ _ _ rfl rfl rfl rfl) ?_
            refine hK.out _ _ hF3 (fun hHeld3 => ?_)
            clear hK K
            refine normA 48 ?_
            refine oneA 11 (some 50) (fun K hK => ?_)
            refine call_ 76 #[.slice A' (s ++ [(k : Int)]).length c', .int .i64 (many : Int), .pointer (some ⟨X, 0, none⟩), .pointer (some ⟨FB, 0, none⟩)] (by rfl) rfl ?_ ?_
            · go_simp
              try rfl
            refine (IH.out (s ++ [(k : Int)]) A' c' (k + 1) V3 (by have := HSD.out; simp; omega) (fromN_next s k) (by omega) hc' (fun e => absurd e hA'.1) (fun ad e => Nat.le_trans (Nat.le_trans hbw hb3.size) (hA'.2 ad e)) (Nat.le_trans hbw hb5.size) (HK.out.below hb5) (Kd.C_below H5.out hb5) (Kd.C_below H6.out hb5) (Kd.C_below H7.out hb5) hC' (blk_below (blk_below hX hb3) hb4) hF3).mono ?_
            rintro e V4 ⟨v, rfl, hb6, hv⟩
            rw [HFK.out] at hv ⊢
            refine ⟨_, rfl, ?_⟩
            have hF4 := blk_below hF3 hb6
            have hb7 := below_call hb5 hb6
            refine hK.out _ _ hF4 (fun hHeld4 => ?_)
            clear hK K
            refine normA 50 ?_
            refine pureA 12 38 ?_
            refine pureA 13 51 ?_
            refine pureA 14 52 ?_
            refine pureA 15 10 ?_
            refine pureA 16 11 ?_
            refine done_ (done_of HT_.out (by kernel_rfl)) ?_
            have HB7 := Lib.hid hb7
            have HV := Lib.hid hv
            clear HT_ HW_ hHeld hHeld2 hHeld3 hHeld4 hrun hC' hF2 hF3 hF4 hk2 hb1 hb2 hb3 hb4 hb5 hb6 hb7 hv hFd
            refine calm_normal ?_
            have HRK := hRk
            go_wp2_with fail
            go_roundw
            case rel => exact ⟨k + 1, by omega, by omega, by go_num, HB7.out, Lib.hid (by
              have h1 := HRK.out
              rw [show l7.length - k = (l7.length - (k + 1)) + 1 by omega, firstOf] at h1
              rw [HFK.out] at h1
              exact h1)⟩
            case measure => simp [intOf]; omega
          | some l =>
            have HFK := Lib.hid hFk
            clear hFk
            go_wp2_with fail
            refine wp_calm ?_
            have hFd : wr.drew.heap[FB]? = some (.cells #[.func (.func 76) #[] #[.pointer (some ⟨X, 0, none⟩), .pointer (some ⟨FB, 0, none⟩)]] 105 (0, 0)) := blk_drew hFr
            have hb1 : Below w.heap.size w wr.drew := HBW.out.drew
            refine start_ (n := 17) (S := fun w' => w'.heap[FB]? = some (.cells #[.func (.func 76) #[] #[.pointer (some ⟨X, 0, none⟩), .pointer (some ⟨FB, 0, none⟩)]] 105 (0, 0))) (ds := []) #[false, false, false, false, false, false, false, false, false, false, false, false, false, false, false, false, false] (by kernel_rfl) rfl rfl hFd (fun hHeld => ?_)
            refine with_tabW choose9_tab choose9_bits (fun HT_ HW_ => ?_)
            generalize wr.drew = V1 at hFd hb1 hHeld ⊢
            refine takeA 0 39 rfl rfl (by rintro w' s0; exact exec_load_f105 ((blk_cell s0 0).trans rfl) rfl rfl) ?_
            refine pureA 1 40 ?_
            refine pureA 2 41 ?_
            refine pureA 3 42 ?_
            refine pureA 4 43 ?_
            refine pureA 5 44 ?_
            refine takeA 6 45 rfl rfl (by rintro w' s0; exact exec_cut rfl rfl rfl rfl hsc) ?_
            refine pureA 7 46 ?_
            refine pureA 10 49 ?_
            have hb2 : Below V1.heap.size V1 (V1.alloc (.cells #[.int .i64 (k : Int)] 3)) := (Below.refl _ _).alloc (Nat.le_refl _) _
            have hF2 := blk_below hFd hb2
            have hk2 := blk_new V1 (.cells #[.int .i64 (k : Int)] 3)
            have hb3 := below_call hb1 hb2
            refine oneA 8 (some 47) (fun K hK => ?_)
            refine value_ (v := .slice (some ⟨V1.heap.size, 0, none⟩) 1 1) (w1 := V1.alloc (.cells #[.int .i64 (k : Int)] 3)) rfl rfl (by go_simp; try rfl) ?_
            refine hK.out _ _ hF2 (fun hHeld2 => ?_)
            clear hK K
            refine normA 47 ?_
            generalize V1.alloc (.cells #[.int .i64 (k : Int)] 3) = V2 at hb2 hF2 hk2 hb3 hHeld2 ⊢
            obtain ⟨A', c', V3, hrun, hc', hA', hC', hb4⟩ := append_full V2 A s (Kd.C_below HS.out hb3) hAn (k : Int) V1.heap.size ((blk_cell hk2 0).trans rfl) (by omega)
            have hF3 := blk_below hF2 hb4
            have hb5 := below_call hb3 hb4
            refine oneA 9 (some 48) (fun K hK => ?_)
            refine value_ (v := .slice A' (s ++ [(k : Int)]).length c') (w1 := V3) rfl rfl (hrun _ _ _ _ rfl rfl rfl rfl) ?_
            refine hK.out _ _ hF3 (fun hHeld3 => ?_)
            clear hK K
            refine normA 48 ?_
            refine oneA 11 (some 50) (fun K hK => ?_)
            refine call_ 76 #[.slice A' (s ++ [(k : Int)]).length c', .int .i64 (many : Int), .pointer (some ⟨X, 0, none⟩), .pointer (some ⟨FB, 0, none⟩)] (by rfl) rfl ?_ ?_
            · go_simp
              try rfl
            refine (IH.out (s ++ [(k : Int)]) A' c' (k + 1) V3 (by have := HSD.out; simp; omega) (fromN_next s k) (by omega) hc' (fun e => absurd e hA'.1) (fun ad e => Nat.le_trans (Nat.le_trans hbw hb3.size) (hA'.2 ad e)) (Nat.le_trans hbw hb5.size) (HK.out.below hb5) (Kd.C_below H5.out hb5) (Kd.C_below H6.out hb5) (Kd.C_below H7.out hb5) hC' (blk_below (blk_below hX hb3) hb4) hF3).mono ?_
            rintro e V4 ⟨v, rfl, hb6, hv⟩
            rw [HFK.out] at hv ⊢
            refine ⟨_, rfl, ?_⟩
            have hF4 := blk_below hF3 hb6
            have hb7 := below_call hb5 hb6
            refine hK.out _ _ hF4 (fun hHeld4 => ?_)
            clear hK K
            refine normA 50 ?_
            refine pureA 12 38 ?_
            refine pureA 13 51 ?_
            refine pureA 14 52 ?_
            refine pureA 15 10 ?_
            refine pureA 16 11 ?_
            refine done_ (done_of HT_.out (by kernel_rfl)) ?_
            have HB7 := Lib.hid hb7
            have HV := Lib.hid hv
            clear HT_ HW_ hHeld hHeld2 hHeld3 hHeld4 hrun hC' hF2 hF3 hF4 hk2 hb1 hb2 hb3 hb4 hb5 hb6 hb7 hv hFd
            refine calm_normal ?_
            have HRK := hRk
            go_wp2_with fail
            go_ret2
            have hRs : R = some l := by
              have h1 := HRK.out
              rw [show l7.length - k = (l7.length - (k + 1)) + 1 by omega, firstOf] at h1
              rw [HFK.out] at h1
              exact h1
            rw [hRs]
            exact ⟨_, rfl, HB7.out, HV.out⟩
        · obtain rfl : k = l7.length := by omega
          have hnl : ¬ (l7.length : Int) < (l7.length : Int) := by omega
          have hRn : R = none := by
            have := hRk.out
            rw [Nat.sub_self] at this
            exact this
          have HRN := Lib.hid hRn
          have HBW2 := HBW
          clear hRn
          go_wp2_with fail
          go_ret2
          rw [HRN.out]
          exact ⟨_, rfl, HBW2.out, fun l hl => by cases hl⟩
    · obtain ⟨la, hla⟩ : ∃ la : Int, la = rd s ((s.length : Int) - 1) := ⟨_, rfl⟩
      have hal : (a : Int) = la + 1 := by
        have := hfa
        unfold fromN at this
        rw [if_neg hs0, ← hla] at this
        exact this
      have hs1 : (0 : Int) < (s.length : Int) := by omega
      obtain ⟨ad, e, hx⟩ := Kd.at_int HS.out ((s.length : Int) - 1) (by omega) (by omega)
      subst e
      rw [← hla, show ((s.length : Int) - 1).toNat = s.length - 1 by omega] at hx
      have hw1 : IntKind.i64.wrap ((s.length : Int) - 1) = (s.length : Int) - 1 := IntWalk.i64_in _ (by constructor <;> omega)
      have hw2 : IntKind.i64.wrap (la + 1) = (a : Int) := by rw [← hal]; exact IntWalk.i64_in _ (by constructor <;> omega)
      have hge1 : (0 : Int) ≤ (s.length : Int) - 1 := by omega
      have hge2 : (s.length : Int) - 1 < (s.length : Int) := by omega
      have HLA := Lib.hid hla
      have HAL := Lib.hid hal
      clear hla hal hfa hAn
      go_enter Tryd.func76, Tryd.ntmps76
      go_wp2_with fail
      go_loopw [9] (fun i wr => ∃ k : Nat, a ≤ k ∧ k ≤ l7.length ∧ i = .int .i64 k ∧ Below w.heap.size w wr ∧ Hid (R = firstOf (fun k => chooseF l7.length (canB N b0 b1 r0 r1 l5 l6 l7) d (k + 1) (s ++ [(k : Int)])) k (l7.length - k))) (fun i _ => l7.length - (intOf i).toNat)
      case atStart => exact ⟨a, Nat.le_refl _, haL, rfl, Below.refl _ _, HR⟩
      case round =>
        obtain ⟨k, hak, hkL, rfl, hBW, hRk⟩ := hrel
        have hXr := blk_below hX hBW
        have hFr := blk_below hF hBW
        have hcXr : wr.cell? ⟨X, 7, none⟩ = some (.slice A7 l7.length c7) := (blk_cell hXr 7).trans rfl
        have HBW := Lib.hid hBW
        clear hBW
        by_cases hlt : k < l7.length
        · have hlt1 : (k : Int) < (l7.length : Int) := by omega
          cases hFk : chooseF l7.length (canB N b0 b1 r0 r1 l5 l6 l7) d (k + 1) (s ++ [(k : Int)]) with
          | none =>
            have HFK := Lib.hid hFk
            clear hFk
            go_wp2_with fail
            refine wp_calm ?_
            have hFd : wr.drew.heap[FB]? = some (.cells #[.func (.func 76) #[] #[.pointer (some ⟨X, 0, none⟩), .pointer (some ⟨FB, 0, none⟩)]] 105 (0, 0)) := blk_drew hFr
            have hb1 : Below w.heap.size w wr.drew := HBW.out.drew
            refine start_ (n := 17) (S := fun w' => w'.heap[FB]? = some (.cells #[.func (.func 76) #[] #[.pointer (some ⟨X, 0, none⟩), .pointer (some ⟨FB, 0, none⟩)]] 105 (0, 0))) (ds := []) #[false, false, false, false, false, false, false, false, false, false, false, false, false, false, false, false, false] (by kernel_rfl) rfl rfl hFd (fun hHeld => ?_)
            refine with_tabW choose9_tab choose9_bits (fun HT_ HW_ => ?_)
            generalize wr.drew = V1 at hFd hb1 hHeld ⊢
            refine takeA 0 39 rfl rfl (by rintro w' s0; exact exec_load_f105 ((blk_cell s0 0).trans rfl) rfl rfl) ?_
            refine pureA 1 40 ?_
            refine pureA 2 41 ?_
            refine pureA 3 42 ?_
            refine pureA 4 43 ?_
            refine pureA 5 44 ?_
            refine takeA 6 45 rfl rfl (by rintro w' s0; exact exec_cut rfl rfl rfl rfl hsc) ?_
            refine pureA 7 46 ?_
            refine pureA 10 49 ?_
            have hb2 : Below V1.heap.size V1 (V1.alloc (.cells #[.int .i64 (k : Int)] 3)) := (Below.refl _ _).alloc (Nat.le_refl _) _
            have hF2 := blk_below hFd hb2
            have hk2 := blk_new V1 (.cells #[.int .i64 (k : Int)] 3)
            have hb3 := below_call hb1 hb2
            refine oneA 8 (some 47) (fun K hK => ?_)
            refine value_ (v := .slice (some ⟨V1.heap.size, 0, none⟩) 1 1) (w1 := V1.alloc (.cells #[.int .i64 (k : Int)] 3)) rfl rfl (by go_simp; try rfl) ?_
            refine hK.out _ _ hF2 (fun hHeld2 => ?_)
            clear hK K
            refine normA 47 ?_
            generalize V1.alloc (.cells #[.int .i64 (k : Int)] 3) = V2 at hb2 hF2 hk2 hb3 hHeld2 ⊢
            obtain ⟨A', c', V3, hrun, hc', hA', hC', hb4⟩ := append_full V2 (some ad) s (Kd.C_below HS.out hb3) (fun e => by cases e) (k : Int) V1.heap.size ((blk_cell hk2 0).trans rfl) (by omega)
            have hF3 := blk_below hF2 hb4
            have hb5 := below_call hb3 hb4
            refine oneA 9 (some 48) (fun K hK => ?_)
            refine value_ (v := .slice A' (s ++ [(k : Int)]).length c') (w1 := V3) rfl rfl (hrun _ _ _ _ rfl rfl rfl rfl) ?_
            refine hK.out _ _ hF3 (fun hHeld3 => ?_)
            clear hK K
            refine normA 48 ?_
            refine oneA 11 (some 50) (fun K hK => ?_)
            refine call_ 76 #[.slice A' (s ++ [(k : Int)]).length c', .int .i64 (many : Int), .pointer (some ⟨X, 0, none⟩), .pointer (some ⟨FB, 0, none⟩)] (by rfl) rfl ?_ ?_
            · go_simp
              try rfl
            refine (IH.out (s ++ [(k : Int)]) A' c' (k + 1) V3 (by have := HSD.out; simp; omega) (fromN_next s k) (by omega) hc' (fun e => absurd e hA'.1) (fun ad e => Nat.le_trans (Nat.le_trans hbw hb3.size) (hA'.2 ad e)) (Nat.le_trans hbw hb5.size) (HK.out.below hb5) (Kd.C_below H5.out hb5) (Kd.C_below H6.out hb5) (Kd.C_below H7.out hb5) hC' (blk_below (blk_below hX hb3) hb4) hF3).mono ?_
            rintro e V4 ⟨v, rfl, hb6, hv⟩
            rw [HFK.out] at hv ⊢
            refine ⟨_, rfl, ?_⟩
            have hF4 := blk_below hF3 hb6
            have hb7 := below_call hb5 hb6
            refine hK.out _ _ hF4 (fun hHeld4 => ?_)
            clear hK K
            refine normA 50 ?_
            refine pureA 12 38 ?_
            refine pureA 13 51 ?_
            refine pureA 14 52 ?_
            refine pureA 15 10 ?_
            refine pureA 16 11 ?_
            refine done_ (done_of HT_.out (by kernel_rfl)) ?_
            have HB7 := Lib.hid hb7
            have HV := Lib.hid hv
            clear HT_ HW_ hHeld hHeld2 hHeld3 hHeld4 hrun hC' hF2 hF3 hF4 hk2 hb1 hb2 hb3 hb4 hb5 hb6 hb7 hv hFd
            refine calm_normal ?_
            have HRK := hRk
            go_wp2_with fail
            go_roundw
            case rel => exact ⟨k + 1, by omega, by omega, by go_num, HB7.out, Lib.hid (by
              have h1 := HRK.out
              rw [show l7.length - k = (l7.length - (k + 1)) + 1 by omega, firstOf] at h1
              rw [HFK.out] at h1
              exact h1)⟩
            case measure => simp [intOf]; omega
          | some l =>
            have HFK := Lib.hid hFk
            clear hFk
            go_wp2_with fail
            refine wp_calm ?_
            have hFd : wr.drew.heap[FB]? = some (.cells #[.func (.func 76) #[] #[.pointer (some ⟨X, 0, none⟩), .pointer (some ⟨FB, 0, none⟩)]] 105 (0, 0)) := blk_drew hFr
            have hb1 : Below w.heap.size w wr.drew := HBW.out.drew
            refine start_ (n := 17) (S := fun w' => w'.heap[FB]? = some (.cells #[.func (.func 76) #[] #[.pointer (some ⟨X, 0, none⟩), .pointer (some ⟨FB, 0, none⟩)]] 105 (0, 0))) (ds := []) #[false, false, false, false, false, false, false, false, false, false, false, false, false, false, false, false, false] (by kernel_rfl) rfl rfl hFd (fun hHeld => ?_)
            refine with_tabW choose9_tab choose9_bits (fun HT_ HW_ => ?_)
            generalize wr.drew = V1 at hFd hb1 hHeld ⊢
            refine takeA 0 39 rfl rfl (by rintro w' s0; exact exec_load_f105 ((blk_cell s0 0).trans rfl) rfl rfl) ?_
            refine pureA 1 40 ?_
            refine pureA 2 41 ?_
            refine pureA 3 42 ?_
            refine pureA 4 43 ?_
            refine pureA 5 44 ?_
            refine takeA 6 45 rfl rfl (by rintro w' s0; exact exec_cut rfl rfl rfl rfl hsc) ?_
            refine pureA 7 46 ?_
            refine pureA 10 49 ?_
            have hb2 : Below V1.heap.size V1 (V1.alloc (.cells #[.int .i64 (k : Int)] 3)) := (Below.refl _ _).alloc (Nat.le_refl _) _
            have hF2 := blk_below hFd hb2
            have hk2 := blk_new V1 (.cells #[.int .i64 (k : Int)] 3)
            have hb3 := below_call hb1 hb2
            refine oneA 8 (some 47) (fun K hK => ?_)
            refine value_ (v := .slice (some ⟨V1.heap.size, 0, none⟩) 1 1) (w1 := V1.alloc (.cells #[.int .i64 (k : Int)] 3)) rfl rfl (by go_simp; try rfl) ?_
            refine hK.out _ _ hF2 (fun hHeld2 => ?_)
            clear hK K
            refine normA 47 ?_
            generalize V1.alloc (.cells #[.int .i64 (k : Int)] 3) = V2 at hb2 hF2 hk2 hb3 hHeld2 ⊢
            obtain ⟨A', c', V3, hrun, hc', hA', hC', hb4⟩ := append_full V2 (some ad) s (Kd.C_below HS.out hb3) (fun e => by cases e) (k : Int) V1.heap.size ((blk_cell hk2 0).trans rfl) (by omega)
            have hF3 := blk_below hF2 hb4
            have hb5 := below_call hb3 hb4
            refine oneA 9 (some 48) (fun K hK => ?_)
            refine value_ (v := .slice A' (s ++ [(k : Int)]).length c') (w1 := V3) rfl rfl (hrun _ _ _ _ rfl rfl rfl rfl) ?_
            refine hK.out _ _ hF3 (fun hHeld3 => ?_)
            clear hK K
            refine normA 48 ?_
            refine oneA 11 (some 50) (fun K hK => ?_)
            refine call_ 76 #[.slice A' (s ++ [(k : Int)]).length c', .int .i64 (many : Int), .pointer (some ⟨X, 0, none⟩), .pointer (some ⟨FB, 0, none⟩)] (by rfl) rfl ?_ ?_
            · go_simp
              try rfl
            refine (IH.out (s ++ [(k : Int)]) A' c' (k + 1) V3 (by have := HSD.out; simp; omega) (fromN_next s k) (by omega) hc' (fun e => absurd e hA'.1) (fun ad e => Nat.le_trans (Nat.le_trans hbw hb3.size) (hA'.2 ad e)) (Nat.le_trans hbw hb5.size) (HK.out.below hb5) (Kd.C_below H5.out hb5) (Kd.C_below H6.out hb5) (Kd.C_below H7.out hb5) hC' (blk_below (blk_below hX hb3) hb4) hF3).mono ?_
            rintro e V4 ⟨v, rfl, hb6, hv⟩
            rw [HFK.out] at hv ⊢
            refine ⟨_, rfl, ?_⟩
            have hF4 := blk_below hF3 hb6
            have hb7 := below_call hb5 hb6
            refine hK.out _ _ hF4 (fun hHeld4 => ?_)
            clear hK K
            refine normA 50 ?_
            refine pureA 12 38 ?_
            refine pureA 13 51 ?_
            refine pureA 14 52 ?_
            refine pureA 15 10 ?_
            refine pureA 16 11 ?_
            refine done_ (done_of HT_.out (by kernel_rfl)) ?_
            have HB7 := Lib.hid hb7
            have HV := Lib.hid hv
            clear HT_ HW_ hHeld hHeld2 hHeld3 hHeld4 hrun hC' hF2 hF3 hF4 hk2 hb1 hb2 hb3 hb4 hb5 hb6 hb7 hv hFd
            refine calm_normal ?_
            have HRK := hRk
            go_wp2_with fail
            go_ret2
            have hRs : R = some l := by
              have h1 := HRK.out
              rw [show l7.length - k = (l7.length - (k + 1)) + 1 by omega, firstOf] at h1
              rw [HFK.out] at h1
              exact h1
            rw [hRs]
            exact ⟨_, rfl, HB7.out, HV.out⟩
        · obtain rfl : k = l7.length := by omega
          have hnl : ¬ (l7.length : Int) < (l7.length : Int) := by omega
          have hRn : R = none := by
            have := hRk.out
            rw [Nat.sub_self] at this
            exact this
          have HRN := Lib.hid hRn
          have HBW2 := HBW
          clear hRn
          go_wp2_with fail
          go_ret2
          rw [HRN.out]
          exact ⟨_, rfl, HBW2.out, fun l hl => by cases hl⟩
end Go.Proofs.YtohbeninpmmmpaaDoor
end

section
/- Wrong. -/
set_option linter.unusedSimpArgs false
set_option linter.unusedVariables false
namespace Go.Proofs.YtohbeninpmmmpaaDoor
open Go.RowKit Go.Proofs.YtohbeninpmmmpaaDoorW.PrintWords Go.Proofs.YtohbeninpmmmpaaDoorW.PrintLast Go.Proofs.YtohbeninpmmmpaaDoorW.PrintMore TrydX.X
attribute [local go_sem] Oper.semAt_some
theorem ints_mem {n j : Nat} (h : j < n) : (j : Int) ∈ ints (List.range n) := List.mem_map.2 ⟨j, List.mem_range.2 h, rfl⟩
theorem wrong_all {N b0 b1 r0 r1 : Int} {l5 l6 : List S23} {l7 : List S63} (hB : BookOk N b0 b1 r0 r1 l5 l6 l7) : ∃ l, wrongF l7.length (canB N b0 b1 r0 r1 l5 l6 l7) = some l :=
  wrong_is (Bk.can_none (b := ⟨N, b0, b1, r0, r1, l5, l6, l7⟩) hB fun j hj => ints_mem hj)
set_option maxRecDepth 100000 in
set_option maxHeartbeats 8000000 in
theorem Wrong_any (N b0 b1 r0 r1 : Int) (A5 : Option Addr) (c5 : Nat) (l5 : List S23) (A6 : Option Addr) (c6 : Nat) (l6 : List S23) (A7 : Option Addr) (c7 : Nat) (l7 : List S63)
    (w : World) (hK : Kinds w) (h5 : Kd.C k23 w A5 l5.length l5) (hc5 : l5.length ≤ c5) (h6 : Kd.C k23 w A6 l6.length l6) (hc6 : l6.length ≤ c6) (h7 : Kd.C k63 w A7 l7.length l7) (hc7 : l7.length ≤ c7)
    (hl : l5.length ≤ 4611686018427387904 ∧ l6.length ≤ 4611686018427387904 ∧ l7.length ≤ 4611686018427387904) :
    Calls Tryd.prog 31 #[.agg #[.int .i64 N, .int .i64 b0, .int .i64 b1, .int .i64 r0, .int .i64 r1, .slice A5 l5.length c5, .slice A6 l6.length c6, .slice A7 l7.length c7]] w fun e w' => ∃ (l : List Int) (Al : Option Addr), e = .returned (.tuple #[.slice Al l.length l.length, .int .i64 (if checkB N b0 b1 r0 r1 l5 l6 l7 = true then 0 else 30)]) ∧ Below w.heap.size w w' ∧
      (if checkB N b0 b1 r0 r1 l5 l6 l7 = true then wrongF l7.length (canB N b0 b1 r0 r1 l5 l6 l7) = some l else l = []) ∧ (∀ ad, Al = some ad → w.heap.size ≤ ad.block) ∧ Kd.C (Kd.int .i64) w' Al l.length l := by
  have hxx := blk_new w (.cells #[.int .i64 N, .int .i64 b0, .int .i64 b1, .int .i64 r0, .int .i64 r1, .slice A5 l5.length c5, .slice A6 l6.length c6, .slice A7 l7.length c7] 27)
  have hb0 : Below w.heap.size w (w.alloc (.cells #[.int .i64 N, .int .i64 b0, .int .i64 b1, .int .i64 r0, .int .i64 r1, .slice A5 l5.length c5, .slice A6 l6.length c6, .slice A7 l7.length c7] 27)) := (Below.refl _ _).alloc (Nat.le_refl _) _
  have hck := Check_any (N := N) (b0 := b0) (b1 := b1) (r0 := r0) (r1 := r1) A5 c5 A6 c6 A7 c7 _ (Kd.C_below h5 hb0) hc5 (Kd.C_below h6 hb0) hc6 (Kd.C_below h7 hb0) hc7 hl
  by_cases hcB : checkB N b0 b1 r0 r1 l5 l6 l7 = true
  · rw [if_pos hcB] at hck
    simp only [hcB, if_true]
    have hBk := checkB_iff.1 hcB
    obtain ⟨l, hwr⟩ := wrong_all hBk
    have HW := Lib.hid hwr
    have HBK := Lib.hid hBk
    have hL := hBk.len.2.2
    have hw1 : IntKind.i64.wrap ((l7.length : Int) + 1) = (l7.length : Int) + 1 := IntWalk.i64_in _ (by constructor <;> omega)
    have HK := Lib.hid hK
    have H5 := Lib.hid h5
    have H6 := Lib.hid h6
    have H7 := Lib.hid h7
    clear hcB hwr hBk hK
    go_enter Tryd.func31, Tryd.ntmps31
    go_wp2_with (first | (refine wpList_load_row rfl 27 _ rfl w.heap.size rfl 27 #[.int .i64 N, .int .i64 b0, .int .i64 b1, .int .i64 r0, .int .i64 r1, .slice A5 l5.length c5, .slice A6 l6.length c6, .slice A7 l7.length c7] (0, 0) _ hxx Tryd.underlying27 rfl (by kernel_rfl) ?_) | (go_at_call 19; refine hck.mono ?_; rintro e w1 ⟨rfl, hb1⟩; have hx1 := blk_below hxx hb1; have hlx1 : w.heap.size < w1.heap.size := blk_lt hx1; have hc71 : w1.cell? ⟨w.heap.size, 7, none⟩ = some (.slice A7 l7.length c7) := (blk_cell hx1 7).trans rfl))
    have hF2 := blk_new w1 (.cells #[.func (.func 76) #[] #[.pointer (some ⟨w.heap.size, 0, none⟩), .pointer (some ⟨w1.heap.size, 0, none⟩)]] 105)
    have hb2 : Below w1.heap.size w1 (w1.alloc (.cells #[.func (.func 76) #[] #[.pointer (some ⟨w.heap.size, 0, none⟩), .pointer (some ⟨w1.heap.size, 0, none⟩)]] 105)) := (Below.refl _ _).alloc (Nat.le_refl _) _
    have hX2 := blk_below hx1 hb2
    have hb3 := below_call (below_call hb0 hb1) hb2
    generalize w1.alloc (.cells #[.func (.func 76) #[] #[.pointer (some ⟨w.heap.size, 0, none⟩), .pointer (some ⟨w1.heap.size, 0, none⟩)]] 105) = W2 at hF2 hb2 hX2 hb3 ⊢
    have HF2 := Lib.hid hF2
    have HX2 := Lib.hid hX2
    have HB3 := Lib.hid hb3
    clear hF2 hX2 hb3 hck hxx hb0 hb2 hx1 hc71
    go_loopw [19] (fun i wr => ∃ k : Nat, k ≤ l7.length + 1 ∧ i = .int .i64 k ∧ Below W2.heap.size W2 wr ∧ Hid (firstOf (fun many => chooseF l7.length (canB N b0 b1 r0 r1 l5 l6 l7) many 0 []) k (l7.length + 1 - k) = some l)) (fun i _ => l7.length + 1 - (intOf i).toNat)
    case atStart => exact ⟨0, Nat.zero_le _, rfl, Below.refl _ _, Lib.hid HW.out⟩
    case round =>
      obtain ⟨k, hk, rfl, hBW, hR⟩ := hrel
      by_cases hlt : k < l7.length + 1
      · have hlt1 : (k : Int) < (l7.length : Int) + 1 := by omega
        have hFr := blk_below HF2.out hBW
        have hXr := blk_below HX2.out hBW
        have hcF : wr.cell? ⟨w1.heap.size, 0, none⟩ = some (.func (.func 76) #[] #[.pointer (some ⟨w.heap.size, 0, none⟩), .pointer (some ⟨w1.heap.size, 0, none⟩)]) := (blk_cell hFr 0).trans rfl
        have hbr := below_call HB3.out hBW
        have hch := choose_any N b0 b1 r0 r1 A5 c5 l5 A6 c6 l6 A7 c7 l7 HBK.out w.heap.size w1.heap.size k w.heap.size (by omega) k [] none 0 0 wr (by simp) rfl (Nat.zero_le _) (Nat.le_refl _) (fun _ => rfl) (fun ad e => by cases e) hbr.size (HK.out.below hbr) (Kd.C_below h5 hbr) (Kd.C_below h6 hbr) (Kd.C_below h7 hbr) (Kd.C_nil _ _) hXr hFr
        simp only [List.length_nil] at hch
        have HBR := Lib.hid hbr
        have HBW := Lib.hid hBW
        clear hbr hBW hFr hXr
        cases hc : chooseF l7.length (canB N b0 b1 r0 r1 l5 l6 l7) k 0 [] with
        | none =>
          rw [hc] at hch
          have HC := Lib.hid hc
          clear hc
          go_wp2_with (go_at_call 76; refine hch.mono ?_; rintro e w4 ⟨v, rfl, hb4, hv⟩)
          go_roundw
          case rel => exact ⟨k + 1, by omega, by go_num, below_call HBW.out hb4, Lib.hid (by
            have h1 := hR.out
            rw [show l7.length + 1 - k = (l7.length + 1 - (k + 1)) + 1 by omega, firstOf] at h1
            rw [HC.out] at h1
            exact h1)⟩
          case measure => simp [intOf]; omega
        | some q =>
          rw [hc] at hch
          have hql : q = l := by
            have h1 := hR.out
            rw [show l7.length + 1 - k = (l7.length + 1 - (k + 1)) + 1 by omega, firstOf] at h1
            rw [hc] at h1
            injection h1
          subst hql
          clear hc
          go_wp2_with (go_at_call 76; refine hch.mono ?_; rintro e w4 ⟨v, rfl, hb4, hv⟩; obtain ⟨Al, cl, rfl, hcl, hl10, hbl, hCl⟩ := hv q rfl; have hq0 : (0 : Int) ≤ (q.length : Int) := by omega)
          go_ret2
          exact ⟨q, Al, rfl, below_call HBR.out hb4, HW.out, hbl, hCl⟩
      · exfalso
        have h1 := hR.out
        rw [show l7.length + 1 - k = 0 by omega] at h1
        cases h1
  · rw [if_neg hcB] at hck
    simp only [hcB, if_false]
    clear hcB
    go_enter Tryd.func31, Tryd.ntmps31
    go_wp2_with (first | (refine wpList_load_row rfl 27 _ rfl w.heap.size rfl 27 #[.int .i64 N, .int .i64 b0, .int .i64 b1, .int .i64 r0, .int .i64 r1, .slice A5 l5.length c5, .slice A6 l6.length c6, .slice A7 l7.length c7] (0, 0) _ hxx Tryd.underlying27 rfl (by kernel_rfl) ?_) | (go_at_call 19; refine hck.mono ?_; rintro e w1 ⟨rfl, hb1⟩))
    go_ret2
    exact ⟨[], none, rfl, below_call hb0 hb1, rfl, (fun ad e => by cases e), Kd.C_nil _ _⟩
end Go.Proofs.YtohbeninpmmmpaaDoor
end

section
/- Maps whose keys and elements are numbers: what a look-up and a store do. -/
set_option linter.unusedSimpArgs false
set_option linter.unusedVariables false
namespace Go.Proofs.YtohbeninpmmmpaaDoor
open Go Go.RowKit
def iLook : List (Int × Int) → Int → Option Int
  | [], _ => none
  | x :: es, s => if s = x.1 then some x.2 else iLook es s
def iPut : List (Int × Int) → Int → Int → List (Int × Int)
  | [], s, v => [(s, v)]
  | x :: es, s, v => if s = x.1 then (s, v) :: es else x :: iPut es s v
theorem iLook_put (es : List (Int × Int)) (s v s' : Int) : iLook (iPut es s v) s' = if s' = s then some v else iLook es s' := by
  induction es with
  | nil => simp [iPut, iLook]
  | cons x es ih =>
    simp only [iPut]
    by_cases h : s = x.1
    · rw [if_pos h]
      simp only [iLook]
      subst h
      split <;> simp_all
    · rw [if_neg h]
      simp only [iLook]
      by_cases h' : s' = x.1
      · rw [if_pos h', if_pos h', if_neg]
        intro h1
        exact h (h1 ▸ h')
      · rw [if_neg h', if_neg h', ih]
def IEnc (arr : Array MapEntry) (es : List (Int × Int)) : Prop := arr.toList.map (fun e => (e.key, e.val)) = es.map fun x => (Value.int .i64 x.1, Value.int .i64 x.2)
def IMap (w : World) (b : Nat) (es : List (Int × Int)) : Prop := ∃ arr clk, w.heap[b]? = some (.map arr clk) ∧ IEnc arr es ∧ Born arr clk
theorem IMap.lt {w : World} {b : Nat} {es : List (Int × Int)} (h : IMap w b es) : b < w.heap.size := by
  obtain ⟨arr, clk, h1, h2⟩ := h
  exact (Array.getElem?_eq_some_iff.1 h1).1
theorem IMap.below {w w' : World} {b : Nat} {es : List (Int × Int)} (h : IMap w b es) (hb : Below w.heap.size w w') : IMap w' b es := by
  have hl := h.lt
  obtain ⟨arr, clk, h1, h2⟩ := h
  exact ⟨arr, clk, (hb.block b hl).trans h1, h2⟩
theorem find_int (s : Int) : ∀ (l : List MapEntry) (es : List (Int × Int)) (i : Nat), (l.map fun e => (e.key, e.val)) = (es.map fun x => (Value.int .i64 x.1, Value.int .i64 x.2)) →
    (iLook es s = none ∧ Instr.findNow (.int .i64) (.int .i64 s) l i = some none ∧ ∀ v, iPut es s v = es ++ [(s, v)]) ∨
    ∃ j v, iLook es s = some v ∧ Instr.findNow (.int .i64) (.int .i64 s) l i = some (some (i + j, .int .i64 v)) ∧ j < l.length ∧ (es[j]?).map (·.1) = some s ∧ ∀ u, iPut es s u = es.set j (s, u)
  | [], es, i, h => by
    have : es = [] := by simpa using h.symm
    subst this
    exact .inl ⟨rfl, rfl, fun v => rfl⟩
  | e :: l, es, i, h => by
    cases es with
    | nil => simp at h
    | cons x es =>
      simp only [List.map_cons, List.cons.injEq, Prod.mk.injEq] at h
      obtain ⟨⟨hk, hv⟩, ht⟩ := h
      by_cases hs : s = x.1
      · refine .inr ⟨0, x.2, by simp [iLook, hs], ?_, by simp, by simp [hs], fun u => by simp [iPut, hs]⟩
        simp [Instr.findNow, Instr.sameNow, hk, hv, hs]
      · have hsame : Instr.sameNow (.int .i64) (.int .i64 s) e.key = some false := by rw [hk]; simp [Instr.sameNow, hs]
        rcases find_int s l es (i + 1) ht with ⟨h1, h2, h3⟩ | ⟨j, v, h1, h2, h3, h4, h5⟩
        · refine .inl ⟨by simp [iLook, hs, h1], by simp [Instr.findNow, hsame, h2], fun v => by simp [iPut, hs, h3]⟩
        · refine .inr ⟨j + 1, v, by simp [iLook, hs, h1], ?_, by simp; omega, by simpa using h4, fun u => by simp [iPut, hs, h5]⟩
          simp [Instr.findNow, hsame, h2]
          omega
section
variable {P : Program} {T E : TypeId} (hT : P.underlying T = some (.map 3 E)) (h3 : P.underlying 3 = some (.int .i64))
include hT h3
theorem run_lookup_int {w : World} {b : Nat} {arr : Array MapEntry} {clk : Nat} {es : List (Int × Int)} (h : w.heap[b]? = some (.map arr clk)) (he : IEnc arr es) (hz : (zeroValue E).run P w = .ok (.int .i64 0) w) (s : Int) :
    (Instr.lookup T (.map (some b)) (.int .i64 s) false).run P w = .ok (.int .i64 ((iLook es s).getD 0)) w := by
  have hck := MapKept.run_checkKey (P := P) (w := w) (kt := 3) (k := .int .i64 s) h3 (by simp [MapKept.IsKey]) arr.isEmpty 9999
  rcases find_int s arr.toList es 0 he with ⟨h1, h2, _⟩ | ⟨j, v, h1, h2, _⟩
  · have hf := MapKept.run_findKey (w := w) h3 h2
    simp only [Instr.lookup, Sem.run_bind, run_underlying hT, Result.andThen_ok, run_getObj_map h, Sem.run_pure, hck, hf]
    simp [hz, h1]
  · have hf := MapKept.run_findKey (w := w) h3 h2
    simp only [Instr.lookup, Sem.run_bind, run_underlying hT, Result.andThen_ok, run_getObj_map h, Sem.run_pure, hck, hf]
    simp [h1]
theorem imap_update {W : World} {b : Nat} {es : List (Int × Int)} (hM : IMap W b es) (s u : Int) : ∃ W1, (Instr.mapUpdate T (.map (some b)) (.int .i64 s) (.int .i64 u)).run P W = .ok () W1 ∧ IMap W1 b (iPut es s u) ∧ W.grownBy W1 (some b) ∧ W1.heap.size = W.heap.size := by
  have hl := hM.lt
  obtain ⟨arr, clk, h, he, hb⟩ := hM
  have hck := MapKept.run_checkKey (P := P) (w := W) (kt := 3) (k := .int .i64 s) h3 (by simp [MapKept.IsKey]) false 9999
  have hset : ∀ o : Obj, (setObj b o).run P W = .ok () (W.putObj b o) := by
    intro o; simp [setObj, Sem.run, h, World.putObj]
  rcases find_int s arr.toList es 0 he with ⟨h1, h2, h4⟩ | ⟨j, v, h1, h2, hj, hkey, hput⟩
  · have hf := MapKept.run_findKey (w := W) h3 h2
    refine ⟨W.putObj b (.map (arr.push { key := .int .i64 s, val := .int .i64 u, born := clk }) (clk + 1)), ?_, ⟨_, _, World.putObj_heap_same hl, ?_, ?_, ?_⟩, grownBy_putObj' W b _, by show (W.heap.setIfInBounds b _).size = _; simp⟩
    · simp only [Instr.mapUpdate, Sem.run_bind, run_underlying hT, Result.andThen_ok, run_getObj_map h, hck, hf, hset]
    · unfold IEnc at he ⊢
      rw [h4]
      simp [he]
    · intro x hx
      simp only [Array.toList_push, List.mem_append, List.mem_singleton] at hx
      rcases hx with hx | rfl
      · have := hb.1 x hx; omega
      · show clk < clk + 1; omega
    · rw [Array.toList_push, List.map_append, List.nodup_append]
      refine ⟨hb.2, by simp, ?_⟩
      intro x hx y hy
      simp only [List.map_cons, List.map_nil, List.mem_singleton] at hy
      obtain ⟨e, he2, rfl⟩ := List.mem_map.1 hx
      have := hb.1 e he2
      omega
  · have hf := MapKept.run_findKey (w := W) h3 h2
    have hjl : j < es.length := by
      rcases Nat.lt_or_ge j es.length with h6 | h6
      · exact h6
      · rw [List.getElem?_eq_none h6] at hkey; cases hkey
    have hold : ((arr[j]?).map (·.key)).getD (.int .i64 s) = .int .i64 s := by
      have h6 := congrArg (fun l => l[j]?) he
      simp only [List.getElem?_map] at h6
      have h7 : es[j]? = some es[j] := List.getElem?_eq_getElem hjl
      rw [h7] at h6 hkey
      simp only [Option.map_some, Option.some.injEq] at hkey
      rw [Array.getElem?_toList] at h6
      cases ha : arr[j]? with
      | none => rfl
      | some e =>
        rw [ha] at h6
        simp only [Option.map_some, Option.some.injEq, Prod.mk.injEq] at h6
        simp [h6.1, hkey]
    have hmap : (arr.modify j fun e => { e with key := .int .i64 s, val := .int .i64 u }).toList.map (·.born) = arr.toList.map (·.born) := by
      rw [Array.toList_modify]
      apply List.ext_getElem?
      intro i
      simp only [List.getElem?_map, List.getElem?_modify]
      cases arr.toList[i]? <;> simp <;> split <;> rfl
    refine ⟨W.putObj b (.map (arr.modify j fun e => { e with key := .int .i64 s, val := .int .i64 u }) clk), ?_, ⟨_, _, World.putObj_heap_same hl, ?_, ?_, ?_⟩, grownBy_putObj' W b _, by show (W.heap.setIfInBounds b _).size = _; simp⟩
    · have hsb : Instr.sameBits 10000 (.int .i64 s) (.int .i64 s) = true := by simp [Instr.sameBits]
      simp only [Nat.zero_add] at hf
      simp only [Instr.mapUpdate, Sem.run_bind, run_underlying hT, Result.andThen_ok, run_getObj_map h, hck, hf, hold, Instr.keyThatStays, hsb, if_true, Sem.run_pure, hset]
    · unfold IEnc at he ⊢
      rw [hput u, Array.toList_modify]
      rw [List.map_set, ← he]
      apply List.ext_getElem?
      intro i
      simp only [List.getElem?_map, List.getElem?_set, List.getElem?_modify, List.length_map]
      by_cases hij : j = i
      · subst hij
        have hlt : j < arr.toList.length := hj
        rw [if_pos rfl, if_pos hlt, List.getElem?_eq_getElem hlt]
        simp
      · rw [if_neg hij]
        cases arr.toList[i]? <;> simp [hij]
    · intro x hx
      have h6 : x.born ∈ (arr.modify j fun e => { e with key := .int .i64 s, val := .int .i64 u }).toList.map (·.born) := List.mem_map.2 ⟨x, hx, rfl⟩
      rw [hmap] at h6
      obtain ⟨e, he2, h7⟩ := List.mem_map.1 h6
      rw [← h7]
      exact hb.1 e he2
    · rw [hmap]
      exact hb.2
end
end Go.Proofs.YtohbeninpmmmpaaDoor
end

section
/- A loop over a map that the loop does not write: the iterator's block, and what 'range' and 'next' do to it. -/
set_option linter.unusedSimpArgs false
set_option linter.unusedVariables false
namespace Go.Proofs.YtohbeninpmmmpaaDoor
open Go Go.RowKit
open Go.ChangeMaps (setBlock)
/-- The iterator of a map, and what it has handed out. -/
structure Iter (w : World) (r b : Nat) (arr : Array MapEntry) (clk : Nat) (seen : Array Nat) : Prop where
  it : w.heap[r]? = some (.mapIter (some b) clk seen clk)
  mp : w.heap[b]? = some (.map arr clk)
  born : Born arr clk
theorem Iter.ne {w : World} {r b : Nat} {arr : Array MapEntry} {clk : Nat} {seen : Array Nat} (h : Iter w r b arr clk seen) : r ≠ b := by
  intro e
  have h1 := h.it
  rw [e, h.mp] at h1
  cases h1
theorem Iter.seen_is {w : World} {r b : Nat} {arr : Array MapEntry} {clk : Nat} {seen : Array Nat} (h : Iter w r b arr clk seen) : w.iterSeen r = seen := by
  unfold World.iterSeen
  rw [h.it]
theorem Iter.new {w : World} {b : Nat} {arr : Array MapEntry} {clk : Nat} (h : w.heap[b]? = some (.map arr clk)) (hb : Born arr clk) : Iter (w.alloc (.mapIter (some b) clk #[] clk)) w.heap.size b arr clk #[] :=
  ⟨heap_alloc_new w _, by rw [heap_alloc_old w _ (Array.getElem?_eq_some_iff.1 h).1]; exact h, hb⟩
theorem Iter.grown {w w' : World} {r b : Nat} {arr : Array MapEntry} {clk : Nat} {seen : Array Nat} {row : Option Nat} (h : Iter w r b arr clk seen) (hg : w.grownBy w' row) (h1 : some r ≠ row) (h2 : some b ≠ row) : Iter w' r b arr clk seen :=
  ⟨(hg.block r (Array.getElem?_eq_some_iff.1 h.it).1 h1).trans h.it, (hg.block b (Array.getElem?_eq_some_iff.1 h.mp).1 h2).trans h.mp, h.born⟩
theorem Iter.below {w w' : World} {r b : Nat} {arr : Array MapEntry} {clk : Nat} {seen : Array Nat} (h : Iter w r b arr clk seen) (hg : Below w.heap.size w w') : Iter w' r b arr clk seen :=
  ⟨(hg.block r (Array.getElem?_eq_some_iff.1 h.it).1).trans h.it, (hg.block b (Array.getElem?_eq_some_iff.1 h.mp).1).trans h.mp, h.born⟩
section
variable {P : Program} (w : World) {ops : Array Oper} {rest : List Oper} {o : Oper} {a : Act} {Q : Exit → Act → World → Prop}
theorem wpList_range_it (hg : o.guard = none) (m : Operand) (t : TypeId) (hop : o.op = Op.range t m) (k e : TypeId) (ht : P.underlying t = some (.map k e)) (b : Nat) (arr : Array MapEntry) (clk : Nat)
    (hm : a.eval m = .map (some b)) (h : w.heap[b]? = some (.map arr clk))
    (hK : wpList P ops Q rest (a.put o.dst (.pointer (some ⟨w.heap.size, 0, none⟩))) (w.alloc (.mapIter (some b) clk #[] clk))) :
    wpList P ops Q (o :: rest) a w := by
  refine wpList_plain hg fun K' hK' => ?_
  unfold Oper.wp
  simp [execOp, hop, hm, run_range_map w t k e b arr clk ht h, Result.andThen]
  exact hK' _ _ hK
theorem wpList_next_it (hg : o.guard = none) (it : Operand) (hop : o.op = Op.next it false) (r b : Nat) (arr : Array MapEntry) (clk : Nat) (seen : Array Nat)
    (hit : a.eval it = .pointer (some ⟨r, 0, none⟩)) (h : Iter w r b arr clk seen)
    (hDone : (∀ x ∈ arr.toList, seen.contains x.born = true) → wpList P ops Q rest (a.put o.dst (.tuple #[.bool false])) w)
    (hMore : ∀ e ∈ arr.toList, ∀ w' : World, Iter w' r b arr clk (seen.push e.born) → (leftOf arr (seen.push e.born)).size < (leftOf arr seen).size → w.grownBy w' (some r) → w'.heap.size = w.heap.size →
      (Instr.entry (.pointer (some ⟨r, 0, none⟩))).run P w' = .ok (.tuple #[e.key, e.val]) w' → wpList P ops Q rest (a.put o.dst (.tuple #[.bool true, e.key, e.val])) w') :
    wpList P ops Q (o :: rest) a w := by
  refine wpList_plain hg fun K' hK' => ?_
  unfold Oper.wp
  have hne := h.ne
  obtain ⟨hr, hb, hbn⟩ := h
  rcases run_next_at (P := P) w o.type r b clk clk seen arr clk hr hb hbn.1 (Nat.le_refl _) with ⟨h0, hrun⟩ | ⟨e, he, w1, hal, hrun⟩
  · simp [execOp, hop, hit, hrun, Result.andThen]
    exact hK' _ _ (hDone (all_seen arr seen h0))
  · obtain ⟨hem, hes⟩ := mem_left he
    have hr1 : w1.heap[r]? = some (.mapIter (some b) clk seen clk) := by rcases hal with rfl | rfl <;> exact hr
    have hb1 : w1.heap[b]? = some (.map arr clk) := by rcases hal with rfl | rfl <;> exact hb
    have hs1 : (setBlock w1 r (.mapIter (some b) clk (seen.push e.born) clk)).heap[r]? = some (.mapIter (some b) clk (seen.push e.born) clk) := by
      simp [setBlock, Array.getElem?_setIfInBounds, (Array.getElem?_eq_some_iff.1 hr1).1]
    have hs2 : ∀ i, i ≠ r → (setBlock w1 r (.mapIter (some b) clk (seen.push e.born) clk)).heap[i]? = w1.heap[i]? := fun i hi => by
      simp only [setBlock, Array.getElem?_setIfInBounds]
      rw [if_neg (fun e => hi e.symm)]
    have hb' := (hs2 b (fun e1 => hne e1.symm)).trans hb1
    simp [execOp, hop, hit, hrun, Result.andThen]
    refine hK' _ _ (hMore e hem _ ⟨hs1, hb', hbn⟩ (left_shrinks arr seen e he) ?_ ?_ (run_entry_at _ r b clk seen arr clk e hs1 hb' hem hbn.2))
    · rcases hal with rfl | rfl <;> exact ⟨rfl, rfl, rfl, by simp [setBlock], fun i _ hi => hs2 i (fun e1 => hi (by rw [e1]))⟩
    · rcases hal with rfl | rfl <;> simp [setBlock]
end
/-- What an entry of such a map reads. -/
theorem IEnc.val {arr : Array MapEntry} {es : List (Int × Int)} (h : IEnc arr es) {e : MapEntry} (he : e ∈ arr.toList) : ∃ x ∈ es, e.key = .int .i64 x.1 ∧ e.val = .int .i64 x.2 := by
  have h1 : (e.key, e.val) ∈ arr.toList.map (fun e => (e.key, e.val)) := List.mem_map.2 ⟨e, he, rfl⟩
  rw [h] at h1
  obtain ⟨x, hx, e1⟩ := List.mem_map.1 h1
  injection e1 with h3 h4
  exact ⟨x, hx, h3.symm, h4.symm⟩
theorem IEnc.mem {arr : Array MapEntry} {es : List (Int × Int)} (h : IEnc arr es) {x : Int × Int} (hx : x ∈ es) : ∃ e ∈ arr.toList, e.key = .int .i64 x.1 ∧ e.val = .int .i64 x.2 := by
  have h1 : (Value.int .i64 x.1, Value.int .i64 x.2) ∈ es.map fun x => (Value.int .i64 x.1, Value.int .i64 x.2) := List.mem_map.2 ⟨x, hx, rfl⟩
  rw [← h] at h1
  obtain ⟨e, he, e1⟩ := List.mem_map.1 h1
  injection e1 with h3 h4
  exact ⟨e, he, h3, h4⟩
theorem PEnc.val {arr : Array MapEntry} {es : List ((Int × Int) × Int)} (h : PEnc arr es) {e : MapEntry} (he : e ∈ arr.toList) : ∃ x ∈ es, e.key = pairV x.1.1 x.1.2 ∧ e.val = .int .i64 x.2 := by
  have h1 : (e.key, e.val) ∈ arr.toList.map (fun e => (e.key, e.val)) := List.mem_map.2 ⟨e, he, rfl⟩
  rw [h] at h1
  obtain ⟨x, hx, e1⟩ := List.mem_map.1 h1
  injection e1 with h3 h4
  exact ⟨x, hx, h3.symm, h4.symm⟩
theorem PEnc.mem {arr : Array MapEntry} {es : List ((Int × Int) × Int)} (h : PEnc arr es) {x : (Int × Int) × Int} (hx : x ∈ es) : ∃ e ∈ arr.toList, e.key = pairV x.1.1 x.1.2 ∧ e.val = .int .i64 x.2 := by
  have h1 : (pairV x.1.1 x.1.2, Value.int .i64 x.2) ∈ es.map fun x => (pairV x.1.1 x.1.2, Value.int .i64 x.2) := List.mem_map.2 ⟨x, hx, rfl⟩
  rw [← h] at h1
  obtain ⟨e, he, e1⟩ := List.mem_map.1 h1
  injection e1 with h3 h4
  exact ⟨e, he, h3, h4⟩
end Go.Proofs.YtohbeninpmmmpaaDoor
end

section
/- Plain: all that is known holds just if all bounds do. -/
set_option linter.unusedVariables false
set_option linter.unusedSectionVars false
namespace Go.Proofs.YtohbeninpmmmpaaDoor
open TrydX.X

/-- A bound holds of numbers for all things. -/
def holdsC (o : Int → Int) (x : Con) : Prop := o x.1.1 - o x.1.2 ≤ x.2
theorem all_put (o : Int → Int) (s d v : Int) : ∀ es : List Con, (∀ x ∈ pmPut es s d (match pmLook es s d with | some n => min n v | none => v), holdsC o x) ↔ (∀ x ∈ es, holdsC o x) ∧ holdsC o ((s, d), v)
  | [] => by simp [pmPut, pmLook]
  | x :: es => by
    have ih := all_put o s d v es
    simp only [pmPut, pmLook]
    by_cases h : s = x.1.1 ∧ d = x.1.2
    · simp only [if_pos h]
      obtain ⟨rfl, rfl⟩ := h
      simp only [List.mem_cons, forall_eq_or_imp]
      unfold holdsC
      constructor
      · rintro ⟨h1, h2⟩
        dsimp only at h1 ⊢
        exact ⟨⟨by omega, h2⟩, by omega⟩
      · rintro ⟨⟨h1, h2⟩, h3⟩
        dsimp only at h3 ⊢
        exact ⟨by omega, h2⟩
    · simp only [if_neg h, List.mem_cons, forall_eq_or_imp]
      rw [ih, and_assoc]
theorem all_min (o : Int → Int) (s d v : Int) (es : List Con) : (∀ x ∈ pmMin es s d v, holdsC o x) ↔ (∀ x ∈ es, holdsC o x) ∧ holdsC o ((s, d), v) := all_put o s d v es
theorem all_addC (o : Int → Int) : ∀ (C es : List Con), (∀ x ∈ addC es C, holdsC o x) ↔ (∀ x ∈ es, holdsC o x) ∧ ∀ c ∈ C, holdsC o c
  | [], es => by simp [addC]
  | c :: C, es => by
    have ih := all_addC o C (pmMin es c.1.1 c.1.2 c.2)
    have e : addC es (c :: C) = addC (pmMin es c.1.1 c.1.2 c.2) C := rfl
    rw [e, ih, all_min]
    simp only [List.mem_cons, forall_eq_or_imp]
    exact and_assoc
/-- All entries of what is known hold just if all bounds do. -/
theorem all_known {U : Nat → Prop} {C : List Con} (hC : ConOk U C) (o : Int → Int) (p : Nat → Int) (hp : ∀ i, U i → o i = p i) : (∀ x ∈ addC [] C, holdsC o x) ↔ SatC C p := by
  rw [all_addC]
  simp only [List.not_mem_nil, false_imp_iff, implies_true, true_and]
  unfold SatC
  refine forall_congr' fun c => ?_
  constructor
  · intro h hc
    obtain ⟨a, b, h1, h2, h3, h4, _⟩ := hC.use c hc
    have := h hc
    unfold holdsC at this
    rw [h1, h2, hp a h3, hp b h4] at this
    rw [h1, h2, Int.toNat_natCast, Int.toNat_natCast]
    exact this
  · intro h hc
    obtain ⟨a, b, h1, h2, h3, h4, _⟩ := hC.use c hc
    have := h hc
    unfold holdsC
    rw [h1, h2, hp a h3, hp b h4]
    rw [h1, h2, Int.toNat_natCast, Int.toNat_natCast] at this
    exact this
end Go.Proofs.YtohbeninpmmmpaaDoor
end

section
/- IsTruth. -/
set_option linter.unusedSimpArgs false
set_option linter.unusedVariables false
namespace Go.Proofs.YtohbeninpmmmpaaDoor
open Go.RowKit Go.Proofs.YtohbeninpmmmpaaDoorW.PrintWords Go.Proofs.YtohbeninpmmmpaaDoorW.PrintLast Go.Proofs.YtohbeninpmmmpaaDoorW.PrintMore TrydX.X
attribute [local go_sem] Oper.semAt_some
theorem alloc2_newT (w : World) (o o' : Obj) : ((w.alloc o).alloc o').heap[w.heap.size + 1]? = some o' := by
  have h := blk_new (w.alloc o) o'
  rwa [World.size_alloc] at h
def atOffs (l : List Int) (k : Nat) : List (Int × Int) := (List.range k).foldl (fun es (j : Nat) => iPut es (1 + (j : Int)) (rd l j)) [(0, 0)]
def atPeople (l : List Int) (es : List (Int × Int)) (k : Nat) : List (Int × Int) := (List.range k).foldl (fun es (j : Nat) => iPut es (9 + (j : Int)) (wrap64 (-(rd l j)))) es
def atPaths (l : List Int) (es : List (Int × Int)) (k : Nat) : List (Int × Int) := (List.range k).foldl (fun es (j : Nat) => iPut es (13 + (j : Int)) (rd l j)) es
theorem atOffs_succ (l : List Int) (k : Nat) : atOffs l (k + 1) = iPut (atOffs l k) (1 + (k : Int)) (rd l k) := by simp [atOffs, List.range_succ]
theorem atPeople_succ (l : List Int) (es : List (Int × Int)) (k : Nat) : atPeople l es (k + 1) = iPut (atPeople l es k) (9 + (k : Int)) (wrap64 (-(rd l k))) := by simp [atPeople, List.range_succ]
theorem atPaths_succ (l : List Int) (es : List (Int × Int)) (k : Nat) : atPaths l es (k + 1) = iPut (atPaths l es k) (13 + (k : Int)) (rd l k) := by simp [atPaths, List.range_succ]
def atAll (o0 o1 o2 : List Int) : List (Int × Int) := atPaths o2 (atPeople o1 (atOffs o0 o0.length) o1.length) o2.length
/-- The blocks of IsTruth. -/
structure TrW (bk bt : Array Value) (w : World) (gb mi m : Nat) (es : List (Int × Int)) (kn : List Con) (W : World) : Prop where
  bel : Below w.heap.size w W
  t : W.heap[w.heap.size + 1]? = some (.cells bt 30 (0, 0))
  b : W.heap[gb]? = some (.cells bk 80 (0, 0))
  im : IMap W mi es
  pm : PMap W m kn
theorem TrW.below {bk bt : Array Value} {w : World} {gb mi m : Nat} {es : List (Int × Int)} {kn : List Con} {W W1 : World} (h : TrW bk bt w gb mi m es kn W) (hb : Below W.heap.size W W1) : TrW bk bt w gb mi m es kn W1 :=
  ⟨h.bel.trans (hb.mono h.bel.size), blk_below h.t hb, blk_below h.b hb, h.im.below hb, h.pm.below hb⟩
theorem TrW.put {bk bt : Array Value} {w : World} {gb mi m : Nat} {es es' : List (Int × Int)} {kn : List Con} {W W1 : World} (h : TrW bk bt w gb mi m es kn W) (hg : W.grownBy W1 (some mi)) (hI : IMap W1 mi es') (hmi : w.heap.size + 1 < mi ∧ gb < mi ∧ m < mi) : TrW bk bt w gb mi m es' kn W1 :=
  ⟨⟨hg.os.trans h.bel.os, hg.tape.trans h.bel.tape, hg.output.trans h.bel.output, Nat.le_trans h.bel.size hg.size, fun k hk => (hg.block k (Nat.lt_of_lt_of_le hk h.bel.size) (by intro e; injection e; omega)).trans (h.bel.block k hk)⟩,
   blk_grown h.t hg (by intro e; injection e; omega), blk_grown h.b hg (by intro e; injection e; omega), hI, h.pm.grown hg (by intro e; injection e; omega)⟩
theorem IMap.grown {w w1 : World} {b : Nat} {es : List (Int × Int)} (h : IMap w b es) {row : Option Nat} (hg : w.grownBy w1 row) (hr : some b ≠ row) : IMap w1 b es := by
  obtain ⟨arr, clk, h1, h2⟩ := h
  exact ⟨arr, clk, (hg.block b (Array.getElem?_eq_some_iff.1 h1).1 hr).trans h1, h2⟩
theorem TrW.turn {bk bt : Array Value} {w : World} {gb mi m r : Nat} {es : List (Int × Int)} {kn : List Con} {W W1 : World} (h : TrW bk bt w gb mi m es kn W) (hg : W.grownBy W1 (some r)) (hr : w.heap.size + 1 < r ∧ gb < r ∧ m < r ∧ mi < r) : TrW bk bt w gb mi m es kn W1 :=
  ⟨⟨hg.os.trans h.bel.os, hg.tape.trans h.bel.tape, hg.output.trans h.bel.output, Nat.le_trans h.bel.size hg.size, fun k hk => (hg.block k (Nat.lt_of_lt_of_le hk h.bel.size) (by intro e; injection e; omega)).trans (h.bel.block k hk)⟩,
   blk_grown h.t hg (by intro e; injection e; omega), blk_grown h.b hg (by intro e; injection e; omega), h.im.grown hg (by intro e; injection e; omega), h.pm.grown hg (by intro e; injection e; omega)⟩
/-- A number that lies near. -/
def nearV (v : Value) : Prop := ∃ n, v = .int .i64 n ∧ -1099511627776 ≤ n ∧ n ≤ 1099511627776
theorem iLook_mem : ∀ {es : List (Int × Int)} {s v : Int}, iLook es s = some v → ∃ x ∈ es, x.2 = v
  | x :: es, s, v, h => by
    unfold iLook at h
    split at h
    · exact ⟨x, List.mem_cons_self, Option.some.inj h⟩
    · obtain ⟨y, hy, e⟩ := iLook_mem h
      exact ⟨y, List.mem_cons_of_mem _ hy, e⟩
theorem near_all {arr : Array MapEntry} {es : List (Int × Int)} (h : IEnc arr es) (hn : ∀ e ∈ arr.toList, nearV e.val) (s : Int) : -1099511627776 ≤ (iLook es s).getD 0 ∧ (iLook es s).getD 0 ≤ 1099511627776 := by
  cases hs : iLook es s with
  | none => simp
  | some v =>
    obtain ⟨x, hx, rfl⟩ := iLook_mem hs
    obtain ⟨e, he, _, hv⟩ := h.mem hx
    obtain ⟨n, e1, h1⟩ := hn e he
    rw [hv] at e1
    injection e1 with _ e2
    rw [← e2] at h1
    exact h1
theorem near_list {arr : Array MapEntry} {es : List (Int × Int)} (h : IEnc arr es) (hn : ∀ e ∈ arr.toList, nearV e.val) : (es.all fun x => decide (-1099511627776 ≤ x.2 ∧ x.2 ≤ 1099511627776)) = true := by
  rw [List.all_eq_true]
  intro x hx
  obtain ⟨e, he, _, hv⟩ := h.mem hx
  obtain ⟨n, e1, h1⟩ := hn e he
  rw [hv] at e1
  injection e1 with _ e2
  rw [← e2] at h1
  exact decide_eq_true h1
/-- A bound that holds of such numbers. -/
def holdsV (at_ : List (Int × Int)) (k v : Value) : Prop := ∃ x : Con, k = pairV x.1.1 x.1.2 ∧ v = .int .i64 x.2 ∧ (iLook at_ x.1.1).getD 0 - (iLook at_ x.1.2).getD 0 ≤ x.2
theorem holds_list {arr : Array MapEntry} {kn : List Con} {at_ : List (Int × Int)} (h : PEnc arr kn) (hn : ∀ e ∈ arr.toList, holdsV at_ e.key e.val) : (kn.all fun c => decide ((iLook at_ c.1.1).getD 0 - (iLook at_ c.1.2).getD 0 ≤ c.2)) = true := by
  rw [List.all_eq_true]
  intro x hx
  obtain ⟨e, he, hk, hv⟩ := h.mem hx
  obtain ⟨y, e1, e2, h1⟩ := hn e he
  rw [hk] at e1
  rw [hv] at e2
  injection e2 with _ e3
  injection e1 with e4
  have e5 := congrArg Array.toList e4
  simp only [List.cons.injEq, Value.int.injEq, true_and, and_true] at e5
  rw [e5.1, e5.2, e3]
  exact decide_eq_true h1
/-- Do all numbers lie near, and do all bounds hold of them? -/
def truthOk (es : List Con) (at_ : List (Int × Int)) : Bool := (at_.all fun x => decide (-1099511627776 ≤ x.2 ∧ x.2 ≤ 1099511627776)) && es.all fun c => decide ((iLook at_ c.1.1).getD 0 - (iLook at_ c.1.2).getD 0 ≤ c.2)
theorem truthOk_far (es : List Con) {at_ : List (Int × Int)} {x : Int × Int} (hx : x ∈ at_) (hn : ¬(-1099511627776 ≤ x.2 ∧ x.2 ≤ 1099511627776)) : truthOk es at_ = false := by
  unfold truthOk
  rw [Bool.and_eq_false_iff]
  left
  rw [List.all_eq_false]
  exact ⟨x, hx, by simpa using hn⟩
theorem truthOk_over {es : List Con} {at_ : List (Int × Int)} {x : Con} (hx : x ∈ es) (hn : ¬((iLook at_ x.1.1).getD 0 - (iLook at_ x.1.2).getD 0 ≤ x.2)) : truthOk es at_ = false := by
  unfold truthOk
  rw [Bool.and_eq_false_iff]
  right
  rw [List.all_eq_false]
  exact ⟨x, hx, by simpa using hn⟩
def isTruthF (N b0 b1 r0 r1 : Int) (l5 l6 : List S23) (l7 : List S63) (o0 o1 o2 : List Int) : Bool :=
  decide ((o0.length : Int) = N) && (decide (o1.length = l5.length) && (decide (o2.length = l6.length) && truthOk (openedM N b0 b1 r0 r1 l5 l6 l7 []) (atAll o0 o1 o2)))
set_option maxRecDepth 100000 in
set_option maxHeartbeats 8000000 in
theorem IsTruth_any (N b0 b1 r0 r1 : Int) (A5 : Option Addr) (c5 : Nat) (l5 : List S23) (A6 : Option Addr) (c6 : Nat) (l6 : List S23) (A7 : Option Addr) (c7 : Nat) (l7 : List S63) (B0 : Option Addr) (d0 : Nat) (o0 : List Int) (B1 : Option Addr) (d1 : Nat) (o1 : List Int) (B2 : Option Addr) (d2 : Nat) (o2 : List Int)
    (w : World) (hK : Kinds w) (h5 : Kd.C k23 w A5 l5.length l5) (hc5 : l5.length ≤ c5) (h6 : Kd.C k23 w A6 l6.length l6) (hc6 : l6.length ≤ c6) (h7 : Kd.C k63 w A7 l7.length l7) (hc7 : l7.length ≤ c7)
    (g0 : Kd.C (Kd.int .i64) w B0 o0.length o0) (g1 : Kd.C (Kd.int .i64) w B1 o1.length o1) (g2 : Kd.C (Kd.int .i64) w B2 o2.length o2)
    (hl : l5.length ≤ 4611686018427387904 ∧ l6.length ≤ 4611686018427387904 ∧ l7.length ≤ 4611686018427387904) :
    Calls Tryd.prog 17 #[.agg #[.int .i64 N, .int .i64 b0, .int .i64 b1, .int .i64 r0, .int .i64 r1, .slice A5 l5.length c5, .slice A6 l6.length c6, .slice A7 l7.length c7], .agg #[.slice B0 o0.length d0, .slice B1 o1.length d1, .slice B2 o2.length d2]] w fun e w' => e = .returned (.tuple #[.bool (checkB N b0 b1 r0 r1 l5 l6 l7 && isTruthF N b0 b1 r0 r1 l5 l6 l7 o0 o1 o2), .int .i64 (if checkB N b0 b1 r0 r1 l5 l6 l7 = true then 0 else 30)]) ∧ Below w.heap.size w w' := by
  have hx0 := blk_alloc (blk_new w (.cells #[.int .i64 N, .int .i64 b0, .int .i64 b1, .int .i64 r0, .int .i64 r1, .slice A5 l5.length c5, .slice A6 l6.length c6, .slice A7 l7.length c7] 27)) (.cells #[.slice B0 o0.length d0, .slice B1 o1.length d1, .slice B2 o2.length d2] 30)
  have ht0 := alloc2_newT w (.cells #[.int .i64 N, .int .i64 b0, .int .i64 b1, .int .i64 r0, .int .i64 r1, .slice A5 l5.length c5, .slice A6 l6.length c6, .slice A7 l7.length c7] 27) (.cells #[.slice B0 o0.length d0, .slice B1 o1.length d1, .slice B2 o2.length d2] 30)
  have hb0 : Below w.heap.size w ((w.alloc (.cells #[.int .i64 N, .int .i64 b0, .int .i64 b1, .int .i64 r0, .int .i64 r1, .slice A5 l5.length c5, .slice A6 l6.length c6, .slice A7 l7.length c7] 27)).alloc (.cells #[.slice B0 o0.length d0, .slice B1 o1.length d1, .slice B2 o2.length d2] 30)) := by
    repeat with_reducible (first | exact Below.refl _ _ | refine Below.alloc ?_ (by simp <;> omega) _)
  have hck := Check_any (N := N) (b0 := b0) (b1 := b1) (r0 := r0) (r1 := r1) A5 c5 A6 c6 A7 c7 _ (Kd.C_below h5 hb0) hc5 (Kd.C_below h6 hb0) hc6 (Kd.C_below h7 hb0) hc7 hl
  by_cases hcB : checkB N b0 b1 r0 r1 l5 l6 l7 = true
  · rw [if_pos hcB] at hck ⊢
    rw [hcB, Bool.true_and]
    have hBk := checkB_iff.1 hcB
    have hop := fun (w1 : World) (hb : Below w.heap.size w w1) => open_any N b0 b1 r0 r1 A5 c5 l5 A6 c6 l6 A7 c7 l7 none 0 [] hBk (by simp) w1 (hK.below hb) (Kd.C_below h5 hb) (Kd.C_below h6 hb) (Kd.C_below h7 hb) (Kd.C_nil _ _)
    have HOP := Lib.hid hop
    have HBK := Lib.hid hBk
    have hmm := @run_makeMap Tryd.prog
    obtain ⟨R, hR⟩ : ∃ R, R = isTruthF N b0 b1 r0 r1 l5 l6 l7 o0 o1 o2 := ⟨_, rfl⟩
    rw [← hR]
    have HR := Lib.hid hR
    clear hcB hop hBk hR
    by_cases q0 : (o0.length : Int) = N
    · by_cases q1 : o1.length = l5.length
      · by_cases q2 : o2.length = l6.length
        · have G0 := Lib.hid g0
          have G1 := Lib.hid g1
          have G2 := Lib.hid g2
          clear g0 g1 g2
          have HF : Hid (R = truthOk (openedM N b0 b1 r0 r1 l5 l6 l7 []) (atPaths o2 (atPeople o1 (atOffs o0 o0.length) l5.length) l6.length)) := Lib.hid (by rw [HR.out, isTruthF, decide_eq_true q0, decide_eq_true q1, decide_eq_true q2, atAll, q1, q2]; rfl)
          rw [q1, q2] at ht0 hx0 hb0 hck
          rw [q1, q2]
          go_enter Tryd.func17, Tryd.ntmps17
          go_wp2_with (first | (refine wpList_load_row rfl 27 _ rfl w.heap.size rfl 27 #[.int .i64 N, .int .i64 b0, .int .i64 b1, .int .i64 r0, .int .i64 r1, .slice A5 l5.length c5, .slice A6 l6.length c6, .slice A7 l7.length c7] (0, 0) _ hx0 Tryd.underlying27 rfl (by kernel_rfl) ?_) | (refine wpList_load_row rfl 27 _ rfl w.heap.size rfl 27 #[.int .i64 N, .int .i64 b0, .int .i64 b1, .int .i64 r0, .int .i64 r1, .slice A5 l5.length c5, .slice A6 l6.length c6, .slice A7 l7.length c7] (0, 0) _ hx1 Tryd.underlying27 rfl (by kernel_rfl) ?_) | (go_at_call 19; refine hck.mono ?_; rintro e w1 ⟨rfl, hb1⟩; have hx1 := blk_below hx0 hb1; have ht1 := blk_below ht0 hb1; have hbb1 := below_call hb0 hb1; have hcN : w1.cell? ⟨w.heap.size, 0, none⟩ = some (.int .i64 N) := (blk_cell hx1 0).trans rfl; have hc5' : w1.cell? ⟨w.heap.size, 5, none⟩ = some (.slice A5 l5.length c5) := (blk_cell hx1 5).trans rfl; have hc6' : w1.cell? ⟨w.heap.size, 6, none⟩ = some (.slice A6 l6.length c6) := (blk_cell hx1 6).trans rfl; have hT0 : w1.cell? ⟨w.heap.size + 1, 0, none⟩ = some (.slice B0 o0.length d0) := (blk_cell ht1 0).trans rfl; have hT1 : w1.cell? ⟨w.heap.size + 1, 1, none⟩ = some (.slice B1 l5.length d1) := (blk_cell ht1 1).trans rfl; have hT2 : w1.cell? ⟨w.heap.size + 1, 2, none⟩ = some (.slice B2 l6.length d2) := (blk_cell ht1 2).trans rfl) | (go_at_call 55; refine (HOP.out w1 hbb1).mono ?_; rintro e w2 ⟨m, hm, rfl, hM2, hb2⟩; have hlt0 : w.heap.size + 1 < w1.heap.size := blk_lt ht1; have hz12 := hb2.size; have ht2 := blk_below ht1 hb2; have hU0 : w2.cell? ⟨w.heap.size + 1, 0, none⟩ = some (.slice B0 o0.length d0) := (blk_cell ht2 0).trans rfl; have hU1 : w2.cell? ⟨w.heap.size + 1, 1, none⟩ = some (.slice B1 l5.length d1) := (blk_cell ht2 1).trans rfl; have hU2 : w2.cell? ⟨w.heap.size + 1, 2, none⟩ = some (.slice B2 l6.length d2) := (blk_cell ht2 2).trans rfl; have hzz : w.heap.size + 1 < w2.heap.size := blk_lt ht2; have hIn : IMap ((w2.alloc (.cells #[.int .i64 N, .int .i64 b0, .int .i64 b1, .int .i64 r0, .int .i64 r1, .slice A5 l5.length c5, .slice A6 l6.length c6, .slice A7 l7.length c7, .map (some m)] 80)).alloc (.map #[] 0)) (w2.heap.size + 1) [] := ⟨_, _, alloc2_newT w2 _ _, rfl, by simp [Born]⟩; obtain ⟨W3, hu3, hI3, hg3, hs3⟩ := imap_update (P := Tryd.prog) (T := 82) (E := 3) Tryd.underlying82 Tryd.underlying3 hIn 0 0; have hU0' := grown_cell hg3 (((cell_below ((Below.refl _ _).alloc (Nat.le_refl _) _) (cell_below ((Below.refl _ _).alloc (Nat.le_refl _) _) hU0)) : ((w2.alloc (.cells #[.int .i64 N, .int .i64 b0, .int .i64 b1, .int .i64 r0, .int .i64 r1, .slice A5 l5.length c5, .slice A6 l6.length c6, .slice A7 l7.length c7, .map (some m)] 80)).alloc (.map #[] 0)).cell? ⟨w.heap.size + 1, 0, none⟩ = some (.slice B0 o0.length d0))) (by show w.heap.size + 1 ≠ w2.heap.size + 1; omega)))
          have hT2 : TrW #[.int .i64 N, .int .i64 b0, .int .i64 b1, .int .i64 r0, .int .i64 r1, .slice A5 l5.length c5, .slice A6 l6.length c6, .slice A7 l7.length c7, .map (some m)] #[.slice B0 o0.length d0, .slice B1 l5.length d1, .slice B2 l6.length d2] w w2.heap.size (w2.heap.size + 1) m [(0, 0)] (openedM N b0 b1 r0 r1 l5 l6 l7 []) W3 := by
            have hb3 : Below w2.heap.size w2 ((w2.alloc (.cells #[.int .i64 N, .int .i64 b0, .int .i64 b1, .int .i64 r0, .int .i64 r1, .slice A5 l5.length c5, .slice A6 l6.length c6, .slice A7 l7.length c7, .map (some m)] 80)).alloc (.map #[] 0)) := by
              repeat with_reducible (first | exact Below.refl _ _ | refine Below.alloc ?_ (by simp <;> omega) _)
            refine TrW.put (es := []) ⟨(below_call hbb1 hb2).trans (hb3.mono (below_call hbb1 hb2).size), blk_below ht2 hb3, blk_alloc (blk_new w2 _) _, hIn, hM2.below hb3⟩ hg3 hI3 ⟨by omega, by omega, by have := hM2.lt; omega⟩
          have hml : m < w2.heap.size := hM2.lt
          have HT2 := Lib.hid hT2
          clear hT2 hI3 hg3 hu3 hIn hM2 hb2 hbb1 ht1 ht2 hb1 hb0 hx0 ht0 hx1 hck hcN hc5' hc6' hT0 hT1
          have hn8 := HBK.out.n
          have hl5 := HBK.out.len.1
          have hl6 := HBK.out.len.2.1
          go_loopw [55] (fun i wr => ∃ k : Nat, k ≤ o0.length ∧ i = .int .i64 k ∧ TrW #[.int .i64 N, .int .i64 b0, .int .i64 b1, .int .i64 r0, .int .i64 r1, .slice A5 l5.length c5, .slice A6 l6.length c6, .slice A7 l7.length c7, .map (some m)] #[.slice B0 o0.length d0, .slice B1 l5.length d1, .slice B2 l6.length d2] w w2.heap.size (w2.heap.size + 1) m (atOffs o0 k) (openedM N b0 b1 r0 r1 l5 l6 l7 []) wr) (fun i _ => o0.length - (intOf i).toNat)
          case atStart => exact ⟨0, Nat.zero_le _, rfl, HT2.out⟩
          case round =>
            obtain ⟨k, hk, rfl, hT⟩ := hrel
            have HT := Lib.hid hT
            by_cases hlt : k < o0.length
            · have hlt1 : (k : Int) < (o0.length : Int) := by omega
              obtain ⟨ad, e, hx⟩ := Kd.at_int (Kd.C_below G0.out hT.bel) (k : Int) (by omega) (by omega)
              cases e
              rw [Int.toNat_natCast] at hx
              have hGB := hT.b
              clear hT HT2
              go_wp2_with (first | (refine wpList_load_row rfl 80 _ rfl w2.heap.size rfl 80 #[.int .i64 N, .int .i64 b0, .int .i64 b1, .int .i64 r0, .int .i64 r1, .slice A5 l5.length c5, .slice A6 l6.length c6, .slice A7 l7.length c7, .map (some m)] (0, 0) _ hGB Tryd.underlying80 rfl (by kernel_rfl) ?_) | (go_at_call 56; refine (night_any N b0 b1 r0 r1 _ _ _ _ (k : Int) (by omega) _).mono ?_; rintro e V2 ⟨rfl, hb2⟩; have hT3 := HT.out.below hb2; obtain ⟨V3, hu, hI, hg, hs⟩ := imap_update (P := Tryd.prog) (T := 82) (E := 3) Tryd.underlying82 Tryd.underlying3 hT3.im (1 + (k : Int)) (rd o0 (k : Int))))
              go_roundw
              case rel => exact ⟨k + 1, by omega, by go_num, by rw [atOffs_succ]; exact hT3.put hg hI ⟨by omega, by omega, by omega⟩⟩
              case measure => simp [intOf]; omega
            · have hk0 : k = o0.length := by omega
              rw [hk0] at HT
              rw [show (k : Int) = N by omega]
              clear hk0
              have hU1' : wr.cell? ⟨w.heap.size + 1, 1, none⟩ = some (.slice B1 l5.length d1) := (blk_cell hT.t 1).trans rfl
              clear hT HT2 hlt hk
              go_wp2_with fail
              go_loopw [69] (fun i wr => ∃ k : Nat, k ≤ l5.length ∧ i = .int .i64 k ∧ TrW #[.int .i64 N, .int .i64 b0, .int .i64 b1, .int .i64 r0, .int .i64 r1, .slice A5 l5.length c5, .slice A6 l6.length c6, .slice A7 l7.length c7, .map (some m)] #[.slice B0 o0.length d0, .slice B1 l5.length d1, .slice B2 l6.length d2] w w2.heap.size (w2.heap.size + 1) m (atPeople o1 (atOffs o0 o0.length) k) (openedM N b0 b1 r0 r1 l5 l6 l7 []) wr) (fun i _ => l5.length - (intOf i).toNat)
              case atStart => exact ⟨0, Nat.zero_le _, rfl, HT.out⟩
              case round =>
                obtain ⟨k, hk, rfl, hT⟩ := hrel
                clear HT hU1'
                have HT := Lib.hid hT
                by_cases hlt : k < l5.length
                · have hlt1 : (k : Int) < (l5.length : Int) := by omega
                  obtain ⟨ad, e, hx⟩ := Kd.at_int (Kd.C_below G1.out hT.bel) (k : Int) (by omega) (by omega)
                  cases e
                  rw [Int.toNat_natCast] at hx
                  have hGB := hT.b
                  clear hT
                  go_wp2_with (first | (refine wpList_load_row rfl 80 _ rfl w2.heap.size rfl 80 #[.int .i64 N, .int .i64 b0, .int .i64 b1, .int .i64 r0, .int .i64 r1, .slice A5 l5.length c5, .slice A6 l6.length c6, .slice A7 l7.length c7, .map (some m)] (0, 0) _ hGB Tryd.underlying80 rfl (by kernel_rfl) ?_) | (go_at_call 57; refine (seen_any N b0 b1 r0 r1 _ _ _ _ (k : Int) (by omega) _).mono ?_; rintro e V2 ⟨rfl, hb2⟩; have hT3 := HT.out.below hb2; obtain ⟨V3, hu, hI, hg, hs⟩ := imap_update (P := Tryd.prog) (T := 82) (E := 3) Tryd.underlying82 Tryd.underlying3 hT3.im (9 + (k : Int)) (wrap64 (-(rd o1 (k : Int))))))
                  go_roundw
                  case rel => exact ⟨k + 1, by omega, by go_num, by rw [atPeople_succ]; exact hT3.put hg hI ⟨by omega, by omega, by omega⟩⟩
                  case measure => simp [intOf]; omega
                · obtain rfl : k = l5.length := by omega
                  have hU2' : wr.cell? ⟨w.heap.size + 1, 2, none⟩ = some (.slice B2 l6.length d2) := (blk_cell hT.t 2).trans rfl
                  clear hT hlt hk
                  go_wp2_with fail
                  go_loopw [84] (fun i wr => ∃ k : Nat, k ≤ l6.length ∧ i = .int .i64 k ∧ TrW #[.int .i64 N, .int .i64 b0, .int .i64 b1, .int .i64 r0, .int .i64 r1, .slice A5 l5.length c5, .slice A6 l6.length c6, .slice A7 l7.length c7, .map (some m)] #[.slice B0 o0.length d0, .slice B1 l5.length d1, .slice B2 l6.length d2] w w2.heap.size (w2.heap.size + 1) m (atPaths o2 (atPeople o1 (atOffs o0 o0.length) l5.length) k) (openedM N b0 b1 r0 r1 l5 l6 l7 []) wr) (fun i _ => l6.length - (intOf i).toNat)
                  case atStart => exact ⟨0, Nat.zero_le _, rfl, HT.out⟩
                  case round =>
                    obtain ⟨k, hk, rfl, hT⟩ := hrel
                    clear HT hU2'
                    have HT := Lib.hid hT
                    by_cases hlt : k < l6.length
                    · have hlt1 : (k : Int) < (l6.length : Int) := by omega
                      obtain ⟨ad, e, hx⟩ := Kd.at_int (Kd.C_below G2.out hT.bel) (k : Int) (by omega) (by omega)
                      cases e
                      rw [Int.toNat_natCast] at hx
                      have hGB := hT.b
                      clear hT
                      go_wp2_with (first | (refine wpList_load_row rfl 80 _ rfl w2.heap.size rfl 80 #[.int .i64 N, .int .i64 b0, .int .i64 b1, .int .i64 r0, .int .i64 r1, .slice A5 l5.length c5, .slice A6 l6.length c6, .slice A7 l7.length c7, .map (some m)] (0, 0) _ hGB Tryd.underlying80 rfl (by kernel_rfl) ?_) | (go_at_call 58; refine (signal_any N b0 b1 r0 r1 _ _ _ _ (k : Int) (by omega) _).mono ?_; rintro e V2 ⟨rfl, hb2⟩; have hT3 := HT.out.below hb2; obtain ⟨V3, hu, hI, hg, hs⟩ := imap_update (P := Tryd.prog) (T := 82) (E := 3) Tryd.underlying82 Tryd.underlying3 hT3.im (13 + (k : Int)) (rd o2 (k : Int))))
                      go_roundw
                      case rel => exact ⟨k + 1, by omega, by go_num, by rw [atPaths_succ]; exact hT3.put hg hI ⟨by omega, by omega, by omega⟩⟩
                      case measure => simp [intOf]; omega
                    · obtain rfl : k = l6.length := by omega
                      clear hlt hk
                      obtain ⟨arr, clk, hmp, henc, hborn⟩ := hT.im
                      clear hT
                      go_wp2_with (at_range; refine wpList_range_it _ rfl _ 82 rfl 3 3 Tryd.underlying82 _ arr clk rfl hmp ?_)
                      have hIt0 := Iter.new hmp hborn
                      have hT0' : TrW #[.int .i64 N, .int .i64 b0, .int .i64 b1, .int .i64 r0, .int .i64 r1, .slice A5 l5.length c5, .slice A6 l6.length c6, .slice A7 l7.length c7, .map (some m)] #[.slice B0 o0.length d0, .slice B1 l5.length d1, .slice B2 l6.length d2] w w2.heap.size (w2.heap.size + 1) m (atPaths o2 (atPeople o1 (atOffs o0 o0.length) l5.length) l6.length) (openedM N b0 b1 r0 r1 l5 l6 l7 []) (wr.alloc (.mapIter (some (w2.heap.size + 1)) clk #[] clk)) := HT.out.below ((Below.refl _ _).alloc (Nat.le_refl _) _)
                      obtain ⟨es, hes⟩ : ∃ es, es = (atPaths o2 (atPeople o1 (atOffs o0 o0.length) l5.length) l6.length) := ⟨_, rfl⟩
                      rw [← hes] at hT0' henc HF
                      have hrr : w2.heap.size + 1 < wr.heap.size := Array.getElem?_eq_some_iff.1 hmp |>.1
                      generalize wr.heap.size = rr at hIt0 hrr ⊢
                      generalize wr.alloc (.mapIter (some (w2.heap.size + 1)) clk #[] clk) = W5 at hIt0 hT0' ⊢
                      have HT0 := Lib.hid hT0'
                      have HI0 := Lib.hid hIt0
                      clear hT0' hIt0 hmp HT hes
                      go_frame
                      go_loopw [] (fun wq => ∃ seen, Iter wq rr (w2.heap.size + 1) arr clk seen ∧ TrW #[.int .i64 N, .int .i64 b0, .int .i64 b1, .int .i64 r0, .int .i64 r1, .slice A5 l5.length c5, .slice A6 l6.length c6, .slice A7 l7.length c7, .map (some m)] #[.slice B0 o0.length d0, .slice B1 l5.length d1, .slice B2 l6.length d2] w w2.heap.size (w2.heap.size + 1) m es (openedM N b0 b1 r0 r1 l5 l6 l7 []) wq ∧ Hid (∀ e ∈ arr.toList, seen.contains e.born = true → nearV e.val)) (fun wq => (leftOf arr (wq.iterSeen rr)).size)
                      case atStart => exact ⟨#[], HI0.out, HT0.out, Lib.hid (by intro e _ h; simp at h)⟩
                      case round =>
                        obtain ⟨seen, hIt, hT, hN⟩ := hrel
                        have HT := Lib.hid hT
                        clear hT HT0 HI0
                        go_wp2_with (at_next; refine wpList_next_it _ rfl _ rfl rr (w2.heap.size + 1) arr clk seen rfl hIt ?_ ?_)
                        · intro hall
                          have hnear : ∀ s : Int, -1099511627776 ≤ (iLook es s).getD 0 ∧ (iLook es s).getD 0 ≤ 1099511627776 := near_all henc (fun e he => hN.out e he (by have := hall e (Array.mem_toList_iff.1 he); simpa using this))
                          obtain ⟨karr, kclk, hkm, hkenc, hkborn⟩ := HT.out.pm
                          have hna : (es.all fun x => decide (-1099511627776 ≤ x.2 ∧ x.2 ≤ 1099511627776)) = true := near_list henc (fun e he => hN.out e he (by have := hall e (Array.mem_toList_iff.1 he); simpa using this))
                          have HNA := Lib.hid hna
                          have HNEAR := Lib.hid hnear
                          have hc8 : wr.cell? ⟨w2.heap.size, 8, none⟩ = some (.map (some m)) := (blk_cell HT.out.b 8).trans rfl
                          have hIt0 := Iter.new hkm hkborn
                          have hT0' : TrW #[.int .i64 N, .int .i64 b0, .int .i64 b1, .int .i64 r0, .int .i64 r1, .slice A5 l5.length c5, .slice A6 l6.length c6, .slice A7 l7.length c7, .map (some m)] #[.slice B0 o0.length d0, .slice B1 l5.length d1, .slice B2 l6.length d2] w w2.heap.size (w2.heap.size + 1) m es (openedM N b0 b1 r0 r1 l5 l6 l7 []) (wr.alloc (.mapIter (some m) kclk #[] kclk)) := HT.out.below ((Below.refl _ _).alloc (Nat.le_refl _) _)
                          have hrr2 : w2.heap.size + 1 < wr.heap.size := HT.out.im.lt
                          clear hIt hN hall hna hnear
                          go_wp2_with (at_range; refine wpList_range_it _ rfl _ 78 rfl 86 3 Tryd.underlying78 _ karr kclk rfl hkm ?_)
                          generalize wr.heap.size = rr2 at hIt0 hrr2 ⊢
                          generalize wr.alloc (.mapIter (some m) kclk #[] kclk) = W7 at hIt0 hT0' ⊢
                          have HT0 := Lib.hid hT0'
                          have HI0 := Lib.hid hIt0
                          clear hT0' hIt0 hkm HT hc8
                          go_frame
                          go_loopw [] (fun wq => ∃ seen, Iter wq rr2 m karr kclk seen ∧ TrW #[.int .i64 N, .int .i64 b0, .int .i64 b1, .int .i64 r0, .int .i64 r1, .slice A5 l5.length c5, .slice A6 l6.length c6, .slice A7 l7.length c7, .map (some m)] #[.slice B0 o0.length d0, .slice B1 l5.length d1, .slice B2 l6.length d2] w w2.heap.size (w2.heap.size + 1) m es (openedM N b0 b1 r0 r1 l5 l6 l7 []) wq ∧ Hid (∀ e ∈ karr.toList, seen.contains e.born = true → holdsV es e.key e.val)) (fun wq => (leftOf karr (wq.iterSeen rr2)).size)
                          case atStart => exact ⟨#[], HI0.out, HT0.out, Lib.hid (by intro e _ h; simp at h)⟩
                          case round =>
                            obtain ⟨seen, hIt, hT, hN⟩ := hrel
                            have HT := Lib.hid hT
                            clear hT HT0 HI0
                            go_wp2_with (at_next; refine wpList_next_it _ rfl _ rfl rr2 m karr kclk seen rfl hIt ?_ ?_)
                            · intro hall
                              have hka : ((openedM N b0 b1 r0 r1 l5 l6 l7 []).all fun c => decide ((iLook es c.1.1).getD 0 - (iLook es c.1.2).getD 0 ≤ c.2)) = true := holds_list hkenc (fun e he => hN.out e he (by have := hall e (Array.mem_toList_iff.1 he); simpa using this))
                              obtain rfl : R = true := HF.out.trans (by rw [truthOk, HNA.out, hka]; rfl)
                              clear hIt hN hall hka
                              go_wp2_with fail
                              go_ret2
                              exact ⟨rfl, HT.out.bel⟩
                            · intro e he w6 hIt6 hlt hg6 hs6 hen
                              replace he := Array.mem_toList_iff.2 he
                              obtain ⟨x, hx, hk, hv⟩ := hkenc.val he
                              rw [hk, hv] at hen ⊢
                              have hT6 := HT.out.turn hg6 ⟨by omega, by omega, by omega, by omega⟩
                              have HT6 := Lib.hid hT6
                              have HLT := Lib.hid hlt
                              have HI6 := Lib.hid hIt6
                              have HS := Lib.hid hIt.seen_is
                              clear hIt hT6 hlt hIt6 hg6
                              obtain ⟨iarr, iclk, him, hienc, _⟩ := HT6.out.im
                              have hb8 : Below w6.heap.size w6 (w6.alloc (.cells #[.int .i64 x.1.1, .int .i64 x.1.2] 86)) := (Below.refl _ _).alloc (Nat.le_refl _) _
                              have hlk1 := run_lookup_int (P := Tryd.prog) (T := 82) (E := 3) Tryd.underlying82 Tryd.underlying3 ((hb8.block _ (blk_lt him)).trans him) hienc (by simp [go_sem]) x.1.1
                              have hlk2 := run_lookup_int (P := Tryd.prog) (T := 82) (E := 3) Tryd.underlying82 Tryd.underlying3 ((hb8.block _ (blk_lt him)).trans him) hienc (by simp [go_sem]) x.1.2
                              have hw1 := HNEAR.out x.1.1
                              have hw2 := HNEAR.out x.1.2
                              obtain ⟨p, hp⟩ : ∃ p, p = (iLook es x.1.1).getD 0 := ⟨_, rfl⟩
                              obtain ⟨q, hq⟩ : ∃ q, q = (iLook es x.1.2).getD 0 := ⟨_, rfl⟩
                              rw [← hp] at hlk1 hw1
                              rw [← hq] at hlk2 hw2
                              have hw3 : IntKind.i64.wrap (p - q) = p - q := IntWalk.i64_in _ (by constructor <;> omega)
                              have HB8 := Lib.hid hb8
                              have HP := Lib.hid hp
                              have HQ := Lib.hid hq
                              have HK := Lib.hid hk
                              clear hb8 hp hq hw1 hw2 hk
                              by_cases hgt : x.2 < p - q
                              · obtain rfl : R = false := HF.out.trans (truthOk_over hx (by rw [← HP.out, ← HQ.out]; omega))
                                go_wp2_with fail
                                go_ret2
                                exact ⟨rfl, below_call HT6.out.bel HB8.out⟩
                              · have HGT := Lib.hid hgt
                                go_wp2_with fail
                                go_roundw
                                case rel =>
                                  refine ⟨seen.push e.born, HI6.out.below HB8.out, HT6.out.below HB8.out, Lib.hid (fun e' he' hc => ?_)⟩
                                  rw [contains_push] at hc
                                  rcases Bool.or_eq_true_iff.1 hc with h1 | h1
                                  · exact hN.out e' he' h1
                                  · have h2 : e'.born = e.born := beq_iff_eq.1 h1
                                    rw [born_inj HI6.out.born.2 he' he h2, hv]
                                    exact ⟨x, HK.out, rfl, by rw [← HP.out, ← HQ.out]; have := HGT.out; omega⟩
                                case measure =>
                                  rw [HS.out, (HI6.out.below HB8.out).seen_is]
                                  exact HLT.out
                        · intro e he w6 hIt6 hlt hg6 hs6 hen
                          replace he := Array.mem_toList_iff.2 he
                          obtain ⟨x, hx, hk, hv⟩ := henc.val he
                          rw [hk, hv] at hen ⊢
                          have hT6 := HT.out.turn hg6 ⟨by omega, by omega, by omega, by omega⟩
                          have HT6 := Lib.hid hT6
                          have HLT := Lib.hid hlt
                          have HI6 := Lib.hid hIt6
                          have hseen := hIt.seen_is
                          clear hIt hT6 hlt hIt6 hg6 hk
                          by_cases hn : -1099511627776 ≤ x.2 ∧ x.2 ≤ 1099511627776
                          · have hw := star_within.calls x.2 (-1099511627776) 1099511627776 true w6 (by unfold star_within.f; rw [if_pos hn.1]; simp [hn.2])
                            have HNE := Lib.hid hn
                            clear hn
                            go_wp2_with (go_at_call 59; refine hw.mono ?_; rintro e2 w7 ⟨rfl, hd7⟩)
                            go_roundw
                            case rel =>
                              have hb7 := hd7.below
                              refine ⟨seen.push e.born, HI6.out.below hb7, HT6.out.below hb7, Lib.hid (fun e' he' hc => ?_)⟩
                              rw [contains_push] at hc
                              rcases Bool.or_eq_true_iff.1 hc with h1 | h1
                              · exact hN.out e' he' h1
                              · have h2 : e'.born = e.born := beq_iff_eq.1 h1
                                rw [born_inj HI6.out.born.2 he' he h2, hv]
                                exact ⟨_, rfl, HNE.out⟩
                            case measure =>
                              rw [hseen, (HI6.out.below (hd7.below)).seen_is]
                              exact HLT.out
                          · have hw := star_within.calls x.2 (-1099511627776) 1099511627776 false w6 (by unfold star_within.f; by_cases h1 : -1099511627776 ≤ x.2 <;> simp_all <;> omega)
                            obtain rfl : R = false := HF.out.trans (truthOk_far _ hx hn)
                            clear hn
                            go_wp2_with (go_at_call 59; refine hw.mono ?_; rintro e2 w7 ⟨rfl, hd7⟩)
                            go_ret2
                            exact ⟨rfl, below_call HT6.out.bel (hd7.below)⟩
        · obtain rfl : R = false := HR.out.trans (by rw [isTruthF, decide_eq_false q2]; simp)
          have hq2 : (o2.length : Int) ≠ (l6.length : Int) := by omega
          rw [q1] at ht0 hx0 hb0 hck
          rw [q1]
          clear HR g0 g1 g2 HBK HOP
          go_enter Tryd.func17, Tryd.ntmps17
          go_wp2_with (first | (refine wpList_load_row rfl 27 _ rfl w.heap.size rfl 27 #[.int .i64 N, .int .i64 b0, .int .i64 b1, .int .i64 r0, .int .i64 r1, .slice A5 l5.length c5, .slice A6 l6.length c6, .slice A7 l7.length c7] (0, 0) _ hx0 Tryd.underlying27 rfl (by kernel_rfl) ?_) | (go_at_call 19; refine hck.mono ?_; rintro e w1 ⟨rfl, hb1⟩; have hx1 := blk_below hx0 hb1; have ht1 := blk_below ht0 hb1; have hcN : w1.cell? ⟨w.heap.size, 0, none⟩ = some (.int .i64 N) := (blk_cell hx1 0).trans rfl; have hc5' : w1.cell? ⟨w.heap.size, 5, none⟩ = some (.slice A5 l5.length c5) := (blk_cell hx1 5).trans rfl; have hc6' : w1.cell? ⟨w.heap.size, 6, none⟩ = some (.slice A6 l6.length c6) := (blk_cell hx1 6).trans rfl; have hT0 := blk_cell ht1 0; have hT1 := blk_cell ht1 1; have hT2 := blk_cell ht1 2; simp only [List.getElem?_toArray, List.getElem?_cons_zero, List.getElem?_cons_succ] at hT0 hT1 hT2))
          go_ret2
          exact ⟨rfl, below_call hb0 hb1⟩
      · obtain rfl : R = false := HR.out.trans (by rw [isTruthF, decide_eq_false q1]; simp)
        have hq1 : (o1.length : Int) ≠ (l5.length : Int) := by omega
        clear HR g0 g1 g2 HBK HOP
        go_enter Tryd.func17, Tryd.ntmps17
        go_wp2_with (first | (refine wpList_load_row rfl 27 _ rfl w.heap.size rfl 27 #[.int .i64 N, .int .i64 b0, .int .i64 b1, .int .i64 r0, .int .i64 r1, .slice A5 l5.length c5, .slice A6 l6.length c6, .slice A7 l7.length c7] (0, 0) _ hx0 Tryd.underlying27 rfl (by kernel_rfl) ?_) | (go_at_call 19; refine hck.mono ?_; rintro e w1 ⟨rfl, hb1⟩; have hx1 := blk_below hx0 hb1; have ht1 := blk_below ht0 hb1; have hcN : w1.cell? ⟨w.heap.size, 0, none⟩ = some (.int .i64 N) := (blk_cell hx1 0).trans rfl; have hc5' : w1.cell? ⟨w.heap.size, 5, none⟩ = some (.slice A5 l5.length c5) := (blk_cell hx1 5).trans rfl; have hc6' : w1.cell? ⟨w.heap.size, 6, none⟩ = some (.slice A6 l6.length c6) := (blk_cell hx1 6).trans rfl; have hT0 := blk_cell ht1 0; have hT1 := blk_cell ht1 1; have hT2 := blk_cell ht1 2; simp only [List.getElem?_toArray, List.getElem?_cons_zero, List.getElem?_cons_succ] at hT0 hT1 hT2))
        go_ret2
        exact ⟨rfl, below_call hb0 hb1⟩
    · obtain rfl : R = false := HR.out.trans (by rw [isTruthF, decide_eq_false q0]; simp)
      clear HR g0 g1 g2 HBK HOP
      go_enter Tryd.func17, Tryd.ntmps17
      go_wp2_with (first | (refine wpList_load_row rfl 27 _ rfl w.heap.size rfl 27 #[.int .i64 N, .int .i64 b0, .int .i64 b1, .int .i64 r0, .int .i64 r1, .slice A5 l5.length c5, .slice A6 l6.length c6, .slice A7 l7.length c7] (0, 0) _ hx0 Tryd.underlying27 rfl (by kernel_rfl) ?_) | (go_at_call 19; refine hck.mono ?_; rintro e w1 ⟨rfl, hb1⟩; have hx1 := blk_below hx0 hb1; have ht1 := blk_below ht0 hb1; have hcN : w1.cell? ⟨w.heap.size, 0, none⟩ = some (.int .i64 N) := (blk_cell hx1 0).trans rfl; have hc5' : w1.cell? ⟨w.heap.size, 5, none⟩ = some (.slice A5 l5.length c5) := (blk_cell hx1 5).trans rfl; have hc6' : w1.cell? ⟨w.heap.size, 6, none⟩ = some (.slice A6 l6.length c6) := (blk_cell hx1 6).trans rfl; have hT0 := blk_cell ht1 0; have hT1 := blk_cell ht1 1; have hT2 := blk_cell ht1 2; simp only [List.getElem?_toArray, List.getElem?_cons_zero, List.getElem?_cons_succ] at hT0 hT1 hT2))
      go_ret2
      exact ⟨rfl, below_call hb0 hb1⟩
  · rw [if_neg hcB] at hck ⊢
    have hcF : checkB N b0 b1 r0 r1 l5 l6 l7 = false := by simpa using hcB
    rw [hcF, Bool.false_and]
    clear hcB hcF
    go_enter Tryd.func17, Tryd.ntmps17
    go_wp2_with (first | (refine wpList_load_row rfl 27 _ rfl w.heap.size rfl 27 #[.int .i64 N, .int .i64 b0, .int .i64 b1, .int .i64 r0, .int .i64 r1, .slice A5 l5.length c5, .slice A6 l6.length c6, .slice A7 l7.length c7] (0, 0) _ hx0 Tryd.underlying27 rfl (by kernel_rfl) ?_) | (go_at_call 19; refine hck.mono ?_; rintro e w1 ⟨rfl, hb1⟩))
    go_ret2
    exact ⟨rfl, below_call hb0 hb1⟩
end Go.Proofs.YtohbeninpmmmpaaDoor
end

section
/- Path. -/
set_option linter.unusedSimpArgs false
set_option linter.unusedVariables false
namespace Go.Proofs.YtohbeninpmmmpaaDoor
open Go.RowKit Go.Proofs.YtohbeninpmmmpaaDoorW.PrintWords Go.Proofs.YtohbeninpmmmpaaDoorW.PrintLast Go.Proofs.YtohbeninpmmmpaaDoorW.PrintMore TrydX.X
attribute [local go_sem] Oper.semAt_some
theorem exec_load_sl {o : Oper} {a : Act} {w : World} {ta : Operand} {b k : Nat} {v : Value} (hc : w.cell? ⟨b, k, none⟩ = some v) (hop : o.op = .load 24 ta) (ha : a.eval ta = .pointer (some ⟨b, k, none⟩)) : (execOp a.eval o).run Tryd.prog w = .ok (.value v) w := by
  simp only [execOp, hop, ha]
  simp [go_sem, hc]
def path1T : Bool × List (List Nat × List Nat) := (true, [([], []), ([], []), ([], []), ([2], [2]), ([3], [3]), ([4], [4]), ([1, 5], [1, 5]), ([0, 6, 6], [0, 6]), ([7], [7]), ([8], [8]), ([8], [8]), ([8], [8]), ([], []), ([], []), ([12, 9, 7, 0, 1, 2, 3, 4, 5, 6, 7, 8, 9, 12, 13], [9, 12]), ([13, 10, 14, 0, 1, 2, 3, 4, 5, 6, 7, 8, 9, 10, 12, 13, 14], [10, 13]), ([11, 15, 0, 1, 2, 3, 4, 5, 6, 7, 8, 9, 10, 11, 12, 13, 14, 15], [11])])
def path1B : List Nat := [0, 0, 0, 4, 12, 28, 62, 127, 255, 511, 511, 511, 0, 0, 13311, 30719, 65535]
theorem path1_tab : rtab .any (opsOf Tryd.f28 1) = path1T := by kernel_rfl
theorem path1_bits : waitsOk path1T.2 path1B = true := by kernel_rfl
def path4T : Bool × List (List Nat × List Nat) := (true, [([], []), ([], []), ([], []), ([1, 2], [1, 2]), ([0, 3, 3], [0, 3]), ([4, 4, 0, 1, 2, 3, 4], [4]), ([5, 0, 1, 2, 3, 4, 5], [])])
def path4B : List Nat := [0, 0, 0, 6, 15, 31, 63]
theorem path4_tab : rtab .any (opsOf Tryd.f28 4) = path4T := by kernel_rfl
theorem path4_bits : waitsOk path4T.2 path4B = true := by kernel_rfl
set_option maxRecDepth 100000 in
set_option maxHeartbeats 4000000 in
theorem Path_any (N b0 b1 r0 r1 : Int) (A5 : Option Addr) (c5 : Nat) (l5 : List S23) (A6 : Option Addr) (c6 : Nat) (l6 : List S23) (A7 : Option Addr) (c7 : Nat) (l7 : List S63) (n : Int)
    (w : World) (hK : Kinds w) (h5' : Kd.C k23 w A5 l5.length l5) (hc5 : l5.length ≤ c5) (h6' : Kd.C k23 w A6 l6.length l6) (hc6 : l6.length ≤ c6) (h7' : Kd.C k63 w A7 l7.length l7) (hc7 : l7.length ≤ c7)
    (hl : l5.length ≤ 4611686018427387904 ∧ l6.length ≤ 4611686018427387904 ∧ l7.length ≤ 4611686018427387904) (ok : Bool) (hok : ok = decide (0 ≤ n ∧ n ≤ wrap64 ((l6.length : Int) - 1))) (err : Int) (herr : askE N b0 b1 r0 r1 l5 l6 l7 ok = err) :
    Calls Tryd.prog 28 #[.agg #[.int .i64 N, .int .i64 b0, .int .i64 b1, .int .i64 r0, .int .i64 r1, .slice A5 l5.length c5, .slice A6 l6.length c6, .slice A7 l7.length c7], .int .i64 n] w fun e w' =>
      e = .returned (.tuple #[.agg #[.int .i64 (if err = 0 then -(told N b0 b1 r0 r1 l5 l6 l7 [] 0 (13 + n.toNat)) else 0), .int .i64 (if err = 0 then told N b0 b1 r0 r1 l5 l6 l7 [] (13 + n.toNat) 0 else 0)], .int .i64 err]) ∧ Below w.heap.size w w' := by
  have HERR := Lib.hid herr
  have HK := Lib.hid hK
  have HOK := Lib.hid hok
  clear herr hK hok
  go_enter Tryd.func28, Tryd.ntmps28
  go_wp2_with fail
  refine wp_calm ?_
  have hb0 : Below w.heap.size w ((w.alloc (.cells #[.int .i64 N, .int .i64 b0, .int .i64 b1, .int .i64 r0, .int .i64 r1, .slice A5 l5.length c5, .slice A6 l6.length c6, .slice A7 l7.length c7] 27)).alloc (.cells #[.int .i64 0, .int .i64 0] 23)).drew := by
    refine Below.drew ?_
    repeat with_reducible (first | exact Below.refl _ _ | refine Below.alloc ?_ (by simp <;> omega) _)
  have hr0 : ((w.alloc (.cells #[.int .i64 N, .int .i64 b0, .int .i64 b1, .int .i64 r0, .int .i64 r1, .slice A5 l5.length c5, .slice A6 l6.length c6, .slice A7 l7.length c7] 27)).alloc (.cells #[.int .i64 0, .int .i64 0] 23)).drew.heap[w.heap.size + 1]? = some (.cells #[.int .i64 0, .int .i64 0] 23 (0, 0)) := by
    have h := blk_new (w.alloc (.cells #[.int .i64 N, .int .i64 b0, .int .i64 b1, .int .i64 r0, .int .i64 r1, .slice A5 l5.length c5, .slice A6 l6.length c6, .slice A7 l7.length c7] 27)) (.cells #[.int .i64 0, .int .i64 0] 23)
    rw [World.size_alloc] at h
    exact blk_drew h
  have hV : ((w.alloc (.cells #[.int .i64 N, .int .i64 b0, .int .i64 b1, .int .i64 r0, .int .i64 r1, .slice A5 l5.length c5, .slice A6 l6.length c6, .slice A7 l7.length c7] 27)).alloc (.cells #[.int .i64 0, .int .i64 0] 23)).drew.heap[w.heap.size]? = some (.cells #[.int .i64 N, .int .i64 b0, .int .i64 b1, .int .i64 r0, .int .i64 r1, .slice A5 l5.length c5, .slice A6 l6.length c6, .slice A7 l7.length c7] 27 (0, 0)) ∧ ((w.alloc (.cells #[.int .i64 N, .int .i64 b0, .int .i64 b1, .int .i64 r0, .int .i64 r1, .slice A5 l5.length c5, .slice A6 l6.length c6, .slice A7 l7.length c7] 27)).alloc (.cells #[.int .i64 0, .int .i64 0] 23)).drew.heap[w.heap.size + 1]? = some (.cells #[.int .i64 0, .int .i64 0] 23 (0, 0)) := ⟨blk_drew (blk_alloc (blk_new w _) _), hr0⟩
  have hlt0 : w.heap.size + 1 < ((w.alloc (.cells #[.int .i64 N, .int .i64 b0, .int .i64 b1, .int .i64 r0, .int .i64 r1, .slice A5 l5.length c5, .slice A6 l6.length c6, .slice A7 l7.length c7] 27)).alloc (.cells #[.int .i64 0, .int .i64 0] 23)).drew.heap.size := blk_lt hr0
  refine start_ (n := 17) (S := (fun w' => w'.heap[w.heap.size]? = some (.cells #[.int .i64 N, .int .i64 b0, .int .i64 b1, .int .i64 r0, .int .i64 r1, .slice A5 l5.length c5, .slice A6 l6.length c6, .slice A7 l7.length c7] 27 (0, 0)) ∧ w'.heap[w.heap.size + 1]? = some (.cells #[.int .i64 0, .int .i64 0] 23 (0, 0)))) (ds := []) #[false, false, false, false, false, false, false, false, false, false, false, false, false, false, false, false, false] (by kernel_rfl) rfl rfl hV (fun hHeld => ?_)
  refine with_tabW path1_tab path1_bits (fun HT_ HW_ => ?_)
  generalize ((w.alloc (.cells #[.int .i64 N, .int .i64 b0, .int .i64 b1, .int .i64 r0, .int .i64 r1, .slice A5 l5.length c5, .slice A6 l6.length c6, .slice A7 l7.length c7] 27)).alloc (.cells #[.int .i64 0, .int .i64 0] 23)).drew = V0 at hb0 hr0 hHeld hlt0 ⊢
  refine takeA 0 10 rfl rfl (by rintro w' ⟨s0, s1⟩; exact exec_load_blk s0 rfl rfl Tryd.underlying27 rfl (by kernel_rfl)) ?_
  refine pureA 1 11 ?_
  refine pureA 2 12 ?_
  refine takeA 3 13 rfl rfl (by rintro w' ⟨s0, s1⟩; exact exec_load_sl ((blk_cell s0 6).trans rfl) rfl rfl) ?_
  refine pureA 4 14 ?_
  refine pureA 5 15 ?_
  refine any_upto (m := 16) (r := 1) (Lend := #[true, true, true, true, true, true, true, true, true, true, true, true, true, true, true, true, false]) (fun listed a W => ∃ (x : Nat → Value) (bv : Array Value) (t' : Tb), a = { tmps := #[.agg #[.int .i64 N, .int .i64 b0, .int .i64 b1, .int .i64 r0, .int .i64 r1, .slice A5 l5.length c5, .slice A6 l6.length c6, .slice A7 l7.length c7], .int .i64 n, .pointer (some ⟨w.heap.size, 0, none⟩), undef, .pointer (some ⟨w.heap.size + 1, 0, none⟩), .int .i64 0, x 6, x 7, undef, x 9, .agg #[.int .i64 N, .int .i64 b0, .int .i64 b1, .int .i64 r0, .int .i64 r1, .slice A5 l5.length c5, .slice A6 l6.length c6, .slice A7 l7.length c7], .int .i64 n, .pointer (some ⟨w.heap.size, 6, none⟩), .slice A6 l6.length c6, .int .i64 l6.length, .int .i64 (wrap64 ((l6.length : Int) - 1)), x 16, x 17, x 18, x 19, x 20, undef, undef, undef, undef, undef, undef, undef, undef, undef], defers := [] } ∧ (∀ j, j < 6 → listed.getD j false = true) ∧ ((fun w' => w'.heap[w.heap.size]? = some (.cells #[.int .i64 N, .int .i64 b0, .int .i64 b1, .int .i64 r0, .int .i64 r1, .slice A5 l5.length c5, .slice A6 l6.length c6, .slice A7 l7.length c7] 27 (0, 0)) ∧ w'.heap[w.heap.size + 1]? = some (.cells #[.int .i64 0, .int .i64 0] 23 (0, 0))) W) ∧ (listed.getD 6 false = true → x 16 = .bool ok) ∧ AskR N b0 b1 r0 r1 (.slice A5 l5.length c5) (.slice A6 l6.length c6) (.slice A7 l7.length c7) l5 l6 l7 err w.heap.size 7 17 9 18 19 20 6 7 V0 listed x bv t' W) (by kernel_rfl) rfl rfl ?step ?fin 11 _ _ _ (closed_of (by kernel_rfl)) (fun j hj => ?late) ⟨fun k => undef, #[], zeroT, rfl, fun j hj => ?early, hHeld, (fun h => by cases h), AskR.start (fun k hk => ?none0) _ _ _⟩ (by decide)
  case late =>
    by_cases e : j = 16
    · subst e; rfl
    · exact getD_out (by show 17 ≤ j; omega)
  case early =>
    have : j = 0 ∨ j = 1 ∨ j = 2 ∨ j = 3 ∨ j = 4 ∨ j = 5 := by omega
    rcases this with rfl | rfl | rfl | rfl | rfl | rfl <;> rfl
  case none0 =>
    have : k = 0 ∨ k = 1 ∨ k = 2 ∨ k = 3 ∨ k = 4 ∨ k = 5 ∨ k = 6 ∨ k = 7 ∨ k = 8 := by omega
    rcases this with rfl | rfl | rfl | rfl | rfl | rfl | rfl | rfl | rfl <;> rfl
  case step =>
    rintro listed a W i o hc ⟨x, bv, t', rfl, hE, hS, h5, hA⟩ hi ho hun hpre K hK
    have hs : listed.size = 17 := hc.1
    have hE2 : ∀ j, j < 6 → j ≠ i := fun j hj e => by rw [e] at hj; rw [hE i hj] at hun; cases hun
    have hE3 : ∀ (i : Nat), i < listed.size → ∀ j, j < 6 → (listed.setIfInBounds i true).getD j false = true := fun i hi j hj => by rw [getD_set hi]; split <;> first | rfl | exact hE j hj
    have hno : ∀ j, i ∈ preds .any _ j → listed.getD j false = false := fun j hj => by
      cases h : listed.getD j false with
      | false => rfl
      | true => have := hc.2 j h i hj; rw [hun] at this; cases this
    have hno2 : ∀ j p, p ∈ preds .any _ j → listed.getD p false = false → listed.getD j false = false := fun j p hj hp => by
      cases h : listed.getD j false with
      | false => rfl
      | true => have := hc.2 j h p hj; rw [hp] at this; cases this
    have hcases : i = 6 ∨ i = 7 ∨ i = 8 ∨ i = 9 ∨ i = 10 ∨ i = 11 ∨ i = 12 ∨ i = 13 ∨ i = 14 ∨ i = 15 := by have := hE2 i; omega
    rcases hcases with rfl | rfl | rfl | rfl | rfl | rfl | rfl | rfl | rfl | rfl
    · cases ho
      refine call_ 59 #[.int .i64 n, .int .i64 0, .int .i64 (wrap64 ((l6.length : Int) - 1))] (by rfl) rfl (by go_simp) ?_
      refine (star_within.calls n 0 (wrap64 ((l6.length : Int) - 1)) ok W (by rw [within_is, HOK.out])).mono ?_
      rintro e w' ⟨rfl, hdr⟩
      have hb : Below W.heap.size W w' := hdr.below
      exact ⟨_, rfl, hK.out _ _ (⟨blk_below hS.1 hb, blk_below hS.2 hb⟩) ⟨upd x 16 (.bool ok), bv, t', rfl, hE3 _ (by omega), ⟨blk_below hS.1 hb, blk_below hS.2 hb⟩, fun _ => rfl, hA.pre _ (by omega) (by omega) (by decide) hb⟩⟩
    · cases ho
      have hx := h5 (hpre 6 (by decide))
      refine call_ 65 #[.agg #[.int .i64 N, .int .i64 b0, .int .i64 b1, .int .i64 r0, .int .i64 r1, .slice A5 l5.length c5, .slice A6 l6.length c6, .slice A7 l7.length c7], .bool ok] (by rfl) rfl (by go_simp <;> simp [hx]) ?_
      have hbw := hb0.trans (hA.bel.mono hb0.size)
      refine (asked_any N b0 b1 r0 r1 A5 c5 l5 A6 c6 l6 A7 c7 l7 ok W (HK.out.below hbw) (Kd.C_below h5' hbw) hc5 (Kd.C_below h6' hbw) hc6 (Kd.C_below h7' hbw) hc7 hl).mono ?_
      rintro e w' ⟨bw, s', rfl, hb, hbv, hok⟩
      rw [HERR.out] at hok ⊢
      have hG : Gd N b0 b1 r0 r1 (.slice A5 l5.length c5) (.slice A6 l6.length c6) (.slice A7 l7.length c7) l5 l6 l7 err w.heap.size bw s' w' := ⟨hbv, fun e => by obtain ⟨m, h1, h2⟩ := hok e; exact ⟨m, Nat.le_trans hbw.size h1, h2⟩⟩
      exact ⟨_, rfl, hK.out _ _ (⟨blk_below hS.1 hb, blk_below hS.2 hb⟩) ⟨upd x 17 _, bw, s', rfl, hE3 _ (by omega), ⟨blk_below hS.1 hb, blk_below hS.2 hb⟩, fun h => by rw [getD_set (by omega), if_neg (by decide)] at h; exact h5 h, hA.called (by decide) (by omega) (fun k hk => by rcases (show k = 1 ∨ k = 2 ∨ k = 3 ∨ k = 4 ∨ k = 7 ∨ k = 8 by omega) with rfl | rfl | rfl | rfl | rfl | rfl <;> first | exact hno _ (by decide) | exact hno2 _ _ (by decide) (hno _ (by decide : 7 ∈ preds .any _ 8))) bw s' hb hG⟩⟩
    · cases ho
      have hx := (hA.call (hpre 7 (by decide))).1
      refine value_ (v := .tuple #[.agg bv, .agg (encT t').toArray, .int .i64 err]) (w1 := W) rfl rfl (by go_simp <;> simp [hx]) ?_
      exact hK.out _ _ hS ⟨upd x 9 _, bv, t', rfl, hE3 _ (by omega), hS, fun h => by rw [getD_set (by omega), if_neg (by decide)] at h; exact h5 h, hA.moved (by decide) (by omega)⟩
    · cases ho
      have hx := hA.mv (hpre 8 (by decide))
      refine value_ (v := .agg bv) (w1 := W) rfl rfl (by go_simp <;> simp [hx]) ?_
      exact hK.out _ _ hS ⟨upd x 18 _, bv, t', rfl, hE3 _ (by omega), hS, fun h => by rw [getD_set (by omega), if_neg (by decide)] at h; exact h5 h, hA.ext0 (by decide) (by omega)⟩
    · cases ho
      have hx := hA.mv (hpre 8 (by decide))
      refine value_ (v := .agg (encT t').toArray) (w1 := W) rfl rfl (by go_simp <;> simp [hx]) ?_
      exact hK.out _ _ hS ⟨upd x 19 _, bv, t', rfl, hE3 _ (by omega), hS, fun h => by rw [getD_set (by omega), if_neg (by decide)] at h; exact h5 h, hA.ext1 (by decide) (by omega)⟩
    · cases ho
      have hx := hA.mv (hpre 8 (by decide))
      refine value_ (v := .int .i64 err) (w1 := W) rfl rfl (by go_simp <;> simp [hx]) ?_
      exact hK.out _ _ hS ⟨upd x 20 _, bv, t', rfl, hE3 _ (by omega), hS, fun h => by rw [getD_set (by omega), if_neg (by decide)] at h; exact h5 h, hA.ext2 (by decide) (by omega)⟩
    · cases ho
      have hb : Below W.heap.size W (W.alloc (.cells zero9 80)) := (Below.refl _ _).alloc (Nat.le_refl _) _
      refine value_ (v := .pointer (some ⟨W.heap.size, 0, none⟩)) (w1 := W.alloc (.cells zero9 80)) rfl rfl (by go_simp; try rfl) ?_
      exact hK.out _ _ (⟨blk_below hS.1 hb, blk_below hS.2 hb⟩) ⟨upd x 6 _, bv, t', rfl, hE3 _ (by omega), ⟨blk_below hS.1 hb, blk_below hS.2 hb⟩, fun h => by rw [getD_set (by omega), if_neg (by decide)] at h; exact h5 h, hA.alA (by decide) (by omega) (hno _ (by decide))⟩
    · cases ho
      have hb : Below W.heap.size W (W.alloc (.cells Tryd.zeroCells91 91)) := (Below.refl _ _).alloc (Nat.le_refl _) _
      refine value_ (v := .pointer (some ⟨W.heap.size, 0, none⟩)) (w1 := W.alloc (.cells Tryd.zeroCells91 91)) rfl rfl (by go_simp; try rfl) ?_
      exact hK.out _ _ (⟨blk_below hS.1 hb, blk_below hS.2 hb⟩) ⟨upd x 7 _, bv, t', rfl, hE3 _ (by omega), ⟨blk_below hS.1 hb, blk_below hS.2 hb⟩, fun h => by rw [getD_set (by omega), if_neg (by decide)] at h; exact h5 h, hA.alB (by decide) (by omega) (hno _ (by decide))⟩
    · cases ho
      obtain ⟨g, hg, hg0, hB⟩ := hA.al (hpre 12 (by decide))
      have hx := hA.e0 (hpre 9 (by decide))
      have hG := (hA.call (hpre 7 (by decide))).2
      obtain ⟨w', hP, hr⟩ := store_ex (ty := 80) (vs := bv) hB (by rw [hun]; exact hG.1.1) (by rw [hG.1.1]; kernel_rfl) hG.1.2
      refine skip_ (w1 := w') rfl rfl (hr _ _ _ _ rfl hg hx) ?_
      exact hK.out _ _ (⟨hP.blk hS.1 (by omega), hP.blk hS.2 (by omega)⟩) ⟨x, bv, t', rfl, hE3 _ (by omega), ⟨hP.blk hS.1 (by omega), hP.blk hS.2 (by omega)⟩, fun h => by rw [getD_set (by omega), if_neg (by decide)] at h; exact h5 h, hA.stA (by omega) hg hB hg0 hP⟩
    · cases ho
      obtain ⟨g, hg, hg0, hB⟩ := hA.bl (hpre 13 (by decide))
      have hx := hA.e1 (hpre 10 (by decide))
      obtain ⟨w', hP, hr⟩ := store_ex (ty := 91) (vs := (encT t').toArray) hB (by rw [hun, zeroCells_is]; simp [encT_length]) (size91a t') (all_oneCell_toArray (encT_one t'))
      refine skip_ (w1 := w') rfl rfl (hr _ _ _ _ rfl hg hx) ?_
      exact hK.out _ _ (⟨hP.blk hS.1 (by omega), hP.blk hS.2 (by omega)⟩) ⟨x, bv, t', rfl, hE3 _ (by omega), ⟨hP.blk hS.1 (by omega), hP.blk hS.2 (by omega)⟩, fun h => by rw [getD_set (by omega), if_neg (by decide)] at h; exact h5 h, hA.stB (by omega) hg hB hg0 hP⟩
  case fin =>
    rintro d a W ⟨x, bv, t', rfl, hE, hS, h5, hA⟩
    have x5 := h5 rfl
    obtain ⟨x6, hG⟩ := hA.call rfl
    have x7 := hA.mv rfl
    have x8 := hA.e0 rfl
    have x9 := hA.e1 rfl
    have x10 := hA.e2 rfl
    obtain ⟨g, x11, hg0, hgB⟩ := hA.al rfl
    obtain ⟨g', x12, hg0', hgB'⟩ := hA.bl rfl
    have hgC : W.heap[g]? = some (.cells bv 80 (0, 0)) := hgB
    have hgC' : W.heap[g']? = some (.cells (encT t').toArray 91 (0, 0)) := hgB'
    clear hgB hgB'
    simp only [x5, x6, x7, x8, x9, x10, x11, x12]
    refine pureA 16 8 ?_
    refine done_ (done_of HT_.out (by kernel_rfl)) ?_
    clear HT_ HW_ hHeld
    have hbW := hb0.trans (hA.bel.mono hb0.size)
    have hzz := hb0.size
    clear hA hE h5 x5 x6 x7 x8 x9 x10 x11 x12
    refine calm_normal ?_
    have hS1 := hS.1
    have hS2 := hS.2
    by_cases he : err = 0
    · obtain ⟨hBk, hok, hcan⟩ := ask0 (HERR.out.trans he)
      obtain ⟨hbv, hG2⟩ := hG
      obtain ⟨m, hm, hbe, ht, hM⟩ := hG2 he
      have hn : 0 ≤ n ∧ n ≤ (l6.length : Int) - 1 := by
        have h1 := HOK.out
        rw [hok] at h1
        have h2 := of_decide_eq_true h1.symm
        have := hBk.len
        rw [IntWalk.wrap64_in ((l6.length : Int) - 1) (by constructor <;> omega)] at h2
        exact h2
      have hN8 := hBk.n
      have hl4 := hBk.len
      have hu : Used N l5 l6 (13 + n.toNat) := .inr (.inr (.inr ⟨by omega, by omega⟩))
      have hnear := told_near hBk [] hcan (.inl rfl : Used N l5 l6 0) hu
      have hbe2 : bv = #[.int .i64 N, .int .i64 b0, .int .i64 b1, .int .i64 r0, .int .i64 r1, .slice A5 l5.length c5, .slice A6 l6.length c6, .slice A7 l7.length c7, .map (some m)] := by injection hbe
      rw [ht] at hgC' ⊢
      rw [hbe2] at hgC ⊢
      obtain ⟨T, hT⟩ : ∃ T, T = told N b0 b1 r0 r1 l5 l6 l7 [] := ⟨_, rfl⟩
      rw [← hT] at hgC' hnear ⊢
      have hnn : ((13 + n.toNat : Nat) : Int) = 13 + n := by omega
      have hbt := fun (W2 : World) => between_any T (13 + n.toNat) 0 (by omega) (by omega) (by omega) W2
      rw [hnn] at hbt
      have HBT := Lib.hid hbt
      have HT := Lib.hid hT
      have hnb : -1000000 ≤ n ∧ n ≤ 1000000 := by omega
      have HNEAR := Lib.hid hnear
      clear hbt hT hnear ht hbe hbe2 hbv hG2 hM hu hcan hok
      subst he
      go_wp2_with fail
      refine wp_calm ?_
      refine start_ (n := 7) (S := fun w' => w'.heap[g]? = some (.cells #[.int .i64 N, .int .i64 b0, .int .i64 b1, .int .i64 r0, .int .i64 r1, .slice A5 l5.length c5, .slice A6 l6.length c6, .slice A7 l7.length c7, .map (some m)] 80 (0, 0)) ∧ w'.heap[g']? = some (.cells (encT T).toArray 91 (0, 0))) (ds := []) #[false, false, false, false, false, false, false] (by kernel_rfl) rfl rfl ⟨blk_drew hgC, blk_drew hgC'⟩ (fun hHeld => ?_)
      refine with_tabW path4_tab path4_bits (fun HT_ HW_ => ?_)
      have hb1 : Below w.heap.size w W.drew := hbW.drew
      have hz0 := blk_drew hS2
      generalize W.drew = V1 at hHeld hb1 hz0 ⊢
      refine takeA 0 25 rfl rfl (by rintro w' ⟨s0, s1⟩; exact exec_load_blk s1 rfl rfl Tryd.underlying91 rfl (size91a T)) ?_
      refine takeA 1 26 rfl rfl (by rintro w' ⟨s0, s1⟩; exact exec_load_blk s0 rfl rfl Tryd.underlying80 rfl (by kernel_rfl)) ?_
      refine pureA 2 27 ?_
      refine oneA 3 (some 28) (fun K hK => ?_)
      refine call_ 58 #[(bookV N b0 b1 r0 r1 (.slice A5 l5.length c5) (.slice A6 l6.length c6) (.slice A7 l7.length c7) m), .int .i64 n] (by rfl) rfl ?_ ?_
      · go_simp
        try rfl
      refine (signal_any N b0 b1 r0 r1 _ _ _ _ n (by omega) V1).mono ?_
      rintro e V2 ⟨rfl, hb2⟩
      refine ⟨_, rfl, ?_⟩
      refine hK.out _ _ ⟨blk_below hHeld.1 hb2, blk_below hHeld.2 hb2⟩ (fun hHeld2 => ?_)
      clear hK K
      refine normA 28 ?_
      refine oneA 4 (some 29) (fun K hK => ?_)
      refine call_ 66 #[.agg (encT T).toArray, .int .i64 (13 + n), .int .i64 0] (by rfl) rfl ?_ ?_
      · go_simp
        try rfl
      refine (HBT.out V2).mono ?_
      rintro e V3 ⟨rfl, hb3⟩
      refine ⟨_, rfl, ?_⟩
      refine hK.out _ _ ⟨blk_below hHeld2.1 hb3, blk_below hHeld2.2 hb3⟩ (fun hHeld3 => ?_)
      clear hK K
      refine normA 29 ?_
      have hz3 := blk_below (blk_below hz0 hb2) hb3
      obtain ⟨V4, hP4, hr4⟩ := store_ex (ty := 23) (vs := #[.int .i64 (-(T 0 (13 + n.toNat))), .int .i64 (T (13 + n.toNat) 0)]) hz3 rfl (by kernel_rfl) (by simp [Value.oneCell'])
      have hgne : g ≠ w.heap.size + 1 ∧ g' ≠ w.heap.size + 1 := by omega
      refine oneA 5 none (fun K hK => ?_)
      refine skip_ (w1 := V4) rfl rfl (hr4 _ _ _ _ rfl rfl rfl) ?_
      refine hK.out _ _ ⟨hP4.blk hHeld3.1 hgne.1, hP4.blk hHeld3.2 hgne.2⟩ (fun hHeld4 => ?_)
      clear hK K
      refine pureA 6 5 ?_
      refine done_ (done_of HT_.out (by kernel_rfl)) ?_
      clear HT_ HW_ hHeld hHeld2 hHeld3 hHeld4
      refine calm_normal ?_
      have h4 := hP4.here
      go_wp2_with fail
      refine bodyPost_ret (results_ct rfl _ _ (w.heap.size + 1) 23 #[.int .i64 (-(T 0 (13 + n.toNat))), .int .i64 (T (13 + n.toNat) 0)] (0, 0) _ rfl h4 Tryd.underlying23 rfl (by kernel_rfl)) rfl ?_
      rw [← HT.out]
      exact ⟨rfl, ((below_call hb1 hb2).trans (hb3.mono (below_call hb1 hb2).size)).trans (hP4.below (by omega))⟩
    · clear hG hgC hgC'
      go_wp2_with (refine wpList_store_blk rfl rfl rfl rfl hS2 rfl (by kernel_rfl) (by simp [Value.oneCell']) ?_; intro W9 hP9)
      refine bodyPost_ret (results_ct rfl _ _ (w.heap.size + 1) 23 #[.int .i64 0, .int .i64 0] (0, 0) _ rfl hP9.here Tryd.underlying23 rfl (by kernel_rfl)) rfl ?_
      exact ⟨rfl, hbW.trans (hP9.below (by omega))⟩
end Go.Proofs.YtohbeninpmmmpaaDoor
end

section
/- Person. -/
set_option linter.unusedSimpArgs false
set_option linter.unusedVariables false
namespace Go.Proofs.YtohbeninpmmmpaaDoor
open Go.RowKit Go.Proofs.YtohbeninpmmmpaaDoorW.PrintWords Go.Proofs.YtohbeninpmmmpaaDoorW.PrintLast Go.Proofs.YtohbeninpmmmpaaDoorW.PrintMore TrydX.X
attribute [local go_sem] Oper.semAt_some
def person1T : Bool × List (List Nat × List Nat) := (true, [([], []), ([], []), ([], []), ([2], [2]), ([3], [3]), ([4], [4]), ([1, 5], [1, 5]), ([0, 6, 6], [0, 6]), ([7], [7]), ([8], [8]), ([8], [8]), ([8], [8]), ([], []), ([], []), ([12, 9, 7, 0, 1, 2, 3, 4, 5, 6, 7, 8, 9, 12, 13], [9, 12]), ([13, 10, 14, 0, 1, 2, 3, 4, 5, 6, 7, 8, 9, 10, 12, 13, 14], [10, 13]), ([11, 15, 0, 1, 2, 3, 4, 5, 6, 7, 8, 9, 10, 11, 12, 13, 14, 15], [11])])
def person1B : List Nat := [0, 0, 0, 4, 12, 28, 62, 127, 255, 511, 511, 511, 0, 0, 13311, 30719, 65535]
theorem person1_tab : rtab .any (opsOf Tryd.f26 1) = person1T := by kernel_rfl
theorem person1_bits : waitsOk person1T.2 person1B = true := by kernel_rfl
def person4T : Bool × List (List Nat × List Nat) := (true, [([], []), ([], []), ([], []), ([1, 2], [1, 2]), ([0, 3, 3], [0, 3]), ([], []), ([5, 4, 4, 0, 1, 2, 3, 4, 5], [4, 5])])
def person4B : List Nat := [0, 0, 0, 6, 15, 0, 63]
theorem person4_tab : rtab .any (opsOf Tryd.f26 4) = person4T := by kernel_rfl
theorem person4_bits : waitsOk person4T.2 person4B = true := by kernel_rfl
set_option maxRecDepth 100000 in
set_option maxHeartbeats 4000000 in
theorem Person_any (N b0 b1 r0 r1 : Int) (A5 : Option Addr) (c5 : Nat) (l5 : List S23) (A6 : Option Addr) (c6 : Nat) (l6 : List S23) (A7 : Option Addr) (c7 : Nat) (l7 : List S63) (n : Int)
    (w : World) (hK : Kinds w) (h5' : Kd.C k23 w A5 l5.length l5) (hc5 : l5.length ≤ c5) (h6' : Kd.C k23 w A6 l6.length l6) (hc6 : l6.length ≤ c6) (h7' : Kd.C k63 w A7 l7.length l7) (hc7 : l7.length ≤ c7)
    (hl : l5.length ≤ 4611686018427387904 ∧ l6.length ≤ 4611686018427387904 ∧ l7.length ≤ 4611686018427387904) (ok : Bool) (hok : ok = decide (0 ≤ n ∧ n ≤ wrap64 ((l5.length : Int) - 1))) (err : Int) (herr : askE N b0 b1 r0 r1 l5 l6 l7 ok = err) :
    Calls Tryd.prog 26 #[.agg #[.int .i64 N, .int .i64 b0, .int .i64 b1, .int .i64 r0, .int .i64 r1, .slice A5 l5.length c5, .slice A6 l6.length c6, .slice A7 l7.length c7], .int .i64 n] w fun e w' =>
      e = .returned (.tuple #[.agg #[.int .i64 (if err = 0 then -(told N b0 b1 r0 r1 l5 l6 l7 [] (9 + n.toNat) 0) else 0), .int .i64 (if err = 0 then told N b0 b1 r0 r1 l5 l6 l7 [] 0 (9 + n.toNat) else 0)], .int .i64 err]) ∧ Below w.heap.size w w' := by
  have HERR := Lib.hid herr
  have HK := Lib.hid hK
  have HOK := Lib.hid hok
  clear herr hK hok
  go_enter Tryd.func26, Tryd.ntmps26
  go_wp2_with fail
  refine wp_calm ?_
  have hb0 : Below w.heap.size w ((w.alloc (.cells #[.int .i64 N, .int .i64 b0, .int .i64 b1, .int .i64 r0, .int .i64 r1, .slice A5 l5.length c5, .slice A6 l6.length c6, .slice A7 l7.length c7] 27)).alloc (.cells #[.int .i64 0, .int .i64 0] 23)).drew := by
    refine Below.drew ?_
    repeat with_reducible (first | exact Below.refl _ _ | refine Below.alloc ?_ (by simp <;> omega) _)
  have hr0 : ((w.alloc (.cells #[.int .i64 N, .int .i64 b0, .int .i64 b1, .int .i64 r0, .int .i64 r1, .slice A5 l5.length c5, .slice A6 l6.length c6, .slice A7 l7.length c7] 27)).alloc (.cells #[.int .i64 0, .int .i64 0] 23)).drew.heap[w.heap.size + 1]? = some (.cells #[.int .i64 0, .int .i64 0] 23 (0, 0)) := by
    have h := blk_new (w.alloc (.cells #[.int .i64 N, .int .i64 b0, .int .i64 b1, .int .i64 r0, .int .i64 r1, .slice A5 l5.length c5, .slice A6 l6.length c6, .slice A7 l7.length c7] 27)) (.cells #[.int .i64 0, .int .i64 0] 23)
    rw [World.size_alloc] at h
    exact blk_drew h
  have hV : ((w.alloc (.cells #[.int .i64 N, .int .i64 b0, .int .i64 b1, .int .i64 r0, .int .i64 r1, .slice A5 l5.length c5, .slice A6 l6.length c6, .slice A7 l7.length c7] 27)).alloc (.cells #[.int .i64 0, .int .i64 0] 23)).drew.heap[w.heap.size]? = some (.cells #[.int .i64 N, .int .i64 b0, .int .i64 b1, .int .i64 r0, .int .i64 r1, .slice A5 l5.length c5, .slice A6 l6.length c6, .slice A7 l7.length c7] 27 (0, 0)) ∧ ((w.alloc (.cells #[.int .i64 N, .int .i64 b0, .int .i64 b1, .int .i64 r0, .int .i64 r1, .slice A5 l5.length c5, .slice A6 l6.length c6, .slice A7 l7.length c7] 27)).alloc (.cells #[.int .i64 0, .int .i64 0] 23)).drew.heap[w.heap.size + 1]? = some (.cells #[.int .i64 0, .int .i64 0] 23 (0, 0)) := ⟨blk_drew (blk_alloc (blk_new w _) _), hr0⟩
  have hlt0 : w.heap.size + 1 < ((w.alloc (.cells #[.int .i64 N, .int .i64 b0, .int .i64 b1, .int .i64 r0, .int .i64 r1, .slice A5 l5.length c5, .slice A6 l6.length c6, .slice A7 l7.length c7] 27)).alloc (.cells #[.int .i64 0, .int .i64 0] 23)).drew.heap.size := blk_lt hr0
  refine start_ (n := 17) (S := (fun w' => w'.heap[w.heap.size]? = some (.cells #[.int .i64 N, .int .i64 b0, .int .i64 b1, .int .i64 r0, .int .i64 r1, .slice A5 l5.length c5, .slice A6 l6.length c6, .slice A7 l7.length c7] 27 (0, 0)) ∧ w'.heap[w.heap.size + 1]? = some (.cells #[.int .i64 0, .int .i64 0] 23 (0, 0)))) (ds := []) #[false, false, false, false, false, false, false, false, false, false, false, false, false, false, false, false, false] (by kernel_rfl) rfl rfl hV (fun hHeld => ?_)
  refine with_tabW person1_tab person1_bits (fun HT_ HW_ => ?_)
  generalize ((w.alloc (.cells #[.int .i64 N, .int .i64 b0, .int .i64 b1, .int .i64 r0, .int .i64 r1, .slice A5 l5.length c5, .slice A6 l6.length c6, .slice A7 l7.length c7] 27)).alloc (.cells #[.int .i64 0, .int .i64 0] 23)).drew = V0 at hb0 hr0 hHeld hlt0 ⊢
  refine takeA 0 11 rfl rfl (by rintro w' ⟨s0, s1⟩; exact exec_load_blk s0 rfl rfl Tryd.underlying27 rfl (by kernel_rfl)) ?_
  refine pureA 1 12 ?_
  refine pureA 2 13 ?_
  refine takeA 3 14 rfl rfl (by rintro w' ⟨s0, s1⟩; exact exec_load_sl ((blk_cell s0 5).trans rfl) rfl rfl) ?_
  refine pureA 4 15 ?_
  refine pureA 5 16 ?_
  refine any_upto (m := 16) (r := 1) (Lend := #[true, true, true, true, true, true, true, true, true, true, true, true, true, true, true, true, false]) (fun listed a W => ∃ (x : Nat → Value) (bv : Array Value) (t' : Tb), a = { tmps := #[.agg #[.int .i64 N, .int .i64 b0, .int .i64 b1, .int .i64 r0, .int .i64 r1, .slice A5 l5.length c5, .slice A6 l6.length c6, .slice A7 l7.length c7], .int .i64 n, .pointer (some ⟨w.heap.size, 0, none⟩), undef, .pointer (some ⟨w.heap.size + 1, 0, none⟩), .int .i64 0, x 6, x 7, undef, undef, x 10, .agg #[.int .i64 N, .int .i64 b0, .int .i64 b1, .int .i64 r0, .int .i64 r1, .slice A5 l5.length c5, .slice A6 l6.length c6, .slice A7 l7.length c7], .int .i64 n, .pointer (some ⟨w.heap.size, 5, none⟩), .slice A5 l5.length c5, .int .i64 l5.length, .int .i64 (wrap64 ((l5.length : Int) - 1)), x 17, x 18, x 19, x 20, x 21, undef, undef, undef, undef, undef, undef, undef, undef, undef, undef, undef, undef, undef, undef, undef, undef], defers := [] } ∧ (∀ j, j < 6 → listed.getD j false = true) ∧ ((fun w' => w'.heap[w.heap.size]? = some (.cells #[.int .i64 N, .int .i64 b0, .int .i64 b1, .int .i64 r0, .int .i64 r1, .slice A5 l5.length c5, .slice A6 l6.length c6, .slice A7 l7.length c7] 27 (0, 0)) ∧ w'.heap[w.heap.size + 1]? = some (.cells #[.int .i64 0, .int .i64 0] 23 (0, 0))) W) ∧ (listed.getD 6 false = true → x 17 = .bool ok) ∧ AskR N b0 b1 r0 r1 (.slice A5 l5.length c5) (.slice A6 l6.length c6) (.slice A7 l7.length c7) l5 l6 l7 err w.heap.size 7 18 10 19 20 21 6 7 V0 listed x bv t' W) (by kernel_rfl) rfl rfl ?step ?fin 11 _ _ _ (closed_of (by kernel_rfl)) (fun j hj => ?late) ⟨fun k => undef, #[], zeroT, rfl, fun j hj => ?early, hHeld, (fun h => by cases h), AskR.start (fun k hk => ?none0) _ _ _⟩ (by decide)
  case late =>
    by_cases e : j = 16
    · subst e; rfl
    · exact getD_out (by show 17 ≤ j; omega)
  case early =>
    have : j = 0 ∨ j = 1 ∨ j = 2 ∨ j = 3 ∨ j = 4 ∨ j = 5 := by omega
    rcases this with rfl | rfl | rfl | rfl | rfl | rfl <;> rfl
  case none0 =>
    have : k = 0 ∨ k = 1 ∨ k = 2 ∨ k = 3 ∨ k = 4 ∨ k = 5 ∨ k = 6 ∨ k = 7 ∨ k = 8 := by omega
    rcases this with rfl | rfl | rfl | rfl | rfl | rfl | rfl | rfl | rfl <;> rfl
  case step =>
    rintro listed a W i o hc ⟨x, bv, t', rfl, hE, hS, h5, hA⟩ hi ho hun hpre K hK
    have hs : listed.size = 17 := hc.1
    have hE2 : ∀ j, j < 6 → j ≠ i := fun j hj e => by rw [e] at hj; rw [hE i hj] at hun; cases hun
    have hE3 : ∀ (i : Nat), i < listed.size → ∀ j, j < 6 → (listed.setIfInBounds i true).getD j false = true := fun i hi j hj => by rw [getD_set hi]; split <;> first | rfl | exact hE j hj
    have hno : ∀ j, i ∈ preds .any _ j → listed.getD j false = false := fun j hj => by
      cases h : listed.getD j false with
      | false => rfl
      | true => have := hc.2 j h i hj; rw [hun] at this; cases this
    have hno2 : ∀ j p, p ∈ preds .any _ j → listed.getD p false = false → listed.getD j false = false := fun j p hj hp => by
      cases h : listed.getD j false with
      | false => rfl
      | true => have := hc.2 j h p hj; rw [hp] at this; cases this
    have hcases : i = 6 ∨ i = 7 ∨ i = 8 ∨ i = 9 ∨ i = 10 ∨ i = 11 ∨ i = 12 ∨ i = 13 ∨ i = 14 ∨ i = 15 := by have := hE2 i; omega
    rcases hcases with rfl | rfl | rfl | rfl | rfl | rfl | rfl | rfl | rfl | rfl
    · cases ho
      refine call_ 59 #[.int .i64 n, .int .i64 0, .int .i64 (wrap64 ((l5.length : Int) - 1))] (by rfl) rfl (by go_simp) ?_
      refine (star_within.calls n 0 (wrap64 ((l5.length : Int) - 1)) ok W (by rw [within_is, HOK.out])).mono ?_
      rintro e w' ⟨rfl, hdr⟩
      have hb : Below W.heap.size W w' := hdr.below
      exact ⟨_, rfl, hK.out _ _ (⟨blk_below hS.1 hb, blk_below hS.2 hb⟩) ⟨upd x 17 (.bool ok), bv, t', rfl, hE3 _ (by omega), ⟨blk_below hS.1 hb, blk_below hS.2 hb⟩, fun _ => rfl, hA.pre _ (by omega) (by omega) (by decide) hb⟩⟩
    · cases ho
      have hx := h5 (hpre 6 (by decide))
      refine call_ 65 #[.agg #[.int .i64 N, .int .i64 b0, .int .i64 b1, .int .i64 r0, .int .i64 r1, .slice A5 l5.length c5, .slice A6 l6.length c6, .slice A7 l7.length c7], .bool ok] (by rfl) rfl (by go_simp <;> simp [hx]) ?_
      have hbw := hb0.trans (hA.bel.mono hb0.size)
      refine (asked_any N b0 b1 r0 r1 A5 c5 l5 A6 c6 l6 A7 c7 l7 ok W (HK.out.below hbw) (Kd.C_below h5' hbw) hc5 (Kd.C_below h6' hbw) hc6 (Kd.C_below h7' hbw) hc7 hl).mono ?_
      rintro e w' ⟨bw, s', rfl, hb, hbv, hok⟩
      rw [HERR.out] at hok ⊢
      have hG : Gd N b0 b1 r0 r1 (.slice A5 l5.length c5) (.slice A6 l6.length c6) (.slice A7 l7.length c7) l5 l6 l7 err w.heap.size bw s' w' := ⟨hbv, fun e => by obtain ⟨m, h1, h2⟩ := hok e; exact ⟨m, Nat.le_trans hbw.size h1, h2⟩⟩
      exact ⟨_, rfl, hK.out _ _ (⟨blk_below hS.1 hb, blk_below hS.2 hb⟩) ⟨upd x 18 _, bw, s', rfl, hE3 _ (by omega), ⟨blk_below hS.1 hb, blk_below hS.2 hb⟩, fun h => by rw [getD_set (by omega), if_neg (by decide)] at h; exact h5 h, hA.called (by decide) (by omega) (fun k hk => by rcases (show k = 1 ∨ k = 2 ∨ k = 3 ∨ k = 4 ∨ k = 7 ∨ k = 8 by omega) with rfl | rfl | rfl | rfl | rfl | rfl <;> first | exact hno _ (by decide) | exact hno2 _ _ (by decide) (hno _ (by decide : 7 ∈ preds .any _ 8))) bw s' hb hG⟩⟩
    · cases ho
      have hx := (hA.call (hpre 7 (by decide))).1
      refine value_ (v := .tuple #[.agg bv, .agg (encT t').toArray, .int .i64 err]) (w1 := W) rfl rfl (by go_simp <;> simp [hx]) ?_
      exact hK.out _ _ hS ⟨upd x 10 _, bv, t', rfl, hE3 _ (by omega), hS, fun h => by rw [getD_set (by omega), if_neg (by decide)] at h; exact h5 h, hA.moved (by decide) (by omega)⟩
    · cases ho
      have hx := hA.mv (hpre 8 (by decide))
      refine value_ (v := .agg bv) (w1 := W) rfl rfl (by go_simp <;> simp [hx]) ?_
      exact hK.out _ _ hS ⟨upd x 19 _, bv, t', rfl, hE3 _ (by omega), hS, fun h => by rw [getD_set (by omega), if_neg (by decide)] at h; exact h5 h, hA.ext0 (by decide) (by omega)⟩
    · cases ho
      have hx := hA.mv (hpre 8 (by decide))
      refine value_ (v := .agg (encT t').toArray) (w1 := W) rfl rfl (by go_simp <;> simp [hx]) ?_
      exact hK.out _ _ hS ⟨upd x 20 _, bv, t', rfl, hE3 _ (by omega), hS, fun h => by rw [getD_set (by omega), if_neg (by decide)] at h; exact h5 h, hA.ext1 (by decide) (by omega)⟩
    · cases ho
      have hx := hA.mv (hpre 8 (by decide))
      refine value_ (v := .int .i64 err) (w1 := W) rfl rfl (by go_simp <;> simp [hx]) ?_
      exact hK.out _ _ hS ⟨upd x 21 _, bv, t', rfl, hE3 _ (by omega), hS, fun h => by rw [getD_set (by omega), if_neg (by decide)] at h; exact h5 h, hA.ext2 (by decide) (by omega)⟩
    · cases ho
      have hb : Below W.heap.size W (W.alloc (.cells zero9 80)) := (Below.refl _ _).alloc (Nat.le_refl _) _
      refine value_ (v := .pointer (some ⟨W.heap.size, 0, none⟩)) (w1 := W.alloc (.cells zero9 80)) rfl rfl (by go_simp; try rfl) ?_
      exact hK.out _ _ (⟨blk_below hS.1 hb, blk_below hS.2 hb⟩) ⟨upd x 6 _, bv, t', rfl, hE3 _ (by omega), ⟨blk_below hS.1 hb, blk_below hS.2 hb⟩, fun h => by rw [getD_set (by omega), if_neg (by decide)] at h; exact h5 h, hA.alA (by decide) (by omega) (hno _ (by decide))⟩
    · cases ho
      have hb : Below W.heap.size W (W.alloc (.cells Tryd.zeroCells91 91)) := (Below.refl _ _).alloc (Nat.le_refl _) _
      refine value_ (v := .pointer (some ⟨W.heap.size, 0, none⟩)) (w1 := W.alloc (.cells Tryd.zeroCells91 91)) rfl rfl (by go_simp; try rfl) ?_
      exact hK.out _ _ (⟨blk_below hS.1 hb, blk_below hS.2 hb⟩) ⟨upd x 7 _, bv, t', rfl, hE3 _ (by omega), ⟨blk_below hS.1 hb, blk_below hS.2 hb⟩, fun h => by rw [getD_set (by omega), if_neg (by decide)] at h; exact h5 h, hA.alB (by decide) (by omega) (hno _ (by decide))⟩
    · cases ho
      obtain ⟨g, hg, hg0, hB⟩ := hA.al (hpre 12 (by decide))
      have hx := hA.e0 (hpre 9 (by decide))
      have hG := (hA.call (hpre 7 (by decide))).2
      obtain ⟨w', hP, hr⟩ := store_ex (ty := 80) (vs := bv) hB (by rw [hun]; exact hG.1.1) (by rw [hG.1.1]; kernel_rfl) hG.1.2
      refine skip_ (w1 := w') rfl rfl (hr _ _ _ _ rfl hg hx) ?_
      exact hK.out _ _ (⟨hP.blk hS.1 (by omega), hP.blk hS.2 (by omega)⟩) ⟨x, bv, t', rfl, hE3 _ (by omega), ⟨hP.blk hS.1 (by omega), hP.blk hS.2 (by omega)⟩, fun h => by rw [getD_set (by omega), if_neg (by decide)] at h; exact h5 h, hA.stA (by omega) hg hB hg0 hP⟩
    · cases ho
      obtain ⟨g, hg, hg0, hB⟩ := hA.bl (hpre 13 (by decide))
      have hx := hA.e1 (hpre 10 (by decide))
      obtain ⟨w', hP, hr⟩ := store_ex (ty := 91) (vs := (encT t').toArray) hB (by rw [hun, zeroCells_is]; simp [encT_length]) (size91a t') (all_oneCell_toArray (encT_one t'))
      refine skip_ (w1 := w') rfl rfl (hr _ _ _ _ rfl hg hx) ?_
      exact hK.out _ _ (⟨hP.blk hS.1 (by omega), hP.blk hS.2 (by omega)⟩) ⟨x, bv, t', rfl, hE3 _ (by omega), ⟨hP.blk hS.1 (by omega), hP.blk hS.2 (by omega)⟩, fun h => by rw [getD_set (by omega), if_neg (by decide)] at h; exact h5 h, hA.stB (by omega) hg hB hg0 hP⟩
  case fin =>
    rintro d a W ⟨x, bv, t', rfl, hE, hS, h5, hA⟩
    have x5 := h5 rfl
    obtain ⟨x6, hG⟩ := hA.call rfl
    have x7 := hA.mv rfl
    have x8 := hA.e0 rfl
    have x9 := hA.e1 rfl
    have x10 := hA.e2 rfl
    obtain ⟨g, x11, hg0, hgB⟩ := hA.al rfl
    obtain ⟨g', x12, hg0', hgB'⟩ := hA.bl rfl
    have hgC : W.heap[g]? = some (.cells bv 80 (0, 0)) := hgB
    have hgC' : W.heap[g']? = some (.cells (encT t').toArray 91 (0, 0)) := hgB'
    clear hgB hgB'
    simp only [x5, x6, x7, x8, x9, x10, x11, x12]
    refine pureA 16 8 ?_
    refine done_ (done_of HT_.out (by kernel_rfl)) ?_
    clear HT_ HW_ hHeld
    have hbW := hb0.trans (hA.bel.mono hb0.size)
    have hzz := hb0.size
    clear hA hE h5 x5 x6 x7 x8 x9 x10 x11 x12
    refine calm_normal ?_
    have hS1 := hS.1
    have hS2 := hS.2
    by_cases he : err = 0
    · obtain ⟨hBk, hok, hcan⟩ := ask0 (HERR.out.trans he)
      obtain ⟨hbv, hG2⟩ := hG
      obtain ⟨m, hm, hbe, ht, hM⟩ := hG2 he
      have hn : 0 ≤ n ∧ n ≤ (l5.length : Int) - 1 := by
        have h1 := HOK.out
        rw [hok] at h1
        have h2 := of_decide_eq_true h1.symm
        have := hBk.len
        rw [IntWalk.wrap64_in ((l5.length : Int) - 1) (by constructor <;> omega)] at h2
        exact h2
      have hN8 := hBk.n
      have hl4 := hBk.len
      have hu : Used N l5 l6 (9 + n.toNat) := .inr (.inr (.inl ⟨by omega, by omega⟩))
      have hnear := told_near hBk [] hcan (.inl rfl : Used N l5 l6 0) hu
      have hnear2 := told_near hBk [] hcan hu (.inl rfl : Used N l5 l6 0)
      have hbe2 : bv = #[.int .i64 N, .int .i64 b0, .int .i64 b1, .int .i64 r0, .int .i64 r1, .slice A5 l5.length c5, .slice A6 l6.length c6, .slice A7 l7.length c7, .map (some m)] := by injection hbe
      rw [ht] at hgC' ⊢
      rw [hbe2] at hgC ⊢
      obtain ⟨T, hT⟩ : ∃ T, T = told N b0 b1 r0 r1 l5 l6 l7 [] := ⟨_, rfl⟩
      rw [← hT] at hgC' hnear hnear2 ⊢
      have hnn : ((9 + n.toNat : Nat) : Int) = 9 + n := by omega
      have hbt := fun (W2 : World) => between_any T (9 + n.toNat) 0 (by omega) (by omega) (by omega) W2
      rw [hnn] at hbt
      have HBT := Lib.hid hbt
      have HT := Lib.hid hT
      have hnb : -1000000 ≤ n ∧ n ≤ 1000000 := by omega
      have HNEAR := Lib.hid hnear
      have HNEAR2 := Lib.hid hnear2
      clear hbt hT hnear hnear2 ht hbe hbe2 hbv hG2 hM hu hcan hok
      subst he
      go_wp2_with fail
      refine wp_calm ?_
      refine start_ (n := 7) (S := fun w' => w'.heap[g]? = some (.cells #[.int .i64 N, .int .i64 b0, .int .i64 b1, .int .i64 r0, .int .i64 r1, .slice A5 l5.length c5, .slice A6 l6.length c6, .slice A7 l7.length c7, .map (some m)] 80 (0, 0)) ∧ w'.heap[g']? = some (.cells (encT T).toArray 91 (0, 0))) (ds := []) #[false, false, false, false, false, false, false] (by kernel_rfl) rfl rfl ⟨blk_drew hgC, blk_drew hgC'⟩ (fun hHeld => ?_)
      refine with_tabW person4_tab person4_bits (fun HT_ HW_ => ?_)
      have hb1 : Below w.heap.size w W.drew := hbW.drew
      have hz0 := blk_drew hS2
      generalize W.drew = V1 at hHeld hb1 hz0 ⊢
      refine takeA 0 26 rfl rfl (by rintro w' ⟨s0, s1⟩; exact exec_load_blk s1 rfl rfl Tryd.underlying91 rfl (size91a T)) ?_
      refine takeA 1 27 rfl rfl (by rintro w' ⟨s0, s1⟩; exact exec_load_blk s0 rfl rfl Tryd.underlying80 rfl (by kernel_rfl)) ?_
      refine pureA 2 28 ?_
      have hlate0 : g < V1.heap.size ∧ g' < V1.heap.size := ⟨blk_lt hHeld.1, blk_lt hHeld.2⟩
      refine any_upto (m := 6) (r := 1) (Lend := #[true, true, true, true, true, true, false]) (fun listed a W => ∃ (x : Nat → Value), a = { tmps := #[.agg #[.int .i64 N, .int .i64 b0, .int .i64 b1, .int .i64 r0, .int .i64 r1, .slice A5 l5.length c5, .slice A6 l6.length c6, .slice A7 l7.length c7], .int .i64 n, .pointer (some ⟨w.heap.size, 0, none⟩), undef, .pointer (some ⟨w.heap.size + 1, 0, none⟩), .int .i64 0, .pointer (some ⟨g, 0, none⟩), .pointer (some ⟨g', 0, none⟩), .int .i64 0, x 9, .tuple #[.agg #[.int .i64 N, .int .i64 b0, .int .i64 b1, .int .i64 r0, .int .i64 r1, .slice A5 l5.length c5, .slice A6 l6.length c6, .slice A7 l7.length c7, .map (some m)], .agg (encT T).toArray, .int .i64 0], .agg #[.int .i64 N, .int .i64 b0, .int .i64 b1, .int .i64 r0, .int .i64 r1, .slice A5 l5.length c5, .slice A6 l6.length c6, .slice A7 l7.length c7], .int .i64 n, .pointer (some ⟨w.heap.size, 5, none⟩), .slice A5 l5.length c5, .int .i64 l5.length, .int .i64 (wrap64 ((l5.length : Int) - 1)), .bool ok, .tuple #[.agg #[.int .i64 N, .int .i64 b0, .int .i64 b1, .int .i64 r0, .int .i64 r1, .slice A5 l5.length c5, .slice A6 l6.length c6, .slice A7 l7.length c7, .map (some m)], .agg (encT T).toArray, .int .i64 0], .agg #[.int .i64 N, .int .i64 b0, .int .i64 b1, .int .i64 r0, .int .i64 r1, .slice A5 l5.length c5, .slice A6 l6.length c6, .slice A7 l7.length c7, .map (some m)], .agg (encT T).toArray, .int .i64 0, .int .i64 0, .bool false, undef, undef, .agg (encT T).toArray, .agg #[.int .i64 N, .int .i64 b0, .int .i64 b1, .int .i64 r0, .int .i64 r1, .slice A5 l5.length c5, .slice A6 l6.length c6, .slice A7 l7.length c7, .map (some m)], .int .i64 n, x 29, x 30, undef, undef, undef, undef, undef, undef, undef], defers := [] } ∧ (∀ j, j < 3 → listed.getD j false = true) ∧ Below V1.heap.size V1 W ∧ (listed.getD 3 false = true → x 29 = .int .i64 (9 + n)) ∧ (listed.getD 4 false = true → x 30 = .agg #[.int .i64 (-(T 0 (9 + n.toNat))), .int .i64 (T (9 + n.toNat) 0)]) ∧
        (listed.getD 5 false = true → ∃ q, x 9 = .pointer (some ⟨q, 0, none⟩) ∧ V1.heap.size ≤ q ∧ W.heap[q]? = some (.cells #[.int .i64 0, .int .i64 0] 23 (0, 0)))) (by kernel_rfl) rfl rfl ?step4 ?fin4 4 _ _ _ (closed_of (by kernel_rfl)) (fun j hj => ?late4) ⟨fun k => undef, rfl, fun j hj => ?early4, Below.refl _ _, (fun h => by cases h), (fun h => by cases h), (fun h => by cases h)⟩ (by decide)
      case late4 =>
        by_cases e : j = 6
        · subst e; rfl
        · exact getD_out (by show 7 ≤ j; omega)
      case early4 =>
        have : j = 0 ∨ j = 1 ∨ j = 2 := by omega
        rcases this with rfl | rfl | rfl <;> rfl
      case step4 =>
        rintro listed a W i o hc ⟨x, rfl, hE, hBW, h3, h4, h9⟩ hi ho hun hpre K hK
        have hs : listed.size = 7 := hc.1
        have hE2 : ∀ j, j < 3 → j ≠ i := fun j hj e => by rw [e] at hj; rw [hE i hj] at hun; cases hun
        have hE3 : ∀ (i : Nat), i < listed.size → ∀ j, j < 3 → (listed.setIfInBounds i true).getD j false = true := fun i hi j hj => by rw [getD_set hi]; split <;> first | rfl | exact hE j hj
        have hS := fun (W' : World) (hb : Below V1.heap.size V1 W') => (⟨blk_below hHeld.1 hb, blk_below hHeld.2 hb⟩ : W'.heap[g]? = some (.cells #[.int .i64 N, .int .i64 b0, .int .i64 b1, .int .i64 r0, .int .i64 r1, .slice A5 l5.length c5, .slice A6 l6.length c6, .slice A7 l7.length c7, .map (some m)] 80 (0, 0)) ∧ W'.heap[g']? = some (.cells (encT T).toArray 91 (0, 0)))
        have hcases : i = 3 ∨ i = 4 ∨ i = 5 := by have := hE2 i; omega
        rcases hcases with rfl | rfl | rfl
        · cases ho
          refine call_ 57 #[(bookV N b0 b1 r0 r1 (.slice A5 l5.length c5) (.slice A6 l6.length c6) (.slice A7 l7.length c7) m), .int .i64 n] (by rfl) rfl (by go_simp <;> rfl) ?_
          refine (seen_any N b0 b1 r0 r1 _ _ _ _ n (by omega) W).mono ?_
          rintro e V2 ⟨rfl, hb2⟩
          have hb := below_call hBW hb2
          refine ⟨_, rfl, hK.out _ _ (hS _ hb) ⟨upd x 29 (.int .i64 (9 + n)), rfl, hE3 _ (by omega), hb, fun _ => rfl, ?_, ?_⟩⟩
          · rw [getD_set (by omega), if_neg (by decide)]; exact h4
          · rw [getD_set (by omega), if_neg (by decide)]; exact fun h => by obtain ⟨q, q1, q2, q3⟩ := h9 h; exact ⟨q, q1, q2, blk_below q3 hb2⟩
        · cases ho
          have hx := h3 (hpre 3 (by decide))
          refine call_ 66 #[.agg (encT T).toArray, .int .i64 (9 + n), .int .i64 0] (by rfl) rfl (by go_simp <;> simp [hx]) ?_
          refine (HBT.out W).mono ?_
          rintro e V3 ⟨rfl, hb3⟩
          have hb := below_call hBW hb3
          refine ⟨_, rfl, hK.out _ _ (hS _ hb) ⟨upd x 30 (.agg #[.int .i64 (-(T 0 (9 + n.toNat))), .int .i64 (T (9 + n.toNat) 0)]), rfl, hE3 _ (by omega), hb, ?_, fun _ => rfl, ?_⟩⟩
          · rw [getD_set (by omega), if_neg (by decide)]; exact h3
          · rw [getD_set (by omega), if_neg (by decide)]; exact fun h => by obtain ⟨q, q1, q2, q3⟩ := h9 h; exact ⟨q, q1, q2, blk_below q3 hb3⟩
        · cases ho
          have hb2 : Below W.heap.size W (W.alloc (.cells #[.int .i64 0, .int .i64 0] 23)) := (Below.refl _ _).alloc (Nat.le_refl _) _
          have hb := below_call hBW hb2
          refine value_ (v := .pointer (some ⟨W.heap.size, 0, none⟩)) (w1 := W.alloc (.cells #[.int .i64 0, .int .i64 0] 23)) rfl rfl (by go_simp; try rfl) ?_
          refine hK.out _ _ (hS _ hb) ⟨upd x 9 (.pointer (some ⟨W.heap.size, 0, none⟩)), rfl, hE3 _ (by omega), hb, ?_, ?_, fun _ => ⟨_, rfl, hBW.size, blk_new W _⟩⟩
          · rw [getD_set (by omega), if_neg (by decide)]; exact h3
          · rw [getD_set (by omega), if_neg (by decide)]; exact h4
      case fin4 =>
        rintro d a W ⟨x, rfl, hE, hBW, h3, h4, h9⟩
        have x29 := h3 rfl
        have x30 := h4 rfl
        obtain ⟨q, x9, hq, hq9⟩ := h9 rfl
        simp only [x29, x30, x9]
        have hzW := blk_below hz0 hBW
        have hbb := below_call hb1 hBW
        obtain ⟨V4, hP4, hr4⟩ := store_ex (ty := 23) (vs := #[.int .i64 (-(T 0 (9 + n.toNat))), .int .i64 (T (9 + n.toNat) 0)]) hq9 rfl (by kernel_rfl) (by simp [Value.oneCell'])
        refine oneA 6 none (fun K hK => ?_)
        refine skip_ (w1 := V4) rfl rfl (hr4 _ _ _ _ rfl rfl rfl) ?_
        refine hK.out _ _ ⟨hP4.blk (blk_below hHeld.1 hBW) (by omega), hP4.blk (blk_below hHeld.2 hBW) (by omega)⟩ (fun hHeld4 => ?_)
        clear hK K
        refine done_ (done_of HT_.out (by kernel_rfl)) ?_
        clear HT_ HW_ hHeld hHeld4 h3 h4 h9 x29 x30 x9
        refine calm_normal ?_
        have hlt1 : w.heap.size + 1 < V1.heap.size := blk_lt hz0
        have hz4 := hP4.blk hzW (by omega)
        have hc0 : V4.cell? ⟨q, 0, none⟩ = some (.int .i64 (-(T 0 (9 + n.toNat)))) := (blk_cell hP4.here 0).trans rfl
        have hc1 : V4.cell? ⟨q, 1, none⟩ = some (.int .i64 (T (9 + n.toNat) 0)) := (blk_cell hP4.here 1).trans rfl
        obtain ⟨u, hu⟩ : ∃ u, u = T 0 (9 + n.toNat) := ⟨_, rfl⟩
        obtain ⟨v, hv⟩ : ∃ v, v = T (9 + n.toNat) 0 := ⟨_, rfl⟩
        rw [← hu] at hc0
        rw [← hv] at hc1
        have hn1 := HNEAR.out
        have hn2 := HNEAR2.out
        rw [← hu] at hn1
        rw [← hv] at hn2
        have hw0 : IntKind.i64.wrap (- -u) = u := by rw [Int.neg_neg]; exact IntWalk.i64_in _ (by constructor <;> omega)
        have hw1 : IntKind.i64.wrap (-v) = -v := IntWalk.i64_in _ (by constructor <;> omega)
        have hw2 : IntKind.i64.wrap u = u := IntWalk.i64_in _ (by constructor <;> omega)
        have HU := Lib.hid hu
        have HV := Lib.hid hv
        have HP4 := Lib.hid hP4
        clear hu hv hP4 hq9 hzW hr4
        go_wp2_with (refine wpList_store_blk (b := w.heap.size + 1) rfl rfl rfl rfl hz4 rfl (by kernel_rfl) (by simp [Value.oneCell']) ?_; intro V5 hP5)
        refine bodyPost_ret (results_ct rfl _ _ (w.heap.size + 1) 23 #[.int .i64 (-v), .int .i64 u] (0, 0) _ rfl hP5.here Tryd.underlying23 rfl (by kernel_rfl)) rfl ?_
        rw [← HT.out, ← HU.out, ← HV.out]
        exact ⟨rfl, (hbb.trans (HP4.out.below (by omega))).trans (hP5.below (by omega))⟩
    · clear hG hgC hgC'
      go_wp2_with (refine wpList_store_blk rfl rfl rfl rfl hS2 rfl (by kernel_rfl) (by simp [Value.oneCell']) ?_; intro W9 hP9)
      refine bodyPost_ret (results_ct rfl _ _ (w.heap.size + 1) 23 #[.int .i64 0, .int .i64 0] (0, 0) _ rfl hP9.here Tryd.underlying23 rfl (by kernel_rfl)) rfl ?_
      exact ⟨rfl, hbW.trans (hP9.below (by omega))⟩
end Go.Proofs.YtohbeninpmmmpaaDoor
end

section
/- Between. -/
set_option linter.unusedSimpArgs false
set_option linter.unusedVariables false
namespace Go.Proofs.YtohbeninpmmmpaaDoor
open Go.RowKit Go.Proofs.YtohbeninpmmmpaaDoorW.PrintWords Go.Proofs.YtohbeninpmmmpaaDoorW.PrintLast Go.Proofs.YtohbeninpmmmpaaDoorW.PrintMore TrydX.X
attribute [local go_sem] Oper.semAt_some
def between1T : Bool × List (List Nat × List Nat) := (true, [([], []), ([], []), ([], []), ([2], [2]), ([3], [3]), ([1, 4], [1, 4]), ([5, 5], [5]), ([6], [6]), ([6], [6]), ([8, 6], [6, 8]), ([9, 6], [6, 9]), ([7, 10, 6, 6], [6, 7, 10]), ([6, 11], [6, 11]), ([0, 12, 11], [0, 12]), ([13], [13]), ([14], [14]), ([14], [14]), ([14], [14]), ([], []), ([], []), ([18, 15, 13, 0, 1, 2, 3, 4, 5, 6, 7, 8, 9, 10, 11, 12, 13, 14, 15, 18, 19], [15, 18]), ([19, 16, 20, 0, 1, 2, 3, 4, 5, 6, 7, 8, 9, 10, 11, 12, 13, 14, 15, 16, 18, 19, 20], [16, 19]), ([17, 21, 0, 1, 2, 3, 4, 5, 6, 7, 8, 9, 10, 11, 12, 13, 14, 15, 16, 17, 18, 19, 20, 21], [17])])
def between1B : List Nat := [0, 0, 0, 4, 12, 30, 62, 126, 126, 382, 894, 2046, 4094, 8191, 16383, 32767, 32767, 32767, 0, 0, 851967, 1966079, 4194303]
theorem between1_tab : rtab .any (opsOf Tryd.f21 1) = between1T := by kernel_rfl
theorem between1_bits : waitsOk between1T.2 between1B = true := by kernel_rfl
def between4T : Bool × List (List Nat × List Nat) := (true, [([], []), ([], []), ([], []), ([1, 2], [1, 2]), ([], []), ([], []), ([4, 5, 3], [4, 5]), ([0, 3, 6, 6], [0, 3, 6]), ([7, 7, 0, 1, 2, 3, 4, 5, 6, 7], [7]), ([8, 0, 1, 2, 3, 4, 5, 6, 7, 8], [])])
def between4B : List Nat := [0, 0, 0, 6, 0, 0, 62, 127, 255, 511]
theorem between4_tab : rtab .any (opsOf Tryd.f21 4) = between4T := by kernel_rfl
theorem between4_bits : waitsOk between4T.2 between4B = true := by kernel_rfl
set_option maxRecDepth 100000 in
set_option maxHeartbeats 8000000 in
theorem Between_any (N b0 b1 r0 r1 : Int) (A5 : Option Addr) (c5 : Nat) (l5 : List S23) (A6 : Option Addr) (c6 : Nat) (l6 : List S23) (A7 : Option Addr) (c7 : Nat) (l7 : List S63) (n1 n2 : Int)
    (w : World) (hK : Kinds w) (h5' : Kd.C k23 w A5 l5.length l5) (hc5 : l5.length ≤ c5) (h6' : Kd.C k23 w A6 l6.length l6) (hc6 : l6.length ≤ c6) (h7' : Kd.C k63 w A7 l7.length l7) (hc7 : l7.length ≤ c7)
    (hl : l5.length ≤ 4611686018427387904 ∧ l6.length ≤ 4611686018427387904 ∧ l7.length ≤ 4611686018427387904) (o1 o2 ok : Bool) (ho1 : o1 = decide (0 ≤ n1 ∧ n1 ≤ wrap64 (N - 1))) (ho2 : o2 = decide (0 ≤ n2 ∧ n2 ≤ wrap64 (N - 1))) (hok : ok = (o1 && o2)) (err : Int) (herr : askE N b0 b1 r0 r1 l5 l6 l7 ok = err) :
    Calls Tryd.prog 21 #[.agg #[.int .i64 N, .int .i64 b0, .int .i64 b1, .int .i64 r0, .int .i64 r1, .slice A5 l5.length c5, .slice A6 l6.length c6, .slice A7 l7.length c7], .int .i64 n1, .int .i64 n2] w fun e w' =>
      e = .returned (.tuple #[.agg #[.int .i64 (if err = 0 then -(told N b0 b1 r0 r1 l5 l6 l7 [] (1 + n1.toNat) (1 + n2.toNat)) else 0), .int .i64 (if err = 0 then told N b0 b1 r0 r1 l5 l6 l7 [] (1 + n2.toNat) (1 + n1.toNat) else 0)], .int .i64 err]) ∧ Below w.heap.size w w' := by
  have HERR := Lib.hid herr
  have HK := Lib.hid hK
  have HO1 := Lib.hid ho1
  have HO2 := Lib.hid ho2
  have HOK := Lib.hid hok
  clear herr hK ho1 ho2 hok
  go_enter Tryd.func21, Tryd.ntmps21
  go_wp2_with fail
  refine wp_calm ?_
  have hb0 : Below w.heap.size w ((w.alloc (.cells #[.int .i64 N, .int .i64 b0, .int .i64 b1, .int .i64 r0, .int .i64 r1, .slice A5 l5.length c5, .slice A6 l6.length c6, .slice A7 l7.length c7] 27)).alloc (.cells #[.int .i64 0, .int .i64 0] 23)).drew := by
    refine Below.drew ?_
    repeat with_reducible (first | exact Below.refl _ _ | refine Below.alloc ?_ (by simp <;> omega) _)
  have hr0 : ((w.alloc (.cells #[.int .i64 N, .int .i64 b0, .int .i64 b1, .int .i64 r0, .int .i64 r1, .slice A5 l5.length c5, .slice A6 l6.length c6, .slice A7 l7.length c7] 27)).alloc (.cells #[.int .i64 0, .int .i64 0] 23)).drew.heap[w.heap.size + 1]? = some (.cells #[.int .i64 0, .int .i64 0] 23 (0, 0)) := by
    have h := blk_new (w.alloc (.cells #[.int .i64 N, .int .i64 b0, .int .i64 b1, .int .i64 r0, .int .i64 r1, .slice A5 l5.length c5, .slice A6 l6.length c6, .slice A7 l7.length c7] 27)) (.cells #[.int .i64 0, .int .i64 0] 23)
    rw [World.size_alloc] at h
    exact blk_drew h
  have hV : ((w.alloc (.cells #[.int .i64 N, .int .i64 b0, .int .i64 b1, .int .i64 r0, .int .i64 r1, .slice A5 l5.length c5, .slice A6 l6.length c6, .slice A7 l7.length c7] 27)).alloc (.cells #[.int .i64 0, .int .i64 0] 23)).drew.heap[w.heap.size]? = some (.cells #[.int .i64 N, .int .i64 b0, .int .i64 b1, .int .i64 r0, .int .i64 r1, .slice A5 l5.length c5, .slice A6 l6.length c6, .slice A7 l7.length c7] 27 (0, 0)) ∧ ((w.alloc (.cells #[.int .i64 N, .int .i64 b0, .int .i64 b1, .int .i64 r0, .int .i64 r1, .slice A5 l5.length c5, .slice A6 l6.length c6, .slice A7 l7.length c7] 27)).alloc (.cells #[.int .i64 0, .int .i64 0] 23)).drew.heap[w.heap.size + 1]? = some (.cells #[.int .i64 0, .int .i64 0] 23 (0, 0)) := ⟨blk_drew (blk_alloc (blk_new w _) _), hr0⟩
  have hlt0 : w.heap.size + 1 < ((w.alloc (.cells #[.int .i64 N, .int .i64 b0, .int .i64 b1, .int .i64 r0, .int .i64 r1, .slice A5 l5.length c5, .slice A6 l6.length c6, .slice A7 l7.length c7] 27)).alloc (.cells #[.int .i64 0, .int .i64 0] 23)).drew.heap.size := blk_lt hr0
  cases o1 with
  | true =>
    have hko : ok = o2 := by rw [HOK.out]; rfl
    have HKO := Lib.hid hko
    clear hko
    refine start_ (n := 23) (S := (fun w' => w'.heap[w.heap.size]? = some (.cells #[.int .i64 N, .int .i64 b0, .int .i64 b1, .int .i64 r0, .int .i64 r1, .slice A5 l5.length c5, .slice A6 l6.length c6, .slice A7 l7.length c7] 27 (0, 0)) ∧ w'.heap[w.heap.size + 1]? = some (.cells #[.int .i64 0, .int .i64 0] 23 (0, 0)))) (ds := []) #[false, false, false, false, false, false, false, false, false, false, false, false, false, false, false, false, false, false, false, false, false, false, false] (by kernel_rfl) rfl rfl hV (fun hHeld => ?_)
    refine with_tabW between1_tab between1_bits (fun HT_ HW_ => ?_)
    generalize ((w.alloc (.cells #[.int .i64 N, .int .i64 b0, .int .i64 b1, .int .i64 r0, .int .i64 r1, .slice A5 l5.length c5, .slice A6 l6.length c6, .slice A7 l7.length c7] 27)).alloc (.cells #[.int .i64 0, .int .i64 0] 23)).drew = V0 at hb0 hr0 hHeld hlt0 ⊢
    refine takeA 0 12 rfl rfl (by rintro w' ⟨s0, s1⟩; exact exec_load_blk s0 rfl rfl Tryd.underlying27 rfl (by kernel_rfl)) ?_
    refine pureA 1 13 ?_
    refine pureA 2 14 ?_
    refine takeA 3 15 rfl rfl (by rintro w' ⟨s0, s1⟩; exact exec_load_int ((blk_cell s0 0).trans rfl) rfl rfl) ?_
    refine pureA 4 16 ?_
    refine any_upto (m := 22) (r := 1) (Lend := #[true, true, true, true, true, true, true, true, true, true, true, true, true, true, true, true, true, true, true, true, true, true, false]) (fun listed a W => ∃ (x : Nat → Value) (bv : Array Value) (t' : Tb), a = { tmps := #[.agg #[.int .i64 N, .int .i64 b0, .int .i64 b1, .int .i64 r0, .int .i64 r1, .slice A5 l5.length c5, .slice A6 l6.length c6, .slice A7 l7.length c7], .int .i64 n1, .int .i64 n2, .pointer (some ⟨w.heap.size, 0, none⟩), undef, undef, .pointer (some ⟨w.heap.size + 1, 0, none⟩), .int .i64 0, x 8, x 9, undef, x 11, .agg #[.int .i64 N, .int .i64 b0, .int .i64 b1, .int .i64 r0, .int .i64 r1, .slice A5 l5.length c5, .slice A6 l6.length c6, .slice A7 l7.length c7], .int .i64 n1, .pointer (some ⟨w.heap.size, 0, none⟩), .int .i64 N, .int .i64 (wrap64 (N - 1)), x 17, x 18, x 19, x 20, x 21, x 22, x 23, x 24, x 25, x 26, x 27, x 28, undef, undef, undef, undef, undef, undef, undef, undef, undef, undef, undef, undef], defers := [] } ∧ (∀ j, j < 5 → listed.getD j false = true) ∧ ((fun w' => w'.heap[w.heap.size]? = some (.cells #[.int .i64 N, .int .i64 b0, .int .i64 b1, .int .i64 r0, .int .i64 r1, .slice A5 l5.length c5, .slice A6 l6.length c6, .slice A7 l7.length c7] 27 (0, 0)) ∧ w'.heap[w.heap.size + 1]? = some (.cells #[.int .i64 0, .int .i64 0] 23 (0, 0))) W) ∧ (listed.getD 12 false = true → x 24 = .bool ok) ∧ (listed.getD 5 false = true → x 17 = .bool true) ∧ (listed.getD 6 false = true → x 18 = .bool true) ∧ (listed.getD 7 false = true → x 19 = .int .i64 n2) ∧ (listed.getD 8 false = true → x 20 = .pointer (some ⟨w.heap.size, 0, none⟩)) ∧ (listed.getD 9 false = true → x 21 = .int .i64 N) ∧ (listed.getD 10 false = true → x 22 = .int .i64 (wrap64 (N - 1))) ∧ (listed.getD 11 false = true → x 23 = .bool o2) ∧ AskR N b0 b1 r0 r1 (.slice A5 l5.length c5) (.slice A6 l6.length c6) (.slice A7 l7.length c7) l5 l6 l7 err w.heap.size 13 25 11 26 27 28 8 9 V0 listed x bv t' W) (by kernel_rfl) rfl rfl ?steptrue ?fintrue 18 _ _ _ (closed_of (by kernel_rfl)) (fun j hj => ?latetrue) ⟨fun k => undef, #[], zeroT, rfl, fun j hj => ?earlytrue, hHeld, (fun h => by cases h), (fun h => by cases h), (fun h => by cases h), (fun h => by cases h), (fun h => by cases h), (fun h => by cases h), (fun h => by cases h), (fun h => by cases h), AskR.start (fun k hk => ?nonetrue) _ _ _⟩ (by decide)
    case latetrue =>
      by_cases e : j = 22
      · subst e; rfl
      · exact getD_out (by show 23 ≤ j; omega)
    case earlytrue =>
      have : j = 0 ∨ j = 1 ∨ j = 2 ∨ j = 3 ∨ j = 4 := by omega
      rcases this with rfl | rfl | rfl | rfl | rfl <;> rfl
    case nonetrue =>
      have : k = 0 ∨ k = 1 ∨ k = 2 ∨ k = 3 ∨ k = 4 ∨ k = 5 ∨ k = 6 ∨ k = 7 ∨ k = 8 := by omega
      rcases this with rfl | rfl | rfl | rfl | rfl | rfl | rfl | rfl | rfl <;> rfl
    case steptrue =>
      rintro listed a W i o hc ⟨x, bv, t', rfl, hE, hS, h5, p5, p6, p7, p8, p9, p10, p11, hA⟩ hi ho hun hpre K hK
      have hs : listed.size = 23 := hc.1
      have hE2 : ∀ j, j < 5 → j ≠ i := fun j hj e => by rw [e] at hj; rw [hE i hj] at hun; cases hun
      have hE3 : ∀ (i : Nat), i < listed.size → ∀ j, j < 5 → (listed.setIfInBounds i true).getD j false = true := fun i hi j hj => by rw [getD_set hi]; split <;> first | rfl | exact hE j hj
      have hno : ∀ j, i ∈ preds .any _ j → listed.getD j false = false := fun j hj => by
        cases h : listed.getD j false with
        | false => rfl
        | true => have := hc.2 j h i hj; rw [hun] at this; cases this
      have hno2 : ∀ j p, p ∈ preds .any _ j → listed.getD p false = false → listed.getD j false = false := fun j p hj hp => by
        cases h : listed.getD j false with
        | false => rfl
        | true => have := hc.2 j h p hj; rw [hp] at this; cases this
      have hcases : i = 5 ∨ i = 6 ∨ i = 7 ∨ i = 8 ∨ i = 9 ∨ i = 10 ∨ i = 11 ∨ i = 12 ∨ i = 13 ∨ i = 14 ∨ i = 15 ∨ i = 16 ∨ i = 17 ∨ i = 18 ∨ i = 19 ∨ i = 20 ∨ i = 21 := by have := hE2 i; omega
      rcases hcases with rfl | rfl | rfl | rfl | rfl | rfl | rfl | rfl | rfl | rfl | rfl | rfl | rfl | rfl | rfl | rfl | rfl
      · cases ho
        refine call_ 59 #[.int .i64 n1, .int .i64 0, .int .i64 (wrap64 (N - 1))] (by rfl) rfl (by go_simp <;> simp [*]) ?_
        refine (star_within.calls n1 0 (wrap64 (N - 1)) true W (by rw [within_is, HO1.out])).mono ?_
        rintro e w' ⟨rfl, hdr⟩
        have hb : Below W.heap.size W w' := hdr.below
        exact ⟨_, rfl, hK.out _ _ (⟨blk_below hS.1 hb, blk_below hS.2 hb⟩) ⟨upd x 17 _, bv, t', rfl, hE3 _ (by omega), ⟨blk_below hS.1 hb, blk_below hS.2 hb⟩, fun h => by rw [getD_set (by omega), if_neg (by decide)] at h; exact h5 h, fun _ => rfl, fun h => by rw [getD_set (by omega), if_neg (by decide)] at h; exact p6 h, fun h => by rw [getD_set (by omega), if_neg (by decide)] at h; exact p7 h, fun h => by rw [getD_set (by omega), if_neg (by decide)] at h; exact p8 h, fun h => by rw [getD_set (by omega), if_neg (by decide)] at h; exact p9 h, fun h => by rw [getD_set (by omega), if_neg (by decide)] at h; exact p10 h, fun h => by rw [getD_set (by omega), if_neg (by decide)] at h; exact p11 h, hA.pre _ (by omega) (by omega) (by decide) hb⟩⟩
      · cases ho
        have q5 := p5 (hpre 5 (by decide))
        have hb : Below W.heap.size W W := Below.refl _ _
        refine value_ (v := .bool true) (w1 := W) (by rfl) rfl (by go_simp <;> first | done | exact IntWalk.i64_left _ | rw [IntKind.wrap_i64] | exact HKO.out.symm | exact HKO.out | simp [*]) ?_
        exact hK.out _ _ hS ⟨upd x 18 _, bv, t', rfl, hE3 _ (by omega), ⟨blk_below hS.1 hb, blk_below hS.2 hb⟩, fun h => by rw [getD_set (by omega), if_neg (by decide)] at h; exact h5 h, fun h => by rw [getD_set (by omega), if_neg (by decide)] at h; exact p5 h, fun _ => rfl, fun h => by rw [getD_set (by omega), if_neg (by decide)] at h; exact p7 h, fun h => by rw [getD_set (by omega), if_neg (by decide)] at h; exact p8 h, fun h => by rw [getD_set (by omega), if_neg (by decide)] at h; exact p9 h, fun h => by rw [getD_set (by omega), if_neg (by decide)] at h; exact p10 h, fun h => by rw [getD_set (by omega), if_neg (by decide)] at h; exact p11 h, hA.pre _ (by omega) (by omega) (by decide) hb⟩
      · cases ho
        have q6 := p6 (hpre 6 (by decide))
        have hb : Below W.heap.size W W := Below.refl _ _
        refine value_ (v := .int .i64 n2) (w1 := W) (by simp [Region.wanted, yielded, q6]) rfl (by go_simp <;> first | done | exact IntWalk.i64_left _ | rw [IntKind.wrap_i64] | exact HKO.out.symm | exact HKO.out | simp [*]) ?_
        exact hK.out _ _ hS ⟨upd x 19 _, bv, t', rfl, hE3 _ (by omega), ⟨blk_below hS.1 hb, blk_below hS.2 hb⟩, fun h => by rw [getD_set (by omega), if_neg (by decide)] at h; exact h5 h, fun h => by rw [getD_set (by omega), if_neg (by decide)] at h; exact p5 h, fun h => by rw [getD_set (by omega), if_neg (by decide)] at h; exact p6 h, fun _ => rfl, fun h => by rw [getD_set (by omega), if_neg (by decide)] at h; exact p8 h, fun h => by rw [getD_set (by omega), if_neg (by decide)] at h; exact p9 h, fun h => by rw [getD_set (by omega), if_neg (by decide)] at h; exact p10 h, fun h => by rw [getD_set (by omega), if_neg (by decide)] at h; exact p11 h, hA.pre _ (by omega) (by omega) (by decide) hb⟩
      · cases ho
        have q6 := p6 (hpre 6 (by decide))
        have hb : Below W.heap.size W W := Below.refl _ _
        refine value_ (v := .pointer (some ⟨w.heap.size, 0, none⟩)) (w1 := W) (by simp [Region.wanted, yielded, q6]) rfl (by go_simp <;> first | done | exact IntWalk.i64_left _ | rw [IntKind.wrap_i64] | exact HKO.out.symm | exact HKO.out | simp [*]) ?_
        exact hK.out _ _ hS ⟨upd x 20 _, bv, t', rfl, hE3 _ (by omega), ⟨blk_below hS.1 hb, blk_below hS.2 hb⟩, fun h => by rw [getD_set (by omega), if_neg (by decide)] at h; exact h5 h, fun h => by rw [getD_set (by omega), if_neg (by decide)] at h; exact p5 h, fun h => by rw [getD_set (by omega), if_neg (by decide)] at h; exact p6 h, fun h => by rw [getD_set (by omega), if_neg (by decide)] at h; exact p7 h, fun _ => rfl, fun h => by rw [getD_set (by omega), if_neg (by decide)] at h; exact p9 h, fun h => by rw [getD_set (by omega), if_neg (by decide)] at h; exact p10 h, fun h => by rw [getD_set (by omega), if_neg (by decide)] at h; exact p11 h, hA.pre _ (by omega) (by omega) (by decide) hb⟩
      · cases ho
        have q6 := p6 (hpre 6 (by decide))
        have q8 := p8 (hpre 8 (by decide))
        have hcN : W.cell? ⟨w.heap.size, 0, none⟩ = some (.int .i64 N) := (blk_cell hS.1 0).trans rfl
        have hb : Below W.heap.size W W := Below.refl _ _
        refine value_ (v := .int .i64 N) (w1 := W) (by simp [Region.wanted, yielded, q6]) rfl (by go_simp <;> first | done | exact IntWalk.i64_left _ | rw [IntKind.wrap_i64] | exact HKO.out.symm | exact HKO.out | simp [*]) ?_
        exact hK.out _ _ hS ⟨upd x 21 _, bv, t', rfl, hE3 _ (by omega), ⟨blk_below hS.1 hb, blk_below hS.2 hb⟩, fun h => by rw [getD_set (by omega), if_neg (by decide)] at h; exact h5 h, fun h => by rw [getD_set (by omega), if_neg (by decide)] at h; exact p5 h, fun h => by rw [getD_set (by omega), if_neg (by decide)] at h; exact p6 h, fun h => by rw [getD_set (by omega), if_neg (by decide)] at h; exact p7 h, fun h => by rw [getD_set (by omega), if_neg (by decide)] at h; exact p8 h, fun _ => rfl, fun h => by rw [getD_set (by omega), if_neg (by decide)] at h; exact p10 h, fun h => by rw [getD_set (by omega), if_neg (by decide)] at h; exact p11 h, hA.pre _ (by omega) (by omega) (by decide) hb⟩
      · cases ho
        have q6 := p6 (hpre 6 (by decide))
        have q9 := p9 (hpre 9 (by decide))
        have hb : Below W.heap.size W W := Below.refl _ _
        refine value_ (v := .int .i64 (wrap64 (N - 1))) (w1 := W) (by simp [Region.wanted, yielded, q6]) rfl (by go_simp <;> first | done | exact IntWalk.i64_left _ | rw [IntKind.wrap_i64] | exact HKO.out.symm | exact HKO.out | simp [*]) ?_
        exact hK.out _ _ hS ⟨upd x 22 _, bv, t', rfl, hE3 _ (by omega), ⟨blk_below hS.1 hb, blk_below hS.2 hb⟩, fun h => by rw [getD_set (by omega), if_neg (by decide)] at h; exact h5 h, fun h => by rw [getD_set (by omega), if_neg (by decide)] at h; exact p5 h, fun h => by rw [getD_set (by omega), if_neg (by decide)] at h; exact p6 h, fun h => by rw [getD_set (by omega), if_neg (by decide)] at h; exact p7 h, fun h => by rw [getD_set (by omega), if_neg (by decide)] at h; exact p8 h, fun h => by rw [getD_set (by omega), if_neg (by decide)] at h; exact p9 h, fun _ => rfl, fun h => by rw [getD_set (by omega), if_neg (by decide)] at h; exact p11 h, hA.pre _ (by omega) (by omega) (by decide) hb⟩
      · cases ho
        have q6 := p6 (hpre 6 (by decide))
        have q7 := p7 (hpre 7 (by decide))
        have q10 := p10 (hpre 10 (by decide))
        refine call_ 59 #[.int .i64 n2, .int .i64 0, .int .i64 (wrap64 (N - 1))] (by simp [Region.wanted, yielded, q6]) rfl (by go_simp <;> simp [*]) ?_
        refine (star_within.calls n2 0 (wrap64 (N - 1)) o2 W (by rw [within_is, HO2.out])).mono ?_
        rintro e w' ⟨rfl, hdr⟩
        have hb : Below W.heap.size W w' := hdr.below
        exact ⟨_, rfl, hK.out _ _ (⟨blk_below hS.1 hb, blk_below hS.2 hb⟩) ⟨upd x 23 _, bv, t', rfl, hE3 _ (by omega), ⟨blk_below hS.1 hb, blk_below hS.2 hb⟩, fun h => by rw [getD_set (by omega), if_neg (by decide)] at h; exact h5 h, fun h => by rw [getD_set (by omega), if_neg (by decide)] at h; exact p5 h, fun h => by rw [getD_set (by omega), if_neg (by decide)] at h; exact p6 h, fun h => by rw [getD_set (by omega), if_neg (by decide)] at h; exact p7 h, fun h => by rw [getD_set (by omega), if_neg (by decide)] at h; exact p8 h, fun h => by rw [getD_set (by omega), if_neg (by decide)] at h; exact p9 h, fun h => by rw [getD_set (by omega), if_neg (by decide)] at h; exact p10 h, fun _ => rfl, hA.pre _ (by omega) (by omega) (by decide) hb⟩⟩
      · cases ho
        have q6 := p6 (hpre 6 (by decide))
        have q11 := p11 (hpre 11 (by decide))
        have hb : Below W.heap.size W W := Below.refl _ _
        refine value_ (v := .bool ok) (w1 := W) (by rfl) rfl (by go_simp <;> first | done | exact IntWalk.i64_left _ | rw [IntKind.wrap_i64] | exact HKO.out.symm | exact HKO.out | simp [*]) ?_
        exact hK.out _ _ hS ⟨upd x 24 _, bv, t', rfl, hE3 _ (by omega), ⟨blk_below hS.1 hb, blk_below hS.2 hb⟩, fun _ => rfl, fun h => by rw [getD_set (by omega), if_neg (by decide)] at h; exact p5 h, fun h => by rw [getD_set (by omega), if_neg (by decide)] at h; exact p6 h, fun h => by rw [getD_set (by omega), if_neg (by decide)] at h; exact p7 h, fun h => by rw [getD_set (by omega), if_neg (by decide)] at h; exact p8 h, fun h => by rw [getD_set (by omega), if_neg (by decide)] at h; exact p9 h, fun h => by rw [getD_set (by omega), if_neg (by decide)] at h; exact p10 h, fun h => by rw [getD_set (by omega), if_neg (by decide)] at h; exact p11 h, hA.pre _ (by omega) (by omega) (by decide) hb⟩
      · cases ho
        have hx := h5 (hpre 12 (by decide))
        refine call_ 65 #[.agg #[.int .i64 N, .int .i64 b0, .int .i64 b1, .int .i64 r0, .int .i64 r1, .slice A5 l5.length c5, .slice A6 l6.length c6, .slice A7 l7.length c7], .bool ok] (by rfl) rfl (by go_simp <;> simp [hx]) ?_
        have hbw := hb0.trans (hA.bel.mono hb0.size)
        refine (asked_any N b0 b1 r0 r1 A5 c5 l5 A6 c6 l6 A7 c7 l7 ok W (HK.out.below hbw) (Kd.C_below h5' hbw) hc5 (Kd.C_below h6' hbw) hc6 (Kd.C_below h7' hbw) hc7 hl).mono ?_
        rintro e w' ⟨bw, s', rfl, hb, hbv, hok⟩
        rw [HERR.out] at hok ⊢
        have hG : Gd N b0 b1 r0 r1 (.slice A5 l5.length c5) (.slice A6 l6.length c6) (.slice A7 l7.length c7) l5 l6 l7 err w.heap.size bw s' w' := ⟨hbv, fun e => by obtain ⟨m, h1, h2⟩ := hok e; exact ⟨m, Nat.le_trans hbw.size h1, h2⟩⟩
        exact ⟨_, rfl, hK.out _ _ (⟨blk_below hS.1 hb, blk_below hS.2 hb⟩) ⟨upd x 25 _, bw, s', rfl, hE3 _ (by omega), ⟨blk_below hS.1 hb, blk_below hS.2 hb⟩, fun h => by rw [getD_set (by omega), if_neg (by decide)] at h; exact h5 h, fun h => by rw [getD_set (by omega), if_neg (by decide)] at h; exact p5 h, fun h => by rw [getD_set (by omega), if_neg (by decide)] at h; exact p6 h, fun h => by rw [getD_set (by omega), if_neg (by decide)] at h; exact p7 h, fun h => by rw [getD_set (by omega), if_neg (by decide)] at h; exact p8 h, fun h => by rw [getD_set (by omega), if_neg (by decide)] at h; exact p9 h, fun h => by rw [getD_set (by omega), if_neg (by decide)] at h; exact p10 h, fun h => by rw [getD_set (by omega), if_neg (by decide)] at h; exact p11 h, hA.called (by decide) (by omega) (fun k hk => by rcases (show k = 1 ∨ k = 2 ∨ k = 3 ∨ k = 4 ∨ k = 7 ∨ k = 8 by omega) with rfl | rfl | rfl | rfl | rfl | rfl <;> first | exact hno _ (by decide) | exact hno2 _ _ (by decide) (hno _ (by decide : 13 ∈ preds .any _ 14))) bw s' hb hG⟩⟩
      · cases ho
        have hx := (hA.call (hpre 13 (by decide))).1
        refine value_ (v := .tuple #[.agg bv, .agg (encT t').toArray, .int .i64 err]) (w1 := W) rfl rfl (by go_simp <;> simp [hx]) ?_
        exact hK.out _ _ hS ⟨upd x 11 _, bv, t', rfl, hE3 _ (by omega), hS, fun h => by rw [getD_set (by omega), if_neg (by decide)] at h; exact h5 h, fun h => by rw [getD_set (by omega), if_neg (by decide)] at h; exact p5 h, fun h => by rw [getD_set (by omega), if_neg (by decide)] at h; exact p6 h, fun h => by rw [getD_set (by omega), if_neg (by decide)] at h; exact p7 h, fun h => by rw [getD_set (by omega), if_neg (by decide)] at h; exact p8 h, fun h => by rw [getD_set (by omega), if_neg (by decide)] at h; exact p9 h, fun h => by rw [getD_set (by omega), if_neg (by decide)] at h; exact p10 h, fun h => by rw [getD_set (by omega), if_neg (by decide)] at h; exact p11 h, hA.moved (by decide) (by omega)⟩
      · cases ho
        have hx := hA.mv (hpre 14 (by decide))
        refine value_ (v := .agg bv) (w1 := W) rfl rfl (by go_simp <;> simp [hx]) ?_
        exact hK.out _ _ hS ⟨upd x 26 _, bv, t', rfl, hE3 _ (by omega), hS, fun h => by rw [getD_set (by omega), if_neg (by decide)] at h; exact h5 h, fun h => by rw [getD_set (by omega), if_neg (by decide)] at h; exact p5 h, fun h => by rw [getD_set (by omega), if_neg (by decide)] at h; exact p6 h, fun h => by rw [getD_set (by omega), if_neg (by decide)] at h; exact p7 h, fun h => by rw [getD_set (by omega), if_neg (by decide)] at h; exact p8 h, fun h => by rw [getD_set (by omega), if_neg (by decide)] at h; exact p9 h, fun h => by rw [getD_set (by omega), if_neg (by decide)] at h; exact p10 h, fun h => by rw [getD_set (by omega), if_neg (by decide)] at h; exact p11 h, hA.ext0 (by decide) (by omega)⟩
      · cases ho
        have hx := hA.mv (hpre 14 (by decide))
        refine value_ (v := .agg (encT t').toArray) (w1 := W) rfl rfl (by go_simp <;> simp [hx]) ?_
        exact hK.out _ _ hS ⟨upd x 27 _, bv, t', rfl, hE3 _ (by omega), hS, fun h => by rw [getD_set (by omega), if_neg (by decide)] at h; exact h5 h, fun h => by rw [getD_set (by omega), if_neg (by decide)] at h; exact p5 h, fun h => by rw [getD_set (by omega), if_neg (by decide)] at h; exact p6 h, fun h => by rw [getD_set (by omega), if_neg (by decide)] at h; exact p7 h, fun h => by rw [getD_set (by omega), if_neg (by decide)] at h; exact p8 h, fun h => by rw [getD_set (by omega), if_neg (by decide)] at h; exact p9 h, fun h => by rw [getD_set (by omega), if_neg (by decide)] at h; exact p10 h, fun h => by rw [getD_set (by omega), if_neg (by decide)] at h; exact p11 h, hA.ext1 (by decide) (by omega)⟩
      · cases ho
        have hx := hA.mv (hpre 14 (by decide))
        refine value_ (v := .int .i64 err) (w1 := W) rfl rfl (by go_simp <;> simp [hx]) ?_
        exact hK.out _ _ hS ⟨upd x 28 _, bv, t', rfl, hE3 _ (by omega), hS, fun h => by rw [getD_set (by omega), if_neg (by decide)] at h; exact h5 h, fun h => by rw [getD_set (by omega), if_neg (by decide)] at h; exact p5 h, fun h => by rw [getD_set (by omega), if_neg (by decide)] at h; exact p6 h, fun h => by rw [getD_set (by omega), if_neg (by decide)] at h; exact p7 h, fun h => by rw [getD_set (by omega), if_neg (by decide)] at h; exact p8 h, fun h => by rw [getD_set (by omega), if_neg (by decide)] at h; exact p9 h, fun h => by rw [getD_set (by omega), if_neg (by decide)] at h; exact p10 h, fun h => by rw [getD_set (by omega), if_neg (by decide)] at h; exact p11 h, hA.ext2 (by decide) (by omega)⟩
      · cases ho
        have hb : Below W.heap.size W (W.alloc (.cells zero9 80)) := (Below.refl _ _).alloc (Nat.le_refl _) _
        refine value_ (v := .pointer (some ⟨W.heap.size, 0, none⟩)) (w1 := W.alloc (.cells zero9 80)) rfl rfl (by go_simp; try rfl) ?_
        exact hK.out _ _ (⟨blk_below hS.1 hb, blk_below hS.2 hb⟩) ⟨upd x 8 _, bv, t', rfl, hE3 _ (by omega), ⟨blk_below hS.1 hb, blk_below hS.2 hb⟩, fun h => by rw [getD_set (by omega), if_neg (by decide)] at h; exact h5 h, fun h => by rw [getD_set (by omega), if_neg (by decide)] at h; exact p5 h, fun h => by rw [getD_set (by omega), if_neg (by decide)] at h; exact p6 h, fun h => by rw [getD_set (by omega), if_neg (by decide)] at h; exact p7 h, fun h => by rw [getD_set (by omega), if_neg (by decide)] at h; exact p8 h, fun h => by rw [getD_set (by omega), if_neg (by decide)] at h; exact p9 h, fun h => by rw [getD_set (by omega), if_neg (by decide)] at h; exact p10 h, fun h => by rw [getD_set (by omega), if_neg (by decide)] at h; exact p11 h, hA.alA (by decide) (by omega) (hno _ (by decide))⟩
      · cases ho
        have hb : Below W.heap.size W (W.alloc (.cells Tryd.zeroCells91 91)) := (Below.refl _ _).alloc (Nat.le_refl _) _
        refine value_ (v := .pointer (some ⟨W.heap.size, 0, none⟩)) (w1 := W.alloc (.cells Tryd.zeroCells91 91)) rfl rfl (by go_simp; try rfl) ?_
        exact hK.out _ _ (⟨blk_below hS.1 hb, blk_below hS.2 hb⟩) ⟨upd x 9 _, bv, t', rfl, hE3 _ (by omega), ⟨blk_below hS.1 hb, blk_below hS.2 hb⟩, fun h => by rw [getD_set (by omega), if_neg (by decide)] at h; exact h5 h, fun h => by rw [getD_set (by omega), if_neg (by decide)] at h; exact p5 h, fun h => by rw [getD_set (by omega), if_neg (by decide)] at h; exact p6 h, fun h => by rw [getD_set (by omega), if_neg (by decide)] at h; exact p7 h, fun h => by rw [getD_set (by omega), if_neg (by decide)] at h; exact p8 h, fun h => by rw [getD_set (by omega), if_neg (by decide)] at h; exact p9 h, fun h => by rw [getD_set (by omega), if_neg (by decide)] at h; exact p10 h, fun h => by rw [getD_set (by omega), if_neg (by decide)] at h; exact p11 h, hA.alB (by decide) (by omega) (hno _ (by decide))⟩
      · cases ho
        obtain ⟨g, hg, hg0, hB⟩ := hA.al (hpre 18 (by decide))
        have hx := hA.e0 (hpre 15 (by decide))
        have hG := (hA.call (hpre 13 (by decide))).2
        obtain ⟨w', hP, hr⟩ := store_ex (ty := 80) (vs := bv) hB (by rw [hun]; exact hG.1.1) (by rw [hG.1.1]; kernel_rfl) hG.1.2
        refine skip_ (w1 := w') rfl rfl (hr _ _ _ _ rfl hg hx) ?_
        exact hK.out _ _ (⟨hP.blk hS.1 (by omega), hP.blk hS.2 (by omega)⟩) ⟨x, bv, t', rfl, hE3 _ (by omega), ⟨hP.blk hS.1 (by omega), hP.blk hS.2 (by omega)⟩, fun h => by rw [getD_set (by omega), if_neg (by decide)] at h; exact h5 h, fun h => by rw [getD_set (by omega), if_neg (by decide)] at h; exact p5 h, fun h => by rw [getD_set (by omega), if_neg (by decide)] at h; exact p6 h, fun h => by rw [getD_set (by omega), if_neg (by decide)] at h; exact p7 h, fun h => by rw [getD_set (by omega), if_neg (by decide)] at h; exact p8 h, fun h => by rw [getD_set (by omega), if_neg (by decide)] at h; exact p9 h, fun h => by rw [getD_set (by omega), if_neg (by decide)] at h; exact p10 h, fun h => by rw [getD_set (by omega), if_neg (by decide)] at h; exact p11 h, hA.stA (by omega) hg hB hg0 hP⟩
      · cases ho
        obtain ⟨g, hg, hg0, hB⟩ := hA.bl (hpre 19 (by decide))
        have hx := hA.e1 (hpre 16 (by decide))
        obtain ⟨w', hP, hr⟩ := store_ex (ty := 91) (vs := (encT t').toArray) hB (by rw [hun, zeroCells_is]; simp [encT_length]) (size91a t') (all_oneCell_toArray (encT_one t'))
        refine skip_ (w1 := w') rfl rfl (hr _ _ _ _ rfl hg hx) ?_
        exact hK.out _ _ (⟨hP.blk hS.1 (by omega), hP.blk hS.2 (by omega)⟩) ⟨x, bv, t', rfl, hE3 _ (by omega), ⟨hP.blk hS.1 (by omega), hP.blk hS.2 (by omega)⟩, fun h => by rw [getD_set (by omega), if_neg (by decide)] at h; exact h5 h, fun h => by rw [getD_set (by omega), if_neg (by decide)] at h; exact p5 h, fun h => by rw [getD_set (by omega), if_neg (by decide)] at h; exact p6 h, fun h => by rw [getD_set (by omega), if_neg (by decide)] at h; exact p7 h, fun h => by rw [getD_set (by omega), if_neg (by decide)] at h; exact p8 h, fun h => by rw [getD_set (by omega), if_neg (by decide)] at h; exact p9 h, fun h => by rw [getD_set (by omega), if_neg (by decide)] at h; exact p10 h, fun h => by rw [getD_set (by omega), if_neg (by decide)] at h; exact p11 h, hA.stB (by omega) hg hB hg0 hP⟩
    case fintrue =>
      rintro d a W ⟨x, bv, t', rfl, hE, hS, h5, p5, p6, p7, p8, p9, p10, p11, hA⟩
      have x5 := h5 rfl
      have y5 := p5 rfl
      have y6 := p6 rfl
      have y7 := p7 rfl
      have y8 := p8 rfl
      have y9 := p9 rfl
      have y10 := p10 rfl
      have y11 := p11 rfl
      obtain ⟨x6, hG⟩ := hA.call rfl
      have x7 := hA.mv rfl
      have x8 := hA.e0 rfl
      have x9 := hA.e1 rfl
      have x10 := hA.e2 rfl
      obtain ⟨g, x11, hg0, hgB⟩ := hA.al rfl
      obtain ⟨g', x12, hg0', hgB'⟩ := hA.bl rfl
      have hgC : W.heap[g]? = some (.cells bv 80 (0, 0)) := hgB
      have hgC' : W.heap[g']? = some (.cells (encT t').toArray 91 (0, 0)) := hgB'
      clear hgB hgB'
      simp only [x5, y5, y6, y7, y8, y9, y10, y11, x6, x7, x8, x9, x10, x11, x12]
      refine pureA 22 10 ?_
      refine done_ (done_of HT_.out (by kernel_rfl)) ?_
      clear HT_ HW_ hHeld
      have hbW := hb0.trans (hA.bel.mono hb0.size)
      have hzz := hb0.size
      clear hA hE h5 x5 x6 x7 x8 x9 x10 x11 x12 y5 p5 y6 p6 y7 p7 y8 p8 y9 p9 y10 p10 y11 p11
      refine calm_normal ?_
      have hS1 := hS.1
      have hS2 := hS.2
      by_cases he : err = 0
      · obtain ⟨hBk, hok, hcan⟩ := ask0 (HERR.out.trans he)
        obtain ⟨hbv, hG2⟩ := hG
        obtain ⟨m, hm, hbe, ht, hM⟩ := hG2 he
        have hwN : wrap64 (N - 1) = N - 1 := IntWalk.wrap64_in (N - 1) (by have := hBk.n; constructor <;> omega)
        have hn1 : 0 ≤ n1 ∧ n1 ≤ N - 1 := by
          have h2 := of_decide_eq_true HO1.out.symm
          rw [hwN] at h2
          exact h2
        have hn2 : 0 ≤ n2 ∧ n2 ≤ N - 1 := by
          have h1 := HO2.out
          rw [← HKO.out, hok] at h1
          have h2 := of_decide_eq_true h1.symm
          rw [hwN] at h2
          exact h2
        have hN8 := hBk.n
        have hu1 : Used N l5 l6 (1 + n1.toNat) := .inr (.inl ⟨by omega, by omega⟩)
        have hu2 : Used N l5 l6 (1 + n2.toNat) := .inr (.inl ⟨by omega, by omega⟩)
        have hnear := told_near hBk [] hcan hu1 hu2
        have hbe2 : bv = #[.int .i64 N, .int .i64 b0, .int .i64 b1, .int .i64 r0, .int .i64 r1, .slice A5 l5.length c5, .slice A6 l6.length c6, .slice A7 l7.length c7, .map (some m)] := by injection hbe
        rw [ht] at hgC' ⊢
        rw [hbe2] at hgC ⊢
        obtain ⟨T, hT⟩ : ∃ T, T = told N b0 b1 r0 r1 l5 l6 l7 [] := ⟨_, rfl⟩
        rw [← hT] at hgC' hnear ⊢
        have hnn1 : ((1 + n1.toNat : Nat) : Int) = 1 + n1 := by omega
        have hnn2 : ((1 + n2.toNat : Nat) : Int) = 1 + n2 := by omega
        have hbt := fun (W2 : World) => between_any T (1 + n2.toNat) (1 + n1.toNat) (by omega) (by omega) (by omega) W2
        rw [hnn1, hnn2] at hbt
        have HBT := Lib.hid hbt
        have HT := Lib.hid hT
        have hnb1 : -1000000 ≤ n1 ∧ n1 ≤ 1000000 := by omega
        have hnb2 : -1000000 ≤ n2 ∧ n2 ≤ 1000000 := by omega
        clear hnn1 hnn2 hwN
        have HNEAR := Lib.hid hnear
        clear hbt hT hnear ht hbe hbe2 hbv hG2 hM hu1 hu2 hcan hok
        subst he
        go_wp2_with fail
        refine wp_calm ?_
        refine start_ (n := 10) (S := fun w' => w'.heap[g]? = some (.cells #[.int .i64 N, .int .i64 b0, .int .i64 b1, .int .i64 r0, .int .i64 r1, .slice A5 l5.length c5, .slice A6 l6.length c6, .slice A7 l7.length c7, .map (some m)] 80 (0, 0)) ∧ w'.heap[g']? = some (.cells (encT T).toArray 91 (0, 0))) (ds := []) #[false, false, false, false, false, false, false, false, false, false] (by kernel_rfl) rfl rfl ⟨blk_drew hgC, blk_drew hgC'⟩ (fun hHeld => ?_)
        refine with_tabW between4_tab between4_bits (fun HT_ HW_ => ?_)
        have hb1 : Below w.heap.size w W.drew := hbW.drew
        have hz0 := blk_drew hS2
        generalize W.drew = V1 at hHeld hb1 hz0 ⊢
        refine takeA 0 33 rfl rfl (by rintro w' ⟨s0, s1⟩; exact exec_load_blk s1 rfl rfl Tryd.underlying91 rfl (size91a T)) ?_
        refine takeA 1 34 rfl rfl (by rintro w' ⟨s0, s1⟩; exact exec_load_blk s0 rfl rfl Tryd.underlying80 rfl (by kernel_rfl)) ?_
        refine pureA 2 35 ?_
        refine takeA 4 37 rfl rfl (by rintro w' ⟨s0, s1⟩; exact exec_load_blk s0 rfl rfl Tryd.underlying80 rfl (by kernel_rfl)) ?_
        refine pureA 5 38 ?_
        refine oneA 3 (some 36) (fun K hK => ?_)
        refine call_ 56 #[(bookV N b0 b1 r0 r1 (.slice A5 l5.length c5) (.slice A6 l6.length c6) (.slice A7 l7.length c7) m), .int .i64 n2] (by rfl) rfl ?_ ?_
        · go_simp
          try rfl
        refine (night_any N b0 b1 r0 r1 _ _ _ _ n2 (by omega) V1).mono ?_
        rintro e V2 ⟨rfl, hb2⟩
        refine ⟨_, rfl, ?_⟩
        refine hK.out _ _ ⟨blk_below hHeld.1 hb2, blk_below hHeld.2 hb2⟩ (fun hHeld2 => ?_)
        clear hK K
        refine normA 36 ?_
        refine oneA 6 (some 39) (fun K hK => ?_)
        refine call_ 56 #[(bookV N b0 b1 r0 r1 (.slice A5 l5.length c5) (.slice A6 l6.length c6) (.slice A7 l7.length c7) m), .int .i64 n1] (by rfl) rfl ?_ ?_
        · go_simp
          try rfl
        refine (night_any N b0 b1 r0 r1 _ _ _ _ n1 (by omega) V2).mono ?_
        rintro e V3 ⟨rfl, hb3⟩
        refine ⟨_, rfl, ?_⟩
        refine hK.out _ _ ⟨blk_below hHeld2.1 hb3, blk_below hHeld2.2 hb3⟩ (fun hHeld3 => ?_)
        clear hK K
        refine normA 39 ?_
        refine oneA 7 (some 40) (fun K hK => ?_)
        refine call_ 66 #[.agg (encT T).toArray, .int .i64 (1 + n2), .int .i64 (1 + n1)] (by rfl) rfl ?_ ?_
        · go_simp
          try rfl
        refine (HBT.out V3).mono ?_
        rintro e V5 ⟨rfl, hb5⟩
        refine ⟨_, rfl, ?_⟩
        refine hK.out _ _ ⟨blk_below hHeld3.1 hb5, blk_below hHeld3.2 hb5⟩ (fun hHeld5 => ?_)
        clear hK K
        refine normA 40 ?_
        have hz3 := blk_below (blk_below (blk_below hz0 hb2) hb3) hb5
        obtain ⟨V4, hP4, hr4⟩ := store_ex (ty := 23) (vs := #[.int .i64 (-(T (1 + n1.toNat) (1 + n2.toNat))), .int .i64 (T (1 + n2.toNat) (1 + n1.toNat))]) hz3 rfl (by kernel_rfl) (by simp [Value.oneCell'])
        have hgne : g ≠ w.heap.size + 1 ∧ g' ≠ w.heap.size + 1 := by omega
        refine oneA 8 none (fun K hK => ?_)
        refine skip_ (w1 := V4) rfl rfl (hr4 _ _ _ _ rfl rfl rfl) ?_
        refine hK.out _ _ ⟨hP4.blk hHeld5.1 hgne.1, hP4.blk hHeld5.2 hgne.2⟩ (fun hHeld4 => ?_)
        clear hK K
        refine pureA 9 7 ?_
        refine done_ (done_of HT_.out (by kernel_rfl)) ?_
        clear HT_ HW_ hHeld hHeld2 hHeld3 hHeld4 hHeld5
        refine calm_normal ?_
        have h4 := hP4.here
        go_wp2_with fail
        refine bodyPost_ret (results_ct rfl _ _ (w.heap.size + 1) 23 #[.int .i64 (-(T (1 + n1.toNat) (1 + n2.toNat))), .int .i64 (T (1 + n2.toNat) (1 + n1.toNat))] (0, 0) _ rfl h4 Tryd.underlying23 rfl (by kernel_rfl)) rfl ?_
        rw [← HT.out]
        have hbb := below_call (below_call hb1 hb2) hb3
        exact ⟨rfl, (hbb.trans (hb5.mono hbb.size)).trans (hP4.below (by omega))⟩
      · clear hG hgC hgC'
        go_wp2_with (refine wpList_store_blk rfl rfl rfl rfl hS2 rfl (by kernel_rfl) (by simp [Value.oneCell']) ?_; intro W9 hP9)
        refine bodyPost_ret (results_ct rfl _ _ (w.heap.size + 1) 23 #[.int .i64 0, .int .i64 0] (0, 0) _ rfl hP9.here Tryd.underlying23 rfl (by kernel_rfl)) rfl ?_
        exact ⟨rfl, hbW.trans (hP9.below (by omega))⟩
  | false =>
    have hko : ok = false := HOK.out
    have hern : ¬ err = 0 := fun e => by have := (ask0 (HERR.out.trans e)).2.1; rw [hko] at this; cases this
    have HKO := Lib.hid hko
    have HERN := Lib.hid hern
    clear hko hern
    refine start_ (n := 23) (S := (fun w' => w'.heap[w.heap.size]? = some (.cells #[.int .i64 N, .int .i64 b0, .int .i64 b1, .int .i64 r0, .int .i64 r1, .slice A5 l5.length c5, .slice A6 l6.length c6, .slice A7 l7.length c7] 27 (0, 0)) ∧ w'.heap[w.heap.size + 1]? = some (.cells #[.int .i64 0, .int .i64 0] 23 (0, 0)))) (ds := []) #[false, false, false, false, false, false, false, false, false, false, false, false, false, false, false, false, false, false, false, false, false, false, false] (by kernel_rfl) rfl rfl hV (fun hHeld => ?_)
    refine with_tabW between1_tab between1_bits (fun HT_ HW_ => ?_)
    generalize ((w.alloc (.cells #[.int .i64 N, .int .i64 b0, .int .i64 b1, .int .i64 r0, .int .i64 r1, .slice A5 l5.length c5, .slice A6 l6.length c6, .slice A7 l7.length c7] 27)).alloc (.cells #[.int .i64 0, .int .i64 0] 23)).drew = V0 at hb0 hr0 hHeld hlt0 ⊢
    refine takeA 0 12 rfl rfl (by rintro w' ⟨s0, s1⟩; exact exec_load_blk s0 rfl rfl Tryd.underlying27 rfl (by kernel_rfl)) ?_
    refine pureA 1 13 ?_
    refine pureA 2 14 ?_
    refine takeA 3 15 rfl rfl (by rintro w' ⟨s0, s1⟩; exact exec_load_int ((blk_cell s0 0).trans rfl) rfl rfl) ?_
    refine pureA 4 16 ?_
    refine any_upto (m := 22) (r := 1) (Lend := #[true, true, true, true, true, true, true, true, true, true, true, true, true, true, true, true, true, true, true, true, true, true, false]) (fun listed a W => ∃ (x : Nat → Value) (bv : Array Value) (t' : Tb), a = { tmps := #[.agg #[.int .i64 N, .int .i64 b0, .int .i64 b1, .int .i64 r0, .int .i64 r1, .slice A5 l5.length c5, .slice A6 l6.length c6, .slice A7 l7.length c7], .int .i64 n1, .int .i64 n2, .pointer (some ⟨w.heap.size, 0, none⟩), undef, undef, .pointer (some ⟨w.heap.size + 1, 0, none⟩), .int .i64 0, x 8, x 9, undef, x 11, .agg #[.int .i64 N, .int .i64 b0, .int .i64 b1, .int .i64 r0, .int .i64 r1, .slice A5 l5.length c5, .slice A6 l6.length c6, .slice A7 l7.length c7], .int .i64 n1, .pointer (some ⟨w.heap.size, 0, none⟩), .int .i64 N, .int .i64 (wrap64 (N - 1)), x 17, x 18, x 19, x 20, x 21, x 22, x 23, x 24, x 25, x 26, x 27, x 28, undef, undef, undef, undef, undef, undef, undef, undef, undef, undef, undef, undef], defers := [] } ∧ (∀ j, j < 5 → listed.getD j false = true) ∧ ((fun w' => w'.heap[w.heap.size]? = some (.cells #[.int .i64 N, .int .i64 b0, .int .i64 b1, .int .i64 r0, .int .i64 r1, .slice A5 l5.length c5, .slice A6 l6.length c6, .slice A7 l7.length c7] 27 (0, 0)) ∧ w'.heap[w.heap.size + 1]? = some (.cells #[.int .i64 0, .int .i64 0] 23 (0, 0))) W) ∧ (listed.getD 12 false = true → x 24 = .bool ok) ∧ (listed.getD 5 false = true → x 17 = .bool false) ∧ (listed.getD 6 false = true → x 18 = .bool false) ∧ (listed.getD 7 false = true → x 19 = undef) ∧ (listed.getD 8 false = true → x 20 = undef) ∧ (listed.getD 9 false = true → x 21 = undef) ∧ (listed.getD 10 false = true → x 22 = undef) ∧ (listed.getD 11 false = true → x 23 = undef) ∧ AskR N b0 b1 r0 r1 (.slice A5 l5.length c5) (.slice A6 l6.length c6) (.slice A7 l7.length c7) l5 l6 l7 err w.heap.size 13 25 11 26 27 28 8 9 V0 listed x bv t' W) (by kernel_rfl) rfl rfl ?stepfalse ?finfalse 18 _ _ _ (closed_of (by kernel_rfl)) (fun j hj => ?latefalse) ⟨fun k => undef, #[], zeroT, rfl, fun j hj => ?earlyfalse, hHeld, (fun h => by cases h), (fun h => by cases h), (fun h => by cases h), (fun h => by cases h), (fun h => by cases h), (fun h => by cases h), (fun h => by cases h), (fun h => by cases h), AskR.start (fun k hk => ?nonefalse) _ _ _⟩ (by decide)
    case latefalse =>
      by_cases e : j = 22
      · subst e; rfl
      · exact getD_out (by show 23 ≤ j; omega)
    case earlyfalse =>
      have : j = 0 ∨ j = 1 ∨ j = 2 ∨ j = 3 ∨ j = 4 := by omega
      rcases this with rfl | rfl | rfl | rfl | rfl <;> rfl
    case nonefalse =>
      have : k = 0 ∨ k = 1 ∨ k = 2 ∨ k = 3 ∨ k = 4 ∨ k = 5 ∨ k = 6 ∨ k = 7 ∨ k = 8 := by omega
      rcases this with rfl | rfl | rfl | rfl | rfl | rfl | rfl | rfl | rfl <;> rfl
    case stepfalse =>
      rintro listed a W i o hc ⟨x, bv, t', rfl, hE, hS, h5, p5, p6, p7, p8, p9, p10, p11, hA⟩ hi ho hun hpre K hK
      have hs : listed.size = 23 := hc.1
      have hE2 : ∀ j, j < 5 → j ≠ i := fun j hj e => by rw [e] at hj; rw [hE i hj] at hun; cases hun
      have hE3 : ∀ (i : Nat), i < listed.size → ∀ j, j < 5 → (listed.setIfInBounds i true).getD j false = true := fun i hi j hj => by rw [getD_set hi]; split <;> first | rfl | exact hE j hj
      have hno : ∀ j, i ∈ preds .any _ j → listed.getD j false = false := fun j hj => by
        cases h : listed.getD j false with
        | false => rfl
        | true => have := hc.2 j h i hj; rw [hun] at this; cases this
      have hno2 : ∀ j p, p ∈ preds .any _ j → listed.getD p false = false → listed.getD j false = false := fun j p hj hp => by
        cases h : listed.getD j false with
        | false => rfl
        | true => have := hc.2 j h p hj; rw [hp] at this; cases this
      have hcases : i = 5 ∨ i = 6 ∨ i = 7 ∨ i = 8 ∨ i = 9 ∨ i = 10 ∨ i = 11 ∨ i = 12 ∨ i = 13 ∨ i = 14 ∨ i = 15 ∨ i = 16 ∨ i = 17 ∨ i = 18 ∨ i = 19 ∨ i = 20 ∨ i = 21 := by have := hE2 i; omega
      rcases hcases with rfl | rfl | rfl | rfl | rfl | rfl | rfl | rfl | rfl | rfl | rfl | rfl | rfl | rfl | rfl | rfl | rfl
      · cases ho
        refine call_ 59 #[.int .i64 n1, .int .i64 0, .int .i64 (wrap64 (N - 1))] (by rfl) rfl (by go_simp <;> simp [*]) ?_
        refine (star_within.calls n1 0 (wrap64 (N - 1)) false W (by rw [within_is, HO1.out])).mono ?_
        rintro e w' ⟨rfl, hdr⟩
        have hb : Below W.heap.size W w' := hdr.below
        exact ⟨_, rfl, hK.out _ _ (⟨blk_below hS.1 hb, blk_below hS.2 hb⟩) ⟨upd x 17 _, bv, t', rfl, hE3 _ (by omega), ⟨blk_below hS.1 hb, blk_below hS.2 hb⟩, fun h => by rw [getD_set (by omega), if_neg (by decide)] at h; exact h5 h, fun _ => rfl, fun h => by rw [getD_set (by omega), if_neg (by decide)] at h; exact p6 h, fun h => by rw [getD_set (by omega), if_neg (by decide)] at h; exact p7 h, fun h => by rw [getD_set (by omega), if_neg (by decide)] at h; exact p8 h, fun h => by rw [getD_set (by omega), if_neg (by decide)] at h; exact p9 h, fun h => by rw [getD_set (by omega), if_neg (by decide)] at h; exact p10 h, fun h => by rw [getD_set (by omega), if_neg (by decide)] at h; exact p11 h, hA.pre _ (by omega) (by omega) (by decide) hb⟩⟩
      · cases ho
        have q5 := p5 (hpre 5 (by decide))
        have hb : Below W.heap.size W W := Below.refl _ _
        refine value_ (v := .bool false) (w1 := W) (by rfl) rfl (by go_simp <;> first | done | exact IntWalk.i64_left _ | rw [IntKind.wrap_i64] | exact HKO.out.symm | exact HKO.out | simp [*]) ?_
        exact hK.out _ _ hS ⟨upd x 18 _, bv, t', rfl, hE3 _ (by omega), ⟨blk_below hS.1 hb, blk_below hS.2 hb⟩, fun h => by rw [getD_set (by omega), if_neg (by decide)] at h; exact h5 h, fun h => by rw [getD_set (by omega), if_neg (by decide)] at h; exact p5 h, fun _ => rfl, fun h => by rw [getD_set (by omega), if_neg (by decide)] at h; exact p7 h, fun h => by rw [getD_set (by omega), if_neg (by decide)] at h; exact p8 h, fun h => by rw [getD_set (by omega), if_neg (by decide)] at h; exact p9 h, fun h => by rw [getD_set (by omega), if_neg (by decide)] at h; exact p10 h, fun h => by rw [getD_set (by omega), if_neg (by decide)] at h; exact p11 h, hA.pre _ (by omega) (by omega) (by decide) hb⟩
      · cases ho
        have q6 := p6 (hpre 6 (by decide))
        have hb : Below W.heap.size W W := Below.refl _ _
        rw [if_neg (by simp [Region.wanted, yielded, *])]
        exact hK.out _ _ hS ⟨upd x 19 _, bv, t', rfl, hE3 _ (by omega), ⟨blk_below hS.1 hb, blk_below hS.2 hb⟩, fun h => by rw [getD_set (by omega), if_neg (by decide)] at h; exact h5 h, fun h => by rw [getD_set (by omega), if_neg (by decide)] at h; exact p5 h, fun h => by rw [getD_set (by omega), if_neg (by decide)] at h; exact p6 h, fun _ => rfl, fun h => by rw [getD_set (by omega), if_neg (by decide)] at h; exact p8 h, fun h => by rw [getD_set (by omega), if_neg (by decide)] at h; exact p9 h, fun h => by rw [getD_set (by omega), if_neg (by decide)] at h; exact p10 h, fun h => by rw [getD_set (by omega), if_neg (by decide)] at h; exact p11 h, hA.pre _ (by omega) (by omega) (by decide) hb⟩
      · cases ho
        have q6 := p6 (hpre 6 (by decide))
        have hb : Below W.heap.size W W := Below.refl _ _
        rw [if_neg (by simp [Region.wanted, yielded, *])]
        exact hK.out _ _ hS ⟨upd x 20 _, bv, t', rfl, hE3 _ (by omega), ⟨blk_below hS.1 hb, blk_below hS.2 hb⟩, fun h => by rw [getD_set (by omega), if_neg (by decide)] at h; exact h5 h, fun h => by rw [getD_set (by omega), if_neg (by decide)] at h; exact p5 h, fun h => by rw [getD_set (by omega), if_neg (by decide)] at h; exact p6 h, fun h => by rw [getD_set (by omega), if_neg (by decide)] at h; exact p7 h, fun _ => rfl, fun h => by rw [getD_set (by omega), if_neg (by decide)] at h; exact p9 h, fun h => by rw [getD_set (by omega), if_neg (by decide)] at h; exact p10 h, fun h => by rw [getD_set (by omega), if_neg (by decide)] at h; exact p11 h, hA.pre _ (by omega) (by omega) (by decide) hb⟩
      · cases ho
        have q6 := p6 (hpre 6 (by decide))
        have hb : Below W.heap.size W W := Below.refl _ _
        rw [if_neg (by simp [Region.wanted, yielded, *])]
        exact hK.out _ _ hS ⟨upd x 21 _, bv, t', rfl, hE3 _ (by omega), ⟨blk_below hS.1 hb, blk_below hS.2 hb⟩, fun h => by rw [getD_set (by omega), if_neg (by decide)] at h; exact h5 h, fun h => by rw [getD_set (by omega), if_neg (by decide)] at h; exact p5 h, fun h => by rw [getD_set (by omega), if_neg (by decide)] at h; exact p6 h, fun h => by rw [getD_set (by omega), if_neg (by decide)] at h; exact p7 h, fun h => by rw [getD_set (by omega), if_neg (by decide)] at h; exact p8 h, fun _ => rfl, fun h => by rw [getD_set (by omega), if_neg (by decide)] at h; exact p10 h, fun h => by rw [getD_set (by omega), if_neg (by decide)] at h; exact p11 h, hA.pre _ (by omega) (by omega) (by decide) hb⟩
      · cases ho
        have q6 := p6 (hpre 6 (by decide))
        have hb : Below W.heap.size W W := Below.refl _ _
        rw [if_neg (by simp [Region.wanted, yielded, *])]
        exact hK.out _ _ hS ⟨upd x 22 _, bv, t', rfl, hE3 _ (by omega), ⟨blk_below hS.1 hb, blk_below hS.2 hb⟩, fun h => by rw [getD_set (by omega), if_neg (by decide)] at h; exact h5 h, fun h => by rw [getD_set (by omega), if_neg (by decide)] at h; exact p5 h, fun h => by rw [getD_set (by omega), if_neg (by decide)] at h; exact p6 h, fun h => by rw [getD_set (by omega), if_neg (by decide)] at h; exact p7 h, fun h => by rw [getD_set (by omega), if_neg (by decide)] at h; exact p8 h, fun h => by rw [getD_set (by omega), if_neg (by decide)] at h; exact p9 h, fun _ => rfl, fun h => by rw [getD_set (by omega), if_neg (by decide)] at h; exact p11 h, hA.pre _ (by omega) (by omega) (by decide) hb⟩
      · cases ho
        have q6 := p6 (hpre 6 (by decide))
        have hb : Below W.heap.size W W := Below.refl _ _
        rw [if_neg (by simp [Region.wanted, yielded, *])]
        exact hK.out _ _ hS ⟨upd x 23 _, bv, t', rfl, hE3 _ (by omega), ⟨blk_below hS.1 hb, blk_below hS.2 hb⟩, fun h => by rw [getD_set (by omega), if_neg (by decide)] at h; exact h5 h, fun h => by rw [getD_set (by omega), if_neg (by decide)] at h; exact p5 h, fun h => by rw [getD_set (by omega), if_neg (by decide)] at h; exact p6 h, fun h => by rw [getD_set (by omega), if_neg (by decide)] at h; exact p7 h, fun h => by rw [getD_set (by omega), if_neg (by decide)] at h; exact p8 h, fun h => by rw [getD_set (by omega), if_neg (by decide)] at h; exact p9 h, fun h => by rw [getD_set (by omega), if_neg (by decide)] at h; exact p10 h, fun _ => rfl, hA.pre _ (by omega) (by omega) (by decide) hb⟩
      · cases ho
        have q6 := p6 (hpre 6 (by decide))
        have q11 := p11 (hpre 11 (by decide))
        have hb : Below W.heap.size W W := Below.refl _ _
        refine value_ (v := .bool ok) (w1 := W) (by rfl) rfl (by go_simp <;> first | done | exact IntWalk.i64_left _ | rw [IntKind.wrap_i64] | exact HKO.out.symm | exact HKO.out | simp [*]) ?_
        exact hK.out _ _ hS ⟨upd x 24 _, bv, t', rfl, hE3 _ (by omega), ⟨blk_below hS.1 hb, blk_below hS.2 hb⟩, fun _ => rfl, fun h => by rw [getD_set (by omega), if_neg (by decide)] at h; exact p5 h, fun h => by rw [getD_set (by omega), if_neg (by decide)] at h; exact p6 h, fun h => by rw [getD_set (by omega), if_neg (by decide)] at h; exact p7 h, fun h => by rw [getD_set (by omega), if_neg (by decide)] at h; exact p8 h, fun h => by rw [getD_set (by omega), if_neg (by decide)] at h; exact p9 h, fun h => by rw [getD_set (by omega), if_neg (by decide)] at h; exact p10 h, fun h => by rw [getD_set (by omega), if_neg (by decide)] at h; exact p11 h, hA.pre _ (by omega) (by omega) (by decide) hb⟩
      · cases ho
        have hx := h5 (hpre 12 (by decide))
        refine call_ 65 #[.agg #[.int .i64 N, .int .i64 b0, .int .i64 b1, .int .i64 r0, .int .i64 r1, .slice A5 l5.length c5, .slice A6 l6.length c6, .slice A7 l7.length c7], .bool ok] (by rfl) rfl (by go_simp <;> simp [hx]) ?_
        have hbw := hb0.trans (hA.bel.mono hb0.size)
        refine (asked_any N b0 b1 r0 r1 A5 c5 l5 A6 c6 l6 A7 c7 l7 ok W (HK.out.below hbw) (Kd.C_below h5' hbw) hc5 (Kd.C_below h6' hbw) hc6 (Kd.C_below h7' hbw) hc7 hl).mono ?_
        rintro e w' ⟨bw, s', rfl, hb, hbv, hok⟩
        rw [HERR.out] at hok ⊢
        have hG : Gd N b0 b1 r0 r1 (.slice A5 l5.length c5) (.slice A6 l6.length c6) (.slice A7 l7.length c7) l5 l6 l7 err w.heap.size bw s' w' := ⟨hbv, fun e => by obtain ⟨m, h1, h2⟩ := hok e; exact ⟨m, Nat.le_trans hbw.size h1, h2⟩⟩
        exact ⟨_, rfl, hK.out _ _ (⟨blk_below hS.1 hb, blk_below hS.2 hb⟩) ⟨upd x 25 _, bw, s', rfl, hE3 _ (by omega), ⟨blk_below hS.1 hb, blk_below hS.2 hb⟩, fun h => by rw [getD_set (by omega), if_neg (by decide)] at h; exact h5 h, fun h => by rw [getD_set (by omega), if_neg (by decide)] at h; exact p5 h, fun h => by rw [getD_set (by omega), if_neg (by decide)] at h; exact p6 h, fun h => by rw [getD_set (by omega), if_neg (by decide)] at h; exact p7 h, fun h => by rw [getD_set (by omega), if_neg (by decide)] at h; exact p8 h, fun h => by rw [getD_set (by omega), if_neg (by decide)] at h; exact p9 h, fun h => by rw [getD_set (by omega), if_neg (by decide)] at h; exact p10 h, fun h => by rw [getD_set (by omega), if_neg (by decide)] at h; exact p11 h, hA.called (by decide) (by omega) (fun k hk => by rcases (show k = 1 ∨ k = 2 ∨ k = 3 ∨ k = 4 ∨ k = 7 ∨ k = 8 by omega) with rfl | rfl | rfl | rfl | rfl | rfl <;> first | exact hno _ (by decide) | exact hno2 _ _ (by decide) (hno _ (by decide : 13 ∈ preds .any _ 14))) bw s' hb hG⟩⟩
      · cases ho
        have hx := (hA.call (hpre 13 (by decide))).1
        refine value_ (v := .tuple #[.agg bv, .agg (encT t').toArray, .int .i64 err]) (w1 := W) rfl rfl (by go_simp <;> simp [hx]) ?_
        exact hK.out _ _ hS ⟨upd x 11 _, bv, t', rfl, hE3 _ (by omega), hS, fun h => by rw [getD_set (by omega), if_neg (by decide)] at h; exact h5 h, fun h => by rw [getD_set (by omega), if_neg (by decide)] at h; exact p5 h, fun h => by rw [getD_set (by omega), if_neg (by decide)] at h; exact p6 h, fun h => by rw [getD_set (by omega), if_neg (by decide)] at h; exact p7 h, fun h => by rw [getD_set (by omega), if_neg (by decide)] at h; exact p8 h, fun h => by rw [getD_set (by omega), if_neg (by decide)] at h; exact p9 h, fun h => by rw [getD_set (by omega), if_neg (by decide)] at h; exact p10 h, fun h => by rw [getD_set (by omega), if_neg (by decide)] at h; exact p11 h, hA.moved (by decide) (by omega)⟩
      · cases ho
        have hx := hA.mv (hpre 14 (by decide))
        refine value_ (v := .agg bv) (w1 := W) rfl rfl (by go_simp <;> simp [hx]) ?_
        exact hK.out _ _ hS ⟨upd x 26 _, bv, t', rfl, hE3 _ (by omega), hS, fun h => by rw [getD_set (by omega), if_neg (by decide)] at h; exact h5 h, fun h => by rw [getD_set (by omega), if_neg (by decide)] at h; exact p5 h, fun h => by rw [getD_set (by omega), if_neg (by decide)] at h; exact p6 h, fun h => by rw [getD_set (by omega), if_neg (by decide)] at h; exact p7 h, fun h => by rw [getD_set (by omega), if_neg (by decide)] at h; exact p8 h, fun h => by rw [getD_set (by omega), if_neg (by decide)] at h; exact p9 h, fun h => by rw [getD_set (by omega), if_neg (by decide)] at h; exact p10 h, fun h => by rw [getD_set (by omega), if_neg (by decide)] at h; exact p11 h, hA.ext0 (by decide) (by omega)⟩
      · cases ho
        have hx := hA.mv (hpre 14 (by decide))
        refine value_ (v := .agg (encT t').toArray) (w1 := W) rfl rfl (by go_simp <;> simp [hx]) ?_
        exact hK.out _ _ hS ⟨upd x 27 _, bv, t', rfl, hE3 _ (by omega), hS, fun h => by rw [getD_set (by omega), if_neg (by decide)] at h; exact h5 h, fun h => by rw [getD_set (by omega), if_neg (by decide)] at h; exact p5 h, fun h => by rw [getD_set (by omega), if_neg (by decide)] at h; exact p6 h, fun h => by rw [getD_set (by omega), if_neg (by decide)] at h; exact p7 h, fun h => by rw [getD_set (by omega), if_neg (by decide)] at h; exact p8 h, fun h => by rw [getD_set (by omega), if_neg (by decide)] at h; exact p9 h, fun h => by rw [getD_set (by omega), if_neg (by decide)] at h; exact p10 h, fun h => by rw [getD_set (by omega), if_neg (by decide)] at h; exact p11 h, hA.ext1 (by decide) (by omega)⟩
      · cases ho
        have hx := hA.mv (hpre 14 (by decide))
        refine value_ (v := .int .i64 err) (w1 := W) rfl rfl (by go_simp <;> simp [hx]) ?_
        exact hK.out _ _ hS ⟨upd x 28 _, bv, t', rfl, hE3 _ (by omega), hS, fun h => by rw [getD_set (by omega), if_neg (by decide)] at h; exact h5 h, fun h => by rw [getD_set (by omega), if_neg (by decide)] at h; exact p5 h, fun h => by rw [getD_set (by omega), if_neg (by decide)] at h; exact p6 h, fun h => by rw [getD_set (by omega), if_neg (by decide)] at h; exact p7 h, fun h => by rw [getD_set (by omega), if_neg (by decide)] at h; exact p8 h, fun h => by rw [getD_set (by omega), if_neg (by decide)] at h; exact p9 h, fun h => by rw [getD_set (by omega), if_neg (by decide)] at h; exact p10 h, fun h => by rw [getD_set (by omega), if_neg (by decide)] at h; exact p11 h, hA.ext2 (by decide) (by omega)⟩
      · cases ho
        have hb : Below W.heap.size W (W.alloc (.cells zero9 80)) := (Below.refl _ _).alloc (Nat.le_refl _) _
        refine value_ (v := .pointer (some ⟨W.heap.size, 0, none⟩)) (w1 := W.alloc (.cells zero9 80)) rfl rfl (by go_simp; try rfl) ?_
        exact hK.out _ _ (⟨blk_below hS.1 hb, blk_below hS.2 hb⟩) ⟨upd x 8 _, bv, t', rfl, hE3 _ (by omega), ⟨blk_below hS.1 hb, blk_below hS.2 hb⟩, fun h => by rw [getD_set (by omega), if_neg (by decide)] at h; exact h5 h, fun h => by rw [getD_set (by omega), if_neg (by decide)] at h; exact p5 h, fun h => by rw [getD_set (by omega), if_neg (by decide)] at h; exact p6 h, fun h => by rw [getD_set (by omega), if_neg (by decide)] at h; exact p7 h, fun h => by rw [getD_set (by omega), if_neg (by decide)] at h; exact p8 h, fun h => by rw [getD_set (by omega), if_neg (by decide)] at h; exact p9 h, fun h => by rw [getD_set (by omega), if_neg (by decide)] at h; exact p10 h, fun h => by rw [getD_set (by omega), if_neg (by decide)] at h; exact p11 h, hA.alA (by decide) (by omega) (hno _ (by decide))⟩
      · cases ho
        have hb : Below W.heap.size W (W.alloc (.cells Tryd.zeroCells91 91)) := (Below.refl _ _).alloc (Nat.le_refl _) _
        refine value_ (v := .pointer (some ⟨W.heap.size, 0, none⟩)) (w1 := W.alloc (.cells Tryd.zeroCells91 91)) rfl rfl (by go_simp; try rfl) ?_
        exact hK.out _ _ (⟨blk_below hS.1 hb, blk_below hS.2 hb⟩) ⟨upd x 9 _, bv, t', rfl, hE3 _ (by omega), ⟨blk_below hS.1 hb, blk_below hS.2 hb⟩, fun h => by rw [getD_set (by omega), if_neg (by decide)] at h; exact h5 h, fun h => by rw [getD_set (by omega), if_neg (by decide)] at h; exact p5 h, fun h => by rw [getD_set (by omega), if_neg (by decide)] at h; exact p6 h, fun h => by rw [getD_set (by omega), if_neg (by decide)] at h; exact p7 h, fun h => by rw [getD_set (by omega), if_neg (by decide)] at h; exact p8 h, fun h => by rw [getD_set (by omega), if_neg (by decide)] at h; exact p9 h, fun h => by rw [getD_set (by omega), if_neg (by decide)] at h; exact p10 h, fun h => by rw [getD_set (by omega), if_neg (by decide)] at h; exact p11 h, hA.alB (by decide) (by omega) (hno _ (by decide))⟩
      · cases ho
        obtain ⟨g, hg, hg0, hB⟩ := hA.al (hpre 18 (by decide))
        have hx := hA.e0 (hpre 15 (by decide))
        have hG := (hA.call (hpre 13 (by decide))).2
        obtain ⟨w', hP, hr⟩ := store_ex (ty := 80) (vs := bv) hB (by rw [hun]; exact hG.1.1) (by rw [hG.1.1]; kernel_rfl) hG.1.2
        refine skip_ (w1 := w') rfl rfl (hr _ _ _ _ rfl hg hx) ?_
        exact hK.out _ _ (⟨hP.blk hS.1 (by omega), hP.blk hS.2 (by omega)⟩) ⟨x, bv, t', rfl, hE3 _ (by omega), ⟨hP.blk hS.1 (by omega), hP.blk hS.2 (by omega)⟩, fun h => by rw [getD_set (by omega), if_neg (by decide)] at h; exact h5 h, fun h => by rw [getD_set (by omega), if_neg (by decide)] at h; exact p5 h, fun h => by rw [getD_set (by omega), if_neg (by decide)] at h; exact p6 h, fun h => by rw [getD_set (by omega), if_neg (by decide)] at h; exact p7 h, fun h => by rw [getD_set (by omega), if_neg (by decide)] at h; exact p8 h, fun h => by rw [getD_set (by omega), if_neg (by decide)] at h; exact p9 h, fun h => by rw [getD_set (by omega), if_neg (by decide)] at h; exact p10 h, fun h => by rw [getD_set (by omega), if_neg (by decide)] at h; exact p11 h, hA.stA (by omega) hg hB hg0 hP⟩
      · cases ho
        obtain ⟨g, hg, hg0, hB⟩ := hA.bl (hpre 19 (by decide))
        have hx := hA.e1 (hpre 16 (by decide))
        obtain ⟨w', hP, hr⟩ := store_ex (ty := 91) (vs := (encT t').toArray) hB (by rw [hun, zeroCells_is]; simp [encT_length]) (size91a t') (all_oneCell_toArray (encT_one t'))
        refine skip_ (w1 := w') rfl rfl (hr _ _ _ _ rfl hg hx) ?_
        exact hK.out _ _ (⟨hP.blk hS.1 (by omega), hP.blk hS.2 (by omega)⟩) ⟨x, bv, t', rfl, hE3 _ (by omega), ⟨hP.blk hS.1 (by omega), hP.blk hS.2 (by omega)⟩, fun h => by rw [getD_set (by omega), if_neg (by decide)] at h; exact h5 h, fun h => by rw [getD_set (by omega), if_neg (by decide)] at h; exact p5 h, fun h => by rw [getD_set (by omega), if_neg (by decide)] at h; exact p6 h, fun h => by rw [getD_set (by omega), if_neg (by decide)] at h; exact p7 h, fun h => by rw [getD_set (by omega), if_neg (by decide)] at h; exact p8 h, fun h => by rw [getD_set (by omega), if_neg (by decide)] at h; exact p9 h, fun h => by rw [getD_set (by omega), if_neg (by decide)] at h; exact p10 h, fun h => by rw [getD_set (by omega), if_neg (by decide)] at h; exact p11 h, hA.stB (by omega) hg hB hg0 hP⟩
    case finfalse =>
      rintro d a W ⟨x, bv, t', rfl, hE, hS, h5, p5, p6, p7, p8, p9, p10, p11, hA⟩
      have x5 := h5 rfl
      have y5 := p5 rfl
      have y6 := p6 rfl
      have y7 := p7 rfl
      have y8 := p8 rfl
      have y9 := p9 rfl
      have y10 := p10 rfl
      have y11 := p11 rfl
      obtain ⟨x6, hG⟩ := hA.call rfl
      have x7 := hA.mv rfl
      have x8 := hA.e0 rfl
      have x9 := hA.e1 rfl
      have x10 := hA.e2 rfl
      obtain ⟨g, x11, hg0, hgB⟩ := hA.al rfl
      obtain ⟨g', x12, hg0', hgB'⟩ := hA.bl rfl
      have hgC : W.heap[g]? = some (.cells bv 80 (0, 0)) := hgB
      have hgC' : W.heap[g']? = some (.cells (encT t').toArray 91 (0, 0)) := hgB'
      clear hgB hgB'
      simp only [x5, y5, y6, y7, y8, y9, y10, y11, x6, x7, x8, x9, x10, x11, x12]
      refine pureA 22 10 ?_
      refine done_ (done_of HT_.out (by kernel_rfl)) ?_
      clear HT_ HW_ hHeld
      have hbW := hb0.trans (hA.bel.mono hb0.size)
      have hzz := hb0.size
      clear hA hE h5 x5 x6 x7 x8 x9 x10 x11 x12 y5 p5 y6 p6 y7 p7 y8 p8 y9 p9 y10 p10 y11 p11
      refine calm_normal ?_
      have hS1 := hS.1
      have hS2 := hS.2
      have he := HERN.out
      clear hG hgC hgC'
      go_wp2_with (refine wpList_store_blk rfl rfl rfl rfl hS2 rfl (by kernel_rfl) (by simp [Value.oneCell']) ?_; intro W9 hP9)
      refine bodyPost_ret (results_ct rfl _ _ (w.heap.size + 1) 23 #[.int .i64 0, .int .i64 0] (0, 0) _ rfl hP9.here Tryd.underlying23 rfl (by kernel_rfl)) rfl ?_
      exact ⟨rfl, hbW.trans (hP9.below (by omega))⟩
end Go.Proofs.YtohbeninpmmmpaaDoor
end

section
/- The contracts of star's functions, in the form that the printed texts take. Written by wip/tools/mkXI03.py. -/
set_option linter.unusedSimpArgs false
set_option linter.unusedVariables false
namespace Go.Proofs.YtohbeninpmmmpaaDoor
open Go.RowKit Go.Proofs.YtohbeninpmmmpaaDoorW.PrintWords Go.Proofs.YtohbeninpmmmpaaDoorW.PrintLast TrydX.X
def Ways (w : World) : Prop := Kinds w
theorem Ways.below {w w' : World} (h : Ways w) (hb : Below w.heap.size w w') : Ways w' := Kinds.below h hb
/-- A row that is handed back is read where it is new. -/
theorem V_of_row {w w' : World} {A : Option Addr} {c : Nat} {xs : List Int} (h : RowIs w w' A c xs) : Kd.V (Kd.int .i64) 3 w' w.heap.size (fun k_ => (w.heap.size ≤ k_)) (.slice A xs.length c) xs := by
  refine Kd.V_mk h.cap ?_
  intro W' hW
  have h2 := Kd.reads_of_C (enc := Value.int .i64) (d := (0 : Int)) (h1 := fun _ => rfl) h.row
  refine Kd.C_of_reads (d := (0 : Int)) (h1 := fun _ => rfl) ⟨h2.1, h2.2.1, fun hn => ?_⟩
  obtain ⟨ad, e, hc⟩ := h2.2.2 hn
  refine ⟨ad, e, fun j hj => ?_⟩
  have h1 := hc j hj
  have hlt := World.block_lt_of_cell? w' _ h1
  rw [add_block] at hlt
  exact (World.cell?_of_block (w := w') (by rw [add_block]; exact hW ad.block (h.new ad e) hlt)).trans h1
end Go.Proofs.YtohbeninpmmmpaaDoor
namespace Go.Proofs.TrydX.X
open Go.RowKit Go.Proofs.YtohbeninpmmmpaaDoorW.PrintWords Go.Proofs.YtohbeninpmmmpaaDoorW.PrintLast
open Go.Proofs.YtohbeninpmmmpaaDoor (checkB askE isTruthF told worstF wrongF canB idleF caseF openedM V_of_row RowIs)
def star_Check.f (a0_0 : Int) (a0_1 : Int) (a0_2 : Int) (a0_3 : Int) (a0_4 : Int) (l0_5 : List (S23)) (l0_6 : List (S23)) (l0_7 : List (S63)) : Option (Int) := if l0_5.length ≤ 17592186044416 ∧ l0_6.length ≤ 17592186044416 ∧ l0_7.length ≤ 17592186044416 then some (if checkB a0_0 a0_1 a0_2 a0_3 a0_4 l0_5 l0_6 l0_7 = true then 0 else 30) else none
def star_IsTruth.f (a0_0 : Int) (a0_1 : Int) (a0_2 : Int) (a0_3 : Int) (a0_4 : Int) (l0_5 : List (S23)) (l0_6 : List (S23)) (l0_7 : List (S63)) (l1_0 : List Int) (l1_1 : List Int) (l1_2 : List Int) : Option (Bool × Int) := if l0_5.length ≤ 17592186044416 ∧ l0_6.length ≤ 17592186044416 ∧ l0_7.length ≤ 17592186044416 then some (checkB a0_0 a0_1 a0_2 a0_3 a0_4 l0_5 l0_6 l0_7 && isTruthF a0_0 a0_1 a0_2 a0_3 a0_4 l0_5 l0_6 l0_7 l1_0 l1_1 l1_2, if checkB a0_0 a0_1 a0_2 a0_3 a0_4 l0_5 l0_6 l0_7 = true then 0 else 30) else none
set_option maxHeartbeats 1000000 in
theorem star_IsTruth.calls (a0_0 : Int) (a0_1 : Int) (a0_2 : Int) (a0_3 : Int) (a0_4 : Int) (A0_5 : Option Addr) (c0_5 : Nat) (l0_5 : List (S23)) (A0_6 : Option Addr) (c0_6 : Nat) (l0_6 : List (S23)) (A0_7 : Option Addr) (c0_7 : Nat) (l0_7 : List (S63)) (A1_0 : Option Addr) (c1_0 : Nat) (l1_0 : List Int) (A1_1 : Option Addr) (c1_1 : Nat) (l1_1 : List Int) (A1_2 : Option Addr) (c1_2 : Nat) (l1_2 : List Int) (r1 : Bool) (r2 : Int) (w : World) (hr0_5 : Kd.C k23 w A0_5 l0_5.length l0_5) (hc0_5 : l0_5.length ≤ c0_5) (hr0_6 : Kd.C k23 w A0_6 l0_6.length l0_6) (hc0_6 : l0_6.length ≤ c0_6) (hr0_7 : Kd.C k63 w A0_7 l0_7.length l0_7) (hc0_7 : l0_7.length ≤ c0_7) (hr1_0 : Kd.C (Kd.int .i64) w A1_0 l1_0.length l1_0) (hc1_0 : l1_0.length ≤ c1_0) (hr1_1 : Kd.C (Kd.int .i64) w A1_1 l1_1.length l1_1) (hc1_1 : l1_1.length ≤ c1_1) (hr1_2 : Kd.C (Kd.int .i64) w A1_2 l1_2.length l1_2) (hc1_2 : l1_2.length ≤ c1_2) (hWays : Go.Proofs.YtohbeninpmmmpaaDoor.Ways w) (h : star_IsTruth.f a0_0 a0_1 a0_2 a0_3 a0_4 l0_5 l0_6 l0_7 l1_0 l1_1 l1_2 = some (r1, r2)) :
    Calls Tryd.prog 17 #[.agg #[.int .i64 a0_0, .int .i64 a0_1, .int .i64 a0_2, .int .i64 a0_3, .int .i64 a0_4, .slice A0_5 l0_5.length c0_5, .slice A0_6 l0_6.length c0_6, .slice A0_7 l0_7.length c0_7], .agg #[.slice A1_0 l1_0.length c1_0, .slice A1_1 l1_1.length c1_1, .slice A1_2 l1_2.length c1_2]] w fun e w' => e = .returned (.tuple #[.bool r1, .int .i64 r2]) ∧ Below w.heap.size w w' := by
  unfold star_IsTruth.f at h
  split at h
  · rename_i hb
    simp only [Option.some.injEq, Prod.mk.injEq] at h
    obtain ⟨rfl, rfl⟩ := h
    exact Go.Proofs.YtohbeninpmmmpaaDoor.IsTruth_any a0_0 a0_1 a0_2 a0_3 a0_4 A0_5 c0_5 l0_5 A0_6 c0_6 l0_6 A0_7 c0_7 l0_7 A1_0 c1_0 l1_0 A1_1 c1_1 l1_1 A1_2 c1_2 l1_2 w hWays hr0_5 hc0_5 hr0_6 hc0_6 hr0_7 hc0_7 hr1_0 hr1_1 hr1_2 ⟨Nat.le_trans hb.1 (by decide), Nat.le_trans hb.2.1 (by decide), Nat.le_trans hb.2.2 (by decide)⟩
  · cases h
def star_Offset.f (a0_0 : Int) (a0_1 : Int) (a0_2 : Int) (a0_3 : Int) (a0_4 : Int) (l0_5 : List (S23)) (l0_6 : List (S23)) (l0_7 : List (S63)) (a1 : Int) : Option (Int × Int × Int) := if l0_5.length ≤ 17592186044416 ∧ l0_6.length ≤ 17592186044416 ∧ l0_7.length ≤ 17592186044416 then some (if askE a0_0 a0_1 a0_2 a0_3 a0_4 l0_5 l0_6 l0_7 (decide (0 ≤ a1 ∧ a1 ≤ wrap64 (a0_0 - 1))) = 0 then -(told a0_0 a0_1 a0_2 a0_3 a0_4 l0_5 l0_6 l0_7 [] 0 (1 + a1.toNat)) else 0, if askE a0_0 a0_1 a0_2 a0_3 a0_4 l0_5 l0_6 l0_7 (decide (0 ≤ a1 ∧ a1 ≤ wrap64 (a0_0 - 1))) = 0 then told a0_0 a0_1 a0_2 a0_3 a0_4 l0_5 l0_6 l0_7 [] (1 + a1.toNat) 0 else 0, askE a0_0 a0_1 a0_2 a0_3 a0_4 l0_5 l0_6 l0_7 (decide (0 ≤ a1 ∧ a1 ≤ wrap64 (a0_0 - 1)))) else none
set_option maxHeartbeats 1000000 in
theorem star_Offset.calls (a0_0 : Int) (a0_1 : Int) (a0_2 : Int) (a0_3 : Int) (a0_4 : Int) (A0_5 : Option Addr) (c0_5 : Nat) (l0_5 : List (S23)) (A0_6 : Option Addr) (c0_6 : Nat) (l0_6 : List (S23)) (A0_7 : Option Addr) (c0_7 : Nat) (l0_7 : List (S63)) (a1 : Int) (r1 : Int) (r2 : Int) (r3 : Int) (w : World) (hr0_5 : Kd.C k23 w A0_5 l0_5.length l0_5) (hc0_5 : l0_5.length ≤ c0_5) (hr0_6 : Kd.C k23 w A0_6 l0_6.length l0_6) (hc0_6 : l0_6.length ≤ c0_6) (hr0_7 : Kd.C k63 w A0_7 l0_7.length l0_7) (hc0_7 : l0_7.length ≤ c0_7) (hWays : Go.Proofs.YtohbeninpmmmpaaDoor.Ways w) (h : star_Offset.f a0_0 a0_1 a0_2 a0_3 a0_4 l0_5 l0_6 l0_7 a1 = some (r1, r2, r3)) :
    Calls Tryd.prog 24 #[.agg #[.int .i64 a0_0, .int .i64 a0_1, .int .i64 a0_2, .int .i64 a0_3, .int .i64 a0_4, .slice A0_5 l0_5.length c0_5, .slice A0_6 l0_6.length c0_6, .slice A0_7 l0_7.length c0_7], .int .i64 a1] w fun e w' => e = .returned (.tuple #[.agg #[.int .i64 r1, .int .i64 r2], .int .i64 r3]) ∧ Below w.heap.size w w' := by
  unfold star_Offset.f at h
  split at h
  · rename_i hb
    simp only [Option.some.injEq, Prod.mk.injEq] at h
    obtain ⟨rfl, rfl, rfl⟩ := h
    exact Go.Proofs.YtohbeninpmmmpaaDoor.Offset_any a0_0 a0_1 a0_2 a0_3 a0_4 A0_5 c0_5 l0_5 A0_6 c0_6 l0_6 A0_7 c0_7 l0_7 a1 w hWays hr0_5 hc0_5 hr0_6 hc0_6 hr0_7 hc0_7 ⟨Nat.le_trans hb.1 (by decide), Nat.le_trans hb.2.1 (by decide), Nat.le_trans hb.2.2 (by decide)⟩ _ rfl _ rfl
  · cases h
def star_Person.f (a0_0 : Int) (a0_1 : Int) (a0_2 : Int) (a0_3 : Int) (a0_4 : Int) (l0_5 : List (S23)) (l0_6 : List (S23)) (l0_7 : List (S63)) (a1 : Int) : Option (Int × Int × Int) := if l0_5.length ≤ 17592186044416 ∧ l0_6.length ≤ 17592186044416 ∧ l0_7.length ≤ 17592186044416 then some (if askE a0_0 a0_1 a0_2 a0_3 a0_4 l0_5 l0_6 l0_7 (decide (0 ≤ a1 ∧ a1 ≤ wrap64 ((l0_5.length : Int) - 1))) = 0 then -(told a0_0 a0_1 a0_2 a0_3 a0_4 l0_5 l0_6 l0_7 [] (9 + a1.toNat) 0) else 0, if askE a0_0 a0_1 a0_2 a0_3 a0_4 l0_5 l0_6 l0_7 (decide (0 ≤ a1 ∧ a1 ≤ wrap64 ((l0_5.length : Int) - 1))) = 0 then told a0_0 a0_1 a0_2 a0_3 a0_4 l0_5 l0_6 l0_7 [] 0 (9 + a1.toNat) else 0, askE a0_0 a0_1 a0_2 a0_3 a0_4 l0_5 l0_6 l0_7 (decide (0 ≤ a1 ∧ a1 ≤ wrap64 ((l0_5.length : Int) - 1)))) else none
set_option maxHeartbeats 1000000 in
theorem star_Person.calls (a0_0 : Int) (a0_1 : Int) (a0_2 : Int) (a0_3 : Int) (a0_4 : Int) (A0_5 : Option Addr) (c0_5 : Nat) (l0_5 : List (S23)) (A0_6 : Option Addr) (c0_6 : Nat) (l0_6 : List (S23)) (A0_7 : Option Addr) (c0_7 : Nat) (l0_7 : List (S63)) (a1 : Int) (r1 : Int) (r2 : Int) (r3 : Int) (w : World) (hr0_5 : Kd.C k23 w A0_5 l0_5.length l0_5) (hc0_5 : l0_5.length ≤ c0_5) (hr0_6 : Kd.C k23 w A0_6 l0_6.length l0_6) (hc0_6 : l0_6.length ≤ c0_6) (hr0_7 : Kd.C k63 w A0_7 l0_7.length l0_7) (hc0_7 : l0_7.length ≤ c0_7) (hWays : Go.Proofs.YtohbeninpmmmpaaDoor.Ways w) (h : star_Person.f a0_0 a0_1 a0_2 a0_3 a0_4 l0_5 l0_6 l0_7 a1 = some (r1, r2, r3)) :
    Calls Tryd.prog 26 #[.agg #[.int .i64 a0_0, .int .i64 a0_1, .int .i64 a0_2, .int .i64 a0_3, .int .i64 a0_4, .slice A0_5 l0_5.length c0_5, .slice A0_6 l0_6.length c0_6, .slice A0_7 l0_7.length c0_7], .int .i64 a1] w fun e w' => e = .returned (.tuple #[.agg #[.int .i64 r1, .int .i64 r2], .int .i64 r3]) ∧ Below w.heap.size w w' := by
  unfold star_Person.f at h
  split at h
  · rename_i hb
    simp only [Option.some.injEq, Prod.mk.injEq] at h
    obtain ⟨rfl, rfl, rfl⟩ := h
    exact Go.Proofs.YtohbeninpmmmpaaDoor.Person_any a0_0 a0_1 a0_2 a0_3 a0_4 A0_5 c0_5 l0_5 A0_6 c0_6 l0_6 A0_7 c0_7 l0_7 a1 w hWays hr0_5 hc0_5 hr0_6 hc0_6 hr0_7 hc0_7 ⟨Nat.le_trans hb.1 (by decide), Nat.le_trans hb.2.1 (by decide), Nat.le_trans hb.2.2 (by decide)⟩ _ rfl _ rfl
  · cases h
def star_Path.f (a0_0 : Int) (a0_1 : Int) (a0_2 : Int) (a0_3 : Int) (a0_4 : Int) (l0_5 : List (S23)) (l0_6 : List (S23)) (l0_7 : List (S63)) (a1 : Int) : Option (Int × Int × Int) := if l0_5.length ≤ 17592186044416 ∧ l0_6.length ≤ 17592186044416 ∧ l0_7.length ≤ 17592186044416 then some (if askE a0_0 a0_1 a0_2 a0_3 a0_4 l0_5 l0_6 l0_7 (decide (0 ≤ a1 ∧ a1 ≤ wrap64 ((l0_6.length : Int) - 1))) = 0 then -(told a0_0 a0_1 a0_2 a0_3 a0_4 l0_5 l0_6 l0_7 [] 0 (13 + a1.toNat)) else 0, if askE a0_0 a0_1 a0_2 a0_3 a0_4 l0_5 l0_6 l0_7 (decide (0 ≤ a1 ∧ a1 ≤ wrap64 ((l0_6.length : Int) - 1))) = 0 then told a0_0 a0_1 a0_2 a0_3 a0_4 l0_5 l0_6 l0_7 [] (13 + a1.toNat) 0 else 0, askE a0_0 a0_1 a0_2 a0_3 a0_4 l0_5 l0_6 l0_7 (decide (0 ≤ a1 ∧ a1 ≤ wrap64 ((l0_6.length : Int) - 1)))) else none
set_option maxHeartbeats 1000000 in
theorem star_Path.calls (a0_0 : Int) (a0_1 : Int) (a0_2 : Int) (a0_3 : Int) (a0_4 : Int) (A0_5 : Option Addr) (c0_5 : Nat) (l0_5 : List (S23)) (A0_6 : Option Addr) (c0_6 : Nat) (l0_6 : List (S23)) (A0_7 : Option Addr) (c0_7 : Nat) (l0_7 : List (S63)) (a1 : Int) (r1 : Int) (r2 : Int) (r3 : Int) (w : World) (hr0_5 : Kd.C k23 w A0_5 l0_5.length l0_5) (hc0_5 : l0_5.length ≤ c0_5) (hr0_6 : Kd.C k23 w A0_6 l0_6.length l0_6) (hc0_6 : l0_6.length ≤ c0_6) (hr0_7 : Kd.C k63 w A0_7 l0_7.length l0_7) (hc0_7 : l0_7.length ≤ c0_7) (hWays : Go.Proofs.YtohbeninpmmmpaaDoor.Ways w) (h : star_Path.f a0_0 a0_1 a0_2 a0_3 a0_4 l0_5 l0_6 l0_7 a1 = some (r1, r2, r3)) :
    Calls Tryd.prog 28 #[.agg #[.int .i64 a0_0, .int .i64 a0_1, .int .i64 a0_2, .int .i64 a0_3, .int .i64 a0_4, .slice A0_5 l0_5.length c0_5, .slice A0_6 l0_6.length c0_6, .slice A0_7 l0_7.length c0_7], .int .i64 a1] w fun e w' => e = .returned (.tuple #[.agg #[.int .i64 r1, .int .i64 r2], .int .i64 r3]) ∧ Below w.heap.size w w' := by
  unfold star_Path.f at h
  split at h
  · rename_i hb
    simp only [Option.some.injEq, Prod.mk.injEq] at h
    obtain ⟨rfl, rfl, rfl⟩ := h
    exact Go.Proofs.YtohbeninpmmmpaaDoor.Path_any a0_0 a0_1 a0_2 a0_3 a0_4 A0_5 c0_5 l0_5 A0_6 c0_6 l0_6 A0_7 c0_7 l0_7 a1 w hWays hr0_5 hc0_5 hr0_6 hc0_6 hr0_7 hc0_7 ⟨Nat.le_trans hb.1 (by decide), Nat.le_trans hb.2.1 (by decide), Nat.le_trans hb.2.2 (by decide)⟩ _ rfl _ rfl
  · cases h
def star_Between.f (a0_0 : Int) (a0_1 : Int) (a0_2 : Int) (a0_3 : Int) (a0_4 : Int) (l0_5 : List (S23)) (l0_6 : List (S23)) (l0_7 : List (S63)) (a1 : Int) (a2 : Int) : Option (Int × Int × Int) := if l0_5.length ≤ 17592186044416 ∧ l0_6.length ≤ 17592186044416 ∧ l0_7.length ≤ 17592186044416 then some (if askE a0_0 a0_1 a0_2 a0_3 a0_4 l0_5 l0_6 l0_7 (decide (0 ≤ a1 ∧ a1 ≤ wrap64 (a0_0 - 1)) && decide (0 ≤ a2 ∧ a2 ≤ wrap64 (a0_0 - 1))) = 0 then -(told a0_0 a0_1 a0_2 a0_3 a0_4 l0_5 l0_6 l0_7 [] (1 + a1.toNat) (1 + a2.toNat)) else 0, if askE a0_0 a0_1 a0_2 a0_3 a0_4 l0_5 l0_6 l0_7 (decide (0 ≤ a1 ∧ a1 ≤ wrap64 (a0_0 - 1)) && decide (0 ≤ a2 ∧ a2 ≤ wrap64 (a0_0 - 1))) = 0 then told a0_0 a0_1 a0_2 a0_3 a0_4 l0_5 l0_6 l0_7 [] (1 + a2.toNat) (1 + a1.toNat) else 0, askE a0_0 a0_1 a0_2 a0_3 a0_4 l0_5 l0_6 l0_7 (decide (0 ≤ a1 ∧ a1 ≤ wrap64 (a0_0 - 1)) && decide (0 ≤ a2 ∧ a2 ≤ wrap64 (a0_0 - 1)))) else none
set_option maxHeartbeats 1000000 in
theorem star_Between.calls (a0_0 : Int) (a0_1 : Int) (a0_2 : Int) (a0_3 : Int) (a0_4 : Int) (A0_5 : Option Addr) (c0_5 : Nat) (l0_5 : List (S23)) (A0_6 : Option Addr) (c0_6 : Nat) (l0_6 : List (S23)) (A0_7 : Option Addr) (c0_7 : Nat) (l0_7 : List (S63)) (a1 : Int) (a2 : Int) (r1 : Int) (r2 : Int) (r3 : Int) (w : World) (hr0_5 : Kd.C k23 w A0_5 l0_5.length l0_5) (hc0_5 : l0_5.length ≤ c0_5) (hr0_6 : Kd.C k23 w A0_6 l0_6.length l0_6) (hc0_6 : l0_6.length ≤ c0_6) (hr0_7 : Kd.C k63 w A0_7 l0_7.length l0_7) (hc0_7 : l0_7.length ≤ c0_7) (hWays : Go.Proofs.YtohbeninpmmmpaaDoor.Ways w) (h : star_Between.f a0_0 a0_1 a0_2 a0_3 a0_4 l0_5 l0_6 l0_7 a1 a2 = some (r1, r2, r3)) :
    Calls Tryd.prog 21 #[.agg #[.int .i64 a0_0, .int .i64 a0_1, .int .i64 a0_2, .int .i64 a0_3, .int .i64 a0_4, .slice A0_5 l0_5.length c0_5, .slice A0_6 l0_6.length c0_6, .slice A0_7 l0_7.length c0_7], .int .i64 a1, .int .i64 a2] w fun e w' => e = .returned (.tuple #[.agg #[.int .i64 r1, .int .i64 r2], .int .i64 r3]) ∧ Below w.heap.size w w' := by
  unfold star_Between.f at h
  split at h
  · rename_i hb
    simp only [Option.some.injEq, Prod.mk.injEq] at h
    obtain ⟨rfl, rfl, rfl⟩ := h
    exact Go.Proofs.YtohbeninpmmmpaaDoor.Between_any a0_0 a0_1 a0_2 a0_3 a0_4 A0_5 c0_5 l0_5 A0_6 c0_6 l0_6 A0_7 c0_7 l0_7 a1 a2 w hWays hr0_5 hc0_5 hr0_6 hc0_6 hr0_7 hc0_7 ⟨Nat.le_trans hb.1 (by decide), Nat.le_trans hb.2.1 (by decide), Nat.le_trans hb.2.2 (by decide)⟩ _ _ _ rfl rfl rfl _ rfl
  · cases h
def star_Case.f (a0_0 : Int) (a0_1 : Int) (a0_2 : Int) (a0_3 : Int) (a0_4 : Int) (l0_5 : List (S23)) (l0_6 : List (S23)) (l0_7 : List (S63)) (a1 : Int) (a2 : Bool) : Option ((List Int) × (List Int) × (List Int) × Int) := if l0_5.length ≤ 17592186044416 ∧ l0_6.length ≤ 17592186044416 ∧ l0_7.length ≤ 17592186044416 then some ((if askE a0_0 a0_1 a0_2 a0_3 a0_4 l0_5 l0_6 l0_7 (decide (0 ≤ a1 ∧ a1 ≤ wrap64 (a0_0 - 1))) = 0 then caseF a2 a0_0.toNat l0_5.length l0_6.length a1.toNat (openedM a0_0 a0_1 a0_2 a0_3 a0_4 l0_5 l0_6 l0_7 []) else ([], [], [])).1, (if askE a0_0 a0_1 a0_2 a0_3 a0_4 l0_5 l0_6 l0_7 (decide (0 ≤ a1 ∧ a1 ≤ wrap64 (a0_0 - 1))) = 0 then caseF a2 a0_0.toNat l0_5.length l0_6.length a1.toNat (openedM a0_0 a0_1 a0_2 a0_3 a0_4 l0_5 l0_6 l0_7 []) else ([], [], [])).2.1, (if askE a0_0 a0_1 a0_2 a0_3 a0_4 l0_5 l0_6 l0_7 (decide (0 ≤ a1 ∧ a1 ≤ wrap64 (a0_0 - 1))) = 0 then caseF a2 a0_0.toNat l0_5.length l0_6.length a1.toNat (openedM a0_0 a0_1 a0_2 a0_3 a0_4 l0_5 l0_6 l0_7 []) else ([], [], [])).2.2, askE a0_0 a0_1 a0_2 a0_3 a0_4 l0_5 l0_6 l0_7 (decide (0 ≤ a1 ∧ a1 ≤ wrap64 (a0_0 - 1)))) else none
set_option maxHeartbeats 1000000 in
theorem star_Case.calls (a0_0 : Int) (a0_1 : Int) (a0_2 : Int) (a0_3 : Int) (a0_4 : Int) (A0_5 : Option Addr) (c0_5 : Nat) (l0_5 : List (S23)) (A0_6 : Option Addr) (c0_6 : Nat) (l0_6 : List (S23)) (A0_7 : Option Addr) (c0_7 : Nat) (l0_7 : List (S63)) (a1 : Int) (a2 : Bool) (r1 : List Int) (r2 : List Int) (r3 : List Int) (r4 : Int) (w : World) (hr0_5 : Kd.C k23 w A0_5 l0_5.length l0_5) (hc0_5 : l0_5.length ≤ c0_5) (hr0_6 : Kd.C k23 w A0_6 l0_6.length l0_6) (hc0_6 : l0_6.length ≤ c0_6) (hr0_7 : Kd.C k63 w A0_7 l0_7.length l0_7) (hc0_7 : l0_7.length ≤ c0_7) (hWays : Go.Proofs.YtohbeninpmmmpaaDoor.Ways w) (h : star_Case.f a0_0 a0_1 a0_2 a0_3 a0_4 l0_5 l0_6 l0_7 a1 a2 = some (r1, r2, r3, r4)) :
    Calls Tryd.prog 30 #[.agg #[.int .i64 a0_0, .int .i64 a0_1, .int .i64 a0_2, .int .i64 a0_3, .int .i64 a0_4, .slice A0_5 l0_5.length c0_5, .slice A0_6 l0_6.length c0_6, .slice A0_7 l0_7.length c0_7], .int .i64 a1, .bool a2] w fun e w' => ∃ v0_ v1_ v2_ : Value, e = .returned (.tuple #[.agg #[v0_, v1_, v2_], .int .i64 r4]) ∧ Kd.V (Kd.int .i64) 3 w' w.heap.size (fun k_ => (w.heap.size ≤ k_)) v0_ r1 ∧ Kd.V (Kd.int .i64) 3 w' w.heap.size (fun k_ => (w.heap.size ≤ k_)) v1_ r2 ∧ Kd.V (Kd.int .i64) 3 w' w.heap.size (fun k_ => (w.heap.size ≤ k_)) v2_ r3 ∧ Below w.heap.size w w' := by
  unfold star_Case.f at h
  split at h
  · rename_i hb
    simp only [Option.some.injEq, Prod.mk.injEq] at h
    obtain ⟨rfl, rfl, rfl, rfl⟩ := h
    refine (Go.Proofs.YtohbeninpmmmpaaDoor.Case_any a0_0 a0_1 a0_2 a0_3 a0_4 A0_5 c0_5 l0_5 A0_6 c0_6 l0_6 A0_7 c0_7 l0_7 a1 a2 w hWays hr0_5 hc0_5 hr0_6 hc0_6 hr0_7 hc0_7 ⟨Nat.le_trans hb.1 (by decide), Nat.le_trans hb.2.1 (by decide), Nat.le_trans hb.2.2 (by decide)⟩ _ rfl _ rfl _ _ _ rfl).mono ?_
    rintro e w' ⟨B0, d0, B1, d1, B2, d2, he, hB, q0, q1, q2⟩
    exact ⟨_, _, _, he, V_of_row q0, V_of_row q1, V_of_row q2, hB⟩
  · cases h
def star_Wrong.f (a0_0 : Int) (a0_1 : Int) (a0_2 : Int) (a0_3 : Int) (a0_4 : Int) (l0_5 : List (S23)) (l0_6 : List (S23)) (l0_7 : List (S63)) : Option ((List Int) × Int) := if l0_5.length ≤ 17592186044416 ∧ l0_6.length ≤ 17592186044416 ∧ l0_7.length ≤ 17592186044416 then some (if checkB a0_0 a0_1 a0_2 a0_3 a0_4 l0_5 l0_6 l0_7 = true then (wrongF l0_7.length (canB a0_0 a0_1 a0_2 a0_3 a0_4 l0_5 l0_6 l0_7)).getD [] else [], if checkB a0_0 a0_1 a0_2 a0_3 a0_4 l0_5 l0_6 l0_7 = true then 0 else 30) else none
set_option maxHeartbeats 1000000 in
theorem star_Wrong.calls (a0_0 : Int) (a0_1 : Int) (a0_2 : Int) (a0_3 : Int) (a0_4 : Int) (A0_5 : Option Addr) (c0_5 : Nat) (l0_5 : List (S23)) (A0_6 : Option Addr) (c0_6 : Nat) (l0_6 : List (S23)) (A0_7 : Option Addr) (c0_7 : Nat) (l0_7 : List (S63)) (r1 : List Int) (r2 : Int) (w : World) (hr0_5 : Kd.C k23 w A0_5 l0_5.length l0_5) (hc0_5 : l0_5.length ≤ c0_5) (hr0_6 : Kd.C k23 w A0_6 l0_6.length l0_6) (hc0_6 : l0_6.length ≤ c0_6) (hr0_7 : Kd.C k63 w A0_7 l0_7.length l0_7) (hc0_7 : l0_7.length ≤ c0_7) (hWays : Go.Proofs.YtohbeninpmmmpaaDoor.Ways w) (h : star_Wrong.f a0_0 a0_1 a0_2 a0_3 a0_4 l0_5 l0_6 l0_7 = some (r1, r2)) :
    Calls Tryd.prog 31 #[.agg #[.int .i64 a0_0, .int .i64 a0_1, .int .i64 a0_2, .int .i64 a0_3, .int .i64 a0_4, .slice A0_5 l0_5.length c0_5, .slice A0_6 l0_6.length c0_6, .slice A0_7 l0_7.length c0_7]] w fun e w' => ∃ v0_ : Value, e = .returned (.tuple #[v0_, .int .i64 r2]) ∧ Kd.V (Kd.int .i64) 3 w' w.heap.size (fun k_ => (w.heap.size ≤ k_)) v0_ r1 ∧ Below w.heap.size w w' := by
  unfold star_Wrong.f at h
  split at h
  · rename_i hb
    simp only [Option.some.injEq, Prod.mk.injEq] at h
    obtain ⟨rfl, rfl⟩ := h
    refine (Go.Proofs.YtohbeninpmmmpaaDoor.Wrong_any a0_0 a0_1 a0_2 a0_3 a0_4 A0_5 c0_5 l0_5 A0_6 c0_6 l0_6 A0_7 c0_7 l0_7 w hWays hr0_5 hc0_5 hr0_6 hc0_6 hr0_7 hc0_7 ⟨Nat.le_trans hb.1 (by decide), Nat.le_trans hb.2.1 (by decide), Nat.le_trans hb.2.2 (by decide)⟩).mono ?_
    rintro e w' ⟨l, Al, he, hB, hl, hn, hC⟩
    have e1 : (if checkB a0_0 a0_1 a0_2 a0_3 a0_4 l0_5 l0_6 l0_7 = true then (wrongF l0_7.length (canB a0_0 a0_1 a0_2 a0_3 a0_4 l0_5 l0_6 l0_7)).getD [] else []) = l := by
      split at hl
      · rename_i hck
        rw [if_pos hck, hl]
        rfl
      · rename_i hck
        rw [if_neg hck, hl]
    rw [e1]
    exact ⟨_, he, V_of_row ⟨Nat.le_refl _, hn, hC⟩, hB⟩
  · cases h
def star_Idle.f (a0_0 : Int) (a0_1 : Int) (a0_2 : Int) (a0_3 : Int) (a0_4 : Int) (l0_5 : List (S23)) (l0_6 : List (S23)) (l0_7 : List (S63)) : Option ((List Int) × Int) := if l0_5.length ≤ 17592186044416 ∧ l0_6.length ≤ 17592186044416 ∧ l0_7.length ≤ 17592186044416 then some (if askE a0_0 a0_1 a0_2 a0_3 a0_4 l0_5 l0_6 l0_7 true = 0 then idleF a0_0 a0_1 a0_2 a0_3 a0_4 l0_5 l0_6 l0_7 else [], askE a0_0 a0_1 a0_2 a0_3 a0_4 l0_5 l0_6 l0_7 true) else none
set_option maxHeartbeats 1000000 in
theorem star_Idle.calls (a0_0 : Int) (a0_1 : Int) (a0_2 : Int) (a0_3 : Int) (a0_4 : Int) (A0_5 : Option Addr) (c0_5 : Nat) (l0_5 : List (S23)) (A0_6 : Option Addr) (c0_6 : Nat) (l0_6 : List (S23)) (A0_7 : Option Addr) (c0_7 : Nat) (l0_7 : List (S63)) (r1 : List Int) (r2 : Int) (w : World) (hr0_5 : Kd.C k23 w A0_5 l0_5.length l0_5) (hc0_5 : l0_5.length ≤ c0_5) (hr0_6 : Kd.C k23 w A0_6 l0_6.length l0_6) (hc0_6 : l0_6.length ≤ c0_6) (hr0_7 : Kd.C k63 w A0_7 l0_7.length l0_7) (hc0_7 : l0_7.length ≤ c0_7) (hWays : Go.Proofs.YtohbeninpmmmpaaDoor.Ways w) (h : star_Idle.f a0_0 a0_1 a0_2 a0_3 a0_4 l0_5 l0_6 l0_7 = some (r1, r2)) :
    Calls Tryd.prog 34 #[.agg #[.int .i64 a0_0, .int .i64 a0_1, .int .i64 a0_2, .int .i64 a0_3, .int .i64 a0_4, .slice A0_5 l0_5.length c0_5, .slice A0_6 l0_6.length c0_6, .slice A0_7 l0_7.length c0_7]] w fun e w' => ∃ v0_ : Value, e = .returned (.tuple #[v0_, .int .i64 r2]) ∧ Kd.V (Kd.int .i64) 3 w' w.heap.size (fun k_ => (w.heap.size ≤ k_)) v0_ r1 ∧ Below w.heap.size w w' := by
  unfold star_Idle.f at h
  split at h
  · rename_i hb
    simp only [Option.some.injEq, Prod.mk.injEq] at h
    obtain ⟨rfl, rfl⟩ := h
    refine (Go.Proofs.YtohbeninpmmmpaaDoor.Idle_any a0_0 a0_1 a0_2 a0_3 a0_4 A0_5 c0_5 l0_5 A0_6 c0_6 l0_6 A0_7 c0_7 l0_7 w hWays hr0_5 hc0_5 hr0_6 hc0_6 hr0_7 hc0_7 ⟨Nat.le_trans hb.1 (by decide), Nat.le_trans hb.2.1 (by decide), Nat.le_trans hb.2.2 (by decide)⟩ _ rfl).mono ?_
    rintro e w' ⟨l, Al, he, hB, hl, hn, hC⟩
    rw [← hl]
    exact ⟨_, he, V_of_row ⟨Nat.le_refl _, hn, hC⟩, hB⟩
  · cases h
def star_Worst.f (a0_0 : Int) (a0_1 : Int) (a0_2 : Int) (a0_3 : Int) (a0_4 : Int) (l0_5 : List (S23)) (l0_6 : List (S23)) (l0_7 : List (S63)) : Option (Int × Int × Int) := if l0_5.length ≤ 17592186044416 ∧ l0_6.length ≤ 17592186044416 ∧ l0_7.length ≤ 17592186044416 then some ((worstF (told a0_0 a0_1 a0_2 a0_3 a0_4 l0_5 l0_6 l0_7 []) a0_0.toNat (askE a0_0 a0_1 a0_2 a0_3 a0_4 l0_5 l0_6 l0_7 true)).1.1, (worstF (told a0_0 a0_1 a0_2 a0_3 a0_4 l0_5 l0_6 l0_7 []) a0_0.toNat (askE a0_0 a0_1 a0_2 a0_3 a0_4 l0_5 l0_6 l0_7 true)).1.2, (worstF (told a0_0 a0_1 a0_2 a0_3 a0_4 l0_5 l0_6 l0_7 []) a0_0.toNat (askE a0_0 a0_1 a0_2 a0_3 a0_4 l0_5 l0_6 l0_7 true)).2) else none
set_option maxHeartbeats 1000000 in
theorem star_Worst.calls (a0_0 : Int) (a0_1 : Int) (a0_2 : Int) (a0_3 : Int) (a0_4 : Int) (A0_5 : Option Addr) (c0_5 : Nat) (l0_5 : List (S23)) (A0_6 : Option Addr) (c0_6 : Nat) (l0_6 : List (S23)) (A0_7 : Option Addr) (c0_7 : Nat) (l0_7 : List (S63)) (r1 : Int) (r2 : Int) (r3 : Int) (w : World) (hr0_5 : Kd.C k23 w A0_5 l0_5.length l0_5) (hc0_5 : l0_5.length ≤ c0_5) (hr0_6 : Kd.C k23 w A0_6 l0_6.length l0_6) (hc0_6 : l0_6.length ≤ c0_6) (hr0_7 : Kd.C k63 w A0_7 l0_7.length l0_7) (hc0_7 : l0_7.length ≤ c0_7) (hWays : Go.Proofs.YtohbeninpmmmpaaDoor.Ways w) (h : star_Worst.f a0_0 a0_1 a0_2 a0_3 a0_4 l0_5 l0_6 l0_7 = some (r1, r2, r3)) :
    Calls Tryd.prog 36 #[.agg #[.int .i64 a0_0, .int .i64 a0_1, .int .i64 a0_2, .int .i64 a0_3, .int .i64 a0_4, .slice A0_5 l0_5.length c0_5, .slice A0_6 l0_6.length c0_6, .slice A0_7 l0_7.length c0_7]] w fun e w' => e = .returned (.tuple #[.int .i64 r1, .int .i64 r2, .int .i64 r3]) ∧ Below w.heap.size w w' := by
  unfold star_Worst.f at h
  split at h
  · rename_i hb
    simp only [Option.some.injEq, Prod.mk.injEq] at h
    obtain ⟨rfl, rfl, rfl⟩ := h
    exact Go.Proofs.YtohbeninpmmmpaaDoor.Worst_any a0_0 a0_1 a0_2 a0_3 a0_4 A0_5 c0_5 l0_5 A0_6 c0_6 l0_6 A0_7 c0_7 l0_7 w hWays hr0_5 hc0_5 hr0_6 hc0_6 hr0_7 hc0_7 ⟨Nat.le_trans hb.1 (by decide), Nat.le_trans hb.2.1 (by decide), Nat.le_trans hb.2.2 (by decide)⟩ _ rfl _ _ _ rfl
  · cases h
end Go.Proofs.TrydX.X
end

section
/- What the listed variable gives: the two functions of the table. -/
set_option linter.unusedSimpArgs false
set_option linter.unusedVariables false
namespace Go.Proofs.YtohbeninpmmmpaaDoor
open Go.ChangeShapes Go.WideShapes Go.ChangeAt Go.RowKit

abbrev laid1 {H : Type} : List (String × DataW H) := [("remontoir/star.kinds", Rows.laid_remontoir_star_kinds)]
def gainB : List UInt8 := [40, 114, 101, 109, 111, 110, 116, 111, 105, 114, 47, 115, 116, 97, 114, 46, 98, 111, 111, 107, 41, 46, 115, 101, 101, 110]
def loseB : List UInt8 := [40, 114, 101, 109, 111, 110, 116, 111, 105, 114, 47, 115, 116, 97, 114, 46, 98, 111, 111, 107, 41, 46, 115, 105, 103, 110, 97, 108]
theorem gWays : Tryd.prog.globalNamed "remontoir/star.kinds" = some 0 := by kernel_rfl
noncomputable def named (b : List UInt8) (f : Nat) : Bool := match Tryd.prog.funcs[f]? with
  | some fn => fn.name.toUTF8.data.toList == b
  | none => false
theorem funcs_size : Tryd.prog.funcs.size = 113 := by kernel_rfl
theorem only_gain : ((List.range 113).filter (named gainB)) = [57] := by kernel_rfl
theorem only_lose : ((List.range 113).filter (named loseB)) = [58] := by kernel_rfl
theorem named_of {b : List UInt8} {f g : Nat} (h : named b f = true) (ho : ((List.range 113).filter (named b)) = [g]) : f = g := by
  have hlt : f < 113 := by
    rw [← funcs_size]
    unfold named at h
    cases hf : Tryd.prog.funcs[f]? with
    | none => rw [hf] at h; cases h
    | some fn => exact (Array.getElem?_eq_some_iff.1 hf).1
  have : f ∈ (List.range 113).filter (named b) := List.mem_filter.2 ⟨List.mem_range.2 hlt, h⟩
  rw [ho] at this
  exact List.mem_singleton.1 this
theorem token_is {t : TypeId} {v : Value} {b : List UInt8} (hb : b ≠ []) (h : funcToken Tryd.prog (t, v) = b) : ∃ f, v = .func (.func f) #[] #[] ∧ named b f = true := by
  unfold funcToken at h
  split at h
  · rename_i f first captured heq
    split at h
    · rename_i hc
      simp only [Bool.and_eq_true, Array.isEmpty_iff] at hc
      cases hf : Tryd.prog.funcs[f]? with
      | none => rw [hf] at h; exact absurd h.symm hb
      | some fn =>
        rw [hf] at h
        simp only at h
        split at h
        · refine ⟨f, ?_, by unfold named; rw [hf]; simp only [h, beq_self_eq_true]⟩
          injection heq with _ h2
          rw [h2, hc.1, hc.2]
        · exact absurd h.symm hb
    · exact absurd h.symm hb
  · exact absurd h.symm hb
theorem held_func {P : Program} {H : Type} {enc : TypeId × Value → H} {w : World} {base : Nat} {sp : Nat → Bool} {fuel : Nat} {t : TypeId} {cs : List Value} {x : DataW H × List MemPlace} {y : H} {a b : Array TypeId} {c : Bool} (hu : P.underlying t = some (.func a b c))
    (h : DataW.trod enc P w base sp true fuel t cs = some x) (hx : x.1 = .held y) : ∃ v, cs = [v] ∧ enc (t, v) = y := by
  cases fuel with
  | zero => simp [DataW.trod] at h
  | succ n =>
    unfold DataW.trod at h
    rw [hu] at h
    split at h
    all_goals first
      | (injection h with h; subst h; injection hx with hx; exact ⟨_, rfl, hx⟩)
      | simp_all
      | skip
    all_goals (subst h; simp at hx)
theorem pair_of {α : Type} {l : List α} (h : l.length = 2) : ∃ a b, l = [a, b] := by
  match l, h with
  | [a, b], _ => exact ⟨a, b, rfl⟩
theorem cellsF : Tryd.prog.cellsOf 117 = 1 := by kernel_rfl
/-- What the condition gives the walks. -/
theorem ways_of_laid {W : World} (h : laidMetH Tryd.prog laid1 W) : Ways W := by
  obtain ⟨g, t, cs, fuel, p, hg, ht, hv, hd⟩ := h.funcs (n := "remontoir/star.kinds") (d := .agg [.iface "func" (.lit (.string gainB)), .iface "func" (.lit (.string loseB))]) (List.mem_singleton.2 rfl)
  obtain rfl := Option.some.inj (gWays.symm.trans hg)
  obtain rfl : 118 = t := Option.some.inj ((show (Tryd.prog.globals[0]?).map (·.type) = some 118 by kernel_rfl).symm.trans ht)
  obtain ⟨xs, m, _, hx, hl, hxl, hel⟩ := DataW.trod_array Tryd.underlying118 hd
  have hc2 : Tryd.prog.cellsOf 118 = 2 := by kernel_rfl
  rw [hc2] at hl
  have hout : (DataW.agg [DataW.iface "func" (DataW.lit (Lit.string gainB)), DataW.iface "func" (DataW.lit (Lit.string loseB))] : DataW Unit).funcsOut = .agg [.held gainB, .held loseB] := rfl
  rw [hout] at hx
  obtain ⟨l⟩ := cs
  have h1 := (Prod.mk.inj hx).1
  injection h1 with h1
  obtain ⟨y0, y1, rfl⟩ := pair_of hxl
  obtain ⟨c0, c1, rfl⟩ := pair_of hl
  simp only [List.map_cons, List.map_nil, List.cons.injEq, and_true] at h1
  have e0 := hel 0 (by decide)
  have e1 := hel 1 (by decide)
  simp [cellsF] at e0 e1
  obtain ⟨v0, hv0, t0⟩ := held_func Tryd.underlying117 e0 h1.1.symm
  obtain ⟨v1, hv1, t1⟩ := held_func Tryd.underlying117 e1 h1.2.symm
  obtain rfl : c0 = v0 := by simpa using hv0
  obtain rfl : c1 = v1 := by simpa using hv1
  obtain ⟨f0, rfl, n0⟩ := token_is (by decide) t0
  obtain ⟨f1, rfl, n1⟩ := token_is (by decide) t1
  obtain rfl := named_of n0 only_gain
  obtain rfl := named_of n1 only_lose
  exact ⟨by simpa using World.var?_cell hg hv 0, by simpa using World.var?_cell hg hv 1⟩
/-- The door's own heap meets the condition. -/
theorem door_met (os : Os) (args : Array Value) : laidMetH Tryd.prog laid1 ((World.doorLaid Tryd.prog 400 os).forCall (fun _ _ => 0) ⟨#[], args, []⟩).memory :=
  laidMetH_of_parts3 (fuel := 8) (laidMet_of_run' 8 (by kernel_rfl) (by kernel_rfl)) (by kernel_rfl) (by kernel_rfl)
/-- What is said of the sizes of all arguments, of one. -/
theorem weights_at {P : Program} {H : Type} : ∀ {ts : List TypeId} {ds : List (DataW H)} (_ : (DataW.weightsEach P ts ds).all (· ≤ reachBytes) = true) {j : Nat} {t : TypeId} {d : DataW H}, ts[j]? = some t → ds[j]? = some d → (d.weights P t).all (· ≤ reachBytes) = true
  | [], _, _, _, _, _, h, _ => by cases h
  | _ :: _, [], _, _, _, _, _, h => by cases h
  | t :: ts, d :: ds, h, j, t', d', ht, hd => by
    simp only [DataW.weightsEach, List.all_append, Bool.and_eq_true] at h
    cases j with
    | zero =>
      obtain rfl := Option.some.inj ht
      obtain rfl := Option.some.inj hd
      exact h.1
    | succ j => exact weights_at h.2 (j := j) ht hd
theorem own : ownKnob Tryd.prog.godebug = none := by kernel_rfl
theorem laidOut : laidOutB Tryd.prog = true := by kernel_rfl
end Go.Proofs.YtohbeninpmmmpaaDoor
end

section
-- Written by wip/tools/pr.py (a program of this repo over the kit's print.py).
namespace Go.Proofs.TrydX.X
open Go.RowKit Go.Proofs.YtohbeninpmmmpaaDoorW.PrintWords Go.Proofs.YtohbeninpmmmpaaDoorW.PrintLast Go.Proofs.YtohbeninpmmmpaaDoorW.PrintMore
attribute [local go_sem] max2_int min2_int max_two min_two max_three min_three max_four min_four   -- for this text's walks alone
set_option linter.unusedVariables false
set_option linter.unusedSimpArgs false

/-! ### remontoirref00_Rest: function 42 -/
def remontoirref00_Rest.f (a0 : Int) (a1 : Int) : Option (Int) := if a1 = 0 then (none) else (if (Int.tmod a0 a1) < 0 then (some (wrap64 ((Int.tmod a0 a1) + a1))) else (some (Int.tmod a0 a1)))
set_option maxHeartbeats 8000000 in
set_option maxRecDepth 100000 in
theorem remontoirref00_Rest.calls (a0 : Int) (a1 : Int) (r : Int) (w : World) (h : remontoirref00_Rest.f a0 a1 = some r) :
  Calls Tryd.prog 42 #[.int .i64 a0, .int .i64 a1] w fun e w' => e = .returned (.int .i64 r) ∧ Drawn0 w w' := by
 have H : (if a1 = 0 then (none) else (if (Int.tmod a0 a1) < 0 then (some (wrap64 ((Int.tmod a0 a1) + a1))) else (some (Int.tmod a0 a1)))) = some r := h
 clear h
 by_cases c3 : a1 = 0
 ·
  rw [if_pos c3] at H
  exact absurd H (by simp)
 ·
  rw [if_neg c3] at H
  have c3b0 : (a1 == 0) = false := beq_eq_false_iff_ne.mpr c3
  have c3b1 : (a1 != 0) = true := bne_iff_ne.mpr c3
  by_cases c4 : (Int.tmod a0 a1) < 0
  ·
   rw [if_pos c4] at H
   have c4b0 : decide ((Int.tmod a0 a1) < 0) = true := decide_eq_true c4
   clear c4
   obtain rfl := Option.some.inj H
   go_enter Tryd.func42, Tryd.ntmps42
   go_wp2
   go_ret
   exact ⟨by first | rfl | (simp; done) | (simp [*]; done), by repeat (first | exact Drawn0.refl _ | apply Drawn0.step)⟩
  ·
   rw [if_neg c4] at H
   have c4b0 : decide ((Int.tmod a0 a1) < 0) = false := decide_eq_false c4
   clear c4
   obtain rfl := Option.some.inj H
   go_enter Tryd.func42, Tryd.ntmps42
   go_wp2
   go_ret
   exact ⟨by first | rfl | (simp; done) | (simp [*]; done), by repeat (first | exact Drawn0.refl _ | apply Drawn0.step)⟩

end Go.Proofs.TrydX.X
end

section
-- Written by wip/tools/pr.py (a program of this repo over the kit's print.py).
namespace Go.Proofs.TrydX.X
open Go.RowKit Go.Proofs.YtohbeninpmmmpaaDoorW.PrintWords Go.Proofs.YtohbeninpmmmpaaDoorW.PrintLast Go.Proofs.YtohbeninpmmmpaaDoorW.PrintMore
attribute [local go_sem] max2_int min2_int max_two min_two max_three min_three max_four min_four   -- for this text's walks alone
set_option linter.unusedVariables false
set_option linter.unusedSimpArgs false

/-! ### remontoirref00_In: function 86 -/
def remontoirref00_In.f (a0 : Int) (a1 : Int) : Option (Bool) := if 0 ≤ a1 then (some ((Go.bits .and .i64 (shr .i64 a0 a1) 1) == 1)) else (none)
set_option maxHeartbeats 8000000 in
set_option maxRecDepth 100000 in
theorem remontoirref00_In.calls (a0 : Int) (a1 : Int) (r : Bool) (w : World) (h : remontoirref00_In.f a0 a1 = some r) :
  Calls Tryd.prog 86 #[.int .i64 a0, .int .i64 a1] w fun e w' => e = .returned (.bool r) ∧ Drawn0 w w' := by
 have H : (if 0 ≤ a1 then (some ((Go.bits .and .i64 (shr .i64 a0 a1) 1) == 1)) else (none)) = some r := h
 clear h
 by_cases c3 : 0 ≤ a1
 ·
  rw [if_pos c3] at H
  have c3b0 := eq_true c3
  have c3b1 : decide (0 ≤ a1) = true := decide_eq_true c3
  clear c3
  obtain ⟨ji4, hji4⟩ : ∃ j_ : Int, (shr .i64 a0 a1) = j_ := ⟨_, rfl⟩
  replace H : (some ((Go.bits .and .i64 (ji4) 1) == 1)) = some r := by first | (rw [hji4] at H; exact H) | (simp only [hji4] at H ⊢; exact H)
  have hji4_ : (a0 / 2 ^ min a1.toNat 64) = ji4 := hji4
  have hji4z : a1 ≤ 64 → (a0 / 2 ^ a1.toNat) = ji4 := shr_small hji4
  obtain rfl := Option.some.inj H
  go_enter Tryd.func86, Tryd.ntmps86
  go_wp2
  go_ret
  exact ⟨by first | rfl | (simp; done) | (simp only [← hji4] <;> (first | rfl | simp)) | (simp [*]; done), by repeat (first | exact Drawn0.refl _ | apply Drawn0.step)⟩
 ·
  rw [if_neg c3] at H
  exact absurd H (by simp)

end Go.Proofs.TrydX.X
end
