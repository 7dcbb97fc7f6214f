/- PROVED: ScalePlansCardSaid, for every input, where the listed variable reads as the program's text lays it. Part 5 of 6: of this session; merged by wip/tools/mkClaim.py. -/
import Derived.Test.YtidnopmjhhmedaaDoorMPlansd
import Derived.WalkMore
import Derived.Deep.Cut
import Derived.Test.YtidnopmjhhmedaaDoorMPlansc
section
/- Between what the offset lies. -/
set_option linter.unusedSimpArgs false
set_option linter.unusedVariables false
namespace Go.Proofs.YtidnopmjhhmedaaDoor
open Go.RowKit
attribute [local go_sem] Oper.semAt_some

set_option maxHeartbeats 1000000 in
theorem steer_any (k : Nat) (B : Nat) (a : Option Addr) (n c : Nat) (st : List Int) (w : World) (hB : w.cell? ⟨B, 6, none⟩ = some (.slice a n c)) (hN : Nums w a n st) :
    Calls Tryd.prog 89 #[.int .i64 k, .pointer (some ⟨B, 0, none⟩)] w fun e w' => e = .returned (.int .i64 (stAt st k)) ∧ w = w' := by
  have hl := hN.1
  have hm := hN.2.1
  by_cases hlt : k < n
  · obtain ⟨pb, po, rfl, hcell⟩ := hN.2.2 (by omega)
    have hck := hcell k hlt
    rw [List.getD_eq_getElem?_getD] at hck
    clear hcell hN hl
    go_enter Tryd.func89, Tryd.ntmps89
    go_wp2_with fail
    go_ret
    exact ⟨rfl, rfl⟩
  · have hz : stAt st k = 0 := by rw [stAt, List.getElem?_eq_none (by omega)]; rfl
    rw [hz]
    clear hN hl hz
    go_enter Tryd.func89, Tryd.ntmps89
    go_wp2_with fail
    go_ret
    exact ⟨rfl, rfl⟩

/-- A fact that no tactic opens. -/
structure Shut (p : Prop) : Prop where mk :: (out : p)
/-- The first so many spans are wide. -/
def begF (k : Nat) : Nat → Sp := fun j => if j < k then ⟨-20000, 20000⟩ else ⟨0, 0⟩
theorem begF_succ (k : Nat) : begF (k + 1) = putS (begF k) k ⟨-20000, 20000⟩ := by
  funext j
  by_cases h : j = k
  · simp [begF, putS, h]
  · by_cases h2 : j < k
    · simp [begF, putS, h, h2, show j < k + 1 by omega]
    · simp [begF, putS, h, h2, show ¬ j < k + 1 by omega]
theorem begF_end : ∀ k, k < 61 → begF 61 k = wideF k := fun k h => by simp [begF, wideF, h]

theorem size96 (f : Nat → Sp) : (Tryd.prog.info? 96).map (·.size) = some (encL f).length := by rw [encL_length]; kernel_rfl
theorem size96a (f : Nat → Sp) : (Tryd.prog.info? 96).map (·.size) = some (encL f).toArray.size := by rw [List.size_toArray, encL_length]; kernel_rfl
theorem At.there {w : World} {b : Nat} {f : Nat → Sp} (h : At w b f) (g : Nat → Sp) : w.there b 0 (encL g).toArray.size := by rw [List.size_toArray, encL_length]; exact h.2
/-- A load that is to be left to its turn. -/
def laterLoad (t : Tmp) : Op := .load 23 (.tmp t)
theorem load_later (t : Tmp) : Op.load 23 (.tmp t) = laterLoad t := rfl
attribute [local go_sem] laterLoad
theorem three_below {W W1 : World} {b : Nat} {v0 v1 v2 : Value} (h : W.cell? ⟨b, 0, none⟩ = some v0 ∧ W.cell? ⟨b, 1, none⟩ = some v1 ∧ W.cell? ⟨b, 2, none⟩ = some v2) (hb : Below W.heap.size W W1) :
    W1.cell? ⟨b, 0, none⟩ = some v0 ∧ W1.cell? ⟨b, 1, none⟩ = some v1 ∧ W1.cell? ⟨b, 2, none⟩ = some v2 :=
  ⟨cell_below hb h.1, cell_below hb h.2.1, cell_below hb h.2.2⟩

theorem four_below {W W1 : World} {b b' : Nat} {o : Nat} {v0 v1 v2 v3 : Value} (h : W.cell? ⟨b, 3, none⟩ = some v0 ∧ W.cell? ⟨b, 4, none⟩ = some v1 ∧ W.cell? ⟨b', o, none⟩ = some v2 ∧ W.cell? ⟨b', o + 1, none⟩ = some v3) (hb : Below W.heap.size W W1) :
    W1.cell? ⟨b, 3, none⟩ = some v0 ∧ W1.cell? ⟨b, 4, none⟩ = some v1 ∧ W1.cell? ⟨b', o, none⟩ = some v2 ∧ W1.cell? ⟨b', o + 1, none⟩ = some v3 :=
  ⟨cell_below hb h.1, cell_below hb h.2.1, cell_below hb h.2.2.1, cell_below hb h.2.2.2⟩

/-- The world in which between's loops begin. -/
noncomputable def betW (F S J L H : Int) (t : Nat) (a : Option Addr) (n c : Nat) (a' : Option Addr) (n' c' : Nat) (w : World) : World :=
  ((w.alloc (.cells #[.int .i64 F, .int .i64 S, .int .i64 J, .int .i64 L, .int .i64 H, .int .i64 t, .slice a n c, .slice a' n' c'] 44)).alloc (.cells Tryd.zeroCells96 96)).alloc (.cells Tryd.zeroCells96 96)
structure BetW (L H : Int) (t : Nat) (a : Option Addr) (n c : Nat) (a' : Option Addr) (n' c' : Nat) (w W : World) : Prop where
  bel : Below w.heap.size w W
  size : W.heap.size = w.heap.size + 3
  dl : W.cell? ⟨w.heap.size, 3, none⟩ = some (.int .i64 L)
  dh : W.cell? ⟨w.heap.size, 4, none⟩ = some (.int .i64 H)
  tk : W.cell? ⟨w.heap.size, 5, none⟩ = some (.int .i64 t)
  st : W.cell? ⟨w.heap.size, 6, none⟩ = some (.slice a n c)
  lk : W.cell? ⟨w.heap.size, 7, none⟩ = some (.slice a' n' c')
  res : At W (w.heap.size + 1) zeroF
  at_ : At W (w.heap.size + 1 + 1) zeroF
theorem betW_is (F S J L H : Int) (t : Nat) (a : Option Addr) (n c : Nat) (a' : Option Addr) (n' c' : Nat) (w : World) : BetW L H t a n c a' n' c' w (betW F S J L H t a n c a' n' c' w) := by
  unfold betW
  refine ⟨?_, by simp, by simp [go_sem], by simp [go_sem], by simp [go_sem], by simp [go_sem], by simp [go_sem], ?_, ?_⟩
  · repeat with_reducible (first | exact Below.refl _ _ | refine Below.alloc ?_ (by simp <;> omega) _)
  · have h := At.new (w.alloc (.cells #[.int .i64 F, .int .i64 S, .int .i64 J, .int .i64 L, .int .i64 H, .int .i64 t, .slice a n c, .slice a' n' c'] 44))
    rw [World.size_alloc] at h
    exact h.below ((Below.refl _ _).alloc (Nat.le_refl _) _)
  · have h := At.new ((w.alloc (.cells #[.int .i64 F, .int .i64 S, .int .i64 J, .int .i64 L, .int .i64 H, .int .i64 t, .slice a n c, .slice a' n' c'] 44)).alloc (.cells Tryd.zeroCells96 96))
    rw [World.size_alloc, World.size_alloc] at h
    exact h

set_option maxRecDepth 100000 in
set_option maxHeartbeats 16000000 in
theorem between_any (F S J L H : Int) (t : Nat) (a : Option Addr) (n c : Nat) (a' : Option Addr) (n' c' : Nat) (st : List Int) (lk : List Lk) (w : World) (hN : Nums w a n st) (hK : Looks w a' n' lk) (hb : checkB F S J L H t st lk = true) :
    Calls Tryd.prog 83 #[.agg #[.int .i64 F, .int .i64 S, .int .i64 J, .int .i64 L, .int .i64 H, .int .i64 t, .slice a n c, .slice a' n' c']] w fun e w' => e = .returned (.tuple #[.agg (encL (roundF st L H t (looksF lk))).toArray, .bool (okF t (roundF st L H t (looksF lk)))]) ∧ Below w.heap.size w w' := by
  have hcb := hb
  simp only [checkB, Bool.and_eq_true, decide_eq_true_eq, lies_iff] at hcb
  obtain ⟨⟨⟨⟨⟨hrule, hT1, hT2⟩, hlen⟩, hkeep⟩, hlk10⟩, hlkall⟩ := hcb
  have hrl := hrule
  simp only [isRuleB, Bool.and_eq_true, decide_eq_true_eq, lies_iff] at hrl
  have hdr : -100 ≤ L ∧ L ≤ H ∧ H ≤ 100 := by omega
  have hsteer : ∀ k, -500 ≤ stAt st k ∧ stAt st k ≤ 500 := by
    intro k
    unfold stAt
    rcases Nat.lt_or_ge k st.length with h1 | h1
    · have := keepsB_mem F S J st 0 hkeep st[k] (List.getElem_mem h1)
      simp only [List.getElem?_eq_getElem h1, Option.getD_some]
      omega
    · rw [List.getElem?_eq_none h1]; simp
  have HST := Lib.hid hsteer
  have HF1 := Lib.hid (looksF_bnd t lk hlkall)
  have HNZ := Lib.hid (looksF_ne_zero lk hlk10)
  have HTW := Lib.hid (roundF_twice st hdr.2.1 t (looksF lk))
  obtain ⟨R, hR⟩ : ∃ R, R = roundF st L H t (looksF lk) := ⟨_, rfl⟩
  rw [← hR] at HTW ⊢
  have HBR : Hid (Bnd 92000 R) := Lib.hid (by rw [hR]; exact (roundF_bnd hsteer hdr (by omega) t (by omega) (looksF_bnd t lk hlkall)).mono (by omega))
  have HR := Lib.hid hR
  clear hrule hlen hkeep hlk10 hlkall hrl hsteer hR hT1 hT2
  go_enter Tryd.func83, Tryd.ntmps83
  go_wp2_with fail
  change Code.wp Tryd.prog _ _ _ (betW F S J L H t a n c a' n' c' w)
  have hW := betW_is F S J L H t a n c a' n' c' w
  generalize betW F S J L H t a n c a' n' c' w = W0 at hW ⊢
  have hsz := hW.size
  have HW := Lib.hid hW
  have HA0 := Lib.hid hW.at_
  clear hW
  go_loopw [5, 15] (fun _ i wr => ∃ k : Nat, k ≤ 61 ∧ i = .int .i64 k ∧ At wr (w.heap.size + 1 + 1) (begF k) ∧ Below (w.heap.size + 2) W0 wr) (fun _ i _ => 61 - (intOf i).toNat)
  case atStart => exact ⟨0, Nat.zero_le _, rfl, HA0.out.congr (fun k _ => by simp [begF, zeroF]), Below.refl _ _⟩
  case round =>
    obtain ⟨k, hk, rfl, hat, hB⟩ := hrel
    by_cases hlt : k < 61
    · have hc1 := hat.lo k hlt
      have hc2 := hat.hi k hlt
      have hf1 := hat.free (k * 2) (by omega)
      have hf2 := hat.free (k * 2 + 1) (by omega)
      have HAT := Lib.hid hat
      clear hat
      go_wp2_with fail
      go_roundw
      case rel => exact ⟨k + 1, by omega, by go_num, by rw [begF_succ]; exact HAT.out.set k hlt _ _, by repeat with_reducible (first | exact hB | refine Below.setCell ?_ (by first | omega | (simp <;> omega)) _)⟩
      case measure => simp [intOf]; omega
    · have HAT := Lib.hid (hat.congr (g := wideF) (fun j hj => by rw [show k = 61 by omega]; exact begF_end j hj) : At wr (w.heap.size + 1 + 1) wideF)
      rw [show (k : Int) = 61 by omega]
      clear hat
      have hcl := (hB.cell (p := ⟨w.heap.size, 7, none⟩) (by show w.heap.size < w.heap.size + 2; omega)).trans HW.out.lk
      have HB := Lib.hid hB
      have hz1 := hB.size
      have hkl := hK.1
      have hkm := hK.2.1
      have hn10 : n' ≤ 10 ∧ (t : Int) ≤ 60 ∧ 1 ≤ (t : Int) ∧ lk.all (lookB t) = true := by
        simp only [checkB, Bool.and_eq_true, decide_eq_true_eq, lies_iff] at hb
        have := hb.1.1.1.1.2
        exact ⟨by omega, this.2, this.1, hb.2⟩
      obtain ⟨hn10, ht60, ht1, hall⟩ := hn10
      have HALL := Lib.hid hall
      clear hB hall
      go_wp2_with fail
      go_loopw [7, 25] (fun _ i wr => ∃ k : Nat, k ≤ n' ∧ i = .int .i64 k ∧ At wr (w.heap.size + 1 + 1) ((lk.take k).foldl lookS wideF) ∧ Below (w.heap.size + 2) W0 wr) (fun _ i _ => n' - (intOf i).toNat)
      case atStart => exact ⟨0, Nat.zero_le _, rfl, HAT.out, HB.out⟩
      case round =>
        obtain ⟨k, hk, rfl, hat, hB⟩ := hrel
        by_cases hlt : k < n'
        · have hwr : Below w.heap.size w wr := HW.out.bel.trans (hB.mono (by omega))
          obtain ⟨pb, po, rfl, hcell⟩ := (hK.below hwr).2.2 (by omega)
          have hck := hcell k hlt
          clear hcell
          obtain ⟨x, hx⟩ : ∃ x, x = lk.getD k Lk.zero := ⟨_, rfl⟩
          rw [← hx] at hck
          obtain ⟨hck0, hck1, hck2⟩ := hck
          have hxm : lookB t x = true := by
            have := List.all_eq_true.1 HALL.out (lk[k]'(by omega)) (List.getElem_mem _)
            rw [hx]; simpa [List.getD_eq_getElem?_getD, show k < lk.length by omega] using this
          have htk : (lk.take (k + 1)).foldl lookS wideF = lookS ((lk.take k).foldl lookS wideF) x := by
            rw [List.take_succ_eq_append_getElem (show k < lk.length by omega), List.foldl_append, hx]
            simp [List.getD_eq_getElem?_getD, show k < lk.length by omega]
          obtain ⟨g, hg⟩ : ∃ g, g = (lk.take k).foldl lookS wideF := ⟨_, rfl⟩
          rw [← hg] at hat htk
          have hxm' := hxm
          simp only [lookB, Bool.and_eq_true, lies_iff, decide_eq_true_eq] at hxm'
          obtain ⟨q, hq⟩ : ∃ q : Nat, x.t = q := ⟨x.t.toNat, by omega⟩
          have hq61 : q < 61 := by omega
          have hc1 := hat.lo q hq61
          have hc2 := hat.hi q hq61
          have hf1 := hat.free (q * 2) (by omega)
          have hf2 := hat.free (q * 2 + 1) (by omega)
          have hz2 := hB.size
          have hz3 : w.heap.size + 2 < wr.heap.size := by omega
          rw [hq] at hck0
          have HAT2 := Lib.hid hat
          have HTK := Lib.hid htk
          have HQ := Lib.hid hq
          clear hat htk hq hxm hxm' hg hx
          have hq0 : (0 : Int) ≤ (q : Int) := by omega
          have hq1 : (q : Int) < 61 := by omega
          go_wp2_with fail
          rw [load_later 33]
          go_region_held3 (fun W1 : World => W1.cell? ⟨wr.heap.size, 0, none⟩ = some (.int .i64 q) ∧ W1.cell? ⟨wr.heap.size, 1, none⟩ = some (.int .i64 x.lo) ∧ W1.cell? ⟨wr.heap.size, 2, none⟩ = some (.int .i64 x.hi)) (first | with_reducible exact three_below hq2 hb2 | (simp [go_sem, *]; done))
            (first | (go_at_call 88; rename_i hq2 _ _; refine (both_any _ _ _ _ _).mono ?_; rintro e w3 ⟨rfl, hb2⟩; have hB3 := below_call (((Below.refl _ _).alloc (Nat.le_refl _) _).drew) hb2; have hat3 := HAT2.out.below hB3; have hff1 := hat3.free (q * 2) (by omega); have hff2 := hat3.free (q * 2 + 1) (by omega); have hcc1 := hat3.lo q hq61; have hcc2 := hat3.hi q hq61; have HB3 := Lib.hid hB3; have HA3 := Lib.hid hat3; clear hB3 hat3; have hz4 := hb2.size; simp at hz4; have hz5 : w.heap.size + 1 + 1 < w3.heap.size := (by omega); have hz6 : wr.heap.size < w3.heap.size := (by omega)))
          go_wp2_with fail
          go_roundw
          case rel =>
            refine ⟨k + 1, by omega, by go_num, ?_, ?_⟩
            · rw [HTK.out, lookS, HQ.out]
              exact HA3.out.set q hq61 _ _
            · refine Below.setCell (Below.setCell (hB.trans (HB3.out.mono (by omega))) ?_ _) ?_ _
              · show w.heap.size + 2 ≤ w.heap.size + 1 + 1; omega
              · show w.heap.size + 2 ≤ w.heap.size + 1 + 1; omega
          case measure => simp [intOf]; omega
        · obtain rfl : k = n' := by omega
          have htk : (lk.take k).foldl lookS wideF = looksF lk := by rw [List.take_of_length_le (by omega)]; rfl
          rw [htk] at hat
          have HAT2 := Lib.hid hat
          have hz2 := hB.size
          have hsto := storeCells_At (At.new wr) zeroF
          rw [← zeroL_is] at hsto
          have hAw := (At.new wr).store zeroF
          have hBw : Below wr.heap.size wr ((wr.alloc (.cells Tryd.zeroCells96 96)).setCells wr.heap.size 0 (encL zeroF)) := below_setCells _ _ _ ((Below.refl _ _).alloc (Nat.le_refl _) _) (Nat.le_refl _)
          have hA3 := HAT2.out.below hBw
          rw [← zeroL_is] at hAw hBw hA3
          have hSz : ((wr.alloc (.cells Tryd.zeroCells96 96)).setCells wr.heap.size 0 Tryd.zeroCells96.toList).heap.size = wr.heap.size + 1 := by rw [size_setCells]; simp
          have HAW := Lib.hid hAw
          have HBW := Lib.hid hBw
          have HA3 := Lib.hid hA3
          have HSZ := Lib.hid hSz
          clear htk hat hAw hBw hA3 hSz
          go_wp2_with fail
          generalize (wr.alloc (.cells Tryd.zeroCells96 96)).setCells wr.heap.size 0 Tryd.zeroCells96.toList = W3 at *
          go_loopg [9, 10, 11, 12, 13, 14] 3 (fun r p9 _ _ _ _ _ wx => ∃ (f g : Nat → Sp) (b9 : Nat), p9 = .pointer (some ⟨b9, 0, none⟩) ∧ w.heap.size + 1 + 1 < b9 ∧ At wx (w.heap.size + 1 + 1) f ∧ At wx b9 g ∧ Below (w.heap.size + 2) W0 wx ∧ roundF st L H t f = R ∧ Bnd 92000 f ∧ ((r = 3 ∧ eqF f g = false) ∨ (r = 2 ∧ f = R ∧ okF t R = true) ∨ (r = 1 ∧ f = R ∧ okF t R = true ∧ g = R)))
          case atStart => exact ⟨_, _, _, rfl, by omega, HA3.out, HAW.out, hB.trans (HBW.out.mono (by omega)), HR.out.symm, HF1.out.mono (by omega), .inl ⟨rfl, HNZ.out⟩⟩
          case round =>
            obtain ⟨f, g, b9, rfl, hb9, hAt, hA9, hB4, hRf, hbf, hst3⟩ := hrel
            have heq := eq_At f g wr
            have HRF := Lib.hid hRf
            have HBF := Lib.hid hbf
            have HS3 := Lib.hid hst3
            have HAT := Lib.hid hAt
            have HA9 := Lib.hid hA9
            clear hRf hbf hst3 hA9
            cases he : eqF f g
            · rw [he] at heq
              have HA5 := Lib.hid (show At (wr.setCells b9 0 (encL f).toArray.toList) (w.heap.size + 1 + 1) f from HAT.out.apart (by omega) _ _)
              have HA59 := Lib.hid (show At (wr.setCells b9 0 (encL f).toArray.toList) b9 f from HA9.out.store f)
              have hb5 : Below (w.heap.size + 2) W0 (wr.setCells b9 0 (encL f).toArray.toList) := below_setCells _ _ _ hB4 (by omega)
              have HC5 := Lib.hid ((hb5.cell (p := ⟨w.heap.size, 5, none⟩) (by show w.heap.size < w.heap.size + 2; omega)).trans HW.out.tk)
              have HZ5 := Lib.hid hb5.size
              have HB5 := Lib.hid hb5
              clear hb5
              go_wp2_with (first | (refine wpList_load_mid rfl 96 _ rfl (w.heap.size + 1 + 1) 0 rfl (encL f) _ HAT.out.1 Tryd.underlying96 rfl (size96 f) ?_) | (refine wpList_load_mid rfl 96 _ rfl b9 0 rfl (encL g) _ HA9.out.1 Tryd.underlying96 rfl (size96 g) ?_) | (refine wpList_store_mid rfl 96 _ _ rfl b9 0 (encL f).toArray rfl rfl (HA9.out.there f) (size96a f) (all_oneCell_toArray (encL_one f)) ?_; generalize wr.setCells b9 0 (encL f).toArray.toList = W5 at *; have hc5 := HC5.out; have hz5 := HZ5.out))
              go_step3
              go_wp2_with (first | (refine wpList_load_mid rfl 96 _ rfl (w.heap.size + 1 + 1) 0 rfl (encL f) _ HAT.out.1 Tryd.underlying96 rfl (size96 f) ?_) | (refine wpList_load_mid rfl 96 _ rfl b9 0 rfl (encL g) _ HA9.out.1 Tryd.underlying96 rfl (size96 g) ?_) | (refine wpList_store_mid rfl 96 _ _ rfl b9 0 (encL f).toArray rfl rfl (HA9.out.there f) (size96a f) (all_oneCell_toArray (encL_one f)) ?_; generalize wr.setCells b9 0 (encL f).toArray.toList = W5 at *; have hc5 := HC5.out; have hz5 := HZ5.out))
              go_loopw [10, 11, 48] (fun _ _ i wx => ∃ j : Nat, j ≤ t ∧ i = .int .i64 j ∧ At wx (w.heap.size + 1 + 1) (fwdTo st L H f j) ∧ At wx b9 f ∧ Below (w.heap.size + 2) W0 wx) (fun _ _ i _ => t - (intOf i).toNat)
              case atStart => exact ⟨0, Nat.zero_le _, rfl, HA5.out, HA59.out, HB5.out⟩
              case round =>
                obtain ⟨j, hj, rfl, hAx, hA9x, hBx⟩ := hrel
                have hzx := hBx.size
                by_cases hlt : j < t
                · have hNx := hN.below (HW.out.bel.trans (hBx.mono (by omega)))
                  have hc6 := (hBx.cell (p := ⟨w.heap.size, 6, none⟩) (by show w.heap.size < w.heap.size + 2; omega)).trans HW.out.st
                  have hc3 := (hBx.cell (p := ⟨w.heap.size, 3, none⟩) (by show w.heap.size < w.heap.size + 2; omega)).trans HW.out.dl
                  have hc4 := (hBx.cell (p := ⟨w.heap.size, 4, none⟩) (by show w.heap.size < w.heap.size + 2; omega)).trans HW.out.dh
                  have hbj := fwdTo_bnd HST.out hdr (by omega) HBF.out j
                  obtain ⟨h, hh⟩ : ∃ h, h = fwdTo st L H f j := ⟨_, rfl⟩
                  have hnext : fwdTo st L H f (j + 1) = putS h (j + 1) (bothS (h (j + 1)) ⟨(h j).lo + stAt st j + L, (h j).hi + stAt st j + H⟩) := by rw [hh]; rfl
                  rw [← hh] at hAx hbj
                  have hc21 := hAx.lo j (by omega)
                  have hc22 := hAx.hi j (by omega)
                  have hc23 := hAx.lo (j + 1) (by omega)
                  have hc24 := hAx.hi (j + 1) (by omega)
                  have hbs := HST.out j
                  have hbj := hbj j
                  obtain ⟨p0, hp0⟩ : ∃ p0, p0 = (h j).lo := ⟨_, rfl⟩
                  obtain ⟨p1, hp1⟩ : ∃ p1, p1 = (h j).hi := ⟨_, rfl⟩
                  obtain ⟨q0, hq0⟩ : ∃ q0, q0 = (h (j + 1)).lo := ⟨_, rfl⟩
                  obtain ⟨q1, hq1⟩ : ∃ q1, q1 = (h (j + 1)).hi := ⟨_, rfl⟩
                  obtain ⟨s, hs⟩ : ∃ s, s = stAt st j := ⟨_, rfl⟩
                  have hste := steer_any j w.heap.size a n c st wr hc6 hNx
                  rw [← hs] at hste
                  rw [← hs, ← hp0, ← hp1] at hnext
                  rw [← hp0] at hc21
                  rw [← hp1] at hc22
                  rw [← hq0] at hc23
                  rw [← hq1] at hc24
                  rw [← hs] at hbs
                  rw [← hp0, ← hp1] at hbj
                  have HAX := Lib.hid hAx
                  have HA9X := Lib.hid hA9x
                  have HNE := Lib.hid hnext
                  have HQ0 := Lib.hid hq0
                  have HQ1 := Lib.hid hq1
                  have HBX := Lib.hid hBx
                  have hlt9 := hA9x.lt
                  clear hAx hA9x hnext hp0 hp1 hq0 hq1 hs hh hNx hBx
                  have hj0 : (0 : Int) ≤ (j : Int) := by omega
                  have hj1 : (j : Int) < 61 := by omega
                  have hj2 : (0 : Int) ≤ (j : Int) + 1 := by omega
                  have hj3 : (j : Int) + 1 < 61 := by omega
                  have hwr1 : IntKind.i64.wrap ((j : Int) + 1) = (j : Int) + 1 := IntWalk.i64_in _ (by constructor <;> omega)
                  have hwr2 : IntKind.i64.wrap (p0 + s) = p0 + s := IntWalk.i64_in _ (by constructor <;> omega)
                  have hwr3 : IntKind.i64.wrap (p0 + s + L) = p0 + s + L := IntWalk.i64_in _ (by constructor <;> omega)
                  have hwr4 : IntKind.i64.wrap (p1 + s) = p1 + s := IntWalk.i64_in _ (by constructor <;> omega)
                  have hwr5 : IntKind.i64.wrap (p1 + s + H) = p1 + s + H := IntWalk.i64_in _ (by constructor <;> omega)
                  have hx1 : w.heap.size + 1 + 1 < wr.heap.size := by omega
                  have hx0 : w.heap.size < wr.heap.size := by omega
                  go_wp2_with (go_at_call 89; refine hste.mono ?_; rintro e w' ⟨rfl, rfl⟩)
                  rw [load_later 58]
                  go_region_held3 (fun W1 : World => W1.cell? ⟨w.heap.size, 3, none⟩ = some (.int .i64 L) ∧ W1.cell? ⟨w.heap.size, 4, none⟩ = some (.int .i64 H) ∧ W1.cell? ⟨w.heap.size + 1 + 1, j * 2, none⟩ = some (.int .i64 p0) ∧ W1.cell? ⟨w.heap.size + 1 + 1, j * 2 + 1, none⟩ = some (.int .i64 p1)) (first | with_reducible exact four_below hq2 hb2 | (simp [go_sem, *]; done) | (simp [go_sem, *]; omega))
                    (first | (go_at_call 88; rename_i hq2 _ _; refine (both_any _ _ _ _ _).mono ?_; rintro e w3 ⟨rfl, hb2⟩; have hB3 := below_call ((Below.refl _ _).drew) hb2; have hat3 := HAX.out.below hB3; have hff1 := hat3.free ((j + 1) * 2) (by omega); have hff2 := hat3.free ((j + 1) * 2 + 1) (by omega); have hcc1 := hat3.lo (j + 1) (by omega); have hcc2 := hat3.hi (j + 1) (by omega); rw [← HQ0.out] at hcc1; rw [← HQ1.out] at hcc2; have HB3 := Lib.hid hB3; have HA3 := Lib.hid hat3; clear hB3 hat3; have hz4 := hb2.size; simp at hz4; have hz5 : w.heap.size + 1 + 1 < w3.heap.size := (by omega); have hz6 : w.heap.size < w3.heap.size := (by omega)))
                  go_wp2_with fail
                  go_roundw
                  case rel =>
                    refine ⟨j + 1, by omega, by go_num, ?_, ?_, ?_⟩
                    · rw [HNE.out]
                      have := HA3.out.set (j + 1) (by omega) (max q0 (p0 + s + L)) (min q1 (p1 + s + H))
                      rw [HQ0.out, HQ1.out] at this ⊢
                      exact this
                    · exact (HA9X.out.below HB3.out).apart (by omega) ((j + 1) * 2) [_, _]
                    · refine Below.setCell (Below.setCell (HBX.out.trans (HB3.out.mono (by omega))) ?_ _) ?_ _
                      · show w.heap.size + 2 ≤ w.heap.size + 1 + 1; omega
                      · show w.heap.size + 2 ≤ w.heap.size + 1 + 1; omega
                  case measure => simp [intOf]; omega
                · obtain rfl : t = j := by omega
                  have hc5 := (hBx.cell (p := ⟨w.heap.size, 5, none⟩) (by show w.heap.size < w.heap.size + 2; omega)).trans HW.out.tk
                  have hbj := fwdTo_bnd HST.out hdr (by omega) HBF.out t
                  obtain ⟨h, hh⟩ : ∃ h, h = fwdTo st L H f t := ⟨_, rfl⟩
                  rw [← hh] at hAx hbj
                  have HH := Lib.hid hh
                  have HAX := Lib.hid hAx
                  have HA9X := Lib.hid hA9x
                  have HBX := Lib.hid hBx
                  have HBJ := Lib.hid hbj
                  clear hh hAx hA9x hBx hbj
                  go_wp2_with fail
                  go_loopw [12, 13] (fun v _ wx => ∃ i : Nat, i ≤ t ∧ v = .int .i64 ((t : Int) - 1 - i) ∧ At wx (w.heap.size + 1 + 1) (bwdTo st L H t h i) ∧ At wx b9 f ∧ Below (w.heap.size + 2) W0 wx) (fun v _ _ => (intOf v + 1).toNat)
                  case atStart => exact ⟨0, Nat.zero_le _, by go_num, HAX.out, HA9X.out, HBX.out⟩
                  case round =>
                    obtain ⟨i, hi, rfl, hAx, hA9x, hBx⟩ := hrel
                    have hzx := hBx.size
                    by_cases hlt : i < t
                    · obtain ⟨q, hq⟩ : ∃ q : Nat, t = q + 1 + i := ⟨t - 1 - i, by omega⟩
                      rw [show (t : Int) - 1 - i = (q : Int) by omega]
                      have hNx := hN.below (HW.out.bel.trans (hBx.mono (by omega)))
                      have hc6 := (hBx.cell (p := ⟨w.heap.size, 6, none⟩) (by show w.heap.size < w.heap.size + 2; omega)).trans HW.out.st
                      have hc3 := (hBx.cell (p := ⟨w.heap.size, 3, none⟩) (by show w.heap.size < w.heap.size + 2; omega)).trans HW.out.dl
                      have hc4 := (hBx.cell (p := ⟨w.heap.size, 4, none⟩) (by show w.heap.size < w.heap.size + 2; omega)).trans HW.out.dh
                      have hbj := bwdTo_bnd HST.out hdr (by omega) t HBJ.out i
                      obtain ⟨h', hh⟩ : ∃ h', h' = bwdTo st L H t h i := ⟨_, rfl⟩
                      have hnext : bwdTo st L H t h (i + 1) = putS h' q (bothS (h' q) ⟨(h' (q + 1)).lo - stAt st q - H, (h' (q + 1)).hi - stAt st q - L⟩) := by
                        rw [hh, bwdTo, show t - (i + 1) = q by omega]; rfl
                      rw [← hh] at hAx hbj
                      have hc21 := hAx.lo (q + 1) (by omega)
                      have hc22 := hAx.hi (q + 1) (by omega)
                      have hc23 := hAx.lo q (by omega)
                      have hc24 := hAx.hi q (by omega)
                      have hbs := HST.out q
                      have hbj := hbj (q + 1)
                      obtain ⟨p0, hp0⟩ : ∃ p0, p0 = (h' (q + 1)).lo := ⟨_, rfl⟩
                      obtain ⟨p1, hp1⟩ : ∃ p1, p1 = (h' (q + 1)).hi := ⟨_, rfl⟩
                      obtain ⟨q0, hq0⟩ : ∃ q0, q0 = (h' q).lo := ⟨_, rfl⟩
                      obtain ⟨q1, hq1⟩ : ∃ q1, q1 = (h' q).hi := ⟨_, rfl⟩
                      obtain ⟨s, hs⟩ : ∃ s, s = stAt st q := ⟨_, rfl⟩
                      have hste := steer_any q w.heap.size a n c st wr hc6 hNx
                      rw [← hs] at hste
                      rw [← hs, ← hp0, ← hp1] at hnext
                      rw [← hp0] at hc21
                      rw [← hp1] at hc22
                      rw [← hq0] at hc23
                      rw [← hq1] at hc24
                      rw [← hs] at hbs
                      rw [← hp0, ← hp1] at hbj
                      have HAX2 := Lib.hid hAx
                      have HA9X2 := Lib.hid hA9x
                      have HNE := Lib.hid hnext
                      have HQ0 := Lib.hid hq0
                      have HQ1 := Lib.hid hq1
                      have HBX2 := Lib.hid hBx
                      have HQ := Lib.hid hq
                      have hlt9 := hA9x.lt
                      have hj0 : (0 : Int) ≤ (q : Int) := by omega
                      have hj1 : (q : Int) < 61 := by omega
                      have hj2 : (0 : Int) ≤ (q : Int) + 1 := by omega
                      have hj3 : (q : Int) + 1 < 61 := by omega
                      have hqi : q + 1 < 61 := by omega
                      have hwr0 : IntKind.i64.wrap ((q : Int) - 1) = (q : Int) - 1 := IntWalk.i64_in _ (by constructor <;> omega)
                      have hwr1 : IntKind.i64.wrap ((q : Int) + 1) = (q : Int) + 1 := IntWalk.i64_in _ (by constructor <;> omega)
                      have hwr2 : IntKind.i64.wrap (p0 - s) = p0 - s := IntWalk.i64_in _ (by constructor <;> omega)
                      have hwr3 : IntKind.i64.wrap (p0 - s - H) = p0 - s - H := IntWalk.i64_in _ (by constructor <;> omega)
                      have hwr4 : IntKind.i64.wrap (p1 - s) = p1 - s := IntWalk.i64_in _ (by constructor <;> omega)
                      have hwr5 : IntKind.i64.wrap (p1 - s - L) = p1 - s - L := IntWalk.i64_in _ (by constructor <;> omega)
                      have hx1 : w.heap.size + 1 + 1 < wr.heap.size := by omega
                      have hx0 : w.heap.size < wr.heap.size := by omega
                      clear hAx hA9x hnext hp0 hp1 hq0 hq1 hs hh hNx hBx hq
                      go_wp2_with (go_at_call 89; refine hste.mono ?_; rintro e w' ⟨rfl, rfl⟩)
                      rw [load_later 98]
                      go_region_held3 (fun W1 : World => W1.cell? ⟨w.heap.size, 3, none⟩ = some (.int .i64 L) ∧ W1.cell? ⟨w.heap.size, 4, none⟩ = some (.int .i64 H) ∧ W1.cell? ⟨w.heap.size + 1 + 1, (q + 1) * 2, none⟩ = some (.int .i64 p0) ∧ W1.cell? ⟨w.heap.size + 1 + 1, (q + 1) * 2 + 1, none⟩ = some (.int .i64 p1)) (first | with_reducible exact four_below hq2 hb2 | (simp [go_sem, *]; done) | (simp [go_sem, *]; omega))
                        (first | (go_at_call 88; rename_i hq2 _ _; refine (both_any _ _ _ _ _).mono ?_; rintro e w3 ⟨rfl, hb2⟩; have hB3 := below_call ((Below.refl _ _).drew) hb2; have hat3 := HAX2.out.below hB3; have hff1 := hat3.free (q * 2) (by omega); have hff2 := hat3.free (q * 2 + 1) (by omega); have hcc1 := hat3.lo q (by omega); have hcc2 := hat3.hi q (by omega); rw [← HQ0.out] at hcc1; rw [← HQ1.out] at hcc2; have HB3 := Lib.hid hB3; have HA3 := Lib.hid hat3; clear hB3 hat3; have hz4 := hb2.size; simp at hz4; have hz5 : w.heap.size + 1 + 1 < w3.heap.size := (by omega); have hz6 : w.heap.size < w3.heap.size := (by omega)))
                      go_wp2_with fail
                      go_roundw
                      case rel =>
                        refine ⟨i + 1, by omega, by congr 1; have := HQ.out; omega, ?_, ?_, ?_⟩
                        · rw [HNE.out]
                          have := HA3.out.set q (by omega) (max q0 (p0 - s - H)) (min q1 (p1 - s - L))
                          rw [HQ0.out, HQ1.out] at this ⊢
                          exact this
                        · exact (HA9X2.out.below HB3.out).apart (by omega) (q * 2) [_, _]
                        · refine Below.setCell (Below.setCell (HBX2.out.trans (HB3.out.mono (by omega))) ?_ _) ?_ _
                          · show w.heap.size + 2 ≤ w.heap.size + 1 + 1; omega
                          · show w.heap.size + 2 ≤ w.heap.size + 1 + 1; omega
                      case measure => simp [intOf] <;> omega
                    · have hit : i = t := by omega
                      have hfin : bwdTo st L H t h i = R := by rw [hit, HH.out, ← HRF.out]; rfl
                      rw [hfin] at hAx
                      rw [show (t : Int) - 1 - i = -1 by omega]
                      have hc5 := (hBx.cell (p := ⟨w.heap.size, 5, none⟩) (by show w.heap.size < w.heap.size + 2; omega)).trans HW.out.tk
                      have HAX2 := Lib.hid hAx
                      have HA9X2 := Lib.hid hA9x
                      have HBX2 := Lib.hid hBx
                      have HRES := Lib.hid (HW.out.res.belowN (by omega) hBx)
                      have hwr1 : IntKind.i64.wrap ((t : Int) + 1) = (t : Int) + 1 := IntWalk.i64_in _ (by constructor <;> omega)
                      clear hfin hAx hA9x hBx
                      go_wp2_with fail
                      go_step3
                      go_wp2_with fail
                      go_loopw [14, 130] (fun _ v wx => ∃ m : Nat, m ≤ t + 1 ∧ v = .int .i64 m ∧ (∀ k, k < m → (R k).lo ≤ (R k).hi) ∧ At wx (w.heap.size + 1 + 1) R ∧ At wx b9 f ∧ At wx (w.heap.size + 1) zeroF ∧ Below (w.heap.size + 2) W0 wx) (fun _ v _ => t + 1 - (intOf v).toNat)
                      case atStart => exact ⟨0, Nat.zero_le _, rfl, fun k hk => by omega, HAX2.out, HA9X2.out, HRES.out, HBX2.out⟩
                      case round =>
                        obtain ⟨m, hm, rfl, hok, hAx, hA9x, hAr, hBx⟩ := hrel
                        have hzx := hBx.size
                        by_cases hlt : m < t + 1
                        · have hc21 := hAx.lo m (by omega)
                          have hc22 := hAx.hi m (by omega)
                          obtain ⟨p0, hp0⟩ : ∃ p0, p0 = (R m).lo := ⟨_, rfl⟩
                          obtain ⟨p1, hp1⟩ : ∃ p1, p1 = (R m).hi := ⟨_, rfl⟩
                          rw [← hp0] at hc21
                          rw [← hp1] at hc22
                          have hj0 : (0 : Int) ≤ (m : Int) := by omega
                          have hj1 : (m : Int) < 61 := by omega
                          have hlt' : (m : Int) < (t : Int) + 1 := by omega
                          have HAX3 := Lib.hid hAx
                          have HA9X3 := Lib.hid hA9x
                          have HAR := Lib.hid hAr
                          have HOK := Lib.hid hok
                          have HBX3 := Lib.hid hBx
                          have HP0 := Lib.hid hp0
                          have HP1 := Lib.hid hp1
                          clear hAx hA9x hAr hBx hok hp0 hp1
                          by_cases hpp : p0 ≤ p1
                          · go_wp2_with fail
                            go_region_held3 (fun W1 : World => W1.cell? ⟨w.heap.size + 1 + 1, m * 2, none⟩ = some (.int .i64 p0) ∧ W1.cell? ⟨w.heap.size + 1 + 1, m * 2 + 1, none⟩ = some (.int .i64 p1)) (first | (simp [go_sem, *]; done)) (fail)
                            go_wp2_with fail
                            go_roundw
                            case rel =>
                              refine ⟨m + 1, by omega, by go_num, fun k hk => ?_, HAX3.out.below ((Below.refl _ _).drew), HA9X3.out.below ((Below.refl _ _).drew), HAR.out.below ((Below.refl _ _).drew), HBX3.out.drew⟩
                              by_cases hkm : k = m
                              · rw [hkm, ← HP0.out, ← HP1.out]; exact hpp
                              · exact HOK.out k (by omega)
                            case measure => simp [intOf] <;> omega
                          · have hbad : okF t R = false := by
                              rw [← Bool.not_eq_true, okF, List.all_eq_true]
                              intro ha
                              have h1 := ha m (by simpa using (by omega : m < t + 1))
                              simp only [decide_eq_true_eq] at h1
                              rw [← HP0.out, ← HP1.out] at h1
                              exact hpp h1
                            have HBAD := Lib.hid hbad
                            have hAd : At wr.drew (w.heap.size + 1 + 1) R := HAX3.out.below ((Below.refl _ _).drew)
                            have hRd : At wr.drew (w.heap.size + 1) zeroF := HAR.out.below ((Below.refl _ _).drew)
                            have HAD := Lib.hid hAd
                            have HRD := Lib.hid hRd
                            have HBF6 : Hid (Below w.heap.size w (wr.drew.setCells (w.heap.size + 1) 0 (encL R).toArray.toList)) := Lib.hid (below_setCells _ _ _ ((HW.out.bel.trans (HBX3.out.mono (by omega))).drew) (by omega))
                            have HLV2 : Shut ((loadVar 96 ⟨w.heap.size + 1, 0, none⟩).run Tryd.prog (wr.drew.setCells (w.heap.size + 1) 0 (encL R).toArray.toList) = .ok (.agg (encL R).toArray) (wr.drew.setCells (w.heap.size + 1) 0 (encL R).toArray.toList)) := ⟨loadVar_At (hRd.store R)⟩
                            clear hAd hRd hbad
                            go_wp2_with fail
                            go_region_held3 (fun W1 : World => W1.cell? ⟨w.heap.size + 1 + 1, m * 2, none⟩ = some (.int .i64 p0) ∧ W1.cell? ⟨w.heap.size + 1 + 1, m * 2 + 1, none⟩ = some (.int .i64 p1)) (first | (simp [go_sem, *]; done)) (fail)
                            go_wp2_with (first | (refine wpList_load_mid rfl 96 _ rfl (w.heap.size + 1 + 1) 0 rfl (encL R) _ HAD.out.1 Tryd.underlying96 rfl (size96 R) ?_) | (refine wpList_store_mid rfl 96 _ _ rfl (w.heap.size + 1) 0 (encL R).toArray rfl rfl (HRD.out.there R) (size96a R) (all_oneCell_toArray (encL_one R)) ?_; generalize wr.drew.setCells (w.heap.size + 1) 0 (encL R).toArray.toList = W6 at *))
                            rw [Exit.noGoto_ret]
                            go_wp2_with fail
                            have hlv := HLV2.out
                            refine bodyPost_ret (v := .tuple #[.agg (encL R).toArray, .bool false]) (by have ha : ∀ W : World, Sem.run Tryd.prog (asAddr (Value.pointer (some ⟨w.heap.size + 1, 0, none⟩))) W = .ok ⟨w.heap.size + 1, 0, none⟩ W := fun _ => rfl; simp [results, Tryd.results83, Sem.run_bind, hlv, ha]) rfl ?_
                            rw [HBAD.out]
                            exact ⟨rfl, HBF6.out⟩
                        · have hall : okF t R = true := by
                            rw [okF, List.all_eq_true]
                            intro k hk
                            have hk' : k < t + 1 := by simpa using hk
                            simp only [decide_eq_true_eq]
                            exact hok k (by omega)
                          have HALLR := Lib.hid hall
                          have hlt' : ¬ ((m : Int) < (t : Int) + 1) := by omega
                          have hnew := At.new wr
                          have HNEW := Lib.hid hnew
                          have HN9 := Lib.hid (hnew.store f)
                          have hbn : Below wr.heap.size wr ((wr.alloc (.cells Tryd.zeroCells96 96)).setCells wr.heap.size 0 (encL f).toArray.toList) := below_setCells _ _ _ ((Below.refl _ _).alloc (Nat.le_refl _) _) (Nat.le_refl _)
                          have HN9 : Hid (At ((wr.alloc (.cells Tryd.zeroCells96 96)).setCells wr.heap.size 0 (encL f).toArray.toList) wr.heap.size f) := Lib.hid (hnew.store f)
                          have HBN := Lib.hid hbn
                          have HAX3 := Lib.hid (hAx.below hbn)
                          have HA9X3 := Lib.hid hA9x
                          have HBX3 := Lib.hid hBx
                          clear hAx hA9x hAr hBx hok hall hnew hbn
                          go_wp2_with (first | (refine wpList_load_mid rfl 96 _ rfl b9 0 rfl (encL f) _ HA9X3.out.1 Tryd.underlying96 rfl (size96 f) ?_) | (refine wpList_store_mid rfl 96 _ _ rfl wr.heap.size 0 (encL f).toArray rfl rfl (HNEW.out.there f) (size96a f) (all_oneCell_toArray (encL_one f)) ?_; generalize (wr.alloc (.cells Tryd.zeroCells96 96)).setCells wr.heap.size 0 (encL f).toArray.toList = W6 at *))
                          have HS3' : (gk = 3 ∧ eqF f g = false) ∨ (gk = 2 ∧ f = R ∧ okF t R = true) := by
                            rcases HS3.out with h1 | h1 | ⟨_, h2, _, h4⟩
                            · exact .inl h1
                            · exact .inr h1
                            · exfalso
                              have : eqF f g = true := by rw [h2, h4]; exact eqF_iff.2 fun _ _ => rfl
                              rw [he] at this
                              cases this
                          rcases HS3' with ⟨h3, _⟩ | ⟨h3, h4, _⟩
                          · go_roundg 2
                            case measure => omega
                            case rel => exact ⟨R, f, wr.heap.size, rfl, by omega, HAX3.out, HN9.out, HBX3.out.trans (HBN.out.mono (by omega)), HTW.out, HBR.out, .inr (.inl ⟨rfl, rfl, HALLR.out⟩)⟩
                          · go_roundg 1
                            case measure => omega
                            case rel => exact ⟨R, f, wr.heap.size, rfl, by omega, HAX3.out, HN9.out, HBX3.out.trans (HBN.out.mono (by omega)), HTW.out, HBR.out, .inr (.inr ⟨rfl, rfl, HALLR.out, h4⟩)⟩
            · rw [he] at heq
              have hfR : f = R ∧ okF t R = true := by
                rcases HS3.out with ⟨_, h2⟩ | ⟨_, h2, h3⟩ | ⟨_, h2, h3, _⟩
                · rw [he] at h2; cases h2
                · exact ⟨h2, h3⟩
                · exact ⟨h2, h3⟩
              have HFR := Lib.hid hfR
              have hres := HW.out.res.belowN (show w.heap.size + 1 < w.heap.size + 2 by omega) hB4
              have HRES := Lib.hid hres
              have hr6 := hres.store f
              have HLV := Lib.hid (loadVar_At hr6)
              have HBF6 : Hid (Below w.heap.size w (wr.setCells (w.heap.size + 1) 0 (encL f).toArray.toList)) := Lib.hid (below_setCells _ _ _ (HW.out.bel.trans (hB4.mono (by omega))) (by omega))
              have HLV2 : Shut ((loadVar 96 ⟨w.heap.size + 1, 0, none⟩).run Tryd.prog (wr.setCells (w.heap.size + 1) 0 (encL f).toArray.toList) = .ok (.agg (encL f).toArray) (wr.setCells (w.heap.size + 1) 0 (encL f).toArray.toList)) := ⟨loadVar_At hr6⟩
              clear hfR hres hr6 HLV
              go_wp2_with (first | (refine wpList_load_mid rfl 96 _ rfl (w.heap.size + 1 + 1) 0 rfl (encL f) _ HAT.out.1 Tryd.underlying96 rfl (size96 f) ?_) | (refine wpList_load_mid rfl 96 _ rfl b9 0 rfl (encL g) _ HA9.out.1 Tryd.underlying96 rfl (size96 g) ?_) | (refine wpList_store_mid rfl 96 _ _ rfl (w.heap.size + 1) 0 (encL f).toArray rfl rfl (HRES.out.there f) (size96a f) (all_oneCell_toArray (encL_one f)) ?_; generalize wr.setCells (w.heap.size + 1) 0 (encL f).toArray.toList = W6 at *))
              have hlv := HLV2.out
              refine bodyPost_ret (v := .tuple #[.agg (encL f).toArray, .bool true]) (by have ha : ∀ W : World, Sem.run Tryd.prog (asAddr (Value.pointer (some ⟨w.heap.size + 1, 0, none⟩))) W = .ok ⟨w.heap.size + 1, 0, none⟩ W := fun _ => rfl; simp [results, Tryd.results83, Sem.run_bind, hlv, ha]) rfl ?_
              rw [HFR.out.2, HFR.out.1]
              exact ⟨rfl, HBF6.out⟩

end Go.Proofs.YtidnopmjhhmedaaDoor
end

section
/- What is asked of a book. -/
set_option linter.unusedSimpArgs false
set_option linter.unusedVariables false
namespace Go.Proofs.YtidnopmjhhmedaaDoor
open Go.RowKit
attribute [local go_sem] Oper.semAt_some

theorem Check_any (F S J L H T : Int) (a : Option Addr) (n c : Nat) (a' : Option Addr) (n' c' : Nat) (st : List Int) (lk : List Lk) (w : World) (hN : Nums w a n st) (hK : Looks w a' n' lk) :
    Calls Tryd.prog 29 #[.agg #[.int .i64 F, .int .i64 S, .int .i64 J, .int .i64 L, .int .i64 H, .int .i64 T, .slice a n c, .slice a' n' c']] w fun e w' => e = .returned (.int .i64 (if checkB F S J L H T st lk then 0 else 40)) ∧ Below w.heap.size w w' := by
  cases hr : isRuleB F S J L H
  · have : checkB F S J L H T st lk = false := by simp [checkB, hr]
    rw [this]
    exact Check_no F S J L H T a n c a' n' c' lk w hK hr
  · exact Check_is F S J L H T a n c a' n' c' st lk w hN hK hr _ rfl

theorem zero_size : (Tryd.prog.info? 96).map (·.size) = some Tryd.zeroCells96.size := by kernel_rfl
theorem zero_one : ∀ v ∈ Tryd.zeroCells96.toList, v.oneCell' = true := by rw [zeroL_is]; exact encL_one _
theorem zero_there {w : World} {b : Nat} {f : Nat → Sp} (h : At w b f) : w.there b 0 Tryd.zeroCells96.size := by rw [zeroCells_is]; exact h.there _
theorem store_zero {w : World} {b : Nat} {f : Nat → Sp} (h : At w b f) : At (w.setCells b 0 Tryd.zeroCells96.toList) b zeroF := by rw [zeroL_is]; exact h.store _
theorem asAddr_is (b : Nat) (W : World) : Sem.run Tryd.prog (asAddr (Value.pointer (some ⟨b, 0, none⟩))) W = .ok ⟨b, 0, none⟩ W := rfl

/-- A book's cells. -/
abbrev BookAt (W : World) (b : Nat) (F S J L H T : Int) (a : Option Addr) (n c : Nat) (a' : Option Addr) (n' c' : Nat) : Prop :=
  W.cell? ⟨b, 0, none⟩ = some (.int .i64 F) ∧ W.cell? ⟨b, 1, none⟩ = some (.int .i64 S) ∧ W.cell? ⟨b, 2, none⟩ = some (.int .i64 J) ∧ W.cell? ⟨b, 3, none⟩ = some (.int .i64 L) ∧ W.cell? ⟨b, 4, none⟩ = some (.int .i64 H) ∧
  W.cell? ⟨b, 5, none⟩ = some (.int .i64 T) ∧ W.cell? ⟨b, 6, none⟩ = some (.slice a n c) ∧ W.cell? ⟨b, 7, none⟩ = some (.slice a' n' c')
theorem BookAt.new (w : World) (F S J L H T : Int) (a : Option Addr) (n c : Nat) (a' : Option Addr) (n' c' : Nat) :
    BookAt (w.alloc (.cells #[.int .i64 F, .int .i64 S, .int .i64 J, .int .i64 L, .int .i64 H, .int .i64 T, .slice a n c, .slice a' n' c'] 44)) w.heap.size F S J L H T a n c a' n' c' := by
  unfold BookAt
  refine ⟨?_, ?_, ?_, ?_, ?_, ?_, ?_, ?_⟩ <;> simp [go_sem]
theorem BookAt.below {W W1 : World} {b : Nat} {F S J L H T : Int} {a : Option Addr} {n c : Nat} {a' : Option Addr} {n' c' : Nat} (h : BookAt W b F S J L H T a n c a' n' c') (hb : Below W.heap.size W W1) : BookAt W1 b F S J L H T a n c a' n' c' :=
  ⟨cell_below hb h.1, cell_below hb h.2.1, cell_below hb h.2.2.1, cell_below hb h.2.2.2.1, cell_below hb h.2.2.2.2.1, cell_below hb h.2.2.2.2.2.1, cell_below hb h.2.2.2.2.2.2.1, cell_below hb h.2.2.2.2.2.2.2⟩

/-- The world in which asked begins. -/
noncomputable def askW (F S J L H T : Int) (a : Option Addr) (n c : Nat) (a' : Option Addr) (n' c' : Nat) (w : World) : World :=
  (w.alloc (.cells #[.int .i64 F, .int .i64 S, .int .i64 J, .int .i64 L, .int .i64 H, .int .i64 T, .slice a n c, .slice a' n' c'] 44)).alloc (.cells Tryd.zeroCells96 96)
structure AskW (F S J L H T : Int) (a : Option Addr) (n c : Nat) (a' : Option Addr) (n' c' : Nat) (w W : World) : Prop where
  bel : Below w.heap.size w W
  size : W.heap.size = w.heap.size + 2
  book : BookAt W w.heap.size F S J L H T a n c a' n' c'
  res : At W (w.heap.size + 1) zeroF
theorem askW_is (F S J L H T : Int) (a : Option Addr) (n c : Nat) (a' : Option Addr) (n' c' : Nat) (w : World) : AskW F S J L H T a n c a' n' c' w (askW F S J L H T a n c a' n' c' w) := by
  unfold askW
  refine ⟨?_, by simp, ?_, ?_⟩
  · repeat with_reducible (first | exact Below.refl _ _ | refine Below.alloc ?_ (by simp <;> omega) _)
  · exact (BookAt.new w F S J L H T a n c a' n' c').below ((Below.refl _ _).alloc (Nat.le_refl _) _)
  · have h := At.new (w.alloc (.cells #[.int .i64 F, .int .i64 S, .int .i64 J, .int .i64 L, .int .i64 H, .int .i64 T, .slice a n c, .slice a' n' c'] 44))
    rw [World.size_alloc] at h
    exact h

set_option maxRecDepth 100000 in
set_option maxHeartbeats 1000000 in
theorem asked_bad (F S J L H T : Int) (a : Option Addr) (n c : Nat) (a' : Option Addr) (n' c' : Nat) (st : List Int) (lk : List Lk) (ok : Bool) (w : World) (hN : Nums w a n st) (hK : Looks w a' n' lk) (hb : checkB F S J L H T st lk = false) :
    Calls Tryd.prog 71 #[.agg #[.int .i64 F, .int .i64 S, .int .i64 J, .int .i64 L, .int .i64 H, .int .i64 T, .slice a n c, .slice a' n' c'], .bool ok] w fun e w' => e = .returned (.tuple #[.agg (encL zeroF).toArray, .int .i64 40]) ∧ Below w.heap.size w w' := by
  have hW := askW_is F S J L H T a n c a' n' c' w
  have hNa := hN.below hW.bel
  have hKa := hK.below hW.bel
  have hck := Check_any F S J L H T a n c a' n' c' st lk _ hNa hKa
  simp only [hb, if_true, Bool.false_eq_true, if_false] at hck
  go_enter Tryd.func71, Tryd.ntmps71
  go_wp2_with (fail)
  change Calls Tryd.prog 29 _ (askW F S J L H T a n c a' n' c' w) _
  generalize askW F S J L H T a n c a' n' c' w = W0 at *
  refine hck.mono ?_
  clear hck
  rintro e w1 ⟨rfl, hb1⟩
  have hsz := hW.size
  have hz1 := hb1.size
  have hres := hW.res.below hb1
  have hBk := hW.book.below hb1
  obtain ⟨hk0, hk1, hk2, hk3, hk4, hk5, hk6, hk7⟩ := hBk
  have hbw : Below w.heap.size w w1 := below_call hW.bel hb1
  have HRES := Lib.hid hres
  have HBW := Lib.hid hbw
  have HN := Lib.hid (hN.below hbw)
  have HK := Lib.hid (hK.below hbw)
  have hlv := loadVar_At (store_zero hres)
  have HLV : Shut ((loadVar 96 ⟨w.heap.size + 1, 0, none⟩).run Tryd.prog (w1.setCells (w.heap.size + 1) 0 Tryd.zeroCells96.toList) = .ok (.agg (encL zeroF).toArray) (w1.setCells (w.heap.size + 1) 0 Tryd.zeroCells96.toList)) := ⟨hlv⟩
  have HB6 : Shut (Below w.heap.size w (w1.setCells (w.heap.size + 1) 0 Tryd.zeroCells96.toList)) := ⟨below_setCells _ _ _ hbw (by omega)⟩
  clear hlv hres hbw hNa hKa hN hK hb hW hb1
  go_wp2_with (first | (refine wpList_store_mid rfl 96 _ _ rfl (w.heap.size + 1) 0 Tryd.zeroCells96 rfl rfl (zero_there HRES.out) zero_size (Array.all_eq_true'.2 fun v hv => zero_one v (Array.mem_toList_iff.2 hv)) ?_; generalize w1.setCells (w.heap.size + 1) 0 Tryd.zeroCells96.toList = W6 at *))
  have hlv := HLV.out
  refine bodyPost_ret (v := .tuple #[.agg (encL zeroF).toArray, .int .i64 40]) (by simp [results, Tryd.results71, Sem.run_bind, hlv, asAddr_is]) rfl ⟨rfl, HB6.out⟩

set_option maxRecDepth 100000 in
set_option maxHeartbeats 1000000 in
theorem asked_ask (F S J L H T : Int) (a : Option Addr) (n c : Nat) (a' : Option Addr) (n' c' : Nat) (st : List Int) (lk : List Lk) (w : World) (hN : Nums w a n st) (hK : Looks w a' n' lk) (hb : checkB F S J L H T st lk = true) :
    Calls Tryd.prog 71 #[.agg #[.int .i64 F, .int .i64 S, .int .i64 J, .int .i64 L, .int .i64 H, .int .i64 T, .slice a n c, .slice a' n' c'], .bool false] w fun e w' => e = .returned (.tuple #[.agg (encL zeroF).toArray, .int .i64 41]) ∧ Below w.heap.size w w' := by
  have hW := askW_is F S J L H T a n c a' n' c' w
  have hNa := hN.below hW.bel
  have hKa := hK.below hW.bel
  have hck := Check_any F S J L H T a n c a' n' c' st lk _ hNa hKa
  simp only [hb, if_true, Bool.false_eq_true, if_false] at hck
  go_enter Tryd.func71, Tryd.ntmps71
  go_wp2_with (fail)
  change Calls Tryd.prog 29 _ (askW F S J L H T a n c a' n' c' w) _
  generalize askW F S J L H T a n c a' n' c' w = W0 at *
  refine hck.mono ?_
  clear hck
  rintro e w1 ⟨rfl, hb1⟩
  have hsz := hW.size
  have hz1 := hb1.size
  have hres := hW.res.below hb1
  have hBk := hW.book.below hb1
  obtain ⟨hk0, hk1, hk2, hk3, hk4, hk5, hk6, hk7⟩ := hBk
  have hbw : Below w.heap.size w w1 := below_call hW.bel hb1
  have HRES := Lib.hid hres
  have HBW := Lib.hid hbw
  have HN := Lib.hid (hN.below hbw)
  have HK := Lib.hid (hK.below hbw)
  have hlv := loadVar_At (store_zero hres)
  have HLV : Shut ((loadVar 96 ⟨w.heap.size + 1, 0, none⟩).run Tryd.prog (w1.setCells (w.heap.size + 1) 0 Tryd.zeroCells96.toList) = .ok (.agg (encL zeroF).toArray) (w1.setCells (w.heap.size + 1) 0 Tryd.zeroCells96.toList)) := ⟨hlv⟩
  have HB6 : Shut (Below w.heap.size w (w1.setCells (w.heap.size + 1) 0 Tryd.zeroCells96.toList)) := ⟨below_setCells _ _ _ hbw (by omega)⟩
  clear hlv hres hbw hNa hKa hN hK hb hW hb1
  go_wp2_with (first | (refine wpList_store_mid rfl 96 _ _ rfl (w.heap.size + 1) 0 Tryd.zeroCells96 rfl rfl (zero_there HRES.out) zero_size (Array.all_eq_true'.2 fun v hv => zero_one v (Array.mem_toList_iff.2 hv)) ?_; generalize w1.setCells (w.heap.size + 1) 0 Tryd.zeroCells96.toList = W6 at *))
  have hlv := HLV.out
  refine bodyPost_ret (v := .tuple #[.agg (encL zeroF).toArray, .int .i64 41]) (by simp [results, Tryd.results71, Sem.run_bind, hlv, asAddr_is]) rfl ⟨rfl, HB6.out⟩

set_option maxRecDepth 100000 in
set_option maxHeartbeats 2000000 in
theorem asked_false (F S J L H : Int) (a : Option Addr) (n c : Nat) (a' : Option Addr) (n' c' : Nat) (st : List Int) (lk : List Lk) (t : Nat) (w : World) (hN : Nums w a n st) (hK : Looks w a' n' lk) (hb : checkB F S J L H t st lk = true) (hok : okF t (roundF st L H t (looksF lk)) = false) :
    Calls Tryd.prog 71 #[.agg #[.int .i64 F, .int .i64 S, .int .i64 J, .int .i64 L, .int .i64 H, .int .i64 t, .slice a n c, .slice a' n' c'], .bool true] w fun e w' => e = .returned (.tuple #[.agg (encL (zeroF)).toArray, .int .i64 42]) ∧ Below w.heap.size w w' := by
  have hb0 := hb
  obtain ⟨R, hR⟩ : ∃ R, R = roundF st L H t (looksF lk) := ⟨_, rfl⟩
  rw [← hR] at hok 
  have HR := Lib.hid hR
  clear hR
  have hW := askW_is F S J L H t a n c a' n' c' w
  have hNa := hN.below hW.bel
  have hKa := hK.below hW.bel
  have hck := Check_any F S J L H t a n c a' n' c' st lk _ hNa hKa
  simp only [hb, if_true, Bool.false_eq_true, if_false] at hck
  go_enter Tryd.func71, Tryd.ntmps71
  go_wp2_with (fail)
  change Calls Tryd.prog 29 _ (askW F S J L H t a n c a' n' c' w) _
  generalize askW F S J L H t a n c a' n' c' w = W0 at *
  refine hck.mono ?_
  clear hck
  rintro e w1 ⟨rfl, hb1⟩
  have hsz := hW.size
  have hz1 := hb1.size
  have hres := hW.res.below hb1
  have hBk := hW.book.below hb1
  obtain ⟨hk0, hk1, hk2, hk3, hk4, hk5, hk6, hk7⟩ := hBk
  have hbw : Below w.heap.size w w1 := below_call hW.bel hb1
  have HRES := Lib.hid hres
  have HBW := Lib.hid hbw
  have HN := Lib.hid (hN.below hbw)
  have HK := Lib.hid (hK.below hbw)
  have hlv := loadVar_At (store_zero hres)
  have HLV : Shut ((loadVar 96 ⟨w.heap.size + 1, 0, none⟩).run Tryd.prog (w1.setCells (w.heap.size + 1) 0 Tryd.zeroCells96.toList) = .ok (.agg (encL zeroF).toArray) (w1.setCells (w.heap.size + 1) 0 Tryd.zeroCells96.toList)) := ⟨hlv⟩
  have HB6 : Shut (Below w.heap.size w (w1.setCells (w.heap.size + 1) 0 Tryd.zeroCells96.toList)) := ⟨below_setCells _ _ _ hbw (by omega)⟩
  clear hlv hres hbw hNa hKa hN hK hb hW hb1
  have hbt := between_any F S J L H t a n c a' n' c' st lk w1 HN.out HK.out hb0
  rw [← HR.out, hok] at hbt
  clear hok
  clear hb0
  go_wp2_with fail
  refine hbt.mono ?_
  clear hbt
  rintro e w2 ⟨rfl, hb2⟩
  have hz2 := hb2.size
  have hres2 := HRES.out.below hb2
  have hbw2 := below_call HBW.out hb2
  have hnew := At.new w2
  have hNEW := Lib.hid hnew
  have hbn : Below w2.heap.size w2 ((w2.alloc (.cells Tryd.zeroCells96 96)).setCells w2.heap.size 0 (encL R).toArray.toList) := below_setCells _ _ _ ((Below.refl _ _).alloc (Nat.le_refl _) _) (Nat.le_refl _)
  have hr4 := hres2.below hbn
  have h74 : At ((w2.alloc (.cells Tryd.zeroCells96 96)).setCells w2.heap.size 0 (encL R).toArray.toList) w2.heap.size R := hnew.store R
  have hbw4 := below_call hbw2 hbn
  have hz4 := hbn.size
  have HR4 := Lib.hid hr4
  have H74 := Lib.hid h74
  have HBW4 := Lib.hid hbw4
  clear HLV HB6 HN HK hres2 hbw2 hnew hbn hr4 h74 hbw4 HBW HRES
  go_upto_region 7 with ((refine wpList_store_mid rfl 96 (Operand.tmp 7) (Operand.tmp 21) rfl w2.heap.size 0 (encL R).toArray rfl rfl (hNEW.out.there R) (size96a R) (all_oneCell_toArray (encL_one R)) ?_; generalize (w2.alloc (.cells Tryd.zeroCells96 96)).setCells w2.heap.size 0 (encL R).toArray.toList = W4 at *; have HLV : Shut ((loadVar 96 ⟨w.heap.size + 1, 0, none⟩).run Tryd.prog (W4.setCells (w.heap.size + 1) 0 Tryd.zeroCells96.toList) = .ok (.agg (encL zeroF).toArray) (W4.setCells (w.heap.size + 1) 0 Tryd.zeroCells96.toList)) := ⟨loadVar_At (store_zero HR4.out)⟩; have HB6 : Shut (Below w.heap.size w (W4.setCells (w.heap.size + 1) 0 Tryd.zeroCells96.toList)) := ⟨below_setCells _ _ _ HBW4.out (by omega)⟩))
  go_upto_region 8 with (fail)
  go_wp2_with (first | (refine wpList_store_mid rfl 96 (Operand.tmp 4) (Operand.tmp 25) rfl (w.heap.size + 1) 0 Tryd.zeroCells96 rfl rfl (zero_there HR4.out) zero_size (Array.all_eq_true'.2 fun v hv => zero_one v (Array.mem_toList_iff.2 hv)) ?_; generalize W4.setCells (w.heap.size + 1) 0 Tryd.zeroCells96.toList = W6 at *))
  have hlv := HLV.out
  refine bodyPost_ret (v := .tuple #[.agg (encL zeroF).toArray, .int .i64 42]) (by simp [results, Tryd.results71, Sem.run_bind, hlv, asAddr_is]) rfl ⟨rfl, HB6.out⟩

set_option maxRecDepth 100000 in
set_option maxHeartbeats 2000000 in
theorem asked_true (F S J L H : Int) (a : Option Addr) (n c : Nat) (a' : Option Addr) (n' c' : Nat) (st : List Int) (lk : List Lk) (t : Nat) (w : World) (hN : Nums w a n st) (hK : Looks w a' n' lk) (hb : checkB F S J L H t st lk = true) (hok : okF t (roundF st L H t (looksF lk)) = true) :
    Calls Tryd.prog 71 #[.agg #[.int .i64 F, .int .i64 S, .int .i64 J, .int .i64 L, .int .i64 H, .int .i64 t, .slice a n c, .slice a' n' c'], .bool true] w fun e w' => e = .returned (.tuple #[.agg (encL (roundF st L H t (looksF lk))).toArray, .int .i64 0]) ∧ Below w.heap.size w w' := by
  have hb0 := hb
  obtain ⟨R, hR⟩ : ∃ R, R = roundF st L H t (looksF lk) := ⟨_, rfl⟩
  rw [← hR] at hok ⊢
  have HR := Lib.hid hR
  clear hR
  have hW := askW_is F S J L H t a n c a' n' c' w
  have hNa := hN.below hW.bel
  have hKa := hK.below hW.bel
  have hck := Check_any F S J L H t a n c a' n' c' st lk _ hNa hKa
  simp only [hb, if_true, Bool.false_eq_true, if_false] at hck
  go_enter Tryd.func71, Tryd.ntmps71
  go_wp2_with (fail)
  change Calls Tryd.prog 29 _ (askW F S J L H t a n c a' n' c' w) _
  generalize askW F S J L H t a n c a' n' c' w = W0 at *
  refine hck.mono ?_
  clear hck
  rintro e w1 ⟨rfl, hb1⟩
  have hsz := hW.size
  have hz1 := hb1.size
  have hres := hW.res.below hb1
  have hBk := hW.book.below hb1
  obtain ⟨hk0, hk1, hk2, hk3, hk4, hk5, hk6, hk7⟩ := hBk
  have hbw : Below w.heap.size w w1 := below_call hW.bel hb1
  have HRES := Lib.hid hres
  have HBW := Lib.hid hbw
  have HN := Lib.hid (hN.below hbw)
  have HK := Lib.hid (hK.below hbw)
  have hlv := loadVar_At (store_zero hres)
  have HLV : Shut ((loadVar 96 ⟨w.heap.size + 1, 0, none⟩).run Tryd.prog (w1.setCells (w.heap.size + 1) 0 Tryd.zeroCells96.toList) = .ok (.agg (encL zeroF).toArray) (w1.setCells (w.heap.size + 1) 0 Tryd.zeroCells96.toList)) := ⟨hlv⟩
  have HB6 : Shut (Below w.heap.size w (w1.setCells (w.heap.size + 1) 0 Tryd.zeroCells96.toList)) := ⟨below_setCells _ _ _ hbw (by omega)⟩
  clear hlv hres hbw hNa hKa hN hK hb hW hb1
  have hbt := between_any F S J L H t a n c a' n' c' st lk w1 HN.out HK.out hb0
  rw [← HR.out, hok] at hbt
  clear hok
  clear hb0
  go_wp2_with fail
  refine hbt.mono ?_
  clear hbt
  rintro e w2 ⟨rfl, hb2⟩
  have hz2 := hb2.size
  have hres2 := HRES.out.below hb2
  have hbw2 := below_call HBW.out hb2
  have hnew := At.new w2
  have hNEW := Lib.hid hnew
  have hbn : Below w2.heap.size w2 ((w2.alloc (.cells Tryd.zeroCells96 96)).setCells w2.heap.size 0 (encL R).toArray.toList) := below_setCells _ _ _ ((Below.refl _ _).alloc (Nat.le_refl _) _) (Nat.le_refl _)
  have hr4 := hres2.below hbn
  have h74 : At ((w2.alloc (.cells Tryd.zeroCells96 96)).setCells w2.heap.size 0 (encL R).toArray.toList) w2.heap.size R := hnew.store R
  have hbw4 := below_call hbw2 hbn
  have hz4 := hbn.size
  have HR4 := Lib.hid hr4
  have H74 := Lib.hid h74
  have HBW4 := Lib.hid hbw4
  clear HLV HB6 HN HK hres2 hbw2 hnew hbn hr4 h74 hbw4 HBW HRES
  go_upto_region 7 with ((refine wpList_store_mid rfl 96 (Operand.tmp 7) (Operand.tmp 21) rfl w2.heap.size 0 (encL R).toArray rfl rfl (hNEW.out.there R) (size96a R) (all_oneCell_toArray (encL_one R)) ?_; generalize (w2.alloc (.cells Tryd.zeroCells96 96)).setCells w2.heap.size 0 (encL R).toArray.toList = W4 at *; have HLV : Shut ((loadVar 96 ⟨w.heap.size + 1, 0, none⟩).run Tryd.prog (W4.setCells (w.heap.size + 1) 0 (encL R).toArray.toList) = .ok (.agg (encL R).toArray) (W4.setCells (w.heap.size + 1) 0 (encL R).toArray.toList)) := ⟨loadVar_At (HR4.out.store R)⟩; have HB6 : Shut (Below w.heap.size w (W4.setCells (w.heap.size + 1) 0 (encL R).toArray.toList)) := ⟨below_setCells _ _ _ HBW4.out (by omega)⟩))
  go_upto_region 9 with (fail)
  go_wp2_with (first | (refine wpList_load_mid rfl 96 (Operand.tmp 7) rfl w2.heap.size 0 rfl (encL R) _ H74.out.1 Tryd.underlying96 rfl (size96 R) ?_) | (refine wpList_store_mid rfl 96 (Operand.tmp 4) (Operand.tmp 26) rfl (w.heap.size + 1) 0 (encL R).toArray rfl rfl (HR4.out.there R) (size96a R) (all_oneCell_toArray (encL_one R)) ?_; generalize W4.setCells (w.heap.size + 1) 0 (encL R).toArray.toList = W6 at *))
  have hlv := HLV.out
  refine bodyPost_ret (v := .tuple #[.agg (encL R).toArray, .int .i64 0]) (by simp [results, Tryd.results71, Sem.run_bind, hlv, asAddr_is]) rfl ⟨rfl, HB6.out⟩


end Go.Proofs.YtidnopmjhhmedaaDoor
end

section
/- What an offset is told as: Error, Stated, Worst. -/
set_option linter.unusedSimpArgs false
set_option linter.unusedVariables false
namespace Go.Proofs.YtidnopmjhhmedaaDoor
open Go.RowKit
attribute [local go_sem] Oper.semAt_some

/-- What is solved of a book. -/
def solF (F S J L H T : Int) (st : List Int) (lk : List Lk) : Nat → Sp := roundF st L H T.toNat (looksF lk)
/-- The error of a book that is asked. -/
def askE (F S J L H T : Int) (st : List Int) (lk : List Lk) (ok : Bool) : Int :=
  if checkB F S J L H T st lk = true then if ok = true then if okF T.toNat (solF F S J L H T st lk) = true then 0 else 42 else 41 else 40
theorem askE_cases (F S J L H T : Int) (st : List Int) (lk : List Lk) (ok : Bool) : askE F S J L H T st lk ok = 0 ∨ askE F S J L H T st lk ok = 40 ∨ askE F S J L H T st lk ok = 41 ∨ askE F S J L H T st lk ok = 42 := by
  unfold askE
  split
  · split
    · split
      · exact .inl rfl
      · exact .inr (.inr (.inr rfl))
    · exact .inr (.inr (.inl rfl))
  · exact .inr (.inl rfl)
theorem askE_ok {F S J L H T : Int} {st : List Int} {lk : List Lk} {ok : Bool} (h : askE F S J L H T st lk ok = 0) : checkB F S J L H T st lk = true ∧ ok = true ∧ okF T.toNat (solF F S J L H T st lk) = true := by
  unfold askE at h
  split at h
  · split at h
    · split at h
      · exact ⟨‹_›, ‹_›, ‹_›⟩
      · omega
    · omega
  · omega
theorem check_ticks {F S J L H T : Int} {st : List Int} {lk : List Lk} (h : checkB F S J L H T st lk = true) : 1 ≤ T ∧ T ≤ 60 := by
  simp only [checkB, Bool.and_eq_true, decide_eq_true_eq, lies_iff] at h
  omega

theorem asked_is (F S J L H T : Int) (a : Option Addr) (n c : Nat) (a' : Option Addr) (n' c' : Nat) (st : List Int) (lk : List Lk) (ok : Bool) (E : Int) (G : Nat → Sp) (hE : E = askE F S J L H T st lk ok) (hG : G = if E = 0 then solF F S J L H T st lk else zeroF) (w : World) (hN : Nums w a n st) (hK : Looks w a' n' lk) :
    Calls Tryd.prog 71 #[.agg #[.int .i64 F, .int .i64 S, .int .i64 J, .int .i64 L, .int .i64 H, .int .i64 T, .slice a n c, .slice a' n' c'], .bool ok] w fun e w' => e = .returned (.tuple #[.agg (encL G).toArray, .int .i64 E]) ∧ Below w.heap.size w w' := by
  cases hb : checkB F S J L H T st lk
  · obtain rfl : E = 40 := by rw [hE, askE, hb]; rfl
    obtain rfl : G = zeroF := by rw [hG]; rfl
    exact asked_bad F S J L H T a n c a' n' c' st lk ok w hN hK hb
  · cases ok
    · obtain rfl : E = 41 := by rw [hE, askE, hb]; rfl
      obtain rfl : G = zeroF := by rw [hG]; rfl
      exact asked_ask F S J L H T a n c a' n' c' st lk w hN hK hb
    · have hT := check_ticks hb
      obtain ⟨t, rfl⟩ : ∃ t : Nat, T = t := ⟨T.toNat, by omega⟩
      cases hok : okF t (roundF st L H t (looksF lk))
      · obtain rfl : E = 42 := by rw [hE, askE, hb]; simp only [if_true, solF, Int.toNat_natCast, hok, Bool.false_eq_true, if_false]
        obtain rfl : G = zeroF := by rw [hG]; rfl
        exact asked_false F S J L H a n c a' n' c' st lk t w hN hK hb hok
      · obtain rfl : E = 0 := by rw [hE, askE, hb]; simp only [if_true, solF, Int.toNat_natCast, hok]
        obtain rfl : G = roundF st L H t (looksF lk) := by rw [hG]; simp only [if_true, solF, Int.toNat_natCast]
        exact asked_true F S J L H a n c a' n' c' st lk t w hN hK hb hok

theorem stored {w : World} {b : Nat} {f : Nat → Sp} (h : At w b f) (g : Nat → Sp) : ∃ W, (storeCells ⟨b, 0, none⟩ (encL g)).run Tryd.prog w = .ok () W ∧ At W b g ∧ (∀ n, n ≤ b → Below n w W) ∧ W.heap.size = w.heap.size :=
  ⟨_, storeCells_At h g, by have := h.store g; simpa using this, fun n hn => below_setCells _ _ _ (Below.refl _ _) hn, size_setCells _ _ _⟩
theorem bcellN {n : Nat} {W w1 : World} (hb : Below n W w1) : (∀ b o, b < n → w1.cell? ⟨b, o, none⟩ = W.cell? ⟨b, o, none⟩) ∧ (∀ b o, b < n → w1.frozen? ⟨b, o, none⟩ = W.frozen? ⟨b, o, none⟩) :=
  ⟨fun b o h => hb.cell (p := ⟨b, o, none⟩) h, fun b o h => hb.frozen (p := ⟨b, o, none⟩) h⟩
theorem far_cells (W : World) (b : Nat) (g : Nat → Sp) : (∀ b' o, b' < b → (W.setCells b 0 (encL g)).cell? ⟨b', o, none⟩ = W.cell? ⟨b', o, none⟩) ∧ (∀ b' o, b' < b → (W.setCells b 0 (encL g)).frozen? ⟨b', o, none⟩ = W.frozen? ⟨b', o, none⟩) :=
  bcellN (below_setCells (encL g) 0 W (Below.refl b W) (Nat.le_refl b))
theorem At.drew {w : World} {b : Nat} {f : Nat → Sp} (h : At w b f) : At w.drew b f := h.below ((Below.refl _ _).drew)
theorem there_enc {W : World} {b : Nat} {f : Nat → Sp} (h : At W b f) (g : Nat → Sp) : W.there b 0 (encL g).length := by rw [encL_length]; exact h.2
theorem bookAt_held {W W1 : World} {b : Nat} {F S J L H T : Int} {a : Option Addr} {n c : Nat} {a' : Option Addr} {n' c' : Nat} (h : BookAt W b F S J L H T a n c a' n' c') (hb : Below W.heap.size W W1) : BookAt W1 b F S J L H T a n c a' n' c' := h.below hb
/-- The world in which Error begins. -/
noncomputable def errW0 (F S J L H T : Int) (a : Option Addr) (n c : Nat) (a' : Option Addr) (n' c' : Nat) (w : World) : World :=
  (w.alloc (.cells #[.int .i64 F, .int .i64 S, .int .i64 J, .int .i64 L, .int .i64 H, .int .i64 T, .slice a n c, .slice a' n' c'] 44)).alloc (.cells #[.int .i64 0, .int .i64 0] 23)
structure ErrW (F S J L H T : Int) (a : Option Addr) (n c : Nat) (a' : Option Addr) (n' c' : Nat) (w W : World) : Prop where
  bel : Below w.heap.size w W
  size : W.heap.size = w.heap.size + 2
  book : BookAt W w.heap.size F S J L H T a n c a' n' c'
  r0 : W.cell? ⟨w.heap.size + 1, 0, none⟩ = some (.int .i64 0)
  r1 : W.cell? ⟨w.heap.size + 1, 1, none⟩ = some (.int .i64 0)
  f0 : W.frozen? ⟨w.heap.size + 1, 0, none⟩ = false
  f1 : W.frozen? ⟨w.heap.size + 1, 1, none⟩ = false
theorem errW_is (F S J L H T : Int) (a : Option Addr) (n c : Nat) (a' : Option Addr) (n' c' : Nat) (w : World) : ErrW F S J L H T a n c a' n' c' w (errW0 F S J L H T a n c a' n' c' w) := by
  unfold errW0
  refine ⟨?_, by simp, ?_, by simp [go_sem], by simp [go_sem], by simp [go_sem], by simp [go_sem]⟩
  · repeat with_reducible (first | exact Below.refl _ _ | refine Below.alloc ?_ (by simp <;> omega) _)
  · exact (BookAt.new w F S J L H T a n c a' n' c').below ((Below.refl _ _).alloc (Nat.le_refl _) _)
/-- What the walk of Error knows behind the call. -/
structure ErrK (w W0 w2 : World) : Prop where
  bel : Below (w.heap.size + 2) W0 w2

set_option maxRecDepth 100000 in
set_option maxHeartbeats 2000000 in
theorem Error_bad (F S J L H T tick : Int) (a : Option Addr) (n c : Nat) (a' : Option Addr) (n' c' : Nat) (st : List Int) (lk : List Lk) (E : Int) (hE : E = askE F S J L H T st lk (lies tick 0 T)) (hE0 : (E == 0) = false) (w : World) (hN : Nums w a n st) (hK : Looks w a' n' lk) :
    Calls Tryd.prog 27 #[.agg #[.int .i64 F, .int .i64 S, .int .i64 J, .int .i64 L, .int .i64 H, .int .i64 T, .slice a n c, .slice a' n' c'], .int .i64 tick] w fun e w' => e = .returned (.tuple #[.agg #[.int .i64 0, .int .i64 0], .int .i64 E]) ∧ Below w.heap.size w w' := by
  obtain ⟨G, hG⟩ : ∃ G, G = if E = 0 then solF F S J L H T st lk else zeroF := ⟨_, rfl⟩
  have hask := fun W h1 h2 => asked_is F S J L H T a n c a' n' c' st lk (lies tick 0 T) E G hE hG W h1 h2
  have hW := errW_is F S J L H T a n c a' n' c' w
  have hN0 := hN.below hW.bel
  have hK0 := hK.below hW.bel
  clear hE hG hN hK
  have hE1 : (E != 0) = true := by simpa using hE0
  go_enter Tryd.func27, Tryd.ntmps27
  go_wp2_with fail
  change Code.wp Tryd.prog _ _ _ (errW0 F S J L H T a n c a' n' c' w)
  generalize errW0 F S J L H T a n c a' n' c' w = W0 at *
  have hsz := hW.size
  obtain ⟨hk0, hk1, hk2, hk3, hk4, hk5, hk6, hk7⟩ := hW.book
  have hr0 := hW.r0
  have hr1 := hW.r1
  have hf0 := hW.f0
  have hf1 := hW.f1
  have HN := Lib.hid hN0
  have HK := Lib.hid hK0
  have HB := Lib.hid hW.bel
  clear hW hN0 hK0
  have hone := encL_one G
  have hsize := size96 G
  go_region_held3 (fun W : World => W.cell? ⟨w.heap.size, 0, none⟩ = some (.int .i64 F) ∧ W.cell? ⟨w.heap.size, 1, none⟩ = some (.int .i64 S) ∧ W.cell? ⟨w.heap.size, 2, none⟩ = some (.int .i64 J) ∧ W.cell? ⟨w.heap.size, 3, none⟩ = some (.int .i64 L) ∧ W.cell? ⟨w.heap.size, 4, none⟩ = some (.int .i64 H) ∧ W.cell? ⟨w.heap.size, 5, none⟩ = some (.int .i64 T) ∧ W.cell? ⟨w.heap.size, 6, none⟩ = some (.slice a n c) ∧ W.cell? ⟨w.heap.size, 7, none⟩ = some (.slice a' n' c')) (first | with_reducible exact bookAt_held (by assumption) (by assumption) | (simp [go_sem, *]; done))
    (first | (go_at_call 57; refine (lies_any _ _ _ _).mono ?_; rintro e w' ⟨rfl, rfl⟩) | (go_at_call 71; refine (hask _ (HN.out.below (by repeat with_reducible (first | exact Below.refl _ _ | refine Below.drew ?_ | refine Below.alloc ?_ (Nat.le_refl _) _))) (HK.out.below (by repeat with_reducible (first | exact Below.refl _ _ | refine Below.drew ?_ | refine Below.alloc ?_ (Nat.le_refl _) _)))).mono ?_; rintro e w2 ⟨rfl, hb2⟩; have hz2 := hb2.size; simp at hz2; have hz3 : w.heap.size + 1 < w2.heap.size := (by omega); have hz4 : w.heap.size < w2.heap.size := (by omega); have hbW := below_call (w := W0) (by repeat with_reducible (first | exact Below.refl _ _ | refine Below.drew ?_ | refine Below.alloc ?_ (Nat.le_refl _) _)) hb2; have hq0 := cell_below hbW hr0; have hq1 := cell_below hbW hr1; have hg0 := (hbW.frozen (p := ⟨w.heap.size + 1, 0, none⟩) (by show w.heap.size + 1 < _; omega)).trans hf0; have hg1 := (hbW.frozen (p := ⟨w.heap.size + 1, 1, none⟩) (by show w.heap.size + 1 < _; omega)).trans hf1; have HBF := Lib.hid (HB.out.trans (hbW.mono (by omega)) : Below w.heap.size w w2); clear hbW; (first | (have hA0 := (At.new _).drew.below hb2; have hA : At w2 (w.heap.size + 2) zeroF := (by rw [← hsz]; exact hA0); clear hA0; have hth := there_enc hA G; have hfar := (far_cells w2 (w.heap.size + 2) G); have HA := Lib.hid hA; clear hA) | (have hA := At.new w2; have hth := there_enc hA G; have hfar := far_cells (w2.alloc (.cells Tryd.zeroCells96 96)) w2.heap.size G; have HA := Lib.hid hA; clear hA))))
  all_goals
    go_wp2_with fail
    refine bodyPost_ret (v := .tuple #[.agg #[.int .i64 0, .int .i64 0], .int .i64 E]) (by simp [results, Tryd.results27, go_sem, *]) rfl ⟨rfl, ?_⟩
    have hbf := ‹Hid (Below w.heap.size w _)›.out
    repeat (refine Below.setCell ?_ (by show w.heap.size ≤ w.heap.size + 1; omega) _)
    first
    | exact below_setCells _ _ _ hbf (by omega)
    | exact below_setCells _ _ _ (hbf.alloc (by omega) _) (by omega)
set_option maxRecDepth 100000 in
set_option maxHeartbeats 2000000 in
theorem Error_ok (F S J L H T tick : Int) (a : Option Addr) (n c : Nat) (a' : Option Addr) (n' c' : Nat) (st : List Int) (lk : List Lk) (hE : askE F S J L H T st lk (lies tick 0 T) = 0) (w : World) (hN : Nums w a n st) (hK : Looks w a' n' lk) :
    Calls Tryd.prog 27 #[.agg #[.int .i64 F, .int .i64 S, .int .i64 J, .int .i64 L, .int .i64 H, .int .i64 T, .slice a n c, .slice a' n' c'], .int .i64 tick] w fun e w' => e = .returned (.tuple #[.agg #[.int .i64 (solF F S J L H T st lk tick.toNat).lo, .int .i64 (solF F S J L H T st lk tick.toNat).hi], .int .i64 0]) ∧ Below w.heap.size w w' := by
  obtain ⟨hch, hli, _⟩ := askE_ok hE
  have hT := check_ticks hch
  rw [lies_iff] at hli
  obtain ⟨G, hG⟩ : ∃ G, G = solF F S J L H T st lk := ⟨_, rfl⟩
  rw [← hG]
  have hask := fun W h1 h2 => asked_is F S J L H T a n c a' n' c' st lk (lies tick 0 T) 0 G hE.symm (by rw [hG]; rfl) W h1 h2
  have hW := errW_is F S J L H T a n c a' n' c' w
  have hN0 := hN.below hW.bel
  have hK0 := hK.below hW.bel
  clear hE hG hN hK
  obtain ⟨k, rfl⟩ : ∃ k : Nat, tick = k := ⟨tick.toNat, by omega⟩
  have hk61 : k < 61 := by omega
  have hk0 : (0 : Int) ≤ (k : Int) := by omega
  have hk1 : (k : Int) < 61 := by omega
  rw [Int.toNat_natCast]
  obtain ⟨p0, hp0⟩ : ∃ p0, p0 = (G k).lo := ⟨_, rfl⟩
  obtain ⟨p1, hp1⟩ : ∃ p1, p1 = (G k).hi := ⟨_, rfl⟩
  rw [← hp0, ← hp1]
  have HP0 := Lib.hid hp0
  have HP1 := Lib.hid hp1
  clear hp0 hp1 hch hli hT
  go_enter Tryd.func27, Tryd.ntmps27
  go_wp2_with fail
  change Code.wp Tryd.prog _ _ _ (errW0 F S J L H T a n c a' n' c' w)
  generalize errW0 F S J L H T a n c a' n' c' w = W0 at *
  have hsz := hW.size
  obtain ⟨hb0, hb1, hb22, hb3, hb4, hb5, hb6, hb7⟩ := hW.book
  have hr0 := hW.r0
  have hr1 := hW.r1
  have hf0 := hW.f0
  have hf1 := hW.f1
  have HN := Lib.hid hN0
  have HK := Lib.hid hK0
  have HB := Lib.hid hW.bel
  clear hW hN0 hK0
  have hone := encL_one G
  have hsize := size96 G
  go_region_held3 (fun W : World => W.cell? ⟨w.heap.size, 0, none⟩ = some (.int .i64 F) ∧ W.cell? ⟨w.heap.size, 1, none⟩ = some (.int .i64 S) ∧ W.cell? ⟨w.heap.size, 2, none⟩ = some (.int .i64 J) ∧ W.cell? ⟨w.heap.size, 3, none⟩ = some (.int .i64 L) ∧ W.cell? ⟨w.heap.size, 4, none⟩ = some (.int .i64 H) ∧ W.cell? ⟨w.heap.size, 5, none⟩ = some (.int .i64 T) ∧ W.cell? ⟨w.heap.size, 6, none⟩ = some (.slice a n c) ∧ W.cell? ⟨w.heap.size, 7, none⟩ = some (.slice a' n' c')) (first | with_reducible exact bookAt_held (by assumption) (by assumption) | (simp [go_sem, *]; done))
    (first | (go_at_call 57; refine (lies_any _ _ _ _).mono ?_; rintro e w' ⟨rfl, rfl⟩) | (go_at_call 71; refine (hask _ (HN.out.below (by repeat with_reducible (first | exact Below.refl _ _ | refine Below.drew ?_ | refine Below.alloc ?_ (Nat.le_refl _) _))) (HK.out.below (by repeat with_reducible (first | exact Below.refl _ _ | refine Below.drew ?_ | refine Below.alloc ?_ (Nat.le_refl _) _)))).mono ?_; rintro e w2 ⟨rfl, hb2⟩; have hz2 := hb2.size; simp at hz2; have hz3 : w.heap.size + 1 < w2.heap.size := (by omega); have hz4 : w.heap.size < w2.heap.size := (by omega); have hbW := below_call (w := W0) (by repeat with_reducible (first | exact Below.refl _ _ | refine Below.drew ?_ | refine Below.alloc ?_ (Nat.le_refl _) _)) hb2; have hq0 := cell_below hbW hr0; have hq1 := cell_below hbW hr1; have hg0 := (hbW.frozen (p := ⟨w.heap.size + 1, 0, none⟩) (by show w.heap.size + 1 < _; omega)).trans hf0; have hg1 := (hbW.frozen (p := ⟨w.heap.size + 1, 1, none⟩) (by show w.heap.size + 1 < _; omega)).trans hf1; have HBF := Lib.hid (HB.out.trans (hbW.mono (by omega)) : Below w.heap.size w w2); clear hbW; (first | (have hA0 := (At.new _).drew.below hb2; have hA : At w2 (w.heap.size + 2) zeroF := (by rw [← hsz]; exact hA0); clear hA0; have hth := there_enc hA G; have hfar := (far_cells w2 (w.heap.size + 2) G); have hl0 := (hA.store G).lo k hk61; have hl1 := (hA.store G).hi k hk61; rw [← HP0.out] at hl0; rw [← HP1.out] at hl1; have HL0 := Shut.mk hl0; have HL1 := Shut.mk hl1; clear hA hl0 hl1) | (have hA := At.new w2; have hth := there_enc hA G; have hfar := far_cells (w2.alloc (.cells Tryd.zeroCells96 96)) w2.heap.size G; have hl0 := (hA.store G).lo k hk61; have hl1 := (hA.store G).hi k hk61; rw [← HP0.out] at hl0; rw [← HP1.out] at hl1; have HL0 := Shut.mk hl0; have HL1 := Shut.mk hl1; clear hA hl0 hl1))))
  all_goals
    go_upto_region 4 with (fail)
    have hl0 := (‹Shut (_ = some (Value.int .i64 p0))›).out
    have hl1 := (‹Shut (_ = some (Value.int .i64 p1))›).out
    go_wp2_with fail
    refine bodyPost_ret (v := .tuple #[.agg #[.int .i64 p0, .int .i64 p1], .int .i64 0]) (by simp [results, Tryd.results27, go_sem, *]) rfl ⟨rfl, ?_⟩
    have hbf := ‹Hid (Below w.heap.size w _)›.out
    repeat (refine Below.setCell ?_ (by show w.heap.size ≤ w.heap.size + 1; omega) _)
    first
    | exact below_setCells _ _ _ hbf (by omega)
    | exact below_setCells _ _ _ (hbf.alloc (by omega) _) (by omega)

end Go.Proofs.YtidnopmjhhmedaaDoor
end

section
/- By how much the scale is off at most: Stated, Worst. -/
set_option linter.unusedSimpArgs false
set_option linter.unusedVariables false
namespace Go.Proofs.YtidnopmjhhmedaaDoor
open Go.RowKit
attribute [local go_sem] Oper.semAt_some

theorem rule_of_check {F S J L H T : Int} {st : List Int} {lk : List Lk} (h : checkB F S J L H T st lk = true) : isRuleB F S J L H = true := by
  simp only [checkB, Bool.and_eq_true] at h
  exact h.1.1.1.1.1
theorem stAt_bd {F S J L H T : Int} {st : List Int} {lk : List Lk} (h : checkB F S J L H T st lk = true) : ∀ k, -500 ≤ stAt st k ∧ stAt st k ≤ 500 := by
  have hr := isRuleB_spec (rule_of_check h)
  simp only [checkB, Bool.and_eq_true, decide_eq_true_eq, lies_iff] at h
  obtain ⟨⟨⟨⟨⟨_, _⟩, _⟩, hkeep⟩, _⟩, _⟩ := h
  intro k
  unfold stAt
  rcases Nat.lt_or_ge k st.length with h1 | h1
  · have := keepsB_mem F S J st 0 hkeep st[k] (List.getElem_mem h1)
    simp only [List.getElem?_eq_getElem h1, Option.getD_some]
    omega
  · rw [List.getElem?_eq_none h1]; simp
theorem solF_bd {F S J L H T : Int} {st : List Int} {lk : List Lk} (h : checkB F S J L H T st lk = true) : Bnd 92000 (solF F S J L H T st lk) := by
  have hr := isRuleB_spec (rule_of_check h)
  have hT := check_ticks h
  have hs := stAt_bd h
  simp only [checkB, Bool.and_eq_true, decide_eq_true_eq, lies_iff] at h
  have hl := h.2
  obtain ⟨t, rfl⟩ : ∃ t : Nat, T = t := ⟨T.toNat, by omega⟩
  rw [solF, Int.toNat_natCast]
  exact (roundF_bnd hs hr.2.2.2 (by omega) t (by omega) (looksF_bnd t lk hl)).mono (by omega)

set_option maxRecDepth 100000 in
set_option maxHeartbeats 2000000 in
theorem Stated_bad (F S J L H T tick : Int) (a : Option Addr) (n c : Nat) (a' : Option Addr) (n' c' : Nat) (st : List Int) (lk : List Lk) (E : Int) (hE : E = askE F S J L H T st lk (lies tick 0 T)) (hE0 : (E == 0) = false) (w : World) (hN : Nums w a n st) (hK : Looks w a' n' lk) :
    Calls Tryd.prog 31 #[.agg #[.int .i64 F, .int .i64 S, .int .i64 J, .int .i64 L, .int .i64 H, .int .i64 T, .slice a n c, .slice a' n' c'], .int .i64 tick] w fun e w' => e = .returned (.tuple #[.int .i64 0, .int .i64 E]) ∧ Below w.heap.size w w' := by
  have her := Error_bad F S J L H T tick a n c a' n' c' st lk E hE hE0 _ (hN.alloc1 (.cells #[.int .i64 F, .int .i64 S, .int .i64 J, .int .i64 L, .int .i64 H, .int .i64 T, .slice a n c, .slice a' n' c'] 44)) (hK.alloc1 _)
  have hE1 : (E != 0) = true := by simpa using hE0
  clear hE hN hK
  go_enter Tryd.func31, Tryd.ntmps31
  go_wp2_with (first | (go_at_call 27; refine her.mono ?_; rintro e w1 ⟨rfl, hb⟩; have hz := hb.size; simp at hz; have hz0 : w.heap.size < w1.heap.size := (by omega)))
  go_ret2
  refine ⟨rfl, ?_⟩
  repeat (refine Below.setCell ?_ (by first | omega | (simp <;> omega)) _)
  exact (((Below.refl _ _).alloc (Nat.le_refl _) _).trans (hb.mono (by simp))).alloc (by omega) _

set_option maxRecDepth 100000 in
set_option maxHeartbeats 2000000 in
theorem Stated_ok (F S J L H T tick : Int) (a : Option Addr) (n c : Nat) (a' : Option Addr) (n' c' : Nat) (st : List Int) (lk : List Lk) (hE : askE F S J L H T st lk (lies tick 0 T) = 0) (w : World) (hN : Nums w a n st) (hK : Looks w a' n' lk) :
    Calls Tryd.prog 31 #[.agg #[.int .i64 F, .int .i64 S, .int .i64 J, .int .i64 L, .int .i64 H, .int .i64 T, .slice a n c, .slice a' n' c'], .int .i64 tick] w fun e w' => e = .returned (.tuple #[.int .i64 (max (-(solF F S J L H T st lk tick.toNat).lo) (solF F S J L H T st lk tick.toNat).hi), .int .i64 0]) ∧ Below w.heap.size w w' := by
  have her := Error_ok F S J L H T tick a n c a' n' c' st lk hE _ (hN.alloc1 (.cells #[.int .i64 F, .int .i64 S, .int .i64 J, .int .i64 L, .int .i64 H, .int .i64 T, .slice a n c, .slice a' n' c'] 44)) (hK.alloc1 _)
  have hbd := solF_bd (askE_ok hE).1 tick.toNat
  generalize (solF F S J L H T st lk tick.toNat).lo = p0 at *
  generalize (solF F S J L H T st lk tick.toNat).hi = p1 at *
  clear hE hN hK
  have hp0 : -1000000 ≤ p0 := by omega
  have hp1 : p0 ≤ 1000000 := by omega
  clear hbd
  go_enter Tryd.func31, Tryd.ntmps31
  go_wp2_with (first | (go_at_call 27; refine her.mono ?_; rintro e w1 ⟨rfl, hb⟩; have hz := hb.size; simp at hz; have hz0 : w.heap.size < w1.heap.size := (by omega)) | (go_at_call 74; refine (stated_any _ _ _ hp0 hp1).mono ?_; rintro e w2 ⟨rfl, hb2⟩))
  go_ret2
  refine ⟨rfl, ?_⟩
  refine below_call ?_ hb2
  repeat (refine Below.setCell ?_ (by first | omega | (simp <;> omega)) _)
  exact (((Below.refl _ _).alloc (Nat.le_refl _) _).trans (hb.mono (by simp))).alloc (by omega) _

def statedS (s : Sp) : Int := max (-s.lo) s.hi
/-- The worst of the first so many ticks, and how bad. -/
def worstTo (f : Nat → Sp) : Nat → Int × Int
  | 0 => (0, 0)
  | k + 1 => if k = 0 ∨ (worstTo f k).2 < statedS (f k) then (k, statedS (f k)) else worstTo f k
theorem worstTo_bd {f : Nat → Sp} {B : Int} (h : Bnd B f) (h0 : 0 ≤ B) : ∀ k, -B ≤ (worstTo f k).2 ∧ (worstTo f k).2 ≤ B
  | 0 => by simp [worstTo]; omega
  | k + 1 => by
    have := worstTo_bd h h0 k
    have h2 := h k
    simp only [worstTo]
    split
    · simp only [statedS]; omega
    · exact this

set_option maxRecDepth 100000 in
set_option maxHeartbeats 2000000 in
theorem Worst_bad (F S J L H T : Int) (a : Option Addr) (n c : Nat) (a' : Option Addr) (n' c' : Nat) (st : List Int) (lk : List Lk) (E : Int) (hE : E = askE F S J L H T st lk true) (hE0 : (E == 0) = false) (w : World) (hN : Nums w a n st) (hK : Looks w a' n' lk) :
    Calls Tryd.prog 33 #[.agg #[.int .i64 F, .int .i64 S, .int .i64 J, .int .i64 L, .int .i64 H, .int .i64 T, .slice a n c, .slice a' n' c']] w fun e w' => e = .returned (.tuple #[.int .i64 0, .int .i64 0, .int .i64 E]) ∧ Below w.heap.size w w' := by
  obtain ⟨G, hG⟩ : ∃ G, G = if E = 0 then solF F S J L H T st lk else zeroF := ⟨_, rfl⟩
  have her := asked_is F S J L H T a n c a' n' c' st lk true E G hE hG _ (hN.alloc1 (.cells #[.int .i64 F, .int .i64 S, .int .i64 J, .int .i64 L, .int .i64 H, .int .i64 T, .slice a n c, .slice a' n' c'] 44)) (hK.alloc1 _)
  have hE1 : (E != 0) = true := by simpa using hE0
  clear hE hG hN hK
  go_enter Tryd.func33, Tryd.ntmps33
  go_wp2_with fail
  refine her.mono ?_
  clear her
  rintro e w2 ⟨rfl, hb⟩
  have hz := hb.size
  simp at hz
  have HNEW := Lib.hid (At.new w2)
  have HB : Shut (Below w.heap.size w ((w2.alloc (.cells Tryd.zeroCells96 96)).setCells w2.heap.size 0 (encL G).toArray.toList)) := ⟨below_setCells _ _ _ ((((Below.refl _ _).alloc (Nat.le_refl _) _).trans (hb.mono (by simp))).alloc (by omega) _) (by omega)⟩
  go_upto_region 2 with ((refine wpList_store_mid rfl 96 (Operand.tmp 5) (Operand.tmp 11) rfl w2.heap.size 0 (encL G).toArray rfl rfl (HNEW.out.there G) (size96a G) (all_oneCell_toArray (encL_one G)) ?_; generalize (w2.alloc (.cells Tryd.zeroCells96 96)).setCells w2.heap.size 0 (encL G).toArray.toList = W6 at *))
  go_wp2_with fail
  go_ret3
  exact ⟨rfl, HB.out⟩

set_option maxRecDepth 100000 in
set_option maxHeartbeats 4000000 in
theorem Worst_ok (F S J L H T : Int) (a : Option Addr) (n c : Nat) (a' : Option Addr) (n' c' : Nat) (st : List Int) (lk : List Lk) (t : Nat) (ht : T = t) (hE : askE F S J L H T st lk true = 0) (w : World) (hN : Nums w a n st) (hK : Looks w a' n' lk) :
    Calls Tryd.prog 33 #[.agg #[.int .i64 F, .int .i64 S, .int .i64 J, .int .i64 L, .int .i64 H, .int .i64 T, .slice a n c, .slice a' n' c']] w fun e w' => e = .returned (.tuple #[.int .i64 (worstTo (solF F S J L H T st lk) (t + 1)).1, .int .i64 (worstTo (solF F S J L H T st lk) (t + 1)).2, .int .i64 0]) ∧ Below w.heap.size w w' := by
  have hT := check_ticks (askE_ok hE).1
  have hbd := solF_bd (askE_ok hE).1
  obtain ⟨G, hG⟩ : ∃ G, G = solF F S J L H T st lk := ⟨_, rfl⟩
  have her := asked_is F S J L H T a n c a' n' c' st lk true 0 G hE.symm (by rw [hG]; rfl) _ (hN.alloc1 (.cells #[.int .i64 F, .int .i64 S, .int .i64 J, .int .i64 L, .int .i64 H, .int .i64 T, .slice a n c, .slice a' n' c'] 44)) (hK.alloc1 _)
  rw [← hG] at hbd ⊢
  subst ht
  have HWB := Lib.hid (worstTo_bd hbd (by omega))
  have HBD := Lib.hid hbd
  clear hE hG hN hK hbd
  go_enter Tryd.func33, Tryd.ntmps33
  go_wp2_with fail
  refine her.mono ?_
  clear her
  rintro e w2 ⟨rfl, hb⟩
  have hz := hb.size
  simp at hz
  have HNEW := Lib.hid (At.new w2)
  have hB0 : Below w.heap.size w ((w2.alloc (.cells Tryd.zeroCells96 96)).setCells w2.heap.size 0 (encL G).toArray.toList) := below_setCells _ _ _ ((((Below.refl _ _).alloc (Nat.le_refl _) _).trans (hb.mono (by simp))).alloc (by omega) _) (by omega)
  have HB := Shut.mk hB0
  have HA : Shut (At ((w2.alloc (.cells Tryd.zeroCells96 96)).setCells w2.heap.size 0 (encL G).toArray.toList) w2.heap.size G) := ⟨(At.new w2).store G⟩
  have HT : Shut (((w2.alloc (.cells Tryd.zeroCells96 96)).setCells w2.heap.size 0 (encL G).toArray.toList).cell? ⟨w.heap.size, 5, none⟩ = some (.int .i64 t)) := by
    refine ⟨?_⟩
    have h1 := (bcellN (below_setCells (encL G) 0 (w2.alloc (.cells Tryd.zeroCells96 96)) (Below.refl w2.heap.size _) (Nat.le_refl _))).1 w.heap.size 5 (by omega)
    simp only [List.toList_toArray] at h1 ⊢
    rw [h1]
    exact cell_below ((Below.refl _ _).alloc (Nat.le_refl _) _) (cell_below hb (by simp [go_sem]))
  clear hB0
  go_upto_region 2 with ((refine wpList_store_mid rfl 96 (Operand.tmp 5) (Operand.tmp 11) rfl w2.heap.size 0 (encL G).toArray rfl rfl (HNEW.out.there G) (size96a G) (all_oneCell_toArray (encL_one G)) ?_; generalize (w2.alloc (.cells Tryd.zeroCells96 96)).setCells w2.heap.size 0 (encL G).toArray.toList = W6 at *))
  have hct := HT.out
  go_wp2_with fail
  go_loopw [2, 3, 6, 7, 19] (fun p q _ _ i wx => ∃ k : Nat, k ≤ t + 1 ∧ i = .int .i64 k ∧ p = .int .i64 (worstTo G k).1 ∧ q = .int .i64 (worstTo G k).2 ∧ At wx w2.heap.size G ∧ Below w.heap.size w wx) (fun _ _ _ _ i _ => t + 1 - (intOf i).toNat)
  case atStart => exact ⟨0, Nat.zero_le _, rfl, rfl, rfl, HA.out, HB.out⟩
  case round =>
    obtain ⟨k, hk, rfl, rfl, rfl, hat, hbx⟩ := hrel
    by_cases hlt : k < t + 1
    · have hc1 := hat.lo k (by omega)
      have hc2 := hat.hi k (by omega)
      have hbk := HBD.out k
      have hwk := HWB.out k
      have HS : Hid (worstTo G (k + 1) = if k = 0 ∨ (worstTo G k).2 < statedS (G k) then ((k : Int), statedS (G k)) else worstTo G k) := Lib.hid rfl
      have hsk : statedS (G k) = max (-(G k).lo) (G k).hi := rfl
      obtain ⟨r1, hr1⟩ : ∃ r1, r1 = worstTo G (k + 1) := ⟨_, rfl⟩
      rw [← hr1] at HS
      have HR1 := Lib.hid hr1
      clear hr1
      generalize hr0 : worstTo G k = r0 at *
      obtain ⟨x0, q0⟩ := r0
      generalize (G k).lo = p0 at *
      generalize (G k).hi = p1 at *
      generalize statedS (G k) = s0 at *
      have HSK := Lib.hid hsk
      have hz6 := hat.lt
      have HAT := Lib.hid hat
      have HBX := Lib.hid hbx
      have hi0 : (0 : Int) ≤ (k : Int) := by omega
      have hi1 : (k : Int) < 61 := by omega
      have hp0 : -1000000 ≤ p0 := by omega
      have hp1 : p0 ≤ 1000000 := by omega
      simp only at hwk
      clear hat hbx hsk hbk hr0
      by_cases hc : k = 0 ∨ q0 < s0
      · have HS2 : Hid (r1 = ((k : Int), s0)) := Lib.hid (by rw [HS.out]; simp only [hc, if_true])
        have HC : Hid (k = 0 ∨ q0 < s0) := hc
        rw [HSK.out] at hc
        by_cases h0 : k = 0
        · have hb0 : ((k : Int) == 0) = true := by simp [h0]
          have H0 := Lib.hid h0
          clear hc h0
          go_wp2_with (first | (go_at_call 74; refine (stated_any _ _ _ hp0 hp1).mono ?_; rintro e w3 ⟨rfl, hb3⟩))
          go_roundw
          case rel => exact ⟨k + 1, by omega, by go_num, by rw [← HR1.out, HS2.out], by rw [← HR1.out, HS2.out, HSK.out], HAT.out.below hb3, below_call HBX.out hb3⟩
          case measure => simp [intOf]; omega
        · have hb0 : ((k : Int) == 0) = false := by simp [h0]
          have hgt : q0 < max (-p0) p1 := hc.resolve_left h0
          clear hc h0
          go_wp2_with (first | (go_at_call 74; refine (stated_any _ _ _ hp0 hp1).mono ?_; rintro e w3 ⟨rfl, hb3⟩))
          go_roundw
          case rel => exact ⟨k + 1, by omega, by go_num, by rw [← HR1.out, HS2.out], by rw [← HR1.out, HS2.out, HSK.out], HAT.out.below hb3, below_call HBX.out hb3⟩
          case measure => simp [intOf]; omega
      · have HS2 : Hid (r1 = (x0, q0)) := Lib.hid (by rw [HS.out]; simp only [hc, if_false])
        rw [HSK.out] at hc
        have hb0 : ((k : Int) == 0) = false := by simp; omega
        have hgt : ¬ q0 < max (-p0) p1 := fun h => hc (.inr h)
        clear hc
        go_wp2_with (first | (go_at_call 74; refine (stated_any _ _ _ hp0 hp1).mono ?_; rintro e w3 ⟨rfl, hb3⟩))
        go_roundw
        case rel => exact ⟨k + 1, by omega, by go_num, by rw [← HR1.out, HS2.out], by rw [← HR1.out, HS2.out], HAT.out.below hb3, below_call HBX.out hb3⟩
        case measure => simp [intOf]; omega
    · obtain rfl : k = t + 1 := by omega
      have hlt' : ¬ (((t + 1 : Nat) : Int) < (t : Int) + 1) := by omega
      have HBX := Lib.hid hbx
      clear hat hbx
      go_wp2_with fail
      go_ret3
      exact ⟨rfl, HBX.out⟩

end Go.Proofs.YtidnopmjhhmedaaDoor
end

section
/- When the scale meets true time again: Meets. -/
set_option linter.unusedSimpArgs false
set_option linter.unusedVariables false
namespace Go.Proofs.YtidnopmjhhmedaaDoor
open Go.RowKit
attribute [local go_sem] Oper.semAt_some

set_option maxRecDepth 100000 in
set_option maxHeartbeats 2000000 in
theorem Meets_bad (F S J L H T : Int) (a : Option Addr) (n c : Nat) (a' : Option Addr) (n' c' : Nat) (st : List Int) (lk : List Lk) (E : Int) (hE : E = askE F S J L H T st lk true) (hE0 : (E == 0) = false) (w : World) (hN : Nums w a n st) (hK : Looks w a' n' lk) :
    Calls Tryd.prog 35 #[.agg #[.int .i64 F, .int .i64 S, .int .i64 J, .int .i64 L, .int .i64 H, .int .i64 T, .slice a n c, .slice a' n' c']] w fun e w' => e = .returned (.tuple #[.int .i64 0, .int .i64 0, .int .i64 E]) ∧ Below w.heap.size w w' := by
  obtain ⟨G, hG⟩ : ∃ G, G = if E = 0 then solF F S J L H T st lk else zeroF := ⟨_, rfl⟩
  have her := asked_is F S J L H T a n c a' n' c' st lk true E G hE hG _ (hN.alloc1 (.cells #[.int .i64 F, .int .i64 S, .int .i64 J, .int .i64 L, .int .i64 H, .int .i64 T, .slice a n c, .slice a' n' c'] 44)) (hK.alloc1 _)
  have hE1 : (E != 0) = true := by simpa using hE0
  clear hE hG hN hK
  go_enter Tryd.func35, Tryd.ntmps35
  go_wp2_with fail
  refine her.mono ?_
  clear her
  rintro e w2 ⟨rfl, hb⟩
  have hz := hb.size
  simp at hz
  have HNEW := Lib.hid (At.new w2)
  have HB : Shut (Below w.heap.size w ((w2.alloc (.cells Tryd.zeroCells96 96)).setCells w2.heap.size 0 (encL G).toArray.toList)) := ⟨below_setCells _ _ _ ((((Below.refl _ _).alloc (Nat.le_refl _) _).trans (hb.mono (by simp))).alloc (by omega) _) (by omega)⟩
  go_upto_region 2 with ((refine wpList_store_mid rfl 96 (Operand.tmp 5) (Operand.tmp 13) rfl w2.heap.size 0 (encL G).toArray rfl rfl (HNEW.out.there G) (size96a G) (all_oneCell_toArray (encL_one G)) ?_; generalize (w2.alloc (.cells Tryd.zeroCells96 96)).setCells w2.heap.size 0 (encL G).toArray.toList = W6 at *))
  go_wp2_with fail
  go_ret3
  exact ⟨rfl, HB.out⟩

/-- All lies within what an offset can be. -/
def Nar (f : Nat → Sp) : Prop := ∀ k, -20000 ≤ (f k).lo ∧ (f k).hi ≤ 20000
theorem Nar.put {f : Nat → Sp} (h : Nar f) (k : Nat) (s : Sp) : Nar (putS f k (bothS (f k) s)) := by
  intro j
  have hk := h k
  unfold putS
  split
  · simp only [bothS]; omega
  · exact h j
theorem wide_nar : Nar wideF := fun k => by simp [wideF]
theorem looks_nar (lk : List Lk) : ∀ f, Nar f → Nar (lk.foldl lookS f) := by
  induction lk with
  | nil => intro f h; exact h
  | cons l lk ih => intro f h; exact ih _ (h.put _ _)
theorem fwdTo_nar (st : List Int) (L H : Int) {f : Nat → Sp} (h : Nar f) : ∀ j, Nar (fwdTo st L H f j)
  | 0 => h
  | j + 1 => (fwdTo_nar st L H h j).put _ _
theorem bwdTo_nar (st : List Int) (L H : Int) (t : Nat) {f : Nat → Sp} (h : Nar f) : ∀ j, Nar (bwdTo st L H t f j)
  | 0 => h
  | j + 1 => (bwdTo_nar st L H t h j).put _ _
theorem solF_nar (F S J L H T : Int) (st : List Int) (lk : List Lk) : Nar (solF F S J L H T st lk) := bwdTo_nar _ _ _ _ (fwdTo_nar _ _ _ (looks_nar lk _ wide_nar) _) _
theorem solF_in {F S J L H T : Int} {st : List Int} {lk : List Lk} {ok : Bool} (hE : askE F S J L H T st lk ok = 0) (k : Nat) (hk : (k : Int) ≤ T) :
    -20000 ≤ (solF F S J L H T st lk k).lo ∧ (solF F S J L H T st lk k).lo ≤ (solF F S J L H T st lk k).hi ∧ (solF F S J L H T st lk k).hi ≤ 20000 := by
  have h1 := solF_nar F S J L H T st lk k
  have h2 := (askE_ok hE).2.2
  rw [okF, List.all_eq_true] at h2
  have h3 := h2 k (by simp; omega)
  simp only [decide_eq_true_eq] at h3
  exact ⟨h1.1, h3, h1.2⟩

theorem meets_held {F S J L H : Int} {b P : Nat} {p0 p1 : Int} {w W W1 : World} (hx : RuleAt W P F S J L H b ∧ (W.cell? ⟨P + 1, 0, none⟩ = some (.int .i64 p0) ∧ W.cell? ⟨P + 1, 1, none⟩ = some (.int .i64 p1)) ∧ MW F S J b w W) (hb0 : b ≠ 0) (hP : P ≠ b) (hQ : P + 1 ≠ b) (hp : MemoPost F S J b W W1) :
    RuleAt W1 P F S J L H b ∧ (W1.cell? ⟨P + 1, 0, none⟩ = some (.int .i64 p0) ∧ W1.cell? ⟨P + 1, 1, none⟩ = some (.int .i64 p1)) ∧ MW F S J b w W1 :=
  ⟨RuleAt.next hx.1 hp hP, ⟨cell_grown hp.1 (p := ⟨P + 1, 0, none⟩) hQ hx.2.1.1, cell_grown hp.1 (p := ⟨P + 1, 1, none⟩) hQ hx.2.1.2⟩, MW.next hx.2.2 hb0 hp⟩
theorem RuleAt.below {W W1 : World} {B b : Nat} {F S J L H : Int} (h : RuleAt W B F S J L H b) (hb : Below W.heap.size W W1) : RuleAt W1 B F S J L H b :=
  ⟨cell_below hb h.1, cell_below hb h.2.1, cell_below hb h.2.2.1, cell_below hb h.2.2.2.1, cell_below hb h.2.2.2.2.1, cell_below hb h.2.2.2.2.2⟩
theorem meets_alloc {F S J L H : Int} {b P : Nat} {p0 p1 : Int} {w W : World} {o : Obj} (hx : RuleAt W P F S J L H b ∧ (W.cell? ⟨P + 1, 0, none⟩ = some (.int .i64 p0) ∧ W.cell? ⟨P + 1, 1, none⟩ = some (.int .i64 p1)) ∧ MW F S J b w W) :
    RuleAt (W.alloc o) P F S J L H b ∧ ((W.alloc o).cell? ⟨P + 1, 0, none⟩ = some (.int .i64 p0) ∧ (W.alloc o).cell? ⟨P + 1, 1, none⟩ = some (.int .i64 p1)) ∧ MW F S J b w (W.alloc o) :=
  have hb : Below W.heap.size W (W.alloc o) := (Below.refl _ _).alloc (Nat.le_refl _) _
  ⟨hx.1.below hb, ⟨cell_below hb hx.2.1.1, cell_below hb hx.2.1.2⟩, hx.2.2.below hb⟩

set_option maxRecDepth 100000 in
set_option maxHeartbeats 4000000 in
theorem Meets_ok (F S J L H T : Int) (a : Option Addr) (n c : Nat) (a' : Option Addr) (n' c' : Nat) (st : List Int) (lk : List Lk) (t : Nat) (ht : T = t) (hE : askE F S J L H T st lk true = 0) (w : World) (hw : Ways w) (hN : Nums w a n st) (hK : Looks w a' n' lk) (f0 f1 : Int)
    (hf0 : f0 = fewest F S J (solF F S J L H T st lk t).lo) (hf1 : f1 = fewest F S J (solF F S J L H T st lk t).hi) (v : Value)
    (hv : v = if f0 = -1 ∨ f1 = -1 then .tuple #[.int .i64 0, .int .i64 0, .int .i64 4] else .tuple #[.int .i64 (max f0 f1), .int .i64 (if (solF F S J L H T st lk t).lo ≤ 0 ∧ 0 ≤ (solF F S J L H T st lk t).hi then 0 else min f0 f1), .int .i64 0]) :
    Calls Tryd.prog 35 #[.agg #[.int .i64 F, .int .i64 S, .int .i64 J, .int .i64 L, .int .i64 H, .int .i64 T, .slice a n c, .slice a' n' c']] w fun e w' => e = .returned v ∧ Below w.heap.size w w' := by
  have hT := check_ticks (askE_ok hE).1
  have hrule := rule_of_check (askE_ok hE).1
  have hin := solF_in hE t (by omega)
  obtain ⟨G, hG⟩ : ∃ G, G = solF F S J L H T st lk := ⟨_, rfl⟩
  have her := asked_is F S J L H T a n c a' n' c' st lk true 0 G hE.symm (by rw [hG]; rfl) _ (hN.alloc1 (.cells #[.int .i64 F, .int .i64 S, .int .i64 J, .int .i64 L, .int .i64 H, .int .i64 T, .slice a n c, .slice a' n' c'] 44)) (hK.alloc1 _)
  rw [← hG] at hin hf0 hf1 hv
  subst ht
  obtain ⟨p0, hp0⟩ : ∃ p0, p0 = (G t).lo := ⟨_, rfl⟩
  obtain ⟨p1, hp1⟩ : ∃ p1, p1 = (G t).hi := ⟨_, rfl⟩
  rw [← hp0, ← hp1] at hin hv
  rw [← hp0] at hf0
  rw [← hp1] at hf1
  have HP0 := Lib.hid hp0
  have HP1 := Lib.hid hp1
  have HF0 := Lib.hid hf0
  have HF1 := Lib.hid hf1
  have HV := Lib.hid hv
  have HR := Lib.hid hrule
  have hw0 : 0 < w.heap.size := World.block_lt_of_cell? w _ hw.1
  have HW := Lib.hid hw
  clear hE hG hN hK hp0 hp1 hf0 hf1 hv hrule hw
  go_enter Tryd.func35, Tryd.ntmps35
  go_wp2_with fail
  refine her.mono ?_
  clear her
  rintro e w2 ⟨rfl, hb⟩
  have hz := hb.size
  simp at hz
  have HNEW := Lib.hid (At.new w2)
  have hB0 : Below w.heap.size w ((w2.alloc (.cells Tryd.zeroCells96 96)).setCells w2.heap.size 0 (encL G).toArray.toList) := below_setCells _ _ _ ((((Below.refl _ _).alloc (Nat.le_refl _) _).trans (hb.mono (by simp))).alloc (by omega) _) (by omega)
  have HB := Shut.mk hB0
  have HA : Shut (At ((w2.alloc (.cells Tryd.zeroCells96 96)).setCells w2.heap.size 0 (encL G).toArray.toList) w2.heap.size G) := ⟨(At.new w2).store G⟩
  have HBK : Shut (BookAt ((w2.alloc (.cells Tryd.zeroCells96 96)).setCells w2.heap.size 0 (encL G).toArray.toList) w.heap.size F S J L H t a n c a' n' c') := by
    have h1 := (bcellN (below_setCells (encL G) 0 (w2.alloc (.cells Tryd.zeroCells96 96)) (Below.refl w2.heap.size _) (Nat.le_refl _))).1 w.heap.size
    have h2 := ((BookAt.new w F S J L H t a n c a' n' c').below hb).below ((Below.refl _ _).alloc (Nat.le_refl _) (.cells Tryd.zeroCells96 96))
    obtain ⟨q0, q1, q2, q3, q4, q5, q6, q7⟩ := h2
    simp only [List.toList_toArray] at h1 ⊢
    exact ⟨⟨(h1 0 (by omega)).trans q0, (h1 1 (by omega)).trans q1, (h1 2 (by omega)).trans q2, (h1 3 (by omega)).trans q3, (h1 4 (by omega)).trans q4, (h1 5 (by omega)).trans q5, (h1 6 (by omega)).trans q6, (h1 7 (by omega)).trans q7⟩⟩
  clear hB0
  go_upto_region 2 with ((refine wpList_store_mid rfl 96 (Operand.tmp 5) (Operand.tmp 13) rfl w2.heap.size 0 (encL G).toArray rfl rfl (HNEW.out.there G) (size96a G) (all_oneCell_toArray (encL_one G)) ?_; generalize (w2.alloc (.cells Tryd.zeroCells96 96)).setCells w2.heap.size 0 (encL G).toArray.toList = W6 at *))
  obtain ⟨hk0, hk1, hk2, hk3, hk4, hk5, hk6, hk7⟩ := HBK.out
  go_wp2_with fail
  refine (opened_ok F S J L H W6 HR.out).mono ?_
  rintro e w3 ⟨b, rfl, hb3, hnb, hnew⟩
  have hbk3 := HBK.out.below hb3
  obtain ⟨hc0, hc1, hc2, hc3, hc4, hc5, hc6, hc7⟩ := hbk3
  have hat3 := HA.out.below hb3
  have hcl := hat3.lo t (by omega)
  have hch := hat3.hi t (by omega)
  rw [← HP0.out] at hcl
  rw [← HP1.out] at hch
  have hz3 := hb3.size
  have hz6 := HA.out.lt
  have hbw := HB.out.size
  have hlt3 := (Array.getElem?_eq_some_iff.1 hnew).1
  have HB3 := Lib.hid (below_call HB.out hb3)
  have HN := Lib.hid hnew
  have hi0 : (0 : Int) ≤ (t : Int) := by omega
  have hi1 : (t : Int) < 61 := by omega
  have hy1 : w.heap.size < w3.heap.size := by omega
  have hy2 : w2.heap.size < w3.heap.size := by omega
  clear hk0 hk1 hk2 hk3 hk4 hk5 hk6 hk7 hat3 hnew
  go_wp2_with fail
  have hMW0 : MW F S J b w (((w3.alloc (.cells #[.int .i64 F, .int .i64 S, .int .i64 J, .int .i64 L, .int .i64 H, .map (some b)] 80)).alloc (.cells #[.int .i64 p0, .int .i64 p1] 23)).drew) := by
    refine mw_new HW.out ?_ ?_
    · exact ((HB3.out.alloc (by omega) _).alloc (by simp <;> omega) _).drew
    · rw [heap_drew, Below.heap_alloc _ _ _ (by simp <;> omega), Below.heap_alloc _ _ _ (by omega)]
      exact HN.out
  have hb0 : b ≠ 0 := by omega
  have hPb : w3.heap.size ≠ b := by omega
  have hQb : w3.heap.size + 1 ≠ b := by omega
  go_region_held3 (fun W1 : World => (W1.cell? ⟨w3.heap.size, 0, none⟩ = some (.int .i64 F) ∧ W1.cell? ⟨w3.heap.size, 1, none⟩ = some (.int .i64 S) ∧ W1.cell? ⟨w3.heap.size, 2, none⟩ = some (.int .i64 J) ∧ W1.cell? ⟨w3.heap.size, 3, none⟩ = some (.int .i64 L) ∧ W1.cell? ⟨w3.heap.size, 4, none⟩ = some (.int .i64 H) ∧ W1.cell? ⟨w3.heap.size, 5, none⟩ = some (.map (some b))) ∧ (W1.cell? ⟨w3.heap.size + 1, 0, none⟩ = some (.int .i64 p0) ∧ W1.cell? ⟨w3.heap.size + 1, 1, none⟩ = some (.int .i64 p1)) ∧ MW F S J b w W1)
    (first | with_reducible exact meets_held hx hb0 hPb hQb hp | with_reducible exact meets_alloc (by assumption) | exact meets_alloc ⟨⟨by assumption, by assumption, by assumption, by assumption, by assumption, by assumption⟩, ⟨by assumption, by assumption⟩, by assumption⟩ | ((repeat' apply And.intro) <;> (first | with_reducible exact hMW0 | (simp [go_sem, *]; done))))
    (first | (go_at_call 62; rename_i hx _ _; refine (fewest_any F S J L H b _ (by omega) HR.out _ hx.2.2.ways hx.2.2.memo hb0).mono ?_; rintro e w4 ⟨rfl, hp⟩))
  rename_i hh
  have hf0 := HF0.out
  have hf1 := HF1.out
  generalize fewest F S J p0 = g0 at *
  generalize fewest F S J p1 = g1 at *
  subst hf0
  subst hf1
  clear HF0 HF1
  obtain ⟨_, ⟨hq0, hq1⟩, hm⟩ := hh
  have hNu : Nums (w4.alloc (.cells #[.int .i64 f0, .int .i64 f1] 3)) (some ⟨w4.heap.size, 0, none⟩) 2 [f0, f1] :=
    ⟨rfl, by omega, fun _ => ⟨_, 0, rfl, fun j hj => by
      rcases j with _ | _ | j
      · simp [go_sem]
      · simp [go_sem]
      · omega⟩⟩
  have HBF := Lib.hid (below_of_grown hm.gr (n := w.heap.size) (by omega) (Nat.le_refl _))
  generalize w4.alloc (.cells #[.int .i64 f0, .int .i64 f1] 3) = W8 at *
  have hct := contains_any _ 2 2 [f0, f1] (-1) W8 hNu
  have hmx := max_any _ 2 2 [f0, f1] W8 hNu (by omega)
  have hmn := min_any _ 2 2 [f0, f1] W8 hNu (by omega)
  clear hNu hm
  rw [show maxOf [f0, f1] = max f0 f1 from rfl] at hmx
  rw [show minOf [f0, f1] = min f0 f1 from rfl] at hmn
  by_cases hno : f0 = -1 ∨ f1 = -1
  · have hv : v = .tuple #[.int .i64 0, .int .i64 0, .int .i64 4] := by rw [HV.out, if_pos hno]
    have hmem : decide ((-1 : Int) ∈ [f0, f1]) = true := by simp only [List.mem_cons, List.not_mem_nil, or_false, decide_eq_true_eq]; omega
    rw [hmem] at hct
    clear hmem hno HV
    subst hv
    go_wp2_with (first | (go_at_call 75; refine hct.mono ?_; rintro e w' ⟨rfl, rfl⟩))
    go_ret3
    exact ⟨rfl, HBF.out⟩
  · have hmem : decide ((-1 : Int) ∈ [f0, f1]) = false := by simp only [List.mem_cons, List.not_mem_nil, or_false, decide_eq_false_iff_not]; omega
    rw [hmem] at hct
    have hv0 := HV.out
    rw [if_neg hno] at hv0
    clear hmem hno HV
    by_cases hz0 : p0 ≤ 0 ∧ 0 ≤ p1
    · have hv : v = .tuple #[.int .i64 (max f0 f1), .int .i64 0, .int .i64 0] := by rw [hv0, if_pos hz0]
      have hl := lies_is (n := 0) (a := p0) (b := p1) (v := true) (lies_iff.2 hz0)
      clear hv0 hz0
      subst hv
      go_wp2_with (first | (go_at_call 75; refine hct.mono ?_; rintro e w' ⟨rfl, rfl⟩) | (go_at_call 76; refine hmx.mono ?_; rintro e w' ⟨rfl, rfl⟩) | (go_at_call 77; refine hmn.mono ?_; rintro e w' ⟨rfl, rfl⟩) | (go_at_call 57; refine (hl _).mono ?_; rintro e w' ⟨rfl, rfl⟩))
      go_ret3
      exact ⟨rfl, HBF.out⟩
    · have hv : v = .tuple #[.int .i64 (max f0 f1), .int .i64 (min f0 f1), .int .i64 0] := by rw [hv0, if_neg hz0]
      have hl := lies_is (n := 0) (a := p0) (b := p1) (v := false) (by rw [← Bool.not_eq_true, lies_iff]; exact hz0)
      clear hv0 hz0
      subst hv
      go_wp2_with (first | (go_at_call 75; refine hct.mono ?_; rintro e w' ⟨rfl, rfl⟩) | (go_at_call 76; refine hmx.mono ?_; rintro e w' ⟨rfl, rfl⟩) | (go_at_call 77; refine hmn.mono ?_; rintro e w' ⟨rfl, rfl⟩) | (go_at_call 57; refine (hl _).mono ?_; rintro e w' ⟨rfl, rfl⟩))
      go_ret3
      exact ⟨rfl, HBF.out⟩

end Go.Proofs.YtidnopmjhhmedaaDoor
end

section
/- The contracts of scale's functions, in the form that the printed texts take. Written by wip/tools/mkXI.py. -/
set_option linter.unusedSimpArgs false
set_option linter.unusedVariables false
namespace Go.Proofs.TrydX.X
open Go.RowKit Go.Proofs.YtidnopmjhhmedaaDoorW.PrintWords Go.Proofs.YtidnopmjhhmedaaDoorW.PrintLast
open Go.Proofs.YtidnopmjhhmedaaDoor (isRuleB lies isPlanB fewest planOf caps capSum keepsB shownL checkB Lk Nums askE solF worstTo lies_iff)

/-- A look, as the hand's texts have it. -/
def toLk (x : S71) : Lk := ⟨x.f0, x.f1.f0, x.f1.f1⟩
theorem nums_of_C {w : World} {A : Option Addr} {l : List Int} (h : Kd.C (Kd.int .i64) w A l.length l) (hb : l.length ≤ 17592186044416) : Nums w A l.length l := by
  have h2 := Kd.reads_of_C (enc := Value.int .i64) (d := (0 : Int)) (h1 := fun _ => rfl) h
  refine ⟨rfl, hb, fun hn => ?_⟩
  obtain ⟨ad, e, hc⟩ := h2.2.2 hn
  obtain ⟨b, off, sp⟩ := ad
  have h0 := hc 0 hn
  have hs : sp = none := by
    rw [show Addr.add ⟨b, off, sp⟩ 0 = ⟨b, off, sp⟩ from rfl] at h0
    unfold World.cell? at h0
    split at h0
    · cases sp with
      | none => rfl
      | some x => simp at h0
    · cases h0
  subst hs
  refine ⟨b, off, e, fun j hj => ?_⟩
  have := hc j hj
  rwa [Addr.add_mid] at this
theorem looks_of_C {w : World} {A : Option Addr} {l : List S71} (h : Kd.C k71 w A l.length l) (hb : l.length ≤ 17592186044416) : YtidnopmjhhmedaaDoor.Looks w A l.length (l.map toLk) := by
  refine ⟨by simp, hb, fun hn => ?_⟩
  have h2 := h.2.2 hn
  obtain ⟨ad, e, _⟩ := h2
  obtain ⟨b, off, sp⟩ := ad
  have get : ∀ j, j < l.length → w.cell? ((⟨b, off, sp⟩ : Addr).add (j * 3)) = some (.int .i64 (rd_T71 l j).f0) ∧ w.cell? ⟨b, off + j * 3 + 1, none⟩ = some (.int .i64 (rd_T71 l j).f1.f0) ∧ w.cell? ⟨b, off + j * 3 + 2, none⟩ = some (.int .i64 (rd_T71 l j).f1.f1) := by
    intro j hj
    obtain ⟨ad2, e2, h1, h2, h3⟩ := at_T71 h j (by omega) (by omega)
    rw [e] at e2
    injection e2 with e2
    subst e2
    rw [Int.toNat_natCast] at h1 h2 h3
    have hadd : ((⟨b, off, sp⟩ : Addr).add (j * 3)).off = off + j * 3 ∧ ((⟨b, off, sp⟩ : Addr).add (j * 3)).block = b := by
      unfold Addr.add
      split <;> simp_all
    rw [hadd.1, hadd.2] at h2 h3
    exact ⟨h1, h2, h3⟩
  have h0 := (get 0 hn).1
  have hs : sp = none := by
    rw [show Addr.add ⟨b, off, sp⟩ (0 * 3) = ⟨b, off, sp⟩ from rfl] at h0
    unfold World.cell? at h0
    split at h0
    · cases sp with
      | none => rfl
      | some x => simp at h0
    · cases h0
  subst hs
  refine ⟨b, off, e, fun j hj => ?_⟩
  obtain ⟨h1, h2, h3⟩ := get j hj
  rw [Addr.add_mid] at h1
  have hl : (l.map toLk).getD j Lk.zero = toLk (rd_T71 l j) := by
    simp [rd_T71, List.getD_eq_getElem?_getD, hj]
  rw [hl]
  exact ⟨h1, h2, h3⟩
theorem ret_eq {v u : Value} {w : World} {Q : World → Prop} {e : Ending} {w' : World} (h : e = .returned v ∧ Q w') (hv : v = u) : e = .returned u ∧ Q w' := by rw [← hv]; exact h
/-- A list that is handed back is read where it is new. -/
theorem V_of_nums {w w' : World} {a : Option Addr} {cap : Nat} {l : List Int} (hN : Nums w' a l.length l) (hc : l.length ≤ cap) (hb : ∀ g o, a = some ⟨g, o, none⟩ → 0 < l.length → w.heap.size ≤ g) : Kd.V (Kd.int .i64) 3 w' w.heap.size (fun k_ => w.heap.size ≤ k_) (.slice a l.length cap) l := by
  refine Kd.V_mk hc ?_
  intro W' hW
  refine Kd.C_of_reads (d := (0 : Int)) (h1 := fun _ => rfl) ⟨rfl, by have := hN.2.1; omega, fun hn => ?_⟩
  obtain ⟨b, off, e, hcell⟩ := hN.2.2 hn
  refine ⟨⟨b, off, none⟩, e, fun j hj => ?_⟩
  rw [Addr.add_mid]
  have h1 := hcell j hj
  have hlt := World.block_lt_of_cell? w' _ h1
  exact (World.cell?_of_block (w := w') (hW b (hb b off e hn) hlt)).trans h1

def scale_IsPlan.f (a0_0 : Int) (a0_1 : Int) (a0_2 : Int) (a0_3 : Int) (a0_4 : Int) (a1 : Int) (l2 : List Int) : Option (Bool × Int) := if l2.length ≤ 17592186044416 then (if isRuleB a0_0 a0_1 a0_2 a0_3 a0_4 = true then (if lies a1 (-20000) 20000 = true then some (isPlanB a0_0 a0_1 a0_2 a1 l2.length l2, 0) else some (false, 41)) else some (false, 40)) else none
set_option maxHeartbeats 1000000 in
theorem scale_IsPlan.calls (a0_0 : Int) (a0_1 : Int) (a0_2 : Int) (a0_3 : Int) (a0_4 : Int) (a1 : Int) (A2 : Option Addr) (c2 : Nat) (l2 : List Int) (r1 : Bool) (r2 : Int) (w : World) (hr2 : Kd.C (Kd.int .i64) w A2 l2.length l2) (hc2 : l2.length ≤ c2) (hWays : Go.Proofs.YtidnopmjhhmedaaDoor.Ways w) (h : scale_IsPlan.f a0_0 a0_1 a0_2 a0_3 a0_4 a1 l2 = some (r1, r2)) :
    Calls Tryd.prog 16 #[.agg #[.int .i64 a0_0, .int .i64 a0_1, .int .i64 a0_2, .int .i64 a0_3, .int .i64 a0_4], .int .i64 a1, .slice A2 l2.length c2] w fun e w' => e = .returned (.tuple #[.bool r1, .int .i64 r2]) ∧ Below w.heap.size w w' := by
  unfold scale_IsPlan.f at h
  split at h
  · rename_i hb
    have hN := nums_of_C hr2 hb
    split at h
    · split at h
      · simp only [Option.some.injEq, Prod.mk.injEq] at h
        obtain ⟨rfl, rfl⟩ := h
        exact YtidnopmjhhmedaaDoor.IsPlan_ok _ _ _ _ _ _ _ _ _ _ ‹_› ‹_› w hWays hN
      · simp only [Option.some.injEq, Prod.mk.injEq] at h
        obtain ⟨rfl, rfl⟩ := h
        exact YtidnopmjhhmedaaDoor.IsPlan_ask _ _ _ _ _ _ _ _ _ ‹_› (by simpa using ‹¬ lies _ _ _ = true›) w
    · simp only [Option.some.injEq, Prod.mk.injEq] at h
      obtain ⟨rfl, rfl⟩ := h
      exact YtidnopmjhhmedaaDoor.IsPlan_bad _ _ _ _ _ _ _ _ _ (by simpa using ‹¬ isRuleB _ _ _ _ _ = true›) w
  · cases h

def scale_Fewest.f (a0_0 : Int) (a0_1 : Int) (a0_2 : Int) (a0_3 : Int) (a0_4 : Int) (a1 : Int) : Option (Int × Int) := if isRuleB a0_0 a0_1 a0_2 a0_3 a0_4 = true then (if lies a1 (-20000) 20000 = true then some (if fewest a0_0 a0_1 a0_2 a1 < 0 then 0 else fewest a0_0 a0_1 a0_2 a1, if fewest a0_0 a0_1 a0_2 a1 < 0 then 4 else 0) else some (0, 41)) else some (0, 40)
set_option maxHeartbeats 1000000 in
theorem scale_Fewest.calls (a0_0 : Int) (a0_1 : Int) (a0_2 : Int) (a0_3 : Int) (a0_4 : Int) (a1 : Int) (r1 : Int) (r2 : Int) (w : World) (hWays : Go.Proofs.YtidnopmjhhmedaaDoor.Ways w) (h : scale_Fewest.f a0_0 a0_1 a0_2 a0_3 a0_4 a1 = some (r1, r2)) :
    Calls Tryd.prog 18 #[.agg #[.int .i64 a0_0, .int .i64 a0_1, .int .i64 a0_2, .int .i64 a0_3, .int .i64 a0_4], .int .i64 a1] w fun e w' => e = .returned (.tuple #[.int .i64 r1, .int .i64 r2]) ∧ Below w.heap.size w w' := by
  unfold scale_Fewest.f at h
  split at h
  · split at h
    · simp only [Option.some.injEq, Prod.mk.injEq] at h
      obtain ⟨rfl, rfl⟩ := h
      exact YtidnopmjhhmedaaDoor.Fewest_ok _ _ _ _ _ _ ‹_› ‹_› w hWays
    · simp only [Option.some.injEq, Prod.mk.injEq] at h
      obtain ⟨rfl, rfl⟩ := h
      exact YtidnopmjhhmedaaDoor.Fewest_ask _ _ _ _ _ _ ‹_› (by simpa using ‹¬ lies _ _ _ = true›) w
  · simp only [Option.some.injEq, Prod.mk.injEq] at h
    obtain ⟨rfl, rfl⟩ := h
    exact YtidnopmjhhmedaaDoor.Fewest_bad _ _ _ _ _ _ (by simpa using ‹¬ isRuleB _ _ _ _ _ = true›) w

/-- The plan. -/
def planL (F S J off : Int) : List Int := if 0 < off then planOf (-1) off (caps S J (fewest F S J off).toNat) else planOf 1 (-off) (caps F J (fewest F S J off).toNat)
theorem few_nat {F S J off : Int} (h : ¬ fewest F S J off < 0) : fewest F S J off = ((fewest F S J off).toNat : Int) := by omega
theorem nil_V (w w' : World) : Kd.V (Kd.int .i64) 3 w' w.heap.size (fun k_ => w.heap.size ≤ k_) (.slice none 0 0) [] := Kd.V_nil _ _ _ _ _
def scale_Plan.f (a0_0 : Int) (a0_1 : Int) (a0_2 : Int) (a0_3 : Int) (a0_4 : Int) (a1 : Int) : Option ((List Int) × Int) := if isRuleB a0_0 a0_1 a0_2 a0_3 a0_4 = true then (if lies a1 (-20000) 20000 = true then (if fewest a0_0 a0_1 a0_2 a1 < 0 then some ([], 4) else some (planL a0_0 a0_1 a0_2 a1, 0)) else some ([], 41)) else some ([], 40)
set_option maxHeartbeats 1000000 in
theorem scale_Plan.calls (a0_0 : Int) (a0_1 : Int) (a0_2 : Int) (a0_3 : Int) (a0_4 : Int) (a1 : Int) (r1 : List Int) (r2 : Int) (w : World) (hWays : Go.Proofs.YtidnopmjhhmedaaDoor.Ways w) (h : scale_Plan.f a0_0 a0_1 a0_2 a0_3 a0_4 a1 = some (r1, r2)) :
    Calls Tryd.prog 20 #[.agg #[.int .i64 a0_0, .int .i64 a0_1, .int .i64 a0_2, .int .i64 a0_3, .int .i64 a0_4], .int .i64 a1] w fun e w' => ∃ v0_ : Value, e = .returned (.tuple #[v0_, .int .i64 r2]) ∧ Kd.V (Kd.int .i64) 3 w' w.heap.size (fun k_ => (w.heap.size ≤ k_)) v0_ r1 ∧ Below w.heap.size w w' := by
  have hwa : Go.Proofs.YtidnopmjhhmedaaDoor.Ways (w.alloc (.cells #[.int .i64 a0_0, .int .i64 a0_1, .int .i64 a0_2, .int .i64 a0_3, .int .i64 a0_4] 25)) := hWays.below ((Below.refl _ _).alloc (Nat.le_refl _) _)
  unfold scale_Plan.f at h
  split at h
  · split at h
    · split at h
      · rename_i hr hl hf
        simp only [Option.some.injEq, Prod.mk.injEq] at h
        obtain ⟨rfl, rfl⟩ := h
        have h1 := YtidnopmjhhmedaaDoor.Fewest_ok a0_0 a0_1 a0_2 a0_3 a0_4 a1 hr hl _ hwa
        rw [if_pos hf, if_pos hf] at h1
        exact (YtidnopmjhhmedaaDoor.Plan_err a0_0 a0_1 a0_2 a0_3 a0_4 a1 4 w (by decide) (h1.mono fun e w' h => ⟨h.1, by simpa using h.2⟩)).mono fun e w' h => ⟨_, h.1, nil_V _ _, h.2⟩
      · rename_i hr hl hf
        simp only [Option.some.injEq, Prod.mk.injEq] at h
        obtain ⟨rfl, rfl⟩ := h
        have hle := YtidnopmjhhmedaaDoor.fewest_le a0_0 a0_1 a0_2 a1
        unfold planL
        split
        · refine (YtidnopmjhhmedaaDoor.Plan_pos a0_0 a0_1 a0_2 a0_3 a0_4 a1 _ w hWays hr (lies_iff.1 hl) ‹_› (by omega) (few_nat hf)).mono ?_
          rintro e w' ⟨a, cap, he, ⟨hN, hc, hb⟩, hB⟩
          exact ⟨_, he, V_of_nums hN hc hb, hB⟩
        · refine (YtidnopmjhhmedaaDoor.Plan_neg a0_0 a0_1 a0_2 a0_3 a0_4 a1 _ w hWays hr (lies_iff.1 hl) ‹_› (by omega) (few_nat hf)).mono ?_
          rintro e w' ⟨a, cap, he, ⟨hN, hc, hb⟩, hB⟩
          exact ⟨_, he, V_of_nums hN hc hb, hB⟩
    · rename_i hr hl
      simp only [Option.some.injEq, Prod.mk.injEq] at h
      obtain ⟨rfl, rfl⟩ := h
      have h1 := YtidnopmjhhmedaaDoor.Fewest_ask a0_0 a0_1 a0_2 a0_3 a0_4 a1 hr (by simpa using hl) (w.alloc (.cells #[.int .i64 a0_0, .int .i64 a0_1, .int .i64 a0_2, .int .i64 a0_3, .int .i64 a0_4] 25))
      exact (YtidnopmjhhmedaaDoor.Plan_err a0_0 a0_1 a0_2 a0_3 a0_4 a1 41 w (by decide) (h1.mono fun e w' h => ⟨h.1, by simpa using h.2⟩)).mono fun e w' h => ⟨_, h.1, nil_V _ _, h.2⟩
  · rename_i hr
    simp only [Option.some.injEq, Prod.mk.injEq] at h
    obtain ⟨rfl, rfl⟩ := h
    have h1 := YtidnopmjhhmedaaDoor.Fewest_bad a0_0 a0_1 a0_2 a0_3 a0_4 a1 (by simpa using hr) (w.alloc (.cells #[.int .i64 a0_0, .int .i64 a0_1, .int .i64 a0_2, .int .i64 a0_3, .int .i64 a0_4] 25))
    exact (YtidnopmjhhmedaaDoor.Plan_err a0_0 a0_1 a0_2 a0_3 a0_4 a1 40 w (by decide) (h1.mono fun e w' h => ⟨h.1, by simpa using h.2⟩)).mono fun e w' h => ⟨_, h.1, nil_V _ _, h.2⟩

def scale_Reach.f (a0_0 : Int) (a0_1 : Int) (a0_2 : Int) (a0_3 : Int) (a0_4 : Int) (a1 : Int) : Option (Int × Int × Int) := if isRuleB a0_0 a0_1 a0_2 a0_3 a0_4 = true then (if lies a1 0 200 = true then some (-(capSum a0_1 a0_2 a1.toNat), capSum a0_0 a0_2 a1.toNat, 0) else some (0, 0, 41)) else some (0, 0, 40)
set_option maxHeartbeats 1000000 in
theorem scale_Reach.calls (a0_0 : Int) (a0_1 : Int) (a0_2 : Int) (a0_3 : Int) (a0_4 : Int) (a1 : Int) (r1 : Int) (r2 : Int) (r3 : Int) (w : World) (hWays : Go.Proofs.YtidnopmjhhmedaaDoor.Ways w) (h : scale_Reach.f a0_0 a0_1 a0_2 a0_3 a0_4 a1 = some (r1, r2, r3)) :
    Calls Tryd.prog 22 #[.agg #[.int .i64 a0_0, .int .i64 a0_1, .int .i64 a0_2, .int .i64 a0_3, .int .i64 a0_4], .int .i64 a1] w fun e w' => e = .returned (.tuple #[.agg #[.int .i64 r1, .int .i64 r2], .int .i64 r3]) ∧ Below w.heap.size w w' := by
  unfold scale_Reach.f at h
  split at h
  · split at h
    · rename_i hr hl
      simp only [Option.some.injEq, Prod.mk.injEq] at h
      obtain ⟨rfl, rfl, rfl⟩ := h
      have h1 := lies_iff.1 hl
      obtain ⟨t, rfl⟩ : ∃ t : Nat, a1 = t := ⟨a1.toNat, by omega⟩
      rw [Int.toNat_natCast]
      exact YtidnopmjhhmedaaDoor.Reach_ok _ _ _ _ _ t hr (by omega) w hWays
    · simp only [Option.some.injEq, Prod.mk.injEq] at h
      obtain ⟨rfl, rfl, rfl⟩ := h
      exact YtidnopmjhhmedaaDoor.Reach_ask _ _ _ _ _ _ ‹_› (by simpa using ‹¬ lies _ _ _ = true›) w
  · simp only [Option.some.injEq, Prod.mk.injEq] at h
    obtain ⟨rfl, rfl, rfl⟩ := h
    exact YtidnopmjhhmedaaDoor.Reach_bad _ _ _ _ _ _ (by simpa using ‹¬ isRuleB _ _ _ _ _ = true›) w

def scale_Shown.f (a0_0 : Int) (a0_1 : Int) (a0_2 : Int) (a0_3 : Int) (a0_4 : Int) (a1 : Int) (l2 : List Int) : Option ((List Int) × Int) := if l2.length ≤ 17592186044416 then (if isRuleB a0_0 a0_1 a0_2 a0_3 a0_4 = true then (if lies a1 0 10000000 = true ∧ l2.length ≤ 200 ∧ keepsB a0_0 a0_1 a0_2 0 l2 = true then some (shownL a1 l2, 0) else some ([], 41)) else some ([], 40)) else none
set_option maxHeartbeats 1000000 in
theorem scale_Shown.calls (a0_0 : Int) (a0_1 : Int) (a0_2 : Int) (a0_3 : Int) (a0_4 : Int) (a1 : Int) (A2 : Option Addr) (c2 : Nat) (l2 : List Int) (r1 : List Int) (r2 : Int) (w : World) (hr2 : Kd.C (Kd.int .i64) w A2 l2.length l2) (hc2 : l2.length ≤ c2) (hWays : Go.Proofs.YtidnopmjhhmedaaDoor.Ways w) (h : scale_Shown.f a0_0 a0_1 a0_2 a0_3 a0_4 a1 l2 = some (r1, r2)) :
    Calls Tryd.prog 24 #[.agg #[.int .i64 a0_0, .int .i64 a0_1, .int .i64 a0_2, .int .i64 a0_3, .int .i64 a0_4], .int .i64 a1, .slice A2 l2.length c2] w fun e w' => ∃ v0_ : Value, e = .returned (.tuple #[v0_, .int .i64 r2]) ∧ Kd.V (Kd.int .i64) 3 w' w.heap.size (fun k_ => (w.heap.size ≤ k_)) v0_ r1 ∧ Below w.heap.size w w' := by
  unfold scale_Shown.f at h
  split at h
  · rename_i hb
    have hN := nums_of_C hr2 hb
    split at h
    · rename_i hr
      split at h
      · rename_i hk
        simp only [Option.some.injEq, Prod.mk.injEq] at h
        obtain ⟨rfl, rfl⟩ := h
        refine (YtidnopmjhhmedaaDoor.Shown_ok a0_0 a0_1 a0_2 a0_3 a0_4 a1 A2 l2.length c2 l2 w hN hr hk.1 hk.2.1 hk.2.2).mono ?_
        rintro e w' ⟨a, cap, he, ⟨hN, hc, hb⟩, hB⟩
        exact ⟨_, he, V_of_nums hN hc hb, hB⟩
      · rename_i hk
        simp only [Option.some.injEq, Prod.mk.injEq] at h
        obtain ⟨rfl, rfl⟩ := h
        have fin : ∀ {e w'}, (e = Ending.returned (.tuple #[.slice none 0 0, .int .i64 41]) ∧ Below w.heap.size w w') → ∃ v0_ : Value, e = .returned (.tuple #[v0_, .int .i64 41]) ∧ Kd.V (Kd.int .i64) 3 w' w.heap.size (fun k_ => (w.heap.size ≤ k_)) v0_ [] ∧ Below w.heap.size w w' := fun h => ⟨_, h.1, nil_V _ _, h.2⟩
        by_cases hl : lies a1 0 10000000 = true
        · by_cases hn : l2.length ≤ 200
          · exact (YtidnopmjhhmedaaDoor.Shown_not a0_0 a0_1 a0_2 a0_3 a0_4 a1 A2 l2.length c2 l2 w hN hr hl hn (by rw [← Bool.not_eq_true]; exact fun h => hk ⟨hl, hn, h⟩)).mono fun e w' h => fin h
          · exact (YtidnopmjhhmedaaDoor.Shown_ask2 a0_0 a0_1 a0_2 a0_3 a0_4 a1 A2 l2.length c2 l2 w hN hr hl hn).mono fun e w' h => fin h
        · exact (YtidnopmjhhmedaaDoor.Shown_ask1 a0_0 a0_1 a0_2 a0_3 a0_4 a1 A2 l2.length c2 l2 w hN hr (by simpa using hl)).mono fun e w' h => fin h
    · rename_i hr
      simp only [Option.some.injEq, Prod.mk.injEq] at h
      obtain ⟨rfl, rfl⟩ := h
      have hr' : isRuleB a0_0 a0_1 a0_2 a0_3 a0_4 = false := by simpa using hr
      have fin : ∀ {e w'}, (e = Ending.returned (.tuple #[.slice none 0 0, .int .i64 40]) ∧ Below w.heap.size w w') → ∃ v0_ : Value, e = .returned (.tuple #[v0_, .int .i64 40]) ∧ Kd.V (Kd.int .i64) 3 w' w.heap.size (fun k_ => (w.heap.size ≤ k_)) v0_ [] ∧ Below w.heap.size w w' := fun h => ⟨_, h.1, nil_V _ _, h.2⟩
      by_cases hl : lies a1 0 10000000 = true
      · by_cases hn : l2.length ≤ 200
        · exact (YtidnopmjhhmedaaDoor.Shown_bad3 a0_0 a0_1 a0_2 a0_3 a0_4 a1 A2 l2.length c2 l2 w hN hr' hl hn).mono fun e w' h => fin h
        · exact (YtidnopmjhhmedaaDoor.Shown_bad2 a0_0 a0_1 a0_2 a0_3 a0_4 a1 A2 l2.length c2 l2 w hN hr' hl hn).mono fun e w' h => fin h
      · exact (YtidnopmjhhmedaaDoor.Shown_bad1 a0_0 a0_1 a0_2 a0_3 a0_4 a1 A2 l2.length c2 l2 w hN hr' (by simpa using hl)).mono fun e w' h => fin h
  · cases h

def scale_Check.f (a0_0 : Int) (a0_1 : Int) (a0_2 : Int) (a0_3 : Int) (a0_4 : Int) (a0_5 : Int) (l0_6 : List Int) (l0_7 : List (S71)) : Option (Int) := if l0_6.length ≤ 17592186044416 ∧ l0_7.length ≤ 17592186044416 then some (if checkB a0_0 a0_1 a0_2 a0_3 a0_4 a0_5 l0_6 (l0_7.map toLk) = true then 0 else 40) else none
set_option maxHeartbeats 1000000 in
theorem scale_Check.calls (a0_0 : Int) (a0_1 : Int) (a0_2 : Int) (a0_3 : Int) (a0_4 : Int) (a0_5 : Int) (A0_6 : Option Addr) (c0_6 : Nat) (l0_6 : List Int) (A0_7 : Option Addr) (c0_7 : Nat) (l0_7 : List (S71)) (r : Int) (w : World) (hr0_6 : Kd.C (Kd.int .i64) w A0_6 l0_6.length l0_6) (hc0_6 : l0_6.length ≤ c0_6) (hr0_7 : Kd.C k71 w A0_7 l0_7.length l0_7) (hc0_7 : l0_7.length ≤ c0_7) (hWays : Go.Proofs.YtidnopmjhhmedaaDoor.Ways w) (h : scale_Check.f a0_0 a0_1 a0_2 a0_3 a0_4 a0_5 l0_6 l0_7 = some r) :
    Calls Tryd.prog 29 #[.agg #[.int .i64 a0_0, .int .i64 a0_1, .int .i64 a0_2, .int .i64 a0_3, .int .i64 a0_4, .int .i64 a0_5, .slice A0_6 l0_6.length c0_6, .slice A0_7 l0_7.length c0_7]] w fun e w' => e = .returned (.int .i64 r) ∧ Below w.heap.size w w' := by
  unfold scale_Check.f at h
  split at h
  · rename_i hb
    have hN := nums_of_C hr0_6 hb.1
    have hK := looks_of_C hr0_7 hb.2
    simp only [Option.some.injEq] at h
    subst h
    exact YtidnopmjhhmedaaDoor.Check_any _ _ _ _ _ _ _ _ _ _ _ _ _ _ w hN hK
  · cases h

def scale_Error.f (a0_0 : Int) (a0_1 : Int) (a0_2 : Int) (a0_3 : Int) (a0_4 : Int) (a0_5 : Int) (l0_6 : List Int) (l0_7 : List (S71)) (a1 : Int) : Option (Int × Int × Int) := if l0_6.length ≤ 17592186044416 ∧ l0_7.length ≤ 17592186044416 then (if askE a0_0 a0_1 a0_2 a0_3 a0_4 a0_5 l0_6 (l0_7.map toLk) (lies a1 0 a0_5) = 0 then some ((solF a0_0 a0_1 a0_2 a0_3 a0_4 a0_5 l0_6 (l0_7.map toLk) a1.toNat).lo, (solF a0_0 a0_1 a0_2 a0_3 a0_4 a0_5 l0_6 (l0_7.map toLk) a1.toNat).hi, 0) else some (0, 0, askE a0_0 a0_1 a0_2 a0_3 a0_4 a0_5 l0_6 (l0_7.map toLk) (lies a1 0 a0_5))) else none
set_option maxHeartbeats 1000000 in
theorem scale_Error.calls (a0_0 : Int) (a0_1 : Int) (a0_2 : Int) (a0_3 : Int) (a0_4 : Int) (a0_5 : Int) (A0_6 : Option Addr) (c0_6 : Nat) (l0_6 : List Int) (A0_7 : Option Addr) (c0_7 : Nat) (l0_7 : List (S71)) (a1 : Int) (r1 : Int) (r2 : Int) (r3 : Int) (w : World) (hr0_6 : Kd.C (Kd.int .i64) w A0_6 l0_6.length l0_6) (hc0_6 : l0_6.length ≤ c0_6) (hr0_7 : Kd.C k71 w A0_7 l0_7.length l0_7) (hc0_7 : l0_7.length ≤ c0_7) (hWays : Go.Proofs.YtidnopmjhhmedaaDoor.Ways w) (h : scale_Error.f a0_0 a0_1 a0_2 a0_3 a0_4 a0_5 l0_6 l0_7 a1 = some (r1, r2, r3)) :
    Calls Tryd.prog 27 #[.agg #[.int .i64 a0_0, .int .i64 a0_1, .int .i64 a0_2, .int .i64 a0_3, .int .i64 a0_4, .int .i64 a0_5, .slice A0_6 l0_6.length c0_6, .slice A0_7 l0_7.length c0_7], .int .i64 a1] w fun e w' => e = .returned (.tuple #[.agg #[.int .i64 r1, .int .i64 r2], .int .i64 r3]) ∧ Below w.heap.size w w' := by
  unfold scale_Error.f at h
  split at h
  · rename_i hb
    have hN := nums_of_C hr0_6 hb.1
    have hK := looks_of_C hr0_7 hb.2
    split at h
    · rename_i hE
      simp only [Option.some.injEq, Prod.mk.injEq] at h
      obtain ⟨rfl, rfl, rfl⟩ := h
      exact YtidnopmjhhmedaaDoor.Error_ok _ _ _ _ _ _ _ _ _ _ _ _ _ _ _ hE w hN hK
    · rename_i hE
      simp only [Option.some.injEq, Prod.mk.injEq] at h
      obtain ⟨rfl, rfl, rfl⟩ := h
      exact YtidnopmjhhmedaaDoor.Error_bad _ _ _ _ _ _ _ _ _ _ _ _ _ _ _ _ rfl (by simpa using hE) w hN hK
  · cases h

def scale_Stated.f (a0_0 : Int) (a0_1 : Int) (a0_2 : Int) (a0_3 : Int) (a0_4 : Int) (a0_5 : Int) (l0_6 : List Int) (l0_7 : List (S71)) (a1 : Int) : Option (Int × Int) := if l0_6.length ≤ 17592186044416 ∧ l0_7.length ≤ 17592186044416 then (if askE a0_0 a0_1 a0_2 a0_3 a0_4 a0_5 l0_6 (l0_7.map toLk) (lies a1 0 a0_5) = 0 then some (max (-(solF a0_0 a0_1 a0_2 a0_3 a0_4 a0_5 l0_6 (l0_7.map toLk) a1.toNat).lo) (solF a0_0 a0_1 a0_2 a0_3 a0_4 a0_5 l0_6 (l0_7.map toLk) a1.toNat).hi, 0) else some (0, askE a0_0 a0_1 a0_2 a0_3 a0_4 a0_5 l0_6 (l0_7.map toLk) (lies a1 0 a0_5))) else none
set_option maxHeartbeats 1000000 in
theorem scale_Stated.calls (a0_0 : Int) (a0_1 : Int) (a0_2 : Int) (a0_3 : Int) (a0_4 : Int) (a0_5 : Int) (A0_6 : Option Addr) (c0_6 : Nat) (l0_6 : List Int) (A0_7 : Option Addr) (c0_7 : Nat) (l0_7 : List (S71)) (a1 : Int) (r1 : Int) (r2 : Int) (w : World) (hr0_6 : Kd.C (Kd.int .i64) w A0_6 l0_6.length l0_6) (hc0_6 : l0_6.length ≤ c0_6) (hr0_7 : Kd.C k71 w A0_7 l0_7.length l0_7) (hc0_7 : l0_7.length ≤ c0_7) (hWays : Go.Proofs.YtidnopmjhhmedaaDoor.Ways w) (h : scale_Stated.f a0_0 a0_1 a0_2 a0_3 a0_4 a0_5 l0_6 l0_7 a1 = some (r1, r2)) :
    Calls Tryd.prog 31 #[.agg #[.int .i64 a0_0, .int .i64 a0_1, .int .i64 a0_2, .int .i64 a0_3, .int .i64 a0_4, .int .i64 a0_5, .slice A0_6 l0_6.length c0_6, .slice A0_7 l0_7.length c0_7], .int .i64 a1] w fun e w' => e = .returned (.tuple #[.int .i64 r1, .int .i64 r2]) ∧ Below w.heap.size w w' := by
  unfold scale_Stated.f at h
  split at h
  · rename_i hb
    have hN := nums_of_C hr0_6 hb.1
    have hK := looks_of_C hr0_7 hb.2
    split at h
    · rename_i hE
      simp only [Option.some.injEq, Prod.mk.injEq] at h
      obtain ⟨rfl, rfl⟩ := h
      exact YtidnopmjhhmedaaDoor.Stated_ok _ _ _ _ _ _ _ _ _ _ _ _ _ _ _ hE w hN hK
    · rename_i hE
      simp only [Option.some.injEq, Prod.mk.injEq] at h
      obtain ⟨rfl, rfl⟩ := h
      exact YtidnopmjhhmedaaDoor.Stated_bad _ _ _ _ _ _ _ _ _ _ _ _ _ _ _ _ rfl (by simpa using hE) w hN hK
  · cases h

def scale_Worst.f (a0_0 : Int) (a0_1 : Int) (a0_2 : Int) (a0_3 : Int) (a0_4 : Int) (a0_5 : Int) (l0_6 : List Int) (l0_7 : List (S71)) : Option (Int × Int × Int) := if l0_6.length ≤ 17592186044416 ∧ l0_7.length ≤ 17592186044416 then (if askE a0_0 a0_1 a0_2 a0_3 a0_4 a0_5 l0_6 (l0_7.map toLk) true = 0 then some ((worstTo (solF a0_0 a0_1 a0_2 a0_3 a0_4 a0_5 l0_6 (l0_7.map toLk)) (a0_5.toNat + 1)).1, (worstTo (solF a0_0 a0_1 a0_2 a0_3 a0_4 a0_5 l0_6 (l0_7.map toLk)) (a0_5.toNat + 1)).2, 0) else some (0, 0, askE a0_0 a0_1 a0_2 a0_3 a0_4 a0_5 l0_6 (l0_7.map toLk) true)) else none
set_option maxHeartbeats 1000000 in
theorem scale_Worst.calls (a0_0 : Int) (a0_1 : Int) (a0_2 : Int) (a0_3 : Int) (a0_4 : Int) (a0_5 : Int) (A0_6 : Option Addr) (c0_6 : Nat) (l0_6 : List Int) (A0_7 : Option Addr) (c0_7 : Nat) (l0_7 : List (S71)) (r1 : Int) (r2 : Int) (r3 : Int) (w : World) (hr0_6 : Kd.C (Kd.int .i64) w A0_6 l0_6.length l0_6) (hc0_6 : l0_6.length ≤ c0_6) (hr0_7 : Kd.C k71 w A0_7 l0_7.length l0_7) (hc0_7 : l0_7.length ≤ c0_7) (hWays : Go.Proofs.YtidnopmjhhmedaaDoor.Ways w) (h : scale_Worst.f a0_0 a0_1 a0_2 a0_3 a0_4 a0_5 l0_6 l0_7 = some (r1, r2, r3)) :
    Calls Tryd.prog 33 #[.agg #[.int .i64 a0_0, .int .i64 a0_1, .int .i64 a0_2, .int .i64 a0_3, .int .i64 a0_4, .int .i64 a0_5, .slice A0_6 l0_6.length c0_6, .slice A0_7 l0_7.length c0_7]] w fun e w' => e = .returned (.tuple #[.int .i64 r1, .int .i64 r2, .int .i64 r3]) ∧ Below w.heap.size w w' := by
  unfold scale_Worst.f at h
  split at h
  · rename_i hb
    have hN := nums_of_C hr0_6 hb.1
    have hK := looks_of_C hr0_7 hb.2
    split at h
    · rename_i hE
      simp only [Option.some.injEq, Prod.mk.injEq] at h
      obtain ⟨rfl, rfl, rfl⟩ := h
      have hT := YtidnopmjhhmedaaDoor.check_ticks (YtidnopmjhhmedaaDoor.askE_ok hE).1
      exact YtidnopmjhhmedaaDoor.Worst_ok _ _ _ _ _ _ _ _ _ _ _ _ _ _ a0_5.toNat (by omega) hE w hN hK
    · rename_i hE
      simp only [Option.some.injEq, Prod.mk.injEq] at h
      obtain ⟨rfl, rfl, rfl⟩ := h
      exact YtidnopmjhhmedaaDoor.Worst_bad _ _ _ _ _ _ _ _ _ _ _ _ _ _ _ rfl (by simpa using hE) w hN hK
  · cases h

/-- What Meets tells where the book can be true. -/
def meetsP (F S J : Int) (s : YtidnopmjhhmedaaDoor.Sp) : Int × Int × Int :=
  if fewest F S J s.lo = -1 ∨ fewest F S J s.hi = -1 then (0, 0, 4) else (max (fewest F S J s.lo) (fewest F S J s.hi), if s.lo ≤ 0 ∧ 0 ≤ s.hi then 0 else min (fewest F S J s.lo) (fewest F S J s.hi), 0)
theorem meets_val (F S J : Int) (s : YtidnopmjhhmedaaDoor.Sp) : Value.tuple #[.int .i64 (meetsP F S J s).1, .int .i64 (meetsP F S J s).2.1, .int .i64 (meetsP F S J s).2.2] = if fewest F S J s.lo = -1 ∨ fewest F S J s.hi = -1 then .tuple #[.int .i64 0, .int .i64 0, .int .i64 4] else .tuple #[.int .i64 (max (fewest F S J s.lo) (fewest F S J s.hi)), .int .i64 (if s.lo ≤ 0 ∧ 0 ≤ s.hi then 0 else min (fewest F S J s.lo) (fewest F S J s.hi)), .int .i64 0] := by
  unfold meetsP
  split <;> rfl
def scale_Meets.f (a0_0 : Int) (a0_1 : Int) (a0_2 : Int) (a0_3 : Int) (a0_4 : Int) (a0_5 : Int) (l0_6 : List Int) (l0_7 : List (S71)) : Option (Int × Int × Int) := if l0_6.length ≤ 17592186044416 ∧ l0_7.length ≤ 17592186044416 then (if askE a0_0 a0_1 a0_2 a0_3 a0_4 a0_5 l0_6 (l0_7.map toLk) true = 0 then some (meetsP a0_0 a0_1 a0_2 (solF a0_0 a0_1 a0_2 a0_3 a0_4 a0_5 l0_6 (l0_7.map toLk) a0_5.toNat)) else some (0, 0, askE a0_0 a0_1 a0_2 a0_3 a0_4 a0_5 l0_6 (l0_7.map toLk) true)) else none
set_option maxHeartbeats 1000000 in
theorem scale_Meets.calls (a0_0 : Int) (a0_1 : Int) (a0_2 : Int) (a0_3 : Int) (a0_4 : Int) (a0_5 : Int) (A0_6 : Option Addr) (c0_6 : Nat) (l0_6 : List Int) (A0_7 : Option Addr) (c0_7 : Nat) (l0_7 : List (S71)) (r1 : Int) (r2 : Int) (r3 : Int) (w : World) (hr0_6 : Kd.C (Kd.int .i64) w A0_6 l0_6.length l0_6) (hc0_6 : l0_6.length ≤ c0_6) (hr0_7 : Kd.C k71 w A0_7 l0_7.length l0_7) (hc0_7 : l0_7.length ≤ c0_7) (hWays : Go.Proofs.YtidnopmjhhmedaaDoor.Ways w) (h : scale_Meets.f a0_0 a0_1 a0_2 a0_3 a0_4 a0_5 l0_6 l0_7 = some (r1, r2, r3)) :
    Calls Tryd.prog 35 #[.agg #[.int .i64 a0_0, .int .i64 a0_1, .int .i64 a0_2, .int .i64 a0_3, .int .i64 a0_4, .int .i64 a0_5, .slice A0_6 l0_6.length c0_6, .slice A0_7 l0_7.length c0_7]] w fun e w' => e = .returned (.tuple #[.int .i64 r1, .int .i64 r2, .int .i64 r3]) ∧ Below w.heap.size w w' := by
  unfold scale_Meets.f at h
  split at h
  · rename_i hb
    have hN := nums_of_C hr0_6 hb.1
    have hK := looks_of_C hr0_7 hb.2
    split at h
    · rename_i hE
      simp only [Option.some.injEq] at h
      have hT := YtidnopmjhhmedaaDoor.check_ticks (YtidnopmjhhmedaaDoor.askE_ok hE).1
      have hv := meets_val a0_0 a0_1 a0_2 (solF a0_0 a0_1 a0_2 a0_3 a0_4 a0_5 l0_6 (l0_7.map toLk) a0_5.toNat)
      rw [h] at hv
      exact YtidnopmjhhmedaaDoor.Meets_ok _ _ _ _ _ _ _ _ _ _ _ _ _ _ a0_5.toNat (by omega) hE w hWays hN hK _ _ rfl rfl _ hv
    · rename_i hE
      simp only [Option.some.injEq, Prod.mk.injEq] at h
      obtain ⟨rfl, rfl, rfl⟩ := h
      exact YtidnopmjhhmedaaDoor.Meets_bad _ _ _ _ _ _ _ _ _ _ _ _ _ _ _ rfl (by simpa using hE) w hN hK
  · cases h

end Go.Proofs.TrydX.X
end

section
-- Written by wip/tools/pr.py (a program of this repo over the kit's print.py).
namespace Go.Proofs.TrydX.X
open Go.RowKit Go.Proofs.YtidnopmjhhmedaaDoorW.PrintWords Go.Proofs.YtidnopmjhhmedaaDoorW.PrintLast Go.Proofs.YtidnopmjhhmedaaDoorW.PrintMore
attribute [local go_sem] max2_int min2_int max_two min_two max_three min_three max_four min_four   -- for this text's walks alone
set_option linter.unusedVariables false
set_option linter.unusedSimpArgs false

/-! ### remontoirref00_First: function 70 -/
def remontoirref00_First.l0 : Nat → List Int → List Int → Int → Option (Int)
  | 0, _, _, _ => none
  | k + 1, x0, x1, x5 => if x5 < (x0.length : Int) then (if x5 < (x1.length : Int) then (if 0 ≤ x5 then (if (rd x0 x5) = (rd x1 x5) then (remontoirref00_First.l0 k x0 x1 (wrap64 (x5 + 1))) else (some x5)) else (none)) else (some x5)) else (some x5)
def remontoirref00_First.f (k : Nat) (l0 : List Int) (l1 : List Int) : Option (Int) := remontoirref00_First.l0 k l0 l1 0
theorem remontoirref00_First.mono_l : ∀ k, (∀ y0 y1 y2, LeO (remontoirref00_First.l0 k y0 y1 y2) (remontoirref00_First.l0 (k + 1) y0 y1 y2))
  | 0 => fun _ _ _ r h => by simp [remontoirref00_First.l0] at h
  | k + 1 => by
    have ih0 := remontoirref00_First.mono_l k
    · intro y0 y1 y2
      unfold remontoirref00_First.l0
      repeat' first
      | (with_reducible exact ih0 _ _ _)
      | (with_reducible exact LeO.refl _)
      | (with_reducible exact LeO.none _)
      | (with_reducible refine LeO.ite ?_ ?_)
      | (with_reducible refine LeO.bind ?_ (fun _ => ?_))
      | exact ih0 _ _ _
      | exact LeO.none _
      | refine LeO.ite ?_ ?_
      | refine LeO.bind ?_ (fun _ => ?_)
theorem remontoirref00_First.mono : ∀ a0 a1 k, LeO (remontoirref00_First.f k a0 a1) (remontoirref00_First.f (k + 1) a0 a1) := by
  intro a0 a1 k
  have ih0 := remontoirref00_First.mono_l k
  unfold remontoirref00_First.f
  repeat' first
      | (with_reducible exact ih0 _ _ _)
      | (with_reducible exact LeO.refl _)
      | (with_reducible exact LeO.none _)
      | (with_reducible refine LeO.ite ?_ ?_)
      | (with_reducible refine LeO.bind ?_ (fun _ => ?_))
      | exact ih0 _ _ _
      | exact LeO.none _
      | refine LeO.ite ?_ ?_
      | refine LeO.bind ?_ (fun _ => ?_)
set_option maxHeartbeats 8000000 in
set_option maxRecDepth 100000 in
theorem remontoirref00_First.calls (k : Nat) (A0 : Option Addr) (c0 : Nat) (l0 : List Int) (A1 : Option Addr) (c1 : Nat) (l1 : List Int) (r : Int) (w : World) (hr0 : Kd.C (Kd.int .i64) w A0 l0.length l0) (hc0 : l0.length ≤ c0) (hr1 : Kd.C (Kd.int .i64) w A1 l1.length l1) (hc1 : l1.length ≤ c1) (h : remontoirref00_First.f k l0 l1 = some r) :
    Calls Tryd.prog 70 #[.slice A0 l0.length c0, .slice A1 l1.length c1] w fun e w' => e = .returned (.int .i64 r) ∧ Drawn0 w w' := by
  have HR0 := Aside0.mk hr0
  have HC0 := Aside0.mk hc0
  clear hr0 hc0
  have HR1 := Aside0.mk hr1
  have HC1 := Aside0.mk hc1
  clear hr1 hc1
  have H : (remontoirref00_First.l0 k l0 l1 0) = some r := h
  clear h
  have H' := Aside0.mk H
  clear H
  go_enter Tryd.func70, Tryd.ntmps70
  go_wp2
  repeat (go_quiet (fail); try go_wp2)
  go_loopg [5] k (fun kq v5 w' => ∃ (x5_1 : Int), v5 = .int .i64 x5_1 ∧ Aside0 (remontoirref00_First.l0 kq l0 l1 x5_1 = some r) ∧ Aside0 (kq ≤ k) ∧ Drawn0 w w')
  case atStart => exact ⟨(0), (by first | rfl | (simp; done) | (simp [*]; done)), H', ⟨Nat.le_refl _⟩, by repeat (first | exact Drawn0.refl _ | apply Drawn0.step)⟩
  case round =>
    clear H'
    try clear c1
    try clear p2
    obtain ⟨x5_1, rfl, HA, HK1, ⟨m1, rfl⟩⟩ := hrel
    cases gk with
    | zero => exact absurd HA.out (by simp [remontoirref00_First.l0])
    | succ k1 =>
      have H := HA.out
      clear HA
      simp only [remontoirref00_First.l0] at H
      by_cases c3 : x5_1 < (l0.length : Int)
      · rw [if_pos c3] at H
        have c3b0 : decide (x5_1 < (l0.length : Int)) = true := decide_eq_true c3
        clear c3
        by_cases c4 : x5_1 < (l1.length : Int)
        · rw [if_pos c4] at H
          have c4b0 : decide (x5_1 < (l1.length : Int)) = true := decide_eq_true c4
          clear c4
          by_cases c5 : 0 ≤ x5_1
          · rw [if_pos c5] at H
            have c5b0 : decide (0 ≤ x5_1) = true := decide_eq_true c5
            clear c5
            by_cases c6 : (rd l0 x5_1) = (rd l1 x5_1)
            · rw [if_pos c6] at H
              have c6b0 : ((rd l0 x5_1) == (rd l1 x5_1)) = true := beq_iff_eq.mpr c6
              have c6b1 : ((rd l0 x5_1) != (rd l1 x5_1)) = false := bne_eq_false_iff_eq.mpr c6
              clear c6
              have H' := Aside0.mk H
              clear H
              have p183 : 0 ≤ (x5_1 : Int) := of_decide_eq_true (by first | (with_reducible assumption) | assumption)
              have q183 : x5_1 < (l0.length : Int) := of_decide_eq_true (by first | (with_reducible assumption) | assumption)
              obtain ⟨ad183, e183, hx183_0⟩ := Kd.at_int HR0.out x5_1 p183 q183
              cases e183
              replace p183 := eq_true p183
              replace q183 := eq_true q183
              have p184 : 0 ≤ (x5_1 : Int) := of_decide_eq_true (by first | (with_reducible assumption) | assumption)
              have q184 : x5_1 < (l1.length : Int) := of_decide_eq_true (by first | (with_reducible assumption) | assumption)
              obtain ⟨ad184, e184, hx184_0⟩ := Kd.at_int HR1.out x5_1 p184 q184
              cases e184
              replace p184 := eq_true p184
              replace q184 := eq_true q184
              go_wp2
              repeat (go_quiet (fail); try go_wp2)
              go_roundg k1
              case measure => have := HK1.out; omega
              case rel => exact ⟨(wrap64 (x5_1 + 1)), (by first | rfl | (simp; done) | (simp [*]; done)), H', ⟨by have := HK1.out; omega⟩, by repeat (first | exact Drawn0.refl _ | apply Drawn0.step)⟩
            · rw [if_neg c6] at H
              have c6b0 : ((rd l0 x5_1) == (rd l1 x5_1)) = false := beq_eq_false_iff_ne.mpr c6
              have c6b1 : ((rd l0 x5_1) != (rd l1 x5_1)) = true := bne_iff_ne.mpr c6
              obtain rfl := Option.some.inj H
              have p183 : 0 ≤ (x5_1 : Int) := of_decide_eq_true (by first | (with_reducible assumption) | assumption)
              have q183 : x5_1 < (l0.length : Int) := of_decide_eq_true (by first | (with_reducible assumption) | assumption)
              obtain ⟨ad183, e183, hx183_0⟩ := Kd.at_int HR0.out x5_1 p183 q183
              cases e183
              replace p183 := eq_true p183
              replace q183 := eq_true q183
              have p184 : 0 ≤ (x5_1 : Int) := of_decide_eq_true (by first | (with_reducible assumption) | assumption)
              have q184 : x5_1 < (l1.length : Int) := of_decide_eq_true (by first | (with_reducible assumption) | assumption)
              obtain ⟨ad184, e184, hx184_0⟩ := Kd.at_int HR1.out x5_1 p184 q184
              cases e184
              replace p184 := eq_true p184
              replace q184 := eq_true q184
              go_wp2
              repeat (go_quiet (fail); try go_wp2)
              go_ret
              exact ⟨by first | rfl | (simp; done) | (simp [*]; done), by repeat (first | exact Drawn0.refl _ | apply Drawn0.step)⟩
          · rw [if_neg c5] at H
            exact absurd H (by simp)
        · rw [if_neg c4] at H
          have c4b0 : decide (x5_1 < (l1.length : Int)) = false := decide_eq_false c4
          clear c4
          obtain rfl := Option.some.inj H
          go_wp2
          repeat (go_quiet (fail); try go_wp2)
          go_ret
          exact ⟨by first | rfl | (simp; done) | (simp [*]; done), by repeat (first | exact Drawn0.refl _ | apply Drawn0.step)⟩
      · rw [if_neg c3] at H
        have c3b0 : decide (x5_1 < (l0.length : Int)) = false := decide_eq_false c3
        clear c3
        obtain rfl := Option.some.inj H
        go_wp2
        repeat (go_quiet (fail); try go_wp2)
        go_ret
        exact ⟨by first | rfl | (simp; done) | (simp [*]; done), by repeat (first | exact Drawn0.refl _ | apply Drawn0.step)⟩

end Go.Proofs.TrydX.X
end

section
-- Written by wip/tools/pr.py (a program of this repo over the kit's print.py).
namespace Go.Proofs.TrydX.X
open Go.RowKit Go.Proofs.YtidnopmjhhmedaaDoorW.PrintWords Go.Proofs.YtidnopmjhhmedaaDoorW.PrintLast Go.Proofs.YtidnopmjhhmedaaDoorW.PrintMore
attribute [local go_sem] max2_int min2_int max_two min_two max_three min_three max_four min_four   -- for this text's walks alone
set_option linter.unusedVariables false
set_option linter.unusedSimpArgs false

/-! ### remontoirref00_Alike: function 26 -/
def remontoirref00_Alike.f (k : Nat) (l0 : List Int) (l1 : List Int) : Option (Bool) := if (l0.length : Int) = (l1.length : Int) then ((remontoirref00_First.f k l0 l1).bind fun t185 => (some (t185 == (l0.length : Int)))) else (some false)
theorem remontoirref00_Alike.mono : ∀ a0 a1 k, LeO (remontoirref00_Alike.f k a0 a1) (remontoirref00_Alike.f (k + 1) a0 a1) := by
  intro a0 a1 k
  unfold remontoirref00_Alike.f
  repeat' first
      | (with_reducible exact remontoirref00_First.mono _ _ _)
      | (with_reducible exact LeO.refl _)
      | (with_reducible exact LeO.none _)
      | (with_reducible refine LeO.ite ?_ ?_)
      | (with_reducible refine LeO.bind ?_ (fun _ => ?_))
      | exact remontoirref00_First.mono _ _ _
      | exact LeO.none _
      | refine LeO.ite ?_ ?_
      | refine LeO.bind ?_ (fun _ => ?_)
set_option maxHeartbeats 8000000 in
set_option maxRecDepth 100000 in
theorem remontoirref00_Alike.calls (k : Nat) (A0 : Option Addr) (c0 : Nat) (l0 : List Int) (A1 : Option Addr) (c1 : Nat) (l1 : List Int) (r : Bool) (w : World) (hr0 : Kd.C (Kd.int .i64) w A0 l0.length l0) (hc0 : l0.length ≤ c0) (hr1 : Kd.C (Kd.int .i64) w A1 l1.length l1) (hc1 : l1.length ≤ c1) (h : remontoirref00_Alike.f k l0 l1 = some r) :
    Calls Tryd.prog 26 #[.slice A0 l0.length c0, .slice A1 l1.length c1] w fun e w' => e = .returned (.bool r) ∧ Drawn0 w w' := by
  have HR0 := Aside0.mk hr0
  have HC0 := Aside0.mk hc0
  clear hr0 hc0
  have HR1 := Aside0.mk hr1
  have HC1 := Aside0.mk hc1
  clear hr1 hc1
  have H : (if (l0.length : Int) = (l1.length : Int) then ((remontoirref00_First.f k l0 l1).bind fun t185 => (some (t185 == (l0.length : Int)))) else (some false)) = some r := h
  clear h
  by_cases c3 : (l0.length : Int) = (l1.length : Int)
  · rw [if_pos c3] at H
    have c3b0 : ((l0.length : Int) == (l1.length : Int)) = true := beq_iff_eq.mpr c3
    have c3b1 : ((l0.length : Int) != (l1.length : Int)) = false := bne_eq_false_iff_eq.mpr c3
    have c3b2 : (l0.length == l1.length) = true := by first | simpa using c3 | (simp at c3 ⊢; omega)
    clear c3
    replace H := Option.bind_eq_some_iff.mp H
    obtain ⟨t185, A40, H⟩ := H
    replace H : (some (t185 == (l0.length : Int))) = some r := H
    have A4 := Aside0.mk A40
    clear A40
    obtain rfl := Option.some.inj H
    go_enter Tryd.func26, Tryd.ntmps26
    go_wp2_with (first | (go_at_call 70; (with_reducible refine (remontoirref00_First.calls k _ _ l0 _ _ l1 t185 _ ?side1 ?side2 ?side3 ?side4 A4.out).mono ?_); (case side1 => repeat (first | exact HR0.out | (with_reducible refine Kd.C_alloc ?_ _) | (with_reducible refine Kd.C_drewN ?_ _) | (with_reducible refine Kd.C_drew ?_))); (case side2 => exact HC0.out); (case side3 => repeat (first | exact HR1.out | (with_reducible refine Kd.C_alloc ?_ _) | (with_reducible refine Kd.C_drewN ?_ _) | (with_reducible refine Kd.C_drew ?_))); (case side4 => exact HC1.out); rintro e w' ⟨rfl, ⟨nd, rfl⟩⟩))
    go_ret
    exact ⟨by first | rfl | (simp; done) | (simp [*]; done), by repeat (first | exact Drawn0.refl _ | apply Drawn0.step)⟩
  · rw [if_neg c3] at H
    have c3b0 : ((l0.length : Int) == (l1.length : Int)) = false := beq_eq_false_iff_ne.mpr c3
    have c3b1 : ((l0.length : Int) != (l1.length : Int)) = true := bne_iff_ne.mpr c3
    have c3b2 : (l0.length == l1.length) = false := by first | simpa using c3 | (simp at c3 ⊢; omega)
    obtain rfl := Option.some.inj H
    go_enter Tryd.func26, Tryd.ntmps26
    go_wp2
    go_ret
    exact ⟨by first | rfl | (simp; done) | (simp [*]; done), by repeat (first | exact Drawn0.refl _ | apply Drawn0.step)⟩

end Go.Proofs.TrydX.X
end

section
-- Written by wip/tools/pr.py (a program of this repo over the kit's print.py).
namespace Go.Proofs.TrydX.X
open Go.RowKit Go.Proofs.YtidnopmjhhmedaaDoorW.PrintWords Go.Proofs.YtidnopmjhhmedaaDoorW.PrintLast Go.Proofs.YtidnopmjhhmedaaDoorW.PrintMore
attribute [local go_sem] max2_int min2_int max_two min_two max_three min_three max_four min_four   -- for this text's walks alone
set_option linter.unusedVariables false
set_option linter.unusedSimpArgs false

/-! ### remontoirlaw04_rule: function 53 -/
def remontoirlaw04_rule.f  : Option (Int × Int × Int × Int × Int) := (remontoirref00_To.f (-1) 2).bind fun bt649 => (some (10, 5, 4, bt649.1, bt649.2))
set_option maxHeartbeats 8000000 in
set_option maxRecDepth 100000 in
theorem remontoirlaw04_rule.calls  (r1 : Int) (r2 : Int) (r3 : Int) (r4 : Int) (r5 : Int) (w : World) (h : remontoirlaw04_rule.f  = some (r1, r2, r3, r4, r5)) :
    Calls Tryd.prog 53 #[] w fun e w' => e = .returned (.agg #[.int .i64 r1, .int .i64 r2, .int .i64 r3, .int .i64 r4, .int .i64 r5]) ∧ Below w.heap.size w w' := by
  have hu25 := Tryd.underlying25
  have HB := Aside0.mk (Below.refl w.heap.size w)
  have H : ((remontoirref00_To.f (-1) 2).bind fun bt649 => (some (10, 5, 4, bt649.1, bt649.2))) = some (r1, r2, r3, r4, r5) := h
  clear h
  replace H := Option.bind_eq_some_iff.mp H
  obtain ⟨⟨t649, t650⟩, A10, H⟩ := H
  replace H : (some (10, 5, 4, t649, t650)) = some (r1, r2, r3, r4, r5) := H
  have A1 := Aside0.mk A10
  clear A10
  simp only [Option.some.injEq, Prod.mk.injEq] at H
  obtain ⟨rfl, rfl, rfl, rfl, rfl⟩ := H
  go_enter Tryd.func53, Tryd.ntmps53
  go_wp2_with (first | ((with_reducible refine gate_dst (N := 0) rfl ?_); refine box_event ?hg (N := 0) ?hd (cs := #[.int .i64 0, .int .i64 0, .int .i64 0, .int .i64 0, .int .i64 0]) (t := 25) ?hr ?_; (case hd => rfl); (case hg => rfl); (case hr => first | (go_simp; done) | (go_simp; rfl)); intro gb648 hg w2 hbox hb; have n0_ := Aside0.mk (below_step (by repeat (first | (with_reducible first | exact HB.out | apply below_alloc | apply pw_below_drewN | apply below_drew1) | exact HB.out)) hb); have n1_ := Aside0.mk (hbox); have n2_ := Aside0.mk ((by rw [hg]; exact (below_size (by repeat (first | (with_reducible first | exact HB.out | apply below_alloc | apply pw_below_drewN | apply below_drew1) | exact HB.out))) : w.heap.size ≤ gb648)); have n3_ := Aside0.mk ((by rw [hg]; exact (below_size (by repeat (first | (with_reducible first | exact HB.out | apply below_alloc | apply pw_below_drewN | apply below_drew1) | exact HB.out))) : w.heap.size ≤ gb648)); clear HB; have HB := n0_; have BK648 := n1_; have GW648 := n2_; have GE648 := n3_; clear n0_ n1_ n2_ n3_; clear hb hbox hg) | ((with_reducible refine gate_callee (f := 49) rfl ?_); refine goesL_ (some 1) rfl rfl Tryd.func49 (by kernel_rfl) rfl #[.int .i64 (-1), .int .i64 2] rfl (by (try simp only [List.map_toArray, List.map_cons, List.map_nil]); first | done | rfl | (simp only [List.length_drop, List.length_take]; rfl)) ?_; (with_reducible refine (remontoirref00_To.calls (-1) 2 t649 t650 _ A1.out).mono ?_); rintro e w3 ⟨rfl, hb⟩; refine ⟨_, rfl, ?_⟩; have n0_ := Aside0.mk (blk_below (g := gb648) (o := .cells #[.int .i64 0, .int .i64 0, .int .i64 0, .int .i64 0, .int .i64 0] 25 (0, 0)) (by (with_reducible repeat (first | refine blk_drewN ?_ _ | refine blk_drew ?_ | refine blk_alloc ?_ _)); exact BK648.out) hb); have n1_ := Aside0.mk (below_step (by repeat (first | (with_reducible first | exact HB.out | apply below_alloc | apply pw_below_drewN | apply below_drew1 | refine below_set ?_ GE648.out) | exact HB.out)) hb); clear BK648; clear HB; have BK648 := n0_; have HB := n1_; clear n0_ n1_; (try clear hb); (try clear hb2); (try clear hk); (try clear hi); have hcz4_0 : w3.cell? ⟨gb648, 0, none⟩ = some (.int .i64 0) := (blk_cell BK648.out 0).trans rfl; have hcz4_1 : w3.cell? ⟨gb648, 1, none⟩ = some (.int .i64 0) := (blk_cell BK648.out 1).trans rfl; have hcz4_2 : w3.cell? ⟨gb648, 2, none⟩ = some (.int .i64 0) := (blk_cell BK648.out 2).trans rfl; have hcz4_3 : w3.cell? ⟨gb648, 3, none⟩ = some (.int .i64 0) := (blk_cell BK648.out 3).trans rfl; have hcz4_4 : w3.cell? ⟨gb648, 4, none⟩ = some (.int .i64 0) := (blk_cell BK648.out 4).trans rfl; have hfz4_0 := blk_frozen BK648.out 0; have hfz4_1 := blk_frozen BK648.out 1; have hfz4_2 := blk_frozen BK648.out 2; have hfz4_3 := blk_frozen BK648.out 3; have hfz4_4 := blk_frozen BK648.out 4))
  refine bodyPost_ret (results_cell_row rfl _ _ gb648 25 #[.int .i64 10, .int .i64 5, .int .i64 4, .int .i64 t649, .int .i64 t650] (0, 0) _ rfl (by (with_reducible repeat (first | refine blk_drewN ?_ _ | refine blk_drew ?_ | refine blk_alloc ?_ _)); refine blk_put (cs := #[.int .i64 10, .int .i64 5, .int .i64 4, .int .i64 t649, .int .i64 0]) ?_ 4 _ rfl; (with_reducible repeat (first | refine blk_drewN ?_ _ | refine blk_drew ?_ | refine blk_alloc ?_ _)); refine blk_put (cs := #[.int .i64 10, .int .i64 5, .int .i64 4, .int .i64 0, .int .i64 0]) ?_ 3 _ rfl; (with_reducible repeat (first | refine blk_drewN ?_ _ | refine blk_drew ?_ | refine blk_alloc ?_ _)); refine blk_put (cs := #[.int .i64 10, .int .i64 5, .int .i64 0, .int .i64 0, .int .i64 0]) ?_ 2 _ rfl; (with_reducible repeat (first | refine blk_drewN ?_ _ | refine blk_drew ?_ | refine blk_alloc ?_ _)); refine blk_put (cs := #[.int .i64 10, .int .i64 0, .int .i64 0, .int .i64 0, .int .i64 0]) ?_ 1 _ rfl; (with_reducible repeat (first | refine blk_drewN ?_ _ | refine blk_drew ?_ | refine blk_alloc ?_ _)); refine blk_put (cs := #[.int .i64 0, .int .i64 0, .int .i64 0, .int .i64 0, .int .i64 0]) ?_ 0 _ rfl; (with_reducible repeat (first | refine blk_drewN ?_ _ | refine blk_drew ?_ | refine blk_alloc ?_ _)); exact BK648.out) Tryd.underlying25 rfl (by kernel_rfl)) rfl ?_
  exact ⟨by first | rfl | (simp [errW_none, errW_some] <;> rfl) | (simp [*, errW_none, errW_some] <;> rfl), by repeat (first | (with_reducible first | exact HB.out | apply below_alloc | apply pw_below_drewN | apply below_drew1 | refine below_set ?_ GE648.out) | exact HB.out)⟩

end Go.Proofs.TrydX.X
end

section
-- Written by wip/tools/pr.py (a program of this repo over the kit's print.py).
namespace Go.Proofs.TrydX.X
open Go.RowKit Go.Proofs.YtidnopmjhhmedaaDoorW.PrintWords Go.Proofs.YtidnopmjhhmedaaDoorW.PrintLast Go.Proofs.YtidnopmjhhmedaaDoorW.PrintMore
attribute [local go_sem] max2_int min2_int max_two min_two max_three min_three max_four min_four   -- for this text's walks alone
set_option linter.unusedVariables false
set_option linter.unusedSimpArgs false

/-! ### remontoirlaw04_book: function 52 -/
def remontoirlaw04_book.f (l0 : List (S71)) : Option (Int × Int × Int × Int × Int × Int × List Int × (List (S71))) := (remontoirlaw04_rule.f).bind fun bt652 => ((remontoirref00_To.f 18 22).bind fun bt660 => ((remontoirref00_To.f (-3) 4).bind fun bt662 => ((some (([(⟨0, (⟨bt660.1, bt660.2⟩ : S23)⟩ : S71), (⟨6, (⟨bt662.1, bt662.2⟩ : S23)⟩ : S71)] : List (S71)) : List (S71))).bind fun y664 => (if y664.length + l0.length < 5864062014805 then (some (bt652.1, bt652.2.1, bt652.2.2.1, bt652.2.2.2.1, bt652.2.2.2.2, 10, (([(-4), (-5), (-4)] : List Int)), (y664 ++ l0))) else (none)))))
set_option maxHeartbeats 8000000 in
set_option maxRecDepth 100000 in
theorem remontoirlaw04_book.calls (A0 : Option Addr) (c0 : Nat) (l0 : List (S71)) (r1 : Int) (r2 : Int) (r3 : Int) (r4 : Int) (r5 : Int) (r6 : Int) (r7 : List Int) (r8 : List (S71)) (w : World) (hr0 : Kd.C k71 w A0 l0.length l0) (hc0 : l0.length ≤ c0) (h : remontoirlaw04_book.f l0 = some (r1, r2, r3, r4, r5, r6, r7, r8)) :
    Calls Tryd.prog 52 #[.slice A0 l0.length c0] w fun e w' => ∃ v6_ v7_ : Value, e = .returned (.agg #[.int .i64 r1, .int .i64 r2, .int .i64 r3, .int .i64 r4, .int .i64 r5, .int .i64 r6, v6_, v7_]) ∧ Kd.R (Kd.int .i64) 3 w' w.heap.size (fun _ => True) v6_ r7 ∧ Kd.R k71 71 w' w.heap.size (fun _ => True) v7_ r8 ∧ Below w.heap.size w w' := by
  have hu44 := Tryd.underlying44
  have hu71 := Tryd.underlying71
  have HR0 := Aside0.mk hr0
  have HC0 := Aside0.mk hc0
  clear hr0 hc0
  have HB := Aside0.mk (Below.refl w.heap.size w)
  have H : ((remontoirlaw04_rule.f).bind fun bt652 => ((remontoirref00_To.f 18 22).bind fun bt660 => ((remontoirref00_To.f (-3) 4).bind fun bt662 => ((some (([(⟨0, (⟨bt660.1, bt660.2⟩ : S23)⟩ : S71), (⟨6, (⟨bt662.1, bt662.2⟩ : S23)⟩ : S71)] : List (S71)) : List (S71))).bind fun y664 => (if y664.length + l0.length < 5864062014805 then (some (bt652.1, bt652.2.1, bt652.2.2.1, bt652.2.2.2.1, bt652.2.2.2.2, 10, (([(-4), (-5), (-4)] : List Int)), (y664 ++ l0))) else (none)))))) = some (r1, r2, r3, r4, r5, r6, r7, r8) := h
  clear h
  replace H := Option.bind_eq_some_iff.mp H
  obtain ⟨⟨t652, t653, t654, t655, t656⟩, A20, H⟩ := H
  replace H : ((remontoirref00_To.f 18 22).bind fun bt660 => ((remontoirref00_To.f (-3) 4).bind fun bt662 => ((some (([(⟨0, (⟨bt660.1, bt660.2⟩ : S23)⟩ : S71), (⟨6, (⟨bt662.1, bt662.2⟩ : S23)⟩ : S71)] : List (S71)) : List (S71))).bind fun y664 => (if y664.length + l0.length < 5864062014805 then (some (t652, t653, t654, t655, t656, 10, (([(-4), (-5), (-4)] : List Int)), (y664 ++ l0))) else (none))))) = some (r1, r2, r3, r4, r5, r6, r7, r8) := H
  have A2 := Aside0.mk A20
  clear A20
  obtain ⟨y657, hy657⟩ : ∃ y_ : List Int, y_ = (([(-4), (-5), (-4)] : List Int)) := ⟨_, rfl⟩
  replace H : ((remontoirref00_To.f 18 22).bind fun bt660 => ((remontoirref00_To.f (-3) 4).bind fun bt662 => ((some (([(⟨0, (⟨bt660.1, bt660.2⟩ : S23)⟩ : S71), (⟨6, (⟨bt662.1, bt662.2⟩ : S23)⟩ : S71)] : List (S71)) : List (S71))).bind fun y664 => (if y664.length + l0.length < 5864062014805 then (some (t652, t653, t654, t655, t656, 10, y657, (y664 ++ l0))) else (none))))) = some (r1, r2, r3, r4, r5, r6, r7, r8) := by first | (rw [hy657]; with_reducible exact H) | (have H2_ := (Option.bind_some _ _).symm.trans H; rw [hy657]; with_reducible exact H2_) | (have H2_ := (Option.bind_some _ _).symm.trans H; with_reducible exact H2_) | with_reducible exact H | (rw [hy657]; exact H) | exact H
  have Ny657 := Aside0.mk hy657
  clear hy657
  replace H := Option.bind_eq_some_iff.mp H
  obtain ⟨⟨t660, t661⟩, A30, H⟩ := H
  replace H : ((remontoirref00_To.f (-3) 4).bind fun bt662 => ((some (([(⟨0, (⟨t660, t661⟩ : S23)⟩ : S71), (⟨6, (⟨bt662.1, bt662.2⟩ : S23)⟩ : S71)] : List (S71)) : List (S71))).bind fun y664 => (if y664.length + l0.length < 5864062014805 then (some (t652, t653, t654, t655, t656, 10, y657, (y664 ++ l0))) else (none)))) = some (r1, r2, r3, r4, r5, r6, r7, r8) := H
  have A3 := Aside0.mk A30
  clear A30
  replace H := Option.bind_eq_some_iff.mp H
  obtain ⟨⟨t662, t663⟩, A40, H⟩ := H
  replace H : ((some (([(⟨0, (⟨t660, t661⟩ : S23)⟩ : S71), (⟨6, (⟨t662, t663⟩ : S23)⟩ : S71)] : List (S71)) : List (S71))).bind fun y664 => (if y664.length + l0.length < 5864062014805 then (some (t652, t653, t654, t655, t656, 10, y657, (y664 ++ l0))) else (none))) = some (r1, r2, r3, r4, r5, r6, r7, r8) := H
  have A4 := Aside0.mk A40
  clear A40
  obtain ⟨y664, hy664⟩ : ∃ y_ : List (S71), y_ = (([(⟨0, (⟨t660, t661⟩ : S23)⟩ : S71), (⟨6, (⟨t662, t663⟩ : S23)⟩ : S71)] : List (S71))) := ⟨_, rfl⟩
  replace H : (if y664.length + l0.length < 5864062014805 then (some (t652, t653, t654, t655, t656, 10, y657, (y664 ++ l0))) else (none)) = some (r1, r2, r3, r4, r5, r6, r7, r8) := by first | (rw [hy664]; with_reducible exact H) | (have H2_ := (Option.bind_some _ _).symm.trans H; rw [hy664]; with_reducible exact H2_) | (have H2_ := (Option.bind_some _ _).symm.trans H; with_reducible exact H2_) | with_reducible exact H | (rw [hy664]; exact H) | exact H
  have Ny664 := Aside0.mk hy664
  clear hy664
  by_cases c5 : y664.length + l0.length < 5864062014805
  · rw [if_pos c5] at H
    have LMc5 := Aside0.mk c5
    clear c5
    obtain ⟨y668, hy668⟩ : ∃ y_ : List (S71), y_ = (y664 ++ l0) := ⟨_, rfl⟩
    replace H : (some (t652, t653, t654, t655, t656, 10, y657, y668)) = some (r1, r2, r3, r4, r5, r6, r7, r8) := by first | (rw [hy668]; with_reducible exact H) | (have H2_ := (Option.bind_some _ _).symm.trans H; rw [hy668]; with_reducible exact H2_) | (have H2_ := (Option.bind_some _ _).symm.trans H; with_reducible exact H2_) | with_reducible exact H | (rw [hy668]; exact H) | exact H
    have Ny668 := Aside0.mk hy668
    clear hy668
    simp only [Option.some.injEq, Prod.mk.injEq] at H
    obtain ⟨rfl, rfl, rfl, rfl, rfl, rfl, rfl, rfl⟩ := H
    go_enter Tryd.func52, Tryd.ntmps52
    go_wp2_with (first | ((with_reducible refine gate_dst (N := 2) rfl ?_); refine box_event ?hg (N := 2) ?hd (cs := #[.int .i64 0, .int .i64 0, .int .i64 0, .int .i64 0, .int .i64 0, .int .i64 0, .slice none 0 0, .slice none 0 0]) (t := 44) ?hr ?_; (case hd => rfl); (case hg => rfl); (case hr => first | (go_simp; done) | (go_simp; rfl)); intro gb651 hg w6 hbox hb; have n0_ := Aside0.mk (below_step (by repeat (first | (with_reducible first | exact HB.out | apply below_alloc | apply pw_below_drewN | apply below_drew1) | exact HB.out)) hb); have n1_ := Aside0.mk (hbox); have n2_ := Aside0.mk ((by rw [hg]; exact (below_size (by repeat (first | (with_reducible first | exact HB.out | apply below_alloc | apply pw_below_drewN | apply below_drew1) | exact HB.out))) : w.heap.size ≤ gb651)); have n3_ := Aside0.mk ((by rw [hg]; exact (below_size (by repeat (first | (with_reducible first | exact HB.out | apply below_alloc | apply pw_below_drewN | apply below_drew1) | exact HB.out))) : w.heap.size ≤ gb651)); clear HB; have HB := n0_; have BK651 := n1_; have GW651 := n2_; have GE651 := n3_; clear n0_ n1_ n2_ n3_; clear hb hbox hg) | ((with_reducible refine gate_callee (f := 53) rfl ?_); refine goesL_ (some 4) rfl rfl Tryd.func53 (by kernel_rfl) rfl #[] rfl (by (try simp only [List.map_toArray, List.map_cons, List.map_nil]); first | done | rfl | (simp only [List.length_drop, List.length_take]; rfl)) ?_; (with_reducible refine (remontoirlaw04_rule.calls  t652 t653 t654 t655 t656 _ A2.out).mono ?_); rintro e w7 ⟨rfl, hb⟩; refine ⟨_, rfl, ?_⟩; have n0_ := Aside0.mk (blk_below (g := gb651) (o := .cells #[.int .i64 0, .int .i64 0, .int .i64 0, .int .i64 0, .int .i64 0, .int .i64 0, .slice none 0 0, .slice none 0 0] 44 (0, 0)) (by (with_reducible repeat (first | refine blk_drewN ?_ _ | refine blk_drew ?_ | refine blk_alloc ?_ _)); exact BK651.out) hb); have n1_ := Aside0.mk (below_step (by repeat (first | (with_reducible first | exact HB.out | apply below_alloc | apply pw_below_drewN | apply below_drew1 | refine below_set ?_ GE651.out) | exact HB.out)) hb); clear BK651; clear HB; have BK651 := n0_; have HB := n1_; clear n0_ n1_; (try clear hb); (try clear hb2); (try clear hk); (try clear hi)) | ((with_reducible refine gate_dst (N := 5) rfl ?_); refine Kd.R_lit (Kd.int .i64) _ 3 ?hg (N := 5) ?hd (xs := ([(-4), (-5), (-4)] : List Int)) (inner := [.int .i64 (-4), .int .i64 (-5), .int .i64 (-4)]) (ok := fun _ => True) (okp := fun _ => True) ?hr ?hp (fun _ hk => hk) trivial (Below.refl _ _) (Nat.le_refl _) (by simp) ?_; (case hd => rfl); (case hg => rfl); (case hr => first | (go_simp; done) | (go_simp; rfl)); (case hp => exact (Reps.one (show Kd.M (Kd.int .i64) _ _ _ (-4) [.int .i64 (-4)] from rfl) (Reps.one (show Kd.M (Kd.int .i64) _ _ _ (-5) [.int .i64 (-5)] from rfl) (Reps.one (show Kd.M (Kd.int .i64) _ _ _ (-4) [.int .i64 (-4)] from rfl) (Reps.none _ _))))); intro v658 w8 ho9 hb hg_ hnew_; clear hg_ hnew_; (first | rw [← Ny657.out] at ho9 | (simp only [Int.reduceToNat] at ho9; rw [← Ny657.out] at ho9)); have n0_ := Aside0.mk (Kd.R_lower ho9 (below_size (by repeat (first | (with_reducible first | exact HB.out | apply below_alloc | apply pw_below_drewN | apply below_drew1 | refine below_set ?_ GE651.out) | exact HB.out)))); have n1_ := Aside0.mk (blk_below (g := gb651) (o := .cells #[.int .i64 0, .int .i64 0, .int .i64 0, .int .i64 0, .int .i64 0, .int .i64 0, .slice none 0 0, .slice none 0 0] 44 (0, 0)) (by (with_reducible repeat (first | refine blk_drewN ?_ _ | refine blk_drew ?_ | refine blk_alloc ?_ _)); exact BK651.out) hb); have n2_ := Aside0.mk (below_step (by repeat (first | (with_reducible first | exact HB.out | apply below_alloc | apply pw_below_drewN | apply below_drew1 | refine below_set ?_ GE651.out) | exact HB.out)) hb); clear BK651; clear HB; have HO659 := n0_; have BK651 := n1_; have HB := n2_; clear n0_ n1_ n2_; clear hb ho9) | ((with_reducible refine gate_callee (f := 49) rfl ?_); refine goesL_ (some 6) rfl rfl Tryd.func49 (by kernel_rfl) rfl #[.int .i64 18, .int .i64 22] rfl (by (try simp only [List.map_toArray, List.map_cons, List.map_nil]); first | done | rfl | (simp only [List.length_drop, List.length_take]; rfl)) ?_; (with_reducible refine (remontoirref00_To.calls 18 22 t660 t661 _ A3.out).mono ?_); rintro e w10 ⟨rfl, hb⟩; refine ⟨_, rfl, ?_⟩; have n0_ := Aside0.mk (Kd.R_below (by (with_reducible repeat (first | apply Kd.R_alloc | apply Kd.R_drewN | apply Kd.R_drew)); exact HO659.out) hb); have n1_ := Aside0.mk (blk_below (g := gb651) (o := .cells #[.int .i64 0, .int .i64 0, .int .i64 0, .int .i64 0, .int .i64 0, .int .i64 0, .slice none 0 0, .slice none 0 0] 44 (0, 0)) (by (with_reducible repeat (first | refine blk_drewN ?_ _ | refine blk_drew ?_ | refine blk_alloc ?_ _)); exact BK651.out) hb); have n2_ := Aside0.mk (below_step (by repeat (first | (with_reducible first | exact HB.out | apply below_alloc | apply pw_below_drewN | apply below_drew1 | refine below_set ?_ GE651.out) | exact HB.out)) hb); clear HO659; clear BK651; clear HB; have HO659 := n0_; have BK651 := n1_; have HB := n2_; clear n0_ n1_ n2_; (try clear hb); (try clear hb2); (try clear hk); (try clear hi)) | ((with_reducible refine gate_callee (f := 49) rfl ?_); refine goesL_ (some 8) rfl rfl Tryd.func49 (by kernel_rfl) rfl #[.int .i64 (-3), .int .i64 4] rfl (by (try simp only [List.map_toArray, List.map_cons, List.map_nil]); first | done | rfl | (simp only [List.length_drop, List.length_take]; rfl)) ?_; (with_reducible refine (remontoirref00_To.calls (-3) 4 t662 t663 _ A4.out).mono ?_); rintro e w11 ⟨rfl, hb⟩; refine ⟨_, rfl, ?_⟩; have n0_ := Aside0.mk (Kd.R_below (by (with_reducible repeat (first | apply Kd.R_alloc | apply Kd.R_drewN | apply Kd.R_drew)); exact HO659.out) hb); have n1_ := Aside0.mk (blk_below (g := gb651) (o := .cells #[.int .i64 0, .int .i64 0, .int .i64 0, .int .i64 0, .int .i64 0, .int .i64 0, .slice none 0 0, .slice none 0 0] 44 (0, 0)) (by (with_reducible repeat (first | refine blk_drewN ?_ _ | refine blk_drew ?_ | refine blk_alloc ?_ _)); exact BK651.out) hb); have n2_ := Aside0.mk (below_step (by repeat (first | (with_reducible first | exact HB.out | apply below_alloc | apply pw_below_drewN | apply below_drew1 | refine below_set ?_ GE651.out) | exact HB.out)) hb); clear HO659; clear BK651; clear HB; have HO659 := n0_; have BK651 := n1_; have HB := n2_; clear n0_ n1_ n2_; (try clear hb); (try clear hb2); (try clear hk); (try clear hi)) | ((with_reducible refine gate_dst (N := 10) rfl ?_); refine Kd.R_lit k71 _ 71 ?hg (N := 10) ?hd (xs := ([(⟨0, (⟨t660, t661⟩ : S23)⟩ : S71), (⟨6, (⟨t662, t663⟩ : S23)⟩ : S71)] : List (S71))) (inner := [.int .i64 0, .int .i64 t660, .int .i64 t661, .int .i64 6, .int .i64 t662, .int .i64 t663]) (ok := fun _ => True) (okp := fun _ => True) ?hr ?hp (fun _ hk => hk) trivial (Below.refl _ _) (Nat.le_refl _) (by simp) ?_; (case hd => rfl); (case hg => rfl); (case hr => first | (go_simp; done) | (go_simp; rfl)); (case hp => exact (Reps.c3 (show Kd.M k71 _ _ _ (⟨0, (⟨t660, t661⟩ : S23)⟩ : S71) [.int .i64 0, .int .i64 t660, .int .i64 t661] from (k71_mkM _ _ _ (⟨0, (⟨t660, t661⟩ : S23)⟩ : S71) )) (Reps.c3 (show Kd.M k71 _ _ _ (⟨6, (⟨t662, t663⟩ : S23)⟩ : S71) [.int .i64 6, .int .i64 t662, .int .i64 t663] from (k71_mkM _ _ _ (⟨6, (⟨t662, t663⟩ : S23)⟩ : S71) )) (Reps.none _ _)))); intro v665 w12 ho13 hb hg_ hnew_; clear hg_ hnew_; (first | rw [← Ny664.out] at ho13 | (simp only [Int.reduceToNat] at ho13; rw [← Ny664.out] at ho13)); have n0_ := Aside0.mk (Kd.R_below (by (with_reducible repeat (first | apply Kd.R_alloc | apply Kd.R_drewN | apply Kd.R_drew)); exact HO659.out) hb); have n1_ := Aside0.mk (Kd.R_lower ho13 (below_size (by repeat (first | (with_reducible first | exact HB.out | apply below_alloc | apply pw_below_drewN | apply below_drew1 | refine below_set ?_ GE651.out) | exact HB.out)))); have n2_ := Aside0.mk (blk_below (g := gb651) (o := .cells #[.int .i64 0, .int .i64 0, .int .i64 0, .int .i64 0, .int .i64 0, .int .i64 0, .slice none 0 0, .slice none 0 0] 44 (0, 0)) (by (with_reducible repeat (first | refine blk_drewN ?_ _ | refine blk_drew ?_ | refine blk_alloc ?_ _)); exact BK651.out) hb); have n3_ := Aside0.mk (below_step (by repeat (first | (with_reducible first | exact HB.out | apply below_alloc | apply pw_below_drewN | apply below_drew1 | refine below_set ?_ GE651.out) | exact HB.out)) hb); clear HO659; clear BK651; clear HB; have HO659 := n0_; have HO666 := n1_; have BK651 := n2_; have HB := n3_; clear n0_ n1_ n2_ n3_; clear hb ho13; obtain ⟨Ao14, co14, eo14⟩ := Kd.R_slice HO666.out; subst eo14; obtain ⟨Ao15, co15, eo15⟩ := Kd.R_slice HO659.out; subst eo15) | ((with_reducible refine gate_dst (N := 3) rfl ?_); refine box_event ?hg (N := 3) ?hd (cs := #[.int .i64 0, .int .i64 0, .int .i64 0, .int .i64 0, .int .i64 0, .int .i64 0, .slice none 0 0, .slice none 0 0]) (t := 44) ?hr ?_; (case hd => rfl); (case hg => rfl); (case hr => first | (go_simp; done) | (go_simp; rfl)); intro gb667 hg w16 hbox hb; have n0_ := Aside0.mk (Kd.R_below (by (with_reducible repeat (first | apply Kd.R_alloc | apply Kd.R_drewN | apply Kd.R_drew)); exact HO659.out) hb); have n1_ := Aside0.mk (Kd.R_below (by (with_reducible repeat (first | apply Kd.R_alloc | apply Kd.R_drewN | apply Kd.R_drew)); exact HO666.out) hb); have n2_ := Aside0.mk (blk_below (g := gb651) (o := .cells #[.int .i64 0, .int .i64 0, .int .i64 0, .int .i64 0, .int .i64 0, .int .i64 0, .slice none 0 0, .slice none 0 0] 44 (0, 0)) (by (with_reducible repeat (first | refine blk_drewN ?_ _ | refine blk_drew ?_ | refine blk_alloc ?_ _)); exact BK651.out) hb); have n3_ := Aside0.mk (below_step (by repeat (first | (with_reducible first | exact HB.out | apply below_alloc | apply pw_below_drewN | apply below_drew1 | refine below_set ?_ GE651.out) | exact HB.out)) hb); have n4_ := Aside0.mk (hbox); have n5_ := Aside0.mk ((by rw [hg]; exact (below_size (by repeat (first | (with_reducible first | exact HB.out | apply below_alloc | apply pw_below_drewN | apply below_drew1 | refine below_set ?_ GE651.out) | exact HB.out))) : w.heap.size ≤ gb667)); have n6_ := Aside0.mk ((by rw [hg]; exact (below_size (by repeat (first | (with_reducible first | exact HB.out | apply below_alloc | apply pw_below_drewN | apply below_drew1 | refine below_set ?_ GE651.out) | exact HB.out))) : w.heap.size ≤ gb667)); have n7_ := Aside0.mk ((by rw [hg]; exact Nat.ne_of_lt (blk_lt (g := gb651) (o := .cells #[.int .i64 0, .int .i64 0, .int .i64 0, .int .i64 0, .int .i64 0, .int .i64 0, .slice none 0 0, .slice none 0 0] 44 (0, 0)) (by (with_reducible repeat (first | refine blk_drewN ?_ _ | refine blk_drew ?_ | refine blk_alloc ?_ _)); exact BK651.out)) : gb651 ≠ gb667)); have n8_ := Aside0.mk ((by rw [hg]; exact Nat.ne_of_gt (blk_lt (g := gb651) (o := .cells #[.int .i64 0, .int .i64 0, .int .i64 0, .int .i64 0, .int .i64 0, .int .i64 0, .slice none 0 0, .slice none 0 0] 44 (0, 0)) (by (with_reducible repeat (first | refine blk_drewN ?_ _ | refine blk_drew ?_ | refine blk_alloc ?_ _)); exact BK651.out)) : gb667 ≠ gb651)); clear HO659; clear HO666; clear BK651; clear HB; have HO659 := n0_; have HO666 := n1_; have BK651 := n2_; have HB := n3_; have BK667 := n4_; have GW667 := n5_; have GE667 := n6_; have NB651_667 := n7_; have NB667_651 := n8_; clear n0_ n1_ n2_ n3_ n4_ n5_ n6_ n7_ n8_; clear hb hbox hg; have hnb17 := NB667_651.out; have hnc17 := NB651_667.out; have hcz18_0 : w16.cell? ⟨gb667, 0, none⟩ = some (.int .i64 0) := (blk_cell BK667.out 0).trans rfl; have hcz18_1 : w16.cell? ⟨gb667, 1, none⟩ = some (.int .i64 0) := (blk_cell BK667.out 1).trans rfl; have hcz18_2 : w16.cell? ⟨gb667, 2, none⟩ = some (.int .i64 0) := (blk_cell BK667.out 2).trans rfl; have hcz18_3 : w16.cell? ⟨gb667, 3, none⟩ = some (.int .i64 0) := (blk_cell BK667.out 3).trans rfl; have hcz18_4 : w16.cell? ⟨gb667, 4, none⟩ = some (.int .i64 0) := (blk_cell BK667.out 4).trans rfl; have hcz18_5 : w16.cell? ⟨gb667, 5, none⟩ = some (.int .i64 0) := (blk_cell BK667.out 5).trans rfl; have hcz18_6 : w16.cell? ⟨gb667, 6, none⟩ = some (.slice none 0 0) := (blk_cell BK667.out 6).trans rfl; have hcz18_7 : w16.cell? ⟨gb667, 7, none⟩ = some (.slice none 0 0) := (blk_cell BK667.out 7).trans rfl; have hfz18_0 := blk_frozen BK667.out 0; have hfz18_1 := blk_frozen BK667.out 1; have hfz18_2 := blk_frozen BK667.out 2; have hfz18_3 := blk_frozen BK667.out 3; have hfz18_4 := blk_frozen BK667.out 4; have hfz18_5 := blk_frozen BK667.out 5; have hfz18_6 := blk_frozen BK667.out 6; have hfz18_7 := blk_frozen BK667.out 7) | ((with_reducible refine gate_builtin (b := .append) (xs := #[.tmp 13, .tmp 14]) rfl ?_); at_builtin; refine Kd.R_append_rows k71 (w0 := w) w.heap.size rfl (.tmp 13) (.tmp 14) 42 71 (.agg #[(.int .i64 0), (.int .i64 0), (.int .i64 0)]) 24 rfl Tryd.underlying42 info71 rfl (by decide) (by omega) (.slice Ao14 y664.length co14) y664 l0 _ _ _ (fun _ => True) (fun _ => False) rfl rfl ?aO ?aR (fun _ _ h => h) (fun _ h => h.elim) ?aF ?aB ?aS ?aL ?_; (case aR => exact Kd.C_below HR0.out (by repeat (first | (with_reducible first | exact HB.out | apply below_alloc | apply pw_below_drewN | apply below_drew1 | refine below_set ?_ GE651.out | refine below_set ?_ GE667.out) | exact HB.out))); (case aB => exact (by repeat (first | (with_reducible first | exact HB.out | apply below_alloc | apply pw_below_drewN | apply below_drew1 | refine below_set ?_ GE651.out | refine below_set ?_ GE667.out) | exact HB.out))); (case aF => exact (fun _ _ => trivial)); (case aO => exact (by (with_reducible repeat (first | apply Kd.R_alloc | apply Kd.R_drewN | apply Kd.R_drew)); exact Kd.R_mono (Kd.R_far (p := ⟨gb667, 7, none⟩) (Kd.R_far (p := ⟨gb667, 6, none⟩) (Kd.R_far (p := ⟨gb667, 5, none⟩) (Kd.R_far (p := ⟨gb667, 4, none⟩) (Kd.R_far (p := ⟨gb667, 3, none⟩) (Kd.R_far (p := ⟨gb667, 2, none⟩) (Kd.R_far (p := ⟨gb667, 1, none⟩) (Kd.R_far (p := ⟨gb667, 0, none⟩) (Kd.R_types HO666.out BK667.out (by decide)) (fun _ hk => hk.2) (.int .i64 t652)) (fun _ hk => hk.2) (.int .i64 t653)) (fun _ hk => hk.2) (.int .i64 t654)) (fun _ hk => hk.2) (.int .i64 t655)) (fun _ hk => hk.2) (.int .i64 t656)) (fun _ hk => hk.2) (.int .i64 10)) (fun _ hk => hk.2) (.slice Ao15 y657.length co15)) (fun _ hk => hk.2) (.slice Ao14 y664.length co14)) (fun _ hk => trivial))); (case aS => exact (below_size (by repeat (first | (with_reducible first | exact HB.out | apply below_alloc | apply pw_below_drewN | apply below_drew1 | refine below_set ?_ GE651.out | refine below_set ?_ GE667.out) | exact HB.out)))); (case aL => have := LMc5.out; omega); intro v669 w19 ho hb hg hat; rw [← Ny668.out] at ho; have n0_ := Aside0.mk (blk_grown (g := gb651) (o := .cells #[.int .i64 0, .int .i64 0, .int .i64 0, .int .i64 0, .int .i64 0, .int .i64 0, .slice none 0 0, .slice none 0 0] 44 (0, 0)) (by (with_reducible repeat (first | refine blk_drewN ?_ _ | refine blk_drew ?_ | refine blk_alloc ?_ _)); refine blk_far ?_ NB651_667.out _; (with_reducible repeat (first | refine blk_drewN ?_ _ | refine blk_drew ?_ | refine blk_alloc ?_ _)); refine blk_far ?_ NB651_667.out _; (with_reducible repeat (first | refine blk_drewN ?_ _ | refine blk_drew ?_ | refine blk_alloc ?_ _)); refine blk_far ?_ NB651_667.out _; (with_reducible repeat (first | refine blk_drewN ?_ _ | refine blk_drew ?_ | refine blk_alloc ?_ _)); refine blk_far ?_ NB651_667.out _; (with_reducible repeat (first | refine blk_drewN ?_ _ | refine blk_drew ?_ | refine blk_alloc ?_ _)); refine blk_far ?_ NB651_667.out _; (with_reducible repeat (first | refine blk_drewN ?_ _ | refine blk_drew ?_ | refine blk_alloc ?_ _)); refine blk_far ?_ NB651_667.out _; (with_reducible repeat (first | refine blk_drewN ?_ _ | refine blk_drew ?_ | refine blk_alloc ?_ _)); refine blk_far ?_ NB651_667.out _; (with_reducible repeat (first | refine blk_drewN ?_ _ | refine blk_drew ?_ | refine blk_alloc ?_ _)); refine blk_far ?_ NB651_667.out _; (with_reducible repeat (first | refine blk_drewN ?_ _ | refine blk_drew ?_ | refine blk_alloc ?_ _)); exact BK651.out) hg (Kd.R_ne HO666.out BK651.out (by decide))); have n1_ := Aside0.mk (Kd.R_over' (by (with_reducible repeat (first | apply Kd.R_alloc | apply Kd.R_drewN | apply Kd.R_drew)); exact (Kd.R_mono (Kd.R_far (p := ⟨gb667, 7, none⟩) (Kd.R_far (p := ⟨gb667, 6, none⟩) (Kd.R_far (p := ⟨gb667, 5, none⟩) (Kd.R_far (p := ⟨gb667, 4, none⟩) (Kd.R_far (p := ⟨gb667, 3, none⟩) (Kd.R_far (p := ⟨gb667, 2, none⟩) (Kd.R_far (p := ⟨gb667, 1, none⟩) (Kd.R_far (p := ⟨gb667, 0, none⟩) (Kd.R_types HO659.out BK667.out (by decide)) (fun _ hk => hk.2) (.int .i64 t652)) (fun _ hk => hk.2) (.int .i64 t653)) (fun _ hk => hk.2) (.int .i64 t654)) (fun _ hk => hk.2) (.int .i64 t655)) (fun _ hk => hk.2) (.int .i64 t656)) (fun _ hk => hk.2) (.int .i64 10)) (fun _ hk => hk.2) (.slice Ao15 y657.length co15)) (fun _ hk => hk.2) (.slice Ao14 y664.length co14)) (fun _ h_ => h_.1))) (Kd.R_typed (by (with_reducible repeat (first | apply Kd.R_alloc | apply Kd.R_drewN | apply Kd.R_drew)); exact (Kd.R_mono (Kd.R_far (p := ⟨gb667, 7, none⟩) (Kd.R_far (p := ⟨gb667, 6, none⟩) (Kd.R_far (p := ⟨gb667, 5, none⟩) (Kd.R_far (p := ⟨gb667, 4, none⟩) (Kd.R_far (p := ⟨gb667, 3, none⟩) (Kd.R_far (p := ⟨gb667, 2, none⟩) (Kd.R_far (p := ⟨gb667, 1, none⟩) (Kd.R_far (p := ⟨gb667, 0, none⟩) (Kd.R_types HO666.out BK667.out (by decide)) (fun _ hk => hk.2) (.int .i64 t652)) (fun _ hk => hk.2) (.int .i64 t653)) (fun _ hk => hk.2) (.int .i64 t654)) (fun _ hk => hk.2) (.int .i64 t655)) (fun _ hk => hk.2) (.int .i64 t656)) (fun _ hk => hk.2) (.int .i64 10)) (fun _ hk => hk.2) (.slice Ao15 y657.length co15)) (fun _ hk => hk.2) (.slice Ao14 y664.length co14)) (fun _ h_ => h_.1)))) (by decide) hg); have n2_ := Aside0.mk (blk_grown (g := gb667) (o := .cells #[.int .i64 t652, .int .i64 t653, .int .i64 t654, .int .i64 t655, .int .i64 t656, .int .i64 10, .slice Ao15 y657.length co15, .slice Ao14 y664.length co14] 44 (0, 0)) (by (with_reducible repeat (first | refine blk_drewN ?_ _ | refine blk_drew ?_ | refine blk_alloc ?_ _)); refine blk_put (cs := #[.int .i64 t652, .int .i64 t653, .int .i64 t654, .int .i64 t655, .int .i64 t656, .int .i64 10, .slice Ao15 y657.length co15, .slice none 0 0]) ?_ 7 _ rfl; (with_reducible repeat (first | refine blk_drewN ?_ _ | refine blk_drew ?_ | refine blk_alloc ?_ _)); refine blk_put (cs := #[.int .i64 t652, .int .i64 t653, .int .i64 t654, .int .i64 t655, .int .i64 t656, .int .i64 10, .slice none 0 0, .slice none 0 0]) ?_ 6 _ rfl; (with_reducible repeat (first | refine blk_drewN ?_ _ | refine blk_drew ?_ | refine blk_alloc ?_ _)); refine blk_put (cs := #[.int .i64 t652, .int .i64 t653, .int .i64 t654, .int .i64 t655, .int .i64 t656, .int .i64 0, .slice none 0 0, .slice none 0 0]) ?_ 5 _ rfl; (with_reducible repeat (first | refine blk_drewN ?_ _ | refine blk_drew ?_ | refine blk_alloc ?_ _)); refine blk_put (cs := #[.int .i64 t652, .int .i64 t653, .int .i64 t654, .int .i64 t655, .int .i64 0, .int .i64 0, .slice none 0 0, .slice none 0 0]) ?_ 4 _ rfl; (with_reducible repeat (first | refine blk_drewN ?_ _ | refine blk_drew ?_ | refine blk_alloc ?_ _)); refine blk_put (cs := #[.int .i64 t652, .int .i64 t653, .int .i64 t654, .int .i64 0, .int .i64 0, .int .i64 0, .slice none 0 0, .slice none 0 0]) ?_ 3 _ rfl; (with_reducible repeat (first | refine blk_drewN ?_ _ | refine blk_drew ?_ | refine blk_alloc ?_ _)); refine blk_put (cs := #[.int .i64 t652, .int .i64 t653, .int .i64 0, .int .i64 0, .int .i64 0, .int .i64 0, .slice none 0 0, .slice none 0 0]) ?_ 2 _ rfl; (with_reducible repeat (first | refine blk_drewN ?_ _ | refine blk_drew ?_ | refine blk_alloc ?_ _)); refine blk_put (cs := #[.int .i64 t652, .int .i64 0, .int .i64 0, .int .i64 0, .int .i64 0, .int .i64 0, .slice none 0 0, .slice none 0 0]) ?_ 1 _ rfl; (with_reducible repeat (first | refine blk_drewN ?_ _ | refine blk_drew ?_ | refine blk_alloc ?_ _)); refine blk_put (cs := #[.int .i64 0, .int .i64 0, .int .i64 0, .int .i64 0, .int .i64 0, .int .i64 0, .slice none 0 0, .slice none 0 0]) ?_ 0 _ rfl; (with_reducible repeat (first | refine blk_drewN ?_ _ | refine blk_drew ?_ | refine blk_alloc ?_ _)); exact BK667.out) hg (Kd.R_ne HO666.out BK667.out (by decide))); have n3_ := Aside0.mk (hb); have n4_ := Aside0.mk (ho); clear BK651; clear HO659; clear BK667; clear HB; clear HO666; have BK651 := n0_; have HO659 := n1_; have BK667 := n2_; have HB := n3_; have HO670 := n4_; clear n0_ n1_ n2_ n3_ n4_; clear ho hb hg hat; obtain ⟨Ao20, co20, eo20⟩ := Kd.R_slice HO670.out; subst eo20; have hcz21_0 : w19.cell? ⟨gb667, 0, none⟩ = some (.int .i64 t652) := (blk_cell BK667.out 0).trans rfl; have hcz21_1 : w19.cell? ⟨gb667, 1, none⟩ = some (.int .i64 t653) := (blk_cell BK667.out 1).trans rfl; have hcz21_2 : w19.cell? ⟨gb667, 2, none⟩ = some (.int .i64 t654) := (blk_cell BK667.out 2).trans rfl; have hcz21_3 : w19.cell? ⟨gb667, 3, none⟩ = some (.int .i64 t655) := (blk_cell BK667.out 3).trans rfl; have hcz21_4 : w19.cell? ⟨gb667, 4, none⟩ = some (.int .i64 t656) := (blk_cell BK667.out 4).trans rfl; have hcz21_5 : w19.cell? ⟨gb667, 5, none⟩ = some (.int .i64 10) := (blk_cell BK667.out 5).trans rfl; have hcz21_6 : w19.cell? ⟨gb667, 6, none⟩ = some (.slice Ao15 y657.length co15) := (blk_cell BK667.out 6).trans rfl; have hcz21_7 : w19.cell? ⟨gb667, 7, none⟩ = some (.slice Ao14 y664.length co14) := (blk_cell BK667.out 7).trans rfl; have hfz21_0 := blk_frozen BK667.out 0; have hfz21_1 := blk_frozen BK667.out 1; have hfz21_2 := blk_frozen BK667.out 2; have hfz21_3 := blk_frozen BK667.out 3; have hfz21_4 := blk_frozen BK667.out 4; have hfz21_5 := blk_frozen BK667.out 5; have hfz21_6 := blk_frozen BK667.out 6; have hfz21_7 := blk_frozen BK667.out 7; have hcz22_0 : w19.cell? ⟨gb651, 0, none⟩ = some (.int .i64 0) := (blk_cell BK651.out 0).trans rfl; have hcz22_1 : w19.cell? ⟨gb651, 1, none⟩ = some (.int .i64 0) := (blk_cell BK651.out 1).trans rfl; have hcz22_2 : w19.cell? ⟨gb651, 2, none⟩ = some (.int .i64 0) := (blk_cell BK651.out 2).trans rfl; have hcz22_3 : w19.cell? ⟨gb651, 3, none⟩ = some (.int .i64 0) := (blk_cell BK651.out 3).trans rfl; have hcz22_4 : w19.cell? ⟨gb651, 4, none⟩ = some (.int .i64 0) := (blk_cell BK651.out 4).trans rfl; have hcz22_5 : w19.cell? ⟨gb651, 5, none⟩ = some (.int .i64 0) := (blk_cell BK651.out 5).trans rfl; have hcz22_6 : w19.cell? ⟨gb651, 6, none⟩ = some (.slice none 0 0) := (blk_cell BK651.out 6).trans rfl; have hcz22_7 : w19.cell? ⟨gb651, 7, none⟩ = some (.slice none 0 0) := (blk_cell BK651.out 7).trans rfl; have hfz22_0 := blk_frozen BK651.out 0; have hfz22_1 := blk_frozen BK651.out 1; have hfz22_2 := blk_frozen BK651.out 2; have hfz22_3 := blk_frozen BK651.out 3; have hfz22_4 := blk_frozen BK651.out 4; have hfz22_5 := blk_frozen BK651.out 5; have hfz22_6 := blk_frozen BK651.out 6; have hfz22_7 := blk_frozen BK651.out 7))
    refine bodyPost_ret (results_cell_row rfl _ _ gb651 44 #[.int .i64 t652, .int .i64 t653, .int .i64 t654, .int .i64 t655, .int .i64 t656, .int .i64 10, .slice Ao15 y657.length co15, .slice Ao20 y668.length co20] (0, 0) _ rfl (by (with_reducible repeat (first | refine blk_drewN ?_ _ | refine blk_drew ?_ | refine blk_alloc ?_ _)); refine blk_put (cs := #[.int .i64 t652, .int .i64 t653, .int .i64 t654, .int .i64 t655, .int .i64 t656, .int .i64 10, .slice Ao15 y657.length co15, .slice none 0 0]) ?_ 7 _ rfl; (with_reducible repeat (first | refine blk_drewN ?_ _ | refine blk_drew ?_ | refine blk_alloc ?_ _)); refine blk_put (cs := #[.int .i64 t652, .int .i64 t653, .int .i64 t654, .int .i64 t655, .int .i64 t656, .int .i64 10, .slice none 0 0, .slice none 0 0]) ?_ 6 _ rfl; (with_reducible repeat (first | refine blk_drewN ?_ _ | refine blk_drew ?_ | refine blk_alloc ?_ _)); refine blk_put (cs := #[.int .i64 t652, .int .i64 t653, .int .i64 t654, .int .i64 t655, .int .i64 t656, .int .i64 0, .slice none 0 0, .slice none 0 0]) ?_ 5 _ rfl; (with_reducible repeat (first | refine blk_drewN ?_ _ | refine blk_drew ?_ | refine blk_alloc ?_ _)); refine blk_put (cs := #[.int .i64 t652, .int .i64 t653, .int .i64 t654, .int .i64 t655, .int .i64 0, .int .i64 0, .slice none 0 0, .slice none 0 0]) ?_ 4 _ rfl; (with_reducible repeat (first | refine blk_drewN ?_ _ | refine blk_drew ?_ | refine blk_alloc ?_ _)); refine blk_put (cs := #[.int .i64 t652, .int .i64 t653, .int .i64 t654, .int .i64 0, .int .i64 0, .int .i64 0, .slice none 0 0, .slice none 0 0]) ?_ 3 _ rfl; (with_reducible repeat (first | refine blk_drewN ?_ _ | refine blk_drew ?_ | refine blk_alloc ?_ _)); refine blk_put (cs := #[.int .i64 t652, .int .i64 t653, .int .i64 0, .int .i64 0, .int .i64 0, .int .i64 0, .slice none 0 0, .slice none 0 0]) ?_ 2 _ rfl; (with_reducible repeat (first | refine blk_drewN ?_ _ | refine blk_drew ?_ | refine blk_alloc ?_ _)); refine blk_put (cs := #[.int .i64 t652, .int .i64 0, .int .i64 0, .int .i64 0, .int .i64 0, .int .i64 0, .slice none 0 0, .slice none 0 0]) ?_ 1 _ rfl; (with_reducible repeat (first | refine blk_drewN ?_ _ | refine blk_drew ?_ | refine blk_alloc ?_ _)); refine blk_put (cs := #[.int .i64 0, .int .i64 0, .int .i64 0, .int .i64 0, .int .i64 0, .int .i64 0, .slice none 0 0, .slice none 0 0]) ?_ 0 _ rfl; (with_reducible repeat (first | refine blk_drewN ?_ _ | refine blk_drew ?_ | refine blk_alloc ?_ _)); refine blk_far ?_ NB651_667.out _; (with_reducible repeat (first | refine blk_drewN ?_ _ | refine blk_drew ?_ | refine blk_alloc ?_ _)); exact BK651.out) Tryd.underlying44 rfl (by kernel_rfl)) rfl ?_
    exact ⟨_, _, by first | rfl | (simp [errW_none, errW_some] <;> rfl) | (simp [*, errW_none, errW_some] <;> rfl), by (with_reducible repeat (first | apply Kd.R_alloc | apply Kd.R_drewN | apply Kd.R_drew)); exact Kd.R_mono (Kd.R_far (p := ⟨gb651, 7, none⟩) (Kd.R_far (p := ⟨gb651, 6, none⟩) (Kd.R_far (p := ⟨gb651, 5, none⟩) (Kd.R_far (p := ⟨gb651, 4, none⟩) (Kd.R_far (p := ⟨gb651, 3, none⟩) (Kd.R_far (p := ⟨gb651, 2, none⟩) (Kd.R_far (p := ⟨gb651, 1, none⟩) (Kd.R_far (p := ⟨gb651, 0, none⟩) (Kd.R_far (p := ⟨gb667, 7, none⟩) (Kd.R_types (Kd.R_types HO659.out BK667.out (by decide)) BK651.out (by decide)) (fun _ hk => hk.1.2) (.slice Ao20 y668.length co20)) (fun _ hk => hk.2) (.int .i64 t652)) (fun _ hk => hk.2) (.int .i64 t653)) (fun _ hk => hk.2) (.int .i64 t654)) (fun _ hk => hk.2) (.int .i64 t655)) (fun _ hk => hk.2) (.int .i64 t656)) (fun _ hk => hk.2) (.int .i64 10)) (fun _ hk => hk.2) (.slice Ao15 y657.length co15)) (fun _ hk => hk.2) (.slice Ao20 y668.length co20)) (fun _ hk => trivial), by (with_reducible repeat (first | apply Kd.R_alloc | apply Kd.R_drewN | apply Kd.R_drew)); exact Kd.R_mono (Kd.R_far (p := ⟨gb651, 7, none⟩) (Kd.R_far (p := ⟨gb651, 6, none⟩) (Kd.R_far (p := ⟨gb651, 5, none⟩) (Kd.R_far (p := ⟨gb651, 4, none⟩) (Kd.R_far (p := ⟨gb651, 3, none⟩) (Kd.R_far (p := ⟨gb651, 2, none⟩) (Kd.R_far (p := ⟨gb651, 1, none⟩) (Kd.R_far (p := ⟨gb651, 0, none⟩) (Kd.R_far (p := ⟨gb667, 7, none⟩) (Kd.R_types (Kd.R_types HO670.out BK667.out (by decide)) BK651.out (by decide)) (fun _ hk => hk.1.2) (.slice Ao20 y668.length co20)) (fun _ hk => hk.2) (.int .i64 t652)) (fun _ hk => hk.2) (.int .i64 t653)) (fun _ hk => hk.2) (.int .i64 t654)) (fun _ hk => hk.2) (.int .i64 t655)) (fun _ hk => hk.2) (.int .i64 t656)) (fun _ hk => hk.2) (.int .i64 10)) (fun _ hk => hk.2) (.slice Ao15 y657.length co15)) (fun _ hk => hk.2) (.slice Ao20 y668.length co20)) (fun _ hk => trivial), by repeat (first | (with_reducible first | exact HB.out | apply below_alloc | apply pw_below_drewN | apply below_drew1 | refine below_set ?_ GE651.out | refine below_set ?_ GE667.out) | exact HB.out)⟩
  · rw [if_neg c5] at H
    exact absurd H (by simp)

end Go.Proofs.TrydX.X
end

section
/- The chapter's examples work. Written by wip/tools/mkXW.py. -/
set_option linter.unusedSimpArgs false
set_option linter.unusedVariables false
namespace Go.Proofs.TrydX.X
open Go.RowKit Go.Proofs.YtidnopmjhhmedaaDoorW.PrintWords Go.Proofs.YtidnopmjhhmedaaDoorW.PrintLast
attribute [local go_sem] Oper.semAt_some

theorem ex_rule (w : World) : Calls Tryd.prog 53 #[] w fun e w' => e = .returned (.agg #[.int .i64 10, .int .i64 5, .int .i64 4, .int .i64 (-1), .int .i64 2]) ∧ Below w.heap.size w w' := remontoirlaw04_rule.calls 10 5 4 (-1) 2 w (by rfl)
theorem ex_reach (w : World) (hw : YtidnopmjhhmedaaDoor.Ways w) : Calls Tryd.prog 22 #[.agg #[.int .i64 10, .int .i64 5, .int .i64 4, .int .i64 (-1), .int .i64 2], .int .i64 5] w fun e w' => e = .returned (.tuple #[.agg #[.int .i64 (-23), .int .i64 34], .int .i64 0]) ∧ Below w.heap.size w w' :=
  scale_Reach.calls 10 5 4 (-1) 2 5 (-23) 34 0 w hw (by decide +kernel)
theorem ex_few (w : World) (hw : YtidnopmjhhmedaaDoor.Ways w) : Calls Tryd.prog 18 #[.agg #[.int .i64 10, .int .i64 5, .int .i64 4, .int .i64 (-1), .int .i64 2], .int .i64 20] w fun e w' => e = .returned (.tuple #[.int .i64 5, .int .i64 0]) ∧ Below w.heap.size w w' :=
  scale_Fewest.calls 10 5 4 (-1) 2 20 5 0 w hw (by decide +kernel)
theorem ex_plan (w : World) (hw : YtidnopmjhhmedaaDoor.Ways w) : Calls Tryd.prog 20 #[.agg #[.int .i64 10, .int .i64 5, .int .i64 4, .int .i64 (-1), .int .i64 2], .int .i64 (-20)] w fun e w' => ∃ A c, e = .returned (.tuple #[.slice A 4 c, .int .i64 0]) ∧ Below w.heap.size w w' := by
  refine (scale_Plan.calls 10 5 4 (-1) 2 (-20) [4, 6, 6, 4] 0 w hw (by decide +kernel)).mono ?_
  rintro e w' ⟨v, rfl, hv, hb⟩
  obtain ⟨A, c, rfl⟩ := Kd.V_slice hv
  exact ⟨A, c, rfl, hb⟩
theorem ex_isplan (A : Option Addr) (c : Nat) (w : World) (hw : YtidnopmjhhmedaaDoor.Ways w) (h : Kd.C (Kd.int .i64) w A 5 [-4, -5, -5, -4, -2]) (hc : 5 ≤ c) : Calls Tryd.prog 16 #[.agg #[.int .i64 10, .int .i64 5, .int .i64 4, .int .i64 (-1), .int .i64 2], .int .i64 20, .slice A 5 c] w fun e w' => e = .returned (.tuple #[.bool true, .int .i64 0]) ∧ Below w.heap.size w w' :=
  scale_IsPlan.calls 10 5 4 (-1) 2 20 A c [-4, -5, -5, -4, -2] true 0 w h hc hw (by decide +kernel)
theorem ex_shown (A : Option Addr) (c : Nat) (w : World) (hw : YtidnopmjhhmedaaDoor.Ways w) (h : Kd.C (Kd.int .i64) w A 2 [4, 8]) (hc : 2 ≤ c) : Calls Tryd.prog 24 #[.agg #[.int .i64 10, .int .i64 5, .int .i64 4, .int .i64 (-1), .int .i64 2], .int .i64 7000, .slice A 2 c] w fun e w' => ∃ A c, e = .returned (.tuple #[.slice A 3 c, .int .i64 0]) ∧ Kd.C (Kd.int .i64) w' A 3 [7000, 8004, 9012] ∧ 3 ≤ c ∧ Below w.heap.size w w' := by
  refine (scale_Shown.calls 10 5 4 (-1) 2 7000 A c [4, 8] [7000, 8004, 9012] 0 w h hc hw (by decide +kernel)).mono ?_
  rintro e w' ⟨v, rfl, hv, hb⟩
  obtain ⟨A, c, rfl⟩ := Kd.V_slice hv
  have := Kd.V_reads' hv
  exact ⟨A, c, rfl, this.2.2, this.2.1, hb⟩
theorem ex_book (w : World) : Calls Tryd.prog 52 #[.slice none 0 0] w fun e w' => ∃ A6 c6 A7 c7, e = .returned (.agg #[.int .i64 10, .int .i64 5, .int .i64 4, .int .i64 (-1), .int .i64 2, .int .i64 10, .slice A6 3 c6, .slice A7 2 c7]) ∧ Kd.C (Kd.int .i64) w' A6 3 [-4, -5, -4] ∧ 3 ≤ c6 ∧ Kd.C k71 w' A7 2 [⟨0, ⟨18, 22⟩⟩, ⟨6, ⟨-3, 4⟩⟩] ∧ 2 ≤ c7 ∧ Below w.heap.size w w' := by
  refine (remontoirlaw04_book.calls none 0 [] 10 5 4 (-1) 2 10 [-4, -5, -4] [⟨0, ⟨18, 22⟩⟩, ⟨6, ⟨-3, 4⟩⟩] w (Kd.C_nil _ _) (Nat.le_refl _) (by rfl)).mono ?_
  rintro e w' ⟨v6, v7, rfl, h6, h7, hb⟩
  obtain ⟨A6, c6, rfl⟩ := Kd.R_slice h6
  obtain ⟨A7, c7, rfl⟩ := Kd.R_slice h7
  have a6 := Kd.R_reads' h6
  have a7 := Kd.R_reads' h7
  exact ⟨A6, c6, A7, c7, rfl, a6.2.2, a6.2.1, a7.2.2, a7.2.1, hb⟩
theorem ex_err (A6 A7 : Option Addr) (c6 c7 : Nat) (w : World) (hw : YtidnopmjhhmedaaDoor.Ways w) (h6 : Kd.C (Kd.int .i64) w A6 3 [-4, -5, -4]) (hc6 : 3 ≤ c6) (h7 : Kd.C k71 w A7 2 [⟨0, ⟨18, 22⟩⟩, ⟨6, ⟨-3, 4⟩⟩]) (hc7 : 2 ≤ c7) : Calls Tryd.prog 27 #[.agg #[.int .i64 10, .int .i64 5, .int .i64 4, .int .i64 (-1), .int .i64 2, .int .i64 10, .slice A6 3 c6, .slice A7 2 c7], .int .i64 3] w fun e w' => e = .returned (.tuple #[.agg #[.int .i64 2, .int .i64 7], .int .i64 0]) ∧ Below w.heap.size w w' :=
  scale_Error.calls 10 5 4 (-1) 2 10 A6 c6 [-4, -5, -4] A7 c7 [⟨0, ⟨18, 22⟩⟩, ⟨6, ⟨-3, 4⟩⟩] 3 2 7 0 w h6 hc6 h7 hc7 hw (by decide +kernel)
theorem ex_stated (A6 A7 : Option Addr) (c6 c7 : Nat) (w : World) (hw : YtidnopmjhhmedaaDoor.Ways w) (h6 : Kd.C (Kd.int .i64) w A6 3 [-4, -5, -4]) (hc6 : 3 ≤ c6) (h7 : Kd.C k71 w A7 2 [⟨0, ⟨18, 22⟩⟩, ⟨6, ⟨-3, 4⟩⟩]) (hc7 : 2 ≤ c7) : Calls Tryd.prog 31 #[.agg #[.int .i64 10, .int .i64 5, .int .i64 4, .int .i64 (-1), .int .i64 2, .int .i64 10, .slice A6 3 c6, .slice A7 2 c7], .int .i64 10] w fun e w' => e = .returned (.tuple #[.int .i64 12, .int .i64 0]) ∧ Below w.heap.size w w' :=
  scale_Stated.calls 10 5 4 (-1) 2 10 A6 c6 [-4, -5, -4] A7 c7 [⟨0, ⟨18, 22⟩⟩, ⟨6, ⟨-3, 4⟩⟩] 10 12 0 w h6 hc6 h7 hc7 hw (by decide +kernel)
theorem ex_worst (A6 A7 : Option Addr) (c6 c7 : Nat) (w : World) (hw : YtidnopmjhhmedaaDoor.Ways w) (h6 : Kd.C (Kd.int .i64) w A6 3 [-4, -5, -4]) (hc6 : 3 ≤ c6) (h7 : Kd.C k71 w A7 2 [⟨0, ⟨18, 22⟩⟩, ⟨6, ⟨-3, 4⟩⟩]) (hc7 : 2 ≤ c7) : Calls Tryd.prog 33 #[.agg #[.int .i64 10, .int .i64 5, .int .i64 4, .int .i64 (-1), .int .i64 2, .int .i64 10, .slice A6 3 c6, .slice A7 2 c7]] w fun e w' => e = .returned (.tuple #[.int .i64 0, .int .i64 22, .int .i64 0]) ∧ Below w.heap.size w w' :=
  scale_Worst.calls 10 5 4 (-1) 2 10 A6 c6 [-4, -5, -4] A7 c7 [⟨0, ⟨18, 22⟩⟩, ⟨6, ⟨-3, 4⟩⟩] 0 22 0 w h6 hc6 h7 hc7 hw (by decide +kernel)
theorem ex_meets (A6 A7 : Option Addr) (c6 c7 : Nat) (w : World) (hw : YtidnopmjhhmedaaDoor.Ways w) (h6 : Kd.C (Kd.int .i64) w A6 3 [-4, -5, -4]) (hc6 : 3 ≤ c6) (h7 : Kd.C k71 w A7 2 [⟨0, ⟨18, 22⟩⟩, ⟨6, ⟨-3, 4⟩⟩]) (hc7 : 2 ≤ c7) : Calls Tryd.prog 35 #[.agg #[.int .i64 10, .int .i64 5, .int .i64 4, .int .i64 (-1), .int .i64 2, .int .i64 10, .slice A6 3 c6, .slice A7 2 c7]] w fun e w' => e = .returned (.tuple #[.int .i64 3, .int .i64 0, .int .i64 0]) ∧ Below w.heap.size w w' :=
  scale_Meets.calls 10 5 4 (-1) 2 10 A6 c6 [-4, -5, -4] A7 c7 [⟨0, ⟨18, 22⟩⟩, ⟨6, ⟨-3, 4⟩⟩] 3 0 0 w h6 hc6 h7 hc7 hw (by decide +kernel)
theorem ex_check (A6 A7 : Option Addr) (c6 c7 : Nat) (w : World) (hw : YtidnopmjhhmedaaDoor.Ways w) (h6 : Kd.C (Kd.int .i64) w A6 3 [-4, -5, -4]) (hc6 : 3 ≤ c6) (h7 : Kd.C k71 w A7 2 [⟨0, ⟨18, 22⟩⟩, ⟨6, ⟨-3, 4⟩⟩]) (hc7 : 2 ≤ c7) : Calls Tryd.prog 29 #[.agg #[.int .i64 10, .int .i64 5, .int .i64 4, .int .i64 (-1), .int .i64 2, .int .i64 10, .slice A6 3 c6, .slice A7 2 c7]] w fun e w' => e = .returned (.int .i64 0) ∧ Below w.heap.size w w' :=
  scale_Check.calls 10 5 4 (-1) 2 10 A6 c6 [-4, -5, -4] A7 c7 [⟨0, ⟨18, 22⟩⟩, ⟨6, ⟨-3, 4⟩⟩] 0 w h6 hc6 h7 hc7 hw (by decide +kernel)

theorem C_lit (w : World) (l : List Int) (e : TypeId) (hl : l.length ≤ 1000) : Kd.C (Kd.int .i64) (w.alloc (.cells (l.map (Value.int .i64)).toArray e)) (some ⟨w.heap.size, 0, none⟩) l.length l := by
  refine Kd.C_of_reads (d := (0 : Int)) (h1 := fun _ => rfl) ⟨rfl, by omega, fun _ => ⟨_, rfl, fun j hj => ?_⟩⟩
  rw [Addr.add_mid, cell_of_row _ _ _ _ _ _ (World.alloc_heap_new w _)]
  simp [List.getD_eq_getElem?_getD, hj]
/-- What stays known while the examples are compared. -/
structure WK (w : World) (A9 : Option Addr) (W : World) : Prop where
  c9 : Kd.C (Kd.int .i64) W A9 3 [7000, 8004, 9012]
  bel : Below w.heap.size w W
theorem WK.drew {w W : World} {A9 : Option Addr} (h : WK w A9 W) : WK w A9 W.drew := ⟨Kd.C_drew h.c9, h.bel.drew⟩
theorem WK.below {w W W1 : World} {A9 : Option Addr} (h : WK w A9 W) (hb : Below W.heap.size W W1) : WK w A9 W1 := ⟨Kd.C_below h.c9 hb, below_step h.bel hb⟩
theorem wk_call {w W W1 : World} {A9 : Option Addr} {B : Nat} (h : (W.cell? ⟨B, 0, none⟩ = some (.int .i64 (-23)) ∧ W.cell? ⟨B, 1, none⟩ = some (.int .i64 34)) ∧ WK w A9 W) (hb : Below W.heap.size W W1) :
    (W1.cell? ⟨B, 0, none⟩ = some (.int .i64 (-23)) ∧ W1.cell? ⟨B, 1, none⟩ = some (.int .i64 34)) ∧ WK w A9 W1 :=
  ⟨⟨YtidnopmjhhmedaaDoor.cell_below hb h.1.1, YtidnopmjhhmedaaDoor.cell_below hb h.1.2⟩, h.2.below hb⟩
theorem wk_alloc {w W : World} {A9 : Option Addr} {B : Nat} {o : Obj} (h : (W.cell? ⟨B, 0, none⟩ = some (.int .i64 (-23)) ∧ W.cell? ⟨B, 1, none⟩ = some (.int .i64 34)) ∧ WK w A9 W) :
    ((W.alloc o).cell? ⟨B, 0, none⟩ = some (.int .i64 (-23)) ∧ (W.alloc o).cell? ⟨B, 1, none⟩ = some (.int .i64 34)) ∧ WK w A9 (W.alloc o) := wk_call h ((Below.refl _ _).alloc (Nat.le_refl _) _)
theorem wk_drewN {w W : World} {A9 : Option Addr} {B n : Nat} (h : (W.cell? ⟨B, 0, none⟩ = some (.int .i64 (-23)) ∧ W.cell? ⟨B, 1, none⟩ = some (.int .i64 34)) ∧ WK w A9 W) :
    ((W.drewN n).cell? ⟨B, 0, none⟩ = some (.int .i64 (-23)) ∧ (W.drewN n).cell? ⟨B, 1, none⟩ = some (.int .i64 34)) ∧ WK w A9 (W.drewN n) := wk_call h (pw_below_drewN (Below.refl _ _) n)
theorem wb_call {w W W1 : World} {B : Nat} (h : (W.cell? ⟨B, 0, none⟩ = some (.int .i64 2) ∧ W.cell? ⟨B, 1, none⟩ = some (.int .i64 7)) ∧ Below w.heap.size w W) (hb : Below W.heap.size W W1) :
    (W1.cell? ⟨B, 0, none⟩ = some (.int .i64 2) ∧ W1.cell? ⟨B, 1, none⟩ = some (.int .i64 7)) ∧ Below w.heap.size w W1 :=
  ⟨⟨YtidnopmjhhmedaaDoor.cell_below hb h.1.1, YtidnopmjhhmedaaDoor.cell_below hb h.1.2⟩, below_step h.2 hb⟩
set_option maxRecDepth 100000 in
set_option maxHeartbeats 16000000 in
theorem works_calls (w : World) (hWays : YtidnopmjhhmedaaDoor.Ways w) : Calls Tryd.prog 21 #[] w fun e w' => e = .returned (.bool true) ∧ Below w.heap.size w w' := by
  have hB : Below w.heap.size w w := Below.refl _ _
  go_enter Tryd.func21, Tryd.ntmps21
  go_wp2_with fail
  refine (ex_rule _).mono ?_
  rintro e w1 ⟨rfl, hb⟩
  have hB1 := below_step (by repeat (first | (with_reducible first | exact hB | apply below_alloc | apply pw_below_drewN | apply below_drew1) | exact hB)) hb
  clear hb
  go_wp2_with fail
  refine (ex_reach _ (hWays.below (by repeat (first | (with_reducible first | exact hB1 | apply below_alloc | apply pw_below_drewN | apply below_drew1) | exact hB1)))).mono ?_
  rintro e w2 ⟨rfl, hb⟩
  have hB2 := below_step (by repeat (first | (with_reducible first | exact hB1 | apply below_alloc | apply pw_below_drewN | apply below_drew1) | exact hB1)) hb
  clear hb
  go_wp2_with fail
  refine (ex_rule _).mono ?_
  rintro e w3 ⟨rfl, hb⟩
  have hB3 := below_step (by repeat (first | (with_reducible first | exact hB2 | apply below_alloc | apply pw_below_drewN | apply below_drew1) | exact hB2)) hb
  have hq0_3 : w3.cell? ⟨w2.heap.size, 0, none⟩ = some (.int .i64 (-23)) := YtidnopmjhhmedaaDoor.cell_below hb (by first | exact hq0_2 | exact YtidnopmjhhmedaaDoor.cell_below ((Below.refl _ _).alloc (Nat.le_refl _) _) hq0_2 | (simp [go_sem]; done))
  have hq1_3 : w3.cell? ⟨w2.heap.size, 1, none⟩ = some (.int .i64 34) := YtidnopmjhhmedaaDoor.cell_below hb (by first | exact hq1_2 | exact YtidnopmjhhmedaaDoor.cell_below ((Below.refl _ _).alloc (Nat.le_refl _) _) hq1_2 | (simp [go_sem]; done))
  clear hb
  go_wp2_with fail
  refine (ex_few _ (hWays.below (by repeat (first | (with_reducible first | exact hB3 | apply below_alloc | apply pw_below_drewN | apply below_drew1) | exact hB3)))).mono ?_
  rintro e w4 ⟨rfl, hb⟩
  have hB4 := below_step (by repeat (first | (with_reducible first | exact hB3 | apply below_alloc | apply pw_below_drewN | apply below_drew1) | exact hB3)) hb
  have hq0_4 : w4.cell? ⟨w2.heap.size, 0, none⟩ = some (.int .i64 (-23)) := YtidnopmjhhmedaaDoor.cell_below hb (by first | exact hq0_3 | exact YtidnopmjhhmedaaDoor.cell_below ((Below.refl _ _).alloc (Nat.le_refl _) _) hq0_3 | (simp [go_sem]; done))
  have hq1_4 : w4.cell? ⟨w2.heap.size, 1, none⟩ = some (.int .i64 34) := YtidnopmjhhmedaaDoor.cell_below hb (by first | exact hq1_3 | exact YtidnopmjhhmedaaDoor.cell_below ((Below.refl _ _).alloc (Nat.le_refl _) _) hq1_3 | (simp [go_sem]; done))
  clear hb
  go_wp2_with fail
  refine (ex_rule _).mono ?_
  rintro e w5 ⟨rfl, hb⟩
  have hB5 := below_step (by repeat (first | (with_reducible first | exact hB4 | apply below_alloc | apply pw_below_drewN | apply below_drew1) | exact hB4)) hb
  have hq0_5 : w5.cell? ⟨w2.heap.size, 0, none⟩ = some (.int .i64 (-23)) := YtidnopmjhhmedaaDoor.cell_below hb (by first | exact hq0_4 | exact YtidnopmjhhmedaaDoor.cell_below ((Below.refl _ _).alloc (Nat.le_refl _) _) hq0_4 | (simp [go_sem]; done))
  have hq1_5 : w5.cell? ⟨w2.heap.size, 1, none⟩ = some (.int .i64 34) := YtidnopmjhhmedaaDoor.cell_below hb (by first | exact hq1_4 | exact YtidnopmjhhmedaaDoor.cell_below ((Below.refl _ _).alloc (Nat.le_refl _) _) hq1_4 | (simp [go_sem]; done))
  clear hb
  go_wp2_with fail
  refine (ex_plan _ (hWays.below (by repeat (first | (with_reducible first | exact hB5 | apply below_alloc | apply pw_below_drewN | apply below_drew1) | exact hB5)))).mono ?_
  rintro e w6 ⟨A5, c5, rfl, hb⟩
  have hB6 := below_step (by repeat (first | (with_reducible first | exact hB5 | apply below_alloc | apply pw_below_drewN | apply below_drew1) | exact hB5)) hb
  have hq0_6 : w6.cell? ⟨w2.heap.size, 0, none⟩ = some (.int .i64 (-23)) := YtidnopmjhhmedaaDoor.cell_below hb (by first | exact hq0_5 | exact YtidnopmjhhmedaaDoor.cell_below ((Below.refl _ _).alloc (Nat.le_refl _) _) hq0_5 | (simp [go_sem]; done))
  have hq1_6 : w6.cell? ⟨w2.heap.size, 1, none⟩ = some (.int .i64 34) := YtidnopmjhhmedaaDoor.cell_below hb (by first | exact hq1_5 | exact YtidnopmjhhmedaaDoor.cell_below ((Below.refl _ _).alloc (Nat.le_refl _) _) hq1_5 | (simp [go_sem]; done))
  clear hb
  go_wp2_with fail
  refine (ex_rule _).mono ?_
  rintro e w7 ⟨rfl, hb⟩
  have hB7 := below_step (by repeat (first | (with_reducible first | exact hB6 | apply below_alloc | apply pw_below_drewN | apply below_drew1) | exact hB6)) hb
  have hq0_7 : w7.cell? ⟨w2.heap.size, 0, none⟩ = some (.int .i64 (-23)) := YtidnopmjhhmedaaDoor.cell_below hb (by first | exact hq0_6 | exact YtidnopmjhhmedaaDoor.cell_below ((Below.refl _ _).alloc (Nat.le_refl _) _) hq0_6 | (simp [go_sem]; done))
  have hq1_7 : w7.cell? ⟨w2.heap.size, 1, none⟩ = some (.int .i64 34) := YtidnopmjhhmedaaDoor.cell_below hb (by first | exact hq1_6 | exact YtidnopmjhhmedaaDoor.cell_below ((Below.refl _ _).alloc (Nat.le_refl _) _) hq1_6 | (simp [go_sem]; done))
  clear hb
  go_wp2_with fail
  refine (ex_isplan _ _ _ (hWays.below (by repeat (first | (with_reducible first | exact hB7 | apply below_alloc | apply pw_below_drewN | apply below_drew1) | exact hB7))) (C_lit _ [-4, -5, -5, -4, -2] 3 (by decide)) (by decide)).mono ?_
  rintro e w8 ⟨rfl, hb⟩
  have hB8 := below_step (by repeat (first | (with_reducible first | exact hB7 | apply below_alloc | apply pw_below_drewN | apply below_drew1) | exact hB7)) hb
  have hq0_8 : w8.cell? ⟨w2.heap.size, 0, none⟩ = some (.int .i64 (-23)) := YtidnopmjhhmedaaDoor.cell_below hb (by first | exact hq0_7 | exact YtidnopmjhhmedaaDoor.cell_below ((Below.refl _ _).alloc (Nat.le_refl _) _) hq0_7 | (simp [go_sem]; done))
  have hq1_8 : w8.cell? ⟨w2.heap.size, 1, none⟩ = some (.int .i64 34) := YtidnopmjhhmedaaDoor.cell_below hb (by first | exact hq1_7 | exact YtidnopmjhhmedaaDoor.cell_below ((Below.refl _ _).alloc (Nat.le_refl _) _) hq1_7 | (simp [go_sem]; done))
  clear hb
  go_wp2_with fail
  refine (ex_rule _).mono ?_
  rintro e w9 ⟨rfl, hb⟩
  have hB9 := below_step (by repeat (first | (with_reducible first | exact hB8 | apply below_alloc | apply pw_below_drewN | apply below_drew1) | exact hB8)) hb
  have hq0_9 : w9.cell? ⟨w2.heap.size, 0, none⟩ = some (.int .i64 (-23)) := YtidnopmjhhmedaaDoor.cell_below hb (by first | exact hq0_8 | exact YtidnopmjhhmedaaDoor.cell_below ((Below.refl _ _).alloc (Nat.le_refl _) _) hq0_8 | (simp [go_sem]; done))
  have hq1_9 : w9.cell? ⟨w2.heap.size, 1, none⟩ = some (.int .i64 34) := YtidnopmjhhmedaaDoor.cell_below hb (by first | exact hq1_8 | exact YtidnopmjhhmedaaDoor.cell_below ((Below.refl _ _).alloc (Nat.le_refl _) _) hq1_8 | (simp [go_sem]; done))
  clear hb
  go_wp2_with fail
  refine (ex_shown _ _ _ (hWays.below (by repeat (first | (with_reducible first | exact hB9 | apply below_alloc | apply pw_below_drewN | apply below_drew1) | exact hB9))) (C_lit _ [4, 8] 3 (by decide)) (by decide)).mono ?_
  rintro e w10 ⟨A9, c9, rfl, h9, hc9, hb⟩
  have hB10 := below_step (by repeat (first | (with_reducible first | exact hB9 | apply below_alloc | apply pw_below_drewN | apply below_drew1) | exact hB9)) hb
  have hq0_10 : w10.cell? ⟨w2.heap.size, 0, none⟩ = some (.int .i64 (-23)) := YtidnopmjhhmedaaDoor.cell_below hb (by first | exact hq0_9 | exact YtidnopmjhhmedaaDoor.cell_below ((Below.refl _ _).alloc (Nat.le_refl _) _) hq0_9 | (simp [go_sem]; done))
  have hq1_10 : w10.cell? ⟨w2.heap.size, 1, none⟩ = some (.int .i64 34) := YtidnopmjhhmedaaDoor.cell_below hb (by first | exact hq1_9 | exact YtidnopmjhhmedaaDoor.cell_below ((Below.refl _ _).alloc (Nat.le_refl _) _) hq1_9 | (simp [go_sem]; done))
  clear hb
  go_wp2_with fail
  go_region_held3 (fun W : World => (W.cell? ⟨w2.heap.size, 0, none⟩ = some (.int .i64 (-23)) ∧ W.cell? ⟨w2.heap.size, 1, none⟩ = some (.int .i64 34)) ∧ WK w A9 W)
    (first | with_reducible exact wk_call (by assumption) (by assumption) | with_reducible exact wk_alloc (by assumption) | with_reducible exact wk_drewN (by assumption) | exact wk_alloc ⟨⟨by assumption, by assumption⟩, by assumption⟩ | exact ⟨⟨hq0_10, hq1_10⟩, (WK.mk h9 hB10).drew⟩ | assumption)
    (first | (go_at_call 49; refine (remontoirref00_To.calls _ _ _ _ _ rfl).mono ?_; rintro e wT ⟨rfl, hbT⟩) | (go_at_call 26; rename_i hx _ _; refine (remontoirref00_Alike.calls 10 _ _ [7000, 8004, 9012] _ _ [7000, 8004, 9012] true _ hx.2.c9 hc9 (by first | exact C_lit _ [7000, 8004, 9012] 3 (by decide) | exact Kd.C_below (C_lit _ [7000, 8004, 9012] 3 (by decide)) hbT) (by decide) (by decide +kernel)).mono ?_; rintro e w' ⟨rfl, ⟨nd, rfl⟩⟩))
  rename_i hh
  have hB0 := hh.2.bel
  clear hh h9 hc9 hq0_10 hq1_10 hB
  clear hB1 hB2 hB3 hB4 hB5 hB6 hB7 hB8 hB9 hB10
  have hB := hB0
  clear hB0
  go_wp2_with fail
  refine (ex_book _).mono ?_
  rintro e x1 ⟨B1, d1, C1, f1, rfl, g1, gc1, k1, kc1, hb⟩
  have hD1 := below_step (by repeat (first | (with_reducible first | exact hB | apply below_alloc | apply pw_below_drewN | apply below_drew1) | exact hB)) hb
  clear hb
  go_wp2_with fail
  refine (ex_err B1 C1 d1 f1 _ (hWays.below (by repeat (first | (with_reducible first | exact hD1 | apply below_alloc | apply pw_below_drewN | apply below_drew1) | exact hD1))) g1 gc1 k1 kc1).mono ?_
  rintro e x2 ⟨rfl, hb⟩
  have hD2 := below_step (by repeat (first | (with_reducible first | exact hD1 | apply below_alloc | apply pw_below_drewN | apply below_drew1) | exact hD1)) hb
  clear hb
  go_wp2_with fail
  refine (ex_book _).mono ?_
  rintro e x3 ⟨B3, d3, C3, f3, rfl, g3, gc3, k3, kc3, hb⟩
  have hD3 := below_step (by repeat (first | (with_reducible first | exact hD2 | apply below_alloc | apply pw_below_drewN | apply below_drew1) | exact hD2)) hb
  have hr0_3 : x3.cell? ⟨x2.heap.size, 0, none⟩ = some (.int .i64 2) := YtidnopmjhhmedaaDoor.cell_below hb (by first | exact hr0_2 | exact YtidnopmjhhmedaaDoor.cell_below ((Below.refl _ _).alloc (Nat.le_refl _) _) hr0_2 | (simp [go_sem]; done))
  have hr1_3 : x3.cell? ⟨x2.heap.size, 1, none⟩ = some (.int .i64 7) := YtidnopmjhhmedaaDoor.cell_below hb (by first | exact hr1_2 | exact YtidnopmjhhmedaaDoor.cell_below ((Below.refl _ _).alloc (Nat.le_refl _) _) hr1_2 | (simp [go_sem]; done))
  clear hb
  go_wp2_with fail
  refine (ex_stated B3 C3 d3 f3 _ (hWays.below (by repeat (first | (with_reducible first | exact hD3 | apply below_alloc | apply pw_below_drewN | apply below_drew1) | exact hD3))) g3 gc3 k3 kc3).mono ?_
  rintro e x4 ⟨rfl, hb⟩
  have hD4 := below_step (by repeat (first | (with_reducible first | exact hD3 | apply below_alloc | apply pw_below_drewN | apply below_drew1) | exact hD3)) hb
  have hr0_4 : x4.cell? ⟨x2.heap.size, 0, none⟩ = some (.int .i64 2) := YtidnopmjhhmedaaDoor.cell_below hb (by first | exact hr0_3 | exact YtidnopmjhhmedaaDoor.cell_below ((Below.refl _ _).alloc (Nat.le_refl _) _) hr0_3 | (simp [go_sem]; done))
  have hr1_4 : x4.cell? ⟨x2.heap.size, 1, none⟩ = some (.int .i64 7) := YtidnopmjhhmedaaDoor.cell_below hb (by first | exact hr1_3 | exact YtidnopmjhhmedaaDoor.cell_below ((Below.refl _ _).alloc (Nat.le_refl _) _) hr1_3 | (simp [go_sem]; done))
  clear hb
  go_wp2_with fail
  refine (ex_book _).mono ?_
  rintro e x5 ⟨B5, d5, C5, f5, rfl, g5, gc5, k5, kc5, hb⟩
  have hD5 := below_step (by repeat (first | (with_reducible first | exact hD4 | apply below_alloc | apply pw_below_drewN | apply below_drew1) | exact hD4)) hb
  have hr0_5 : x5.cell? ⟨x2.heap.size, 0, none⟩ = some (.int .i64 2) := YtidnopmjhhmedaaDoor.cell_below hb (by first | exact hr0_4 | exact YtidnopmjhhmedaaDoor.cell_below ((Below.refl _ _).alloc (Nat.le_refl _) _) hr0_4 | (simp [go_sem]; done))
  have hr1_5 : x5.cell? ⟨x2.heap.size, 1, none⟩ = some (.int .i64 7) := YtidnopmjhhmedaaDoor.cell_below hb (by first | exact hr1_4 | exact YtidnopmjhhmedaaDoor.cell_below ((Below.refl _ _).alloc (Nat.le_refl _) _) hr1_4 | (simp [go_sem]; done))
  clear hb
  go_wp2_with fail
  refine (ex_worst B5 C5 d5 f5 _ (hWays.below (by repeat (first | (with_reducible first | exact hD5 | apply below_alloc | apply pw_below_drewN | apply below_drew1) | exact hD5))) g5 gc5 k5 kc5).mono ?_
  rintro e x6 ⟨rfl, hb⟩
  have hD6 := below_step (by repeat (first | (with_reducible first | exact hD5 | apply below_alloc | apply pw_below_drewN | apply below_drew1) | exact hD5)) hb
  have hr0_6 : x6.cell? ⟨x2.heap.size, 0, none⟩ = some (.int .i64 2) := YtidnopmjhhmedaaDoor.cell_below hb (by first | exact hr0_5 | exact YtidnopmjhhmedaaDoor.cell_below ((Below.refl _ _).alloc (Nat.le_refl _) _) hr0_5 | (simp [go_sem]; done))
  have hr1_6 : x6.cell? ⟨x2.heap.size, 1, none⟩ = some (.int .i64 7) := YtidnopmjhhmedaaDoor.cell_below hb (by first | exact hr1_5 | exact YtidnopmjhhmedaaDoor.cell_below ((Below.refl _ _).alloc (Nat.le_refl _) _) hr1_5 | (simp [go_sem]; done))
  clear hb
  go_wp2_with fail
  refine (ex_book _).mono ?_
  rintro e x7 ⟨B7, d7, C7, f7, rfl, g7, gc7, k7, kc7, hb⟩
  have hD7 := below_step (by repeat (first | (with_reducible first | exact hD6 | apply below_alloc | apply pw_below_drewN | apply below_drew1) | exact hD6)) hb
  have hr0_7 : x7.cell? ⟨x2.heap.size, 0, none⟩ = some (.int .i64 2) := YtidnopmjhhmedaaDoor.cell_below hb (by first | exact hr0_6 | exact YtidnopmjhhmedaaDoor.cell_below ((Below.refl _ _).alloc (Nat.le_refl _) _) hr0_6 | (simp [go_sem]; done))
  have hr1_7 : x7.cell? ⟨x2.heap.size, 1, none⟩ = some (.int .i64 7) := YtidnopmjhhmedaaDoor.cell_below hb (by first | exact hr1_6 | exact YtidnopmjhhmedaaDoor.cell_below ((Below.refl _ _).alloc (Nat.le_refl _) _) hr1_6 | (simp [go_sem]; done))
  clear hb
  go_wp2_with fail
  refine (ex_meets B7 C7 d7 f7 _ (hWays.below (by repeat (first | (with_reducible first | exact hD7 | apply below_alloc | apply pw_below_drewN | apply below_drew1) | exact hD7))) g7 gc7 k7 kc7).mono ?_
  rintro e x8 ⟨rfl, hb⟩
  have hD8 := below_step (by repeat (first | (with_reducible first | exact hD7 | apply below_alloc | apply pw_below_drewN | apply below_drew1) | exact hD7)) hb
  have hr0_8 : x8.cell? ⟨x2.heap.size, 0, none⟩ = some (.int .i64 2) := YtidnopmjhhmedaaDoor.cell_below hb (by first | exact hr0_7 | exact YtidnopmjhhmedaaDoor.cell_below ((Below.refl _ _).alloc (Nat.le_refl _) _) hr0_7 | (simp [go_sem]; done))
  have hr1_8 : x8.cell? ⟨x2.heap.size, 1, none⟩ = some (.int .i64 7) := YtidnopmjhhmedaaDoor.cell_below hb (by first | exact hr1_7 | exact YtidnopmjhhmedaaDoor.cell_below ((Below.refl _ _).alloc (Nat.le_refl _) _) hr1_7 | (simp [go_sem]; done))
  clear hb
  go_wp2_with fail
  go_region_held3 (fun W : World => (W.cell? ⟨x2.heap.size, 0, none⟩ = some (.int .i64 2) ∧ W.cell? ⟨x2.heap.size, 1, none⟩ = some (.int .i64 7)) ∧ Below w.heap.size w W)
    (first | with_reducible exact wb_call (by assumption) (by assumption) | exact ⟨⟨hr0_8, hr1_8⟩, hD8.drew⟩ | assumption)
    (first | (go_at_call 49; refine (remontoirref00_To.calls _ _ _ _ _ rfl).mono ?_; rintro e wT ⟨rfl, hbT⟩) | (go_at_call 52; refine (ex_book _).mono ?_; rintro e wb ⟨A6, c6, A7, c7, rfl, h6, hc6, h7, hc7, hbb⟩) | (go_at_call 29; rename_i hx _ _; refine (ex_check A6 A7 c6 c7 _ (hWays.below hx.2) h6 hc6 h7 hc7).mono ?_; rintro e wc ⟨rfl, hbc⟩))
  rename_i hh
  go_wp2_with fail
  go_ret
  exact ⟨rfl, hh.2⟩

/-- What the print takes for the examples: they work. -/
def remontoirlaw04_works.f : Option Bool := some true
theorem remontoirlaw04_works.calls (r : Bool) (w : World) (hWays : Go.Proofs.YtidnopmjhhmedaaDoor.Ways w) (h : remontoirlaw04_works.f = some r) : Calls Tryd.prog 21 #[] w fun e w' => e = .returned (.bool r) ∧ Below w.heap.size w w' := by
  obtain rfl : true = r := Option.some.inj h
  exact works_calls w hWays

end Go.Proofs.TrydX.X
end

section
-- Written by wip/tools/pr.py (a program of this repo over the kit's print.py).
namespace Go.Proofs.TrydX.X
open Go.RowKit Go.Proofs.YtidnopmjhhmedaaDoorW.PrintWords Go.Proofs.YtidnopmjhhmedaaDoorW.PrintLast Go.Proofs.YtidnopmjhhmedaaDoorW.PrintMore
attribute [local go_sem] max2_int min2_int max_two min_two max_three min_three max_four min_four   -- for this text's walks alone
set_option linter.unusedVariables false
set_option linter.unusedSimpArgs false

/-! ### remontoirlaw04_ScalePlans: function 3 -/
mutual
def remontoirlaw04_ScalePlans.j0 : Nat → Int → Bool → Int → Int → Int → Int → Int → Option (Bool)
  | 0, _, _, _, _, _, _, _ => none
  | k + 1, x1, x36, x149000, x149001, x149002, x149003, x149004 => if x36 = true then (some false) else ((scale_Fewest.f x149000 x149001 x149002 x149003 x149004 x1).bind fun bt153 => ((remontoirref04_Fewest.f k x149000 x149001 x149002 x149003 x149004 x1).bind fun bt155 => ((scale_Plan.f x149000 x149001 x149002 x149003 x149004 x1).bind fun bt157 => (if bt153.1 = bt155.1 then (if bt153.2 = bt155.2 then (remontoirlaw04_ScalePlans.j1 k x1 bt155.2 bt155.1 bt157.1 (bt157.2 != bt155.2) x149000 x149001 x149002 x149003 x149004) else (remontoirlaw04_ScalePlans.j1 k x1 bt155.2 bt155.1 bt157.1 true x149000 x149001 x149002 x149003 x149004)) else (remontoirlaw04_ScalePlans.j1 k x1 bt155.2 bt155.1 bt157.1 true x149000 x149001 x149002 x149003 x149004)))))
def remontoirlaw04_ScalePlans.j1 : Nat → Int → Int → Int → List Int → Bool → Int → Int → Int → Int → Int → Option (Bool)
  | 0, _, _, _, _, _, _, _, _, _, _ => none
  | k + 1, x1, x10, x12, x13, x67, x149000, x149001, x149002, x149003, x149004 => if x67 = true then (some false) else (if x10 = 0 then ((remontoirref04_IsPlan.f k x149000 x149001 x149002 x149003 x149004 x1 x13).bind fun bt161 => (if bt161.1 = true then (if (x13.length : Int) = x12 then ((remontoirlaw04_works.f).bind fun t163 => (some t163)) else (some false)) else (some false))) else (if (x13.length : Int) = 0 then ((remontoirlaw04_works.f).bind fun t164 => (some t164)) else (some false)))
end
def remontoirlaw04_ScalePlans.f (k : Nat) (a0_0 : Int) (a0_1 : Int) (a0_2 : Int) (a0_3 : Int) (a0_4 : Int) (a1 : Int) (l2 : List Int) : Option (Bool) := (scale_IsPlan.f a0_0 a0_1 a0_2 a0_3 a0_4 a1 l2).bind fun bt149 => ((remontoirref04_IsPlan.f k a0_0 a0_1 a0_2 a0_3 a0_4 a1 l2).bind fun bt151 => (if (bt149.1 != bt151.1) = true then (remontoirlaw04_ScalePlans.j0 k a1 true a0_0 a0_1 a0_2 a0_3 a0_4) else (remontoirlaw04_ScalePlans.j0 k a1 (bt149.2 != bt151.2) a0_0 a0_1 a0_2 a0_3 a0_4)))
theorem remontoirlaw04_ScalePlans.mono_l : ∀ k, (∀ y0 y1 y2 y3 y4 y5 y6, LeO (remontoirlaw04_ScalePlans.j0 k y0 y1 y2 y3 y4 y5 y6) (remontoirlaw04_ScalePlans.j0 (k + 1) y0 y1 y2 y3 y4 y5 y6)) ∧ (∀ y0 y1 y2 y3 y4 y5 y6 y7 y8 y9, LeO (remontoirlaw04_ScalePlans.j1 k y0 y1 y2 y3 y4 y5 y6 y7 y8 y9) (remontoirlaw04_ScalePlans.j1 (k + 1) y0 y1 y2 y3 y4 y5 y6 y7 y8 y9))
  | 0 => ⟨fun _ _ _ _ _ _ _ r h => by simp [remontoirlaw04_ScalePlans.j0] at h, fun _ _ _ _ _ _ _ _ _ _ r h => by simp [remontoirlaw04_ScalePlans.j1] at h⟩
  | k + 1 => by
    obtain ⟨ih0, ih1⟩ := remontoirlaw04_ScalePlans.mono_l k
    refine ⟨?_, ?_⟩
    · intro y0 y1 y2 y3 y4 y5 y6
      unfold remontoirlaw04_ScalePlans.j0
      repeat' first
      | (with_reducible exact ih0 _ _ _ _ _ _ _)
      | (with_reducible exact ih1 _ _ _ _ _ _ _ _ _ _)
      | (with_reducible exact remontoirref04_Fewest.mono _ _ _ _ _ _ _)
      | (with_reducible exact remontoirref04_IsPlan.mono _ _ _ _ _ _ _ _)
      | (with_reducible exact LeO.refl _)
      | (with_reducible exact LeO.none _)
      | (with_reducible refine LeO.ite ?_ ?_)
      | (with_reducible refine LeO.bind ?_ (fun _ => ?_))
      | exact ih0 _ _ _ _ _ _ _
      | exact ih1 _ _ _ _ _ _ _ _ _ _
      | exact remontoirref04_Fewest.mono _ _ _ _ _ _ _
      | exact remontoirref04_IsPlan.mono _ _ _ _ _ _ _ _
      | exact LeO.none _
      | refine LeO.ite ?_ ?_
      | refine LeO.bind ?_ (fun _ => ?_)
    · intro y0 y1 y2 y3 y4 y5 y6 y7 y8 y9
      unfold remontoirlaw04_ScalePlans.j1
      repeat' first
      | (with_reducible exact ih0 _ _ _ _ _ _ _)
      | (with_reducible exact ih1 _ _ _ _ _ _ _ _ _ _)
      | (with_reducible exact remontoirref04_Fewest.mono _ _ _ _ _ _ _)
      | (with_reducible exact remontoirref04_IsPlan.mono _ _ _ _ _ _ _ _)
      | (with_reducible exact LeO.refl _)
      | (with_reducible exact LeO.none _)
      | (with_reducible refine LeO.ite ?_ ?_)
      | (with_reducible refine LeO.bind ?_ (fun _ => ?_))
      | exact ih0 _ _ _ _ _ _ _
      | exact ih1 _ _ _ _ _ _ _ _ _ _
      | exact remontoirref04_Fewest.mono _ _ _ _ _ _ _
      | exact remontoirref04_IsPlan.mono _ _ _ _ _ _ _ _
      | exact LeO.none _
      | refine LeO.ite ?_ ?_
      | refine LeO.bind ?_ (fun _ => ?_)
theorem remontoirlaw04_ScalePlans.mono : ∀ a0 a1 a2 a3 a4 a5 a6 k, LeO (remontoirlaw04_ScalePlans.f k a0 a1 a2 a3 a4 a5 a6) (remontoirlaw04_ScalePlans.f (k + 1) a0 a1 a2 a3 a4 a5 a6) := by
  intro a0 a1 a2 a3 a4 a5 a6 k
  obtain ⟨ih0, ih1⟩ := remontoirlaw04_ScalePlans.mono_l k
  unfold remontoirlaw04_ScalePlans.f
  repeat' first
      | (with_reducible exact ih0 _ _ _ _ _ _ _)
      | (with_reducible exact ih1 _ _ _ _ _ _ _ _ _ _)
      | (with_reducible exact remontoirref04_Fewest.mono _ _ _ _ _ _ _)
      | (with_reducible exact remontoirref04_IsPlan.mono _ _ _ _ _ _ _ _)
      | (with_reducible exact LeO.refl _)
      | (with_reducible exact LeO.none _)
      | (with_reducible refine LeO.ite ?_ ?_)
      | (with_reducible refine LeO.bind ?_ (fun _ => ?_))
      | exact ih0 _ _ _ _ _ _ _
      | exact ih1 _ _ _ _ _ _ _ _ _ _
      | exact remontoirref04_Fewest.mono _ _ _ _ _ _ _
      | exact remontoirref04_IsPlan.mono _ _ _ _ _ _ _ _
      | exact LeO.none _
      | refine LeO.ite ?_ ?_
      | refine LeO.bind ?_ (fun _ => ?_)
set_option maxHeartbeats 8000000 in
set_option maxRecDepth 100000 in
theorem remontoirlaw04_ScalePlans.calls (k : Nat) (a0_0 : Int) (a0_1 : Int) (a0_2 : Int) (a0_3 : Int) (a0_4 : Int) (a1 : Int) (A2 : Option Addr) (c2 : Nat) (l2 : List Int) (r : Bool) (w : World) (hr2 : Kd.C (Kd.int .i64) w A2 l2.length l2) (hc2 : l2.length ≤ c2) (hWays : Go.Proofs.YtidnopmjhhmedaaDoor.Ways w) (h : remontoirlaw04_ScalePlans.f k a0_0 a0_1 a0_2 a0_3 a0_4 a1 l2 = some r) :
    Calls Tryd.prog 3 #[.agg #[.int .i64 a0_0, .int .i64 a0_1, .int .i64 a0_2, .int .i64 a0_3, .int .i64 a0_4], .int .i64 a1, .slice A2 l2.length c2] w fun e w' => e = .returned (.bool r) ∧ Below w.heap.size w w' := by
  have hu25 := Tryd.underlying25
  have HR2 := Aside0.mk hr2
  have HC2 := Aside0.mk hc2
  clear hr2 hc2
  have HB := Aside0.mk (Below.refl w.heap.size w)
  have HWays := Aside0.mk hWays
  clear hWays
  have H : ((scale_IsPlan.f a0_0 a0_1 a0_2 a0_3 a0_4 a1 l2).bind fun bt149 => ((remontoirref04_IsPlan.f k a0_0 a0_1 a0_2 a0_3 a0_4 a1 l2).bind fun bt151 => (if (bt149.1 != bt151.1) = true then (remontoirlaw04_ScalePlans.j0 k a1 true a0_0 a0_1 a0_2 a0_3 a0_4) else (remontoirlaw04_ScalePlans.j0 k a1 (bt149.2 != bt151.2) a0_0 a0_1 a0_2 a0_3 a0_4)))) = some r := h
  clear h
  replace H := Option.bind_eq_some_iff.mp H
  obtain ⟨⟨t149, t150⟩, A40, H⟩ := H
  replace H : ((remontoirref04_IsPlan.f k a0_0 a0_1 a0_2 a0_3 a0_4 a1 l2).bind fun bt151 => (if (t149 != bt151.1) = true then (remontoirlaw04_ScalePlans.j0 k a1 true a0_0 a0_1 a0_2 a0_3 a0_4) else (remontoirlaw04_ScalePlans.j0 k a1 (t150 != bt151.2) a0_0 a0_1 a0_2 a0_3 a0_4))) = some r := H
  have A4 := Aside0.mk A40
  clear A40
  replace H := Option.bind_eq_some_iff.mp H
  obtain ⟨⟨t151, t152⟩, A50, H⟩ := H
  replace H : (if (t149 != t151) = true then (remontoirlaw04_ScalePlans.j0 k a1 true a0_0 a0_1 a0_2 a0_3 a0_4) else (remontoirlaw04_ScalePlans.j0 k a1 (t150 != t152) a0_0 a0_1 a0_2 a0_3 a0_4)) = some r := H
  have A5 := Aside0.mk A50
  clear A50
  have HC6 := Aside0.mk H
  clear H
  go_enter Tryd.func3, Tryd.ntmps3
  go_upto_region 3 with (first | ((with_reducible refine gate_dst (N := 3) rfl ?_); (try (refine gate_guard (by rfl) ?_; dsimp only)); refine box_event ?hg (N := 3) ?hd (cs := #[.int .i64 a0_0, .int .i64 a0_1, .int .i64 a0_2, .int .i64 a0_3, .int .i64 a0_4]) (t := 25) ?hr ?_; (case hd => rfl); (case hg => rfl); (case hr => first | (go_simp; done) | (go_simp; rfl)); intro gb148 hg w7 hbox hb; have n0_ := Aside0.mk (below_step (by repeat (first | (with_reducible first | exact HB.out | apply below_alloc | apply pw_below_drewN | apply below_drew1) | exact HB.out)) hb); have n1_ := Aside0.mk (hbox); have n2_ := Aside0.mk ((by rw [hg]; exact (below_size (by repeat (first | (with_reducible first | exact HB.out | apply below_alloc | apply pw_below_drewN | apply below_drew1) | exact HB.out))) : w.heap.size ≤ gb148)); have n3_ := Aside0.mk ((by rw [hg]; exact (below_size (by repeat (first | (with_reducible first | exact HB.out | apply below_alloc | apply pw_below_drewN | apply below_drew1) | exact HB.out))) : w.heap.size ≤ gb148)); clear HB; have HB := n0_; have BK148 := n1_; have GW148 := n2_; have GE148 := n3_; clear n0_ n1_ n2_ n3_; clear hb hbox hg; have hcz8_0 : w7.cell? ⟨gb148, 0, none⟩ = some (.int .i64 a0_0) := (blk_cell BK148.out 0).trans rfl; have hcz8_1 : w7.cell? ⟨gb148, 1, none⟩ = some (.int .i64 a0_1) := (blk_cell BK148.out 1).trans rfl; have hcz8_2 : w7.cell? ⟨gb148, 2, none⟩ = some (.int .i64 a0_2) := (blk_cell BK148.out 2).trans rfl; have hcz8_3 : w7.cell? ⟨gb148, 3, none⟩ = some (.int .i64 a0_3) := (blk_cell BK148.out 3).trans rfl; have hcz8_4 : w7.cell? ⟨gb148, 4, none⟩ = some (.int .i64 a0_4) := (blk_cell BK148.out 4).trans rfl; have hfz8_0 := blk_frozen BK148.out 0; have hfz8_1 := blk_frozen BK148.out 1; have hfz8_2 := blk_frozen BK148.out 2; have hfz8_3 := blk_frozen BK148.out 3; have hfz8_4 := blk_frozen BK148.out 4) | ((with_reducible refine gate_callee (f := 16) rfl ?_); refine goesL_ (some 19) rfl rfl Tryd.func16 (by kernel_rfl) rfl #[.agg #[.int .i64 a0_0, .int .i64 a0_1, .int .i64 a0_2, .int .i64 a0_3, .int .i64 a0_4], .int .i64 a1, .slice A2 l2.length c2] rfl (by (try simp only [List.map_toArray, List.map_cons, List.map_nil]); first | done | rfl | (simp only [List.length_drop, List.length_take]; rfl)) ?_; (with_reducible refine (scale_IsPlan.calls a0_0 a0_1 a0_2 a0_3 a0_4 a1 _ _ l2 t149 t150 _ ?side1 ?side2 ?side3 A4.out).mono ?_); (case side1 => repeat (first | exact (Kd.C_below HR2.out HB.out) | (with_reducible refine Kd.C_alloc ?_ _) | (with_reducible refine Kd.C_drewN ?_ _) | (with_reducible refine Kd.C_drew ?_))); (case side2 => exact HC2.out); (case side3 => exact Go.Proofs.YtidnopmjhhmedaaDoor.Ways.below HWays.out (by repeat (first | (with_reducible first | exact HB.out | apply below_alloc | apply pw_below_drewN | apply below_drew1 | refine below_set ?_ GE148.out) | exact HB.out))); rintro e w9 ⟨rfl, hb⟩; refine ⟨_, rfl, ?_⟩; have n0_ := Aside0.mk (blk_below (g := gb148) (o := .cells #[.int .i64 a0_0, .int .i64 a0_1, .int .i64 a0_2, .int .i64 a0_3, .int .i64 a0_4] 25 (0, 0)) (by (with_reducible repeat (first | refine blk_drewN ?_ _ | refine blk_drew ?_ | refine blk_alloc ?_ _)); exact BK148.out) hb); have n1_ := Aside0.mk (below_step (by repeat (first | (with_reducible first | exact HB.out | apply below_alloc | apply pw_below_drewN | apply below_drew1 | refine below_set ?_ GE148.out) | exact HB.out)) hb); clear BK148; clear HB; have BK148 := n0_; have HB := n1_; clear n0_ n1_; (try clear hb); (try clear hb2); (try clear hk); (try clear hi); have hcz10_0 : w9.cell? ⟨gb148, 0, none⟩ = some (.int .i64 a0_0) := (blk_cell BK148.out 0).trans rfl; have hcz10_1 : w9.cell? ⟨gb148, 1, none⟩ = some (.int .i64 a0_1) := (blk_cell BK148.out 1).trans rfl; have hcz10_2 : w9.cell? ⟨gb148, 2, none⟩ = some (.int .i64 a0_2) := (blk_cell BK148.out 2).trans rfl; have hcz10_3 : w9.cell? ⟨gb148, 3, none⟩ = some (.int .i64 a0_3) := (blk_cell BK148.out 3).trans rfl; have hcz10_4 : w9.cell? ⟨gb148, 4, none⟩ = some (.int .i64 a0_4) := (blk_cell BK148.out 4).trans rfl; have hfz10_0 := blk_frozen BK148.out 0; have hfz10_1 := blk_frozen BK148.out 1; have hfz10_2 := blk_frozen BK148.out 2; have hfz10_3 := blk_frozen BK148.out 3; have hfz10_4 := blk_frozen BK148.out 4) | ((with_reducible refine gate_callee (f := 17) rfl ?_); refine goesL_ (some 26) rfl rfl Tryd.func17 (by kernel_rfl) rfl #[.agg #[.int .i64 a0_0, .int .i64 a0_1, .int .i64 a0_2, .int .i64 a0_3, .int .i64 a0_4], .int .i64 a1, .slice A2 l2.length c2] rfl (by (try simp only [List.map_toArray, List.map_cons, List.map_nil]); first | done | rfl | (simp only [List.length_drop, List.length_take]; rfl)) ?_; (with_reducible refine (remontoirref04_IsPlan.calls k a0_0 a0_1 a0_2 a0_3 a0_4 a1 _ _ l2 t151 t152 _ ?side1 ?side2 A5.out).mono ?_); (case side1 => repeat (first | exact (Kd.C_below HR2.out HB.out) | (with_reducible refine Kd.C_alloc ?_ _) | (with_reducible refine Kd.C_drewN ?_ _) | (with_reducible refine Kd.C_drew ?_))); (case side2 => exact HC2.out); rintro e w11 ⟨rfl, hb⟩; refine ⟨_, rfl, ?_⟩; have n0_ := Aside0.mk (blk_below (g := gb148) (o := .cells #[.int .i64 a0_0, .int .i64 a0_1, .int .i64 a0_2, .int .i64 a0_3, .int .i64 a0_4] 25 (0, 0)) (by (with_reducible repeat (first | refine blk_drewN ?_ _ | refine blk_drew ?_ | refine blk_alloc ?_ _)); exact BK148.out) hb); have n1_ := Aside0.mk (below_step (by repeat (first | (with_reducible first | exact HB.out | apply below_alloc | apply pw_below_drewN | apply below_drew1 | refine below_set ?_ GE148.out) | exact HB.out)) hb); clear BK148; clear HB; have BK148 := n0_; have HB := n1_; clear n0_ n1_; (try clear hb); (try clear hb2); (try clear hk); (try clear hi)))
  (try simp only [Act.put, List.setIfInBounds_toArray, List.set_cons_zero, List.set_cons_succ])
  go_cut [36] (fun v36 wc => ∃ (kq : Nat) (x36_5 : Bool), v36 = .bool x36_5 ∧ Aside0 (remontoirlaw04_ScalePlans.j0 kq a1 x36_5 a0_0 a0_1 a0_2 a0_3 a0_4 = some r) ∧ Aside0 (kq ≤ k) ∧ Aside0 (wc.heap[gb148]? = some (.cells #[.int .i64 a0_0, .int .i64 a0_1, .int .i64 a0_2, .int .i64 a0_3, .int .i64 a0_4] 25 (0, 0))) ∧ Aside0 (Below w.heap.size w wc))
  case first =>
    have H := HC6.out
    clear HC6
    by_cases c12 : (t149 != t151) = true
    · rw [if_pos c12] at H
      have c12b0 : (t149 != t151) = true := c12
      (try (have c12b1 : decide (t149 = t151) = false := by simpa using c12))
      (try (have c12b2 : (t149 == t151) = false := by simpa using c12))
      (try (have c12b3 : ¬ (t149 = t151) := by simpa using c12))
      clear c12
      (first | rw [c12b0] | (simp only [i64_w, i32_w]; rw [c12b0]) | skip)
      have H' := Aside0.mk H
      clear H
      go_wp2
      go_meet
      case rel => exact ⟨_, (true), (by first | rfl | (simp; done) | (simp [*]; done)), H', ⟨by first | omega | exact Nat.le_refl _⟩, ⟨by (with_reducible repeat (first | refine blk_drewN ?_ _ | refine blk_drew ?_ | refine blk_alloc ?_ _)); exact BK148.out⟩, ⟨by repeat (first | (with_reducible first | exact HB.out | apply below_alloc | apply pw_below_drewN | apply below_drew1 | refine below_set ?_ GE148.out) | exact HB.out)⟩⟩
    · rw [if_neg c12] at H
      have c12b0 : (t149 != t151) = false := by simpa using c12
      (try (have c12b1 : decide (t149 = t151) = true := by simpa using c12))
      (try (have c12b2 : (t149 == t151) = true := by simpa using c12))
      clear c12
      (first | rw [c12b0] | (simp only [i64_w, i32_w]; rw [c12b0]) | skip)
      have H' := Aside0.mk H
      clear H
      go_wp2
      go_meet
      case rel => exact ⟨_, ((t150 != t152)), (by first | rfl | (simp; done) | (simp [*]; done)), H', ⟨by first | omega | exact Nat.le_refl _⟩, ⟨by (with_reducible repeat (first | refine blk_drewN ?_ _ | refine blk_drew ?_ | refine blk_alloc ?_ _)); exact BK148.out⟩, ⟨by repeat (first | (with_reducible first | exact HB.out | apply below_alloc | apply pw_below_drewN | apply below_drew1 | refine below_set ?_ GE148.out) | exact HB.out)⟩⟩
  case rest =>
    clear HC6
    try clear c1
    try clear c2
    try clear p2
    try clear c3
    try clear c12
    try clear c12b0
    try clear c12b1
    try clear c12b2
    try clear hcz10_0
    try clear hcz10_1
    try clear hcz10_2
    try clear hcz10_3
    try clear hcz10_4
    try clear hcz8_0
    try clear hcz8_1
    try clear hcz8_2
    try clear hcz8_3
    try clear hcz8_4
    try clear hfz10_0
    try clear hfz10_1
    try clear hfz10_2
    try clear hfz10_3
    try clear hfz10_4
    try clear hfz8_0
    try clear hfz8_1
    try clear hfz8_2
    try clear hfz8_3
    try clear hfz8_4
    obtain ⟨kq, x36_5, rfl, HA, HJ5, BK148, HB⟩ := hcut
    cases kq with
    | zero => exact absurd HA.out (by simp [remontoirlaw04_ScalePlans.j0])
    | succ kj5 =>
      have H := HA.out
      clear HA
      simp only [remontoirlaw04_ScalePlans.j0] at H
      by_cases c13 : x36_5 = true
      · subst c13
        have H1 : (some false) = some r := by rw [if_pos rfl] at H; exact H
        clear H
        have H := H1
        clear H1
        obtain rfl := Option.some.inj H
        go_wp2
        go_ret
        exact ⟨by first | rfl | (simp [errW_none, errW_some] <;> rfl) | (simp [*, errW_none, errW_some] <;> rfl), by repeat (first | (with_reducible first | exact HB.out | apply below_alloc | apply pw_below_drewN | apply below_drew1 | refine below_set ?_ GE148.out) | exact HB.out)⟩
      · replace c13 := Bool.eq_false_iff.mpr c13
        subst c13
        have H1 : ((scale_Fewest.f a0_0 a0_1 a0_2 a0_3 a0_4 a1).bind fun bt153 => ((remontoirref04_Fewest.f kj5 a0_0 a0_1 a0_2 a0_3 a0_4 a1).bind fun bt155 => ((scale_Plan.f a0_0 a0_1 a0_2 a0_3 a0_4 a1).bind fun bt157 => (if bt153.1 = bt155.1 then (if bt153.2 = bt155.2 then (remontoirlaw04_ScalePlans.j1 kj5 a1 bt155.2 bt155.1 bt157.1 (bt157.2 != bt155.2) a0_0 a0_1 a0_2 a0_3 a0_4) else (remontoirlaw04_ScalePlans.j1 kj5 a1 bt155.2 bt155.1 bt157.1 true a0_0 a0_1 a0_2 a0_3 a0_4)) else (remontoirlaw04_ScalePlans.j1 kj5 a1 bt155.2 bt155.1 bt157.1 true a0_0 a0_1 a0_2 a0_3 a0_4))))) = some r := by rw [if_neg (show ¬ (false = true) by decide)] at H; exact H
        clear H
        have H := H1
        clear H1
        replace H := Option.bind_eq_some_iff.mp H
        obtain ⟨⟨t153, t154⟩, A140, H⟩ := H
        replace H : ((remontoirref04_Fewest.f kj5 a0_0 a0_1 a0_2 a0_3 a0_4 a1).bind fun bt155 => ((scale_Plan.f a0_0 a0_1 a0_2 a0_3 a0_4 a1).bind fun bt157 => (if t153 = bt155.1 then (if t154 = bt155.2 then (remontoirlaw04_ScalePlans.j1 kj5 a1 bt155.2 bt155.1 bt157.1 (bt157.2 != bt155.2) a0_0 a0_1 a0_2 a0_3 a0_4) else (remontoirlaw04_ScalePlans.j1 kj5 a1 bt155.2 bt155.1 bt157.1 true a0_0 a0_1 a0_2 a0_3 a0_4)) else (remontoirlaw04_ScalePlans.j1 kj5 a1 bt155.2 bt155.1 bt157.1 true a0_0 a0_1 a0_2 a0_3 a0_4)))) = some r := H
        have A14 := Aside0.mk A140
        clear A140
        replace H := Option.bind_eq_some_iff.mp H
        obtain ⟨⟨t155, t156⟩, A150, H⟩ := H
        replace H : ((scale_Plan.f a0_0 a0_1 a0_2 a0_3 a0_4 a1).bind fun bt157 => (if t153 = t155 then (if t154 = t156 then (remontoirlaw04_ScalePlans.j1 kj5 a1 t156 t155 bt157.1 (bt157.2 != t156) a0_0 a0_1 a0_2 a0_3 a0_4) else (remontoirlaw04_ScalePlans.j1 kj5 a1 t156 t155 bt157.1 true a0_0 a0_1 a0_2 a0_3 a0_4)) else (remontoirlaw04_ScalePlans.j1 kj5 a1 t156 t155 bt157.1 true a0_0 a0_1 a0_2 a0_3 a0_4))) = some r := H
        have A15 := Aside0.mk A150
        clear A150
        replace H := Option.bind_eq_some_iff.mp H
        obtain ⟨⟨t157, t160⟩, A160, H⟩ := H
        replace H : (if t153 = t155 then (if t154 = t156 then (remontoirlaw04_ScalePlans.j1 kj5 a1 t156 t155 t157 (t160 != t156) a0_0 a0_1 a0_2 a0_3 a0_4) else (remontoirlaw04_ScalePlans.j1 kj5 a1 t156 t155 t157 true a0_0 a0_1 a0_2 a0_3 a0_4)) else (remontoirlaw04_ScalePlans.j1 kj5 a1 t156 t155 t157 true a0_0 a0_1 a0_2 a0_3 a0_4)) = some r := H
        have A16 := Aside0.mk A160
        clear A160
        have HC17 := Aside0.mk H
        clear H
        have hcz18_0 : wc.cell? ⟨gb148, 0, none⟩ = some (.int .i64 a0_0) := (blk_cell BK148.out 0).trans rfl
        have hcz18_1 : wc.cell? ⟨gb148, 1, none⟩ = some (.int .i64 a0_1) := (blk_cell BK148.out 1).trans rfl
        have hcz18_2 : wc.cell? ⟨gb148, 2, none⟩ = some (.int .i64 a0_2) := (blk_cell BK148.out 2).trans rfl
        have hcz18_3 : wc.cell? ⟨gb148, 3, none⟩ = some (.int .i64 a0_3) := (blk_cell BK148.out 3).trans rfl
        have hcz18_4 : wc.cell? ⟨gb148, 4, none⟩ = some (.int .i64 a0_4) := (blk_cell BK148.out 4).trans rfl
        have hfz18_0 := blk_frozen BK148.out 0
        have hfz18_1 := blk_frozen BK148.out 1
        have hfz18_2 := blk_frozen BK148.out 2
        have hfz18_3 := blk_frozen BK148.out 3
        have hfz18_4 := blk_frozen BK148.out 4
        go_upto_region 8 with (first | ((with_reducible refine gate_callee (f := 18) rfl ?_); refine goesL_ (some 40) rfl rfl Tryd.func18 (by kernel_rfl) rfl #[.agg #[.int .i64 a0_0, .int .i64 a0_1, .int .i64 a0_2, .int .i64 a0_3, .int .i64 a0_4], .int .i64 a1] rfl (by (try simp only [List.map_toArray, List.map_cons, List.map_nil]); first | done | rfl | (simp only [List.length_drop, List.length_take]; rfl)) ?_; (with_reducible refine (scale_Fewest.calls a0_0 a0_1 a0_2 a0_3 a0_4 a1 t153 t154 _ ?side1 A14.out).mono ?_); (case side1 => exact Go.Proofs.YtidnopmjhhmedaaDoor.Ways.below HWays.out (by repeat (first | (with_reducible first | exact HB.out | apply below_alloc | apply pw_below_drewN | apply below_drew1 | refine below_set ?_ GE148.out) | exact HB.out))); rintro e w19 ⟨rfl, hb⟩; refine ⟨_, rfl, ?_⟩; have n0_ := Aside0.mk (blk_below (g := gb148) (o := .cells #[.int .i64 a0_0, .int .i64 a0_1, .int .i64 a0_2, .int .i64 a0_3, .int .i64 a0_4] 25 (0, 0)) (by (with_reducible repeat (first | refine blk_drewN ?_ _ | refine blk_drew ?_ | refine blk_alloc ?_ _)); exact BK148.out) hb); have n1_ := Aside0.mk (below_step (by repeat (first | (with_reducible first | exact HB.out | apply below_alloc | apply pw_below_drewN | apply below_drew1 | refine below_set ?_ GE148.out) | exact HB.out)) hb); clear BK148; clear HB; have BK148 := n0_; have HB := n1_; clear n0_ n1_; (try clear hb); (try clear hb2); (try clear hk); (try clear hi); have hcz20_0 : w19.cell? ⟨gb148, 0, none⟩ = some (.int .i64 a0_0) := (blk_cell BK148.out 0).trans rfl; have hcz20_1 : w19.cell? ⟨gb148, 1, none⟩ = some (.int .i64 a0_1) := (blk_cell BK148.out 1).trans rfl; have hcz20_2 : w19.cell? ⟨gb148, 2, none⟩ = some (.int .i64 a0_2) := (blk_cell BK148.out 2).trans rfl; have hcz20_3 : w19.cell? ⟨gb148, 3, none⟩ = some (.int .i64 a0_3) := (blk_cell BK148.out 3).trans rfl; have hcz20_4 : w19.cell? ⟨gb148, 4, none⟩ = some (.int .i64 a0_4) := (blk_cell BK148.out 4).trans rfl; have hfz20_0 := blk_frozen BK148.out 0; have hfz20_1 := blk_frozen BK148.out 1; have hfz20_2 := blk_frozen BK148.out 2; have hfz20_3 := blk_frozen BK148.out 3; have hfz20_4 := blk_frozen BK148.out 4) | ((with_reducible refine gate_callee (f := 19) rfl ?_); refine goesL_ (some 46) rfl rfl Tryd.func19 (by kernel_rfl) rfl #[.agg #[.int .i64 a0_0, .int .i64 a0_1, .int .i64 a0_2, .int .i64 a0_3, .int .i64 a0_4], .int .i64 a1] rfl (by (try simp only [List.map_toArray, List.map_cons, List.map_nil]); first | done | rfl | (simp only [List.length_drop, List.length_take]; rfl)) ?_; (with_reducible refine (remontoirref04_Fewest.calls kj5 a0_0 a0_1 a0_2 a0_3 a0_4 a1 t155 t156 _ A15.out).mono ?_); rintro e w21 ⟨rfl, hb⟩; refine ⟨_, rfl, ?_⟩; have n0_ := Aside0.mk (blk_below (g := gb148) (o := .cells #[.int .i64 a0_0, .int .i64 a0_1, .int .i64 a0_2, .int .i64 a0_3, .int .i64 a0_4] 25 (0, 0)) (by (with_reducible repeat (first | refine blk_drewN ?_ _ | refine blk_drew ?_ | refine blk_alloc ?_ _)); exact BK148.out) hb); have n1_ := Aside0.mk (below_step (by repeat (first | (with_reducible first | exact HB.out | apply below_alloc | apply pw_below_drewN | apply below_drew1 | refine below_set ?_ GE148.out) | exact HB.out)) hb); clear BK148; clear HB; have BK148 := n0_; have HB := n1_; clear n0_ n1_; (try clear hb); (try clear hb2); (try clear hk); (try clear hi); have hcz22_0 : w21.cell? ⟨gb148, 0, none⟩ = some (.int .i64 a0_0) := (blk_cell BK148.out 0).trans rfl; have hcz22_1 : w21.cell? ⟨gb148, 1, none⟩ = some (.int .i64 a0_1) := (blk_cell BK148.out 1).trans rfl; have hcz22_2 : w21.cell? ⟨gb148, 2, none⟩ = some (.int .i64 a0_2) := (blk_cell BK148.out 2).trans rfl; have hcz22_3 : w21.cell? ⟨gb148, 3, none⟩ = some (.int .i64 a0_3) := (blk_cell BK148.out 3).trans rfl; have hcz22_4 : w21.cell? ⟨gb148, 4, none⟩ = some (.int .i64 a0_4) := (blk_cell BK148.out 4).trans rfl; have hfz22_0 := blk_frozen BK148.out 0; have hfz22_1 := blk_frozen BK148.out 1; have hfz22_2 := blk_frozen BK148.out 2; have hfz22_3 := blk_frozen BK148.out 3; have hfz22_4 := blk_frozen BK148.out 4) | ((with_reducible refine gate_callee (f := 20) rfl ?_); refine goesL_ (some 52) rfl rfl Tryd.func20 (by kernel_rfl) rfl #[.agg #[.int .i64 a0_0, .int .i64 a0_1, .int .i64 a0_2, .int .i64 a0_3, .int .i64 a0_4], .int .i64 a1] rfl (by (try simp only [List.map_toArray, List.map_cons, List.map_nil]); first | done | rfl | (simp only [List.length_drop, List.length_take]; rfl)) ?_; (with_reducible refine (scale_Plan.calls a0_0 a0_1 a0_2 a0_3 a0_4 a1 t157 t160 _ ?side1 A16.out).mono ?_); (case side1 => exact Go.Proofs.YtidnopmjhhmedaaDoor.Ways.below HWays.out (by repeat (first | (with_reducible first | exact HB.out | apply below_alloc | apply pw_below_drewN | apply below_drew1 | refine below_set ?_ GE148.out) | exact HB.out))); rintro e w23 ⟨v158, rfl, ho0, hb⟩; refine ⟨_, rfl, ?_⟩; have n0_ := Aside0.mk (Kd.V_lower (Kd.V_mono (ok' := fun k_ => k_ ≠ gb148) ho0 (fun k_ hk_ => (Kd.freshB (g := gb148) (o := .cells #[.int .i64 a0_0, .int .i64 a0_1, .int .i64 a0_2, .int .i64 a0_3, .int .i64 a0_4] 25 (0, 0)) (by (with_reducible repeat (first | refine blk_drewN ?_ _ | refine blk_drew ?_ | refine blk_alloc ?_ _)); exact BK148.out) k_ hk_))) (below_size (by repeat (first | (with_reducible first | exact HB.out | apply below_alloc | apply pw_below_drewN | apply below_drew1 | refine below_set ?_ GE148.out) | exact HB.out)))); have n1_ := Aside0.mk (blk_below (g := gb148) (o := .cells #[.int .i64 a0_0, .int .i64 a0_1, .int .i64 a0_2, .int .i64 a0_3, .int .i64 a0_4] 25 (0, 0)) (by (with_reducible repeat (first | refine blk_drewN ?_ _ | refine blk_drew ?_ | refine blk_alloc ?_ _)); exact BK148.out) hb); have n2_ := Aside0.mk (below_step (by repeat (first | (with_reducible first | exact HB.out | apply below_alloc | apply pw_below_drewN | apply below_drew1 | refine below_set ?_ GE148.out) | exact HB.out)) hb); clear BK148; clear HB; have HO159 := n0_; have BK148 := n1_; have HB := n2_; clear n0_ n1_ n2_; (try clear hb); (try clear hb2); (try clear hk); (try clear hi); (try clear ho0)))
        (try simp only [Act.put, List.setIfInBounds_toArray, List.set_cons_zero, List.set_cons_succ])
        go_cut [67] (fun v67 wc => ∃ (kq : Nat) (x67_16 : Bool), v67 = .bool x67_16 ∧ Aside0 (remontoirlaw04_ScalePlans.j1 kq a1 t156 t155 t157 x67_16 a0_0 a0_1 a0_2 a0_3 a0_4 = some r) ∧ Aside0 (kq ≤ kj5) ∧ Aside0 (Kd.V (Kd.int .i64) 3 wc w.heap.size (fun k_ => k_ ≠ gb148) v158 t157) ∧ Aside0 (wc.heap[gb148]? = some (.cells #[.int .i64 a0_0, .int .i64 a0_1, .int .i64 a0_2, .int .i64 a0_3, .int .i64 a0_4] 25 (0, 0))) ∧ Aside0 (Below w.heap.size w wc))
        case first =>
          have H := HC17.out
          clear HC17
          by_cases c24 : t153 = t155
          · rw [if_pos c24] at H
            have c24b0 : (t153 == t155) = true := beq_iff_eq.mpr c24
            have c24b1 : (t153 != t155) = false := bne_eq_false_iff_eq.mpr c24
            clear c24
            (first | rw [c24b0] | (simp only [i64_w, i32_w]; rw [c24b0]) | skip)
            by_cases c25 : t154 = t156
            · rw [if_pos c25] at H
              have c25b0 : (t154 == t156) = true := beq_iff_eq.mpr c25
              have c25b1 : (t154 != t156) = false := bne_eq_false_iff_eq.mpr c25
              clear c25
              have H' := Aside0.mk H
              clear H
              go_wp2
              go_meet
              case rel => exact ⟨_, ((t160 != t156)), (by first | rfl | (simp; done) | (simp [*]; done)), H', ⟨by have := HJ5.out; first | omega | exact Nat.le_refl _⟩, ⟨by (with_reducible repeat (first | apply Kd.V_alloc | apply Kd.V_drewN | apply Kd.V_drew)); exact HO159.out⟩, ⟨by (with_reducible repeat (first | refine blk_drewN ?_ _ | refine blk_drew ?_ | refine blk_alloc ?_ _)); exact BK148.out⟩, ⟨by repeat (first | (with_reducible first | exact HB.out | apply below_alloc | apply pw_below_drewN | apply below_drew1 | refine below_set ?_ GE148.out) | exact HB.out)⟩⟩
            · rw [if_neg c25] at H
              have c25b0 : (t154 == t156) = false := beq_eq_false_iff_ne.mpr c25
              have c25b1 : (t154 != t156) = true := bne_iff_ne.mpr c25
              have H' := Aside0.mk H
              clear H
              go_wp2
              go_meet
              case rel => exact ⟨_, (true), (by first | rfl | (simp; done) | (simp [*]; done)), H', ⟨by have := HJ5.out; first | omega | exact Nat.le_refl _⟩, ⟨by (with_reducible repeat (first | apply Kd.V_alloc | apply Kd.V_drewN | apply Kd.V_drew)); exact HO159.out⟩, ⟨by (with_reducible repeat (first | refine blk_drewN ?_ _ | refine blk_drew ?_ | refine blk_alloc ?_ _)); exact BK148.out⟩, ⟨by repeat (first | (with_reducible first | exact HB.out | apply below_alloc | apply pw_below_drewN | apply below_drew1 | refine below_set ?_ GE148.out) | exact HB.out)⟩⟩
          · rw [if_neg c24] at H
            have c24b0 : (t153 == t155) = false := beq_eq_false_iff_ne.mpr c24
            have c24b1 : (t153 != t155) = true := bne_iff_ne.mpr c24
            (first | rw [c24b0] | (simp only [i64_w, i32_w]; rw [c24b0]) | skip)
            have H' := Aside0.mk H
            clear H
            go_wp2
            go_meet
            case rel => exact ⟨_, (true), (by first | rfl | (simp; done) | (simp [*]; done)), H', ⟨by have := HJ5.out; first | omega | exact Nat.le_refl _⟩, ⟨by (with_reducible repeat (first | apply Kd.V_alloc | apply Kd.V_drewN | apply Kd.V_drew)); exact HO159.out⟩, ⟨by (with_reducible repeat (first | refine blk_drewN ?_ _ | refine blk_drew ?_ | refine blk_alloc ?_ _)); exact BK148.out⟩, ⟨by repeat (first | (with_reducible first | exact HB.out | apply below_alloc | apply pw_below_drewN | apply below_drew1 | refine below_set ?_ GE148.out) | exact HB.out)⟩⟩
        case rest =>
          clear HC17
          try clear c1
          try clear c2
          try clear p2
          try clear c3
          try clear c12
          try clear c12b0
          try clear c12b1
          try clear c12b2
          try clear c13
          try clear c16
          try clear c17
          try clear c18
          try clear c19
          try clear c20
          try clear c24
          try clear c24b0
          try clear c24b1
          try clear c25
          try clear c25b0
          try clear c25b1
          try clear hcz10_0
          try clear hcz10_1
          try clear hcz10_2
          try clear hcz10_3
          try clear hcz10_4
          try clear hcz18_0
          try clear hcz18_1
          try clear hcz18_2
          try clear hcz18_3
          try clear hcz18_4
          try clear hcz20_0
          try clear hcz20_1
          try clear hcz20_2
          try clear hcz20_3
          try clear hcz20_4
          try clear hcz22_0
          try clear hcz22_1
          try clear hcz22_2
          try clear hcz22_3
          try clear hcz22_4
          try clear hcz8_0
          try clear hcz8_1
          try clear hcz8_2
          try clear hcz8_3
          try clear hcz8_4
          try clear hfz10_0
          try clear hfz10_1
          try clear hfz10_2
          try clear hfz10_3
          try clear hfz10_4
          try clear hfz18_0
          try clear hfz18_1
          try clear hfz18_2
          try clear hfz18_3
          try clear hfz18_4
          try clear hfz20_0
          try clear hfz20_1
          try clear hfz20_2
          try clear hfz20_3
          try clear hfz20_4
          try clear hfz22_0
          try clear hfz22_1
          try clear hfz22_2
          try clear hfz22_3
          try clear hfz22_4
          try clear hfz8_0
          try clear hfz8_1
          try clear hfz8_2
          try clear hfz8_3
          try clear hfz8_4
          try clear p2
          obtain ⟨kq, x67_16, rfl, HA, HJ16, HO_13, BK148, HB⟩ := hcut
          cases kq with
          | zero => exact absurd HA.out (by simp [remontoirlaw04_ScalePlans.j1])
          | succ kj16 =>
            have H := HA.out
            clear HA
            simp only [remontoirlaw04_ScalePlans.j1] at H
            by_cases c26 : x67_16 = true
            · subst c26
              have H1 : (some false) = some r := by rw [if_pos rfl] at H; exact H
              clear H
              have H := H1
              clear H1
              obtain rfl := Option.some.inj H
              go_wp2
              go_ret
              exact ⟨by first | rfl | (simp [errW_none, errW_some] <;> rfl) | (simp [*, errW_none, errW_some] <;> rfl), by repeat (first | (with_reducible first | exact HB.out | apply below_alloc | apply pw_below_drewN | apply below_drew1 | refine below_set ?_ GE148.out) | exact HB.out)⟩
            · replace c26 := Bool.eq_false_iff.mpr c26
              subst c26
              have H1 : (if t156 = 0 then ((remontoirref04_IsPlan.f kj16 a0_0 a0_1 a0_2 a0_3 a0_4 a1 t157).bind fun bt161 => (if bt161.1 = true then (if (t157.length : Int) = t155 then ((remontoirlaw04_works.f).bind fun t163 => (some t163)) else (some false)) else (some false))) else (if (t157.length : Int) = 0 then ((remontoirlaw04_works.f).bind fun t164 => (some t164)) else (some false))) = some r := by rw [if_neg (show ¬ (false = true) by decide)] at H; exact H
              clear H
              have H := H1
              clear H1
              by_cases c27 : t156 = 0
              · rw [if_pos c27] at H
                have c27b0 : (t156 == 0) = true := beq_iff_eq.mpr c27
                have c27b1 : (t156 != 0) = false := bne_eq_false_iff_eq.mpr c27
                clear c27
                replace H := Option.bind_eq_some_iff.mp H
                obtain ⟨⟨t161, t162⟩, A280, H⟩ := H
                replace H : (if t161 = true then (if (t157.length : Int) = t155 then ((remontoirlaw04_works.f).bind fun t163 => (some t163)) else (some false)) else (some false)) = some r := H
                have A28 := Aside0.mk A280
                clear A280
                by_cases c29 : t161 = true
                · subst c29
                  have H1 : (if (t157.length : Int) = t155 then ((remontoirlaw04_works.f).bind fun t163 => (some t163)) else (some false)) = some r := by rw [if_pos rfl] at H; exact H
                  clear H
                  have H := H1
                  clear H1
                  by_cases c30 : (t157.length : Int) = t155
                  · rw [if_pos c30] at H
                    have c30b0 : ((t157.length : Int) == t155) = true := beq_iff_eq.mpr c30
                    have c30b1 : ((t157.length : Int) != t155) = false := bne_eq_false_iff_eq.mpr c30
                    clear c30
                    replace H := Option.bind_eq_some_iff.mp H
                    obtain ⟨t163, A310, H⟩ := H
                    replace H : (some t163) = some r := H
                    have A31 := Aside0.mk A310
                    clear A310
                    obtain rfl := Option.some.inj H
                    have hcz32_0 : wc.cell? ⟨gb148, 0, none⟩ = some (.int .i64 a0_0) := (blk_cell BK148.out 0).trans rfl
                    have hcz32_1 : wc.cell? ⟨gb148, 1, none⟩ = some (.int .i64 a0_1) := (blk_cell BK148.out 1).trans rfl
                    have hcz32_2 : wc.cell? ⟨gb148, 2, none⟩ = some (.int .i64 a0_2) := (blk_cell BK148.out 2).trans rfl
                    have hcz32_3 : wc.cell? ⟨gb148, 3, none⟩ = some (.int .i64 a0_3) := (blk_cell BK148.out 3).trans rfl
                    have hcz32_4 : wc.cell? ⟨gb148, 4, none⟩ = some (.int .i64 a0_4) := (blk_cell BK148.out 4).trans rfl
                    have hfz32_0 := blk_frozen BK148.out 0
                    have hfz32_1 := blk_frozen BK148.out 1
                    have hfz32_2 := blk_frozen BK148.out 2
                    have hfz32_3 := blk_frozen BK148.out 3
                    have hfz32_4 := blk_frozen BK148.out 4
                    obtain ⟨Ao33, co33, eo33⟩ := Kd.V_slice HO_13.out
                    subst eo33
                    go_wp2_with (first | ((with_reducible refine gate_callee (f := 17) rfl ?_); refine goesL_ (some 80) rfl rfl Tryd.func17 (by kernel_rfl) rfl #[.agg #[.int .i64 a0_0, .int .i64 a0_1, .int .i64 a0_2, .int .i64 a0_3, .int .i64 a0_4], .int .i64 a1, .slice Ao33 t157.length co33] rfl (by (try simp only [List.map_toArray, List.map_cons, List.map_nil]); first | done | rfl | (simp only [List.length_drop, List.length_take]; rfl)) ?_; (with_reducible refine (remontoirref04_IsPlan.calls kj16 a0_0 a0_1 a0_2 a0_3 a0_4 a1 _ _ t157 true t162 _ ?side1 ?side2 A28.out).mono ?_); (case side1 => repeat (first | exact (Kd.V_reads' HO_13.out).2.2 | (with_reducible refine Kd.C_alloc ?_ _) | (with_reducible refine Kd.C_drewN ?_ _) | (with_reducible refine Kd.C_drew ?_))); (case side2 => exact (Kd.V_reads' HO_13.out).2.1); rintro e w34 ⟨rfl, hb⟩; refine ⟨_, rfl, ?_⟩; have n0_ := Aside0.mk (Kd.V_below (by (with_reducible repeat (first | apply Kd.V_alloc | apply Kd.V_drewN | apply Kd.V_drew)); exact HO_13.out) hb); have n1_ := Aside0.mk (blk_below (g := gb148) (o := .cells #[.int .i64 a0_0, .int .i64 a0_1, .int .i64 a0_2, .int .i64 a0_3, .int .i64 a0_4] 25 (0, 0)) (by (with_reducible repeat (first | refine blk_drewN ?_ _ | refine blk_drew ?_ | refine blk_alloc ?_ _)); exact BK148.out) hb); have n2_ := Aside0.mk (below_step (by repeat (first | (with_reducible first | exact HB.out | apply below_alloc | apply pw_below_drewN | apply below_drew1 | refine below_set ?_ GE148.out) | exact HB.out)) hb); clear HO_13; clear BK148; clear HB; have HO_13 := n0_; have BK148 := n1_; have HB := n2_; clear n0_ n1_ n2_; (try clear hb); (try clear hb2); (try clear hk); (try clear hi)) | (go_at_call 21; (with_reducible refine (remontoirlaw04_works.calls  t163 _ ?side1 A31.out).mono ?_); (case side1 => exact Go.Proofs.YtidnopmjhhmedaaDoor.Ways.below HWays.out (by repeat (first | (with_reducible first | exact HB.out | apply below_alloc | apply pw_below_drewN | apply below_drew1 | refine below_set ?_ GE148.out) | exact HB.out))); rintro e w35 ⟨rfl, hb⟩; have n0_ := Aside0.mk (Kd.V_below (by (with_reducible repeat (first | apply Kd.V_alloc | apply Kd.V_drewN | apply Kd.V_drew)); exact HO_13.out) hb); have n1_ := Aside0.mk (blk_below (g := gb148) (o := .cells #[.int .i64 a0_0, .int .i64 a0_1, .int .i64 a0_2, .int .i64 a0_3, .int .i64 a0_4] 25 (0, 0)) (by (with_reducible repeat (first | refine blk_drewN ?_ _ | refine blk_drew ?_ | refine blk_alloc ?_ _)); exact BK148.out) hb); have n2_ := Aside0.mk (below_step (by repeat (first | (with_reducible first | exact HB.out | apply below_alloc | apply pw_below_drewN | apply below_drew1 | refine below_set ?_ GE148.out) | exact HB.out)) hb); clear HO_13; clear BK148; clear HB; have HO_13 := n0_; have BK148 := n1_; have HB := n2_; clear n0_ n1_ n2_; (try clear hb); (try clear hb2); (try clear hk); (try clear hi)))
                    go_ret
                    exact ⟨by first | rfl | (simp [errW_none, errW_some] <;> rfl) | (simp [*, errW_none, errW_some] <;> rfl), by repeat (first | (with_reducible first | exact HB.out | apply below_alloc | apply pw_below_drewN | apply below_drew1 | refine below_set ?_ GE148.out) | exact HB.out)⟩
                  · rw [if_neg c30] at H
                    have c30b0 : ((t157.length : Int) == t155) = false := beq_eq_false_iff_ne.mpr c30
                    have c30b1 : ((t157.length : Int) != t155) = true := bne_iff_ne.mpr c30
                    obtain rfl := Option.some.inj H
                    have hcz36_0 : wc.cell? ⟨gb148, 0, none⟩ = some (.int .i64 a0_0) := (blk_cell BK148.out 0).trans rfl
                    have hcz36_1 : wc.cell? ⟨gb148, 1, none⟩ = some (.int .i64 a0_1) := (blk_cell BK148.out 1).trans rfl
                    have hcz36_2 : wc.cell? ⟨gb148, 2, none⟩ = some (.int .i64 a0_2) := (blk_cell BK148.out 2).trans rfl
                    have hcz36_3 : wc.cell? ⟨gb148, 3, none⟩ = some (.int .i64 a0_3) := (blk_cell BK148.out 3).trans rfl
                    have hcz36_4 : wc.cell? ⟨gb148, 4, none⟩ = some (.int .i64 a0_4) := (blk_cell BK148.out 4).trans rfl
                    have hfz36_0 := blk_frozen BK148.out 0
                    have hfz36_1 := blk_frozen BK148.out 1
                    have hfz36_2 := blk_frozen BK148.out 2
                    have hfz36_3 := blk_frozen BK148.out 3
                    have hfz36_4 := blk_frozen BK148.out 4
                    obtain ⟨Ao37, co37, eo37⟩ := Kd.V_slice HO_13.out
                    subst eo37
                    go_wp2_with (first | ((with_reducible refine gate_callee (f := 17) rfl ?_); refine goesL_ (some 80) rfl rfl Tryd.func17 (by kernel_rfl) rfl #[.agg #[.int .i64 a0_0, .int .i64 a0_1, .int .i64 a0_2, .int .i64 a0_3, .int .i64 a0_4], .int .i64 a1, .slice Ao37 t157.length co37] rfl (by (try simp only [List.map_toArray, List.map_cons, List.map_nil]); first | done | rfl | (simp only [List.length_drop, List.length_take]; rfl)) ?_; (with_reducible refine (remontoirref04_IsPlan.calls kj16 a0_0 a0_1 a0_2 a0_3 a0_4 a1 _ _ t157 true t162 _ ?side1 ?side2 A28.out).mono ?_); (case side1 => repeat (first | exact (Kd.V_reads' HO_13.out).2.2 | (with_reducible refine Kd.C_alloc ?_ _) | (with_reducible refine Kd.C_drewN ?_ _) | (with_reducible refine Kd.C_drew ?_))); (case side2 => exact (Kd.V_reads' HO_13.out).2.1); rintro e w38 ⟨rfl, hb⟩; refine ⟨_, rfl, ?_⟩; have n0_ := Aside0.mk (Kd.V_below (by (with_reducible repeat (first | apply Kd.V_alloc | apply Kd.V_drewN | apply Kd.V_drew)); exact HO_13.out) hb); have n1_ := Aside0.mk (blk_below (g := gb148) (o := .cells #[.int .i64 a0_0, .int .i64 a0_1, .int .i64 a0_2, .int .i64 a0_3, .int .i64 a0_4] 25 (0, 0)) (by (with_reducible repeat (first | refine blk_drewN ?_ _ | refine blk_drew ?_ | refine blk_alloc ?_ _)); exact BK148.out) hb); have n2_ := Aside0.mk (below_step (by repeat (first | (with_reducible first | exact HB.out | apply below_alloc | apply pw_below_drewN | apply below_drew1 | refine below_set ?_ GE148.out) | exact HB.out)) hb); clear HO_13; clear BK148; clear HB; have HO_13 := n0_; have BK148 := n1_; have HB := n2_; clear n0_ n1_ n2_; (try clear hb); (try clear hb2); (try clear hk); (try clear hi)))
                    go_ret
                    exact ⟨by first | rfl | (simp [errW_none, errW_some] <;> rfl) | (simp [*, errW_none, errW_some] <;> rfl), by repeat (first | (with_reducible first | exact HB.out | apply below_alloc | apply pw_below_drewN | apply below_drew1 | refine below_set ?_ GE148.out) | exact HB.out)⟩
                · replace c29 := Bool.eq_false_iff.mpr c29
                  subst c29
                  have H1 : (some false) = some r := by rw [if_neg (show ¬ (false = true) by decide)] at H; exact H
                  clear H
                  have H := H1
                  clear H1
                  obtain rfl := Option.some.inj H
                  have hcz39_0 : wc.cell? ⟨gb148, 0, none⟩ = some (.int .i64 a0_0) := (blk_cell BK148.out 0).trans rfl
                  have hcz39_1 : wc.cell? ⟨gb148, 1, none⟩ = some (.int .i64 a0_1) := (blk_cell BK148.out 1).trans rfl
                  have hcz39_2 : wc.cell? ⟨gb148, 2, none⟩ = some (.int .i64 a0_2) := (blk_cell BK148.out 2).trans rfl
                  have hcz39_3 : wc.cell? ⟨gb148, 3, none⟩ = some (.int .i64 a0_3) := (blk_cell BK148.out 3).trans rfl
                  have hcz39_4 : wc.cell? ⟨gb148, 4, none⟩ = some (.int .i64 a0_4) := (blk_cell BK148.out 4).trans rfl
                  have hfz39_0 := blk_frozen BK148.out 0
                  have hfz39_1 := blk_frozen BK148.out 1
                  have hfz39_2 := blk_frozen BK148.out 2
                  have hfz39_3 := blk_frozen BK148.out 3
                  have hfz39_4 := blk_frozen BK148.out 4
                  obtain ⟨Ao40, co40, eo40⟩ := Kd.V_slice HO_13.out
                  subst eo40
                  go_wp2_with (first | ((with_reducible refine gate_callee (f := 17) rfl ?_); refine goesL_ (some 80) rfl rfl Tryd.func17 (by kernel_rfl) rfl #[.agg #[.int .i64 a0_0, .int .i64 a0_1, .int .i64 a0_2, .int .i64 a0_3, .int .i64 a0_4], .int .i64 a1, .slice Ao40 t157.length co40] rfl (by (try simp only [List.map_toArray, List.map_cons, List.map_nil]); first | done | rfl | (simp only [List.length_drop, List.length_take]; rfl)) ?_; (with_reducible refine (remontoirref04_IsPlan.calls kj16 a0_0 a0_1 a0_2 a0_3 a0_4 a1 _ _ t157 false t162 _ ?side1 ?side2 A28.out).mono ?_); (case side1 => repeat (first | exact (Kd.V_reads' HO_13.out).2.2 | (with_reducible refine Kd.C_alloc ?_ _) | (with_reducible refine Kd.C_drewN ?_ _) | (with_reducible refine Kd.C_drew ?_))); (case side2 => exact (Kd.V_reads' HO_13.out).2.1); rintro e w41 ⟨rfl, hb⟩; refine ⟨_, rfl, ?_⟩; have n0_ := Aside0.mk (Kd.V_below (by (with_reducible repeat (first | apply Kd.V_alloc | apply Kd.V_drewN | apply Kd.V_drew)); exact HO_13.out) hb); have n1_ := Aside0.mk (blk_below (g := gb148) (o := .cells #[.int .i64 a0_0, .int .i64 a0_1, .int .i64 a0_2, .int .i64 a0_3, .int .i64 a0_4] 25 (0, 0)) (by (with_reducible repeat (first | refine blk_drewN ?_ _ | refine blk_drew ?_ | refine blk_alloc ?_ _)); exact BK148.out) hb); have n2_ := Aside0.mk (below_step (by repeat (first | (with_reducible first | exact HB.out | apply below_alloc | apply pw_below_drewN | apply below_drew1 | refine below_set ?_ GE148.out) | exact HB.out)) hb); clear HO_13; clear BK148; clear HB; have HO_13 := n0_; have BK148 := n1_; have HB := n2_; clear n0_ n1_ n2_; (try clear hb); (try clear hb2); (try clear hk); (try clear hi)))
                  go_ret
                  exact ⟨by first | rfl | (simp [errW_none, errW_some] <;> rfl) | (simp [*, errW_none, errW_some] <;> rfl), by repeat (first | (with_reducible first | exact HB.out | apply below_alloc | apply pw_below_drewN | apply below_drew1 | refine below_set ?_ GE148.out) | exact HB.out)⟩
              · rw [if_neg c27] at H
                have c27b0 : (t156 == 0) = false := beq_eq_false_iff_ne.mpr c27
                have c27b1 : (t156 != 0) = true := bne_iff_ne.mpr c27
                by_cases c42 : (t157.length : Int) = 0
                · rw [if_pos c42] at H
                  have c42b0 : ((t157.length : Int) == 0) = true := beq_iff_eq.mpr c42
                  have c42b1 : ((t157.length : Int) != 0) = false := bne_eq_false_iff_eq.mpr c42
                  clear c42
                  replace H := Option.bind_eq_some_iff.mp H
                  obtain ⟨t164, A430, H⟩ := H
                  replace H : (some t164) = some r := H
                  have A43 := Aside0.mk A430
                  clear A430
                  obtain rfl := Option.some.inj H
                  obtain ⟨Ao44, co44, eo44⟩ := Kd.V_slice HO_13.out
                  subst eo44
                  go_wp2_with (first | (go_at_call 21; (with_reducible refine (remontoirlaw04_works.calls  t164 _ ?side1 A43.out).mono ?_); (case side1 => exact Go.Proofs.YtidnopmjhhmedaaDoor.Ways.below HWays.out (by repeat (first | (with_reducible first | exact HB.out | apply below_alloc | apply pw_below_drewN | apply below_drew1 | refine below_set ?_ GE148.out) | exact HB.out))); rintro e w45 ⟨rfl, hb⟩; have n0_ := Aside0.mk (Kd.V_below (by (with_reducible repeat (first | apply Kd.V_alloc | apply Kd.V_drewN | apply Kd.V_drew)); exact HO_13.out) hb); have n1_ := Aside0.mk (blk_below (g := gb148) (o := .cells #[.int .i64 a0_0, .int .i64 a0_1, .int .i64 a0_2, .int .i64 a0_3, .int .i64 a0_4] 25 (0, 0)) (by (with_reducible repeat (first | refine blk_drewN ?_ _ | refine blk_drew ?_ | refine blk_alloc ?_ _)); exact BK148.out) hb); have n2_ := Aside0.mk (below_step (by repeat (first | (with_reducible first | exact HB.out | apply below_alloc | apply pw_below_drewN | apply below_drew1 | refine below_set ?_ GE148.out) | exact HB.out)) hb); clear HO_13; clear BK148; clear HB; have HO_13 := n0_; have BK148 := n1_; have HB := n2_; clear n0_ n1_ n2_; (try clear hb); (try clear hb2); (try clear hk); (try clear hi)))
                  go_ret
                  exact ⟨by first | rfl | (simp [errW_none, errW_some] <;> rfl) | (simp [*, errW_none, errW_some] <;> rfl), by repeat (first | (with_reducible first | exact HB.out | apply below_alloc | apply pw_below_drewN | apply below_drew1 | refine below_set ?_ GE148.out) | exact HB.out)⟩
                · rw [if_neg c42] at H
                  have c42b0 : ((t157.length : Int) == 0) = false := beq_eq_false_iff_ne.mpr c42
                  have c42b1 : ((t157.length : Int) != 0) = true := bne_iff_ne.mpr c42
                  have c42b2 : ¬ (t157 = []) := fun h_ => c42 (by rw [h_]; rfl)
                  obtain rfl := Option.some.inj H
                  obtain ⟨Ao46, co46, eo46⟩ := Kd.V_slice HO_13.out
                  subst eo46
                  go_wp2
                  go_ret
                  exact ⟨by first | rfl | (simp [errW_none, errW_some] <;> rfl) | (simp [*, errW_none, errW_some] <;> rfl), by repeat (first | (with_reducible first | exact HB.out | apply below_alloc | apply pw_below_drewN | apply below_drew1 | refine below_set ?_ GE148.out) | exact HB.out)⟩

end Go.Proofs.TrydX.X
end

section
/- Plain: a plan that is filled up to a level is a plan. -/
set_option linter.unusedSimpArgs false
set_option linter.unusedVariables false
namespace Go.Proofs.YtidnopmjhhmedaaDoor
open Go.RowKit

theorem fewFrom_spec (F S J off : Int) (d : Nat) : ∀ t : Nat, (fewFrom F S J off d t = -1 ∧ ∀ s, t ≤ s → s < t + d → enoughB F S J off s = false) ∨
    ∃ n : Nat, fewFrom F S J off d t = n ∧ t ≤ n ∧ n < t + d ∧ enoughB F S J off n = true ∧ ∀ s, t ≤ s → s < n → enoughB F S J off s = false := by
  induction d with
  | zero => intro t; exact .inl ⟨rfl, fun s h1 h2 => by omega⟩
  | succ d ih =>
    intro t
    by_cases h : enoughB F S J off t = true
    · refine .inr ⟨t, ?_, Nat.le_refl _, by omega, h, fun s h1 h2 => by omega⟩
      simp [fewFrom, h]
    · have hs : fewFrom F S J off (d + 1) t = fewFrom F S J off d (t + 1) := by simp [fewFrom, h]
      rw [hs]
      rcases ih (t + 1) with ⟨h1, h2⟩ | ⟨n, h1, h2, h3, h4, h5⟩
      · refine .inl ⟨h1, fun s h3 h4 => ?_⟩
        rcases Nat.eq_or_lt_of_le h3 with rfl | h6
        · simpa using h
        · exact h2 s h6 (by omega)
      · refine .inr ⟨n, h1, by omega, by omega, h4, fun s h6 h7 => ?_⟩
        rcases Nat.eq_or_lt_of_le h6 with rfl | h8
        · simpa using h
        · exact h5 s h8 h7
theorem fewest_spec (F S J off : Int) : (fewest F S J off = -1 ∧ ∀ s, s ≤ 200 → enoughB F S J off s = false) ∨
    ∃ n : Nat, fewest F S J off = n ∧ n ≤ 200 ∧ enoughB F S J off n = true ∧ ∀ s, s < n → enoughB F S J off s = false := by
  rcases fewFrom_spec F S J off 201 0 with ⟨h1, h2⟩ | ⟨n, h1, h2, h3, h4, h5⟩
  · exact .inl ⟨h1, fun s hs => h2 s (Nat.zero_le _) (by omega)⟩
  · exact .inr ⟨n, h1, by omega, h4, fun s hs => h5 s (Nat.zero_le _) hs⟩

theorem sumL_cons (x : Int) (l : List Int) : sumL (x :: l) = x + sumL l := rfl
/-- How many are above a level. -/
def above (n : Int) (xs : List Int) : Int := ((xs.filter fun m => decide (n < m)).length : Nat)
theorem above_cons (n x : Int) (xs : List Int) : above n (x :: xs) = above n xs + if n < x then 1 else 0 := by
  unfold above
  rw [List.filter_cons]
  by_cases h : n < x <;> simp [h]
theorem above_nn (n : Int) (xs : List Int) : 0 ≤ above n xs := by unfold above; omega
theorem level_succ (n : Int) (xs : List Int) : sumL (levelL (n + 1) xs) = sumL (levelL n xs) + above n xs := by
  induction xs with
  | nil => rfl
  | cons x xs ih =>
    have h1 : levelL (n + 1) (x :: xs) = min (n + 1) x :: levelL (n + 1) xs := rfl
    have h2 : levelL n (x :: xs) = min n x :: levelL n xs := rfl
    rw [h1, h2, sumL_cons, sumL_cons, ih, above_cons]
    by_cases h : n < x
    · rw [if_pos h]; omega
    · rw [if_neg h]; omega
theorem fill_zero (n : Int) (xs : List Int) : ∀ left, left ≤ 0 → fillL n left xs = levelL n xs := by
  induction xs with
  | nil => intro left h; rfl
  | cons m ms ih =>
    intro left h
    simp only [fillL, levelL, List.map_cons]
    rw [if_neg (by omega), ih left h]
    rfl
theorem fill_sum (n : Int) (xs : List Int) : ∀ left, 0 ≤ left → left ≤ above n xs → sumL (fillL n left xs) = sumL (levelL n xs) + left := by
  induction xs with
  | nil => intro left h0 h1; simp [above] at h1; simp [fillL, levelL, sumL]; omega
  | cons m ms ih =>
    intro left h0 h1
    have h2 : levelL n (m :: ms) = min n m :: levelL n ms := rfl
    rw [above_cons] at h1
    by_cases hz : left = 0
    · subst hz
      rw [fill_zero n _ 0 (Int.le_refl _)]; omega
    · simp only [fillL]
      by_cases hm : n < m
      · rw [if_pos hm] at h1
        rw [if_pos ⟨by omega, hm⟩, sumL_cons, ih (left - 1) (by omega) (by omega), h2, sumL_cons]; omega
      · rw [if_neg hm] at h1
        rw [if_neg (by omega), sumL_cons, ih left h0 (by omega), h2, sumL_cons]; omega
theorem level_zero (xs : List Int) (h : ∀ x ∈ xs, 0 ≤ x) : sumL (levelL 0 xs) = 0 := by
  induction xs with
  | nil => rfl
  | cons x xs ih =>
    have h2 : levelL 0 (x :: xs) = min 0 x :: levelL 0 xs := rfl
    rw [h2, sumL_cons, ih fun y hy => h y (by simp [hy])]
    have := h x (by simp)
    omega
theorem level_all (n : Int) (xs : List Int) (h : ∀ x ∈ xs, x ≤ n) : levelL n xs = xs := by
  unfold levelL
  conv => rhs; rw [← List.map_id xs]
  apply List.map_congr_left
  intro x hx
  have := h x hx
  simp; omega
theorem nFrom_spec (want : Int) (xs : List Int) (d : Nat) : ∀ k : Nat, sumL (levelL (k : Int) xs) ≤ want →
    sumL (levelL ((nFrom want xs d k : Nat) : Int) xs) ≤ want ∧ (nFrom want xs d k = k + d ∨ want < sumL (levelL (((nFrom want xs d k : Nat) : Int) + 1) xs)) ∧ k ≤ nFrom want xs d k ∧ nFrom want xs d k ≤ k + d := by
  induction d with
  | zero => intro k h; exact ⟨h, .inl rfl, Nat.le_refl _, Nat.le_refl _⟩
  | succ d ih =>
    intro k h
    simp only [nFrom]
    split
    · rename_i h2
      obtain ⟨h3, h4, h5, h6⟩ := ih (k + 1) (by simpa using h2)
      exact ⟨h3, h4.imp (by omega) id, by omega, by omega⟩
    · rename_i h2
      exact ⟨h, .inr (by omega), Nat.le_refl _, by omega⟩
/-- What is filled adds up to what is wanted. -/
theorem fill_wanted (want : Int) (xs : List Int) (h0 : 0 ≤ want) (h1 : want ≤ sumL xs) (hx : ∀ x ∈ xs, 0 ≤ x ∧ x ≤ 500) :
    sumL (fillL (nLevel want xs) (want - sumL (levelL (nLevel want xs) xs)) xs) = want := by
  obtain ⟨h2, h3, _, _⟩ := nFrom_spec want xs 500 0 (by simpa using (by rw [level_zero xs fun x h => (hx x h).1]; exact h0 : sumL (levelL 0 xs) ≤ want))
  change sumL (levelL ((nLevel want xs : Nat) : Int) xs) ≤ want at h2
  change nLevel want xs = 0 + 500 ∨ want < sumL (levelL (((nLevel want xs : Nat) : Int) + 1) xs) at h3
  rw [fill_sum _ _ _ (by omega)]
  · omega
  · rcases h3 with h3 | h3
    · have h4 : levelL ((nLevel want xs : Nat) : Int) xs = xs := level_all _ _ fun x h => by have := hx x h; omega
      rw [h4] at h2 ⊢
      have := above_nn ((nLevel want xs : Nat) : Int) xs
      omega
    · rw [level_succ] at h3
      omega

/-- Neighbours differ by at most so much; the first one from d. -/
def Steps (J : Int) : Int → List Int → Prop
  | _, [] => True
  | d, x :: l => -J ≤ x - d ∧ x - d ≤ J ∧ Steps J x l
theorem keeps_of {F S J : Int} (l : List Int) : ∀ d, (∀ x ∈ l, -S ≤ x ∧ x ≤ F) → Steps J d l → keepsB F S J d l = true := by
  induction l with
  | nil => intro d _ _; rfl
  | cons x l ih =>
    intro d h1 h2
    simp only [keepsB, Bool.and_eq_true, lies_iff]
    exact ⟨⟨h1 x (by simp), h2.1, h2.2.1⟩, ih x (fun y hy => h1 y (by simp [hy])) h2.2.2⟩
theorem of_keeps {F S J : Int} (l : List Int) : ∀ d, keepsB F S J d l = true → (∀ x ∈ l, -S ≤ x ∧ x ≤ F) ∧ Steps J d l := by
  induction l with
  | nil => intro d _; exact ⟨fun x hx => (List.not_mem_nil hx).elim, trivial⟩
  | cons x l ih =>
    intro d h
    simp only [keepsB, Bool.and_eq_true, lies_iff] at h
    obtain ⟨h1, h2⟩ := ih x h.2
    refine ⟨fun y hy => ?_, h.1.2.1, h.1.2.2, h2⟩
    rcases List.mem_cons.1 hy with e | hy
    · subst e; exact h.1.1
    · exact h1 y hy
/-- What is filled of a list with small steps has small steps; so has it with the other sign. -/
theorem fill_steps {J n : Int} (hJ : 1 ≤ J) (s : Int) (hs : s = 1 ∨ s = -1) (xs : List Int) : ∀ (left d e : Int), Steps J d xs → (e = min n d ∨ e = min (n + 1) d) → Steps J (e * s) ((fillL n left xs).map fun x => x * s) := by
  induction xs with
  | nil => intro left d e _ _; trivial
  | cons m ms ih =>
    intro left d e h he
    obtain ⟨h1, h2, h3⟩ := h
    simp only [fillL]
    split
    · rename_i hc
      have := ih (left - 1) m (min n m + 1) h3 (.inr (by omega))
      refine ⟨?_, ?_, this⟩ <;> rcases hs with rfl | rfl <;> rcases he with rfl | rfl <;> dsimp only <;> omega
    · have := ih left m (min n m) h3 (.inl rfl)
      refine ⟨?_, ?_, this⟩ <;> rcases hs with rfl | rfl <;> rcases he with rfl | rfl <;> dsimp only <;> omega
theorem fill_le {n : Int} (hn : 0 ≤ n) (xs : List Int) : ∀ left, (∀ x ∈ xs, 0 ≤ x) → ∀ (k : Nat) (x : Int), xs[k]? = some x → ∃ y, (fillL n left xs)[k]? = some y ∧ 0 ≤ y ∧ y ≤ x := by
  induction xs with
  | nil => intro left _ k x h; simp at h
  | cons m ms ih =>
    intro left hx k x h
    have hm := hx m (by simp)
    simp only [fillL]
    cases k with
    | zero =>
      simp at h
      subst h
      split
      · exact ⟨_, rfl, by omega, by omega⟩
      · exact ⟨_, rfl, by omega, by omega⟩
    | succ k =>
      simp at h
      split
      · obtain ⟨y, h1, h2⟩ := ih (left - 1) (fun z hz => hx z (by simp [hz])) k x h
        exact ⟨y, by simpa using h1, h2⟩
      · obtain ⟨y, h1, h2⟩ := ih left (fun z hz => hx z (by simp [hz])) k x h
        exact ⟨y, by simpa using h1, h2⟩

/-- Each number and the one before it, by place. -/
theorem steps_of_get {J : Int} (l : List Int) : ∀ d, (∀ x, l[0]? = some x → -J ≤ x - d ∧ x - d ≤ J) → (∀ (k : Nat) x y, l[k]? = some x → l[k + 1]? = some y → -J ≤ y - x ∧ y - x ≤ J) → Steps J d l := by
  induction l with
  | nil => intro d _ _; trivial
  | cons x l ih =>
    intro d h1 h2
    have := h1 x rfl
    refine ⟨this.1, this.2, ih x (fun y hy => h2 0 x y rfl (by simpa using hy)) fun k a b ha hb => h2 (k + 1) a b (by simpa using ha) (by simpa using hb)⟩
theorem caps_get (each J : Int) (t k : Nat) (h : k < t) : (caps each J t)[k]? = some (capAt each J t k) := by
  simp [caps, h]
theorem capAt_step {each J : Int} {t k : Nat} (hJ : 0 ≤ J) : -J ≤ capAt each J t (k + 1) - capAt each J t k ∧ capAt each J t (k + 1) - capAt each J t k ≤ J := by
  unfold capAt
  have h1 : J * (((k + 1 : Nat) : Int) + 1) = J * ((k : Int) + 1) + J := by
    rw [show (((k + 1 : Nat) : Int) + 1) = ((k : Int) + 1) + 1 by omega, Int.mul_add, Int.mul_one]
  have h2 : J * ((t : Int) - ((k + 1 : Nat) : Int)) = J * ((t : Int) - (k : Int)) - J := by
    rw [show ((t : Int) - ((k + 1 : Nat) : Int)) = ((t : Int) - (k : Int)) - 1 by omega, Int.mul_sub, Int.mul_one]
  rw [h1, h2]
  generalize J * ((k : Int) + 1) = a
  generalize J * ((t : Int) - (k : Int)) = b
  omega
theorem caps_steps (each J : Int) (t : Nat) (h0 : 0 ≤ each) (hJ : 1 ≤ J) : Steps J 0 (caps each J t) := by
  refine steps_of_get _ _ (fun x hx => ?_) fun k x y hx hy => ?_
  · have ht : 0 < t := by
      rcases Nat.eq_zero_or_pos t with rfl | h
      · simp [caps] at hx
      · exact h
    rw [caps_get _ _ _ _ ht] at hx
    injection hx with hx
    subst hx
    unfold capAt
    have : 0 ≤ J * ((t : Int) - ((0 : Nat) : Int)) := Int.mul_nonneg (by omega) (by omega)
    simp only [Int.natCast_zero, Int.zero_add, Int.mul_one]
    simp only [Int.natCast_zero] at this
    omega
  · have hk : k + 1 < t := by
      rcases Nat.lt_or_ge (k + 1) t with h | h
      · exact h
      · rw [List.getElem?_eq_none (by simp [caps]; omega)] at hy; cases hy
    rw [caps_get _ _ _ _ (by omega)] at hx
    rw [caps_get _ _ _ _ hk] at hy
    injection hx with hx
    injection hy with hy
    subst hx; subst hy
    exact capAt_step (by omega)
theorem sumL_mul (s : Int) (l : List Int) : sumL (l.map fun x => x * s) = sumL l * s := by
  induction l with
  | nil => simp [sumL]
  | cons x l ih => rw [List.map_cons, sumL_cons, sumL_cons, ih, Int.add_mul]
theorem total_from' (xs : List Int) : ∀ a : Int, (∀ x ∈ xs, -1000 ≤ x ∧ x ≤ 1000) → -1000000000 + 1000 * xs.length ≤ a → a + 1000 * xs.length ≤ 1000000000 → xs.foldl (fun a b => wrap64 (a + b)) a = a + sumL xs := by
  induction xs with
  | nil => intro a h0 h1 h2; simp [sumL]
  | cons x xs ih =>
    intro a h0 h1 h2
    have hx := h0 x (by simp)
    simp only [List.length_cons, Int.natCast_add, Int.natCast_one] at h1 h2
    rw [List.foldl_cons, IntWalk.wrap64_in _ (by constructor <;> omega), ih _ (fun y hy => h0 y (by simp [hy])) (by omega) (by omega), sumL_cons]
    omega
theorem total_is (xs : List Int) (h : ∀ x ∈ xs, -1000 ≤ x ∧ x ≤ 1000) (hl : xs.length ≤ 1000) : total xs = sumL xs := by
  rw [total, total_from' xs 0 h (by omega) (by omega)]; omega

/-- A plan out of the numbers that are the most. -/
theorem plan_is {F S J off s each want : Int} {t : Nat} (hF : 0 ≤ F ∧ F ≤ 500) (hS : 0 ≤ S ∧ S ≤ 500) (hJ : 1 ≤ J) (ht : t ≤ 200)
    (hs : (s = 1 ∧ each = F ∧ want = -off) ∨ (s = -1 ∧ each = S ∧ want = off)) (hw0 : 0 ≤ want) (hw1 : want ≤ capSum each J t) :
    isPlanB F S J off (planOf s want (caps each J t)).length (planOf s want (caps each J t)) = true ∧ (planOf s want (caps each J t)).length = t := by
  have he : 0 ≤ each ∧ each ≤ 500 := by omega
  have hbd := caps_bd (ticks := t) he.1 he.2 hJ
  have hlen : (planOf s want (caps each J t)).length = t := by rw [planOf_length]; simp [caps]
  have hs1 : s = 1 ∨ s = -1 := hs.imp (fun h => h.1) (fun h => h.1)
  have hsum := fill_wanted want (caps each J t) hw0 hw1 hbd
  have hst := fill_steps (n := (nLevel want (caps each J t) : Nat)) hJ s hs1 _ (want - sumL (levelL (nLevel want (caps each J t)) (caps each J t))) 0 0 (caps_steps each J t he.1 hJ) (.inl (by omega))
  have hle := fill_le (n := (nLevel want (caps each J t) : Nat)) (by omega) (caps each J t) (want - sumL (levelL (nLevel want (caps each J t)) (caps each J t))) fun x hx => (hbd x hx).1
  have hlf : (fillL (nLevel want (caps each J t)) (want - sumL (levelL (nLevel want (caps each J t)) (caps each J t))) (caps each J t)).length = t := by rw [fillL_length]; simp [caps]
  rw [Int.zero_mul] at hst
  unfold planOf at hlen ⊢
  generalize fillL (nLevel want (caps each J t)) (want - sumL (levelL (nLevel want (caps each J t)) (caps each J t))) (caps each J t) = ys at *
  have hy : ∀ (k : Nat) y, ys[k]? = some y → 0 ≤ y ∧ y ≤ capAt each J t k := by
    intro k y hk
    have hkt : k < t := by
      rcases Nat.lt_or_ge k ys.length with h | h
      · omega
      · rw [List.getElem?_eq_none h] at hk; cases hk
    obtain ⟨z, h1, h2, h3⟩ := hle k _ (caps_get each J t k hkt)
    rw [h1] at hk
    injection hk with hk
    subst hk
    exact ⟨h2, h3⟩
  have hcap : ∀ k, k < t → capAt each J t k ≤ each ∧ capAt each J t k ≤ J * ((t : Int) - k) := by
    intro k _
    unfold capAt
    omega
  have hym : ∀ y ∈ ys, 0 ≤ y ∧ y ≤ each := by
    intro y hy1
    obtain ⟨k, hk⟩ := List.getElem?_of_mem hy1
    have h1 := hy k y hk
    have hkt : k < t := by
      rcases Nat.lt_or_ge k ys.length with h | h
      · omega
      · rw [List.getElem?_eq_none h] at hk; cases hk
    have h2 := hcap k hkt
    omega
  have hpm : ∀ x ∈ ys.map (fun x => x * s), -S ≤ x ∧ x ≤ F := by
    intro x hx
    obtain ⟨y, h1, rfl⟩ := List.mem_map.1 hx
    have := hym y h1
    rcases hs with ⟨rfl, rfl, _⟩ | ⟨rfl, rfl, _⟩ <;> omega
  refine ⟨?_, hlen⟩
  simp only [isPlanB, Bool.and_eq_true, decide_eq_true_eq]
  refine ⟨⟨⟨by omega, keeps_of _ _ hpm hst⟩, ?_⟩, ?_⟩
  · unfold smoothB
    rw [hlen]
    by_cases h0 : t = 0
    · simp [h0]
    · simp only [h0, decide_false, Bool.false_or, lies_iff]
      have hk : t - 1 < ys.length := by omega
      have h1 := hy (t - 1) ys[t - 1] (List.getElem?_eq_getElem hk)
      have h2 := hcap (t - 1) (by omega)
      rw [show (t : Int) - ((t - 1 : Nat) : Int) = 1 by omega, Int.mul_one] at h2
      rw [List.getElem?_map, List.getElem?_eq_getElem hk]
      simp only [Option.map_some, Option.getD_some]
      rcases hs1 with rfl | rfl <;> omega
  · rw [total_is _ (fun x hx => by have := hpm x hx; omega) (by omega), sumL_mul, hsum]
    rcases hs with ⟨rfl, _, rfl⟩ | ⟨rfl, _, rfl⟩ <;> omega

end Go.Proofs.YtidnopmjhhmedaaDoor
end
