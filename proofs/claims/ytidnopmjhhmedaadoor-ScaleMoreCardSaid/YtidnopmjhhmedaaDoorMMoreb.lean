/- PROVED: ScaleMoreCardSaid, for every input, where the listed variable reads as the program's text lays it. Part 2 of 6: of this session; merged by wip/tools/mkClaim.py. -/
import Derived.Test.YtidnopmjhhmedaaDoorProg
import Derived.Below
import Derived.Deep.Draws
import Derived.Deep.AppendLies
import Derived.Maps.AppendAt
import Derived.OwnWalk
import Derived.Laws.BytesArg
import Derived.Laws.MakeOwn
import Derived.Laws.OwnMore
import Derived.Deep.OwnRows
import Derived.Tactics
import Derived.Lib.ConvBytes
import Derived.Laws.Slices
import Derived.WalkKit
import Derived.KernelRfl
import Derived.RowKit3
import Derived.Deep.LoopGhost
import Derived.Deep.QuietTactic
import Derived.BigQuiet
import Derived.WideLaws
import Derived.Deep.DeepCutAuto
import Derived.Deep.CutBlock
import Derived.Deep.RegionHeld3
import Derived.Laws.Rows
import Derived.Lib.AppendStr
import Derived.ArgAppend
import Derived.Laws.IdiomCopy
import Derived.OrdersHeld
import Derived.Laws.BitsLemmas
import Derived.RowKit
import Derived.Test.YtidnopmjhhmedaaDoorMMorea
import Derived.Test.YtidnopmjhhmedaaDoorRows
import Derived.Deep.Slices
import Derived.ChangeSame
import Derived.OpenShut
import Derived.ProofKit
import Derived.SizedLaws
import Derived.WalkSpells
import Derived.WalkLawsBesides
import Derived.Lib.Hide
import Derived.IntWalk
import Derived.Lib.MinMax
import Derived.Laws.EntriesVeiled
import Derived.OrdersIn
import Derived.RangeFuncNested
import Derived.RangeFuncBound
import Derived.RangeFuncCalls
import Derived.RangeFuncLeaves
import Derived.Shelf.Abstract
import Derived.Shelf.RegionOpen
import Derived.OwnWalkIn
import Derived.TacticsInMore
import Derived.LoopNIn
import Derived.LoopIn
import Derived.LaidMore
import Derived.LaidHandle
import Derived.Handed
import Derived.RangeFuncOwn
import Derived.Laws.StructEq
import Derived.RangeFuncBox
section
-- Written by wip/tools/pr.py (a program of this repo over the kit's print.py).
namespace Go.Proofs.TrydX.X
open Go.RowKit Go.Proofs.YtidnopmjhhmedaaDoorW.PrintWords Go.Proofs.YtidnopmjhhmedaaDoorW.PrintLast Go.Proofs.YtidnopmjhhmedaaDoorW.PrintMore
attribute [local go_sem] max2_int min2_int max_two min_two max_three min_three max_four min_four   -- for this text's walks alone
set_option linter.unusedVariables false
set_option linter.unusedSimpArgs false



def errW : Option Int → Value
  | none => .nilIface
  | some c => .iface 0 (.int .i64 c)
theorem errW_none : errW none = .nilIface := rfl
theorem errW_some (c : Int) : errW (some c) = .iface 0 (.int .i64 c) := rfl

theorem info3 : (Tryd.prog.info? 3).map (fun i => (i.zero, i.size, i.bytes)) = some (some (.int .i64 0), 1, 8) := by kernel_rfl
theorem info71 : (Tryd.prog.info? 71).map (fun i => (i.zero, i.size, i.bytes)) = some (some (.agg #[(.int .i64 0), (.int .i64 0), (.int .i64 0)]), 3, 24) := by kernel_rfl
-- the values' own types
/-! #### struct type 23 -/
structure S23 where
  f0 : Int
  f1 : Int
def z23 : S23 := ⟨(0 : Int), (0 : Int)⟩
def k23 : Kd S23 := Kd.iso (Kd.pair (Kd.int .i64) (Kd.int .i64)) (fun x : S23 => (x.f0, x.f1))
theorem k23_open {w : World} {x : S23} {cs : List Value} (h : k23.K w x cs) : cs = [.int .i64 x.f0, .int .i64 x.f1] := by
  obtain ⟨_, _, rfl, rfl, rfl⟩ := h
  exact rfl
theorem k23_mk (w : World) (x : S23)  : k23.K w x [.int .i64 x.f0, .int .i64 x.f1] := ⟨[.int .i64 x.f0], [.int .i64 x.f1], rfl, rfl, rfl⟩
theorem k23_mkM (w : World) (base : Nat) (ok : Nat → Prop) (x : S23)  : k23.M w base ok x [.int .i64 x.f0, .int .i64 x.f1] := ⟨[.int .i64 x.f0], [.int .i64 x.f1], rfl, rfl, rfl⟩
/-! #### struct type 71 -/
structure S71 where
  f0 : Int
  f1 : S23
def z71 : S71 := ⟨(0 : Int), z23⟩
def k71 : Kd S71 := Kd.iso (Kd.pair (Kd.int .i64) k23) (fun x : S71 => (x.f0, x.f1))
theorem k71_open {w : World} {x : S71} {cs : List Value} (h : k71.K w x cs) : cs = [.int .i64 x.f0, .int .i64 x.f1.f0, .int .i64 x.f1.f1] := by
  obtain ⟨_, _, rfl, rfl, s1⟩ := h
  obtain rfl := k23_open s1
  exact rfl
theorem k71_mk (w : World) (x : S71)  : k71.K w x [.int .i64 x.f0, .int .i64 x.f1.f0, .int .i64 x.f1.f1] := ⟨[.int .i64 x.f0], [.int .i64 x.f1.f0, .int .i64 x.f1.f1], rfl, rfl, (k23_mk w x.f1 )⟩
theorem k71_mkM (w : World) (base : Nat) (ok : Nat → Prop) (x : S71)  : k71.M w base ok x [.int .i64 x.f0, .int .i64 x.f1.f0, .int .i64 x.f1.f1] := ⟨[.int .i64 x.f0], [.int .i64 x.f1.f0, .int .i64 x.f1.f1], rfl, rfl, (k23_mkM w base ok x.f1 )⟩
def rd_T71 (xs : List S71) (i : Int) : S71 := xs.getD i.toNat z71
theorem at_T71 {w : World} {A : Option Addr} {n : Nat} {xs : List S71} (h : Kd.C k71 w A n xs) (i : Int) (h0 : 0 ≤ i) (h1 : i < n) : ∃ ad , A = some ad ∧ w.cell? (ad.add (i.toNat * 3)) = some (.int .i64 (rd_T71 xs i).f0) ∧ w.cell? ⟨(ad.add (i.toNat * 3)).block, (ad.add (i.toNat * 3)).off + 1, none⟩ = some (.int .i64 (rd_T71 xs i).f1.f0) ∧ w.cell? ⟨(ad.add (i.toNat * 3)).block, (ad.add (i.toNat * 3)).off + 2, none⟩ = some (.int .i64 (rd_T71 xs i).f1.f1) := by
  obtain ⟨ad, c, e, _, hK, hc0⟩ := Kd.C_get h z71 i h0 h1
  have hc : ∀ j u, c[j]? = some u → w.cell? (ad.add (i.toNat * 3 + j)) = some u := hc0
  obtain rfl := k71_open hK
  exact ⟨ad, e, hc 0 _ rfl, by rw [← add_field _ _ 1 (by omega)]; exact hc 1 _ rfl, by rw [← add_field _ _ 2 (by omega)]; exact hc 2 _ rfl⟩

end Go.Proofs.TrydX.X
end

section
/- Arguments that are rules, books, looks and arrays of numbers: opened to their cells, with what they lead to. -/
set_option linter.unusedSimpArgs false
set_option linter.unusedVariables false
namespace Go.Proofs.TrydX.X
open Go.ChangeShapes Go.WideShapes Go.RowKit Go.Deep Go.Proofs.YtidnopmjhhmedaaDoorW.PrintWords Go.Proofs.YtidnopmjhhmedaaDoorW.PrintLast

section
variable {H : Type} {enc : TypeId × Value → H} {w : World} {base : Nat} {spare : Nat → Bool} {held : Bool} {fuel : Nat} {cs : List Value} {x : DataW H × List MemPlace}
theorem c3 : Tryd.prog.cellsOf 3 = 1 := by kernel_rfl
theorem c23 : Tryd.prog.cellsOf 23 = 2 := by kernel_rfl
theorem c25 : Tryd.prog.cellsOf 25 = 5 := by kernel_rfl
theorem c44 : Tryd.prog.cellsOf 44 = 8 := by kernel_rfl
theorem c71 : Tryd.prog.cellsOf 71 = 3 := by kernel_rfl
theorem b3 : Tryd.prog.bytesOf 3 = 8 := by kernel_rfl
theorem b71 : Tryd.prog.bytesOf 71 = 24 := by kernel_rfl

abbrev W64 (n : Int) : Prop := (Lit.int .i64 n).wf = true
theorem take_get {l : List Value} {i n : Nat} {v : Value} (h : (l.drop i).take n = [v]) : l[i]? = some v := by
  have h2 := congrArg (fun l : List Value => l[0]?) h
  simp only [List.getElem?_cons_zero] at h2
  rw [List.getElem?_take] at h2
  split at h2
  · rwa [List.getElem?_drop, Nat.add_zero] at h2
  · cases h2
theorem some_of {α : Type} {l : List α} {i n : Nat} (h : l.length = n) (hi : i < n) : ∃ y, l[i]? = some y := ⟨l[i]'(by omega), List.getElem?_eq_getElem (by omega)⟩
theorem len2 {α : Type} {l : List α} (h : l.length = 2) : ∃ v0 v1, l = [v0, v1] := by
  match l, h with
  | [v0, v1], _ => exact ⟨v0, v1, rfl⟩
theorem len3 {α : Type} {l : List α} (h : l.length = 3) : ∃ v0 v1 v2, l = [v0, v1, v2] := by
  match l, h with
  | [v0, v1, v2], _ => exact ⟨v0, v1, v2, rfl⟩
theorem len4 {α : Type} {l : List α} (h : l.length = 4) : ∃ v0 v1 v2 v3, l = [v0, v1, v2, v3] := by
  match l, h with
  | [v0, v1, v2, v3], _ => exact ⟨v0, v1, v2, v3, rfl⟩
theorem len5 {α : Type} {l : List α} (h : l.length = 5) : ∃ v0 v1 v2 v3 v4, l = [v0, v1, v2, v3, v4] := by
  match l, h with
  | [v0, v1, v2, v3, v4], _ => exact ⟨v0, v1, v2, v3, v4, rfl⟩
theorem len8 {α : Type} {l : List α} (h : l.length = 8) : ∃ v0 v1 v2 v3 v4 v5 v6 v7, l = [v0, v1, v2, v3, v4, v5, v6, v7] := by
  match l, h with
  | [v0, v1, v2, v3, v4, v5, v6, v7], _ => exact ⟨v0, v1, v2, v3, v4, v5, v6, v7, rfl⟩
theorem op23 (h : DataW.trod enc Tryd.prog w base spare held fuel 23 cs = some x) : ∃ a b, cs = [.int .i64 a, .int .i64 b] ∧ W64 a ∧ W64 b := by
  obtain ⟨xs, n, _, _, hl, hxl, hf⟩ := DataW.trod_struct Tryd.underlying23 h
  rw [c23] at hl
  obtain ⟨y0, hy0⟩ := some_of hxl (show 0 < 2 by decide)
  obtain ⟨y1, hy1⟩ := some_of hxl (show 1 < 2 by decide)
  obtain ⟨a, ha, _, wa⟩ := DataW.trod_int Tryd.underlying3 ((hf 0 _ rfl).trans hy0)
  obtain ⟨b, hb, _, wb⟩ := DataW.trod_int Tryd.underlying3 ((hf 1 _ rfl).trans hy1)
  have ea := take_get ha
  have eb := take_get hb
  obtain ⟨v0, v1, rfl⟩ := len2 hl
  simp at ea eb
  exact ⟨a, b, by rw [ea, eb], wa, wb⟩
theorem op25 (h : DataW.trod enc Tryd.prog w base spare held fuel 25 cs = some x) : ∃ a b c d e, cs = [.int .i64 a, .int .i64 b, .int .i64 c, .int .i64 d, .int .i64 e] ∧ W64 a ∧ W64 b ∧ W64 c ∧ W64 d ∧ W64 e := by
  obtain ⟨xs, n, _, _, hl, hxl, hf⟩ := DataW.trod_struct Tryd.underlying25 h
  rw [c25] at hl
  obtain ⟨y0, hy0⟩ := some_of hxl (show 0 < 4 by decide)
  obtain ⟨y1, hy1⟩ := some_of hxl (show 1 < 4 by decide)
  obtain ⟨y2, hy2⟩ := some_of hxl (show 2 < 4 by decide)
  obtain ⟨y3, hy3⟩ := some_of hxl (show 3 < 4 by decide)
  obtain ⟨a, ha, _, wa⟩ := DataW.trod_int Tryd.underlying3 ((hf 0 _ rfl).trans hy0)
  obtain ⟨b, hb, _, wb⟩ := DataW.trod_int Tryd.underlying3 ((hf 1 _ rfl).trans hy1)
  obtain ⟨c, hc, _, wc⟩ := DataW.trod_int Tryd.underlying3 ((hf 2 _ rfl).trans hy2)
  obtain ⟨d, e, hde, wd, we⟩ := op23 ((hf 3 _ rfl).trans hy3)
  have ea := take_get ha
  have eb := take_get hb
  have ec := take_get hc
  obtain ⟨v0, v1, v2, v3, v4, rfl⟩ := len5 hl
  simp [c23] at ea eb ec hde
  exact ⟨a, b, c, d, e, by rw [ea, eb, ec, hde.1, hde.2], wa, wb, wc, wd, we⟩
theorem op71 (h : DataW.trod enc Tryd.prog w base spare held fuel 71 cs = some x) : ∃ a b c, cs = [.int .i64 a, .int .i64 b, .int .i64 c] ∧ W64 a ∧ W64 b ∧ W64 c := by
  obtain ⟨xs, n, _, _, hl, hxl, hf⟩ := DataW.trod_struct Tryd.underlying71 h
  rw [c71] at hl
  obtain ⟨y0, hy0⟩ := some_of hxl (show 0 < 2 by decide)
  obtain ⟨y1, hy1⟩ := some_of hxl (show 1 < 2 by decide)
  obtain ⟨a, ha, _, wa⟩ := DataW.trod_int Tryd.underlying3 ((hf 0 _ rfl).trans hy0)
  obtain ⟨b, c, hbc, wb, wc⟩ := op23 ((hf 1 _ rfl).trans hy1)
  have ea := take_get ha
  obtain ⟨v0, v1, v2, rfl⟩ := len3 hl
  simp [c23] at ea hbc
  exact ⟨a, b, c, by rw [ea, hbc.1, hbc.2], wa, wb, wc⟩
/-- A slice of numbers. -/
theorem op26 (h : DataW.trod enc Tryd.prog w base spare held fuel 26 cs = some x) :
    ∃ A c l, cs = [.slice A (List.length l) c] ∧ Kd.C (Kd.int .i64) w A l.length l ∧ l.length ≤ c ∧ (∀ z ∈ l, W64 z) ∧ ((x.1.weights Tryd.prog 26).all (· ≤ reachBytes) = true → l.length ≤ 17592186044416) := by
  rcases open_slice Tryd.underlying26 h with ⟨rfl, rfl⟩ | ⟨a, len, cap, m, n, D, Pl, rfl, hb, hl, hm, hmm, rfl, hi⟩
  · exact ⟨none, 0, [], rfl, Kd.C_nil _ _, Nat.le_refl _, fun z hz => (List.not_mem_nil hz).elim, fun _ => by simp⟩
  · have hlm : len ≤ m := by rw [hmm]; split <;> omega
    have hex : ∀ i, i < len → ∃ z, w.cell? (a.add i) = some (.int .i64 z) ∧ W64 z := by
      intro i hi'
      obtain ⟨cs', hc, ht⟩ := hi i (by omega)
      rw [c3, Nat.mul_one] at hc
      obtain ⟨z, rfl, _, hz⟩ := DataW.trod_int Tryd.underlying3 ht
      obtain ⟨_, _, hat⟩ := World.cells?_some hc
      have := hat 0 (by decide)
      rw [Go.Deep.add_add, Nat.add_zero] at this
      exact ⟨z, this, hz⟩
    let f : Nat → Int := fun i => if hh : i < len then (hex i hh).choose else 0
    have hfs : ∀ i, i < len → w.cell? (a.add i) = some (.int .i64 (f i)) ∧ W64 (f i) := by
      intro i hi'
      have := (hex i hi').choose_spec
      simp only [f, hi', dif_pos]
      exact this
    have hlen : ((List.range len).map f).length = len := by simp
    refine ⟨some a, cap, (List.range len).map f, by rw [hlen], ?_, by rw [hlen]; exact hl, ?_, ?_⟩
    · refine Kd.C_of_reads (d := (0 : Int)) (h1 := fun _ => rfl) ⟨rfl, ?_, fun hn => ⟨a, rfl, fun j hj => ?_⟩⟩
      · rw [hlen]; unfold maxLen at hm; omega
      · rw [hlen] at hj
        have e : ((List.range len).map f).getD j 0 = f j := by simp [List.getD_eq_getElem?_getD, hj]
        rw [e]; exact (hfs j hj).1
    · intro z hz
      obtain ⟨i, hi', rfl⟩ := List.mem_map.1 hz
      exact (hfs i (by simpa using hi')).2
    · intro hw
      rw [hlen]
      have := List.all_eq_true.1 hw ((((List.range len).map D).length + ((List.range (m - len)).map fun j => D (len + j)).length) * Tryd.prog.bytesOf 3) (by simp [DataW.weights, Tryd.underlying26])
      simp only [decide_eq_true_eq, List.length_map, List.length_range, b3, reachBytes] at this
      omega
/-- A slice of looks. -/
theorem op42 (h : DataW.trod enc Tryd.prog w base spare held fuel 42 cs = some x) :
    ∃ A c l, cs = [.slice A (List.length l) c] ∧ Kd.C k71 w A l.length l ∧ l.length ≤ c ∧ (∀ z ∈ l, W64 z.f0 ∧ W64 z.f1.f0 ∧ W64 z.f1.f1) ∧ ((x.1.weights Tryd.prog 42).all (· ≤ reachBytes) = true → l.length ≤ 5864062014805) := by
  rcases open_slice Tryd.underlying42 h with ⟨rfl, rfl⟩ | ⟨a, len, cap, m, n, D, Pl, rfl, hb, hl, hm, hmm, rfl, hi⟩
  · exact ⟨none, 0, [], rfl, Kd.C_nil _ _, Nat.le_refl _, fun z hz => (List.not_mem_nil hz).elim, fun _ => by simp⟩
  · have hlm : len ≤ m := by rw [hmm]; split <;> omega
    have hex : ∀ i, i < len → ∃ z : S71, (∀ j u, [Value.int .i64 z.f0, .int .i64 z.f1.f0, .int .i64 z.f1.f1][j]? = some u → w.cell? (a.add (i * 3 + j)) = some u) ∧ W64 z.f0 ∧ W64 z.f1.f0 ∧ W64 z.f1.f1 := by
      intro i hi'
      obtain ⟨cs', hc, ht⟩ := hi i (by omega)
      rw [c71] at hc
      obtain ⟨t, b, c, rfl, wt, wb, wc⟩ := op71 ht
      obtain ⟨_, _, hat⟩ := World.cells?_some hc
      refine ⟨⟨t, ⟨b, c⟩⟩, fun j u hu => ?_, wt, wb, wc⟩
      have hj : j < 3 := by
        rcases Nat.lt_or_ge j 3 with h | h
        · exact h
        · rw [List.getElem?_eq_none (by simpa using h)] at hu; cases hu
      have := hat j hj
      rw [Go.Deep.add_add] at this
      rw [this]; exact hu
    let f : Nat → S71 := fun i => if hh : i < len then (hex i hh).choose else z71
    have hfs := fun i (hi' : i < len) => (hex i hi').choose_spec
    have hfe : ∀ i (hi' : i < len), f i = (hex i hi').choose := fun i hi' => by simp only [f, hi', dif_pos]
    have hlen : ((List.range len).map f).length = len := by simp
    refine ⟨some a, cap, (List.range len).map f, by rw [hlen], ⟨rfl, ?_, fun hn => ⟨a, rfl, fun j p hj => ?_⟩⟩, by rw [hlen]; exact hl, ?_, ?_⟩
    · rw [hlen]; unfold maxLen at hm; omega
    · have hj' : j < len := by
        rcases Nat.lt_or_ge j len with h | h
        · exact h
        · rw [List.getElem?_eq_none (by rw [hlen]; exact h)] at hj; cases hj
      have hp : f j = p := by simpa [hj'] using hj
      rw [← hp, hfe j hj']
      exact ⟨_, rfl, k71_mk _ _, (hfs j hj').1⟩
    · intro z hz
      obtain ⟨i, hi', rfl⟩ := List.mem_map.1 hz
      have hi2 : i < len := by simpa using hi'
      rw [hfe i hi2]
      exact (hfs i hi2).2
    · intro hw
      rw [hlen]
      have := List.all_eq_true.1 hw ((((List.range len).map D).length + ((List.range (m - len)).map fun j => D (len + j)).length) * Tryd.prog.bytesOf 71) (by simp [DataW.weights, Tryd.underlying42])
      simp only [decide_eq_true_eq, List.length_map, List.length_range, b71, reachBytes] at this
      omega
/-- What a book is: its cells, and what they lead to. -/
structure Book (w : World) (cs : List Value) (a b c d e t : Int) (A6 : Option Addr) (c6 : Nat) (l6 : List Int) (A7 : Option Addr) (c7 : Nat) (l7 : List S71) : Prop where
  cs : cs = [.int .i64 a, .int .i64 b, .int .i64 c, .int .i64 d, .int .i64 e, .int .i64 t, .slice A6 l6.length c6, .slice A7 l7.length c7]
  wf : W64 a ∧ W64 b ∧ W64 c ∧ W64 d ∧ W64 e ∧ W64 t
  r6 : Kd.C (Kd.int .i64) w A6 l6.length l6
  h6 : l6.length ≤ c6
  w6 : ∀ z ∈ l6, W64 z
  r7 : Kd.C k71 w A7 l7.length l7
  h7 : l7.length ≤ c7
  w7 : ∀ z ∈ l7, W64 z.f0 ∧ W64 z.f1.f0 ∧ W64 z.f1.f1
theorem op44 (h : DataW.trod enc Tryd.prog w base spare held fuel 44 cs = some x) :
    ∃ a b c d e t A6 c6 l6 A7 c7 l7, Book w cs a b c d e t A6 c6 l6 A7 c7 l7 ∧ ((x.1.weights Tryd.prog 44).all (· ≤ reachBytes) = true → l6.length ≤ 17592186044416 ∧ l7.length ≤ 5864062014805) := by
  obtain ⟨xs, n, _, hx, hl, hxl, hf⟩ := DataW.trod_struct Tryd.underlying44 h
  rw [c44] at hl
  obtain ⟨y0, hy0⟩ := some_of hxl (show 0 < 4 by decide)
  obtain ⟨y1, hy1⟩ := some_of hxl (show 1 < 4 by decide)
  obtain ⟨y2, hy2⟩ := some_of hxl (show 2 < 4 by decide)
  obtain ⟨y3, hy3⟩ := some_of hxl (show 3 < 4 by decide)
  obtain ⟨a, b, c, d, e, ha, wa⟩ := op25 ((hf 0 _ rfl).trans hy0)
  obtain ⟨t, ht, _, wt⟩ := DataW.trod_int Tryd.underlying3 ((hf 1 _ rfl).trans hy1)
  obtain ⟨A6, c6, l6, h6, r6, n6, w6, s6⟩ := op26 ((hf 2 _ rfl).trans hy2)
  obtain ⟨A7, c7, l7, h7, r7, n7, w7, s7⟩ := op42 ((hf 3 _ rfl).trans hy3)
  have et := take_get ht
  have e6 := take_get h6
  have e7 := take_get h7
  have hxs : xs = [y0, y1, y2, y3] := by
    obtain ⟨z0, z1, z2, z3, rfl⟩ := len4 hxl
    simp at hy0 hy1 hy2 hy3
    rw [hy0, hy1, hy2, hy3]
  refine ⟨a, b, c, d, e, t, A6, c6, l6, A7, c7, l7, ⟨?_, ⟨wa.1, wa.2.1, wa.2.2.1, wa.2.2.2.1, wa.2.2.2.2, wt⟩, r6, n6, w6, r7, n7, w7⟩, ?_⟩
  · obtain ⟨v0, v1, v2, v3, v4, v5, v6, v7, rfl⟩ := len8 hl
    simp [c25] at ha et e6 e7
    obtain ⟨rfl, rfl, rfl, rfl, rfl⟩ := ha
    rw [et, e6, e7]
  · intro hw
    rw [hx, hxs] at hw
    have hw2 := List.all_eq_true.1 hw
    refine ⟨s6 (List.all_eq_true.2 fun z hz => hw2 z ?_), s7 (List.all_eq_true.2 fun z hz => hw2 z ?_)⟩
    · simp only [DataW.weights, Tryd.underlying44, DataW.weightsEach, List.map_cons, List.map_nil, List.mem_append]
      exact .inr (.inr (.inl hz))
    · simp only [DataW.weights, Tryd.underlying44, DataW.weightsEach, List.map_cons, List.map_nil, List.mem_append]
      exact .inr (.inr (.inr (.inl hz)))
end
/-- All cells of a value that is a struct are its own. -/
theorem agg_of {P : Program} {W : World} {r : Reach} {b : Nat} {t : TypeId} {fs : Array Field} {v : Value} (ht : P.underlying t = some (.struct fs)) (hv : Value.okWide P W r b t v) : ∃ cs : List Value, v = .agg cs.toArray ∧ v.cells.toList = cs := by
  obtain ⟨cs, rfl, _⟩ := okWide_struct ht hv
  exact ⟨cs.toList, by simp, rfl⟩
end Go.Proofs.TrydX.X
end

section
/- More arguments opened: arrays of four numbers. -/
set_option linter.unusedSimpArgs false
set_option linter.unusedVariables false
namespace Go.Proofs.TrydX.X
open Go.ChangeShapes Go.WideShapes Go.RowKit Go.Deep Go.Proofs.YtidnopmjhhmedaaDoorW.PrintWords Go.Proofs.YtidnopmjhhmedaaDoorW.PrintLast
section
variable {H : Type} {enc : TypeId × Value → H} {w : World} {base : Nat} {spare : Nat → Bool} {held : Bool} {fuel : Nat} {cs : List Value} {x : DataW H × List MemPlace}
theorem c65 : Tryd.prog.cellsOf 65 = 4 := by kernel_rfl
end
end Go.Proofs.TrydX.X
end

section
/- The contracts of the small functions of package scale that only compute. -/
namespace Go.Proofs.YtidnopmjhhmedaaDoor
open Go.RowKit

def lies (n a b : Int) : Bool := decide (a ≤ n) && decide (n ≤ b)
def isRuleB (F S J L H : Int) : Bool := lies F 0 500 && lies S 0 500 && lies J 1 500 && decide (-100 ≤ L) && decide (L ≤ H) && decide (H ≤ 100)

set_option maxHeartbeats 400000 in
theorem lies_any (n a b : Int) (w : World) :
    Calls Tryd.prog 57 #[.int .i64 n, .int .i64 a, .int .i64 b] w fun e w' => e = .returned (.bool (lies n a b)) ∧ w = w' := by
  go_enter Tryd.func57, Tryd.ntmps57
  go_wp2
  · go_ret
    refine ⟨?_, rfl⟩
    simp [lies, *]
  · go_ret
    refine ⟨?_, rfl⟩
    simp [lies]; omega

set_option maxHeartbeats 400000 in
theorem isOff_any (n : Int) (w : World) :
    Calls Tryd.prog 55 #[.int .i64 n] w fun e w' => e = .returned (.bool (lies n (-20000) 20000)) ∧ w = w' := by
  go_enter Tryd.func55, Tryd.ntmps55
  go_wp2_with (go_at_call 57; refine (lies_any _ _ _ _).mono ?_; rintro e w' ⟨rfl, rfl⟩)
  go_ret
  exact ⟨rfl, rfl⟩

set_option maxHeartbeats 400000 in
theorem isRule_any (F S J L H : Int) (w : World) :
    Calls Tryd.prog 78 #[.agg #[.int .i64 F, .int .i64 S, .int .i64 J, .int .i64 L, .int .i64 H]] w fun e w' => e = .returned (.bool (isRuleB F S J L H)) ∧ Below w.heap.size w w' := by
  go_enter Tryd.func78, Tryd.ntmps78
  go_wp2_with (go_at_call 57; refine (lies_any _ _ _ _).mono ?_; rintro e w' ⟨rfl, rfl⟩)
  all_goals
    go_ret
    refine ⟨?_, (Below.refl _ _).alloc (Nat.le_refl _) _⟩
    simp_all [isRuleB]
  all_goals omega

theorem bcell {W w1 : World} (hb : Below W.heap.size W w1) : (∀ b o, b < W.heap.size → w1.cell? ⟨b, o, none⟩ = W.cell? ⟨b, o, none⟩) ∧ (∀ b o, b < W.heap.size → w1.frozen? ⟨b, o, none⟩ = W.frozen? ⟨b, o, none⟩) :=
  ⟨fun b o h => hb.cell (p := ⟨b, o, none⟩) h, fun b o h => hb.frozen (p := ⟨b, o, none⟩) h⟩

set_option maxHeartbeats 400000 in
theorem opened_bad (F S J L H : Int) (ok : Bool) (w : World) (h : isRuleB F S J L H = false) :
    Calls Tryd.prog 54 #[.agg #[.int .i64 F, .int .i64 S, .int .i64 J, .int .i64 L, .int .i64 H], .bool ok] w fun e w' =>
      e = .returned (.tuple #[.agg #[.int .i64 0, .int .i64 0, .int .i64 0, .int .i64 0, .int .i64 0, .map none], .int .i64 40]) ∧ Below w.heap.size w w' := by
  go_enter Tryd.func54, Tryd.ntmps54
  go_wp2_with (go_at_call 78; refine (isRule_any _ _ _ _ _ _).mono ?_; rintro e w1 ⟨rfl, hb⟩; obtain ⟨hc, hf⟩ := bcell hb; have hz := hb.size; simp at hz)
  refine bodyPost_ret (v := .tuple #[.agg #[.int .i64 0, .int .i64 0, .int .i64 0, .int .i64 0, .int .i64 0, .map none], .int .i64 40]) (by simp [results, Tryd.results54, go_sem, hc]) rfl ⟨rfl, ?_⟩
  repeat (refine Below.setCell ?_ (by simp) _)
  exact (((Below.refl _ _).alloc (Nat.le_refl _) _).alloc (by simp) _).trans (hb.mono (by simp; omega))

set_option maxHeartbeats 400000 in
theorem opened_ask (F S J L H : Int) (w : World) (h : isRuleB F S J L H = true) :
    Calls Tryd.prog 54 #[.agg #[.int .i64 F, .int .i64 S, .int .i64 J, .int .i64 L, .int .i64 H], .bool false] w fun e w' =>
      e = .returned (.tuple #[.agg #[.int .i64 0, .int .i64 0, .int .i64 0, .int .i64 0, .int .i64 0, .map none], .int .i64 41]) ∧ Below w.heap.size w w' := by
  go_enter Tryd.func54, Tryd.ntmps54
  go_wp2_with (go_at_call 78; refine (isRule_any _ _ _ _ _ _).mono ?_; rintro e w1 ⟨rfl, hb⟩; obtain ⟨hc, hf⟩ := bcell hb; have hz := hb.size; simp at hz)
  refine bodyPost_ret (v := .tuple #[.agg #[.int .i64 0, .int .i64 0, .int .i64 0, .int .i64 0, .int .i64 0, .map none], .int .i64 41]) (by simp [results, Tryd.results54, go_sem, hc]) rfl ⟨rfl, ?_⟩
  repeat (refine Below.setCell ?_ (by simp) _)
  exact (((Below.refl _ _).alloc (Nat.le_refl _) _).alloc (by simp) _).trans (hb.mono (by simp; omega))

theorem heap_alloc_last (W : World) (o : Obj) (n : Nat) (h : n = W.heap.size) : (W.alloc o).heap[n]? = some o := by
  subst h; show (W.heap.push o)[W.heap.size]? = some o; rw [Array.getElem?_push_size]

/-- The map behind a rule that has just been opened: new, and empty. -/
def NewMap (w w' : World) (b : Nat) : Prop := Below w.heap.size w w' ∧ w.heap.size ≤ b ∧ w'.heap[b]? = some (.map #[] 0)

set_option maxHeartbeats 400000 in
theorem opened_ok (F S J L H : Int) (w : World) (h : isRuleB F S J L H = true) :
    Calls Tryd.prog 54 #[.agg #[.int .i64 F, .int .i64 S, .int .i64 J, .int .i64 L, .int .i64 H], .bool true] w fun e w' =>
      ∃ b, e = .returned (.tuple #[.agg #[.int .i64 F, .int .i64 S, .int .i64 J, .int .i64 L, .int .i64 H, .map (some b)], .int .i64 0]) ∧ NewMap w w' b := by
  have hmm := @run_makeMap Tryd.prog
  go_enter Tryd.func54, Tryd.ntmps54
  go_wp2_with (go_at_call 78; refine (isRule_any _ _ _ _ _ _).mono ?_; rintro e w1 ⟨rfl, hb⟩; obtain ⟨hc, hf⟩ := bcell hb; have hz := hb.size; simp at hz; have hz1 : w.heap.size + 1 < w1.heap.size := (by omega); have hz2 : w.heap.size < w1.heap.size := (by omega))
  refine bodyPost_ret (v := .tuple #[.agg #[.int .i64 F, .int .i64 S, .int .i64 J, .int .i64 L, .int .i64 H, .map (some w1.heap.size)], .int .i64 0]) (by simp [results, Tryd.results54, go_sem, hc, hz1]) rfl ⟨w1.heap.size, rfl, ?_, by omega, ?_⟩
  · have hB : Below w.heap.size w w1 := (((Below.refl _ _).alloc (Nat.le_refl _) _).alloc (by simp) _).trans (hb.mono (by simp <;> omega))
    repeat with_reducible (first | exact hB | refine Below.setCell ?_ (by simp <;> omega) _ | refine Below.alloc ?_ (by simp <;> omega) _)
  · exact heap_alloc_last _ _ _ (by simp)

end Go.Proofs.YtidnopmjhhmedaaDoor
end

section
/- Functions over a slice of numbers. -/
namespace Go.Proofs.YtidnopmjhhmedaaDoor
open Go.RowKit

/-- The slice value v reads as the numbers xs. -/
def Nums (w : World) (a : Option Addr) (n : Nat) (xs : List Int) : Prop :=
  xs.length = n ∧ n ≤ 17592186044416 ∧ (0 < n → ∃ b o, a = some ⟨b, o, none⟩ ∧ ∀ j, j < n → w.cell? ⟨b, o + j, none⟩ = some (.int .i64 (xs.getD j 0)))

def total (xs : List Int) : Int := xs.foldl (fun a b => wrap64 (a + b)) 0
theorem total_take (xs : List Int) (k : Nat) (h : k < xs.length) : total (xs.take (k + 1)) = wrap64 (total (xs.take k) + xs.getD k 0) := by
  unfold total
  rw [List.take_succ_eq_append_getElem h, List.foldl_append]
  simp [List.getD_eq_getElem?_getD, h]

set_option maxHeartbeats 400000 in
theorem sum_any (a : Option Addr) (n cap : Nat) (xs : List Int) (w : World) (hN : Nums w a n xs) :
    Calls Tryd.prog 58 #[.slice a n cap] w fun e w' => e = .returned (.int .i64 (total xs)) ∧ w = w' := by
  obtain ⟨hl, hm, hc⟩ := hN
  have HL := Lib.hid hl; clear hl
  have HC := Lib.hid hc; clear hc
  go_enter Tryd.func58, Tryd.ntmps58
  go_wp2
  go_loop [3, 5, 8] (fun s _ i => ∃ k : Nat, k ≤ n ∧ i = .int .i64 k ∧ s = .int .i64 (total (xs.take k))) (fun _ _ i => n - (intOf i).toNat)
  case atStart => exact ⟨0, Nat.zero_le _, rfl, rfl⟩
  case round =>
    obtain ⟨k, hk, rfl, rfl⟩ := hrel
    by_cases hlt : k < n
    · obtain ⟨b, o, rfl, hcell⟩ := HC.out (by omega)
      have hck := hcell k hlt
      clear hcell
      have HT := Lib.hid (total_take xs k (by rw [HL.out]; exact hlt))
      go_wp2
      go_round
      case rel => exact ⟨k + 1, by omega, by go_num, by rw [HT.out]; first | rfl | simp⟩
      case measure => simp [intOf]; omega
    · go_wp2
      go_ret
      exact ⟨by rw [List.take_of_length_le (by rw [HL.out]; omega)]; rfl, rfl⟩


/-- Do adjustments keep a rule, when the one before them was last? -/
def keepsB (F S J : Int) : Int → List Int → Bool
  | _, [] => true
  | last, n :: l => lies n (-S) F && lies (n - last) (-J) J && keepsB F S J n l
def lastOf (d : Int) : List Int → Int
  | [] => d
  | n :: l => lastOf n l
theorem keepsB_append (F S J : Int) (l m : List Int) : ∀ d, keepsB F S J d (l ++ m) = (keepsB F S J d l && keepsB F S J (lastOf d l) m) := by
  induction l with
  | nil => intro d; simp [keepsB, lastOf]
  | cons n l ih => intro d; simp [keepsB, lastOf, ih, Bool.and_assoc]
theorem lastOf_append (d : Int) (l : List Int) (n : Int) : lastOf d (l ++ [n]) = n := by
  induction l generalizing d with
  | nil => rfl
  | cons m l ih => simp [lastOf, ih]
theorem lies_iff {n a b : Int} : lies n a b = true ↔ a ≤ n ∧ n ≤ b := by simp [lies]
theorem keepsB_last (F S J : Int) (l : List Int) : ∀ d, keepsB F S J d l = true → lastOf d l = d ∨ (-S ≤ lastOf d l ∧ lastOf d l ≤ F) := by
  induction l with
  | nil => intro d _; exact .inl rfl
  | cons n l ih =>
    intro d h
    simp only [keepsB, Bool.and_eq_true, lies_iff] at h
    rcases ih n h.2 with h' | h'
    · exact .inr (by simp only [lastOf, h']; exact h.1.1)
    · exact .inr (by simp only [lastOf]; exact h')
theorem take_snoc_getD (xs : List Int) (k : Nat) (h : k < xs.length) : xs.take (k + 1) = xs.take k ++ [xs.getD k 0] := by
  rw [List.take_succ_eq_append_getElem h]; simp [List.getD_eq_getElem?_getD, h]
/-- One step of the loop: what is told of k + 1 numbers. -/
theorem keepsB_step (F S J : Int) (xs : List Int) (k : Nat) (h : k < xs.length) (hk : keepsB F S J 0 (xs.take k) = true) :
    keepsB F S J 0 (xs.take (k + 1)) = (lies (xs.getD k 0) (-S) F && lies (xs.getD k 0 - lastOf 0 (xs.take k)) (-J) J) := by
  rw [take_snoc_getD xs k h, keepsB_append, hk]; simp [keepsB]
theorem keepsB_no (F S J : Int) (xs : List Int) (k : Nat) (h : keepsB F S J 0 (xs.take k) = false) : keepsB F S J 0 xs = false := by
  rw [← List.take_append_drop k xs, keepsB_append, h]; rfl

theorem keeps_wrap {F S x d : Int} (hs : 0 ≤ S ∧ S ≤ 500) (hf : 0 ≤ F ∧ F ≤ 500) (hd : -500 ≤ d ∧ d ≤ 500) (h : lies x (-S) F = true) : wrap64 (x - d) = x - d := by
  rw [lies_iff] at h; exact IntWalk.wrap64_in _ (by constructor <;> omega)
theorem keeps_stop1 {F S J : Int} {xs : List Int} {k : Nat} (h : k < xs.length) (hk : keepsB F S J 0 (xs.take k) = true) (h1 : ¬lies (xs[k]?.getD 0) (-S) F = true) : keepsB F S J 0 xs = false := by
  refine keepsB_no F S J xs (k + 1) ?_
  rw [keepsB_step F S J xs k h hk, List.getD_eq_getElem?_getD]
  simp [h1]
theorem keeps_stop2 {F S J : Int} {xs : List Int} {k : Nat} (h : k < xs.length) (hk : keepsB F S J 0 (xs.take k) = true) (hs : 0 ≤ S ∧ S ≤ 500) (hf : 0 ≤ F ∧ F ≤ 500)
    (hd : -500 ≤ lastOf 0 (xs.take k) ∧ lastOf 0 (xs.take k) ≤ 500) (h1 : lies (xs[k]?.getD 0) (-S) F = true) (h2 : (!lies (wrap64 (xs[k]?.getD 0 - lastOf 0 (List.take k xs))) (-J) J) = true) : keepsB F S J 0 xs = false := by
  refine keepsB_no F S J xs (k + 1) ?_
  rw [keepsB_step F S J xs k h hk, List.getD_eq_getElem?_getD, ← keeps_wrap hs hf hd h1]
  simp only [Bool.not_eq_true'] at h2
  rw [h2, Bool.and_false]
theorem keeps_go {F S J : Int} {xs : List Int} {k : Nat} (h : k < xs.length) (hk : keepsB F S J 0 (xs.take k) = true) (hs : 0 ≤ S ∧ S ≤ 500) (hf : 0 ≤ F ∧ F ≤ 500)
    (hd : -500 ≤ lastOf 0 (xs.take k) ∧ lastOf 0 (xs.take k) ≤ 500) (h1 : lies (xs[k]?.getD 0) (-S) F = true) (h2 : (!lies (wrap64 (xs[k]?.getD 0 - lastOf 0 (List.take k xs))) (-J) J) = false) : keepsB F S J 0 (xs.take (k + 1)) = true := by
  rw [keepsB_step F S J xs k h hk, List.getD_eq_getElem?_getD, ← keeps_wrap hs hf hd h1]
  simp only [Bool.not_eq_false'] at h2
  rw [h1, h2]; rfl

set_option maxHeartbeats 1000000 in
theorem keeps_any (F S J L H : Int) (m : Option Nat) (a : Option Addr) (n cap : Nat) (xs : List Int) (w : World) (hN : Nums w a n xs) (hr : isRuleB F S J L H = true) :
    Calls Tryd.prog 56 #[.agg #[.int .i64 F, .int .i64 S, .int .i64 J, .int .i64 L, .int .i64 H, .map m], .slice a n cap] w fun e w' => e = .returned (.bool (keepsB F S J 0 xs)) ∧ Below w.heap.size w w' := by
  obtain ⟨hl, hm, hc⟩ := hN
  simp only [isRuleB, Bool.and_eq_true, lies_iff, decide_eq_true_eq] at hr
  obtain ⟨⟨⟨⟨⟨⟨f0, f1⟩, s0, s1⟩, j0, j1⟩, l0⟩, l1⟩, l2⟩ := hr
  have HL := Lib.hid hl; clear hl
  have HC := Lib.hid hc; clear hc
  go_enter Tryd.func56, Tryd.ntmps56
  go_wp2
  go_loop [4, 5, 7, 10] (fun _ d _ i => ∃ k : Nat, k ≤ n ∧ i = .int .i64 k ∧ d = .int .i64 (lastOf 0 (xs.take k)) ∧ keepsB F S J 0 (xs.take k) = true) (fun _ _ _ i => n - (intOf i).toNat)
  case atStart => exact ⟨0, Nat.zero_le _, rfl, rfl, rfl⟩
  case round =>
    obtain ⟨k, hk, rfl, rfl, hkeep⟩ := hrel
    have hb := keepsB_last F S J (xs.take k) 0 hkeep
    have hd1 : -500 ≤ lastOf 0 (xs.take k) := by omega
    have hd2 : lastOf 0 (xs.take k) ≤ 500 := by omega
    have HK := Lib.hid hkeep; clear hkeep hb
    by_cases hlt : k < n
    · obtain ⟨b, o, rfl, hcell⟩ := HC.out (by omega)
      have hlb : b < w.heap.size := World.block_lt_of_cell? w ⟨b, o + k, none⟩ (hcell k hlt)
      have hck := hcell k hlt
      clear hcell
      have HS := Lib.hid (keepsB_step F S J xs k (by rw [HL.out]; exact hlt) HK.out)
      have HT := Lib.hid (congrArg (lastOf 0) (take_snoc_getD xs k (by rw [HL.out]; exact hlt)))
      go_wp2_with (go_at_call 57; refine (lies_any _ _ _ _).mono ?_; rintro e w' ⟨rfl, rfl⟩)
      · have h1 : lies (xs[k]?.getD 0) (-S) F = true := by assumption
        have h2 : (!lies (wrap64 (xs[k]?.getD 0 - lastOf 0 (List.take k xs))) (-J) J) = true := by assumption
        go_ret
        refine ⟨?_, (Below.refl _ _).alloc (Nat.le_refl _) _⟩
        rw [keeps_stop2 (by rw [HL.out]; exact hlt) HK.out ⟨s0, s1⟩ ⟨f0, f1⟩ ⟨hd1, hd2⟩ h1 h2]; rfl
      · have h1 : lies (xs[k]?.getD 0) (-S) F = true := by assumption
        have h2 : (!lies (wrap64 (xs[k]?.getD 0 - lastOf 0 (List.take k xs))) (-J) J) = false := by assumption
        go_round
        case rel => exact ⟨k + 1, by omega, by go_num, by rw [HT.out, lastOf_append]; simp, keeps_go (by rw [HL.out]; exact hlt) HK.out ⟨s0, s1⟩ ⟨f0, f1⟩ ⟨hd1, hd2⟩ h1 h2⟩
        case measure => simp [intOf]; omega
      · have h1 : ¬lies (xs[k]?.getD 0) (-S) F = true := by assumption
        go_ret
        refine ⟨?_, (Below.refl _ _).alloc (Nat.le_refl _) _⟩
        rw [keeps_stop1 (by rw [HL.out]; exact hlt) HK.out h1]; rfl
    · go_wp2
      go_ret
      refine ⟨?_, (Below.refl _ _).alloc (Nat.le_refl _) _⟩
      rw [← List.take_of_length_le (l := xs) (i := k) (by rw [HL.out]; omega), HK.out]
      rfl

end Go.Proofs.YtidnopmjhhmedaaDoor
end

section
/- Small functions over spans and lists. -/
namespace Go.Proofs.YtidnopmjhhmedaaDoor
open Go.RowKit

set_option maxHeartbeats 400000 in
theorem gain_any (F S J L H : Int) (m : Option Nat) (w : World) :
    Calls Tryd.prog 105 #[.agg #[.int .i64 F, .int .i64 S, .int .i64 J, .int .i64 L, .int .i64 H, .map m]] w fun e w' => e = .returned (.int .i64 F) ∧ Below w.heap.size w w' := by
  go_enter Tryd.func105, Tryd.ntmps105
  go_wp2
  go_ret
  exact ⟨rfl, (Below.refl _ _).alloc (Nat.le_refl _) _⟩

set_option maxHeartbeats 400000 in
theorem lose_any (F S J L H : Int) (m : Option Nat) (w : World) :
    Calls Tryd.prog 107 #[.agg #[.int .i64 F, .int .i64 S, .int .i64 J, .int .i64 L, .int .i64 H, .map m]] w fun e w' => e = .returned (.int .i64 S) ∧ Below w.heap.size w w' := by
  go_enter Tryd.func107, Tryd.ntmps107
  go_wp2
  go_ret
  exact ⟨rfl, (Below.refl _ _).alloc (Nat.le_refl _) _⟩

set_option maxHeartbeats 400000 in
theorem both_any (a b c d : Int) (w : World) :
    Calls Tryd.prog 88 #[.agg #[.int .i64 a, .int .i64 b], .agg #[.int .i64 c, .int .i64 d]] w fun e w' => e = .returned (.agg #[.int .i64 (max a c), .int .i64 (min b d)]) ∧ Below w.heap.size w w' := by
  go_enter Tryd.func88, Tryd.ntmps88
  go_wp2
  refine bodyPost_ret (v := .agg #[.int .i64 (max a c), .int .i64 (min b d)]) (by simp [results, Tryd.results88, go_sem]) rfl ⟨rfl, ?_⟩
  exact (((Below.refl _ _).alloc (Nat.le_refl _) _).alloc (by simp) _).alloc (by simp <;> omega) _

set_option maxHeartbeats 400000 in
theorem low_any (a b : Int) (w : World) :
    Calls Tryd.prog 85 #[.agg #[.int .i64 a, .int .i64 b]] w fun e w' => e = .returned (.int .i64 a) ∧ Below w.heap.size w w' := by
  go_enter Tryd.func85, Tryd.ntmps85
  go_wp2
  go_ret
  exact ⟨rfl, (Below.refl _ _).alloc (Nat.le_refl _) _⟩

set_option maxHeartbeats 400000 in
theorem high_any (a b : Int) (w : World) :
    Calls Tryd.prog 86 #[.agg #[.int .i64 a, .int .i64 b]] w fun e w' => e = .returned (.int .i64 b) ∧ Below w.heap.size w w' := by
  go_enter Tryd.func86, Tryd.ntmps86
  go_wp2
  go_ret
  exact ⟨rfl, (Below.refl _ _).alloc (Nat.le_refl _) _⟩

theorem cell_below {W W1 : World} {p : Addr} {v : Value} (hb : Below W.heap.size W W1) (h : W.cell? p = some v) : W1.cell? p = some v :=
  (hb.cell (World.block_lt_of_cell? W p h)).trans h

theorem stated_held {w W W1 : World} {a b : Int} (h : W.cell? ⟨w.heap.size, 0, none⟩ = some (.int .i64 a) ∧ W.cell? ⟨w.heap.size, 1, none⟩ = some (.int .i64 b) ∧ W.cell? ⟨w.heap.size + 1, 0, none⟩ = some (.func (.func 85) #[] #[]) ∧ W.cell? ⟨w.heap.size + 1 + 1, 0, none⟩ = some (.func (.func 86) #[] #[]) ∧ Below w.heap.size w W) (hb : Below W.heap.size W W1) :
    W1.cell? ⟨w.heap.size, 0, none⟩ = some (.int .i64 a) ∧ W1.cell? ⟨w.heap.size, 1, none⟩ = some (.int .i64 b) ∧ W1.cell? ⟨w.heap.size + 1, 0, none⟩ = some (.func (.func 85) #[] #[]) ∧ W1.cell? ⟨w.heap.size + 1 + 1, 0, none⟩ = some (.func (.func 86) #[] #[]) ∧ Below w.heap.size w W1 :=
  ⟨cell_below hb h.1, cell_below hb h.2.1, cell_below hb h.2.2.1, cell_below hb h.2.2.2.1, h.2.2.2.2.trans (hb.mono h.2.2.2.2.size)⟩

set_option maxHeartbeats 400000 in
theorem stated_any (a b : Int) (w : World) (ha : -1000000 ≤ a) (ha' : a ≤ 1000000) :
    Calls Tryd.prog 74 #[.agg #[.int .i64 a, .int .i64 b]] w fun e w' => e = .returned (.int .i64 (max (-a) b)) ∧ Below w.heap.size w w' := by
  have hwrap : IntKind.i64.wrap (-a) = -a := IntWalk.i64_in _ (by constructor <;> omega)
  have h0 : Below w.heap.size w (((w.alloc (.cells #[.int .i64 a, .int .i64 b] 23)).alloc (.cells #[.func (.func 85) #[] #[]] 115)).alloc (.cells #[.func (.func 86) #[] #[]] 115)).drew :=
    ((((Below.refl _ _).alloc (Nat.le_refl _) _).alloc (by simp) _).alloc (by simp <;> omega) _).drew
  go_enter Tryd.func74, Tryd.ntmps74
  go_wp2
  go_region_held3 (fun W : World => W.cell? ⟨w.heap.size, 0, none⟩ = some (.int .i64 a) ∧ W.cell? ⟨w.heap.size, 1, none⟩ = some (.int .i64 b) ∧ W.cell? ⟨w.heap.size + 1, 0, none⟩ = some (.func (.func 85) #[] #[]) ∧ W.cell? ⟨w.heap.size + 1 + 1, 0, none⟩ = some (.func (.func 86) #[] #[]) ∧ Below w.heap.size w W) (first | (simp [go_sem, h0]; done) | exact stated_held (by assumption) (by assumption) | assumption) (first | (go_at_call 85; refine (low_any _ _ _).mono ?_; rintro e w1 ⟨rfl, hb⟩) | (go_at_call 86; refine (high_any _ _ _).mono ?_; rintro e w1 ⟨rfl, hb⟩))
  go_wp2
  go_ret
  obtain ⟨_, _, _, _, hB⟩ := ‹_ ∧ _ ∧ _ ∧ _ ∧ Below _ _ _›
  exact ⟨rfl, hB⟩

/-- Where a number is in a list: some place, or below 0. -/
def Found (xs : List Int) (v : Int) (w : World) (e : Ending) (w' : World) : Prop := ∃ r : Int, e = .returned (.int .i64 r) ∧ (0 ≤ r ↔ v ∈ xs) ∧ -1 ≤ r ∧ w = w'

set_option maxHeartbeats 400000 in
theorem index_any (a : Option Addr) (n cap : Nat) (xs : List Int) (v : Int) (w : World) (hN : Nums w a n xs) :
    Calls Tryd.prog 87 #[.slice a n cap, .int .i64 v] w (Found xs v w) := by
  obtain ⟨hl, hm, hc⟩ := hN
  have HL := Lib.hid hl; clear hl
  have HC := Lib.hid hc; clear hc
  go_enter Tryd.func87, Tryd.ntmps87
  go_wp2
  go_loop [4, 5, 8] (fun _ _ i => ∃ k : Nat, k ≤ n ∧ i = .int .i64 k ∧ v ∉ xs.take k) (fun _ _ i => n - (intOf i).toNat)
  case atStart => exact ⟨0, Nat.zero_le _, rfl, by simp⟩
  case round =>
    obtain ⟨k, hk, rfl, hno⟩ := hrel
    have HNo := Lib.hid hno; clear hno
    by_cases hlt : k < n
    · obtain ⟨b, o, rfl, hcell⟩ := HC.out (by omega)
      have hck := hcell k hlt
      clear hcell
      have HT := Lib.hid (take_snoc_getD xs k (by rw [HL.out]; exact hlt))
      go_wp2
      · have h1 : (v == xs[k]?.getD 0) = true := by assumption
        go_ret
        refine ⟨k, rfl, ⟨fun _ => ?_, fun _ => by omega⟩, by omega, rfl⟩
        have h2 : k < xs.length := by rw [HL.out]; exact hlt
        have h3 : v = xs[k] := by simpa [h2] using h1
        rw [h3]; exact List.getElem_mem _
      · have h1 : (v == xs[k]?.getD 0) = false := by assumption
        go_round
        case rel =>
          refine ⟨k + 1, by omega, by go_num, ?_⟩
          rw [HT.out]
          have h2 := HNo.out
          simp [h2]
          simpa using h1
        case measure => simp [intOf]; omega
    · go_wp2
      go_ret
      refine ⟨-1, rfl, ⟨fun h => by omega, fun h => ?_⟩, by omega, rfl⟩
      exact absurd (by rw [List.take_of_length_le (by rw [HL.out]; omega)]; exact h) HNo.out

set_option maxHeartbeats 400000 in
theorem contains_any (a : Option Addr) (n cap : Nat) (xs : List Int) (v : Int) (w : World) (hN : Nums w a n xs) :
    Calls Tryd.prog 75 #[.slice a n cap, .int .i64 v] w fun e w' => e = .returned (.bool (decide (v ∈ xs))) ∧ w = w' := by
  go_enter Tryd.func75, Tryd.ntmps75
  go_wp2_with (go_at_call 87; refine (index_any _ _ _ _ _ _ hN).mono ?_; rintro e w' ⟨r, rfl, hr, hr0, rfl⟩)
  go_ret
  exact ⟨by simp, rfl⟩

def maxOf : List Int → Int
  | [] => 0
  | x :: xs => xs.foldl max x
def minOf : List Int → Int
  | [] => 0
  | x :: xs => xs.foldl min x
theorem maxOf_take (xs : List Int) (k : Nat) (h0 : 0 < k) (h : k < xs.length) : maxOf (xs.take (k + 1)) = max (maxOf (xs.take k)) (xs[k]?.getD 0) := by
  rw [take_snoc_getD xs k h]
  cases xs with
  | nil => simp at h
  | cons x xs => obtain ⟨k, rfl⟩ : ∃ m, k = m + 1 := ⟨k - 1, by omega⟩; simp [maxOf, List.getD_eq_getElem?_getD]
theorem minOf_take (xs : List Int) (k : Nat) (h0 : 0 < k) (h : k < xs.length) : minOf (xs.take (k + 1)) = min (minOf (xs.take k)) (xs[k]?.getD 0) := by
  rw [take_snoc_getD xs k h]
  cases xs with
  | nil => simp at h
  | cons x xs => obtain ⟨k, rfl⟩ : ∃ m, k = m + 1 := ⟨k - 1, by omega⟩; simp [minOf, List.getD_eq_getElem?_getD]

set_option maxHeartbeats 400000 in
theorem max_any (a : Option Addr) (n cap : Nat) (xs : List Int) (w : World) (hN : Nums w a n xs) (h1 : 0 < n) :
    Calls Tryd.prog 76 #[.slice a n cap] w fun e w' => e = .returned (.int .i64 (maxOf xs)) ∧ w = w' := by
  obtain ⟨hl, hm, hc⟩ := hN
  obtain ⟨b, o, rfl, hcell⟩ := hc h1
  have hc0 : w.cell? ⟨b, o, none⟩ = some (.int .i64 (xs[0]?.getD 0)) := by simpa [List.getD_eq_getElem?_getD] using hcell 0 h1
  have HC := Lib.hid hcell; clear hcell hc
  have hn1 : ¬ ((n : Int) < 1) := by omega
  have HL := Lib.hid hl; clear hl
  go_enter Tryd.func76, Tryd.ntmps76
  go_wp2
  go_loop [3, 4] (fun m i => ∃ k : Nat, 0 < k ∧ k ≤ n ∧ i = .int .i64 k ∧ m = .int .i64 (maxOf (xs.take k))) (fun _ i => n - (intOf i).toNat)
  case atStart =>
    refine ⟨1, by omega, by omega, rfl, ?_⟩
    have h2 := HL.out
    cases xs with
    | nil => simp at h2; omega
    | cons x xs => simp [maxOf]
  case round =>
    obtain ⟨k, hk0, hk, rfl, rfl⟩ := hrel
    by_cases hlt : k < n
    · have hck := HC.out k hlt
      have HT := Lib.hid (maxOf_take xs k hk0 (by rw [HL.out]; exact hlt))
      go_wp2
      go_round
      case rel => exact ⟨k + 1, by omega, by omega, by go_num, by rw [HT.out]⟩
      case measure => simp [intOf]; omega
    · go_wp2
      go_ret
      exact ⟨by rw [List.take_of_length_le (by rw [HL.out]; omega)]; rfl, rfl⟩

set_option maxHeartbeats 400000 in
theorem min_any (a : Option Addr) (n cap : Nat) (xs : List Int) (w : World) (hN : Nums w a n xs) (h1 : 0 < n) :
    Calls Tryd.prog 77 #[.slice a n cap] w fun e w' => e = .returned (.int .i64 (minOf xs)) ∧ w = w' := by
  obtain ⟨hl, hm, hc⟩ := hN
  obtain ⟨b, o, rfl, hcell⟩ := hc h1
  have hc0 : w.cell? ⟨b, o, none⟩ = some (.int .i64 (xs[0]?.getD 0)) := by simpa [List.getD_eq_getElem?_getD] using hcell 0 h1
  have HC := Lib.hid hcell; clear hcell hc
  have hn1 : ¬ ((n : Int) < 1) := by omega
  have HL := Lib.hid hl; clear hl
  go_enter Tryd.func77, Tryd.ntmps77
  go_wp2
  go_loop [3, 4] (fun m i => ∃ k : Nat, 0 < k ∧ k ≤ n ∧ i = .int .i64 k ∧ m = .int .i64 (minOf (xs.take k))) (fun _ i => n - (intOf i).toNat)
  case atStart =>
    refine ⟨1, by omega, by omega, rfl, ?_⟩
    have h2 := HL.out
    cases xs with
    | nil => simp at h2; omega
    | cons x xs => simp [minOf]
  case round =>
    obtain ⟨k, hk0, hk, rfl, rfl⟩ := hrel
    by_cases hlt : k < n
    · have hck := HC.out k hlt
      have HT := Lib.hid (minOf_take xs k hk0 (by rw [HL.out]; exact hlt))
      go_wp2
      go_round
      case rel => exact ⟨k + 1, by omega, by omega, by go_num, by rw [HT.out]⟩
      case measure => simp [intOf]; omega
    · go_wp2
      go_ret
      exact ⟨by rw [List.take_of_length_le (by rw [HL.out]; omega)]; rfl, rfl⟩

end Go.Proofs.YtidnopmjhhmedaaDoor
end

section
/- A region that draws its order, walked by an invariant over the operations that have been carried out: in a fence. -/
namespace Go.Proofs.YtidnopmjhhmedaaDoor
open Go

/-- The operations that bind an operation: all of them are carried out before it. -/
def preds (md : Region.Mode) (ops : Array Oper) (i : Nat) : List Nat :=
  match ops[i]? with
  | some o => (o.after.toList.filter fun e => Region.binds md e).map fun e => e.on
  | none => []

theorem preds_of_ready {md : Region.Mode} {ops : Array Oper} {listed : Array Bool} {i : Nat} (h : i ∈ Region.ready md ops listed) :
    i < ops.size ∧ listed.getD i true = false ∧ ∀ p ∈ preds md ops i, listed.getD p false = true := by
  unfold Region.ready at h
  rw [List.mem_filter] at h
  obtain ⟨h1, h2⟩ := h
  simp only [Bool.and_eq_true, Bool.not_eq_true'] at h2
  refine ⟨List.mem_range.1 h1, h2.1, ?_⟩
  intro p hp
  unfold preds at hp
  have h3 := h2.2
  cases ho : ops[i]? with
  | none => rw [ho] at hp; cases hp
  | some o =>
    rw [ho] at hp h3
    simp only [Option.map_some, Option.getD_some] at h3
    simp only [List.mem_map, List.mem_filter] at hp
    obtain ⟨e, ⟨he, hb⟩, rfl⟩ := hp
    have h4 := Array.all_eq_true'.1 h3 e (Array.mem_toList_iff.1 he)
    simpa [hb] using h4

/-- What is carried out, all before it is. -/
def Closed (md : Region.Mode) (ops : Array Oper) (listed : Array Bool) : Prop :=
  listed.size = ops.size ∧ ∀ i, listed.getD i false = true → ∀ p ∈ preds md ops i, listed.getD p false = true

theorem getD_set {listed : Array Bool} {i j : Nat} (hi : i < listed.size) : (listed.setIfInBounds i true).getD j false = if j = i then true else listed.getD j false := by
  by_cases h : j = i
  · subst h; simp [hi]
  · rw [if_neg h]; simp only [Array.getD_eq_getD_getElem?]; rw [Array.getElem?_setIfInBounds_ne (Ne.symm h)]

theorem Closed.set {md : Region.Mode} {ops : Array Oper} {listed : Array Bool} {i : Nat} (h : Closed md ops listed) (hi : i ∈ Region.ready md ops listed) : Closed md ops (listed.setIfInBounds i true) := by
  obtain ⟨h1, h2, h3⟩ := preds_of_ready hi
  refine ⟨by simp [h.1], ?_⟩
  intro j hj p hp
  rw [getD_set (by rw [h.1]; exact h1)] at hj ⊢
  split
  · rfl
  · split at hj
    · rename_i e; subst e; exact h3 p hp
    · exact h.2 j hj p hp

def unlisted (listed : Array Bool) : Nat := (listed.toList.filter fun b => !b).length

theorem filter_set_lt (l : List Bool) : ∀ i, l[i]? = some false → ((l.set i true).filter fun b => !b).length < (l.filter fun b => !b).length := by
  induction l with
  | nil => intro i h; simp at h
  | cons b l ih =>
    intro i h
    cases i with
    | zero => simp at h; subst h; simp
    | succ i =>
      simp at h
      have := ih i h
      cases b <;> simp <;> simpa using this

theorem unlisted_set {listed : Array Bool} {i : Nat} (h : listed.getD i true = false) : unlisted (listed.setIfInBounds i true) < unlisted listed := by
  unfold unlisted
  rw [Array.toList_setIfInBounds]
  refine filter_set_lt _ _ ?_
  rw [Array.getElem?_toList]
  rcases Nat.lt_or_ge i listed.size with h' | h'
  · simp [h'] at h ⊢; exact h
  · simp [Array.getElem?_eq_none h'] at h

theorem getD_none_listed (m j : Nat) : (Array.replicate m false).getD j false = false := by
  rcases Nat.lt_or_ge j m with h | h
  · simp [h]
  · simp [h]

section
variable {F : Fence} {n : Nat} {P : Program} {ops : Array Oper} {Q : Exit → Act → World → Prop} {md : Region.Mode}

theorem wpAnyIn_inv (Inv : Array Bool → Act → World → Prop)
    (hstep : ∀ (listed : Array Bool) (a : Act) (w : World) (i : Nat), Closed md ops listed → Inv listed a w → i < ops.size → listed.getD i true = false → (∀ p ∈ preds md ops i, listed.getD p false = true) →
      wpOpIn F n P ops Q i (fun a' w' => Inv (listed.setIfInBounds i true) a' w') a w)
    (hend : ∀ (listed : Array Bool) (a : Act) (w : World), Closed md ops listed → Inv listed a w → Region.ready md ops listed = [] → Q .normal a w) :
    ∀ (fuel : Nat) (listed : Array Bool) (a : Act) (w : World), Closed md ops listed → Inv listed a w → unlisted listed ≤ fuel → wpAnyIn F n P md ops Q fuel listed a w := by
  intro fuel
  induction fuel with
  | zero =>
    intro listed a w hc hi hu
    have hr : Region.ready md ops listed = [] := by
      rw [List.eq_nil_iff_forall_not_mem]
      intro i hir
      have h1 := (preds_of_ready hir).2.1
      have h2 := unlisted_set h1
      omega
    exact ⟨hr, hend _ _ _ hc hi hr⟩
  | succ fuel ih =>
    intro listed a w hc hi hu
    refine ⟨fun hr => hend _ _ _ hc hi hr, fun i hir => ?_⟩
    obtain ⟨h1, h2, h3⟩ := preds_of_ready hir
    have h4 := unlisted_set h2
    exact wpOpIn_mono (fun a' w' h => ih _ a' w' (hc.set hir) h (by omega)) (hstep listed a w i hc hi h1 h2 h3)

theorem ready_nil_all {listed : Array Bool} (hc : Closed md ops listed) (hr : Region.ready md ops listed = []) (hlow : ∀ i, i < ops.size → ∀ p ∈ preds md ops i, p < i) :
    ∀ i, i < ops.size → listed.getD i false = true := by
  intro i
  induction i using Nat.strongRecOn with
  | _ i ih =>
    intro hi
    cases hl : listed.getD i false with
    | true => rfl
    | false =>
      exfalso
      have hmem : i ∈ Region.ready md ops listed := by
        unfold Region.ready
        rw [List.mem_filter]
        refine ⟨List.mem_range.2 hi, ?_⟩
        have h1 : listed.getD i true = false := by
          have : i < listed.size := by rw [hc.1]; exact hi
          simp [this] at hl ⊢; exact hl
        have h2 : ((ops[i]?).map fun o => o.after.all fun e => !Region.binds md e || listed.getD e.on false).getD false = true := by
          have ho : ops[i]? = some ops[i] := Array.getElem?_eq_getElem hi
          rw [ho]
          simp only [Option.map_some, Option.getD_some]
          rw [Array.all_eq_true']
          intro e he
          cases hb : Region.binds md e with
          | false => rfl
          | true =>
            have hp : e.on ∈ preds md ops i := by
              unfold preds
              rw [ho]
              exact List.mem_map.2 ⟨e, List.mem_filter.2 ⟨Array.mem_toList_iff.2 he, hb⟩, rfl⟩
            have hlt := hlow i hi _ hp
            rw [ih _ hlt (by omega)]; rfl
        rw [h1, h2]; rfl
      rw [hr] at hmem; cases hmem

/-- **A REGION THAT DRAWS ITS ORDER, BY AN INVARIANT.** -/
theorem wpIn_region_inv {id : Nat} {a : Act} {w : World} (hm : P.follows .mixedOrders = true) (Inv : Array Bool → Act → World → Prop)
    (hlow : ∀ i, i < ops.size → ∀ p ∈ preds .any ops i, p < i)
    (h0 : Inv (Array.replicate ops.size false) a { w with drawn := w.drawn + 1 })
    (hstep : ∀ (listed : Array Bool) (a : Act) (w : World) (i : Nat), Closed .any ops listed → Inv listed a w → i < ops.size → listed.getD i true = false → (∀ p ∈ preds .any ops i, listed.getD p false = true) →
      wpOpIn F n P ops Q i (fun a' w' => Inv (listed.setIfInBounds i true) a' w') a w)
    (hend : ∀ (listed : Array Bool) (a : Act) (w : World), (∀ i, i < ops.size → listed.getD i false = true) → Inv listed a w → Q .normal a w) :
    (Code.region id ops true).wpIn F n P Q a w := by
  refine wpIn_region_any hm (wpAnyIn_inv Inv hstep (fun listed a w hc hi hr => hend listed a w (ready_nil_all hc hr hlow) hi) _ _ _ _ ⟨by simp, ?_⟩ h0 ?_)
  · intro i hi
    rw [getD_none_listed] at hi
    cases hi
  · unfold unlisted
    refine Nat.le_trans (List.length_filter_le _ _) ?_
    simp
end

end Go.Proofs.YtidnopmjhhmedaaDoor
end

section
/- The iterator of a rule: how much each of some ticks can be steered at most. -/
set_option linter.unusedSimpArgs false
set_option linter.unusedVariables false
namespace Go.Proofs.YtidnopmjhhmedaaDoor
open Go.RowKit
attribute [local go_sem] Oper.semAt_some

/-- How much the tick k of some ticks can be steered at most. -/
def capAt (each J : Int) (ticks k : Nat) : Int := min (min each (J * (k + 1))) (J * ((ticks : Int) - k))
def caps (each J : Int) (ticks : Nat) : List Int := (List.range ticks).map (capAt each J ticks)
def capsTo (each J : Int) (ticks k : Nat) : List Int := (List.range k).map (capAt each J ticks)
theorem capsTo_succ (each J : Int) (ticks k : Nat) : capsTo each J ticks (k + 1) = capsTo each J ticks k ++ [capAt each J ticks k] := by
  simp [capsTo, List.range_succ]

theorem capsTo_prefix (each J : Int) (ticks k : Nat) (h : k ≤ ticks) : capsTo each J ticks k <+: caps each J ticks := by
  unfold capsTo caps
  obtain ⟨d, rfl⟩ : ∃ d, ticks = k + d := ⟨ticks - k, by omega⟩
  rw [List.range_add, List.map_append]
  exact List.prefix_append _ _

/-- The table of the two directions. -/
def Ways (w : World) : Prop := w.cell? ⟨0, 0, none⟩ = some (.func (.func 105) #[] #[]) ∧ w.cell? ⟨0, 1, none⟩ = some (.func (.func 107) #[] #[])
theorem Ways.below {w w' : World} (h : Ways w) (hb : Below w.heap.size w w') : Ways w' := ⟨cell_below hb h.1, cell_below hb h.2⟩

set_option maxHeartbeats 400000 in
theorem most_any (r : Array Value) (t d : Int) (w : World) (hr : r.size = 6) :
    Calls Tryd.prog 65 #[.agg r, .int .i64 t, .int .i64 d] w fun e w' => e = .returned (.func (.func 81) #[] #[.pointer (some ⟨w.heap.size + 1, 0, none⟩), .pointer (some ⟨w.heap.size + 2, 0, none⟩), .pointer (some ⟨w.heap.size, 0, none⟩)]) ∧
      w' = ((w.alloc (.cells r 80)).alloc (.cells #[.int .i64 t] 3)).alloc (.cells #[.int .i64 d] 3) := by
  go_enter Tryd.func65, Tryd.ntmps65
  go_wp2
  go_ret
  exact ⟨rfl, rfl⟩

/-- Some blocks are as they were. -/
structure Kept (St : Nat → Prop) (W W' : World) : Prop where
  size : W.heap.size ≤ W'.heap.size
  block : ∀ k, St k → W'.heap[k]? = W.heap[k]?
theorem Kept.refl (St : Nat → Prop) (W : World) : Kept St W W := ⟨Nat.le_refl _, fun _ _ => rfl⟩
theorem Kept.trans {St : Nat → Prop} {A B C : World} (h : Kept St A B) (k : Kept St B C) : Kept St A C := ⟨Nat.le_trans h.size k.size, fun i hi => (k.block i hi).trans (h.block i hi)⟩
theorem Kept.drew {St : Nat → Prop} {A B : World} (h : Kept St A B) : Kept St A B.drew := ⟨h.size, h.block⟩
theorem Kept.of_below {St : Nat → Prop} {A B : World} {n : Nat} (h : Below n A B) (hS : ∀ k, St k → k < n) : Kept St A B := ⟨h.size, fun k hk => h.block k (hS k hk)⟩
theorem Kept.cell {St : Nat → Prop} {W W' : World} (h : Kept St W W') {p : Addr} (hp : St p.block) : W'.cell? p = W.cell? p := World.cell?_of_block (w := W) (h.block p.block hp)

/-- The value of each slot of the region, by the operation's place. -/
def mval (l B : Nat) (each F S J L H : Int) (m : Option Nat) (ticks way k : Nat) : Nat → Value
  | 0 => .func (.yield l) #[] #[]
  | 1 => .int .i64 way
  | 2 => .pointer (some ⟨0, way, none⟩)
  | 3 => .func (.func (if way = 0 then 105 else 107)) #[] #[]
  | 4 => .agg #[.int .i64 F, .int .i64 S, .int .i64 J, .int .i64 L, .int .i64 H, .map m]
  | 5 => .int .i64 each
  | 6 => .pointer (some ⟨B, 0, none⟩)
  | 7 => .pointer (some ⟨B, 2, none⟩)
  | 8 => .int .i64 J
  | 9 => .int .i64 k
  | 10 => .int .i64 (k + 1)
  | 11 => .int .i64 (J * (k + 1))
  | 12 => .pointer (some ⟨B, 0, none⟩)
  | 13 => .pointer (some ⟨B, 2, none⟩)
  | 14 => .int .i64 J
  | 15 => .int .i64 ticks
  | 16 => .int .i64 k
  | 17 => .int .i64 ((ticks : Int) - k)
  | 18 => .int .i64 (J * ((ticks : Int) - k))
  | _ => .int .i64 (capAt each J ticks k)

def upd (x : Nat → Value) (j : Nat) (v : Value) : Nat → Value := fun k => if k = j then v else x k
theorem upd_ok {x : Nat → Value} {val : Nat → Value} {listed : Array Bool} {i : Nat} {v : Value} (hi : i < listed.size) (hx : ∀ j, j < 20 → listed.getD j false = true → x (10 + j) = val j) (hv : v = val i) :
    ∀ j, j < 20 → (listed.setIfInBounds i true).getD j false = true → upd x (10 + i) v (10 + j) = val j := by
  intro j hj hl
  unfold upd
  by_cases h : j = i
  · subst h; rw [if_pos rfl, hv]
  · rw [if_neg (by omega)]
    rw [getD_set hi, if_neg h] at hl
    exact hx j hj hl
theorem upd_ok' {x : Nat → Value} {val : Nat → Value} {listed : Array Bool} {i : Nat} {v : Value} (hi : i < listed.size) (hi20 : 20 ≤ i) (hx : ∀ j, j < 20 → listed.getD j false = true → x (10 + j) = val j) :
    ∀ j, j < 20 → (listed.setIfInBounds i true).getD j false = true → upd x (10 + i) v (10 + j) = val j := by
  intro j hj hl
  unfold upd
  rw [if_neg (by omega)]
  rw [getD_set hi, if_neg (by omega)] at hl
  exact hx j hj hl

/-- The frame of the iterator's round: the slots of the region are x's. -/
def mact (l B ticks k : Nat) (u : Value) (x : Nat → Value) : Act :=
  { tmps := #[.func (.yield l) #[] #[], .pointer (some ⟨B + 1, 0, none⟩), .pointer (some ⟨B + 2, 0, none⟩), .pointer (some ⟨B, 0, none⟩), undef, .int .i64 k, .int .i64 ticks, .int .i64 k, .bool true, .int .i64 k,
      x 10, x 11, x 12, x 13, x 14, x 15, x 16, x 17, x 18, x 19, x 20, x 21, x 22, x 23, x 24, x 25, x 26, x 27, x 28, x 29, x 30, x 31, u], defers := [] }

/-- What holds between two operations of the region. -/
def MInv (l B ticks k : Nat) (u : Value) (val : Nat → Value) (Go : World → Prop) (Yes No : World → Prop) (listed : Array Bool) (a : Act) (w : World) : Prop :=
  ∃ x : Nat → Value, a = mact l B ticks k u x ∧ (∀ j, j < 20 → listed.getD j false = true → x (10 + j) = val j) ∧
    ((listed.getD 20 false = false ∧ Go w) ∨ (listed.getD 20 false = true ∧ ∃ b : Bool, x 30 = .bool b ∧ (listed.getD 21 false = true → x 31 = .bool (!b)) ∧ ((b = true ∧ Yes w) ∨ (b = false ∧ No w))))

theorem step_val {F : Fence} {n : Nat} {P : Program} {ops : Array Oper} {Q : Exit → Act → World → Prop} {i : Nat} {o : Oper} {v : Value} {a : Act} {w : World} {K : Act → World → Prop}
    (ho : ops[i]? = some o) (hg : o.guard = none) (hab : ∀ f, o.about P w a.eval = some f → F.fn f) (hrun : (o.semAt F.round a.eval).run P w = .ok (.value v) w) (hK : K (a.put o.dst v) w) : wpOpIn F n P ops Q i K a w := by
  unfold wpOpIn
  rw [ho]
  simp only [Region.wanted, hg, if_true, Oper.wpIn, hrun, Oper.uponIn]
  exact ⟨hab, hK⟩

theorem step_call {F : Fence} {n : Nat} {P : Program} {ops : Array Oper} {Q : Exit → Act → World → Prop} {i : Nat} {o : Oper} {f : FuncId} {args : Array Value} {a : Act} {w : World} {K : Act → World → Prop}
    (ho : ops[i]? = some o) (hg : o.guard = none) (hab : ∀ f, o.about P w a.eval = some f → F.fn f) (hrun : (o.semAt F.round a.eval).run P w = .ok (.enter f args) w) (hd : F.depth.isSome = true → 1 ≤ n)
    (hc : CallsIn F (n - 1) P f args w fun e w' => ∃ v, e = .returned v ∧ K (a.put o.dst v) w') : wpOpIn F n P ops Q i K a w := by
  unfold wpOpIn
  rw [ho]
  simp only [Region.wanted, hg, if_true, Oper.wpIn, hrun, Oper.uponIn]
  exact ⟨hab, hd, hc.mono fun e w' h => by obtain ⟨v, rfl, hK⟩ := h; exact hK⟩

theorem step_round {F : Fence} {n : Nat} {P : Program} {ops : Array Oper} {Q : Exit → Act → World → Prop} {i l : Nat} {o : Oper} {args : Array Value} {a : Act} {w : World} {K : Act → World → Prop} {R : Ending → World → Prop}
    (ho : ops[i]? = some o) (hg : o.guard = none) (hab : ∀ f, o.about P w a.eval = some f → F.fn f) (hy : YieldAt F (n - 1) P l args w R)
    (hrun : ∀ fn tmps assign body, (Instr.yield l args).run P w = .ok (.round l fn tmps assign body) w → (o.semAt F.round a.eval).run P w = .ok (.round l fn tmps assign body) w) (hd : F.depth.isSome = true → 1 ≤ n)
    (hR : ∀ e w', R e w' → ∃ v, e = .returned v ∧ K (a.put o.dst v) w') : wpOpIn F n P ops Q i K a w := by
  obtain ⟨fn, tmps, assign, body, h1, h2⟩ := hy
  unfold wpOpIn
  rw [ho]
  simp only [Region.wanted, hg, if_true, Oper.wpIn, hrun _ _ _ _ h1, Oper.uponIn]
  exact ⟨hab, hd, h2.mono fun e w' h => by obtain ⟨v, rfl, hK⟩ := hR e w' h; exact hK⟩

theorem way_cell {w : World} {way : Nat} (h : way = 0 ∨ way = 1) (h0 : w.cell? ⟨0, 0, none⟩ = some (.func (.func 105) #[] #[])) (h1 : w.cell? ⟨0, 1, none⟩ = some (.func (.func 107) #[] #[])) :
    w.cell? ⟨0, way, none⟩ = some (.func (.func (if way = 0 then 105 else 107)) #[] #[]) := by
  rcases h with rfl | rfl
  · exact h0
  · exact h1

theorem min_three_eq (a b c : Int) : (if c < (if b < a then b else a) then c else (if b < a then b else a)) = min (min a b) c := by
  simp only [Int.min_def]
  split <;> split <;> split <;> omega

set_option maxRecDepth 100000 in
set_option maxHeartbeats 1000000 in
theorem most1_in (n l B : Nat) (St : Nat → Prop) (F S J L H : Int) (m : Option Nat) (ticks : Nat) (way : Nat) (each : Int) (hway : way = 0 ∧ each = F ∨ way = 1 ∧ each = S) (ht : ticks ≤ 200) (hr : isRuleB F S J L H = true) (I Ix : List Int → World → Prop)
    (hIa : ∀ xs W W', I xs W → Below W.heap.size W W' → I xs W')
    (hY : ∀ pre x W, I pre W → pre.length < ticks → YieldAt Fence.wide (n - 1) Tryd.prog l #[.int .i64 x] W fun e W' =>
      (e = .returned (.bool true) ∧ I (pre ++ [x]) W' ∧ Kept St W W') ∨ (e = .returned (.bool false) ∧ Ix (pre ++ [x]) W'))
    (W : World) (hw : Ways W) (hS : St 0 ∧ St B ∧ St (B + 1) ∧ St (B + 2)) (hSl : ∀ k, St k → k < W.heap.size) (hg : W.cell? ⟨B, 0, none⟩ = some (.int .i64 F) ∧ W.cell? ⟨B, 1, none⟩ = some (.int .i64 S) ∧ W.cell? ⟨B, 2, none⟩ = some (.int .i64 J) ∧ W.cell? ⟨B, 3, none⟩ = some (.int .i64 L) ∧ W.cell? ⟨B, 4, none⟩ = some (.int .i64 H) ∧ W.cell? ⟨B, 5, none⟩ = some (.map m))
    (h1 : W.cell? ⟨B + 1, 0, none⟩ = some (.int .i64 ticks)) (h2 : W.cell? ⟨B + 2, 0, none⟩ = some (.int .i64 way))
    (h0 : I [] W) :
    CallsIn Fence.wide n Tryd.prog 81 #[.func (.yield l) #[] #[], .pointer (some ⟨B + 1, 0, none⟩), .pointer (some ⟨B + 2, 0, none⟩), .pointer (some ⟨B, 0, none⟩)] W fun e W' => (∃ v, e = .returned v) ∧
      ((∃ ys, ys = caps each J ticks ∧ I ys W') ∨ (∃ pre, pre <+: caps each J ticks ∧ Ix pre W')) := by
  refine callsIn_of_wp Tryd.func81 rfl trivial ?_ rfl
  simp only [Tryd.ntmps81, List.size_toArray, List.length_cons, List.length_nil, Nat.reduceAdd, Nat.reduceSub, Array.replicate_succ, Array.replicate_zero, List.push_toArray, List.append_toArray, List.nil_append, List.cons_append]
  gi_wp2
  gi_loopw [7] (fun i wr => ∃ k : Nat, k ≤ ticks ∧ i = .int .i64 k ∧ I (capsTo each J ticks k) wr ∧ Kept St W wr) (fun i _ => ticks - (intOf i).toNat)
  case atStart => exact ⟨0, Nat.zero_le _, rfl, h0, Kept.refl _ _⟩
  case round =>
    obtain ⟨k, hk, rfl, hI, hB⟩ := hrel
    by_cases hlt : k < ticks
    · gi_wp2
      have hcl : ∀ {w1 : World}, Kept St W w1 → Ways w1 ∧ (w1.cell? ⟨B, 0, none⟩ = some (.int .i64 F) ∧ w1.cell? ⟨B, 1, none⟩ = some (.int .i64 S) ∧ w1.cell? ⟨B, 2, none⟩ = some (.int .i64 J) ∧ w1.cell? ⟨B, 3, none⟩ = some (.int .i64 L) ∧ w1.cell? ⟨B, 4, none⟩ = some (.int .i64 H) ∧ w1.cell? ⟨B, 5, none⟩ = some (.map m)) ∧ w1.cell? ⟨B + 1, 0, none⟩ = some (.int .i64 ticks) ∧ w1.cell? ⟨B + 2, 0, none⟩ = some (.int .i64 way) := fun hb =>
        ⟨⟨(hb.cell (p := ⟨0, 0, none⟩) hS.1).trans hw.1, (hb.cell (p := ⟨0, 1, none⟩) hS.1).trans hw.2⟩,
         ⟨(hb.cell (p := ⟨B, 0, none⟩) hS.2.1).trans hg.1, (hb.cell (p := ⟨B, 1, none⟩) hS.2.1).trans hg.2.1, (hb.cell (p := ⟨B, 2, none⟩) hS.2.1).trans hg.2.2.1, (hb.cell (p := ⟨B, 3, none⟩) hS.2.1).trans hg.2.2.2.1, (hb.cell (p := ⟨B, 4, none⟩) hS.2.1).trans hg.2.2.2.2.1, (hb.cell (p := ⟨B, 5, none⟩) hS.2.1).trans hg.2.2.2.2.2⟩,
         (hb.cell (p := ⟨B + 1, 0, none⟩) hS.2.2.1).trans h1, (hb.cell (p := ⟨B + 2, 0, none⟩) hS.2.2.2).trans h2⟩
      have hkt : (k : Int) < ticks := by omega
      have hwy : ¬ (2 ≤ (way : Int)) := by omega
      have hJ : 1 ≤ J ∧ J ≤ 500 := by simp only [isRuleB, Bool.and_eq_true, lies_iff] at hr; exact hr.1.1.1.2
      have hm0 : ∀ z : Int, 0 ≤ z → z ≤ 201 → 0 ≤ J * z ∧ J * z ≤ 100500 := fun z h1 h2 => ⟨Int.mul_nonneg (by omega) h1, by have := Int.mul_le_mul hJ.2 h2 h1 (by omega); omega⟩
      have hr1 : IntKind.i64.wrap ((k : Int) + 1) = k + 1 := IntWalk.i64_in _ (by constructor <;> omega)
      have hr2 : IntKind.i64.wrap (J * ((k : Int) + 1)) = J * (k + 1) := IntWalk.i64_in _ (by have := hm0 ((k : Int) + 1) (by omega) (by omega); constructor <;> omega)
      have hr3 : IntKind.i64.wrap ((ticks : Int) - k) = ticks - k := IntWalk.i64_in _ (by constructor <;> omega)
      have hr4 : IntKind.i64.wrap (J * ((ticks : Int) - k)) = J * (ticks - k) := IntWalk.i64_in _ (by have := hm0 ((ticks : Int) - k) (by omega) (by omega); constructor <;> omega)
      refine wpIn_region_inv (by rfl) (MInv l B ticks k u32 (mval l B each F S J L H m ticks way k) (fun w1 => I (capsTo each J ticks k) w1 ∧ Kept St W w1)
        (fun w1 => I (capsTo each J ticks (k + 1)) w1 ∧ Kept St W w1) (fun w1 => Ix (capsTo each J ticks (k + 1)) w1)) (by decide) ?inv0 ?step ?fin
      case inv0 => exact ⟨fun j => if j = 10 then u10 else if j = 11 then u11 else if j = 12 then u12 else if j = 13 then u13 else if j = 14 then u14 else if j = 15 then u15 else if j = 16 then u16 else if j = 17 then u17 else if j = 18 then u18 else if j = 19 then u19 else if j = 20 then u20 else if j = 21 then u21 else if j = 22 then u22 else if j = 23 then u23 else if j = 24 then u24 else if j = 25 then u25 else if j = 26 then u26 else if j = 27 then u27 else if j = 28 then u28 else if j = 29 then u29 else if j = 30 then u30 else u31, rfl, (fun j _ h => by rw [getD_none_listed] at h; cases h), .inl ⟨getD_none_listed _ _, hIa _ _ _ hI ((Below.refl _ _).drew), hB.drew⟩⟩
      case fin =>
        rintro listed a w hd ⟨x, rfl, hx, hW⟩
        have q20 := hd 20 (by decide)
        have q21 := hd 21 (by decide)
        rcases hW with ⟨h20, _⟩ | ⟨_, b, hb, hb1, hbb⟩
        · rw [q20] at h20; cases h20
        · have e30 := hb1 q21
          unfold mact
          rw [e30]
          rcases hbb with ⟨rfl, hI2, hB2⟩ | ⟨rfl, hI2⟩
          · gi_wp2
            go_roundw
            case rel => exact ⟨k + 1, by omega, by go_num, hI2, hB2⟩
            case measure => simp [intOf]; omega
          · gi_wp2
            refine bodyPost_ret (results_none rfl _ _ _) rfl ?_
            exact ⟨⟨_, rfl⟩, .inr ⟨_, capsTo_prefix _ _ _ _ (by omega), hI2⟩⟩
      case step =>
        rintro listed a w i hc ⟨x, rfl, hx, hW⟩ hi hl hp
        have hsz : i < listed.size := by rw [hc.1]; exact hi
        have hcases : i = 0 ∨ i = 1 ∨ i = 2 ∨ i = 3 ∨ i = 4 ∨ i = 5 ∨ i = 6 ∨ i = 7 ∨ i = 8 ∨ i = 9 ∨ i = 10 ∨ i = 11 ∨ i = 12 ∨ i = 13 ∨ i = 14 ∨ i = 15 ∨ i = 16 ∨ i = 17 ∨ i = 18 ∨ i = 19 ∨ i = 20 ∨ i = 21 := by
          have : i < 22 := hi
          omega
        have hall : listed.getD 20 false = true → ∀ j, j < 20 → listed.getD j false = true := by
          intro h20
          have q0 := hc.2 20 h20 0 (by decide)
          have q19 := hc.2 20 h20 19 (by decide)
          have q5 := hc.2 20 h20 5 (by decide)
          have q11 := hc.2 19 q19 11 (by decide)
          have q18 := hc.2 19 q19 18 (by decide)
          have q8 := hc.2 11 q11 8 (by decide)
          have q10 := hc.2 11 q11 10 (by decide)
          have q14 := hc.2 18 q18 14 (by decide)
          have q17 := hc.2 18 q18 17 (by decide)
          have q3 := hc.2 5 q5 3 (by decide)
          have q4 := hc.2 5 q5 4 (by decide)
          have q2 := hc.2 3 q3 2 (by decide)
          have q1 := hc.2 2 q2 1 (by decide)
          have q7 := hc.2 8 q8 7 (by decide)
          have q6 := hc.2 7 q7 6 (by decide)
          have q9 := hc.2 10 q10 9 (by decide)
          have q13 := hc.2 14 q14 13 (by decide)
          have q12 := hc.2 13 q13 12 (by decide)
          have q15 := hc.2 17 q17 15 (by decide)
          have q16 := hc.2 17 q17 16 (by decide)
          intro j hj
          have : j = 0 ∨ j = 1 ∨ j = 2 ∨ j = 3 ∨ j = 4 ∨ j = 5 ∨ j = 6 ∨ j = 7 ∨ j = 8 ∨ j = 9 ∨ j = 10 ∨ j = 11 ∨ j = 12 ∨ j = 13 ∨ j = 14 ∨ j = 15 ∨ j = 16 ∨ j = 17 ∨ j = 18 ∨ j = 19 := by omega
          rcases this with rfl | rfl | rfl | rfl | rfl | rfl | rfl | rfl | rfl | rfl | rfl | rfl | rfl | rfl | rfl | rfl | rfl | rfl | rfl | rfl <;> assumption
        have hgo : i < 20 → listed.getD 20 false = false ∧ I (capsTo each J ticks k) w ∧ Kept St W w := by
          intro h20
          rcases hW with hW | ⟨hW, _⟩
          · exact hW
          · have h1 := hall hW i h20
            have h2 : i < listed.size := hsz
            simp [h2] at h1 hl
            rw [h1] at hl; cases hl
        rcases hcases with rfl | rfl | rfl | rfl | rfl | rfl | rfl | rfl | rfl | rfl | rfl | rfl | rfl | rfl | rfl | rfl | rfl | rfl | rfl | rfl | rfl | rfl
        · obtain ⟨h20, hI1, hB1⟩ := hgo (by decide)
          obtain ⟨⟨c0, c1⟩, ⟨g0, g1, g2, g3, g4, g5⟩, t0, t1⟩ := hcl hB1
          have cw := way_cell (hway.imp And.left And.left) c0 c1
          refine step_val (v := mval l B each F S J L H m ticks way k 0) rfl rfl (fun _ _ => trivial) ?_ ⟨upd x (10 + 0) _, rfl, upd_ok hsz hx rfl, .inl ⟨by rw [getD_set hsz]; exact h20, hI1, hB1⟩⟩
          simp [go_sem, mact, mval, cw, g0, g1, g2, g3, g4, g5, t0, t1, hwy, hr1, hr2, hr3, hr4, capAt, min_three_eq]
        · obtain ⟨h20, hI1, hB1⟩ := hgo (by decide)
          obtain ⟨⟨c0, c1⟩, ⟨g0, g1, g2, g3, g4, g5⟩, t0, t1⟩ := hcl hB1
          have cw := way_cell (hway.imp And.left And.left) c0 c1
          refine step_val (v := mval l B each F S J L H m ticks way k 1) rfl rfl (fun _ _ => trivial) ?_ ⟨upd x (10 + 1) _, rfl, upd_ok hsz hx rfl, .inl ⟨by rw [getD_set hsz]; exact h20, hI1, hB1⟩⟩
          simp [go_sem, mact, mval, cw, g0, g1, g2, g3, g4, g5, t0, t1, hwy, hr1, hr2, hr3, hr4, capAt, min_three_eq]
        · have e1 := hx 1 (by decide) (hp 1 (by decide))
          obtain ⟨h20, hI1, hB1⟩ := hgo (by decide)
          obtain ⟨⟨c0, c1⟩, ⟨g0, g1, g2, g3, g4, g5⟩, t0, t1⟩ := hcl hB1
          have cw := way_cell (hway.imp And.left And.left) c0 c1
          refine step_val (v := mval l B each F S J L H m ticks way k 2) rfl rfl (fun _ _ => trivial) ?_ ⟨upd x (10 + 2) _, rfl, upd_ok hsz hx rfl, .inl ⟨by rw [getD_set hsz]; exact h20, hI1, hB1⟩⟩
          simp only [mval] at e1; simp [go_sem, mact, mval, e1, cw, g0, g1, g2, g3, g4, g5, t0, t1, hwy, hr1, hr2, hr3, hr4, capAt, min_three_eq]
        · have e2 := hx 2 (by decide) (hp 2 (by decide))
          obtain ⟨h20, hI1, hB1⟩ := hgo (by decide)
          obtain ⟨⟨c0, c1⟩, ⟨g0, g1, g2, g3, g4, g5⟩, t0, t1⟩ := hcl hB1
          have cw := way_cell (hway.imp And.left And.left) c0 c1
          refine step_val (v := mval l B each F S J L H m ticks way k 3) rfl rfl (fun _ _ => trivial) ?_ ⟨upd x (10 + 3) _, rfl, upd_ok hsz hx rfl, .inl ⟨by rw [getD_set hsz]; exact h20, hI1, hB1⟩⟩
          simp only [mval] at e2; simp [go_sem, mact, mval, e2, cw, g0, g1, g2, g3, g4, g5, t0, t1, hwy, hr1, hr2, hr3, hr4, capAt, min_three_eq]
        · obtain ⟨h20, hI1, hB1⟩ := hgo (by decide)
          obtain ⟨⟨c0, c1⟩, ⟨g0, g1, g2, g3, g4, g5⟩, t0, t1⟩ := hcl hB1
          have cw := way_cell (hway.imp And.left And.left) c0 c1
          refine step_val (v := mval l B each F S J L H m ticks way k 4) rfl rfl (fun _ _ => trivial) ?_ ⟨upd x (10 + 4) _, rfl, upd_ok hsz hx rfl, .inl ⟨by rw [getD_set hsz]; exact h20, hI1, hB1⟩⟩
          simp [go_sem, mact, mval, cw, g0, g1, g2, g3, g4, g5, t0, t1, hwy, hr1, hr2, hr3, hr4, capAt, min_three_eq]
        · have e3 := hx 3 (by decide) (hp 3 (by decide))
          have e4 := hx 4 (by decide) (hp 4 (by decide))
          obtain ⟨h20, hI1, hB1⟩ := hgo (by decide)
          have hcall : CallsIn Fence.wide (n - 1) Tryd.prog (if way = 0 then 105 else 107) #[.agg #[.int .i64 F, .int .i64 S, .int .i64 J, .int .i64 L, .int .i64 H, .map m]] w fun e w' => e = .returned (.int .i64 each) ∧ Below w.heap.size w w' := by
            refine callsIn_wide.2 ?_
            rcases hway with ⟨rfl, rfl⟩ | ⟨rfl, rfl⟩
            · exact gain_any _ _ _ _ _ _ _
            · exact lose_any _ _ _ _ _ _ _
          have hent : ∀ args w1, (callFunc (if way = 0 then 105 else 107) args).run Tryd.prog w1 = .ok (.enter (if way = 0 then 105 else 107) args) w1 := by
            rcases hway with ⟨rfl, rfl⟩ | ⟨rfl, rfl⟩
            · exact enters_of Tryd.func105 (by kernel_rfl) rfl
            · exact enters_of Tryd.func107 (by kernel_rfl) rfl
          refine step_call (f := if way = 0 then 105 else 107) (args := #[.agg #[.int .i64 F, .int .i64 S, .int .i64 J, .int .i64 L, .int .i64 H, .map m]]) rfl rfl (fun _ _ => trivial) ?_ (fun h => by cases h) (hcall.mono ?_)
          · simp only [mval] at e3; simp only [mval] at e4
            simp [go_sem, mact, e3, e4, hent]
          · rintro e w' ⟨rfl, hb⟩
            exact ⟨_, rfl, upd x (10 + 5) _, rfl, upd_ok hsz hx rfl, .inl ⟨by rw [getD_set hsz]; exact h20, hIa _ _ _ hI1 hb, hB1.trans (Kept.of_below hb (fun k hk => Nat.lt_of_lt_of_le (hSl k hk) hB1.size))⟩⟩
        · obtain ⟨h20, hI1, hB1⟩ := hgo (by decide)
          obtain ⟨⟨c0, c1⟩, ⟨g0, g1, g2, g3, g4, g5⟩, t0, t1⟩ := hcl hB1
          have cw := way_cell (hway.imp And.left And.left) c0 c1
          refine step_val (v := mval l B each F S J L H m ticks way k 6) rfl rfl (fun _ _ => trivial) ?_ ⟨upd x (10 + 6) _, rfl, upd_ok hsz hx rfl, .inl ⟨by rw [getD_set hsz]; exact h20, hI1, hB1⟩⟩
          simp [go_sem, mact, mval, cw, g0, g1, g2, g3, g4, g5, t0, t1, hwy, hr1, hr2, hr3, hr4, capAt, min_three_eq]
        · have e6 := hx 6 (by decide) (hp 6 (by decide))
          obtain ⟨h20, hI1, hB1⟩ := hgo (by decide)
          obtain ⟨⟨c0, c1⟩, ⟨g0, g1, g2, g3, g4, g5⟩, t0, t1⟩ := hcl hB1
          have cw := way_cell (hway.imp And.left And.left) c0 c1
          refine step_val (v := mval l B each F S J L H m ticks way k 7) rfl rfl (fun _ _ => trivial) ?_ ⟨upd x (10 + 7) _, rfl, upd_ok hsz hx rfl, .inl ⟨by rw [getD_set hsz]; exact h20, hI1, hB1⟩⟩
          simp only [mval] at e6; simp [go_sem, mact, mval, e6, cw, g0, g1, g2, g3, g4, g5, t0, t1, hwy, hr1, hr2, hr3, hr4, capAt, min_three_eq]
        · have e7 := hx 7 (by decide) (hp 7 (by decide))
          obtain ⟨h20, hI1, hB1⟩ := hgo (by decide)
          obtain ⟨⟨c0, c1⟩, ⟨g0, g1, g2, g3, g4, g5⟩, t0, t1⟩ := hcl hB1
          have cw := way_cell (hway.imp And.left And.left) c0 c1
          refine step_val (v := mval l B each F S J L H m ticks way k 8) rfl rfl (fun _ _ => trivial) ?_ ⟨upd x (10 + 8) _, rfl, upd_ok hsz hx rfl, .inl ⟨by rw [getD_set hsz]; exact h20, hI1, hB1⟩⟩
          simp only [mval] at e7; simp [go_sem, mact, mval, e7, cw, g0, g1, g2, g3, g4, g5, t0, t1, hwy, hr1, hr2, hr3, hr4, capAt, min_three_eq]
        · obtain ⟨h20, hI1, hB1⟩ := hgo (by decide)
          obtain ⟨⟨c0, c1⟩, ⟨g0, g1, g2, g3, g4, g5⟩, t0, t1⟩ := hcl hB1
          have cw := way_cell (hway.imp And.left And.left) c0 c1
          refine step_val (v := mval l B each F S J L H m ticks way k 9) rfl rfl (fun _ _ => trivial) ?_ ⟨upd x (10 + 9) _, rfl, upd_ok hsz hx rfl, .inl ⟨by rw [getD_set hsz]; exact h20, hI1, hB1⟩⟩
          simp [go_sem, mact, mval, cw, g0, g1, g2, g3, g4, g5, t0, t1, hwy, hr1, hr2, hr3, hr4, capAt, min_three_eq]
        · have e9 := hx 9 (by decide) (hp 9 (by decide))
          obtain ⟨h20, hI1, hB1⟩ := hgo (by decide)
          obtain ⟨⟨c0, c1⟩, ⟨g0, g1, g2, g3, g4, g5⟩, t0, t1⟩ := hcl hB1
          have cw := way_cell (hway.imp And.left And.left) c0 c1
          refine step_val (v := mval l B each F S J L H m ticks way k 10) rfl rfl (fun _ _ => trivial) ?_ ⟨upd x (10 + 10) _, rfl, upd_ok hsz hx rfl, .inl ⟨by rw [getD_set hsz]; exact h20, hI1, hB1⟩⟩
          simp only [mval] at e9; simp [go_sem, mact, mval, e9, cw, g0, g1, g2, g3, g4, g5, t0, t1, hwy, hr1, hr2, hr3, hr4, capAt, min_three_eq]
        · have e8 := hx 8 (by decide) (hp 8 (by decide))
          have e10 := hx 10 (by decide) (hp 10 (by decide))
          obtain ⟨h20, hI1, hB1⟩ := hgo (by decide)
          obtain ⟨⟨c0, c1⟩, ⟨g0, g1, g2, g3, g4, g5⟩, t0, t1⟩ := hcl hB1
          have cw := way_cell (hway.imp And.left And.left) c0 c1
          refine step_val (v := mval l B each F S J L H m ticks way k 11) rfl rfl (fun _ _ => trivial) ?_ ⟨upd x (10 + 11) _, rfl, upd_ok hsz hx rfl, .inl ⟨by rw [getD_set hsz]; exact h20, hI1, hB1⟩⟩
          simp only [mval] at e8; simp only [mval] at e10; simp [go_sem, mact, mval, e8, e10, cw, g0, g1, g2, g3, g4, g5, t0, t1, hwy, hr1, hr2, hr3, hr4, capAt, min_three_eq]
        · obtain ⟨h20, hI1, hB1⟩ := hgo (by decide)
          obtain ⟨⟨c0, c1⟩, ⟨g0, g1, g2, g3, g4, g5⟩, t0, t1⟩ := hcl hB1
          have cw := way_cell (hway.imp And.left And.left) c0 c1
          refine step_val (v := mval l B each F S J L H m ticks way k 12) rfl rfl (fun _ _ => trivial) ?_ ⟨upd x (10 + 12) _, rfl, upd_ok hsz hx rfl, .inl ⟨by rw [getD_set hsz]; exact h20, hI1, hB1⟩⟩
          simp [go_sem, mact, mval, cw, g0, g1, g2, g3, g4, g5, t0, t1, hwy, hr1, hr2, hr3, hr4, capAt, min_three_eq]
        · have e12 := hx 12 (by decide) (hp 12 (by decide))
          obtain ⟨h20, hI1, hB1⟩ := hgo (by decide)
          obtain ⟨⟨c0, c1⟩, ⟨g0, g1, g2, g3, g4, g5⟩, t0, t1⟩ := hcl hB1
          have cw := way_cell (hway.imp And.left And.left) c0 c1
          refine step_val (v := mval l B each F S J L H m ticks way k 13) rfl rfl (fun _ _ => trivial) ?_ ⟨upd x (10 + 13) _, rfl, upd_ok hsz hx rfl, .inl ⟨by rw [getD_set hsz]; exact h20, hI1, hB1⟩⟩
          simp only [mval] at e12; simp [go_sem, mact, mval, e12, cw, g0, g1, g2, g3, g4, g5, t0, t1, hwy, hr1, hr2, hr3, hr4, capAt, min_three_eq]
        · have e13 := hx 13 (by decide) (hp 13 (by decide))
          obtain ⟨h20, hI1, hB1⟩ := hgo (by decide)
          obtain ⟨⟨c0, c1⟩, ⟨g0, g1, g2, g3, g4, g5⟩, t0, t1⟩ := hcl hB1
          have cw := way_cell (hway.imp And.left And.left) c0 c1
          refine step_val (v := mval l B each F S J L H m ticks way k 14) rfl rfl (fun _ _ => trivial) ?_ ⟨upd x (10 + 14) _, rfl, upd_ok hsz hx rfl, .inl ⟨by rw [getD_set hsz]; exact h20, hI1, hB1⟩⟩
          simp only [mval] at e13; simp [go_sem, mact, mval, e13, cw, g0, g1, g2, g3, g4, g5, t0, t1, hwy, hr1, hr2, hr3, hr4, capAt, min_three_eq]
        · obtain ⟨h20, hI1, hB1⟩ := hgo (by decide)
          obtain ⟨⟨c0, c1⟩, ⟨g0, g1, g2, g3, g4, g5⟩, t0, t1⟩ := hcl hB1
          have cw := way_cell (hway.imp And.left And.left) c0 c1
          refine step_val (v := mval l B each F S J L H m ticks way k 15) rfl rfl (fun _ _ => trivial) ?_ ⟨upd x (10 + 15) _, rfl, upd_ok hsz hx rfl, .inl ⟨by rw [getD_set hsz]; exact h20, hI1, hB1⟩⟩
          simp [go_sem, mact, mval, cw, g0, g1, g2, g3, g4, g5, t0, t1, hwy, hr1, hr2, hr3, hr4, capAt, min_three_eq]
        · obtain ⟨h20, hI1, hB1⟩ := hgo (by decide)
          obtain ⟨⟨c0, c1⟩, ⟨g0, g1, g2, g3, g4, g5⟩, t0, t1⟩ := hcl hB1
          have cw := way_cell (hway.imp And.left And.left) c0 c1
          refine step_val (v := mval l B each F S J L H m ticks way k 16) rfl rfl (fun _ _ => trivial) ?_ ⟨upd x (10 + 16) _, rfl, upd_ok hsz hx rfl, .inl ⟨by rw [getD_set hsz]; exact h20, hI1, hB1⟩⟩
          simp [go_sem, mact, mval, cw, g0, g1, g2, g3, g4, g5, t0, t1, hwy, hr1, hr2, hr3, hr4, capAt, min_three_eq]
        · have e15 := hx 15 (by decide) (hp 15 (by decide))
          have e16 := hx 16 (by decide) (hp 16 (by decide))
          obtain ⟨h20, hI1, hB1⟩ := hgo (by decide)
          obtain ⟨⟨c0, c1⟩, ⟨g0, g1, g2, g3, g4, g5⟩, t0, t1⟩ := hcl hB1
          have cw := way_cell (hway.imp And.left And.left) c0 c1
          refine step_val (v := mval l B each F S J L H m ticks way k 17) rfl rfl (fun _ _ => trivial) ?_ ⟨upd x (10 + 17) _, rfl, upd_ok hsz hx rfl, .inl ⟨by rw [getD_set hsz]; exact h20, hI1, hB1⟩⟩
          simp only [mval] at e15; simp only [mval] at e16; simp [go_sem, mact, mval, e15, e16, cw, g0, g1, g2, g3, g4, g5, t0, t1, hwy, hr1, hr2, hr3, hr4, capAt, min_three_eq]
        · have e14 := hx 14 (by decide) (hp 14 (by decide))
          have e17 := hx 17 (by decide) (hp 17 (by decide))
          obtain ⟨h20, hI1, hB1⟩ := hgo (by decide)
          obtain ⟨⟨c0, c1⟩, ⟨g0, g1, g2, g3, g4, g5⟩, t0, t1⟩ := hcl hB1
          have cw := way_cell (hway.imp And.left And.left) c0 c1
          refine step_val (v := mval l B each F S J L H m ticks way k 18) rfl rfl (fun _ _ => trivial) ?_ ⟨upd x (10 + 18) _, rfl, upd_ok hsz hx rfl, .inl ⟨by rw [getD_set hsz]; exact h20, hI1, hB1⟩⟩
          simp only [mval] at e14; simp only [mval] at e17; simp [go_sem, mact, mval, e14, e17, cw, g0, g1, g2, g3, g4, g5, t0, t1, hwy, hr1, hr2, hr3, hr4, capAt, min_three_eq]
        · have e5 := hx 5 (by decide) (hp 5 (by decide))
          have e11 := hx 11 (by decide) (hp 11 (by decide))
          have e18 := hx 18 (by decide) (hp 18 (by decide))
          obtain ⟨h20, hI1, hB1⟩ := hgo (by decide)
          obtain ⟨⟨c0, c1⟩, ⟨g0, g1, g2, g3, g4, g5⟩, t0, t1⟩ := hcl hB1
          have cw := way_cell (hway.imp And.left And.left) c0 c1
          refine step_val (v := mval l B each F S J L H m ticks way k 19) rfl rfl (fun _ _ => trivial) ?_ ⟨upd x (10 + 19) _, rfl, upd_ok hsz hx rfl, .inl ⟨by rw [getD_set hsz]; exact h20, hI1, hB1⟩⟩
          simp only [mval] at e5; simp only [mval] at e11; simp only [mval] at e18; simp [go_sem, mact, mval, e5, e11, e18, cw, g0, g1, g2, g3, g4, g5, t0, t1, hwy, hr1, hr2, hr3, hr4, capAt, min_three_eq]
        · have e0 := hx 0 (by decide) (hp 0 (by decide))
          have e19 := hx 19 (by decide) (hp 19 (by decide))
          rcases hW with ⟨h20, hI1, hB1⟩ | ⟨h20, _⟩
          · refine step_round (R := fun e W' => (e = .returned (.bool true) ∧ I (capsTo each J ticks k ++ [capAt each J ticks k]) W' ∧ Kept St w W') ∨ (e = .returned (.bool false) ∧ Ix (capsTo each J ticks k ++ [capAt each J ticks k]) W')) rfl rfl (fun _ _ => trivial) (hY _ (capAt each J ticks k) w hI1 (by simp [capsTo]; exact hlt)) ?_ (fun h => by cases h) ?_
            · intro fn tmps assign body hrun
              simp only [mval] at e0; simp only [mval] at e19
              simp [go_sem, mact, e0, e19, hrun]
            · rw [← capsTo_succ]
              rintro e w' (⟨rfl, hI2, hB2⟩ | ⟨rfl, hI2⟩)
              · exact ⟨_, rfl, upd x 30 (.bool true), rfl, upd_ok' hsz (by decide) hx, .inr ⟨by rw [getD_set hsz]; rfl, true, rfl, fun h => by rw [getD_set hsz, if_neg (by decide)] at h; exact absurd (hc.2 21 h 20 (by decide)) (by rw [h20]; decide), .inl ⟨rfl, hI2, hB1.trans hB2⟩⟩⟩
              · exact ⟨_, rfl, upd x 30 (.bool false), rfl, upd_ok' hsz (by decide) hx, .inr ⟨by rw [getD_set hsz]; rfl, false, rfl, fun h => by rw [getD_set hsz, if_neg (by decide)] at h; exact absurd (hc.2 21 h 20 (by decide)) (by rw [h20]; decide), .inr ⟨rfl, hI2⟩⟩⟩
          · exfalso
            have h2 : 20 < listed.size := hsz
            simp [h2] at h20 hl
            rw [h20] at hl; cases hl
        · have q20 := hp 20 (by decide)
          rcases hW with ⟨h20, _⟩ | ⟨h20, b, hb, _, hbb⟩
          · rw [q20] at h20; cases h20
          · refine step_val (v := .bool (!b)) rfl rfl (fun _ _ => trivial) ?_ ⟨upd x 31 _, rfl, upd_ok' hsz (by decide) hx, .inr ⟨by rw [getD_set hsz]; exact h20, b, hb, fun _ => rfl, hbb⟩⟩
            simp [go_sem, mact, hb]
    · gi_wp2
      go_end0
      obtain rfl : k = ticks := by omega
      exact ⟨⟨_, rfl⟩, .inl ⟨_, rfl, hI⟩⟩

end Go.Proofs.YtidnopmjhhmedaaDoor
end

section
/- What the listed variable gives: the two functions of the table. -/
set_option linter.unusedSimpArgs false
set_option linter.unusedVariables false
namespace Go.Proofs.YtidnopmjhhmedaaDoor
open Go.ChangeShapes Go.WideShapes Go.ChangeAt Go.RowKit

abbrev laid1 {H : Type} : List (String × DataW H) := [("remontoir/scale.ways", Rows.laid_remontoir_scale_ways)]
def gainB : List UInt8 := [40, 114, 101, 109, 111, 110, 116, 111, 105, 114, 47, 115, 99, 97, 108, 101, 46, 114, 117, 108, 101, 41, 46, 103, 97, 105, 110]
def loseB : List UInt8 := [40, 114, 101, 109, 111, 110, 116, 111, 105, 114, 47, 115, 99, 97, 108, 101, 46, 114, 117, 108, 101, 41, 46, 108, 111, 115, 101]
theorem gWays : Tryd.prog.globalNamed "remontoir/scale.ways" = some 0 := by kernel_rfl
noncomputable def named (b : List UInt8) (f : Nat) : Bool := match Tryd.prog.funcs[f]? with
  | some fn => fn.name.toUTF8.data.toList == b
  | none => false
theorem funcs_size : Tryd.prog.funcs.size = 112 := by kernel_rfl
theorem only_gain : ((List.range 112).filter (named gainB)) = [105] := by kernel_rfl
theorem only_lose : ((List.range 112).filter (named loseB)) = [107] := by kernel_rfl
theorem named_of {b : List UInt8} {f g : Nat} (h : named b f = true) (ho : ((List.range 112).filter (named b)) = [g]) : f = g := by
  have hlt : f < 112 := by
    rw [← funcs_size]
    unfold named at h
    cases hf : Tryd.prog.funcs[f]? with
    | none => rw [hf] at h; cases h
    | some fn => exact (Array.getElem?_eq_some_iff.1 hf).1
  have : f ∈ (List.range 112).filter (named b) := List.mem_filter.2 ⟨List.mem_range.2 hlt, h⟩
  rw [ho] at this
  exact List.mem_singleton.1 this
theorem token_is {t : TypeId} {v : Value} {b : List UInt8} (hb : b ≠ []) (h : funcToken Tryd.prog (t, v) = b) : ∃ f, v = .func (.func f) #[] #[] ∧ named b f = true := by
  unfold funcToken at h
  split at h
  · rename_i f first captured heq
    split at h
    · rename_i hc
      simp only [Bool.and_eq_true, Array.isEmpty_iff] at hc
      cases hf : Tryd.prog.funcs[f]? with
      | none => rw [hf] at h; exact absurd h.symm hb
      | some fn =>
        rw [hf] at h
        simp only at h
        split at h
        · refine ⟨f, ?_, by unfold named; rw [hf]; simp only [h, beq_self_eq_true]⟩
          injection heq with _ h2
          rw [h2, hc.1, hc.2]
        · exact absurd h.symm hb
    · exact absurd h.symm hb
  · exact absurd h.symm hb
theorem held_func {P : Program} {H : Type} {enc : TypeId × Value → H} {w : World} {base : Nat} {sp : Nat → Bool} {fuel : Nat} {t : TypeId} {cs : List Value} {x : DataW H × List MemPlace} {y : H} {a b : Array TypeId} {c : Bool} (hu : P.underlying t = some (.func a b c))
    (h : DataW.trod enc P w base sp true fuel t cs = some x) (hx : x.1 = .held y) : ∃ v, cs = [v] ∧ enc (t, v) = y := by
  cases fuel with
  | zero => simp [DataW.trod] at h
  | succ n =>
    unfold DataW.trod at h
    rw [hu] at h
    split at h
    all_goals first
      | (injection h with h; subst h; injection hx with hx; exact ⟨_, rfl, hx⟩)
      | simp_all
      | skip
    all_goals (subst h; simp at hx)
theorem pair_of {α : Type} {l : List α} (h : l.length = 2) : ∃ a b, l = [a, b] := by
  match l, h with
  | [a, b], _ => exact ⟨a, b, rfl⟩
theorem cellsF : Tryd.prog.cellsOf 105 = 1 := by kernel_rfl
/-- What the condition gives the walks. -/
theorem ways_of_laid {W : World} (h : laidMetH Tryd.prog laid1 W) : Ways W := by
  obtain ⟨g, t, cs, fuel, p, hg, ht, hv, hd⟩ := h.funcs (n := "remontoir/scale.ways") (d := .agg [.iface "func" (.lit (.string gainB)), .iface "func" (.lit (.string loseB))]) (List.mem_singleton.2 rfl)
  obtain rfl := Option.some.inj (gWays.symm.trans hg)
  obtain rfl : 106 = t := Option.some.inj ((show (Tryd.prog.globals[0]?).map (·.type) = some 106 by kernel_rfl).symm.trans ht)
  obtain ⟨xs, m, _, hx, hl, hxl, hel⟩ := DataW.trod_array Tryd.underlying106 hd
  have hc2 : Tryd.prog.cellsOf 106 = 2 := by kernel_rfl
  rw [hc2] at hl
  have hout : (DataW.agg [DataW.iface "func" (DataW.lit (Lit.string gainB)), DataW.iface "func" (DataW.lit (Lit.string loseB))] : DataW Unit).funcsOut = .agg [.held gainB, .held loseB] := rfl
  rw [hout] at hx
  obtain ⟨l⟩ := cs
  have h1 := (Prod.mk.inj hx).1
  injection h1 with h1
  obtain ⟨y0, y1, rfl⟩ := pair_of hxl
  obtain ⟨c0, c1, rfl⟩ := pair_of hl
  simp only [List.map_cons, List.map_nil, List.cons.injEq, and_true] at h1
  have e0 := hel 0 (by decide)
  have e1 := hel 1 (by decide)
  simp [cellsF] at e0 e1
  obtain ⟨v0, hv0, t0⟩ := held_func Tryd.underlying105 e0 h1.1.symm
  obtain ⟨v1, hv1, t1⟩ := held_func Tryd.underlying105 e1 h1.2.symm
  obtain rfl : c0 = v0 := by simpa using hv0
  obtain rfl : c1 = v1 := by simpa using hv1
  obtain ⟨f0, rfl, n0⟩ := token_is (by decide) t0
  obtain ⟨f1, rfl, n1⟩ := token_is (by decide) t1
  obtain rfl := named_of n0 only_gain
  obtain rfl := named_of n1 only_lose
  exact ⟨by simpa using World.var?_cell hg hv 0, by simpa using World.var?_cell hg hv 1⟩
/-- The door's own heap meets the condition. -/
theorem door_met (os : Os) (args : Array Value) : laidMetH Tryd.prog laid1 ((World.doorLaid Tryd.prog 400 os).forCall (fun _ _ => 0) ⟨#[], args, []⟩).memory :=
  laidMetH_of_parts3 (fuel := 8) (laidMet_of_run' 8 (by kernel_rfl) (by kernel_rfl)) (by kernel_rfl) (by kernel_rfl)
/-- What is said of the sizes of all arguments, of one. -/
theorem weights_at {P : Program} {H : Type} : ∀ {ts : List TypeId} {ds : List (DataW H)} (_ : (DataW.weightsEach P ts ds).all (· ≤ reachBytes) = true) {j : Nat} {t : TypeId} {d : DataW H}, ts[j]? = some t → ds[j]? = some d → (d.weights P t).all (· ≤ reachBytes) = true
  | [], _, _, _, _, _, h, _ => by cases h
  | _ :: _, [], _, _, _, _, _, h => by cases h
  | t :: ts, d :: ds, h, j, t', d', ht, hd => by
    simp only [DataW.weightsEach, List.all_append, Bool.and_eq_true] at h
    cases j with
    | zero =>
      obtain rfl := Option.some.inj ht
      obtain rfl := Option.some.inj hd
      exact h.1
    | succ j => exact weights_at h.2 (j := j) ht hd
theorem own : ownKnob Tryd.prog.godebug = none := by kernel_rfl
theorem laidOut : laidOutB Tryd.prog = true := by kernel_rfl
end Go.Proofs.YtidnopmjhhmedaaDoor
end

section
/- Short words for the printed walks (wip/tools/press.py writes texts that use them): facts on worlds that are carried along, and steps of a drawn region whose closing lines are always the same. -/
set_option linter.unusedVariables false
namespace Go.Proofs.TrydX.X
open Go.RowKit Go.Proofs.YtidnopmjhhmedaaDoorW.PrintWords Go.Proofs.YtidnopmjhhmedaaDoorW.PrintLast Go.Proofs.YtidnopmjhhmedaaDoorW.PrintMore

theorem bk {w0 w : World} {g : Nat} {o : Obj} (B : Aside0 (w0.heap[g]? = some o))
    (h : w.heap[g]? = some o := by with_reducible repeat (first | exact Aside0.out (by assumption) | refine blk_drewN ?_ _ | refine blk_drew ?_ | refine blk_alloc ?_ _ | refine blk_far ?_ (Aside0.out (by assumption)) _)) : w.heap[g]? = some o := h
theorem bl {w W0 W : World} (B : Aside0 (Below w.heap.size w W0))
    (h : Below w.heap.size w W := by with_reducible repeat (first | exact Aside0.out (by assumption) | apply below_alloc | apply pw_below_drewN | apply below_drew1 | refine below_set ?_ (Aside0.out (by assumption)))) : Below w.heap.size w W := h
theorem rk {α : Type} {d : Kd α} {e base : Nat} {w0 w : World} {ok : Nat → Prop} {v : Value} {xs : List α} (B : Aside0 (d.R e w0 base ok v xs))
    (h : d.R e w base ok v xs := by with_reducible repeat (first | exact Aside0.out (by assumption) | apply Kd.R_alloc | apply Kd.R_drewN | apply Kd.R_drew)) : d.R e w base ok v xs := h
theorem ngt {w : World} {g g' : Nat} {o : Obj} (hg : g' = w.heap.size) (h : w.heap[g]? = some o) : Aside0 (g' ≠ g) := ⟨by rw [hg]; exact Nat.ne_of_gt (blk_lt h)⟩
theorem nlt {w : World} {g g' : Nat} {o : Obj} (hg : g' = w.heap.size) (h : w.heap[g]? = some o) : Aside0 (g ≠ g') := ⟨by rw [hg]; exact Nat.ne_of_lt (blk_lt h)⟩
theorem geB {w w1 : World} {g : Nat} (hg : g = w1.heap.size) (h : Below w.heap.size w w1) : Aside0 (w.heap.size ≤ g) := ⟨by rw [hg]; exact below_size h⟩
theorem bc {w : World} {g : Nat} {t : TypeId} {cs : Array Value} (B : Aside0 (w.heap[g]? = some (.cells cs t (0, 0)))) (i : Nat) {v : Value} (h : cs[i]? = some v := by rfl) : w.cell? ⟨g, i, none⟩ = some v := (blk_cell B.out i).trans h
section
variable {P : Program} {md : Region.Mode} {ops : Array Oper} {Q : Exit → Act → World → Prop} {S : World → Prop} {ds : List Nat}
theorem pureA (i N : Nat) {oi : Oper} {v : Value} {fuel : Nat} {l l' : Array Bool} {a a' : Act} {w : World}
    (h : wpAnyLast P md ops Q S ds fuel l' a' w) (hi : ops[i]? = some oi := by rfl) (hN : oi.dst = some N := by rfl)
    (hl : l.setIfInBounds i true = l' := by simp only [List.setIfInBounds_toArray, List.set_cons_zero, List.set_cons_succ] <;> rfl)
    (hc : anyB md ops l l' i = true := by exact any_of HT_.out (by kernel_rfl)) (hQ : ∀ c a w, Q (.panic c) (a.put oi.dst v) w → Q (.panic c) a w := by exact fun _ _ _ h => h)
    (hy : Yields P ops oi v a := by refine Or.inl ⟨by rfl, ?_⟩; intro w'; go_simp; with_reducible rfl)
    (ha : a.put (some N) v = a' := by simp only [Act.put, List.setIfInBounds_toArray, List.set_cons_zero, List.set_cons_succ, i64_w, i32_w] <;> rfl) :
    wpAnyLast P md ops Q S ds (fuel + 1) l a w := pure_ l' hi hN hc hQ hy ha h
theorem pureU (i N : Nat) {oi : Oper} {fuel : Nat} {l l' : Array Bool} {a a' : Act} {w : World}
    (h : wpAnyLast P md ops Q S ds fuel l' a' w) (hi : ops[i]? = some oi := by rfl) (hN : oi.dst = some N := by rfl)
    (hl : l.setIfInBounds i true = l' := by simp only [List.setIfInBounds_toArray, List.set_cons_zero, List.set_cons_succ] <;> rfl)
    (hc : anyB md ops l l' i = true := by exact any_of HT_.out (by kernel_rfl)) (hQ : ∀ c a w, Q (.panic c) (a.put oi.dst undef) w → Q (.panic c) a w := by exact fun _ _ _ h => h)
    (hy : Yields P ops oi undef a := by exact Or.inr ⟨by rfl, rfl⟩)
    (ha : a.put (some N) undef = a' := by simp only [Act.put, List.setIfInBounds_toArray, List.set_cons_zero, List.set_cons_succ, i64_w, i32_w] <;> rfl) :
    wpAnyLast P md ops Q S ds (fuel + 1) l a w := pure_ l' hi hN hc hQ hy ha h
theorem takeA (i N : Nat) {oi : Oper} {v : Value} {fuel : Nat} {l l' : Array Bool} {a a' : Act} {w : World}
    (hi : ops[i]? = some oi) (hN : oi.dst = some N) (hx : ∀ w, S w → (execOp a.eval oi).run P w = .ok (.value v) w) (h : wpAnyLast P md ops Q S ds fuel l' a' w)
    (hl : l.setIfInBounds i true = l' := by simp only [List.setIfInBounds_toArray, List.set_cons_zero, List.set_cons_succ] <;> rfl)
    (hc : takeB md ops ds l l' i = true := by exact take_ofW HT_.out HW_.out (by kernel_rfl)) (hQ : ∀ c a w, Q (.panic c) (a.put oi.dst v) w → Q (.panic c) a w := by exact fun _ _ _ h => h)
    (hw : Region.wanted oi (yielded ops a.tmps) = true := by rfl) (hS : S w := by exact hHeld)
    (ha : a.put (some N) v = a' := by simp only [Act.put, List.setIfInBounds_toArray, List.set_cons_zero, List.set_cons_succ, i64_w, i32_w] <;> rfl) :
    wpAnyLast P md ops Q S ds (fuel + 1) l a w := take_ l' hi hN hc hQ (Or.inl ⟨hw, hx⟩) hS ha h
end
section
variable {P : Program} {md : Region.Mode} {ops : Array Oper} {Q : Exit → Act → World → Prop} {S : World → Prop} {ds : List Nat}
theorem oneA (i : Nat) (N : Option Tmp) {oi : Oper} {fuel : Nat} {l l' : Array Bool} {a : Act} {w : World}
    (h : ∀ K : Act → World → Prop, Shut (∀ a' w', S w' → (S w' → wpAnyLast P md ops Q S ds fuel l' a' w') → K a' w') → if Region.wanted oi (yielded ops a.tmps) = true then Oper.wp P oi a w K Q else K (a.put N undef) w)
    (hi : ops[i]? = some oi := by rfl) (hN : oi.dst = N := by rfl)
    (hl : l.setIfInBounds i true = l' := by simp only [List.setIfInBounds_toArray, List.set_cons_zero, List.set_cons_succ] <;> rfl)
    (hc : readyB md ops l l' i = true := by exact one_of HT_.out (by kernel_rfl)) (hd : i ∉ ds := by decide) :
    wpAnyLast P md ops Q S ds (fuel + 1) l a w := one_ l' hi hN hc hd h
theorem lastA (i : Nat) (N : Option Tmp) {oi : Oper} {fuel : Nat} {l l' : Array Bool} {a : Act} {w : World}
    (h : ∀ K : Act → World → Prop, Shut (∀ a' w', wpAnyLast P md ops Q S ds fuel l' a' w' → K a' w') → if Region.wanted oi (yielded ops a.tmps) = true then Oper.wp P oi a w K Q else K (a.put N undef) w)
    (hi : ops[i]? = some oi := by rfl) (hN : oi.dst = N := by rfl)
    (hl : l.setIfInBounds i true = l' := by simp only [List.setIfInBounds_toArray, List.set_cons_zero, List.set_cons_succ] <;> rfl)
    (hc : readyB md ops l l' i = true := by exact one_of HT_.out (by kernel_rfl)) (hd : i ∈ ds := by decide) :
    wpAnyLast P md ops Q S ds (fuel + 1) l a w := last_ l' hi hN hc hd h
theorem normA (N : Nat) {fuel : Nat} {l : Array Bool} {a a' : Act} {w : World} (h : wpAnyLast P md ops Q S ds fuel l a' w)
    (ha : a = a' := by show Act.put _ (some _) _ = _; simp only [Act.put, List.setIfInBounds_toArray, List.set_cons_zero, List.set_cons_succ, i64_w, i32_w] <;> rfl) :
    wpAnyLast P md ops Q S ds fuel l a w := norm_ ha h
end
end Go.Proofs.TrydX.X
end

section
-- Written by wip/tools/pr.py (a program of this repo over the kit's print.py).
namespace Go.Proofs.TrydX.X
open Go.RowKit Go.Proofs.YtidnopmjhhmedaaDoorW.PrintWords Go.Proofs.YtidnopmjhhmedaaDoorW.PrintLast Go.Proofs.YtidnopmjhhmedaaDoorW.PrintMore
attribute [local go_sem] max2_int min2_int max_two min_two max_three min_three max_four min_four   -- for this text's walks alone
set_option linter.unusedVariables false
set_option linter.unusedSimpArgs false

theorem eqA23 (d : Nat) (w : World) (x0 y0 : Int) (x1 y1 : Int) :
    (Op.equalIn (d + 2) 23 (.agg #[.int .i64 x0, .int .i64 x1]) (.agg #[.int .i64 y0, .int .i64 y1])).run Tryd.prog w = .ok (x0 == y0 && (x1 == y1)) w := by
  refine eqA_of Tryd.underlying23 (by kernel_rfl) ?_
  refine eqf_cons (by rfl) (by go_simp; rfl) (by go_simp; rfl) (by go_simp) ?_
  exact eqf_last (by rfl) (by go_simp; rfl) (by go_simp; rfl) (by go_simp)
end Go.Proofs.TrydX.X
end

section
-- Written by wip/tools/pr.py (a program of this repo over the kit's print.py).
namespace Go.Proofs.TrydX.X
open Go.RowKit Go.Proofs.YtidnopmjhhmedaaDoorW.PrintWords Go.Proofs.YtidnopmjhhmedaaDoorW.PrintLast Go.Proofs.YtidnopmjhhmedaaDoorW.PrintMore
attribute [local go_sem] max2_int min2_int max_two min_two max_three min_three max_four min_four   -- for this text's walks alone
set_option linter.unusedVariables false
set_option linter.unusedSimpArgs false

/-! ### remontoirref00_To: function 49 -/
def remontoirref00_To.f (a0 : Int) (a1 : Int) : Option (Int × Int) := some (a0, a1)
set_option maxHeartbeats 8000000 in
set_option maxRecDepth 100000 in
theorem remontoirref00_To.calls (a0 : Int) (a1 : Int) (r1 : Int) (r2 : Int) (w : World) (h : remontoirref00_To.f a0 a1 = some (r1, r2)) :
    Calls Tryd.prog 49 #[.int .i64 a0, .int .i64 a1] w fun e w' => e = .returned (.agg #[.int .i64 r1, .int .i64 r2]) ∧ Below w.heap.size w w' := by
  have hu23 := Tryd.underlying23
  have HB := Aside0.mk (Below.refl w.heap.size w)
  have H : (some (a0, a1)) = some (r1, r2) := h
  clear h
  simp only [Option.some.injEq, Prod.mk.injEq] at H
  obtain ⟨rfl, rfl⟩ := H
  go_enter Tryd.func49, Tryd.ntmps49
  go_wp2_with (first | ((with_reducible refine gate_dst (N := 4) rfl ?_); refine box_event ?hg (N := 4) ?hd (cs := #[.int .i64 0, .int .i64 0]) (t := 23) ?hr ?_; (case hd => rfl); (case hg => rfl); (case hr => first | (go_simp; done) | (go_simp; rfl)); intro gb129 hg w3 hbox hb; have n0_ := Aside0.mk (below_step (by repeat (first | (with_reducible first | exact HB.out | apply below_alloc | apply pw_below_drewN | apply below_drew1) | exact HB.out)) hb); have n1_ := Aside0.mk (hbox); have n2_ := Aside0.mk ((by rw [hg]; exact (below_size (by repeat (first | (with_reducible first | exact HB.out | apply below_alloc | apply pw_below_drewN | apply below_drew1) | exact HB.out))) : w.heap.size ≤ gb129)); have n3_ := Aside0.mk ((by rw [hg]; exact (below_size (by repeat (first | (with_reducible first | exact HB.out | apply below_alloc | apply pw_below_drewN | apply below_drew1) | exact HB.out))) : w.heap.size ≤ gb129)); clear HB; have HB := n0_; have BK129 := n1_; have GW129 := n2_; have GE129 := n3_; clear n0_ n1_ n2_ n3_; clear hb hbox hg; have hcz4_0 : w3.cell? ⟨gb129, 0, none⟩ = some (.int .i64 0) := (blk_cell BK129.out 0).trans rfl; have hcz4_1 : w3.cell? ⟨gb129, 1, none⟩ = some (.int .i64 0) := (blk_cell BK129.out 1).trans rfl; have hfz4_0 := blk_frozen BK129.out 0; have hfz4_1 := blk_frozen BK129.out 1))
  refine bodyPost_ret (results_cell_row rfl _ _ gb129 23 #[.int .i64 a0, .int .i64 a1] (0, 0) _ rfl (by (with_reducible repeat (first | refine blk_drewN ?_ _ | refine blk_drew ?_ | refine blk_alloc ?_ _)); refine blk_put (cs := #[.int .i64 a0, .int .i64 0]) ?_ 1 _ rfl; (with_reducible repeat (first | refine blk_drewN ?_ _ | refine blk_drew ?_ | refine blk_alloc ?_ _)); refine blk_put (cs := #[.int .i64 0, .int .i64 0]) ?_ 0 _ rfl; (with_reducible repeat (first | refine blk_drewN ?_ _ | refine blk_drew ?_ | refine blk_alloc ?_ _)); exact BK129.out) Tryd.underlying23 rfl (by kernel_rfl)) rfl ?_
  exact ⟨by first | rfl | (simp [errW_none, errW_some] <;> rfl) | (simp [*, errW_none, errW_some] <;> rfl), by repeat (first | (with_reducible first | exact HB.out | apply below_alloc | apply pw_below_drewN | apply below_drew1 | refine below_set ?_ GE129.out) | exact HB.out)⟩

end Go.Proofs.TrydX.X
end

section
-- Written by wip/tools/pr.py (a program of this repo over the kit's print.py).
namespace Go.Proofs.TrydX.X
open Go.RowKit Go.Proofs.YtidnopmjhhmedaaDoorW.PrintWords Go.Proofs.YtidnopmjhhmedaaDoorW.PrintLast Go.Proofs.YtidnopmjhhmedaaDoorW.PrintMore
attribute [local go_sem] max2_int min2_int max_two min_two max_three min_three max_four min_four   -- for this text's walks alone
set_option linter.unusedVariables false
set_option linter.unusedSimpArgs false

/-! ### remontoirref00_Rest: function 38 -/
def remontoirref00_Rest.f (a0 : Int) (a1 : Int) : Option (Int) := if a1 = 0 then (none) else (if (Int.tmod a0 a1) < 0 then (some (wrap64 ((Int.tmod a0 a1) + a1))) else (some (Int.tmod a0 a1)))
set_option maxHeartbeats 8000000 in
set_option maxRecDepth 100000 in
theorem remontoirref00_Rest.calls (a0 : Int) (a1 : Int) (r : Int) (w : World) (h : remontoirref00_Rest.f a0 a1 = some r) :
    Calls Tryd.prog 38 #[.int .i64 a0, .int .i64 a1] w fun e w' => e = .returned (.int .i64 r) ∧ Drawn0 w w' := by
  have H : (if a1 = 0 then (none) else (if (Int.tmod a0 a1) < 0 then (some (wrap64 ((Int.tmod a0 a1) + a1))) else (some (Int.tmod a0 a1)))) = some r := h
  clear h
  by_cases c3 : a1 = 0
  · rw [if_pos c3] at H
    exact absurd H (by simp)
  · rw [if_neg c3] at H
    have c3b0 : (a1 == 0) = false := beq_eq_false_iff_ne.mpr c3
    have c3b1 : (a1 != 0) = true := bne_iff_ne.mpr c3
    by_cases c4 : (Int.tmod a0 a1) < 0
    · rw [if_pos c4] at H
      have c4b0 : decide ((Int.tmod a0 a1) < 0) = true := decide_eq_true c4
      clear c4
      obtain rfl := Option.some.inj H
      go_enter Tryd.func38, Tryd.ntmps38
      go_wp2
      go_ret
      exact ⟨by first | rfl | (simp; done) | (simp [*]; done), by repeat (first | exact Drawn0.refl _ | apply Drawn0.step)⟩
    · rw [if_neg c4] at H
      have c4b0 : decide ((Int.tmod a0 a1) < 0) = false := decide_eq_false c4
      clear c4
      obtain rfl := Option.some.inj H
      go_enter Tryd.func38, Tryd.ntmps38
      go_wp2
      go_ret
      exact ⟨by first | rfl | (simp; done) | (simp [*]; done), by repeat (first | exact Drawn0.refl _ | apply Drawn0.step)⟩

end Go.Proofs.TrydX.X
end

section
-- Written by wip/tools/pr.py (a program of this repo over the kit's print.py).
namespace Go.Proofs.TrydX.X
open Go.RowKit Go.Proofs.YtidnopmjhhmedaaDoorW.PrintWords Go.Proofs.YtidnopmjhhmedaaDoorW.PrintLast Go.Proofs.YtidnopmjhhmedaaDoorW.PrintMore
attribute [local go_sem] max2_int min2_int max_two min_two max_three min_three max_four min_four   -- for this text's walks alone
set_option linter.unusedVariables false
set_option linter.unusedSimpArgs false

/-! ### remontoirref00_Within: function 45 -/
def remontoirref00_Within.f (a0_0 : Int) (a0_1 : Int) (a1_0 : Int) (a1_1 : Int) : Option (Bool) := if a1_0 ≤ a0_0 then (some (decide (a0_1 ≤ a1_1))) else (some false)
set_option maxHeartbeats 8000000 in
set_option maxRecDepth 100000 in
theorem remontoirref00_Within.calls (a0_0 : Int) (a0_1 : Int) (a1_0 : Int) (a1_1 : Int) (r : Bool) (w : World) (h : remontoirref00_Within.f a0_0 a0_1 a1_0 a1_1 = some r) :
    Calls Tryd.prog 45 #[.agg #[.int .i64 a0_0, .int .i64 a0_1], .agg #[.int .i64 a1_0, .int .i64 a1_1]] w fun e w' => e = .returned (.bool r) ∧ Below w.heap.size w w' := by
  have hu23 := Tryd.underlying23
  have HB := Aside0.mk (Below.refl w.heap.size w)
  have H : (if a1_0 ≤ a0_0 then (some (decide (a0_1 ≤ a1_1))) else (some false)) = some r := h
  clear h
  by_cases c3 : a1_0 ≤ a0_0
  · rw [if_pos c3] at H
    have c3b0 : decide (a1_0 ≤ a0_0) = true := decide_eq_true c3
    clear c3
    obtain rfl := Option.some.inj H
    go_enter Tryd.func45, Tryd.ntmps45
    go_wp2_with (first | ((with_reducible refine gate_dst (N := 2) rfl ?_); refine box_event ?hg (N := 2) ?hd (cs := #[.int .i64 a0_0, .int .i64 a0_1]) (t := 23) ?hr ?_; (case hd => rfl); (case hg => rfl); (case hr => first | (go_simp; done) | (go_simp; rfl)); intro gb419 hg w4 hbox hb; have n0_ := Aside0.mk (below_step (by repeat (first | (with_reducible first | exact HB.out | apply below_alloc | apply pw_below_drewN | apply below_drew1) | exact HB.out)) hb); have n1_ := Aside0.mk (hbox); have n2_ := Aside0.mk ((by rw [hg]; exact (below_size (by repeat (first | (with_reducible first | exact HB.out | apply below_alloc | apply pw_below_drewN | apply below_drew1) | exact HB.out))) : w.heap.size ≤ gb419)); have n3_ := Aside0.mk ((by rw [hg]; exact (below_size (by repeat (first | (with_reducible first | exact HB.out | apply below_alloc | apply pw_below_drewN | apply below_drew1) | exact HB.out))) : w.heap.size ≤ gb419)); clear HB; have HB := n0_; have BK419 := n1_; have GW419 := n2_; have GE419 := n3_; clear n0_ n1_ n2_ n3_; clear hb hbox hg) | ((with_reducible refine gate_dst (N := 3) rfl ?_); refine box_event ?hg (N := 3) ?hd (cs := #[.int .i64 a1_0, .int .i64 a1_1]) (t := 23) ?hr ?_; (case hd => rfl); (case hg => rfl); (case hr => first | (go_simp; done) | (go_simp; rfl)); intro gb420 hg w5 hbox hb; have n0_ := Aside0.mk (blk_below (g := gb419) (o := .cells #[.int .i64 a0_0, .int .i64 a0_1] 23 (0, 0)) (by (with_reducible repeat (first | refine blk_drewN ?_ _ | refine blk_drew ?_ | refine blk_alloc ?_ _)); exact BK419.out) hb); have n1_ := Aside0.mk (below_step (by repeat (first | (with_reducible first | exact HB.out | apply below_alloc | apply pw_below_drewN | apply below_drew1 | refine below_set ?_ GE419.out) | exact HB.out)) hb); have n2_ := Aside0.mk (hbox); have n3_ := Aside0.mk ((by rw [hg]; exact (below_size (by repeat (first | (with_reducible first | exact HB.out | apply below_alloc | apply pw_below_drewN | apply below_drew1 | refine below_set ?_ GE419.out) | exact HB.out))) : w.heap.size ≤ gb420)); have n4_ := Aside0.mk ((by rw [hg]; exact (below_size (by repeat (first | (with_reducible first | exact HB.out | apply below_alloc | apply pw_below_drewN | apply below_drew1 | refine below_set ?_ GE419.out) | exact HB.out))) : w.heap.size ≤ gb420)); have n5_ := Aside0.mk ((by rw [hg]; exact Nat.ne_of_lt (blk_lt (g := gb419) (o := .cells #[.int .i64 a0_0, .int .i64 a0_1] 23 (0, 0)) (by (with_reducible repeat (first | refine blk_drewN ?_ _ | refine blk_drew ?_ | refine blk_alloc ?_ _)); exact BK419.out)) : gb419 ≠ gb420)); have n6_ := Aside0.mk ((by rw [hg]; exact Nat.ne_of_gt (blk_lt (g := gb419) (o := .cells #[.int .i64 a0_0, .int .i64 a0_1] 23 (0, 0)) (by (with_reducible repeat (first | refine blk_drewN ?_ _ | refine blk_drew ?_ | refine blk_alloc ?_ _)); exact BK419.out)) : gb420 ≠ gb419)); clear BK419; clear HB; have BK419 := n0_; have HB := n1_; have BK420 := n2_; have GW420 := n3_; have GE420 := n4_; have NB419_420 := n5_; have NB420_419 := n6_; clear n0_ n1_ n2_ n3_ n4_ n5_ n6_; clear hb hbox hg; have hnb6 := NB420_419.out; have hnc6 := NB419_420.out; have hcz7_0 : w5.cell? ⟨gb420, 0, none⟩ = some (.int .i64 a1_0) := (blk_cell BK420.out 0).trans rfl; have hcz7_1 : w5.cell? ⟨gb420, 1, none⟩ = some (.int .i64 a1_1) := (blk_cell BK420.out 1).trans rfl; have hfz7_0 := blk_frozen BK420.out 0; have hfz7_1 := blk_frozen BK420.out 1; have hcz8_0 : w5.cell? ⟨gb419, 0, none⟩ = some (.int .i64 a0_0) := (blk_cell BK419.out 0).trans rfl; have hcz8_1 : w5.cell? ⟨gb419, 1, none⟩ = some (.int .i64 a0_1) := (blk_cell BK419.out 1).trans rfl; have hfz8_0 := blk_frozen BK419.out 0; have hfz8_1 := blk_frozen BK419.out 1))
    go_ret
    exact ⟨by first | rfl | (simp [errW_none, errW_some] <;> rfl) | (simp [*, errW_none, errW_some] <;> rfl), by repeat (first | (with_reducible first | exact HB.out | apply below_alloc | apply pw_below_drewN | apply below_drew1 | refine below_set ?_ GE419.out | refine below_set ?_ GE420.out) | exact HB.out)⟩
  · rw [if_neg c3] at H
    have c3b0 : decide (a1_0 ≤ a0_0) = false := decide_eq_false c3
    clear c3
    obtain rfl := Option.some.inj H
    go_enter Tryd.func45, Tryd.ntmps45
    go_wp2_with (first | ((with_reducible refine gate_dst (N := 2) rfl ?_); refine box_event ?hg (N := 2) ?hd (cs := #[.int .i64 a0_0, .int .i64 a0_1]) (t := 23) ?hr ?_; (case hd => rfl); (case hg => rfl); (case hr => first | (go_simp; done) | (go_simp; rfl)); intro gb419 hg w9 hbox hb; have n0_ := Aside0.mk (below_step (by repeat (first | (with_reducible first | exact HB.out | apply below_alloc | apply pw_below_drewN | apply below_drew1) | exact HB.out)) hb); have n1_ := Aside0.mk (hbox); have n2_ := Aside0.mk ((by rw [hg]; exact (below_size (by repeat (first | (with_reducible first | exact HB.out | apply below_alloc | apply pw_below_drewN | apply below_drew1) | exact HB.out))) : w.heap.size ≤ gb419)); have n3_ := Aside0.mk ((by rw [hg]; exact (below_size (by repeat (first | (with_reducible first | exact HB.out | apply below_alloc | apply pw_below_drewN | apply below_drew1) | exact HB.out))) : w.heap.size ≤ gb419)); clear HB; have HB := n0_; have BK419 := n1_; have GW419 := n2_; have GE419 := n3_; clear n0_ n1_ n2_ n3_; clear hb hbox hg) | ((with_reducible refine gate_dst (N := 3) rfl ?_); refine box_event ?hg (N := 3) ?hd (cs := #[.int .i64 a1_0, .int .i64 a1_1]) (t := 23) ?hr ?_; (case hd => rfl); (case hg => rfl); (case hr => first | (go_simp; done) | (go_simp; rfl)); intro gb420 hg w10 hbox hb; have n0_ := Aside0.mk (blk_below (g := gb419) (o := .cells #[.int .i64 a0_0, .int .i64 a0_1] 23 (0, 0)) (by (with_reducible repeat (first | refine blk_drewN ?_ _ | refine blk_drew ?_ | refine blk_alloc ?_ _)); exact BK419.out) hb); have n1_ := Aside0.mk (below_step (by repeat (first | (with_reducible first | exact HB.out | apply below_alloc | apply pw_below_drewN | apply below_drew1 | refine below_set ?_ GE419.out) | exact HB.out)) hb); have n2_ := Aside0.mk (hbox); have n3_ := Aside0.mk ((by rw [hg]; exact (below_size (by repeat (first | (with_reducible first | exact HB.out | apply below_alloc | apply pw_below_drewN | apply below_drew1 | refine below_set ?_ GE419.out) | exact HB.out))) : w.heap.size ≤ gb420)); have n4_ := Aside0.mk ((by rw [hg]; exact (below_size (by repeat (first | (with_reducible first | exact HB.out | apply below_alloc | apply pw_below_drewN | apply below_drew1 | refine below_set ?_ GE419.out) | exact HB.out))) : w.heap.size ≤ gb420)); have n5_ := Aside0.mk ((by rw [hg]; exact Nat.ne_of_lt (blk_lt (g := gb419) (o := .cells #[.int .i64 a0_0, .int .i64 a0_1] 23 (0, 0)) (by (with_reducible repeat (first | refine blk_drewN ?_ _ | refine blk_drew ?_ | refine blk_alloc ?_ _)); exact BK419.out)) : gb419 ≠ gb420)); have n6_ := Aside0.mk ((by rw [hg]; exact Nat.ne_of_gt (blk_lt (g := gb419) (o := .cells #[.int .i64 a0_0, .int .i64 a0_1] 23 (0, 0)) (by (with_reducible repeat (first | refine blk_drewN ?_ _ | refine blk_drew ?_ | refine blk_alloc ?_ _)); exact BK419.out)) : gb420 ≠ gb419)); clear BK419; clear HB; have BK419 := n0_; have HB := n1_; have BK420 := n2_; have GW420 := n3_; have GE420 := n4_; have NB419_420 := n5_; have NB420_419 := n6_; clear n0_ n1_ n2_ n3_ n4_ n5_ n6_; clear hb hbox hg; have hnb11 := NB420_419.out; have hnc11 := NB419_420.out; have hcz12_0 : w10.cell? ⟨gb420, 0, none⟩ = some (.int .i64 a1_0) := (blk_cell BK420.out 0).trans rfl; have hcz12_1 : w10.cell? ⟨gb420, 1, none⟩ = some (.int .i64 a1_1) := (blk_cell BK420.out 1).trans rfl; have hfz12_0 := blk_frozen BK420.out 0; have hfz12_1 := blk_frozen BK420.out 1; have hcz13_0 : w10.cell? ⟨gb419, 0, none⟩ = some (.int .i64 a0_0) := (blk_cell BK419.out 0).trans rfl; have hcz13_1 : w10.cell? ⟨gb419, 1, none⟩ = some (.int .i64 a0_1) := (blk_cell BK419.out 1).trans rfl; have hfz13_0 := blk_frozen BK419.out 0; have hfz13_1 := blk_frozen BK419.out 1))
    go_ret
    exact ⟨by first | rfl | (simp [errW_none, errW_some] <;> rfl) | (simp [*, errW_none, errW_some] <;> rfl), by repeat (first | (with_reducible first | exact HB.out | apply below_alloc | apply pw_below_drewN | apply below_drew1 | refine below_set ?_ GE419.out | refine below_set ?_ GE420.out) | exact HB.out)⟩

end Go.Proofs.TrydX.X
end

section
-- Written by wip/tools/pr.py (a program of this repo over the kit's print.py).
namespace Go.Proofs.TrydX.X
open Go.RowKit Go.Proofs.YtidnopmjhhmedaaDoorW.PrintWords Go.Proofs.YtidnopmjhhmedaaDoorW.PrintLast Go.Proofs.YtidnopmjhhmedaaDoorW.PrintMore
attribute [local go_sem] max2_int min2_int max_two min_two max_three min_three max_four min_four   -- for this text's walks alone
set_option linter.unusedVariables false
set_option linter.unusedSimpArgs false

/-! ### remontoirref00_Lies: function 42 -/
def remontoirref00_Lies.f (a0 : Int) (a1 : Int) (a2 : Int) : Option (Bool) := if a1 ≤ a0 then (some (decide (a0 ≤ a2))) else (some false)
set_option maxHeartbeats 8000000 in
set_option maxRecDepth 100000 in
theorem remontoirref00_Lies.calls (a0 : Int) (a1 : Int) (a2 : Int) (r : Bool) (w : World) (h : remontoirref00_Lies.f a0 a1 a2 = some r) :
    Calls Tryd.prog 42 #[.int .i64 a0, .int .i64 a1, .int .i64 a2] w fun e w' => e = .returned (.bool r) ∧ Drawn0 w w' := by
  have H : (if a1 ≤ a0 then (some (decide (a0 ≤ a2))) else (some false)) = some r := h
  clear h
  by_cases c4 : a1 ≤ a0
  · rw [if_pos c4] at H
    have c4b0 : decide (a1 ≤ a0) = true := decide_eq_true c4
    clear c4
    obtain rfl := Option.some.inj H
    go_enter Tryd.func42, Tryd.ntmps42
    go_wp2
    go_ret
    exact ⟨by first | rfl | (simp; done) | (simp [*]; done), by repeat (first | exact Drawn0.refl _ | apply Drawn0.step)⟩
  · rw [if_neg c4] at H
    have c4b0 : decide (a1 ≤ a0) = false := decide_eq_false c4
    clear c4
    obtain rfl := Option.some.inj H
    go_enter Tryd.func42, Tryd.ntmps42
    go_wp2
    go_ret
    exact ⟨by first | rfl | (simp; done) | (simp [*]; done), by repeat (first | exact Drawn0.refl _ | apply Drawn0.step)⟩

end Go.Proofs.TrydX.X
end

section
-- Written by wip/tools/pr.py (a program of this repo over the kit's print.py).
namespace Go.Proofs.TrydX.X
open Go.RowKit Go.Proofs.YtidnopmjhhmedaaDoorW.PrintWords Go.Proofs.YtidnopmjhhmedaaDoorW.PrintLast Go.Proofs.YtidnopmjhhmedaaDoorW.PrintMore
attribute [local go_sem] max2_int min2_int max_two min_two max_three min_three max_four min_four   -- for this text's walks alone
set_option linter.unusedVariables false
set_option linter.unusedSimpArgs false

/-! ### remontoirref00_Valid: function 73 -/
def remontoirref00_Valid.f (a0_0 : Int) (a0_1 : Int) (a1 : Int) (a2 : Int) : Option (Bool) := if a0_0 ≤ a0_1 then (if a1 ≤ a0_0 then (some (decide (a0_1 ≤ a2))) else (some false)) else (some false)
set_option maxHeartbeats 8000000 in
set_option maxRecDepth 100000 in
theorem remontoirref00_Valid.calls (a0_0 : Int) (a0_1 : Int) (a1 : Int) (a2 : Int) (r : Bool) (w : World) (h : remontoirref00_Valid.f a0_0 a0_1 a1 a2 = some r) :
    Calls Tryd.prog 73 #[.agg #[.int .i64 a0_0, .int .i64 a0_1], .int .i64 a1, .int .i64 a2] w fun e w' => e = .returned (.bool r) ∧ Below w.heap.size w w' := by
  have hu23 := Tryd.underlying23
  have HB := Aside0.mk (Below.refl w.heap.size w)
  have H : (if a0_0 ≤ a0_1 then (if a1 ≤ a0_0 then (some (decide (a0_1 ≤ a2))) else (some false)) else (some false)) = some r := h
  clear h
  by_cases c4 : a0_0 ≤ a0_1
  · rw [if_pos c4] at H
    have c4b0 : decide (a0_0 ≤ a0_1) = true := decide_eq_true c4
    clear c4
    by_cases c5 : a1 ≤ a0_0
    · rw [if_pos c5] at H
      have c5b0 : decide (a1 ≤ a0_0) = true := decide_eq_true c5
      clear c5
      obtain rfl := Option.some.inj H
      go_enter Tryd.func73, Tryd.ntmps73
      go_wp2_with (first | ((with_reducible refine gate_dst (N := 3) rfl ?_); refine box_event ?hg (N := 3) ?hd (cs := #[.int .i64 a0_0, .int .i64 a0_1]) (t := 23) ?hr ?_; (case hd => rfl); (case hg => rfl); (case hr => first | (go_simp; done) | (go_simp; rfl)); intro gb102 hg w6 hbox hb; have n0_ := Aside0.mk (below_step (by repeat (first | (with_reducible first | exact HB.out | apply below_alloc | apply pw_below_drewN | apply below_drew1) | exact HB.out)) hb); have n1_ := Aside0.mk (hbox); have n2_ := Aside0.mk ((by rw [hg]; exact (below_size (by repeat (first | (with_reducible first | exact HB.out | apply below_alloc | apply pw_below_drewN | apply below_drew1) | exact HB.out))) : w.heap.size ≤ gb102)); have n3_ := Aside0.mk ((by rw [hg]; exact (below_size (by repeat (first | (with_reducible first | exact HB.out | apply below_alloc | apply pw_below_drewN | apply below_drew1) | exact HB.out))) : w.heap.size ≤ gb102)); clear HB; have HB := n0_; have BK102 := n1_; have GW102 := n2_; have GE102 := n3_; clear n0_ n1_ n2_ n3_; clear hb hbox hg; have hcz7_0 : w6.cell? ⟨gb102, 0, none⟩ = some (.int .i64 a0_0) := (blk_cell BK102.out 0).trans rfl; have hcz7_1 : w6.cell? ⟨gb102, 1, none⟩ = some (.int .i64 a0_1) := (blk_cell BK102.out 1).trans rfl; have hfz7_0 := blk_frozen BK102.out 0; have hfz7_1 := blk_frozen BK102.out 1))
      go_ret
      exact ⟨by first | rfl | (simp [errW_none, errW_some] <;> rfl) | (simp [*, errW_none, errW_some] <;> rfl), by repeat (first | (with_reducible first | exact HB.out | apply below_alloc | apply pw_below_drewN | apply below_drew1 | refine below_set ?_ GE102.out) | exact HB.out)⟩
    · rw [if_neg c5] at H
      have c5b0 : decide (a1 ≤ a0_0) = false := decide_eq_false c5
      clear c5
      obtain rfl := Option.some.inj H
      go_enter Tryd.func73, Tryd.ntmps73
      go_wp2_with (first | ((with_reducible refine gate_dst (N := 3) rfl ?_); refine box_event ?hg (N := 3) ?hd (cs := #[.int .i64 a0_0, .int .i64 a0_1]) (t := 23) ?hr ?_; (case hd => rfl); (case hg => rfl); (case hr => first | (go_simp; done) | (go_simp; rfl)); intro gb102 hg w8 hbox hb; have n0_ := Aside0.mk (below_step (by repeat (first | (with_reducible first | exact HB.out | apply below_alloc | apply pw_below_drewN | apply below_drew1) | exact HB.out)) hb); have n1_ := Aside0.mk (hbox); have n2_ := Aside0.mk ((by rw [hg]; exact (below_size (by repeat (first | (with_reducible first | exact HB.out | apply below_alloc | apply pw_below_drewN | apply below_drew1) | exact HB.out))) : w.heap.size ≤ gb102)); have n3_ := Aside0.mk ((by rw [hg]; exact (below_size (by repeat (first | (with_reducible first | exact HB.out | apply below_alloc | apply pw_below_drewN | apply below_drew1) | exact HB.out))) : w.heap.size ≤ gb102)); clear HB; have HB := n0_; have BK102 := n1_; have GW102 := n2_; have GE102 := n3_; clear n0_ n1_ n2_ n3_; clear hb hbox hg; have hcz9_0 : w8.cell? ⟨gb102, 0, none⟩ = some (.int .i64 a0_0) := (blk_cell BK102.out 0).trans rfl; have hcz9_1 : w8.cell? ⟨gb102, 1, none⟩ = some (.int .i64 a0_1) := (blk_cell BK102.out 1).trans rfl; have hfz9_0 := blk_frozen BK102.out 0; have hfz9_1 := blk_frozen BK102.out 1))
      go_ret
      exact ⟨by first | rfl | (simp [errW_none, errW_some] <;> rfl) | (simp [*, errW_none, errW_some] <;> rfl), by repeat (first | (with_reducible first | exact HB.out | apply below_alloc | apply pw_below_drewN | apply below_drew1 | refine below_set ?_ GE102.out) | exact HB.out)⟩
  · rw [if_neg c4] at H
    have c4b0 : decide (a0_0 ≤ a0_1) = false := decide_eq_false c4
    clear c4
    obtain rfl := Option.some.inj H
    go_enter Tryd.func73, Tryd.ntmps73
    go_wp2_with (first | ((with_reducible refine gate_dst (N := 3) rfl ?_); refine box_event ?hg (N := 3) ?hd (cs := #[.int .i64 a0_0, .int .i64 a0_1]) (t := 23) ?hr ?_; (case hd => rfl); (case hg => rfl); (case hr => first | (go_simp; done) | (go_simp; rfl)); intro gb102 hg w10 hbox hb; have n0_ := Aside0.mk (below_step (by repeat (first | (with_reducible first | exact HB.out | apply below_alloc | apply pw_below_drewN | apply below_drew1) | exact HB.out)) hb); have n1_ := Aside0.mk (hbox); have n2_ := Aside0.mk ((by rw [hg]; exact (below_size (by repeat (first | (with_reducible first | exact HB.out | apply below_alloc | apply pw_below_drewN | apply below_drew1) | exact HB.out))) : w.heap.size ≤ gb102)); have n3_ := Aside0.mk ((by rw [hg]; exact (below_size (by repeat (first | (with_reducible first | exact HB.out | apply below_alloc | apply pw_below_drewN | apply below_drew1) | exact HB.out))) : w.heap.size ≤ gb102)); clear HB; have HB := n0_; have BK102 := n1_; have GW102 := n2_; have GE102 := n3_; clear n0_ n1_ n2_ n3_; clear hb hbox hg; have hcz11_0 : w10.cell? ⟨gb102, 0, none⟩ = some (.int .i64 a0_0) := (blk_cell BK102.out 0).trans rfl; have hcz11_1 : w10.cell? ⟨gb102, 1, none⟩ = some (.int .i64 a0_1) := (blk_cell BK102.out 1).trans rfl; have hfz11_0 := blk_frozen BK102.out 0; have hfz11_1 := blk_frozen BK102.out 1))
    go_ret
    exact ⟨by first | rfl | (simp [errW_none, errW_some] <;> rfl) | (simp [*, errW_none, errW_some] <;> rfl), by repeat (first | (with_reducible first | exact HB.out | apply below_alloc | apply pw_below_drewN | apply below_drew1 | refine below_set ?_ GE102.out) | exact HB.out)⟩

end Go.Proofs.TrydX.X
end

section
/- Maps whose keys are structs of two numbers, and whose elements are numbers: what a look-up and a store do, over whatever program. -/
set_option linter.unusedSimpArgs false
namespace Go.Proofs.YtidnopmjhhmedaaDoor
open Go Go.RowKit

abbrev pairV (s d : Int) : Value := .agg #[.int .i64 s, .int .i64 d]

/-- A map's key of two numbers. -/
structure PairKey (P : Program) (T K : TypeId) : Prop where
  und : ∃ E, P.underlying T = some (.map K E) ∧ ∀ w, (zeroValue E).run P w = .ok (.int .i64 0) w
  str : ∃ fs, P.underlying K = some (.struct fs)
  check : ∀ (w : World) em s d, (Instr.checkKey em 10000 K (pairV s d)).run P w = .ok () w
  eq : ∀ (w : World) s d s' d', (Op.equal K (pairV s d) (pairV s' d')).run P w = .ok (s == s' && d == d') w

def pmLook : List ((Int × Int) × Int) → Int → Int → Option Int
  | [], _, _ => none
  | x :: es, s, d => if s = x.1.1 ∧ d = x.1.2 then some x.2 else pmLook es s d
def pmPut : List ((Int × Int) × Int) → Int → Int → Int → List ((Int × Int) × Int)
  | [], s, d, v => [((s, d), v)]
  | x :: es, s, d, v => if s = x.1.1 ∧ d = x.1.2 then ((s, d), v) :: es else x :: pmPut es s d v
theorem pmLook_put (es : List ((Int × Int) × Int)) (s d v s' d' : Int) : pmLook (pmPut es s d v) s' d' = if s' = s ∧ d' = d then some v else pmLook es s' d' := by
  induction es with
  | nil => simp [pmPut, pmLook]
  | cons x es ih =>
    simp only [pmPut]
    by_cases h : s = x.1.1 ∧ d = x.1.2
    · rw [if_pos h]
      simp only [pmLook]
      obtain ⟨h1, h2⟩ := h
      subst h1; subst h2
      split <;> simp_all
    · rw [if_neg h]
      simp only [pmLook]
      by_cases h' : s' = x.1.1 ∧ d' = x.1.2
      · rw [if_pos h', if_pos h', if_neg]
        rintro ⟨h1, h2⟩
        exact h ⟨h1 ▸ h'.1, h2 ▸ h'.2⟩
      · rw [if_neg h', if_neg h', ih]

/-- The entries of a map read so. -/
def PEnc (arr : Array MapEntry) (es : List ((Int × Int) × Int)) : Prop := arr.toList.map (fun e => (e.key, e.val)) = es.map fun x => (pairV x.1.1 x.1.2, Value.int .i64 x.2)
def PMap (w : World) (b : Nat) (es : List ((Int × Int) × Int)) : Prop := ∃ arr clk, w.heap[b]? = some (.map arr clk) ∧ PEnc arr es
theorem PMap.new {w : World} {b : Nat} (h : w.heap[b]? = some (.map #[] 0)) : PMap w b [] := ⟨_, _, h, rfl⟩
theorem PMap.below {w w' : World} {b : Nat} {es : List ((Int × Int) × Int)} (h : PMap w b es) (hb : Below w.heap.size w w') : PMap w' b es := by
  obtain ⟨arr, clk, h1, h2⟩ := h
  exact ⟨arr, clk, (hb.block b (Array.getElem?_eq_some_iff.1 h1).1).trans h1, h2⟩
theorem PMap.lt {w : World} {b : Nat} {es : List ((Int × Int) × Int)} (h : PMap w b es) : b < w.heap.size := by
  obtain ⟨arr, clk, h1, h2⟩ := h
  exact (Array.getElem?_eq_some_iff.1 h1).1

section
variable {P : Program} {T K : TypeId}

theorem run_findAsking (hK : PairKey P T K) (s d : Int) : ∀ (l : List MapEntry) (es : List ((Int × Int) × Int)) (i : Nat), (l.map fun e => (e.key, e.val)) = (es.map fun x => (pairV x.1.1 x.1.2, Value.int .i64 x.2)) →
    ∃ r : Option (Nat × Value), (∀ w : World, (Instr.findAsking K (pairV s d) l i).run P w = .ok r w) ∧
      ((pmLook es s d = none ∧ r = none ∧ pmPut es s d = fun v => es ++ [((s, d), v)]) ∨
       (∃ j v, pmLook es s d = some v ∧ r = some (i + j, .int .i64 v) ∧ j < l.length ∧ es[j]?.map Prod.fst = some (s, d) ∧ ∀ u, pmPut es s d u = es.set j ((s, d), u))) := by
  intro l
  induction l with
  | nil =>
    intro es i h
    have : es = [] := by simpa using h.symm
    subst this
    exact ⟨none, by intro w; simp [Instr.findAsking], .inl ⟨rfl, rfl, by funext v; rfl⟩⟩
  | cons e l ih =>
    intro es i h
    cases es with
    | nil => simp at h
    | cons x es =>
      simp only [List.map_cons, List.cons.injEq, Prod.mk.injEq] at h
      obtain ⟨⟨hk, hv⟩, ht⟩ := h
      by_cases hx : s = x.1.1 ∧ d = x.1.2
      · refine ⟨some (i + 0, .int .i64 x.2), ?_, .inr ⟨0, x.2, by simp [pmLook, hx], rfl, by simp, by simp [hx], fun u => by simp [pmPut, hx]⟩⟩
        intro w
        simp [Instr.findAsking, hk, hv, hK.eq, hx]
      · obtain ⟨r, hr, hcase⟩ := ih es (i + 1) ht
        refine ⟨r, ?_, ?_⟩
        · have hne : (s == x.1.1 && d == x.1.2) = false := by
            rw [Bool.eq_false_iff]; simp only [ne_eq, Bool.and_eq_true, beq_iff_eq]; exact hx
          intro w
          simp [Instr.findAsking, hk, hK.eq, hne]
          exact hr w
        · rcases hcase with ⟨h1, h2, h3⟩ | ⟨j, v, h1, h2, h3, h4, h5⟩
          · refine .inl ⟨by simp [pmLook, hx, h1], h2, ?_⟩
            funext v
            simp only [pmPut, if_neg hx, h3, List.cons_append]
          · refine .inr ⟨j + 1, v, by simp [pmLook, hx, h1], by rw [h2]; congr 2; omega, by simpa using h3, by simpa using h4, ?_⟩
            intro u
            simp only [pmPut, if_neg hx, h5, List.set_cons_succ]

theorem run_findKey (hK : PairKey P T K) (s d : Int) (l : List MapEntry) (es : List ((Int × Int) × Int)) (h : (l.map fun e => (e.key, e.val)) = (es.map fun x => (pairV x.1.1 x.1.2, Value.int .i64 x.2))) :
    ∃ r : Option (Nat × Value), (∀ w : World, (Instr.findKey K (pairV s d) l).run P w = .ok r w) ∧
      ((pmLook es s d = none ∧ r = none ∧ pmPut es s d = fun v => es ++ [((s, d), v)]) ∨
       (∃ j v, pmLook es s d = some v ∧ r = some (j, .int .i64 v) ∧ j < l.length ∧ es[j]?.map Prod.fst = some (s, d) ∧ ∀ u, pmPut es s d u = es.set j ((s, d), u))) := by
  obtain ⟨fs, hfs⟩ := hK.str
  cases l with
  | nil =>
    have : es = [] := by simpa using h.symm
    subst this
    refine ⟨none, ?_, .inl ⟨rfl, rfl, by funext v; rfl⟩⟩
    intro w
    simp [Instr.findKey, Instr.findNow, run_underlying hfs]
  | cons e l =>
    obtain ⟨r, hr, hc⟩ := run_findAsking hK s d (e :: l) es 0 h
    refine ⟨r, ?_, ?_⟩
    · have hn : Instr.findNow (.struct fs) (pairV s d) (e :: l) 0 = none := by simp [Instr.findNow, Instr.sameNow]
      intro w
      simp only [Instr.findKey, Sem.run_bind, run_underlying hfs, Result.andThen_ok, hn]
      exact hr w
    · rcases hc with hc | ⟨j, v, h1, h2, h3⟩
      · exact .inl hc
      · exact .inr ⟨j, v, h1, by rw [h2]; simp, h3⟩

theorem run_getObj_map {w : World} {b : Nat} {arr : Array MapEntry} {clk : Nat} (h : w.heap[b]? = some (.map arr clk)) : (getObj b).run P w = .ok (.map arr clk) w := by
  simp [getObj, Sem.run, h]

theorem run_lookup_pair (hK : PairKey P T K) {w : World} {b : Nat} {arr : Array MapEntry} {clk : Nat} {es : List ((Int × Int) × Int)} (h : w.heap[b]? = some (.map arr clk)) (he : PEnc arr es) (s d : Int) :
    (Instr.lookup T (.map (some b)) (pairV s d) true).run P w = .ok (.tuple #[.int .i64 ((pmLook es s d).getD 0), .bool (pmLook es s d).isSome]) w := by
  obtain ⟨E, hE, hz⟩ := hK.und
  obtain ⟨r, hr, hc⟩ := run_findKey hK s d arr.toList es he
  simp only [Instr.lookup, Sem.run_bind, run_underlying hE, Result.andThen_ok, run_getObj_map h, Sem.run_pure, hK.check, hr]
  rcases hc with ⟨h1, rfl, _⟩ | ⟨j, v, h1, rfl, _⟩
  · simp [hz, h1]
  · simp [h1]

theorem run_lookup_pair1 (hK : PairKey P T K) {w : World} {b : Nat} {arr : Array MapEntry} {clk : Nat} {es : List ((Int × Int) × Int)} (h : w.heap[b]? = some (.map arr clk)) (he : PEnc arr es) (s d : Int) :
    (Instr.lookup T (.map (some b)) (pairV s d) false).run P w = .ok (.int .i64 ((pmLook es s d).getD 0)) w := by
  obtain ⟨E, hE, hz⟩ := hK.und
  obtain ⟨r, hr, hc⟩ := run_findKey hK s d arr.toList es he
  simp only [Instr.lookup, Sem.run_bind, run_underlying hE, Result.andThen_ok, run_getObj_map h, Sem.run_pure, hK.check, hr]
  rcases hc with ⟨h1, rfl, _⟩ | ⟨j, v, h1, rfl, _⟩
  · simp [hz, h1]
  · simp [h1]

theorem run_mapUpdate_pair (hK : PairKey P T K) {arr : Array MapEntry} {es : List ((Int × Int) × Int)} (clk : Nat) (he : PEnc arr es) (s d u : Int) :
    ∃ arr' clk', PEnc arr' (pmPut es s d u) ∧ ∀ (w : World) (b : Nat), w.heap[b]? = some (.map arr clk) → (Instr.mapUpdate T (.map (some b)) (pairV s d) (.int .i64 u)).run P w = .ok () (w.putObj b (.map arr' clk')) := by
  obtain ⟨E, hE, hz⟩ := hK.und
  obtain ⟨r, hr, hc⟩ := run_findKey hK s d arr.toList es he
  have hset : ∀ (w : World) (b : Nat), w.heap[b]? = some (.map arr clk) → ∀ o : Obj, (setObj b o).run P w = .ok () (w.putObj b o) := by
    intro w b h o; simp [setObj, Sem.run, h, World.putObj]
  rcases hc with ⟨h1, rfl, hput⟩ | ⟨j, v, h1, rfl, hj, hkey, hput⟩
  · refine ⟨arr.push { key := pairV s d, val := .int .i64 u, born := clk }, clk + 1, ?_, ?_⟩
    · unfold PEnc at he ⊢
      rw [hput]
      simp [he]
    · intro w b h
      simp only [Instr.mapUpdate, Sem.run_bind, run_underlying hE, Result.andThen_ok, run_getObj_map h, hK.check, hr, hset _ _ h]
  · have hjl : j < es.length := by
      rcases Nat.lt_or_ge j es.length with h2 | h2
      · exact h2
      · rw [List.getElem?_eq_none h2] at hkey; cases hkey
    have hold : ((arr[j]?).map (·.key)).getD (pairV s d) = pairV s d := by
      have h2 := congrArg (fun l => l[j]?) he
      simp only [List.getElem?_map] at h2
      have h3 : es[j]? = some es[j] := List.getElem?_eq_getElem hjl
      rw [h3] at h2 hkey
      simp only [Option.map_some, Option.some.injEq] at hkey
      rw [Array.getElem?_toList] at h2
      cases ha : arr[j]? with
      | none => rfl
      | some e =>
        rw [ha] at h2
        simp only [Option.map_some, Option.some.injEq, Prod.mk.injEq] at h2
        simp [h2.1, hkey]
    refine ⟨arr.modify j fun e => { e with key := pairV s d, val := .int .i64 u }, clk, ?_, ?_⟩
    · unfold PEnc at he ⊢
      rw [hput u, Array.toList_modify]
      rw [List.map_set, ← he]
      apply List.ext_getElem?
      intro i
      simp only [List.getElem?_map, List.getElem?_set, List.getElem?_modify, List.length_map]
      by_cases hij : j = i
      · subst hij
        have hlt : j < arr.toList.length := hj
        rw [if_pos rfl, if_pos hlt, List.getElem?_eq_getElem hlt]
        simp
      · rw [if_neg hij]
        cases arr.toList[i]? <;> simp [hij]
    · intro w b h
      have hsb : Instr.sameBits 10000 (pairV s d) (pairV s d) = true := by simp [Instr.sameBits]
      simp only [Instr.mapUpdate, Sem.run_bind, run_underlying hE, Result.andThen_ok, run_getObj_map h, hK.check, hr, hold, Instr.keyThatStays, hsb, if_true, Sem.run_pure, hset _ _ h]

theorem putObj_heap_same {w : World} {b : Nat} (h : b < w.heap.size) (o : Obj) : (w.putObj b o).heap[b]? = some o := World.putObj_heap_same h
end

end Go.Proofs.YtidnopmjhhmedaaDoor
end

section
/- How much some ticks can add at most: reach, with what is known of ticks in a map. -/
set_option linter.unusedSimpArgs false
set_option linter.unusedVariables false
namespace Go.Proofs.YtidnopmjhhmedaaDoor
open Go.RowKit
attribute [local go_sem] Oper.semAt_some

theorem pairKey : PairKey Tryd.prog 78 108 where
  und := ⟨3, by kernel_rfl, fun w => by simp [go_sem]⟩
  str := ⟨Tryd.prog.fieldsOf 108, by kernel_rfl⟩
  check := fun w em s d => by kernel_rfl
  eq := fun w s d s' d' => by
    rw [Op.equal, Op.maxDepth]
    simp [go_sem]
    by_cases h : s = s' <;> by_cases h' : d = d' <;> simp [h, h']

/-- What is known of ticks is so. -/
def sumL (l : List Int) : Int := l.foldr (fun a b => a + b) 0
def capSum (each J : Int) (t : Nat) : Int := sumL (caps each J t)
def KnownOk (F S J : Int) (es : List ((Int × Int) × Int)) : Prop := ∀ (t : Nat) (v : Int), (pmLook es t 0 = some v → v = capSum F J t) ∧ (pmLook es t 1 = some v → v = capSum S J t)
def Memo (F S J : Int) (w : World) (b : Nat) : Prop := ∃ es, PMap w b es ∧ KnownOk F S J es

theorem keptK_b {St : Nat → Prop} {w : World} (hS : ∀ k, St k → k < w.heap.size) (W : World) (l : Nat) (o o' : Obj) (hl : w.heap.size ≤ l) (h : W.heap[l]? = some o) (_ : o.isCells = false) (_ : o.isWalk = false) : Kept St W (W.putObj l o') :=
  ⟨(grownBy_putObj' W l o').size, fun k hk => (World.putObj_heap_other (fun e => by have := hS k hk; omega))⟩

theorem most_stops (n B : Nat) (St : Nat → Prop) (F S J L H : Int) (m : Option Nat) (ticks : Nat) (way : Nat) (each : Int) (hway : way = 0 ∧ each = F ∨ way = 1 ∧ each = S) (ht : ticks ≤ 200) (hr : isRuleB F S J L H = true)
    (w : World) (hw : Ways w) (hS : St 0 ∧ St B ∧ St (B + 1) ∧ St (B + 2)) (hSl : ∀ k, St k → k < w.heap.size) (hg : w.cell? ⟨B, 0, none⟩ = some (.int .i64 F) ∧ w.cell? ⟨B, 1, none⟩ = some (.int .i64 S) ∧ w.cell? ⟨B, 2, none⟩ = some (.int .i64 J) ∧ w.cell? ⟨B, 3, none⟩ = some (.int .i64 L) ∧ w.cell? ⟨B, 4, none⟩ = some (.int .i64 H) ∧ w.cell? ⟨B, 5, none⟩ = some (.map m))
    (h1 : w.cell? ⟨B + 1, 0, none⟩ = some (.int .i64 ticks)) (h2 : w.cell? ⟨B + 2, 0, none⟩ = some (.int .i64 way)) :
    SeqStopsK Fence.wide n Tryd.prog 81 #[.pointer (some ⟨B + 1, 0, none⟩), .pointer (some ⟨B + 2, 0, none⟩), .pointer (some ⟨B, 0, none⟩)] (fun x : Int => #[Value.int .i64 x]) (Kept St) (fun ys => ys = caps each J ticks) (fun pre => pre <+: caps each J ticks) ticks w := by
  intro l I Ix W hW hI hIx hY h0
  refine most1_in n l B St F S J L H m ticks way each hway ht hr I Ix (fun xs A A' h hb => hI xs A A' none h ⟨hb.os, hb.tape, hb.output, hb.size, fun k hk _ => hb.block k hk⟩ (fun r e => by cases e)) hY W (hw.below hW) hS (fun k hk => Nat.lt_of_lt_of_le (hSl k hk) hW.size) ?_ (cell_below hW h1) (cell_below hW h2) h0
  exact ⟨cell_below hW hg.1, cell_below hW hg.2.1, cell_below hW hg.2.2.1, cell_below hW hg.2.2.2.1, cell_below hW hg.2.2.2.2.1, cell_below hW hg.2.2.2.2.2⟩


theorem total_from (xs : List Int) : ∀ a : Int, 0 ≤ a → (∀ x ∈ xs, 0 ≤ x ∧ x ≤ 500) → a + 500 * xs.length ≤ 1000000 → xs.foldl (fun a b => wrap64 (a + b)) a = a + sumL xs := by
  induction xs with
  | nil => intro a h0 h1 h2; simp [sumL]
  | cons x xs ih =>
    intro a h0 h1 h2
    have hx := h1 x (by simp)
    simp only [List.length_cons] at h2
    have hw : wrap64 (a + x) = a + x := IntWalk.wrap64_in _ (by constructor <;> omega)
    simp only [List.foldl_cons, hw]
    rw [ih (a + x) (by omega) (fun y hy => h1 y (by simp [hy])) (by omega)]
    simp [sumL]; omega
theorem total_small (xs : List Int) (h1 : ∀ x ∈ xs, 0 ≤ x ∧ x ≤ 500) (h2 : xs.length ≤ 200) : total xs = sumL xs := by
  unfold total
  rw [total_from xs 0 (by omega) h1 (by omega)]; omega
theorem capAt_bd {each J : Int} {ticks k : Nat} (h0 : 0 ≤ each) (h1 : each ≤ 500) (hJ : 1 ≤ J) (hk : k < ticks) : 0 ≤ capAt each J ticks k ∧ capAt each J ticks k ≤ 500 := by
  unfold capAt
  have a1 : 0 ≤ J * ((k : Int) + 1) := Int.mul_nonneg (by omega) (by omega)
  have a2 : 0 ≤ J * ((ticks : Int) - k) := Int.mul_nonneg (by omega) (by omega)
  omega
theorem caps_bd {each J : Int} {ticks : Nat} (h0 : 0 ≤ each) (h1 : each ≤ 500) (hJ : 1 ≤ J) : ∀ x ∈ caps each J ticks, 0 ≤ x ∧ x ≤ 500 := by
  intro x hx
  simp only [caps, List.mem_map, List.mem_range] at hx
  obtain ⟨k, hk, rfl⟩ := hx
  exact capAt_bd h0 h1 hJ hk
theorem total_caps {each J : Int} {ticks : Nat} (h0 : 0 ≤ each) (h1 : each ≤ 500) (hJ : 1 ≤ J) (ht : ticks ≤ 200) : total (caps each J ticks) = capSum each J ticks :=
  total_small _ (caps_bd h0 h1 hJ) (by simp [caps]; exact ht)

theorem isRuleB_spec {F S J L H : Int} (h : isRuleB F S J L H = true) : (0 ≤ F ∧ F ≤ 500) ∧ (0 ≤ S ∧ S ≤ 500) ∧ (1 ≤ J ∧ J ≤ 500) ∧ -100 ≤ L ∧ L ≤ H ∧ H ≤ 100 := by
  simp only [isRuleB, Bool.and_eq_true, lies_iff, decide_eq_true_eq] at h
  obtain ⟨⟨⟨⟨⟨h1, h2⟩, h3⟩, h4⟩, h5⟩, h6⟩ := h
  exact ⟨h1, h2, h3, h4, h5, h6⟩

theorem Tryd.info3 : (Tryd.prog.info? 3).map (fun i => (i.zero, i.size, i.bytes)) = some (some (.int .i64 0), 1, 8) := by kernel_rfl

theorem known_put {F S J : Int} {es : List ((Int × Int) × Int)} (h : KnownOk F S J es) (ticks way : Nat) (each : Int) (hway : way = 0 ∧ each = F ∨ way = 1 ∧ each = S) : KnownOk F S J (pmPut es ticks way (capSum each J ticks)) := by
  intro t v
  rw [pmLook_put, pmLook_put]
  refine ⟨fun hv => ?_, fun hv => ?_⟩
  · split at hv
    · rename_i hc
      have : t = ticks := by omega
      subst this
      rcases hway with ⟨rfl, rfl⟩ | ⟨rfl, rfl⟩
      · exact (Option.some.inj hv).symm
      · exact absurd hc.2 (by decide)
    · exact (h t v).1 hv
  · split at hv
    · rename_i hc
      have : t = ticks := by omega
      subst this
      rcases hway with ⟨rfl, rfl⟩ | ⟨rfl, rfl⟩
      · exact absurd hc.2 (by decide)
      · exact (Option.some.inj hv).symm
    · exact (h t v).2 hv

/-- The world in which the loop begins. -/
def reachW (F S J L H : Int) (b ticks way : Nat) (w : World) : World :=
  (((((w.alloc (.cells #[.int .i64 F, .int .i64 S, .int .i64 J, .int .i64 L, .int .i64 H, .map (some b)] 80)).alloc (.cells #[.int .i64 ticks, .int .i64 way] 108)).alloc (.cells #[.slice none 0 0] 26)).alloc
    (.cells #[.int .i64 F, .int .i64 S, .int .i64 J, .int .i64 L, .int .i64 H, .map (some b)] 80)).alloc (.cells #[.int .i64 ticks] 3)).alloc (.cells #[.int .i64 way] 3)
structure ReachW (F S J L H : Int) (b ticks way : Nat) (w W : World) : Prop where
  bel : Below w.heap.size w W
  size : W.heap.size = w.heap.size + 6
  box : Boxed W (w.heap.size + 1 + 1) 26 (.slice none 0 0)
  rule : W.cell? ⟨w.heap.size + 3, 0, none⟩ = some (.int .i64 F) ∧ W.cell? ⟨w.heap.size + 3, 1, none⟩ = some (.int .i64 S) ∧ W.cell? ⟨w.heap.size + 3, 2, none⟩ = some (.int .i64 J) ∧ W.cell? ⟨w.heap.size + 3, 3, none⟩ = some (.int .i64 L) ∧ W.cell? ⟨w.heap.size + 3, 4, none⟩ = some (.int .i64 H) ∧ W.cell? ⟨w.heap.size + 3, 5, none⟩ = some (.map (some b))
  tk : W.cell? ⟨w.heap.size + 3 + 1, 0, none⟩ = some (.int .i64 ticks)
  wy : W.cell? ⟨w.heap.size + 3 + 2, 0, none⟩ = some (.int .i64 way)
  own : W.cell? ⟨w.heap.size, 5, none⟩ = some (.map (some b))
  key : W.cell? ⟨w.heap.size + 1, 0, none⟩ = some (.int .i64 ticks) ∧ W.cell? ⟨w.heap.size + 1, 1, none⟩ = some (.int .i64 way)
theorem reachW_is (F S J L H : Int) (b ticks way : Nat) (w : World) : ReachW F S J L H b ticks way w (reachW F S J L H b ticks way w) := by
  unfold reachW
  refine ⟨?_, by simp, ?_, ?_, ?_, ?_, ?_, ?_⟩
  · repeat with_reducible (first | exact Below.refl _ _ | refine Below.alloc ?_ (by simp <;> omega) _)
  · have h := Boxed.new ((w.alloc (.cells #[.int .i64 F, .int .i64 S, .int .i64 J, .int .i64 L, .int .i64 H, .map (some b)] 80)).alloc (.cells #[.int .i64 ticks, .int .i64 way] 108)) 26 (.slice none 0 0)
    rw [World.size_alloc, World.size_alloc] at h
    exact ((h.alloc _).alloc _).alloc _
  all_goals simp [go_sem]

/-- The world behind a call that may have written what is known, and nothing else. -/
def MemoPost (F S J : Int) (b : Nat) (w w' : World) : Prop := w.grownBy w' (some b) ∧ Memo F S J w' b

theorem nums_of_row {w : World} {base : Nat} {v : Value} {xs : List Int} (h : w.ownsRow base 3 1 v xs.length (xs.map (Value.int .i64))) (hl : xs.length ≤ 17592186044416) : ∃ a cap, v = .slice a xs.length cap ∧ Nums w a xs.length xs := by
  have h2 := h.2
  rcases h2 with ⟨rfl, h0⟩ | ⟨g, cap, cur, rfl, _, _⟩
  · exact ⟨none, 0, by rw [h0], rfl, hl, fun hn => by omega⟩
  · refine ⟨_, cap, rfl, rfl, hl, fun hn => ⟨g, 0, rfl, fun j hj => ?_⟩⟩
    rw [Nat.zero_add, h.cellAt j (by omega), List.getElem?_map, List.getElem?_eq_getElem hj]
    simp [List.getD_eq_getElem?_getD, hj]

/-- 'out = append(out, x)' in a round: the box, the row, and what is kept. -/
theorem appended_kept {W w1 : World} {n₀ n₁ B : Nat} {t e : TypeId} {size : Nat} {v v' : Value} {k m : Nat} {xs ys : List Value} {tmp : Obj} {St : Nat → Prop}
    (hv : Boxed W B t v) (hte : t ≠ e) (hrow : W.ownsRow n₀ e size v k xs) (hn₀ : n₀ ≤ W.heap.size) (hSB : ¬ St B) (hSn : ∀ k, St k → k < n₀) (h1 : n₁ ≤ n₀) (h1B : n₁ ≤ B)
    (hown' : w1.ownsRow n₀ e size v' m ys) (hgrow : (W.alloc tmp).grownBy w1 v.ownBlock) :
    Boxed w1 B t v ∧ Boxed (w1.setCell ⟨B, 0, none⟩ v') B t v' ∧ (w1.setCell ⟨B, 0, none⟩ v').ownsRow n₀ e size v' m ys ∧ KeepsOthers W (w1.setCell ⟨B, 0, none⟩ v') ∧ Kept St W (w1.setCell ⟨B, 0, none⟩ v') ∧ Below n₁ W (w1.setCell ⟨B, 0, none⟩ v') := by
  have hv1 : Boxed w1 B t v := (hv.alloc tmp).kept hgrow (hv.not_row hte hrow)
  have hrn : ∀ j, v.ownBlock = some j → n₀ ≤ j := by
    intro j ej
    rcases hrow.2 with ⟨rfl, _⟩ | ⟨g, cap, cur, rfl, hb, _, _⟩
    · simp [Value.ownBlock] at ej
    · obtain rfl : g = j := by simpa [Value.ownBlock] using ej
      exact hb
  have hbel : Below n₀ W w1 := ((Below.refl n₀ W).alloc hn₀ tmp).grown hgrow (by simp; omega) hrn
  refine ⟨hv1, hv1.set v', hown'.kept (grownBy_setCell' w1 B v') (.inr (hv1.not_row hte hown').symm), ?_, ?_, ?_⟩
  · refine ((KeepsOthers.alloc W tmp).trans (KeepsOthers.of_grownBy hgrow fun j o ej hj => ?_)).trans (KeepsOthers.setCell _ _ _)
    rcases (hrow.alloc tmp).2 with ⟨rfl, _⟩ | ⟨g, cap, cur, rfl, _, hgb, _⟩
    · simp [Value.ownBlock] at ej
    · obtain rfl : g = j := by simpa [Value.ownBlock] using ej
      rw [hgb] at hj; cases hj; rfl
  · refine ⟨Nat.le_trans hbel.size (grownBy_setCell' w1 B v').size, fun k hk => ?_⟩
    rw [Below.heap_setCell _ _ _ _ (fun e => hSB (by rw [← show k = B from e]; exact hk))]
    exact hbel.block k (hSn k hk)
  · exact (hbel.mono h1).setCell (p := ⟨B, 0, none⟩) h1B v'

set_option maxRecDepth 100000 in
set_option maxHeartbeats 2000000 in
theorem reach_any (F S J L H : Int) (b : Nat) (ticks way : Nat) (each : Int) (hway : way = 0 ∧ each = F ∨ way = 1 ∧ each = S) (ht : ticks ≤ 200) (hr : isRuleB F S J L H = true) (w : World) (hw : Ways w) (hM : Memo F S J w b) :
    Calls Tryd.prog 67 #[.agg #[.int .i64 F, .int .i64 S, .int .i64 J, .int .i64 L, .int .i64 H, .map (some b)], .int .i64 ticks, .int .i64 way] w fun e w' => e = .returned (.int .i64 (capSum each J ticks)) ∧ MemoPost F S J b w w' := by
  obtain ⟨es, ⟨arr, clk, hb, hE⟩, hK⟩ := hM
  have hbl : b < w.heap.size := (Array.getElem?_eq_some_iff.1 hb).1
  have hlook := run_lookup_pair pairKey (w := (w.alloc (.cells #[.int .i64 F, .int .i64 S, .int .i64 J, .int .i64 L, .int .i64 H, .map (some b)] 80)).alloc (.cells #[.int .i64 ticks, .int .i64 way] 108))
    ((Below.heap_alloc _ _ _ (by simp; omega)).trans ((Below.heap_alloc _ _ _ hbl).trans hb)) hE ticks way
  cases hl : pmLook es ticks way with
  | some v =>
    have hv : v = capSum each J ticks := by
      rcases hway with ⟨rfl, rfl⟩ | ⟨rfl, rfl⟩
      · exact (hK ticks v).1 hl
      · exact (hK ticks v).2 hl
    rw [hl] at hlook
    simp only [Option.getD_some, Option.isSome_some] at hlook
    clear hl
    go_enter Tryd.func67, Tryd.ntmps67
    go_wp2
    go_ret
    refine ⟨by rw [← hv]; rfl, ?_, es, ⟨arr, clk, (Below.heap_alloc _ _ _ (by simp; omega)).trans ((Below.heap_alloc _ _ _ hbl).trans hb), hE⟩, hK⟩
    have hbb := ((Below.refl w.heap.size w).alloc (Nat.le_refl _) (.cells #[.int .i64 F, .int .i64 S, .int .i64 J, .int .i64 L, .int .i64 H, .map (some b)] 80)).alloc (by simp) (.cells #[.int .i64 ticks, .int .i64 way] 108)
    exact ⟨hbb.os, hbb.tape, hbb.output, hbb.size, fun k hk _ => hbb.block k hk⟩
  | none =>
    rw [hl] at hlook
    simp only [Option.getD_none, Option.isSome_none] at hlook
    refine (callsIn_wide (n := 5)).1 ?_
    refine callsIn_of_wp_marks Tryd.func67 rfl trivial ?_ rfl
    simp only [Tryd.ntmps67, List.size_toArray, List.length_cons, List.length_nil, Nat.reduceAdd, Nat.reduceSub, Array.replicate_succ, Array.replicate_zero, List.push_toArray, List.append_toArray, List.nil_append, List.cons_append]
    refine wpIn_wide.2 ?_
    go_wp2_with (go_at_call 65; refine (most_any _ _ _ _ rfl).mono ?_; rintro e w' ⟨rfl, rfl⟩)
    change Code.wp Tryd.prog _ _ _ (reachW F S J L H b ticks way w)
    have hf := reachW_is F S J L H b ticks way w
    have hw0 := hw.below hf.bel
    generalize reachW F S J L H b ticks way w = W0 at hf hw0 ⊢
    obtain ⟨i0, hi, hz0, hz1, hz2⟩ := info_parts Tryd.info3
    have hsz := hf.size
    refine (wpIn_wide (n := 5)).1 ?_
    refine wpIn_rangeFunc_ownG rfl (by decide) (gf := 81) (lb := #[.pointer (some ⟨w.heap.size + 3 + 1, 0, none⟩), .pointer (some ⟨w.heap.size + 3 + 2, 0, none⟩), .pointer (some ⟨w.heap.size + 3, 0, none⟩)]) rfl trivial (enters_of Tryd.func81 (by kernel_rfl) rfl)
      (most_stops _ (w.heap.size + 3) (fun k => k < w.heap.size ∨ (w.heap.size + 3 ≤ k ∧ k < w.heap.size + 6)) F S J L H (some b) ticks way each hway ht hr W0 hw0 ⟨.inl (by omega), .inr (by omega), .inr (by omega), .inr (by omega)⟩ (fun k hk => by omega) hf.rule hf.tk hf.wy)
      Kept.trans (keptK_b (fun k hk => by omega)) (Below.refl _ _) (fun _ => rfl)
      (fun pre W => (∃ v, Boxed W (w.heap.size + 1 + 1) 26 v ∧ W.ownsRow (w.heap.size + 6) 3 1 v pre.length (pre.map (Value.int .i64)) ∧ True) ∧ Below (w.heap.size + 1 + 1) W0 W)
      (fun _ _ _ => False) ?hI (fun _ _ _ _ _ hs _ _ => hs) ?h0 (fun x => { tmps := #[.agg #[.int .i64 F, .int .i64 S, .int .i64 J, .int .i64 L, .int .i64 H, .map (some b)], .int .i64 ticks, .int .i64 way, .pointer (some ⟨w.heap.size, 0, none⟩), undef, undef, .int .i64 0, .pointer (some ⟨w.heap.size + 1, 0, none⟩), .int .i64 0, .bool false, .pointer (some ⟨w.heap.size + 1 + 1, 0, none⟩), .int .i64 x, .int .i64 ticks, .int .i64 way, .agg #[.int .i64 ticks, .int .i64 way], .tuple #[.int .i64 0, .bool false], .pointer (some ⟨w.heap.size, 5, none⟩), .map (some b), .agg #[.int .i64 ticks, .int .i64 way], .tuple #[.int .i64 0, .bool false], .int .i64 0, .bool false, .bool false, undef, .agg #[.int .i64 F, .int .i64 S, .int .i64 J, .int .i64 L, .int .i64 H, .map (some b)], .int .i64 ticks, .int .i64 way, .func (.func 81) #[] #[.pointer (some ⟨w.heap.size + 1 + 1 + 1 + 1, 0, none⟩), .pointer (some ⟨w.heap.size + 1 + 1 + 1 + 2, 0, none⟩), .pointer (some ⟨w.heap.size + 1 + 1 + 1, 0, none⟩)], .int .i64 x, undef, undef, undef, undef, undef, undef, undef, undef, undef, undef, undef, undef, undef], defers := [] }) ?assign ?body ?done ?stop
    case hI => exact OwnFrom.and (Own.from (holdsRow_own (w.heap.size + 6) (w.heap.size + 1 + 1) 26 3 1 (fun pre : List Int => pre.length) (fun pre => pre.map (Value.int .i64)) (fun _ _ => True)) _) (ownFrom_below (by omega) (by omega))
    case h0 => exact ⟨⟨_, hf.box, World.ownsRow_nil _ _ _ _, trivial⟩, Below.refl _ _⟩
    case assign =>
      intro l x W K hK
      gi_wp2
      exact hK
    case body =>
      rintro l pre x W ⟨⟨v, hv, hrow, _⟩, hB⟩ hlt
      have hc := hv.cell
      have hBW := hB.size
      gi_wp2_with (gi_at_builtin; refine wpListIn_append_own _ rfl _ _ 26 rfl (w.heap.size + 6) 3 i0 (.int .i64 0) 1 8 Tryd.underlying26 hi hz0 hz1 hz2 rfl (by decide) _ _ _ rfl (hrow.alloc _) ⟨W.heap.size, 0, none⟩ 1 1 [.int .i64 x] rfl rfl (cell_one_new _ _ _) (by simp [Value.oneCell']) (by unfold maxLen; omega) (by omega) (by simp; omega) ?_; intro v' w1 hown' hgrow _; obtain ⟨g', cap', rfl⟩ := ownsRow_succ hown'; obtain ⟨hv1, hv2, hr2, hk2, hs2, hb2⟩ := appended_kept (St := fun k => k < w.heap.size ∨ w.heap.size + 3 ≤ k ∧ k < w.heap.size + 6) (n₁ := w.heap.size + 1 + 1) hv (by decide) hrow (by omega) (by omega) (fun k hk => by omega) (by omega) (by omega) hown' hgrow; have hc1 := hv1.cell; have hf1 := hv1.frozen)
      exact ⟨hk2.from _, hs2, ⟨_, hv2, by simpa using hr2, trivial⟩, hB.trans hb2⟩
    case stop =>
      rintro D c pre W _ _ h _
      exact h.elim
    case done =>
      rintro D ys W hD rfl ⟨⟨v, hv, hrow, _⟩, hB⟩ hK1
      obtain ⟨a, cap, rfl, hN⟩ := nums_of_row hrow (by simp [caps]; omega)
      obtain ⟨n, hn⟩ : ∃ n, n = (caps each J ticks).length := ⟨_, rfl⟩
      rw [← hn] at hN hv
      have hc26 := hv.cell
      have cM : W.heap[b]? = some (.map arr clk) := (hB.block b (by omega)).trans ((hf.bel.block b hbl).trans hb)
      have cO : W.cell? ⟨w.heap.size, 5, none⟩ = some (.map (some b)) := (hB.cell (p := ⟨w.heap.size, 5, none⟩) (by show w.heap.size < _; omega)).trans hf.own
      have cK0 : W.cell? ⟨w.heap.size + 1, 0, none⟩ = some (.int .i64 ticks) := (hB.cell (p := ⟨w.heap.size + 1, 0, none⟩) (by show w.heap.size + 1 < _; omega)).trans hf.key.1
      have cK1 : W.cell? ⟨w.heap.size + 1, 1, none⟩ = some (.int .i64 way) := (hB.cell (p := ⟨w.heap.size + 1, 1, none⟩) (by show w.heap.size + 1 < _; omega)).trans hf.key.2
      obtain ⟨arr', clk', hE', hupd⟩ := run_mapUpdate_pair pairKey clk hE ticks way (capSum each J ticks)
      have hTC : total (caps each J ticks) = capSum each J ticks := by
        obtain ⟨hF, hS, hJ, _⟩ := isRuleB_spec hr
        rcases hway with ⟨rfl, rfl⟩ | ⟨rfl, rfl⟩
        · exact total_caps hF.1 hF.2 hJ.1 ht
        · exact total_caps hS.1 hS.2 hJ.1 ht
      have hsum := fun W1 (h : Nums W1 a n (caps each J ticks)) => sum_any a n cap (caps each J ticks) W1 h
      rw [hTC] at hsum
      have HTC := Lib.hid hTC; clear hTC
      have Hn := Lib.hid hn; clear hn
      have hsum1 := hsum W.drew hN
      have hupd1 := hupd W.drew b cM
      have hP : ∀ p : Addr, p.block ≠ b → (W.drew.putObj b (.map arr' clk')).cell? p = W.cell? p := fun p hp => World.cell?_of_block (World.putObj_heap_other hp)
      have cO2 := (hP ⟨w.heap.size, 5, none⟩ (by show w.heap.size ≠ b; omega)).trans cO
      have cK02 := (hP ⟨w.heap.size + 1, 0, none⟩ (by show w.heap.size + 1 ≠ b; omega)).trans cK0
      have cK12 := (hP ⟨w.heap.size + 1, 1, none⟩ (by show w.heap.size + 1 ≠ b; omega)).trans cK1
      have c262 := (hP ⟨w.heap.size + 1 + 1, 0, none⟩ (by show w.heap.size + 1 + 1 ≠ b; omega)).trans hc26
      clear hP hsum hupd
      go_wp2_with fail
      go_region_held3 (fun W1 : World => W1.cell? ⟨w.heap.size, 5, none⟩ = some (.map (some b)) ∧ W1.cell? ⟨w.heap.size + 1, 0, none⟩ = some (.int .i64 ticks) ∧ W1.cell? ⟨w.heap.size + 1, 1, none⟩ = some (.int .i64 way) ∧ W1.cell? ⟨w.heap.size + 1 + 1, 0, none⟩ = some (.slice a n cap)) (first | exact ⟨cO, cK0, cK1, hc26⟩ | exact ⟨cO2, cK02, cK12, c262⟩) (first | (go_at_call 58; refine hsum1.mono ?_; rintro e w' ⟨rfl, rfl⟩))
      have hbW : b < W.heap.size := (Array.getElem?_eq_some_iff.1 cM).1
      have cM5 : (W.drew.putObj b (.map arr' clk')).heap[b]? = some (.map arr' clk') := World.putObj_heap_same hbW
      have hlook5 := run_lookup_pair1 pairKey (w := W.drew.putObj b (.map arr' clk')) cM5 hE' ticks way
      rw [pmLook_put, if_pos ⟨rfl, rfl⟩] at hlook5
      simp only [Option.getD_some] at hlook5
      have hDb : D ≠ b := by omega
      have hK5 : (W.drew.putObj b (.map arr' clk')).heap[D]? = some (.deferred (some [])) := (World.putObj_heap_other hDb).trans hK1
      have hG : ∀ k, k < w.heap.size → k ≠ b → (W.drew.putObj b (.map arr' clk')).heap[k]? = w.heap[k]? := fun k hk hkb => (World.putObj_heap_other hkb).trans ((hB.block k (by omega)).trans (hf.bel.block k hk))
      have hzz : W.heap.size = (W.drew.putObj b (.map arr' clk')).heap.size := by show W.heap.size = (W.heap.setIfInBounds b _).size; simp
      have hos : (W.drew.putObj b (.map arr' clk')).os = w.os ∧ (W.drew.putObj b (.map arr' clk')).tape = w.tape ∧ (W.drew.putObj b (.map arr' clk')).output = w.output := ⟨hB.os.trans hf.bel.os, hB.tape.trans hf.bel.tape, hB.output.trans hf.bel.output⟩
      have HzW := Lib.hid (Nat.le_trans hf.bel.size (Nat.le_trans hB.size (Nat.le_of_eq hzz)))
      have Hos := Lib.hid hos
      have HG := Lib.hid hG
      have HM5 := Lib.hid cM5
      have HK5 := Lib.hid hK5
      clear hzz hos hG cM5 hK5 hupd1 hsum1 hK1 hB hrow hv hf hw0
      generalize W.drew.putObj b (.map arr' clk') = W5 at *
      go_wp2
      refine ⟨by simp, .inl ⟨_, _, rfl, run_takeDeferred HK5.out, ?_⟩⟩
      refine ⟨_, results_tmp rfl _ _ _, rfl, ⟨⟨?_, ?_, ?_, ?_, ?_⟩, ?_⟩⟩
      · exact Hos.out.1
      · exact Hos.out.2.1
      · exact Hos.out.2.2
      · exact Nat.le_trans HzW.out (grownBy_putObj' W5 D (.deferred none)).size
      · intro k hk hkb
        have hkb' : k ≠ b := fun e => hkb (by rw [e])
        exact (World.putObj_heap_other (by omega)).trans (HG.out k hk hkb')
      · exact ⟨_, ⟨arr', clk', (World.putObj_heap_other (Ne.symm hDb)).trans HM5.out, hE'⟩, known_put hK ticks way each hway⟩

end Go.Proofs.YtidnopmjhhmedaaDoor
end

section
/- enough, fewest. -/
set_option linter.unusedSimpArgs false
set_option linter.unusedVariables false
namespace Go.Proofs.YtidnopmjhhmedaaDoor
open Go.RowKit

theorem cell_grown {W W1 : World} {b : Nat} {p : Addr} {v : Value} (h : W.grownBy W1 (some b)) (hne : p.block ≠ b) (hc : W.cell? p = some v) : W1.cell? p = some v :=
  (World.cell?_of_block (w := W) (h.block p.block (World.block_lt_of_cell? W p hc) (fun e => hne (Option.some.inj e)))).trans hc
theorem grown_trans {A B C : World} {b : Nat} (h : A.grownBy B (some b)) (k : B.grownBy C (some b)) : A.grownBy C (some b) :=
  ⟨k.os.trans h.os, k.tape.trans h.tape, k.output.trans h.output, Nat.le_trans h.size k.size, fun i hi hn => (k.block i (Nat.lt_of_lt_of_le hi h.size) hn).trans (h.block i hi hn)⟩
theorem grown_below {A B : World} {b : Nat} (h : Below A.heap.size A B) : A.grownBy B (some b) := ⟨h.os, h.tape, h.output, h.size, fun k hk _ => h.block k hk⟩
theorem below_of_grown {A B : World} {b n : Nat} (h : A.grownBy B (some b)) (hn : n ≤ b) (hA : n ≤ A.heap.size) : Below n A B := ⟨h.os, h.tape, h.output, h.size, fun k hk => h.block k (by omega) (fun e => by have := Option.some.inj e; omega)⟩
theorem Ways.grown {A B : World} {b : Nat} (h : Ways A) (hg : A.grownBy B (some b)) (hb : b ≠ 0) : Ways B := ⟨cell_grown hg (Ne.symm hb) h.1, cell_grown hg (Ne.symm hb) h.2⟩
theorem Memo.below {F S J : Int} {w w' : World} {b : Nat} (h : Memo F S J w b) (hb : Below w.heap.size w w') : Memo F S J w' b := by
  obtain ⟨es, h1, h2⟩ := h; exact ⟨es, h1.below hb, h2⟩
theorem Memo.lt {F S J : Int} {w : World} {b : Nat} (h : Memo F S J w b) : b < w.heap.size := by obtain ⟨es, h1, h2⟩ := h; exact h1.lt

/-- What holds of the world between two calls of reach. -/
structure MW (F S J : Int) (b : Nat) (w W : World) : Prop where
  memo : Memo F S J W b
  ways : Ways W
  gr : w.grownBy W (some b)
theorem MW.next {F S J : Int} {b : Nat} {w W W1 : World} (h : MW F S J b w W) (hb : b ≠ 0) (hp : MemoPost F S J b W W1) : MW F S J b w W1 := ⟨hp.2, h.ways.grown hp.1 hb, grown_trans h.gr hp.1⟩
theorem MW.below {F S J : Int} {b : Nat} {w W W1 : World} (h : MW F S J b w W) (hb : Below W.heap.size W W1) : MW F S J b w W1 := ⟨h.memo.below hb, h.ways.below hb, grown_trans h.gr (grown_below hb)⟩
theorem MW.refl {F S J : Int} {b : Nat} {w : World} (h : Memo F S J w b) (hw : Ways w) : MW F S J b w w := ⟨h, hw, grown_below (Below.refl _ _)⟩

/-- The cells of a rule in a block of its own. -/
abbrev RuleAt (W : World) (B : Nat) (F S J L H : Int) (b : Nat) : Prop := W.cell? ⟨B, 0, none⟩ = some (.int .i64 F) ∧ W.cell? ⟨B, 1, none⟩ = some (.int .i64 S) ∧ W.cell? ⟨B, 2, none⟩ = some (.int .i64 J) ∧ W.cell? ⟨B, 3, none⟩ = some (.int .i64 L) ∧ W.cell? ⟨B, 4, none⟩ = some (.int .i64 H) ∧ W.cell? ⟨B, 5, none⟩ = some (.map (some b))
theorem RuleAt.grown {W W1 : World} {B b : Nat} {F S J L H : Int} (h : RuleAt W B F S J L H b) (hg : W.grownBy W1 (some b)) (hne : B ≠ b) : RuleAt W1 B F S J L H b :=
  ⟨cell_grown hg hne h.1, cell_grown hg hne h.2.1, cell_grown hg hne h.2.2.1, cell_grown hg hne h.2.2.2.1, cell_grown hg hne h.2.2.2.2.1, cell_grown hg hne h.2.2.2.2.2⟩

theorem RuleAt.next {W W1 : World} {B b : Nat} {F S J L H : Int} (h : RuleAt W B F S J L H b) (hp : MemoPost F S J b W W1) (hne : B ≠ b) : RuleAt W1 B F S J L H b := h.grown hp.1 hne
theorem RuleAt.setCell {W : World} {B b : Nat} {F S J L H : Int} {p : Addr} {v : Value} (h : RuleAt W B F S J L H b) (hne : B ≠ p.block) : RuleAt (W.setCell p v) B F S J L H b := by
  have hh : ∀ o, (W.setCell p v).cell? ⟨B, o, none⟩ = W.cell? ⟨B, o, none⟩ := fun o => World.cell?_of_block (w := W) (Below.heap_setCell _ _ _ _ hne)
  exact ⟨(hh 0).trans h.1, (hh 1).trans h.2.1, (hh 2).trans h.2.2.1, (hh 3).trans h.2.2.2.1, (hh 4).trans h.2.2.2.2.1, (hh 5).trans h.2.2.2.2.2⟩
theorem MW.setCell {F S J : Int} {b : Nat} {w W : World} {p : Addr} {v : Value} (h : MW F S J b w W) (hp : w.heap.size ≤ p.block) (hpb : p.block ≠ b) (h0 : p.block ≠ 0) : MW F S J b w (W.setCell p v) := by
  obtain ⟨es, ⟨arr, clk, h1, h2⟩, h3⟩ := h.memo
  have hb := (Below.refl p.block W).setCell (p := p) (Nat.le_refl _) v
  exact ⟨⟨es, ⟨arr, clk, (Below.heap_setCell _ _ _ _ (Ne.symm hpb)).trans h1, h2⟩, h3⟩,
    ⟨(World.cell?_of_block (w := W) (a := ⟨0, 0, none⟩) (Below.heap_setCell _ _ _ _ (Ne.symm h0))).trans h.ways.1, (World.cell?_of_block (w := W) (a := ⟨0, 1, none⟩) (Below.heap_setCell _ _ _ _ (Ne.symm h0))).trans h.ways.2⟩,
    ⟨hb.os.trans h.gr.os, hb.tape.trans h.gr.tape, hb.output.trans h.gr.output, Nat.le_trans h.gr.size hb.size, fun k hk hn => (Below.heap_setCell _ _ _ _ (by omega)).trans (h.gr.block k hk hn)⟩⟩

theorem sumL_bd (xs : List Int) (h1 : ∀ x ∈ xs, 0 ≤ x ∧ x ≤ 500) : 0 ≤ sumL xs ∧ sumL xs ≤ 500 * xs.length := by
  induction xs with
  | nil => simp [sumL]
  | cons x xs ih =>
    have h2 := ih (fun y hy => h1 y (by simp [hy]))
    have hx := h1 x (by simp)
    simp only [sumL, List.foldr_cons, List.length_cons] at h2 ⊢
    omega
theorem capSum_bd {each J : Int} {t : Nat} (h0 : 0 ≤ each) (h1 : each ≤ 500) (hJ : 1 ≤ J) (ht : t ≤ 200) : 0 ≤ capSum each J t ∧ capSum each J t ≤ 100000 := by
  have h := sumL_bd (caps each J t) (caps_bd h0 h1 hJ)
  simp [caps] at h
  unfold capSum caps
  omega

theorem reach_slow (F S J L H : Int) (b : Nat) (ticks : Nat) (ht : ticks ≤ 200) (hr : isRuleB F S J L H = true) (w : World) (hw : Ways w) (hM : Memo F S J w b) :
    Calls Tryd.prog 67 #[.agg #[.int .i64 F, .int .i64 S, .int .i64 J, .int .i64 L, .int .i64 H, .map (some b)], .int .i64 ticks, .int .i64 1] w fun e w' => e = .returned (.int .i64 (capSum S J ticks)) ∧ MemoPost F S J b w w' :=
  reach_any F S J L H b ticks 1 S (.inr ⟨rfl, rfl⟩) ht hr w hw hM
theorem reach_fast (F S J L H : Int) (b : Nat) (ticks : Nat) (ht : ticks ≤ 200) (hr : isRuleB F S J L H = true) (w : World) (hw : Ways w) (hM : Memo F S J w b) :
    Calls Tryd.prog 67 #[.agg #[.int .i64 F, .int .i64 S, .int .i64 J, .int .i64 L, .int .i64 H, .map (some b)], .int .i64 ticks, .int .i64 0] w fun e w' => e = .returned (.int .i64 (capSum F J ticks)) ∧ MemoPost F S J b w w' :=
  reach_any F S J L H b ticks 0 F (.inl ⟨rfl, rfl⟩) ht hr w hw hM

def enoughB (F S J off : Int) (t : Nat) : Bool := lies (-off) (-(capSum S J t)) (capSum F J t)

set_option maxRecDepth 100000 in
set_option maxHeartbeats 1000000 in
theorem enough_any (F S J L H : Int) (b : Nat) (off : Int) (ticks : Nat) (ht : ticks ≤ 200) (ho : -20000 ≤ off ∧ off ≤ 20000) (hr : isRuleB F S J L H = true) (w : World) (hw : Ways w) (hM : Memo F S J w b) (hb0 : b ≠ 0) :
    Calls Tryd.prog 79 #[.agg #[.int .i64 F, .int .i64 S, .int .i64 J, .int .i64 L, .int .i64 H, .map (some b)], .int .i64 off, .int .i64 ticks] w fun e w' => e = .returned (.bool (enoughB F S J off ticks)) ∧ MemoPost F S J b w w' := by
  obtain ⟨hF, hS, hJ, _⟩ := isRuleB_spec hr
  have hbS := capSum_bd (each := S) (t := ticks) hS.1 hS.2 hJ.1 ht
  have hw1 : IntKind.i64.wrap (-off) = -off := IntWalk.i64_in _ (by constructor <;> omega)
  have hw2 : IntKind.i64.wrap (-(capSum S J ticks)) = -(capSum S J ticks) := IntWalk.i64_in _ (by constructor <;> omega)
  have hbl := hM.lt
  have hb1 : Below w.heap.size w (w.alloc (.cells #[.int .i64 F, .int .i64 S, .int .i64 J, .int .i64 L, .int .i64 H, .map (some b)] 80)).drew := ((Below.refl _ _).alloc (Nat.le_refl _) _).drew
  have hMW := (MW.refl hM hw).below hb1
  have hRA : RuleAt (w.alloc (.cells #[.int .i64 F, .int .i64 S, .int .i64 J, .int .i64 L, .int .i64 H, .map (some b)] 80)).drew w.heap.size F S J L H b := by simp [RuleAt, go_sem]
  go_enter Tryd.func79, Tryd.ntmps79
  go_wp2_with fail
  go_region_held3 (fun W1 : World => (W1.cell? ⟨w.heap.size, 0, none⟩ = some (.int .i64 F) ∧ W1.cell? ⟨w.heap.size, 1, none⟩ = some (.int .i64 S) ∧ W1.cell? ⟨w.heap.size, 2, none⟩ = some (.int .i64 J) ∧ W1.cell? ⟨w.heap.size, 3, none⟩ = some (.int .i64 L) ∧ W1.cell? ⟨w.heap.size, 4, none⟩ = some (.int .i64 H) ∧ W1.cell? ⟨w.heap.size, 5, none⟩ = some (.map (some b))) ∧ MW F S J b w W1)
    (first | exact hy | exact ⟨RuleAt.grown hx.1 hp.1 (by omega), MW.next hx.2 hb0 hp⟩ | exact ⟨hRA, hMW⟩)
    (first | (go_at_call_of 67 (Value.int IntKind.i64 1); rename_i hx _ _; refine (reach_slow F S J L H b ticks ht hr _ hx.2.ways hx.2.memo).mono ?_; rintro e w1 ⟨rfl, hp⟩) | (go_at_call 67; rename_i hx _ _; refine (reach_fast F S J L H b ticks ht hr _ hx.2.ways hx.2.memo).mono ?_; rintro e w1 ⟨rfl, hp⟩) | (go_at_call 57; rename_i hy _ _; refine (lies_any _ _ _ _).mono ?_; rintro e w' ⟨rfl, rfl⟩))
  rename_i hh
  go_wp2
  go_ret
  exact ⟨rfl, hh.2.gr, hh.2.memo⟩

/-- How few ticks are enough, from t on: d more are tried. -/
def fewFrom (F S J off : Int) : Nat → Nat → Int
  | 0, _ => -1
  | d + 1, t => if enoughB F S J off t = true then t else fewFrom F S J off d (t + 1)

/-- What the closure that calls itself captures. -/
def TryAt (W : World) (A B C : Nat) (F S J L H : Int) (b : Nat) (off : Int) : Prop :=
  W.cell? ⟨A, 0, none⟩ = some (.func (.func 79) #[.agg #[.int .i64 F, .int .i64 S, .int .i64 J, .int .i64 L, .int .i64 H, .map (some b)]] #[]) ∧ W.cell? ⟨B, 0, none⟩ = some (.int .i64 off) ∧
  W.cell? ⟨C, 0, none⟩ = some (.func (.func 80) #[] #[.pointer (some ⟨A, 0, none⟩), .pointer (some ⟨B, 0, none⟩), .pointer (some ⟨C, 0, none⟩)])
theorem TryAt.grown {W W1 : World} {A B C : Nat} {F S J L H : Int} {b : Nat} {off : Int} (h : TryAt W A B C F S J L H b off) (hg : W.grownBy W1 (some b)) (h1 : A ≠ b) (h2 : B ≠ b) (h3 : C ≠ b) : TryAt W1 A B C F S J L H b off :=
  ⟨cell_grown hg h1 h.1, cell_grown hg h2 h.2.1, cell_grown hg h3 h.2.2⟩

set_option maxRecDepth 100000 in
set_option maxHeartbeats 1000000 in
theorem try_any (F S J L H : Int) (b : Nat) (off : Int) (A B C : Nat) (ho : -20000 ≤ off ∧ off ≤ 20000) (hr : isRuleB F S J L H = true) (hb0 : b ≠ 0) (hA : A ≠ b) (hB : B ≠ b) (hC : C ≠ b) (d : Nat) :
    ∀ (t : Nat) (w : World), t + d = 201 → Ways w → Memo F S J w b → TryAt w A B C F S J L H b off →
    Calls Tryd.prog 80 #[.int .i64 t, .pointer (some ⟨A, 0, none⟩), .pointer (some ⟨B, 0, none⟩), .pointer (some ⟨C, 0, none⟩)] w fun e w' => e = .returned (.int .i64 (fewFrom F S J off d t)) ∧ MemoPost F S J b w w' := by
  induction d with
  | zero =>
    intro t w ht hw hM hT
    obtain rfl : t = 201 := by omega
    go_enter Tryd.func80, Tryd.ntmps80
    go_wp2_with fail
    go_ret
    exact ⟨rfl, grown_below (Below.refl _ _), hM⟩
  | succ d ih =>
    intro t w ht hw hM hT
    obtain ⟨hc1, hc2, hc3⟩ := hT
    have htt : (t : Int) ≤ 200 := by omega
    cases he : enoughB F S J off t with
    | true =>
      have HE := Lib.hid he
      have hen := enough_any F S J L H b off t (by omega) ho hr w hw hM hb0
      rw [he] at hen
      clear he ih
      go_enter Tryd.func80, Tryd.ntmps80
      go_wp2_with (go_at_call 79; refine hen.mono ?_; rintro e w' ⟨rfl, hp⟩)
      go_ret
      exact ⟨by simp [fewFrom, HE.out], by assumption⟩
    | false =>
      have HE := Lib.hid he
      have hen := enough_any F S J L H b off t (by omega) ho hr w hw hM hb0
      rw [he] at hen
      clear he
      have ih' := fun w => ih (t + 1) w (by omega)
      have e1 : ((t + 1 : Nat) : Int) = (t : Int) + 1 := by omega
      rw [e1] at ih'
      have IH := Lib.hid ih'
      clear ih ih' e1
      go_enter Tryd.func80, Tryd.ntmps80
      go_wp2_with (go_at_call 79; refine hen.mono ?_; rintro e w1 ⟨rfl, hp⟩; have hc3' := cell_grown hp.1 (p := ⟨C, 0, none⟩) hC hc3)
      refine (IH.out w1 (hw.grown hp.1 hb0) hp.2 ⟨cell_grown hp.1 (p := ⟨A, 0, none⟩) hA hc1, cell_grown hp.1 (p := ⟨B, 0, none⟩) hB hc2, hc3'⟩).mono ?_
      rintro e w2 ⟨rfl, hp2⟩
      go_wp2_with fail
      go_ret
      exact ⟨by simp [fewFrom, HE.out], grown_trans hp.1 hp2.1, hp2.2⟩

/-- How few ticks are enough for an offset; -1: none are. -/
def fewest (F S J off : Int) : Int := fewFrom F S J off 201 0

set_option maxRecDepth 100000 in
set_option maxHeartbeats 1000000 in
theorem fewest_any (F S J L H : Int) (b : Nat) (off : Int) (ho : -20000 ≤ off ∧ off ≤ 20000) (hr : isRuleB F S J L H = true) (w : World) (hw : Ways w) (hM : Memo F S J w b) (hb0 : b ≠ 0) :
    Calls Tryd.prog 62 #[.agg #[.int .i64 F, .int .i64 S, .int .i64 J, .int .i64 L, .int .i64 H, .map (some b)], .int .i64 off] w fun e w' => e = .returned (.int .i64 (fewest F S J off)) ∧ MemoPost F S J b w w' := by
  have hbl := hM.lt
  go_enter Tryd.func62, Tryd.ntmps62
  go_wp2_with fail
  have c := fun h1 h2 h3 W => try_any F S J L H b off (w.heap.size + 1 + 1) (w.heap.size + 1) (w.heap.size + 1 + 1 + 1) ho hr hb0 h1 h2 h3 201 0 W rfl
  rw [show ((0 : Nat) : Int) = 0 from rfl] at c
  refine (c (by omega) (by omega) (by omega) _ ?_ ?_ ?_).mono ?_
  · refine hw.below ?_
    repeat with_reducible (first | exact Below.refl _ _ | refine Below.alloc ?_ (by simp <;> omega) _)
  · refine hM.below ?_
    repeat with_reducible (first | exact Below.refl _ _ | refine Below.alloc ?_ (by simp <;> omega) _)
  · simp [TryAt, go_sem]
  · rintro e w2 ⟨rfl, hp2⟩
    go_wp2_with fail
    go_ret
    refine ⟨rfl, grown_trans (grown_below ?_) hp2.1, hp2.2⟩
    repeat with_reducible (first | exact Below.refl _ _ | refine Below.alloc ?_ (by simp <;> omega) _)

end Go.Proofs.YtidnopmjhhmedaaDoor
end

section
/- Reach, Fewest, IsPlan, Shown: what they refuse. -/
set_option linter.unusedSimpArgs false
set_option linter.unusedVariables false
namespace Go.Proofs.YtidnopmjhhmedaaDoor
open Go.RowKit

theorem below_call {w W w1 : World} (h : Below w.heap.size w W) (hb : Below W.heap.size W w1) : Below w.heap.size w w1 := h.trans (hb.mono h.size)

set_option maxRecDepth 100000 in
set_option maxHeartbeats 1000000 in
theorem Reach_bad (F S J L H t : Int) (hr : isRuleB F S J L H = false) (w : World) :
    Calls Tryd.prog 22 #[.agg #[.int .i64 F, .int .i64 S, .int .i64 J, .int .i64 L, .int .i64 H], .int .i64 t] w fun e w' => e = .returned (.tuple #[.agg #[.int .i64 0, .int .i64 0], .int .i64 40]) ∧ Below w.heap.size w w' := by
  go_enter Tryd.func22, Tryd.ntmps22
  go_wp2_with fail
  go_region_held3 (fun W1 : World => W1.cell? ⟨w.heap.size, 0, none⟩ = some (.int .i64 F) ∧ W1.cell? ⟨w.heap.size, 1, none⟩ = some (.int .i64 S) ∧ W1.cell? ⟨w.heap.size, 2, none⟩ = some (.int .i64 J) ∧ W1.cell? ⟨w.heap.size, 3, none⟩ = some (.int .i64 L) ∧ W1.cell? ⟨w.heap.size, 4, none⟩ = some (.int .i64 H)) (simp [go_sem, *])
    (first | (go_at_call 57; refine (lies_any _ _ _ _).mono ?_; rintro e w' ⟨rfl, rfl⟩) | (go_at_call 54; refine (opened_bad F S J L H _ _ hr).mono ?_; rintro e w1 ⟨rfl, hb⟩; obtain ⟨hc, hf⟩ := bcell hb; have hz := hb.size; simp at hz; have hz1 : w.heap.size < w1.heap.size := (by omega); try (have hz2 : w.heap.size + 1 < w1.heap.size := (by omega)); try (have hz3 : w.heap.size + 1 + 1 < w1.heap.size := (by omega))))
  all_goals
    go_wp2
    have hB1 : Below w.heap.size w w1 := by
      refine below_call ?_ hb
      repeat with_reducible (first | assumption | exact Below.refl _ _ | refine Below.setCell ?_ (by first | omega | (simp <;> omega)) _ | refine Below.alloc ?_ (by first | omega | (simp <;> omega)) _ | refine Below.drew ?_)
    refine bodyPost_ret (v := .tuple #[.agg #[.int .i64 0, .int .i64 0], .int .i64 40]) (by simp [results, Tryd.results22, go_sem, hc, hz1, hz2]) rfl ⟨rfl, ?_⟩
    clear hb hc hf
    repeat with_reducible (first | assumption | exact Below.refl _ _ | refine Below.setCell ?_ (by first | omega | (simp <;> omega)) _ | refine Below.alloc ?_ (by first | omega | (simp <;> omega)) _ | refine Below.drew ?_)

set_option maxRecDepth 100000 in
set_option maxHeartbeats 1000000 in
theorem Reach_ask (F S J L H t : Int) (hr : isRuleB F S J L H = true) (ha : lies t 0 200 = false) (w : World) :
    Calls Tryd.prog 22 #[.agg #[.int .i64 F, .int .i64 S, .int .i64 J, .int .i64 L, .int .i64 H], .int .i64 t] w fun e w' => e = .returned (.tuple #[.agg #[.int .i64 0, .int .i64 0], .int .i64 41]) ∧ Below w.heap.size w w' := by
  go_enter Tryd.func22, Tryd.ntmps22
  go_wp2_with fail
  go_region_held3 (fun W1 : World => W1.cell? ⟨w.heap.size, 0, none⟩ = some (.int .i64 F) ∧ W1.cell? ⟨w.heap.size, 1, none⟩ = some (.int .i64 S) ∧ W1.cell? ⟨w.heap.size, 2, none⟩ = some (.int .i64 J) ∧ W1.cell? ⟨w.heap.size, 3, none⟩ = some (.int .i64 L) ∧ W1.cell? ⟨w.heap.size, 4, none⟩ = some (.int .i64 H)) (simp [go_sem, *])
    (first | (go_at_call 57; refine (lies_any _ _ _ _).mono ?_; rintro e w' ⟨rfl, rfl⟩) | (go_at_call 54; refine (opened_ask F S J L H _ hr).mono ?_; rintro e w1 ⟨rfl, hb⟩; obtain ⟨hc, hf⟩ := bcell hb; have hz := hb.size; simp at hz; have hz1 : w.heap.size < w1.heap.size := (by omega); try (have hz2 : w.heap.size + 1 < w1.heap.size := (by omega)); try (have hz3 : w.heap.size + 1 + 1 < w1.heap.size := (by omega))))
  all_goals
    go_wp2
    have hB1 : Below w.heap.size w w1 := by
      refine below_call ?_ hb
      repeat with_reducible (first | assumption | exact Below.refl _ _ | refine Below.setCell ?_ (by first | omega | (simp <;> omega)) _ | refine Below.alloc ?_ (by first | omega | (simp <;> omega)) _ | refine Below.drew ?_)
    refine bodyPost_ret (v := .tuple #[.agg #[.int .i64 0, .int .i64 0], .int .i64 41]) (by simp [results, Tryd.results22, go_sem, hc, hz1, hz2]) rfl ⟨rfl, ?_⟩
    clear hb hc hf
    repeat with_reducible (first | assumption | exact Below.refl _ _ | refine Below.setCell ?_ (by first | omega | (simp <;> omega)) _ | refine Below.alloc ?_ (by first | omega | (simp <;> omega)) _ | refine Below.drew ?_)

set_option maxRecDepth 100000 in
set_option maxHeartbeats 1000000 in
theorem Fewest_bad (F S J L H off : Int) (hr : isRuleB F S J L H = false) (w : World) :
    Calls Tryd.prog 18 #[.agg #[.int .i64 F, .int .i64 S, .int .i64 J, .int .i64 L, .int .i64 H], .int .i64 off] w fun e w' => e = .returned (.tuple #[.int .i64 0, .int .i64 40]) ∧ Below w.heap.size w w' := by
  go_enter Tryd.func18, Tryd.ntmps18
  go_wp2_with fail
  go_region_held3 (fun W1 : World => W1.cell? ⟨w.heap.size, 0, none⟩ = some (.int .i64 F) ∧ W1.cell? ⟨w.heap.size, 1, none⟩ = some (.int .i64 S) ∧ W1.cell? ⟨w.heap.size, 2, none⟩ = some (.int .i64 J) ∧ W1.cell? ⟨w.heap.size, 3, none⟩ = some (.int .i64 L) ∧ W1.cell? ⟨w.heap.size, 4, none⟩ = some (.int .i64 H)) (simp [go_sem, *])
    (first | (go_at_call 55; refine (isOff_any _ _).mono ?_; rintro e w' ⟨rfl, rfl⟩) | (go_at_call 54; refine (opened_bad F S J L H _ _ hr).mono ?_; rintro e w1 ⟨rfl, hb⟩; obtain ⟨hc, hf⟩ := bcell hb; have hz := hb.size; simp at hz; have hz1 : w.heap.size < w1.heap.size := (by omega); try (have hz2 : w.heap.size + 1 < w1.heap.size := (by omega))))
  all_goals
    go_wp2
    have hB1 : Below w.heap.size w w1 := by
      refine below_call ?_ hb
      repeat with_reducible (first | assumption | exact Below.refl _ _ | refine Below.setCell ?_ (by first | omega | (simp <;> omega)) _ | refine Below.alloc ?_ (by first | omega | (simp <;> omega)) _ | refine Below.drew ?_)
    go_ret2
    refine ⟨rfl, ?_⟩
    clear hb hc hf
    repeat with_reducible (first | assumption | exact Below.refl _ _ | refine Below.setCell ?_ (by first | omega | (simp <;> omega)) _ | refine Below.alloc ?_ (by first | omega | (simp <;> omega)) _ | refine Below.drew ?_)

set_option maxRecDepth 100000 in
set_option maxHeartbeats 1000000 in
theorem Fewest_ask (F S J L H off : Int) (hr : isRuleB F S J L H = true) (ha : lies off (-20000) 20000 = false) (w : World) :
    Calls Tryd.prog 18 #[.agg #[.int .i64 F, .int .i64 S, .int .i64 J, .int .i64 L, .int .i64 H], .int .i64 off] w fun e w' => e = .returned (.tuple #[.int .i64 0, .int .i64 41]) ∧ Below w.heap.size w w' := by
  go_enter Tryd.func18, Tryd.ntmps18
  go_wp2_with fail
  go_region_held3 (fun W1 : World => W1.cell? ⟨w.heap.size, 0, none⟩ = some (.int .i64 F) ∧ W1.cell? ⟨w.heap.size, 1, none⟩ = some (.int .i64 S) ∧ W1.cell? ⟨w.heap.size, 2, none⟩ = some (.int .i64 J) ∧ W1.cell? ⟨w.heap.size, 3, none⟩ = some (.int .i64 L) ∧ W1.cell? ⟨w.heap.size, 4, none⟩ = some (.int .i64 H)) (simp [go_sem, *])
    (first | (go_at_call 55; refine (isOff_any _ _).mono ?_; rintro e w' ⟨rfl, rfl⟩) | (go_at_call 54; refine (opened_ask F S J L H _ hr).mono ?_; rintro e w1 ⟨rfl, hb⟩; obtain ⟨hc, hf⟩ := bcell hb; have hz := hb.size; simp at hz; have hz1 : w.heap.size < w1.heap.size := (by omega); try (have hz2 : w.heap.size + 1 < w1.heap.size := (by omega))))
  all_goals
    go_wp2
    have hB1 : Below w.heap.size w w1 := by
      refine below_call ?_ hb
      repeat with_reducible (first | assumption | exact Below.refl _ _ | refine Below.setCell ?_ (by first | omega | (simp <;> omega)) _ | refine Below.alloc ?_ (by first | omega | (simp <;> omega)) _ | refine Below.drew ?_)
    go_ret2
    refine ⟨rfl, ?_⟩
    clear hb hc hf
    repeat with_reducible (first | assumption | exact Below.refl _ _ | refine Below.setCell ?_ (by first | omega | (simp <;> omega)) _ | refine Below.alloc ?_ (by first | omega | (simp <;> omega)) _ | refine Below.drew ?_)

set_option maxRecDepth 100000 in
set_option maxHeartbeats 1000000 in
theorem IsPlan_bad (F S J L H off : Int) (a : Option Addr) (n cap : Nat) (hr : isRuleB F S J L H = false) (w : World) :
    Calls Tryd.prog 16 #[.agg #[.int .i64 F, .int .i64 S, .int .i64 J, .int .i64 L, .int .i64 H], .int .i64 off, .slice a n cap] w fun e w' => e = .returned (.tuple #[.bool false, .int .i64 40]) ∧ Below w.heap.size w w' := by
  go_enter Tryd.func16, Tryd.ntmps16
  go_wp2_with fail
  go_region_held3 (fun W1 : World => W1.cell? ⟨w.heap.size, 0, none⟩ = some (.int .i64 F) ∧ W1.cell? ⟨w.heap.size, 1, none⟩ = some (.int .i64 S) ∧ W1.cell? ⟨w.heap.size, 2, none⟩ = some (.int .i64 J) ∧ W1.cell? ⟨w.heap.size, 3, none⟩ = some (.int .i64 L) ∧ W1.cell? ⟨w.heap.size, 4, none⟩ = some (.int .i64 H)) (simp [go_sem, *])
    (first | (go_at_call 55; refine (isOff_any _ _).mono ?_; rintro e w' ⟨rfl, rfl⟩) | (go_at_call 54; refine (opened_bad F S J L H _ _ hr).mono ?_; rintro e w1 ⟨rfl, hb⟩; obtain ⟨hc, hf⟩ := bcell hb; have hz := hb.size; simp at hz; have hz1 : w.heap.size < w1.heap.size := (by omega); try (have hz2 : w.heap.size + 1 < w1.heap.size := (by omega))))
  all_goals
    go_wp2
    have hB1 : Below w.heap.size w w1 := by
      refine below_call ?_ hb
      repeat with_reducible (first | assumption | exact Below.refl _ _ | refine Below.setCell ?_ (by first | omega | (simp <;> omega)) _ | refine Below.alloc ?_ (by first | omega | (simp <;> omega)) _ | refine Below.drew ?_)
    go_ret2
    refine ⟨rfl, ?_⟩
    clear hb hc hf
    repeat with_reducible (first | assumption | exact Below.refl _ _ | refine Below.setCell ?_ (by first | omega | (simp <;> omega)) _ | refine Below.alloc ?_ (by first | omega | (simp <;> omega)) _ | refine Below.drew ?_)

set_option maxRecDepth 100000 in
set_option maxHeartbeats 1000000 in
theorem IsPlan_ask (F S J L H off : Int) (a : Option Addr) (n cap : Nat) (hr : isRuleB F S J L H = true) (ha : lies off (-20000) 20000 = false) (w : World) :
    Calls Tryd.prog 16 #[.agg #[.int .i64 F, .int .i64 S, .int .i64 J, .int .i64 L, .int .i64 H], .int .i64 off, .slice a n cap] w fun e w' => e = .returned (.tuple #[.bool false, .int .i64 41]) ∧ Below w.heap.size w w' := by
  go_enter Tryd.func16, Tryd.ntmps16
  go_wp2_with fail
  go_region_held3 (fun W1 : World => W1.cell? ⟨w.heap.size, 0, none⟩ = some (.int .i64 F) ∧ W1.cell? ⟨w.heap.size, 1, none⟩ = some (.int .i64 S) ∧ W1.cell? ⟨w.heap.size, 2, none⟩ = some (.int .i64 J) ∧ W1.cell? ⟨w.heap.size, 3, none⟩ = some (.int .i64 L) ∧ W1.cell? ⟨w.heap.size, 4, none⟩ = some (.int .i64 H)) (simp [go_sem, *])
    (first | (go_at_call 55; refine (isOff_any _ _).mono ?_; rintro e w' ⟨rfl, rfl⟩) | (go_at_call 54; refine (opened_ask F S J L H _ hr).mono ?_; rintro e w1 ⟨rfl, hb⟩; obtain ⟨hc, hf⟩ := bcell hb; have hz := hb.size; simp at hz; have hz1 : w.heap.size < w1.heap.size := (by omega); try (have hz2 : w.heap.size + 1 < w1.heap.size := (by omega))))
  all_goals
    go_wp2
    have hB1 : Below w.heap.size w w1 := by
      refine below_call ?_ hb
      repeat with_reducible (first | assumption | exact Below.refl _ _ | refine Below.setCell ?_ (by first | omega | (simp <;> omega)) _ | refine Below.alloc ?_ (by first | omega | (simp <;> omega)) _ | refine Below.drew ?_)
    go_ret2
    refine ⟨rfl, ?_⟩
    clear hb hc hf
    repeat with_reducible (first | assumption | exact Below.refl _ _ | refine Below.setCell ?_ (by first | omega | (simp <;> omega)) _ | refine Below.alloc ?_ (by first | omega | (simp <;> omega)) _ | refine Below.drew ?_)

end Go.Proofs.YtidnopmjhhmedaaDoor
end

section
/- Reach, Fewest: what they return of what they take. -/
set_option linter.unusedSimpArgs false
set_option linter.unusedVariables false
namespace Go.Proofs.YtidnopmjhhmedaaDoor
open Go.RowKit

theorem heap_drew (w : World) (k : Nat) : w.drew.heap[k]? = w.heap[k]? := rfl
theorem mw_new {F S J : Int} {b : Nat} {w W : World} (hw : Ways w) (hB : Below w.heap.size w W) (hb : W.heap[b]? = some (.map #[] 0)) : MW F S J b w W :=
  ⟨⟨[], PMap.new hb, by intro t v; simp [pmLook]⟩, hw.below hB, grown_below hB⟩
theorem below_grown {w W w2 : World} {b : Nat} (hB : Below w.heap.size w W) (h : W.grownBy w2 (some b)) (hb : w.heap.size ≤ b) : Below w.heap.size w w2 := hB.trans (below_of_grown h hb hB.size)

theorem fewest_at (F S J L H : Int) (b : Nat) (off : Int) (ho : -20000 ≤ off ∧ off ≤ 20000) (hr : isRuleB F S J L H = true) {w W : World} (hw : Ways w) (hnb : w.heap.size ≤ b) (hB : Below w.heap.size w W) (hb : W.heap[b]? = some (.map #[] 0)) :
    Calls Tryd.prog 62 #[.agg #[.int .i64 F, .int .i64 S, .int .i64 J, .int .i64 L, .int .i64 H, .map (some b)], .int .i64 off] W fun e w' => e = .returned (.int .i64 (fewest F S J off)) ∧ Below w.heap.size w w' :=
  (fewest_any F S J L H b off ho hr W (mw_new (F := F) (S := S) (J := J) hw hB hb).ways (mw_new hw hB hb).memo (by have := World.block_lt_of_cell? w _ hw.1; omega)).mono fun e w' h => ⟨h.1, below_grown hB h.2.1 hnb⟩

set_option maxRecDepth 100000 in
set_option maxHeartbeats 1000000 in
theorem Fewest_ok (F S J L H off : Int) (hr : isRuleB F S J L H = true) (ha : lies off (-20000) 20000 = true) (w : World) (hw : Ways w) :
    Calls Tryd.prog 18 #[.agg #[.int .i64 F, .int .i64 S, .int .i64 J, .int .i64 L, .int .i64 H], .int .i64 off] w fun e w' => e = .returned (.tuple #[.int .i64 (if fewest F S J off < 0 then 0 else fewest F S J off), .int .i64 (if fewest F S J off < 0 then 4 else 0)]) ∧ Below w.heap.size w w' := by
  have ho := lies_iff.1 ha
  by_cases hn : fewest F S J off < 0
  all_goals
    simp only [hn, if_true, if_false]
    go_enter Tryd.func18, Tryd.ntmps18
    go_wp2_with fail
    go_region_held3 (fun W1 : World => W1.cell? ⟨w.heap.size, 0, none⟩ = some (.int .i64 F) ∧ W1.cell? ⟨w.heap.size, 1, none⟩ = some (.int .i64 S) ∧ W1.cell? ⟨w.heap.size, 2, none⟩ = some (.int .i64 J) ∧ W1.cell? ⟨w.heap.size, 3, none⟩ = some (.int .i64 L) ∧ W1.cell? ⟨w.heap.size, 4, none⟩ = some (.int .i64 H)) (simp [go_sem, *])
      (first | (go_at_call 55; refine (isOff_any _ _).mono ?_; rintro e w' ⟨rfl, rfl⟩) | (go_at_call 54; refine (opened_ok F S J L H _ hr).mono ?_; rintro e w1 ⟨b, rfl, hb, hnb, hnew⟩; obtain ⟨hc, hf⟩ := bcell hb; have hz := hb.size; simp at hz; simp at hnb; have hz1 : w.heap.size < w1.heap.size := (by omega); try (have hz2 : w.heap.size + 1 < w1.heap.size := (by omega)); try (have hz3 : w.heap.size + 1 + 1 < w1.heap.size := (by omega))))
    all_goals
      have hB1 : Below w.heap.size w w1 := by
        refine below_call ?_ hb
        repeat with_reducible (first | assumption | exact Below.refl _ _ | refine Below.setCell ?_ (by first | omega | (simp <;> omega)) _ | refine Below.alloc ?_ (by first | omega | (simp <;> omega)) _ | refine Below.drew ?_)
      have HNB := Lib.hid hnb; have HBL := Lib.hid (Array.getElem?_eq_some_iff.1 hnew).1; have HB := Lib.hid hB1; have HN := Lib.hid hnew; clear hnb hB1 hnew hb
      go_wp2_with fail
      refine (fewest_at F S J L H b off ho hr hw (by have := HNB.out; omega) ?_ ?_).mono ?_
      · have hnb := HNB.out; have hbl := HBL.out
        repeat with_reducible (first | assumption | exact HB.out | exact Below.refl _ _ | refine Below.setCell ?_ (by first | omega | (simp <;> omega)) _ | refine Below.alloc ?_ (by first | omega | (simp <;> omega)) _ | refine Below.drew ?_)
      · have hnb := HNB.out; have hbl := HBL.out
        repeat with_reducible (first | assumption | exact HN.out | rw [heap_drew] | rw [Below.heap_setCell _ _ _ _ (by first | omega | (simp <;> omega))] | rw [Below.heap_alloc _ _ _ (by first | omega | (simp <;> omega))])
      rintro e w2 ⟨rfl, hB2⟩
      go_wp2_with fail
      go_ret2
      exact ⟨rfl, hB2⟩


theorem frozen_grown {W W1 : World} {b : Nat} {p : Addr} {v : Value} {x : Bool} (h : W.grownBy W1 (some b)) (hne : p.block ≠ b) (hc : W.cell? p = some v) (hf : W.frozen? p = x) : W1.frozen? p = x :=
  (World.frozen?_of_block (w := W) (h.block p.block (World.block_lt_of_cell? W p hc) (fun e => hne (Option.some.inj e)))).trans hf

set_option maxRecDepth 100000 in
set_option maxHeartbeats 1000000 in
theorem Reach_ok (F S J L H : Int) (t : Nat) (hr : isRuleB F S J L H = true) (ht : t ≤ 200) (w : World) (hw : Ways w) :
    Calls Tryd.prog 22 #[.agg #[.int .i64 F, .int .i64 S, .int .i64 J, .int .i64 L, .int .i64 H], .int .i64 t] w fun e w' => e = .returned (.tuple #[.agg #[.int .i64 (-(capSum S J t)), .int .i64 (capSum F J t)], .int .i64 0]) ∧ Below w.heap.size w w' := by
  have ha : lies (t : Int) 0 200 = true := lies_iff.2 ⟨by omega, by omega⟩
  have hw0 : 0 < w.heap.size := World.block_lt_of_cell? w _ hw.1
  obtain ⟨hF, hS, hJ, _⟩ := isRuleB_spec hr
  have hbS := capSum_bd (each := S) (t := t) hS.1 hS.2 hJ.1 ht
  have hw2 : IntKind.i64.wrap (-(capSum S J t)) = -(capSum S J t) := IntWalk.i64_in _ (by constructor <;> omega)
  go_enter Tryd.func22, Tryd.ntmps22
  go_wp2_with fail
  go_region_held3 (fun W1 : World => W1.cell? ⟨w.heap.size, 0, none⟩ = some (.int .i64 F) ∧ W1.cell? ⟨w.heap.size, 1, none⟩ = some (.int .i64 S) ∧ W1.cell? ⟨w.heap.size, 2, none⟩ = some (.int .i64 J) ∧ W1.cell? ⟨w.heap.size, 3, none⟩ = some (.int .i64 L) ∧ W1.cell? ⟨w.heap.size, 4, none⟩ = some (.int .i64 H)) (simp [go_sem, *])
    (first | (go_at_call 57; refine (lies_any _ _ _ _).mono ?_; rintro e w' ⟨rfl, rfl⟩) | (go_at_call 54; refine (opened_ok F S J L H _ hr).mono ?_; rintro e w1 ⟨b, rfl, hb, hnb, hnew⟩; obtain ⟨hc, hf⟩ := bcell hb; have hz := hb.size; simp at hz; simp at hnb; have hz1 : w.heap.size < w1.heap.size := (by omega); try (have hz2 : w.heap.size + 1 < w1.heap.size := (by omega)); try (have hz3 : w.heap.size + 1 + 1 < w1.heap.size := (by omega))))
  all_goals
    have hB1 : Below w.heap.size w w1 := by
      refine below_call ?_ hb
      repeat with_reducible (first | assumption | exact Below.refl _ _ | refine Below.setCell ?_ (by first | omega | (simp <;> omega)) _ | refine Below.alloc ?_ (by first | omega | (simp <;> omega)) _ | refine Below.drew ?_)
    have hb0 : b ≠ 0 := by omega
    have HNB := Lib.hid hnb; have HBL := Lib.hid (Array.getElem?_eq_some_iff.1 hnew).1; have HB := Lib.hid hB1; have HN := Lib.hid hnew; clear hnb hB1 hnew hb
  ·
    have hMW0 : MW F S J b w (w1.alloc (.cells #[.int .i64 F, .int .i64 S, .int .i64 J, .int .i64 L, .int .i64 H, .map (some b)] 80)).drew := by
      have hnb := HNB.out; have hbl := HBL.out
      refine mw_new hw ?_ ?_
      · repeat with_reducible (first | assumption | exact HB.out | exact Below.refl _ _ | refine Below.setCell ?_ (by first | omega | (simp <;> omega)) _ | refine Below.alloc ?_ (by first | omega | (simp <;> omega)) _ | refine Below.drew ?_)
      · repeat with_reducible (first | assumption | exact HN.out | rw [heap_drew] | rw [Below.heap_setCell _ _ _ _ (by first | omega | (simp <;> omega))] | rw [Below.heap_alloc _ _ _ (by first | omega | (simp <;> omega))])
    have hs0 : (w1.alloc (.cells #[.int .i64 F, .int .i64 S, .int .i64 J, .int .i64 L, .int .i64 H, .map (some b)] 80)).drew.cell? ⟨w.heap.size + 1, 0, none⟩ = some (.int .i64 0) := by simp [go_sem, *]
    have hs1 : (w1.alloc (.cells #[.int .i64 F, .int .i64 S, .int .i64 J, .int .i64 L, .int .i64 H, .map (some b)] 80)).drew.cell? ⟨w.heap.size + 1, 1, none⟩ = some (.int .i64 0) := by simp [go_sem, *]
    have hs2 : (w1.alloc (.cells #[.int .i64 F, .int .i64 S, .int .i64 J, .int .i64 L, .int .i64 H, .map (some b)] 80)).drew.frozen? ⟨w.heap.size + 1, 0, none⟩ = false := by simp [go_sem, *]
    have hs3 : (w1.alloc (.cells #[.int .i64 F, .int .i64 S, .int .i64 J, .int .i64 L, .int .i64 H, .map (some b)] 80)).drew.frozen? ⟨w.heap.size + 1, 1, none⟩ = false := by simp [go_sem, *]
    have hNb : w.heap.size + 1 ≠ b := by have := HNB.out; omega
    have hN0 : w.heap.size + 1 ≠ 0 := by omega
    have hNN : w.heap.size ≤ w.heap.size + 1 := by omega
    have hPb : w1.heap.size ≠ b := by have := HNB.out; have := HBL.out; omega
    have hPN : w1.heap.size ≠ w.heap.size + 1 := by omega
    go_wp2_with fail
    go_region_held3 (fun W1 : World => (W1.cell? ⟨w1.heap.size, 0, none⟩ = some (.int .i64 F) ∧ W1.cell? ⟨w1.heap.size, 1, none⟩ = some (.int .i64 S) ∧ W1.cell? ⟨w1.heap.size, 2, none⟩ = some (.int .i64 J) ∧ W1.cell? ⟨w1.heap.size, 3, none⟩ = some (.int .i64 L) ∧ W1.cell? ⟨w1.heap.size, 4, none⟩ = some (.int .i64 H) ∧ W1.cell? ⟨w1.heap.size, 5, none⟩ = some (.map (some b))) ∧ MW F S J b w W1)
      (first | with_reducible exact ⟨((RuleAt.next hx.1 hp hPb).setCell hPN).setCell hPN, ((MW.next hx.2 hb0 hp).setCell hNN hNb hN0).setCell hNN hNb hN0⟩ | with_reducible exact ⟨RuleAt.next hx.1 hp hPb, MW.next hx.2 hb0 hp⟩ | ((repeat' apply And.intro) <;> (first | with_reducible exact hMW0 | (simp [go_sem, *]; done))))
      (first | (go_at_call_of 67 (Value.int IntKind.i64 1); rename_i hx _ _; refine (reach_slow F S J L H b t ht hr _ hx.2.ways hx.2.memo).mono ?_; rintro e w2 ⟨rfl, hp⟩; have hs2 := frozen_grown hp.1 (p := ⟨w.heap.size + 1, 0, none⟩) hNb hs0 hs2; have hs3 := frozen_grown hp.1 (p := ⟨w.heap.size + 1, 1, none⟩) hNb hs1 hs3; have hs0 := cell_grown hp.1 (p := ⟨w.heap.size + 1, 0, none⟩) hNb hs0; have hs1 := cell_grown hp.1 (p := ⟨w.heap.size + 1, 1, none⟩) hNb hs1) | (go_at_call 67; rename_i hx _ _; refine (reach_fast F S J L H b t ht hr _ hx.2.ways hx.2.memo).mono ?_; rintro e w2 ⟨rfl, hp⟩; have hs2 := frozen_grown hp.1 (p := ⟨w.heap.size + 1, 0, none⟩) hNb hs0 hs2; have hs3 := frozen_grown hp.1 (p := ⟨w.heap.size + 1, 1, none⟩) hNb hs1 hs3; have hs0 := cell_grown hp.1 (p := ⟨w.heap.size + 1, 0, none⟩) hNb hs0; have hs1 := cell_grown hp.1 (p := ⟨w.heap.size + 1, 1, none⟩) hNb hs1))
    rename_i hh
    go_wp2
    refine bodyPost_ret (v := .tuple #[.agg #[.int .i64 (-(capSum S J t)), .int .i64 (capSum F J t)], .int .i64 0]) (by simp [results, Tryd.results22, go_sem, *]) rfl ⟨rfl, below_of_grown hh.2.gr (by have := HNB.out; omega) (Nat.le_refl _)⟩
  ·
    have hMW0 : MW F S J b w ((((((w1.setCell ⟨w.heap.size + 1 + 1, 0, none⟩ (.int .i64 F)).setCell ⟨w.heap.size + 1 + 1, 1, none⟩ (.int .i64 S)).setCell ⟨w.heap.size + 1 + 1, 2, none⟩ (.int .i64 J)).setCell ⟨w.heap.size + 1 + 1, 3, none⟩ (.int .i64 L)).setCell ⟨w.heap.size + 1 + 1, 4, none⟩ (.int .i64 H)).setCell ⟨w.heap.size + 1 + 1, 5, none⟩ (.map (some b))).drew := by
      have hnb := HNB.out; have hbl := HBL.out
      refine mw_new hw ?_ ?_
      · repeat with_reducible (first | assumption | exact HB.out | exact Below.refl _ _ | refine Below.setCell ?_ (by first | omega | (simp <;> omega)) _ | refine Below.alloc ?_ (by first | omega | (simp <;> omega)) _ | refine Below.drew ?_)
      · repeat with_reducible (first | assumption | exact HN.out | rw [heap_drew] | rw [Below.heap_setCell _ _ _ _ (by first | omega | (simp <;> omega))] | rw [Below.heap_alloc _ _ _ (by first | omega | (simp <;> omega))])
    have hs0 : ((((((w1.setCell ⟨w.heap.size + 1 + 1, 0, none⟩ (.int .i64 F)).setCell ⟨w.heap.size + 1 + 1, 1, none⟩ (.int .i64 S)).setCell ⟨w.heap.size + 1 + 1, 2, none⟩ (.int .i64 J)).setCell ⟨w.heap.size + 1 + 1, 3, none⟩ (.int .i64 L)).setCell ⟨w.heap.size + 1 + 1, 4, none⟩ (.int .i64 H)).setCell ⟨w.heap.size + 1 + 1, 5, none⟩ (.map (some b))).drew.cell? ⟨w.heap.size + 1, 0, none⟩ = some (.int .i64 0) := by simp [go_sem, *]
    have hs1 : ((((((w1.setCell ⟨w.heap.size + 1 + 1, 0, none⟩ (.int .i64 F)).setCell ⟨w.heap.size + 1 + 1, 1, none⟩ (.int .i64 S)).setCell ⟨w.heap.size + 1 + 1, 2, none⟩ (.int .i64 J)).setCell ⟨w.heap.size + 1 + 1, 3, none⟩ (.int .i64 L)).setCell ⟨w.heap.size + 1 + 1, 4, none⟩ (.int .i64 H)).setCell ⟨w.heap.size + 1 + 1, 5, none⟩ (.map (some b))).drew.cell? ⟨w.heap.size + 1, 1, none⟩ = some (.int .i64 0) := by simp [go_sem, *]
    have hs2 : ((((((w1.setCell ⟨w.heap.size + 1 + 1, 0, none⟩ (.int .i64 F)).setCell ⟨w.heap.size + 1 + 1, 1, none⟩ (.int .i64 S)).setCell ⟨w.heap.size + 1 + 1, 2, none⟩ (.int .i64 J)).setCell ⟨w.heap.size + 1 + 1, 3, none⟩ (.int .i64 L)).setCell ⟨w.heap.size + 1 + 1, 4, none⟩ (.int .i64 H)).setCell ⟨w.heap.size + 1 + 1, 5, none⟩ (.map (some b))).drew.frozen? ⟨w.heap.size + 1, 0, none⟩ = false := by simp [go_sem, *]
    have hs3 : ((((((w1.setCell ⟨w.heap.size + 1 + 1, 0, none⟩ (.int .i64 F)).setCell ⟨w.heap.size + 1 + 1, 1, none⟩ (.int .i64 S)).setCell ⟨w.heap.size + 1 + 1, 2, none⟩ (.int .i64 J)).setCell ⟨w.heap.size + 1 + 1, 3, none⟩ (.int .i64 L)).setCell ⟨w.heap.size + 1 + 1, 4, none⟩ (.int .i64 H)).setCell ⟨w.heap.size + 1 + 1, 5, none⟩ (.map (some b))).drew.frozen? ⟨w.heap.size + 1, 1, none⟩ = false := by simp [go_sem, *]
    have hNb : w.heap.size + 1 ≠ b := by have := HNB.out; omega
    have hN0 : w.heap.size + 1 ≠ 0 := by omega
    have hNN : w.heap.size ≤ w.heap.size + 1 := by omega
    have hPb : w.heap.size + 1 + 1 ≠ b := by have := HNB.out; have := HBL.out; omega
    have hPN : w.heap.size + 1 + 1 ≠ w.heap.size + 1 := by omega
    go_wp2_with fail
    go_region_held3 (fun W1 : World => (W1.cell? ⟨w.heap.size + 1 + 1, 0, none⟩ = some (.int .i64 F) ∧ W1.cell? ⟨w.heap.size + 1 + 1, 1, none⟩ = some (.int .i64 S) ∧ W1.cell? ⟨w.heap.size + 1 + 1, 2, none⟩ = some (.int .i64 J) ∧ W1.cell? ⟨w.heap.size + 1 + 1, 3, none⟩ = some (.int .i64 L) ∧ W1.cell? ⟨w.heap.size + 1 + 1, 4, none⟩ = some (.int .i64 H) ∧ W1.cell? ⟨w.heap.size + 1 + 1, 5, none⟩ = some (.map (some b))) ∧ MW F S J b w W1)
      (first | with_reducible exact ⟨((RuleAt.next hx.1 hp hPb).setCell hPN).setCell hPN, ((MW.next hx.2 hb0 hp).setCell hNN hNb hN0).setCell hNN hNb hN0⟩ | with_reducible exact ⟨RuleAt.next hx.1 hp hPb, MW.next hx.2 hb0 hp⟩ | ((repeat' apply And.intro) <;> (first | with_reducible exact hMW0 | (simp [go_sem, *]; done))))
      (first | (go_at_call_of 67 (Value.int IntKind.i64 1); rename_i hx _ _; refine (reach_slow F S J L H b t ht hr _ hx.2.ways hx.2.memo).mono ?_; rintro e w2 ⟨rfl, hp⟩; have hs2 := frozen_grown hp.1 (p := ⟨w.heap.size + 1, 0, none⟩) hNb hs0 hs2; have hs3 := frozen_grown hp.1 (p := ⟨w.heap.size + 1, 1, none⟩) hNb hs1 hs3; have hs0 := cell_grown hp.1 (p := ⟨w.heap.size + 1, 0, none⟩) hNb hs0; have hs1 := cell_grown hp.1 (p := ⟨w.heap.size + 1, 1, none⟩) hNb hs1) | (go_at_call 67; rename_i hx _ _; refine (reach_fast F S J L H b t ht hr _ hx.2.ways hx.2.memo).mono ?_; rintro e w2 ⟨rfl, hp⟩; have hs2 := frozen_grown hp.1 (p := ⟨w.heap.size + 1, 0, none⟩) hNb hs0 hs2; have hs3 := frozen_grown hp.1 (p := ⟨w.heap.size + 1, 1, none⟩) hNb hs1 hs3; have hs0 := cell_grown hp.1 (p := ⟨w.heap.size + 1, 0, none⟩) hNb hs0; have hs1 := cell_grown hp.1 (p := ⟨w.heap.size + 1, 1, none⟩) hNb hs1))
    rename_i hh
    go_wp2
    refine bodyPost_ret (v := .tuple #[.agg #[.int .i64 (-(capSum S J t)), .int .i64 (capSum F J t)], .int .i64 0]) (by simp [results, Tryd.results22, go_sem, *]) rfl ⟨rfl, below_of_grown hh.2.gr (by have := HNB.out; omega) (Nat.le_refl _)⟩
  ·
    have hMW0 : MW F S J b w ((((((w1.setCell ⟨w.heap.size + 1 + 1, 0, none⟩ (.int .i64 F)).setCell ⟨w.heap.size + 1 + 1, 1, none⟩ (.int .i64 S)).setCell ⟨w.heap.size + 1 + 1, 2, none⟩ (.int .i64 J)).setCell ⟨w.heap.size + 1 + 1, 3, none⟩ (.int .i64 L)).setCell ⟨w.heap.size + 1 + 1, 4, none⟩ (.int .i64 H)).setCell ⟨w.heap.size + 1 + 1, 5, none⟩ (.map (some b))).drew := by
      have hnb := HNB.out; have hbl := HBL.out
      refine mw_new hw ?_ ?_
      · repeat with_reducible (first | assumption | exact HB.out | exact Below.refl _ _ | refine Below.setCell ?_ (by first | omega | (simp <;> omega)) _ | refine Below.alloc ?_ (by first | omega | (simp <;> omega)) _ | refine Below.drew ?_)
      · repeat with_reducible (first | assumption | exact HN.out | rw [heap_drew] | rw [Below.heap_setCell _ _ _ _ (by first | omega | (simp <;> omega))] | rw [Below.heap_alloc _ _ _ (by first | omega | (simp <;> omega))])
    have hs0 : ((((((w1.setCell ⟨w.heap.size + 1 + 1, 0, none⟩ (.int .i64 F)).setCell ⟨w.heap.size + 1 + 1, 1, none⟩ (.int .i64 S)).setCell ⟨w.heap.size + 1 + 1, 2, none⟩ (.int .i64 J)).setCell ⟨w.heap.size + 1 + 1, 3, none⟩ (.int .i64 L)).setCell ⟨w.heap.size + 1 + 1, 4, none⟩ (.int .i64 H)).setCell ⟨w.heap.size + 1 + 1, 5, none⟩ (.map (some b))).drew.cell? ⟨w.heap.size + 1, 0, none⟩ = some (.int .i64 0) := by simp [go_sem, *]
    have hs1 : ((((((w1.setCell ⟨w.heap.size + 1 + 1, 0, none⟩ (.int .i64 F)).setCell ⟨w.heap.size + 1 + 1, 1, none⟩ (.int .i64 S)).setCell ⟨w.heap.size + 1 + 1, 2, none⟩ (.int .i64 J)).setCell ⟨w.heap.size + 1 + 1, 3, none⟩ (.int .i64 L)).setCell ⟨w.heap.size + 1 + 1, 4, none⟩ (.int .i64 H)).setCell ⟨w.heap.size + 1 + 1, 5, none⟩ (.map (some b))).drew.cell? ⟨w.heap.size + 1, 1, none⟩ = some (.int .i64 0) := by simp [go_sem, *]
    have hs2 : ((((((w1.setCell ⟨w.heap.size + 1 + 1, 0, none⟩ (.int .i64 F)).setCell ⟨w.heap.size + 1 + 1, 1, none⟩ (.int .i64 S)).setCell ⟨w.heap.size + 1 + 1, 2, none⟩ (.int .i64 J)).setCell ⟨w.heap.size + 1 + 1, 3, none⟩ (.int .i64 L)).setCell ⟨w.heap.size + 1 + 1, 4, none⟩ (.int .i64 H)).setCell ⟨w.heap.size + 1 + 1, 5, none⟩ (.map (some b))).drew.frozen? ⟨w.heap.size + 1, 0, none⟩ = false := by simp [go_sem, *]
    have hs3 : ((((((w1.setCell ⟨w.heap.size + 1 + 1, 0, none⟩ (.int .i64 F)).setCell ⟨w.heap.size + 1 + 1, 1, none⟩ (.int .i64 S)).setCell ⟨w.heap.size + 1 + 1, 2, none⟩ (.int .i64 J)).setCell ⟨w.heap.size + 1 + 1, 3, none⟩ (.int .i64 L)).setCell ⟨w.heap.size + 1 + 1, 4, none⟩ (.int .i64 H)).setCell ⟨w.heap.size + 1 + 1, 5, none⟩ (.map (some b))).drew.frozen? ⟨w.heap.size + 1, 1, none⟩ = false := by simp [go_sem, *]
    have hNb : w.heap.size + 1 ≠ b := by have := HNB.out; omega
    have hN0 : w.heap.size + 1 ≠ 0 := by omega
    have hNN : w.heap.size ≤ w.heap.size + 1 := by omega
    have hPb : w.heap.size + 1 + 1 ≠ b := by have := HNB.out; have := HBL.out; omega
    have hPN : w.heap.size + 1 + 1 ≠ w.heap.size + 1 := by omega
    go_wp2_with fail
    go_region_held3 (fun W1 : World => (W1.cell? ⟨w.heap.size + 1 + 1, 0, none⟩ = some (.int .i64 F) ∧ W1.cell? ⟨w.heap.size + 1 + 1, 1, none⟩ = some (.int .i64 S) ∧ W1.cell? ⟨w.heap.size + 1 + 1, 2, none⟩ = some (.int .i64 J) ∧ W1.cell? ⟨w.heap.size + 1 + 1, 3, none⟩ = some (.int .i64 L) ∧ W1.cell? ⟨w.heap.size + 1 + 1, 4, none⟩ = some (.int .i64 H) ∧ W1.cell? ⟨w.heap.size + 1 + 1, 5, none⟩ = some (.map (some b))) ∧ MW F S J b w W1)
      (first | with_reducible exact ⟨((RuleAt.next hx.1 hp hPb).setCell hPN).setCell hPN, ((MW.next hx.2 hb0 hp).setCell hNN hNb hN0).setCell hNN hNb hN0⟩ | with_reducible exact ⟨RuleAt.next hx.1 hp hPb, MW.next hx.2 hb0 hp⟩ | ((repeat' apply And.intro) <;> (first | with_reducible exact hMW0 | (simp [go_sem, *]; done))))
      (first | (go_at_call_of 67 (Value.int IntKind.i64 1); rename_i hx _ _; refine (reach_slow F S J L H b t ht hr _ hx.2.ways hx.2.memo).mono ?_; rintro e w2 ⟨rfl, hp⟩; have hs2 := frozen_grown hp.1 (p := ⟨w.heap.size + 1, 0, none⟩) hNb hs0 hs2; have hs3 := frozen_grown hp.1 (p := ⟨w.heap.size + 1, 1, none⟩) hNb hs1 hs3; have hs0 := cell_grown hp.1 (p := ⟨w.heap.size + 1, 0, none⟩) hNb hs0; have hs1 := cell_grown hp.1 (p := ⟨w.heap.size + 1, 1, none⟩) hNb hs1) | (go_at_call 67; rename_i hx _ _; refine (reach_fast F S J L H b t ht hr _ hx.2.ways hx.2.memo).mono ?_; rintro e w2 ⟨rfl, hp⟩; have hs2 := frozen_grown hp.1 (p := ⟨w.heap.size + 1, 0, none⟩) hNb hs0 hs2; have hs3 := frozen_grown hp.1 (p := ⟨w.heap.size + 1, 1, none⟩) hNb hs1 hs3; have hs0 := cell_grown hp.1 (p := ⟨w.heap.size + 1, 0, none⟩) hNb hs0; have hs1 := cell_grown hp.1 (p := ⟨w.heap.size + 1, 1, none⟩) hNb hs1))
    rename_i hh
    go_wp2
    refine bodyPost_ret (v := .tuple #[.agg #[.int .i64 (-(capSum S J t)), .int .i64 (capSum F J t)], .int .i64 0]) (by simp [results, Tryd.results22, go_sem, *]) rfl ⟨rfl, below_of_grown hh.2.gr (by have := HNB.out; omega) (Nat.le_refl _)⟩

end Go.Proofs.YtidnopmjhhmedaaDoor
end

section
/- IsPlan, Shown: what they return of what they take. -/
set_option linter.unusedSimpArgs false
set_option linter.unusedVariables false
namespace Go.Proofs.YtidnopmjhhmedaaDoor
open Go.RowKit

theorem Nums.below {w w' : World} {a : Option Addr} {n : Nat} {xs : List Int} (h : Nums w a n xs) (hb : Below w.heap.size w w') : Nums w' a n xs :=
  ⟨h.1, h.2.1, fun hn => by
    obtain ⟨b, o, e, hc⟩ := h.2.2 hn
    exact ⟨b, o, e, fun j hj => cell_below hb (hc j hj)⟩⟩
theorem lies_same (n a b : Int) (w : World) : Calls Tryd.prog 57 #[.int .i64 n, .int .i64 a, .int .i64 b] w fun e w' => e = .returned (.bool (lies n a b)) ∧ w' = w :=
  (lies_any n a b w).mono fun e w' h => ⟨h.1, h.2.symm⟩

def smoothB (J : Int) (n : Nat) (xs : List Int) : Bool := decide (n = 0) || lies (xs[n - 1]?.getD 0) (-J) J
def isPlanB (F S J off : Int) (n : Nat) (xs : List Int) : Bool := decide (n ≤ 200) && keepsB F S J 0 xs && smoothB J n xs && decide (total xs = -off)

set_option maxRecDepth 100000 in
set_option maxHeartbeats 1000000 in
theorem IsPlan_long (F S J L H off : Int) (a : Option Addr) (n cap : Nat) (xs : List Int) (hr : isRuleB F S J L H = true) (ha : lies off (-20000) 20000 = true) (w : World) (hw : Ways w) (hN : Nums w a n xs) (hn : 200 < n) :
    Calls Tryd.prog 16 #[.agg #[.int .i64 F, .int .i64 S, .int .i64 J, .int .i64 L, .int .i64 H], .int .i64 off, .slice a n cap] w fun e w' => e = .returned (.tuple #[.bool false, .int .i64 0]) ∧ Below w.heap.size w w' := by
  have hm := hN.2.1
  go_enter Tryd.func16, Tryd.ntmps16
  go_wp2_with fail
  go_region_held3 (fun W1 : World => W1.cell? ⟨w.heap.size, 0, none⟩ = some (.int .i64 F) ∧ W1.cell? ⟨w.heap.size, 1, none⟩ = some (.int .i64 S) ∧ W1.cell? ⟨w.heap.size, 2, none⟩ = some (.int .i64 J) ∧ W1.cell? ⟨w.heap.size, 3, none⟩ = some (.int .i64 L) ∧ W1.cell? ⟨w.heap.size, 4, none⟩ = some (.int .i64 H)) (simp [go_sem, *])
    (first | (go_at_call 55; refine (isOff_any _ _).mono ?_; rintro e w' ⟨rfl, rfl⟩) | (go_at_call 54; refine (opened_ok F S J L H _ hr).mono ?_; rintro e w1 ⟨b, rfl, hb, hnb, hnew⟩; obtain ⟨hc, hf⟩ := bcell hb; have hz := hb.size; simp at hz; simp at hnb; have hz1 : w.heap.size < w1.heap.size := (by omega); try (have hz2 : w.heap.size + 1 < w1.heap.size := (by omega)); try (have hz3 : w.heap.size + 1 + 1 < w1.heap.size := (by omega))))
  all_goals
    have hB1 : Below w.heap.size w w1 := by
      refine below_call ?_ hb
      repeat with_reducible (first | assumption | exact Below.refl _ _ | refine Below.setCell ?_ (by first | omega | (simp <;> omega)) _ | refine Below.alloc ?_ (by first | omega | (simp <;> omega)) _ | refine Below.drew ?_)
    have HNB := Lib.hid hnb; have HBL := Lib.hid (Array.getElem?_eq_some_iff.1 hnew).1; have HB := Lib.hid hB1; have HN := Lib.hid hnew; clear hnb hB1 hnew hb
    go_wp2_with fail
    go_ret2
    refine ⟨rfl, ?_⟩
    have hnb := HNB.out
    repeat with_reducible (first | assumption | exact HB.out | exact Below.refl _ _ | refine Below.setCell ?_ (by first | omega | (simp <;> omega)) _ | refine Below.alloc ?_ (by first | omega | (simp <;> omega)) _ | refine Below.drew ?_)

set_option maxRecDepth 100000 in
set_option maxHeartbeats 1000000 in
theorem IsPlan_not (F S J L H off : Int) (a : Option Addr) (n cap : Nat) (xs : List Int) (hr : isRuleB F S J L H = true) (ha : lies off (-20000) 20000 = true) (w : World) (hw : Ways w) (hN : Nums w a n xs) (hn : ¬ 200 < n) (hk : keepsB F S J 0 xs = false) :
    Calls Tryd.prog 16 #[.agg #[.int .i64 F, .int .i64 S, .int .i64 J, .int .i64 L, .int .i64 H], .int .i64 off, .slice a n cap] w fun e w' => e = .returned (.tuple #[.bool false, .int .i64 0]) ∧ Below w.heap.size w w' := by
  have hm := hN.2.1
  go_enter Tryd.func16, Tryd.ntmps16
  go_wp2_with fail
  go_region_held3 (fun W1 : World => W1.cell? ⟨w.heap.size, 0, none⟩ = some (.int .i64 F) ∧ W1.cell? ⟨w.heap.size, 1, none⟩ = some (.int .i64 S) ∧ W1.cell? ⟨w.heap.size, 2, none⟩ = some (.int .i64 J) ∧ W1.cell? ⟨w.heap.size, 3, none⟩ = some (.int .i64 L) ∧ W1.cell? ⟨w.heap.size, 4, none⟩ = some (.int .i64 H)) (simp [go_sem, *])
    (first | (go_at_call 55; refine (isOff_any _ _).mono ?_; rintro e w' ⟨rfl, rfl⟩) | (go_at_call 54; refine (opened_ok F S J L H _ hr).mono ?_; rintro e w1 ⟨b, rfl, hb, hnb, hnew⟩; obtain ⟨hc, hf⟩ := bcell hb; have hz := hb.size; simp at hz; simp at hnb; have hz1 : w.heap.size < w1.heap.size := (by omega); try (have hz2 : w.heap.size + 1 < w1.heap.size := (by omega)); try (have hz3 : w.heap.size + 1 + 1 < w1.heap.size := (by omega))))
  all_goals
    have hB1 : Below w.heap.size w w1 := by
      refine below_call ?_ hb
      repeat with_reducible (first | assumption | exact Below.refl _ _ | refine Below.setCell ?_ (by first | omega | (simp <;> omega)) _ | refine Below.alloc ?_ (by first | omega | (simp <;> omega)) _ | refine Below.drew ?_)
    have HNB := Lib.hid hnb; have HBL := Lib.hid (Array.getElem?_eq_some_iff.1 hnew).1; have HB := Lib.hid hB1; have HN := Lib.hid hnew; clear hnb hB1 hnew hb
    go_wp2_with fail
    refine (keeps_any F S J L H (some b) a n cap xs _ (hN.below ?_) hr).mono ?_
    · have hnb := HNB.out
      repeat with_reducible (first | assumption | exact HB.out | exact Below.refl _ _ | refine Below.setCell ?_ (by first | omega | (simp <;> omega)) _ | refine Below.alloc ?_ (by first | omega | (simp <;> omega)) _ | refine Below.drew ?_)
    rintro e w2 ⟨rfl, hb2⟩
    rw [hk]
    have hB2 : Below w.heap.size w w2 := by
      refine below_call ?_ hb2
      have hnb := HNB.out
      repeat with_reducible (first | assumption | exact HB.out | exact Below.refl _ _ | refine Below.setCell ?_ (by first | omega | (simp <;> omega)) _ | refine Below.alloc ?_ (by first | omega | (simp <;> omega)) _ | refine Below.drew ?_)
    have HB2 := Lib.hid hB2; clear hB2 hb2
    go_wp2_with fail
    go_ret2
    exact ⟨rfl, HB2.out⟩

set_option maxRecDepth 100000 in
set_option maxHeartbeats 1000000 in
theorem IsPlan_nil (F S J L H off : Int) (a : Option Addr) (cap : Nat) (xs : List Int) (hr : isRuleB F S J L H = true) (ha : lies off (-20000) 20000 = true) (w : World) (hw : Ways w) (hN : Nums w a 0 xs) (hk : keepsB F S J 0 xs = true) :
    Calls Tryd.prog 16 #[.agg #[.int .i64 F, .int .i64 S, .int .i64 J, .int .i64 L, .int .i64 H], .int .i64 off, .slice a 0 cap] w fun e w' => e = .returned (.tuple #[.bool (decide (0 = -off)), .int .i64 0]) ∧ Below w.heap.size w w' := by
  have ho := lies_iff.1 ha
  have hx : xs = [] := List.eq_nil_of_length_eq_zero hN.1
  have htot : total xs = 0 := by rw [hx]; rfl
  have hw1 : IntKind.i64.wrap (-off) = -off := IntWalk.i64_in _ (by constructor <;> omega)
  go_enter Tryd.func16, Tryd.ntmps16
  go_wp2_with fail
  go_region_held3 (fun W1 : World => W1.cell? ⟨w.heap.size, 0, none⟩ = some (.int .i64 F) ∧ W1.cell? ⟨w.heap.size, 1, none⟩ = some (.int .i64 S) ∧ W1.cell? ⟨w.heap.size, 2, none⟩ = some (.int .i64 J) ∧ W1.cell? ⟨w.heap.size, 3, none⟩ = some (.int .i64 L) ∧ W1.cell? ⟨w.heap.size, 4, none⟩ = some (.int .i64 H)) (simp [go_sem, *])
    (first | (go_at_call 55; refine (isOff_any _ _).mono ?_; rintro e w' ⟨rfl, rfl⟩) | (go_at_call 54; refine (opened_ok F S J L H _ hr).mono ?_; rintro e w1 ⟨b, rfl, hb, hnb, hnew⟩; obtain ⟨hc, hf⟩ := bcell hb; have hz := hb.size; simp at hz; simp at hnb; have hz1 : w.heap.size < w1.heap.size := (by omega); try (have hz2 : w.heap.size + 1 < w1.heap.size := (by omega)); try (have hz3 : w.heap.size + 1 + 1 < w1.heap.size := (by omega))))
  all_goals
    have hB1 : Below w.heap.size w w1 := by
      refine below_call ?_ hb
      repeat with_reducible (first | assumption | exact Below.refl _ _ | refine Below.setCell ?_ (by first | omega | (simp <;> omega)) _ | refine Below.alloc ?_ (by first | omega | (simp <;> omega)) _ | refine Below.drew ?_)
    have HNB := Lib.hid hnb; have HBL := Lib.hid (Array.getElem?_eq_some_iff.1 hnew).1; have HB := Lib.hid hB1; have HN := Lib.hid hnew; clear hnb hB1 hnew hb
    go_wp2_with fail
    refine (keeps_any F S J L H (some b) a 0 cap xs _ (hN.below ?_) hr).mono ?_
    · have hnb := HNB.out
      repeat with_reducible (first | assumption | exact HB.out | exact Below.refl _ _ | refine Below.setCell ?_ (by first | omega | (simp <;> omega)) _ | refine Below.alloc ?_ (by first | omega | (simp <;> omega)) _ | refine Below.drew ?_)
    rintro e w2 ⟨rfl, hb2⟩
    rw [hk]
    have hB2 : Below w.heap.size w w2 := by
      refine below_call ?_ hb2
      have hnb := HNB.out
      repeat with_reducible (first | assumption | exact HB.out | exact Below.refl _ _ | refine Below.setCell ?_ (by first | omega | (simp <;> omega)) _ | refine Below.alloc ?_ (by first | omega | (simp <;> omega)) _ | refine Below.drew ?_)
    have hN2 := hN.below hB2
    have HB2 := Lib.hid hB2; clear hB2 hb2
    have hsum := fun W (h : Nums W a 0 xs) => sum_any a 0 cap xs W h
    rw [htot] at hsum
    go_wp2_with fail
    go_quiet (fail)
    go_wp2_with fail
    refine (hsum _ (hN2.below (below_drewN (Below.refl _ _) _))).mono ?_
    rintro e w3 ⟨rfl, rfl⟩
    go_wp2_with fail
    go_ret2
    exact ⟨rfl, below_drewN HB2.out _⟩

set_option maxRecDepth 100000 in
set_option maxHeartbeats 1000000 in
theorem IsPlan_rough (F S J L H off : Int) (a : Option Addr) (n cap : Nat) (xs : List Int) (hr : isRuleB F S J L H = true) (ha : lies off (-20000) 20000 = true) (w : World) (hw : Ways w) (hN : Nums w a n xs) (hn : ¬ 200 < n) (h0 : 0 < n) (hk : keepsB F S J 0 xs = true) (hs : lies (xs[n - 1]?.getD 0) (-J) J = false) :
    Calls Tryd.prog 16 #[.agg #[.int .i64 F, .int .i64 S, .int .i64 J, .int .i64 L, .int .i64 H], .int .i64 off, .slice a n cap] w fun e w' => e = .returned (.tuple #[.bool false, .int .i64 0]) ∧ Below w.heap.size w w' := by
  have ho := lies_iff.1 ha
  obtain ⟨hF, hS, hJ, _⟩ := isRuleB_spec hr
  have hw1 : IntKind.i64.wrap (-off) = -off := IntWalk.i64_in _ (by constructor <;> omega)
  have hwJ : IntKind.i64.wrap (-J) = -J := IntWalk.i64_in _ (by constructor <;> omega)
  have hwn : IntKind.i64.wrap ((n : Int) - 1) = (n : Int) - 1 := IntWalk.i64_in _ (by constructor <;> omega)
  have hn1 : (0 : Int) ≤ (n : Int) - 1 := by omega
  have hn2 : (n : Int) - 1 < n := by omega
  have hn3 : ((n : Int) - 1).toNat = n - 1 := by omega
  have hne : ((n : Int) == 0) = false := by simp; omega
  go_enter Tryd.func16, Tryd.ntmps16
  go_wp2_with fail
  go_region_held3 (fun W1 : World => W1.cell? ⟨w.heap.size, 0, none⟩ = some (.int .i64 F) ∧ W1.cell? ⟨w.heap.size, 1, none⟩ = some (.int .i64 S) ∧ W1.cell? ⟨w.heap.size, 2, none⟩ = some (.int .i64 J) ∧ W1.cell? ⟨w.heap.size, 3, none⟩ = some (.int .i64 L) ∧ W1.cell? ⟨w.heap.size, 4, none⟩ = some (.int .i64 H)) (simp [go_sem, *])
    (first | (go_at_call 55; refine (isOff_any _ _).mono ?_; rintro e w' ⟨rfl, rfl⟩) | (go_at_call 54; refine (opened_ok F S J L H _ hr).mono ?_; rintro e w1 ⟨b, rfl, hb, hnb, hnew⟩; obtain ⟨hc, hf⟩ := bcell hb; have hz := hb.size; simp at hz; simp at hnb; have hz1 : w.heap.size < w1.heap.size := (by omega); try (have hz2 : w.heap.size + 1 < w1.heap.size := (by omega)); try (have hz3 : w.heap.size + 1 + 1 < w1.heap.size := (by omega))))
  all_goals
    have hB1 : Below w.heap.size w w1 := by
      refine below_call ?_ hb
      repeat with_reducible (first | assumption | exact Below.refl _ _ | refine Below.setCell ?_ (by first | omega | (simp <;> omega)) _ | refine Below.alloc ?_ (by first | omega | (simp <;> omega)) _ | refine Below.drew ?_)
    have HNB := Lib.hid hnb; have HBL := Lib.hid (Array.getElem?_eq_some_iff.1 hnew).1; have HB := Lib.hid hB1; have HN := Lib.hid hnew; clear hnb hB1 hnew hb
    go_wp2_with fail
    refine (keeps_any F S J L H (some b) a n cap xs _ (hN.below ?_) hr).mono ?_
    · have hnb := HNB.out
      repeat with_reducible (first | assumption | exact HB.out | exact Below.refl _ _ | refine Below.setCell ?_ (by first | omega | (simp <;> omega)) _ | refine Below.alloc ?_ (by first | omega | (simp <;> omega)) _ | refine Below.drew ?_)
    rintro e w2 ⟨rfl, hb2⟩
    rw [hk]
    have hB2 : Below w.heap.size w w2 := by
      refine below_call ?_ hb2
      have hnb := HNB.out
      repeat with_reducible (first | assumption | exact HB.out | exact Below.refl _ _ | refine Below.setCell ?_ (by first | omega | (simp <;> omega)) _ | refine Below.alloc ?_ (by first | omega | (simp <;> omega)) _ | refine Below.drew ?_)
    have hN2 := hN.below hB2
    obtain ⟨hc2, hf2⟩ := bcell hb2
    have hz9 := hb2.size
    simp at hz9
    obtain ⟨pb, po, hpa, hcell⟩ := hN2.2.2 h0
    have hck := hcell (n - 1) (by omega)
    rw [List.getD_eq_getElem?_getD] at hck
    have HB2 := Lib.hid hB2; clear hB2 hb2 hcell
    have hsum := fun W (h : Nums W a n xs) => sum_any a n cap xs W h
    subst hpa
    go_wp2_with fail
    go_quiet ((go_at_call 57; exact Calls.quiet_of_same (lies_same _ _ _ _)))
    go_wp2_with fail
    go_ret2
    exact ⟨rfl, below_drewN HB2.out _⟩

set_option maxRecDepth 100000 in
set_option maxHeartbeats 1000000 in
theorem IsPlan_some (F S J L H off : Int) (a : Option Addr) (n cap : Nat) (xs : List Int) (hr : isRuleB F S J L H = true) (ha : lies off (-20000) 20000 = true) (w : World) (hw : Ways w) (hN : Nums w a n xs) (hn : ¬ 200 < n) (h0 : 0 < n) (hk : keepsB F S J 0 xs = true) (hs : lies (xs[n - 1]?.getD 0) (-J) J = true) :
    Calls Tryd.prog 16 #[.agg #[.int .i64 F, .int .i64 S, .int .i64 J, .int .i64 L, .int .i64 H], .int .i64 off, .slice a n cap] w fun e w' => e = .returned (.tuple #[.bool (decide (total xs = -off)), .int .i64 0]) ∧ Below w.heap.size w w' := by
  have ho := lies_iff.1 ha
  obtain ⟨hF, hS, hJ, _⟩ := isRuleB_spec hr
  have hw1 : IntKind.i64.wrap (-off) = -off := IntWalk.i64_in _ (by constructor <;> omega)
  have hwJ : IntKind.i64.wrap (-J) = -J := IntWalk.i64_in _ (by constructor <;> omega)
  have hwn : IntKind.i64.wrap ((n : Int) - 1) = (n : Int) - 1 := IntWalk.i64_in _ (by constructor <;> omega)
  have hn1 : (0 : Int) ≤ (n : Int) - 1 := by omega
  have hn2 : (n : Int) - 1 < n := by omega
  have hn3 : ((n : Int) - 1).toNat = n - 1 := by omega
  have hne : ((n : Int) == 0) = false := by simp; omega
  go_enter Tryd.func16, Tryd.ntmps16
  go_wp2_with fail
  go_region_held3 (fun W1 : World => W1.cell? ⟨w.heap.size, 0, none⟩ = some (.int .i64 F) ∧ W1.cell? ⟨w.heap.size, 1, none⟩ = some (.int .i64 S) ∧ W1.cell? ⟨w.heap.size, 2, none⟩ = some (.int .i64 J) ∧ W1.cell? ⟨w.heap.size, 3, none⟩ = some (.int .i64 L) ∧ W1.cell? ⟨w.heap.size, 4, none⟩ = some (.int .i64 H)) (simp [go_sem, *])
    (first | (go_at_call 55; refine (isOff_any _ _).mono ?_; rintro e w' ⟨rfl, rfl⟩) | (go_at_call 54; refine (opened_ok F S J L H _ hr).mono ?_; rintro e w1 ⟨b, rfl, hb, hnb, hnew⟩; obtain ⟨hc, hf⟩ := bcell hb; have hz := hb.size; simp at hz; simp at hnb; have hz1 : w.heap.size < w1.heap.size := (by omega); try (have hz2 : w.heap.size + 1 < w1.heap.size := (by omega)); try (have hz3 : w.heap.size + 1 + 1 < w1.heap.size := (by omega))))
  all_goals
    have hB1 : Below w.heap.size w w1 := by
      refine below_call ?_ hb
      repeat with_reducible (first | assumption | exact Below.refl _ _ | refine Below.setCell ?_ (by first | omega | (simp <;> omega)) _ | refine Below.alloc ?_ (by first | omega | (simp <;> omega)) _ | refine Below.drew ?_)
    have HNB := Lib.hid hnb; have HBL := Lib.hid (Array.getElem?_eq_some_iff.1 hnew).1; have HB := Lib.hid hB1; have HN := Lib.hid hnew; clear hnb hB1 hnew hb
    go_wp2_with fail
    refine (keeps_any F S J L H (some b) a n cap xs _ (hN.below ?_) hr).mono ?_
    · have hnb := HNB.out
      repeat with_reducible (first | assumption | exact HB.out | exact Below.refl _ _ | refine Below.setCell ?_ (by first | omega | (simp <;> omega)) _ | refine Below.alloc ?_ (by first | omega | (simp <;> omega)) _ | refine Below.drew ?_)
    rintro e w2 ⟨rfl, hb2⟩
    rw [hk]
    have hB2 : Below w.heap.size w w2 := by
      refine below_call ?_ hb2
      have hnb := HNB.out
      repeat with_reducible (first | assumption | exact HB.out | exact Below.refl _ _ | refine Below.setCell ?_ (by first | omega | (simp <;> omega)) _ | refine Below.alloc ?_ (by first | omega | (simp <;> omega)) _ | refine Below.drew ?_)
    have hN2 := hN.below hB2
    obtain ⟨hc2, hf2⟩ := bcell hb2
    have hz9 := hb2.size
    simp at hz9
    obtain ⟨pb, po, hpa, hcell⟩ := hN2.2.2 h0
    have hck := hcell (n - 1) (by omega)
    rw [List.getD_eq_getElem?_getD] at hck
    have HB2 := Lib.hid hB2; clear hB2 hb2 hcell
    have hsum := fun W (h : Nums W a n xs) => sum_any a n cap xs W h
    subst hpa
    go_wp2_with fail
    go_quiet ((go_at_call 57; exact Calls.quiet_of_same (lies_same _ _ _ _)))
    go_wp2_with fail
    refine (hsum _ (hN2.below (below_drewN (Below.refl _ _) _))).mono ?_
    rintro e w3 ⟨rfl, rfl⟩
    go_wp2_with fail
    go_ret2
    exact ⟨rfl, below_drewN HB2.out _⟩

theorem IsPlan_ok (F S J L H off : Int) (a : Option Addr) (n cap : Nat) (xs : List Int) (hr : isRuleB F S J L H = true) (ha : lies off (-20000) 20000 = true) (w : World) (hw : Ways w) (hN : Nums w a n xs) :
    Calls Tryd.prog 16 #[.agg #[.int .i64 F, .int .i64 S, .int .i64 J, .int .i64 L, .int .i64 H], .int .i64 off, .slice a n cap] w fun e w' => e = .returned (.tuple #[.bool (isPlanB F S J off n xs), .int .i64 0]) ∧ Below w.heap.size w w' := by
  by_cases hn : 200 < n
  · have he : isPlanB F S J off n xs = false := by simp [isPlanB]; omega
    rw [he]; exact IsPlan_long F S J L H off a n cap xs hr ha w hw hN hn
  have hd : decide (n ≤ 200) = true := by simp; omega
  cases hk : keepsB F S J 0 xs with
  | false =>
    have he : isPlanB F S J off n xs = false := by simp [isPlanB, hk]
    rw [he]; exact IsPlan_not F S J L H off a n cap xs hr ha w hw hN hn hk
  | true =>
    by_cases h0 : n = 0
    · subst h0
      have hx : xs = [] := List.eq_nil_of_length_eq_zero hN.1
      have he : isPlanB F S J off 0 xs = decide (0 = -off) := by
        unfold isPlanB smoothB
        rw [hk, hx, show total [] = 0 from rfl]; simp
      rw [he]; exact IsPlan_nil F S J L H off a cap xs hr ha w hw hN hk
    · have hz : decide (n = 0) = false := by simp [h0]
      cases hs : lies (xs[n - 1]?.getD 0) (-J) J with
      | false =>
        have he : isPlanB F S J off n xs = false := by unfold isPlanB smoothB; rw [hk, hs, hz]; simp
        rw [he]; exact IsPlan_rough F S J L H off a n cap xs hr ha w hw hN hn (by omega) hk hs
      | true =>
        have he : isPlanB F S J off n xs = decide (total xs = -off) := by unfold isPlanB smoothB; rw [hk, hs, hz, hd]; simp
        rw [he]; exact IsPlan_some F S J L H off a n cap xs hr ha w hw hN hn (by omega) hk hs

end Go.Proofs.YtidnopmjhhmedaaDoor
end

section
/- Shown. -/
set_option linter.unusedSimpArgs false
set_option linter.unusedVariables false
namespace Go.Proofs.YtidnopmjhhmedaaDoor
open Go.RowKit

/-- The cells of a rule's numbers in a block. -/
abbrev At5 (W : World) (N : Nat) (F S J L H : Int) : Prop := W.cell? ⟨N, 0, none⟩ = some (.int .i64 F) ∧ W.cell? ⟨N, 1, none⟩ = some (.int .i64 S) ∧ W.cell? ⟨N, 2, none⟩ = some (.int .i64 J) ∧ W.cell? ⟨N, 3, none⟩ = some (.int .i64 L) ∧ W.cell? ⟨N, 4, none⟩ = some (.int .i64 H)
theorem At5.of {W W1 : World} {N : Nat} {F S J L H : Int} (h : At5 W N F S J L H) (hh : W1.heap[N]? = W.heap[N]?) : At5 W1 N F S J L H := by
  have hc : ∀ o, W1.cell? ⟨N, o, none⟩ = W.cell? ⟨N, o, none⟩ := fun o => World.cell?_of_block (w := W) hh
  exact ⟨(hc 0).trans h.1, (hc 1).trans h.2.1, (hc 2).trans h.2.2.1, (hc 3).trans h.2.2.2.1, (hc 4).trans h.2.2.2.2⟩
theorem At5.lt {W : World} {N : Nat} {F S J L H : Int} (h : At5 W N F S J L H) : N < W.heap.size := World.block_lt_of_cell? W _ h.1
theorem At5.below {W W1 : World} {N : Nat} {F S J L H : Int} (h : At5 W N F S J L H) (hb : Below W.heap.size W W1) : At5 W1 N F S J L H := h.of (hb.block N h.lt)
theorem At5.alloc {W : World} {N : Nat} {F S J L H : Int} (h : At5 W N F S J L H) (o : Obj) : At5 (W.alloc o) N F S J L H := h.of (Below.heap_alloc _ _ _ h.lt)
theorem At5.setCell {W : World} {N : Nat} {F S J L H : Int} {p : Addr} {v : Value} (h : At5 W N F S J L H) (hp : N ≠ p.block) : At5 (W.setCell p v) N F S J L H := h.of (Below.heap_setCell _ _ _ _ hp)

theorem opened_ask' (F S J L H : Int) {ok : Bool} (hok : ok = false) (w : World) (h : isRuleB F S J L H = true) :
    Calls Tryd.prog 54 #[.agg #[.int .i64 F, .int .i64 S, .int .i64 J, .int .i64 L, .int .i64 H], .bool ok] w fun e w' =>
      e = .returned (.tuple #[.agg #[.int .i64 0, .int .i64 0, .int .i64 0, .int .i64 0, .int .i64 0, .map none], .int .i64 41]) ∧ Below w.heap.size w w' := by
  subst hok; exact opened_ask F S J L H w h
theorem opened_ok' (F S J L H : Int) {ok : Bool} (hok : ok = true) (w : World) (h : isRuleB F S J L H = true) :
    Calls Tryd.prog 54 #[.agg #[.int .i64 F, .int .i64 S, .int .i64 J, .int .i64 L, .int .i64 H], .bool ok] w fun e w' =>
      ∃ b, e = .returned (.tuple #[.agg #[.int .i64 F, .int .i64 S, .int .i64 J, .int .i64 L, .int .i64 H, .map (some b)], .int .i64 0]) ∧ NewMap w w' b := by
  subst hok; exact opened_ok F S J L H w h

theorem lies_is {n a b : Int} {v : Bool} (h : lies n a b = v) (w : World) : Calls Tryd.prog 57 #[.int .i64 n, .int .i64 a, .int .i64 b] w fun e w' => e = .returned (.bool v) ∧ w = w' := h ▸ lies_any n a b w

attribute [local go_sem] Oper.semAt_some
/-- A block of six cells that may be written. -/
def Six (W : World) (p : Nat) : Prop := ∃ c0 c1 c2 c3 c4 c5 : Value, W.heap[p]? = some (.cells #[c0, c1, c2, c3, c4, c5] 80 (0, 0))
theorem Six.cells {W : World} {p : Nat} (h : Six W p) : ∃ c0 c1 c2 c3 c4 c5 : Value, W.cell? ⟨p, 0, none⟩ = some c0 ∧ W.cell? ⟨p, 1, none⟩ = some c1 ∧ W.cell? ⟨p, 2, none⟩ = some c2 ∧ W.cell? ⟨p, 3, none⟩ = some c3 ∧ W.cell? ⟨p, 4, none⟩ = some c4 ∧ W.cell? ⟨p, 5, none⟩ = some c5 ∧ ∀ o, W.frozen? ⟨p, o, none⟩ = false := by
  obtain ⟨c0, c1, c2, c3, c4, c5, h⟩ := h
  refine ⟨c0, c1, c2, c3, c4, c5, ?_, ?_, ?_, ?_, ?_, ?_, ?_⟩
  all_goals first | (simp [World.cell?, h]; done) | (intro o; simp [World.frozen?, h])

theorem step_skip {F : Fence} {n : Nat} {P : Program} {ops : Array Oper} {Q : Exit → Act → World → Prop} {i : Nat} {o : Oper} {a : Act} {w : World} {K : Act → World → Prop}
    (ho : ops[i]? = some o) (hw : Region.wanted o (yielded ops a.tmps) = false) (hab : ∀ f, o.about P w a.eval = some f → F.fn f) (hK : K (a.put o.dst undef) w) : wpOpIn F n P ops Q i K a w := by
  unfold wpOpIn
  rw [ho]
  simp only [hw, Bool.false_eq_true, if_false]
  exact ⟨hab, hK⟩
theorem step_store {F : Fence} {n : Nat} {P : Program} {ops : Array Oper} {Q : Exit → Act → World → Prop} {i : Nat} {o : Oper} {a : Act} {w w' : World} {K : Act → World → Prop}
    (ho : ops[i]? = some o) (hg : o.guard = none) (hab : ∀ f, o.about P w a.eval = some f → F.fn f) (hrun : (o.semAt F.round a.eval).run P w = .ok .skip w') (hK : K (a.put o.dst undef) w') : wpOpIn F n P ops Q i K a w := by
  unfold wpOpIn
  rw [ho]
  simp only [Region.wanted, hg, if_true, Oper.wpIn, hrun, Oper.uponIn]
  exact ⟨hab, hK⟩
theorem step_alloc {F : Fence} {n : Nat} {P : Program} {ops : Array Oper} {Q : Exit → Act → World → Prop} {i : Nat} {o : Oper} {v : Value} {a : Act} {w w' : World} {K : Act → World → Prop}
    (ho : ops[i]? = some o) (hg : o.guard = none) (hab : ∀ f, o.about P w a.eval = some f → F.fn f) (hrun : (o.semAt F.round a.eval).run P w = .ok (.value v) w') (hK : K (a.put o.dst v) w') : wpOpIn F n P ops Q i K a w := by
  unfold wpOpIn
  rw [ho]
  simp only [Region.wanted, hg, if_true, Oper.wpIn, hrun, Oper.uponIn]
  exact ⟨hab, hK⟩
def updS (x : Nat → Value) (j : Nat) (v : Value) : Nat → Value := fun k => if k = j then v else x k
theorem updS_ok {x val : Nat → Value} {listed : Array Bool} {i : Nat} {v : Value} (hi : i < listed.size) (hx : ∀ j, j < 15 → j ≠ 12 → j ≠ 13 → listed.getD j false = true → x j = val j) (hv : i ≠ 12 → i ≠ 13 → v = val i) :
    ∀ j, j < 15 → j ≠ 12 → j ≠ 13 → (listed.setIfInBounds i true).getD j false = true → updS x i v j = val j := by
  intro j hj h12 h13 hl
  unfold updS
  by_cases h : j = i
  · subst h; rw [if_pos rfl, hv h12 h13]
  · rw [if_neg h]
    rw [getD_set hi, if_neg h] at hl
    exact hx j hj h12 h13 hl

/-- The frame of Shown in its first drawn region. -/
def sact (f : Int) (a : Option Addr) (n cap N : Nat) (r : Value) (x : Nat → Value) : Act :=
  { tmps := #[r, .int .i64 f, .slice a n cap, .pointer (some ⟨N, 0, none⟩), undef, undef, .slice none 0 0, .int .i64 0, x 12, x 14, undef, undef, undef, x 9, x 0, x 1, x 2, x 3, x 4, x 5, x 6, x 7, x 8, x 10, x 11,
      undef, undef, undef, undef, undef, undef, undef, undef, undef, undef, undef, undef, undef, undef, undef, undef, undef, undef, undef, undef, undef, undef, undef, undef, undef, undef, undef, undef, undef, undef], defers := [] }
def zrule : Value := .agg #[.int .i64 0, .int .i64 0, .int .i64 0, .int .i64 0, .int .i64 0, .map none]
def sval (f : Int) (r : Value) (code : Int) : Nat → Value
  | 0 => r
  | 1 => .int .i64 f
  | 2 => .bool false
  | 3 => .bool false
  | 4 => undef
  | 5 => undef
  | 6 => undef
  | 7 => .bool false
  | 8 => .tuple #[zrule, .int .i64 code]
  | 9 => .tuple #[zrule, .int .i64 code]
  | 10 => zrule
  | 11 => .int .i64 code
  | _ => .int .i64 code

def SInv (f : Int) (a : Option Addr) (n cap : Nat) (F S J L H code : Int) (w : World) (listed : Array Bool) (ac : Act) (W : World) : Prop :=
  ∃ x : Nat → Value, ac = sact f a n cap w.heap.size (.agg #[.int .i64 F, .int .i64 S, .int .i64 J, .int .i64 L, .int .i64 H]) x ∧
    (∀ j, j < 15 → j ≠ 12 → j ≠ 13 → listed.getD j false = true → x j = sval f (.agg #[.int .i64 F, .int .i64 S, .int .i64 J, .int .i64 L, .int .i64 H]) code j) ∧
    At5 W w.heap.size F S J L H ∧ Below w.heap.size w W ∧ (listed.getD 12 false = true → ∃ p, x 12 = .pointer (some ⟨p, 0, none⟩) ∧ w.heap.size < p ∧ p < W.heap.size ∧ (listed.getD 13 false = false → Six W p))

set_option maxRecDepth 100000 in
set_option maxHeartbeats 2000000 in
theorem Shown_no (F S J L H f code : Int) (a : Option Addr) (n cap : Nat) (w : World) (hl : lies f 0 10000000 = false)
    (hop : ∀ W, Calls Tryd.prog 54 #[.agg #[.int .i64 F, .int .i64 S, .int .i64 J, .int .i64 L, .int .i64 H], .bool false] W fun e w' => e = .returned (.tuple #[zrule, .int .i64 code]) ∧ Below W.heap.size W w') (hcode : (code == 0) = false) :
    Calls Tryd.prog 24 #[.agg #[.int .i64 F, .int .i64 S, .int .i64 J, .int .i64 L, .int .i64 H], .int .i64 f, .slice a n cap] w fun e w' => e = .returned (.tuple #[.slice none 0 0, .int .i64 code]) ∧ Below w.heap.size w w' := by
  have hl' := hl
  clear hl
  go_enter Tryd.func24, Tryd.ntmps24
  go_wp2_with fail
  refine (wpIn_wide (n := 3)).1 ?_
  refine wpIn_region_inv (by rfl) (SInv f a n cap F S J L H code w) (by decide) ?inv0 ?step ?fin
  case inv0 =>
    refine ⟨fun _ => undef, rfl, fun j _ _ _ h => (by rw [getD_none_listed] at h; cases h), ?_, ?_, fun h => (by rw [getD_none_listed] at h; cases h)⟩
    · exact At5.of (W := w.alloc (.cells #[.int .i64 F, .int .i64 S, .int .i64 J, .int .i64 L, .int .i64 H] 25)) (by simp [At5, go_sem]) rfl
    · exact ((Below.refl _ _).alloc (Nat.le_refl _) _).drew
  case fin =>
    rintro listed ac W hd ⟨x, rfl, hx, h5, hB, hp⟩
    obtain ⟨p, hp, _⟩ := hp (hd 12 (by decide))
    have e14 := hx 14 (by decide) (by decide) (by decide) (hd 14 (by decide))
    simp only [sval] at e14
    have HB := Lib.hid hB
    have HE := Lib.hid hcode
    unfold sact
    rw [e14]
    go_wp2_with fail
    go_ret2
    exact ⟨rfl, HB.out⟩
  case step =>
    rintro listed ac W i hc ⟨x, rfl, hx, h5, hB, hp⟩ hi hl hpr
    have hsz : i < listed.size := by rw [hc.1]; exact hi
    have hcases : i = 0 ∨ i = 1 ∨ i = 2 ∨ i = 3 ∨ i = 4 ∨ i = 5 ∨ i = 6 ∨ i = 7 ∨ i = 8 ∨ i = 9 ∨ i = 10 ∨ i = 11 ∨ i = 12 ∨ i = 13 ∨ i = 14 := by
      have : i < 15 := hi
      omega
    have hkeep : i ≠ 12 → i ≠ 13 → ((listed.setIfInBounds i true).getD 12 false = true → ∃ p, x 12 = .pointer (some ⟨p, 0, none⟩) ∧ w.heap.size < p ∧ p < W.heap.size ∧ ((listed.setIfInBounds i true).getD 13 false = false → Six W p)) := by
      intro h12 h13 h
      rw [getD_set hsz, if_neg (Ne.symm h12)] at h
      obtain ⟨p, h1, h2, h3, h4⟩ := hp h
      exact ⟨p, h1, h2, h3, fun h => h4 (by rw [getD_set hsz, if_neg (Ne.symm h13)] at h; exact h)⟩
    obtain ⟨g0, g1, g2, g3, g4⟩ := h5
    rcases hcases with rfl | rfl | rfl | rfl | rfl | rfl | rfl | rfl | rfl | rfl | rfl | rfl | rfl | rfl | rfl
    · refine step_val (v := sval f (.agg #[.int .i64 F, .int .i64 S, .int .i64 J, .int .i64 L, .int .i64 H]) code 0) rfl rfl (fun _ _ => trivial) ?_ ⟨updS x 0 _, rfl, updS_ok hsz hx (fun _ _ => rfl), ⟨g0, g1, g2, g3, g4⟩, hB, hkeep (by decide) (by decide)⟩
      simp [go_sem, sact, sval, zrule, g0, g1, g2, g3, g4]
    · refine step_val (v := sval f (.agg #[.int .i64 F, .int .i64 S, .int .i64 J, .int .i64 L, .int .i64 H]) code 1) rfl rfl (fun _ _ => trivial) ?_ ⟨updS x 1 _, rfl, updS_ok hsz hx (fun _ _ => rfl), ⟨g0, g1, g2, g3, g4⟩, hB, hkeep (by decide) (by decide)⟩
      simp [go_sem, sact, sval, zrule, g0, g1, g2, g3, g4]
    · have e1 := hx 1 (by decide) (by decide) (by decide) (hpr 1 (by decide)); simp only [sval] at e1
      refine step_call (f := 57) (args := #[.int .i64 f, .int .i64 0, .int .i64 10000000]) rfl rfl (fun _ _ => trivial) ?_ (fun h => by cases h) ((callsIn_wide.2 (lies_any f 0 10000000 W)).mono ?_)
      · simp [go_sem, sact, e1]
      · rintro e w' ⟨rfl, rfl⟩
        rw [hl']
        exact ⟨_, rfl, ⟨updS x 2 _, rfl, updS_ok hsz hx (fun _ _ => rfl), ⟨g0, g1, g2, g3, g4⟩, hB, hkeep (by decide) (by decide)⟩⟩
    · have e2 := hx 2 (by decide) (by decide) (by decide) (hpr 2 (by decide)); simp only [sval] at e2
      refine step_val (v := sval f (.agg #[.int .i64 F, .int .i64 S, .int .i64 J, .int .i64 L, .int .i64 H]) code 3) rfl rfl (fun _ _ => trivial) ?_ ⟨updS x 3 _, rfl, updS_ok hsz hx (fun _ _ => rfl), ⟨g0, g1, g2, g3, g4⟩, hB, hkeep (by decide) (by decide)⟩
      simp [go_sem, sact, sval, zrule, e2, g0, g1, g2, g3, g4]
    · have e3 := hx 3 (by decide) (by decide) (by decide) (hpr 3 (by decide)); simp only [sval] at e3
      exact step_skip rfl (by simp [Region.wanted, yielded, sact, e3]) (fun _ _ => trivial) ⟨updS x 4 _, rfl, updS_ok hsz hx (fun _ _ => rfl), ⟨g0, g1, g2, g3, g4⟩, hB, hkeep (by decide) (by decide)⟩
    · have e3 := hx 3 (by decide) (by decide) (by decide) (hpr 3 (by decide)); simp only [sval] at e3
      exact step_skip rfl (by simp [Region.wanted, yielded, sact, e3]) (fun _ _ => trivial) ⟨updS x 5 _, rfl, updS_ok hsz hx (fun _ _ => rfl), ⟨g0, g1, g2, g3, g4⟩, hB, hkeep (by decide) (by decide)⟩
    · have e3 := hx 3 (by decide) (by decide) (by decide) (hpr 3 (by decide)); simp only [sval] at e3
      exact step_skip rfl (by simp [Region.wanted, yielded, sact, e3]) (fun _ _ => trivial) ⟨updS x 6 _, rfl, updS_ok hsz hx (fun _ _ => rfl), ⟨g0, g1, g2, g3, g4⟩, hB, hkeep (by decide) (by decide)⟩
    · have e3 := hx 3 (by decide) (by decide) (by decide) (hpr 3 (by decide)); simp only [sval] at e3
      have e6 := hx 6 (by decide) (by decide) (by decide) (hpr 6 (by decide)); simp only [sval] at e6
      refine step_val (v := sval f (.agg #[.int .i64 F, .int .i64 S, .int .i64 J, .int .i64 L, .int .i64 H]) code 7) rfl rfl (fun _ _ => trivial) ?_ ⟨updS x 7 _, rfl, updS_ok hsz hx (fun _ _ => rfl), ⟨g0, g1, g2, g3, g4⟩, hB, hkeep (by decide) (by decide)⟩
      simp [go_sem, sact, sval, zrule, e3, e6, g0, g1, g2, g3, g4]
    · have e0 := hx 0 (by decide) (by decide) (by decide) (hpr 0 (by decide)); simp only [sval] at e0
      have e7 := hx 7 (by decide) (by decide) (by decide) (hpr 7 (by decide)); simp only [sval] at e7
      refine step_call (f := 54) (args := #[.agg #[.int .i64 F, .int .i64 S, .int .i64 J, .int .i64 L, .int .i64 H], .bool false]) rfl rfl (fun _ _ => trivial) ?_ (fun h => by cases h) ((callsIn_wide.2 (hop W)).mono ?_)
      · simp [go_sem, sact, e0, e7]
      · rintro e w' ⟨rfl, hb⟩
        refine ⟨_, rfl, updS x 8 _, rfl, updS_ok hsz hx (fun _ _ => rfl), At5.of (W := W) ⟨g0, g1, g2, g3, g4⟩ (hb.block _ (At5.lt ⟨g0, g1, g2, g3, g4⟩)), below_call hB hb, fun h => ?_⟩
        obtain ⟨p, q1, q2, q3, q4⟩ := hkeep (by decide) (by decide) h
        exact ⟨p, q1, q2, Nat.lt_of_lt_of_le q3 hb.size, fun h => by obtain ⟨c0, c1, c2, c3, c4, c5, q5⟩ := q4 h; exact ⟨c0, c1, c2, c3, c4, c5, (hb.block p q3).trans q5⟩⟩
    · have e8 := hx 8 (by decide) (by decide) (by decide) (hpr 8 (by decide)); simp only [sval] at e8
      refine step_val (v := sval f (.agg #[.int .i64 F, .int .i64 S, .int .i64 J, .int .i64 L, .int .i64 H]) code 9) rfl rfl (fun _ _ => trivial) ?_ ⟨updS x 9 _, rfl, updS_ok hsz hx (fun _ _ => rfl), ⟨g0, g1, g2, g3, g4⟩, hB, hkeep (by decide) (by decide)⟩
      simp [go_sem, sact, sval, zrule, e8, g0, g1, g2, g3, g4]
    · have e9 := hx 9 (by decide) (by decide) (by decide) (hpr 9 (by decide)); simp only [sval] at e9
      refine step_val (v := sval f (.agg #[.int .i64 F, .int .i64 S, .int .i64 J, .int .i64 L, .int .i64 H]) code 10) rfl rfl (fun _ _ => trivial) ?_ ⟨updS x 10 _, rfl, updS_ok hsz hx (fun _ _ => rfl), ⟨g0, g1, g2, g3, g4⟩, hB, hkeep (by decide) (by decide)⟩
      simp [go_sem, sact, sval, zrule, e9, g0, g1, g2, g3, g4]
    · have e9 := hx 9 (by decide) (by decide) (by decide) (hpr 9 (by decide)); simp only [sval] at e9
      refine step_val (v := sval f (.agg #[.int .i64 F, .int .i64 S, .int .i64 J, .int .i64 L, .int .i64 H]) code 11) rfl rfl (fun _ _ => trivial) ?_ ⟨updS x 11 _, rfl, updS_ok hsz hx (fun _ _ => rfl), ⟨g0, g1, g2, g3, g4⟩, hB, hkeep (by decide) (by decide)⟩
      simp [go_sem, sact, sval, zrule, e9, g0, g1, g2, g3, g4]
    · refine step_alloc (v := .pointer (some ⟨W.heap.size, 0, none⟩)) (w' := W.alloc (.cells #[.int .i64 0, .int .i64 0, .int .i64 0, .int .i64 0, .int .i64 0, .map none] 80)) rfl rfl (fun _ _ => trivial) ?_ ⟨updS x 12 _, rfl, updS_ok hsz hx (fun h => absurd rfl h), At5.of (W := W) ⟨g0, g1, g2, g3, g4⟩ (Below.heap_alloc _ _ _ (At5.lt ⟨g0, g1, g2, g3, g4⟩)), hB.alloc hB.size _, fun _ => ⟨W.heap.size, rfl, At5.lt ⟨g0, g1, g2, g3, g4⟩, by simp, fun _ => ⟨_, _, _, _, _, _, World.alloc_heap_new W _⟩⟩⟩
      simp [go_sem, sact]
    · have e10 := hx 10 (by decide) (by decide) (by decide) (hpr 10 (by decide)); simp only [sval] at e10
      obtain ⟨p, q1, q2, q3, q4⟩ := hp (hpr 12 (by decide))
      have hl13 : listed.getD 13 false = false := by
        have h2 : 13 < listed.size := hsz
        simp [h2] at hl ⊢; exact hl
      obtain ⟨c0, c1, c2, c3, c4, c5, r0, r1, r2, r3, r4, r5, rf⟩ := (q4 hl13).cells
      refine step_store (w' := (((((W.setCell ⟨p, 0, none⟩ (.int .i64 0)).setCell ⟨p, 1, none⟩ (.int .i64 0)).setCell ⟨p, 2, none⟩ (.int .i64 0)).setCell ⟨p, 3, none⟩ (.int .i64 0)).setCell ⟨p, 4, none⟩ (.int .i64 0)).setCell ⟨p, 5, none⟩ (.map none)) rfl rfl (fun _ _ => trivial) ?_ ⟨updS x 13 undef, rfl, updS_ok hsz hx (fun _ h => absurd rfl h), ?_, ?_, fun _ => ⟨p, q1, q2, ?_, fun h => by rw [getD_set hsz, if_pos rfl] at h; cases h⟩⟩
      · simp [go_sem, sact, zrule, e10, q1, r0, r1, r2, r3, r4, r5, rf]
      · refine At5.of (W := W) ⟨g0, g1, g2, g3, g4⟩ ?_
        repeat rw [Below.heap_setCell _ _ _ _ (by show w.heap.size ≠ p; omega)]
      · exact (((((hB.setCell (p := ⟨p, 0, none⟩) (by show _ ≤ p; omega) _).setCell (p := ⟨p, 1, none⟩) (by show _ ≤ p; omega) _).setCell (p := ⟨p, 2, none⟩) (by show _ ≤ p; omega) _).setCell (p := ⟨p, 3, none⟩) (by show _ ≤ p; omega) _).setCell (p := ⟨p, 4, none⟩) (by show _ ≤ p; omega) _).setCell (p := ⟨p, 5, none⟩) (by show _ ≤ p; omega) _
      · simpa using q3
    · have e11 := hx 11 (by decide) (by decide) (by decide) (hpr 11 (by decide)); simp only [sval] at e11
      refine step_val (v := sval f (.agg #[.int .i64 F, .int .i64 S, .int .i64 J, .int .i64 L, .int .i64 H]) code 14) rfl rfl (fun _ _ => trivial) ?_ ⟨updS x 14 _, rfl, updS_ok hsz hx (fun _ _ => rfl), ⟨g0, g1, g2, g3, g4⟩, hB, hkeep (by decide) (by decide)⟩
      simp [go_sem, sact, sval, zrule, e11, g0, g1, g2, g3, g4]

set_option maxRecDepth 100000 in
set_option maxHeartbeats 1000000 in
theorem Shown_bad2 (F S J L H f : Int) (a : Option Addr) (n cap : Nat) (xs : List Int) (w : World) (hN : Nums w a n xs) (hr : isRuleB F S J L H = false) (hl : lies f 0 10000000 = true) (hn : ¬ n ≤ 200) :
    Calls Tryd.prog 24 #[.agg #[.int .i64 F, .int .i64 S, .int .i64 J, .int .i64 L, .int .i64 H], .int .i64 f, .slice a n cap] w fun e w' => e = .returned (.tuple #[.slice none 0 0, .int .i64 40]) ∧ Below w.heap.size w w' := by
  have hm := hN.2.1
  go_enter Tryd.func24, Tryd.ntmps24
  go_wp2_with fail
  go_region_held3 (fun W1 : World => W1.cell? ⟨w.heap.size, 0, none⟩ = some (.int .i64 F) ∧ W1.cell? ⟨w.heap.size, 1, none⟩ = some (.int .i64 S) ∧ W1.cell? ⟨w.heap.size, 2, none⟩ = some (.int .i64 J) ∧ W1.cell? ⟨w.heap.size, 3, none⟩ = some (.int .i64 L) ∧ W1.cell? ⟨w.heap.size, 4, none⟩ = some (.int .i64 H)) (first | with_reducible exact At5.below hq hb | (rename_i hq2 _ _; first | with_reducible exact hq2 | with_reducible exact At5.alloc hq2 _ | ((repeat with_reducible refine At5.setCell ?_ (by first | omega | (simp <;> omega))) <;> with_reducible exact hq2)) | (simp [go_sem, *]; done))
    (first | (go_at_call 57; rename_i hq _ _; refine (lies_is hl _).mono ?_; rintro e w' ⟨rfl, rfl⟩) | (go_at_call 54; rename_i hq _ _; refine (opened_bad F S J L H _ _ hr).mono ?_; rintro e w1 ⟨rfl, hb⟩; obtain ⟨hc, hf⟩ := bcell hb; have hz := hb.size; simp at hz; have hz1 : w.heap.size < w1.heap.size := (by omega); try (have hz2 : w.heap.size + 1 < w1.heap.size := (by omega)); try (have hz3 : w.heap.size + 1 + 1 < w1.heap.size := (by omega))))
  all_goals
    go_wp2
    have hB1 : Below w.heap.size w w1 := by
      refine below_call ?_ hb
      repeat with_reducible (first | assumption | exact Below.refl _ _ | refine Below.setCell ?_ (by first | omega | (simp <;> omega)) _ | refine Below.alloc ?_ (by first | omega | (simp <;> omega)) _ | refine Below.drew ?_)
    go_ret2
    refine ⟨rfl, ?_⟩
    clear hb hc hf
    repeat with_reducible (first | assumption | exact Below.refl _ _ | refine Below.setCell ?_ (by first | omega | (simp <;> omega)) _ | refine Below.alloc ?_ (by first | omega | (simp <;> omega)) _ | refine Below.drew ?_)

set_option maxRecDepth 100000 in
set_option maxHeartbeats 1000000 in
theorem Shown_bad3 (F S J L H f : Int) (a : Option Addr) (n cap : Nat) (xs : List Int) (w : World) (hN : Nums w a n xs) (hr : isRuleB F S J L H = false) (hl : lies f 0 10000000 = true) (hn : n ≤ 200) :
    Calls Tryd.prog 24 #[.agg #[.int .i64 F, .int .i64 S, .int .i64 J, .int .i64 L, .int .i64 H], .int .i64 f, .slice a n cap] w fun e w' => e = .returned (.tuple #[.slice none 0 0, .int .i64 40]) ∧ Below w.heap.size w w' := by
  have hm := hN.2.1
  go_enter Tryd.func24, Tryd.ntmps24
  go_wp2_with fail
  go_region_held3 (fun W1 : World => W1.cell? ⟨w.heap.size, 0, none⟩ = some (.int .i64 F) ∧ W1.cell? ⟨w.heap.size, 1, none⟩ = some (.int .i64 S) ∧ W1.cell? ⟨w.heap.size, 2, none⟩ = some (.int .i64 J) ∧ W1.cell? ⟨w.heap.size, 3, none⟩ = some (.int .i64 L) ∧ W1.cell? ⟨w.heap.size, 4, none⟩ = some (.int .i64 H)) (first | with_reducible exact At5.below hq hb | (rename_i hq2 _ _; first | with_reducible exact hq2 | with_reducible exact At5.alloc hq2 _ | ((repeat with_reducible refine At5.setCell ?_ (by first | omega | (simp <;> omega))) <;> with_reducible exact hq2)) | (simp [go_sem, *]; done))
    (first | (go_at_call 57; rename_i hq _ _; refine (lies_is hl _).mono ?_; rintro e w' ⟨rfl, rfl⟩) | (go_at_call 54; rename_i hq _ _; refine (opened_bad F S J L H _ _ hr).mono ?_; rintro e w1 ⟨rfl, hb⟩; obtain ⟨hc, hf⟩ := bcell hb; have hz := hb.size; simp at hz; have hz1 : w.heap.size < w1.heap.size := (by omega); try (have hz2 : w.heap.size + 1 < w1.heap.size := (by omega)); try (have hz3 : w.heap.size + 1 + 1 < w1.heap.size := (by omega))))
  all_goals
    go_wp2
    have hB1 : Below w.heap.size w w1 := by
      refine below_call ?_ hb
      repeat with_reducible (first | assumption | exact Below.refl _ _ | refine Below.setCell ?_ (by first | omega | (simp <;> omega)) _ | refine Below.alloc ?_ (by first | omega | (simp <;> omega)) _ | refine Below.drew ?_)
    go_ret2
    refine ⟨rfl, ?_⟩
    clear hb hc hf
    repeat with_reducible (first | assumption | exact Below.refl _ _ | refine Below.setCell ?_ (by first | omega | (simp <;> omega)) _ | refine Below.alloc ?_ (by first | omega | (simp <;> omega)) _ | refine Below.drew ?_)

theorem Shown_bad1 (F S J L H f : Int) (a : Option Addr) (n cap : Nat) (xs : List Int) (w : World) (hN : Nums w a n xs) (hr : isRuleB F S J L H = false) (hl : lies f 0 10000000 = false) :
    Calls Tryd.prog 24 #[.agg #[.int .i64 F, .int .i64 S, .int .i64 J, .int .i64 L, .int .i64 H], .int .i64 f, .slice a n cap] w fun e w' => e = .returned (.tuple #[.slice none 0 0, .int .i64 40]) ∧ Below w.heap.size w w' :=
  Shown_no F S J L H f 40 a n cap w hl (fun W => opened_bad F S J L H false W hr) (by decide)
theorem Shown_ask1 (F S J L H f : Int) (a : Option Addr) (n cap : Nat) (xs : List Int) (w : World) (hN : Nums w a n xs) (hr : isRuleB F S J L H = true) (hl : lies f 0 10000000 = false) :
    Calls Tryd.prog 24 #[.agg #[.int .i64 F, .int .i64 S, .int .i64 J, .int .i64 L, .int .i64 H], .int .i64 f, .slice a n cap] w fun e w' => e = .returned (.tuple #[.slice none 0 0, .int .i64 41]) ∧ Below w.heap.size w w' :=
  Shown_no F S J L H f 41 a n cap w hl (fun W => opened_ask F S J L H W hr) (by decide)

set_option maxRecDepth 100000 in
set_option maxHeartbeats 1000000 in
theorem Shown_ask2 (F S J L H f : Int) (a : Option Addr) (n cap : Nat) (xs : List Int) (w : World) (hN : Nums w a n xs) (hr : isRuleB F S J L H = true) (hl : lies f 0 10000000 = true) (hn : ¬ n ≤ 200) :
    Calls Tryd.prog 24 #[.agg #[.int .i64 F, .int .i64 S, .int .i64 J, .int .i64 L, .int .i64 H], .int .i64 f, .slice a n cap] w fun e w' => e = .returned (.tuple #[.slice none 0 0, .int .i64 41]) ∧ Below w.heap.size w w' := by
  have hm := hN.2.1
  go_enter Tryd.func24, Tryd.ntmps24
  go_wp2_with fail
  go_region_held3 (fun W1 : World => W1.cell? ⟨w.heap.size, 0, none⟩ = some (.int .i64 F) ∧ W1.cell? ⟨w.heap.size, 1, none⟩ = some (.int .i64 S) ∧ W1.cell? ⟨w.heap.size, 2, none⟩ = some (.int .i64 J) ∧ W1.cell? ⟨w.heap.size, 3, none⟩ = some (.int .i64 L) ∧ W1.cell? ⟨w.heap.size, 4, none⟩ = some (.int .i64 H)) (first | with_reducible exact At5.below hq hb | (rename_i hq2 _ _; first | with_reducible exact hq2 | with_reducible exact At5.alloc hq2 _ | ((repeat with_reducible refine At5.setCell ?_ (by first | omega | (simp <;> omega))) <;> with_reducible exact hq2)) | (simp [go_sem, *]; done))
    (first | (go_at_call 57; rename_i hq _ _; refine (lies_is hl _).mono ?_; rintro e w' ⟨rfl, rfl⟩) | (go_at_call 54; rename_i hq _ _; refine (opened_ask' F S J L H (by first | rfl | (simp; omega)) _ hr).mono ?_; rintro e w1 ⟨rfl, hb⟩; obtain ⟨hc, hf⟩ := bcell hb; have hz := hb.size; simp at hz; have hz1 : w.heap.size < w1.heap.size := (by omega); try (have hz2 : w.heap.size + 1 < w1.heap.size := (by omega)); try (have hz3 : w.heap.size + 1 + 1 < w1.heap.size := (by omega))))
  all_goals
    go_wp2
    have hB1 : Below w.heap.size w w1 := by
      refine below_call ?_ hb
      repeat with_reducible (first | assumption | exact Below.refl _ _ | refine Below.setCell ?_ (by first | omega | (simp <;> omega)) _ | refine Below.alloc ?_ (by first | omega | (simp <;> omega)) _ | refine Below.drew ?_)
    go_ret2
    refine ⟨rfl, ?_⟩
    clear hb hc hf
    repeat with_reducible (first | assumption | exact Below.refl _ _ | refine Below.setCell ?_ (by first | omega | (simp <;> omega)) _ | refine Below.alloc ?_ (by first | omega | (simp <;> omega)) _ | refine Below.drew ?_)

set_option maxRecDepth 100000 in
set_option maxHeartbeats 1000000 in
theorem Shown_not (F S J L H f : Int) (a : Option Addr) (n cap : Nat) (xs : List Int) (w : World) (hN : Nums w a n xs) (hr : isRuleB F S J L H = true) (hl : lies f 0 10000000 = true) (hn : n ≤ 200) (hk : keepsB F S J 0 xs = false) :
    Calls Tryd.prog 24 #[.agg #[.int .i64 F, .int .i64 S, .int .i64 J, .int .i64 L, .int .i64 H], .int .i64 f, .slice a n cap] w fun e w' => e = .returned (.tuple #[.slice none 0 0, .int .i64 41]) ∧ Below w.heap.size w w' := by
  have hm := hN.2.1
  go_enter Tryd.func24, Tryd.ntmps24
  go_wp2_with fail
  go_region_held3 (fun W1 : World => W1.cell? ⟨w.heap.size, 0, none⟩ = some (.int .i64 F) ∧ W1.cell? ⟨w.heap.size, 1, none⟩ = some (.int .i64 S) ∧ W1.cell? ⟨w.heap.size, 2, none⟩ = some (.int .i64 J) ∧ W1.cell? ⟨w.heap.size, 3, none⟩ = some (.int .i64 L) ∧ W1.cell? ⟨w.heap.size, 4, none⟩ = some (.int .i64 H)) (first | with_reducible exact At5.below hq hb | (rename_i hq2 _ _; first | with_reducible exact hq2 | with_reducible exact At5.alloc hq2 _ | ((repeat with_reducible refine At5.setCell ?_ (by first | omega | (simp <;> omega))) <;> with_reducible exact hq2)) | (simp [go_sem, *]; done))
    (first | (go_at_call 57; rename_i hq _ _; refine (lies_is hl _).mono ?_; rintro e w' ⟨rfl, rfl⟩) | (go_at_call 54; rename_i hq _ _; refine (opened_ok' F S J L H (by first | rfl | (simp; omega)) _ hr).mono ?_; rintro e w1 ⟨b, rfl, hb, hnb, hnew⟩; obtain ⟨hc, hf⟩ := bcell hb; have hz := hb.size; simp at hz; simp at hnb; have hz1 : w.heap.size < w1.heap.size := (by omega); try (have hz2 : w.heap.size + 1 < w1.heap.size := (by omega)); try (have hz3 : w.heap.size + 1 + 1 < w1.heap.size := (by omega))))
  all_goals
    have hB1 : Below w.heap.size w w1 := by
      refine below_call ?_ hb
      repeat with_reducible (first | assumption | exact Below.refl _ _ | refine Below.setCell ?_ (by first | omega | (simp <;> omega)) _ | refine Below.alloc ?_ (by first | omega | (simp <;> omega)) _ | refine Below.drew ?_)
    have HNB := Lib.hid hnb; have HBL := Lib.hid (Array.getElem?_eq_some_iff.1 hnew).1; have HB := Lib.hid hB1; have HN := Lib.hid hnew; clear hnb hB1 hnew hb
    go_wp2_with fail
    refine (keeps_any F S J L H (some b) a n cap xs _ (hN.below ?_) hr).mono ?_
    · have hnb := HNB.out
      repeat with_reducible (first | assumption | exact HB.out | exact Below.refl _ _ | refine Below.setCell ?_ (by first | omega | (simp <;> omega)) _ | refine Below.alloc ?_ (by first | omega | (simp <;> omega)) _ | refine Below.drew ?_)
    rintro e w2 ⟨rfl, hb2⟩
    rw [hk]
    have hB2 : Below w.heap.size w w2 := by
      refine below_call ?_ hb2
      have hnb := HNB.out
      repeat with_reducible (first | assumption | exact HB.out | exact Below.refl _ _ | refine Below.setCell ?_ (by first | omega | (simp <;> omega)) _ | refine Below.alloc ?_ (by first | omega | (simp <;> omega)) _ | refine Below.drew ?_)
    have HB2 := Lib.hid hB2; clear hB2 hb2
    go_wp2_with fail
    go_ret2
    exact ⟨rfl, HB2.out⟩

/-- What the scale shows at the beginning of the tick k. -/
def shownAt (f : Int) (xs : List Int) (k : Nat) : Int := f + 1000 * k + sumL (xs.take k)
def shownTo (f : Int) (xs : List Int) (k : Nat) : List Int := (List.range (k + 1)).map (shownAt f xs)
def shownL (f : Int) (xs : List Int) : List Int := shownTo f xs xs.length
theorem sumL_append (l m : List Int) : sumL (l ++ m) = sumL l + sumL m := by
  induction l with
  | nil => simp [sumL]
  | cons x l ih => simp only [sumL, List.cons_append, List.foldr_cons] at ih ⊢; omega
theorem shownAt_succ (f : Int) (xs : List Int) (k : Nat) (h : k < xs.length) : shownAt f xs (k + 1) = shownAt f xs k + (1000 + xs[k]?.getD 0) := by
  unfold shownAt
  rw [take_snoc_getD xs k h, sumL_append, List.getD_eq_getElem?_getD]
  simp [sumL]; omega
theorem shownTo_succ (f : Int) (xs : List Int) (k : Nat) : shownTo f xs (k + 1) = shownTo f xs k ++ [shownAt f xs (k + 1)] := by
  simp [shownTo, List.range_succ]
theorem keepsB_mem (F S J : Int) (l : List Int) : ∀ d, keepsB F S J d l = true → ∀ x ∈ l, -S ≤ x ∧ x ≤ F := by
  induction l with
  | nil => intro d _ x hx; cases hx
  | cons n l ih =>
    intro d h x hx
    simp only [keepsB, Bool.and_eq_true, lies_iff] at h
    rcases List.mem_cons.1 hx with rfl | hx
    · exact h.1.1
    · exact ih n h.2 x hx
theorem sumL_abs (xs : List Int) (h1 : ∀ x ∈ xs, -500 ≤ x ∧ x ≤ 500) : -(500 * (xs.length : Int)) ≤ sumL xs ∧ sumL xs ≤ 500 * xs.length := by
  induction xs with
  | nil => simp [sumL]
  | cons x xs ih =>
    have h2 := ih (fun y hy => h1 y (by simp [hy]))
    have hx := h1 x (by simp)
    simp only [sumL, List.foldr_cons, List.length_cons] at h2 ⊢
    omega
theorem shownAt_bd (f : Int) (xs : List Int) (k : Nat) (h1 : ∀ x ∈ xs, -500 ≤ x ∧ x ≤ 500) (hf : 0 ≤ f ∧ f ≤ 10000000) (hk : k ≤ 200) : 0 ≤ shownAt f xs k ∧ shownAt f xs k ≤ 11000000 := by
  have h2 := sumL_abs (xs.take k) (fun x hx => h1 x (List.mem_of_mem_take hx))
  have h3 : (xs.take k).length ≤ k := List.length_take_le _ _
  unfold shownAt
  omega
/-- A result that is a slice of numbers in the call's own memory, and a code. -/
def ListPost (code : Int) (l : List Int) (w : World) (e : Ending) (w' : World) : Prop := ∃ a cap, e = .returned (.tuple #[.slice a l.length cap, .int .i64 code]) ∧ (Nums w' a l.length l ∧ l.length ≤ cap ∧ ∀ g o, a = some ⟨g, o, none⟩ → 0 < l.length → w.heap.size ≤ g) ∧ Below w.heap.size w w'
theorem ownsRow_new (W : World) (base : Nat) (x : Value) (hb : base ≤ W.heap.size) : (W.alloc (.cells #[x] 3)).ownsRow base 3 1 (.slice (some ⟨W.heap.size, 0, none⟩) 1 1) 1 [x] :=
  ⟨rfl, .inr ⟨W.heap.size, 1, #[x], rfl, hb, World.alloc_heap_new W _, Nat.le_refl _, by decide, rfl, rfl⟩⟩


end Go.Proofs.YtidnopmjhhmedaaDoor
end

section
/- Shown: what it returns of what it takes. -/
set_option linter.unusedSimpArgs false
set_option linter.unusedVariables false
namespace Go.Proofs.YtidnopmjhhmedaaDoor
open Go.RowKit

theorem own_ge {w : World} {base : Nat} {e : TypeId} {size n : Nat} {v : Value} {xs : List Value} (h : w.ownsRow base e size v n xs) : ∀ k, v.ownBlock = some k → base ≤ k := by
  intro k hk
  rcases h.2 with ⟨rfl, _⟩ | ⟨g, cap, cur, rfl, hb, _⟩
  · simp [Value.ownBlock] at hk
  · have : g = k := by simpa [Value.ownBlock] using hk
    omega

theorem shown_fin {f : Int} {xs : List Int} {k : Nat} (hk : xs.length = k) {W : World} {base : Nat} {v : Value} (h : W.ownsRow base 3 1 v (k + 1) ((shownTo f xs k).map (Value.int .i64))) (hs : k ≤ 200) :
    ∃ g cap, v = .slice (some ⟨g, 0, none⟩) (k + 1) cap ∧ k + 1 ≤ cap ∧ base ≤ g ∧ Nums W (some ⟨g, 0, none⟩) (shownL f xs).length (shownL f xs) := by
  have hl : (shownL f xs).length = k + 1 := by simp [shownL, shownTo, hk]
  have hown := h
  rcases h.2 with ⟨_, h0⟩ | ⟨g, cap, cur, rfl, hbg, _, hc, _⟩
  · omega
  · refine ⟨g, cap, rfl, hc, hbg, rfl, by omega, fun _ => ⟨g, 0, rfl, fun j hj => ?_⟩⟩
    rw [Nat.zero_add, hown.cellAt j (by omega), List.getElem?_map]
    have e : shownTo f xs k = shownL f xs := by rw [shownL, hk]
    rw [e, List.getElem?_eq_getElem hj]
    simp [List.getD_eq_getElem?_getD, hj]

set_option maxRecDepth 100000 in
set_option maxHeartbeats 1000000 in
theorem Shown_ok (F S J L H f : Int) (a : Option Addr) (n cap : Nat) (xs : List Int) (w : World) (hN : Nums w a n xs) (hr : isRuleB F S J L H = true) (hl : lies f 0 10000000 = true) (hn : n ≤ 200) (hk : keepsB F S J 0 xs = true) :
    Calls Tryd.prog 24 #[.agg #[.int .i64 F, .int .i64 S, .int .i64 J, .int .i64 L, .int .i64 H], .int .i64 f, .slice a n cap] w (ListPost 0 (shownL f xs) w) := by
  obtain ⟨hF, hS, hJ, _⟩ := isRuleB_spec hr
  have hfb := lies_iff.1 hl
  have hmem : ∀ x ∈ xs, -500 ≤ x ∧ x ≤ 500 := fun x hx => by have := keepsB_mem F S J xs 0 hk x hx; omega
  obtain ⟨i0, hi, hy0, hy1, hy2⟩ := info_parts Tryd.info3
  have HM := Lib.hid hmem; clear hmem
  have hm := hN.2.1
  go_enter Tryd.func24, Tryd.ntmps24
  go_wp2_with fail
  go_region_held3 (fun W1 : World => W1.cell? ⟨w.heap.size, 0, none⟩ = some (.int .i64 F) ∧ W1.cell? ⟨w.heap.size, 1, none⟩ = some (.int .i64 S) ∧ W1.cell? ⟨w.heap.size, 2, none⟩ = some (.int .i64 J) ∧ W1.cell? ⟨w.heap.size, 3, none⟩ = some (.int .i64 L) ∧ W1.cell? ⟨w.heap.size, 4, none⟩ = some (.int .i64 H)) (first | with_reducible exact At5.below hq hb | (rename_i hq2 _ _; first | with_reducible exact hq2 | with_reducible exact At5.alloc hq2 _ | ((repeat with_reducible refine At5.setCell ?_ (by first | omega | (simp <;> omega))) <;> with_reducible exact hq2)) | (simp [go_sem, *]; done))
    (first | (go_at_call 57; rename_i hq _ _; refine (lies_is hl _).mono ?_; rintro e w' ⟨rfl, rfl⟩) | (go_at_call 54; rename_i hq _ _; refine (opened_ok' F S J L H (by first | rfl | (simp; omega)) _ hr).mono ?_; rintro e w1 ⟨b, rfl, hb, hnb, hnew⟩; obtain ⟨hc, hf⟩ := bcell hb; have hz := hb.size; simp at hz; simp at hnb; have hz1 : w.heap.size < w1.heap.size := (by omega); try (have hz2 : w.heap.size + 1 < w1.heap.size := (by omega)); try (have hz3 : w.heap.size + 1 + 1 < w1.heap.size := (by omega))))
  all_goals
    have hB1 : Below w.heap.size w w1 := by
      refine below_call ?_ hb
      repeat with_reducible (first | assumption | exact Below.refl _ _ | refine Below.setCell ?_ (by first | omega | (simp <;> omega)) _ | refine Below.alloc ?_ (by first | omega | (simp <;> omega)) _ | refine Below.drew ?_)
    have HNB := Lib.hid hnb; have HBL := Lib.hid (Array.getElem?_eq_some_iff.1 hnew).1; have HB := Lib.hid hB1; have HN := Lib.hid hnew; clear hnb hB1 hnew hb
    go_wp2_with fail
    refine (keeps_any F S J L H (some b) a n cap xs _ (hN.below ?_) hr).mono ?_
    · have hnb := HNB.out
      repeat with_reducible (first | assumption | exact HB.out | exact Below.refl _ _ | refine Below.setCell ?_ (by first | omega | (simp <;> omega)) _ | refine Below.alloc ?_ (by first | omega | (simp <;> omega)) _ | refine Below.drew ?_)
    rintro e w2 ⟨rfl, hb2⟩
    rw [hk]
    have hB2 : Below w.heap.size w w2 := by
      refine below_call ?_ hb2
      have hnb := HNB.out
      repeat with_reducible (first | assumption | exact HB.out | exact Below.refl _ _ | refine Below.setCell ?_ (by first | omega | (simp <;> omega)) _ | refine Below.alloc ?_ (by first | omega | (simp <;> omega)) _ | refine Below.drew ?_)
    have hN2 := hN.below hB2
    have hl2 := hN.1
    have HL := Lib.hid hl2; clear hl2
    have HC := Lib.hid hN2.2.2
    have hzw := hB2.size
    have HB2 := Lib.hid hB2; clear hB2 hb2 hN2
    have hs0 : shownAt f xs 0 = f := by simp [shownAt, sumL]
    go_wp2
    go_loopw [1, 10, 36] (fun t v i wr => ∃ k : Nat, k ≤ n ∧ i = .int .i64 k ∧ t = .int .i64 (shownAt f xs k) ∧ wr.ownsRow w.heap.size 3 1 v (k + 1) ((shownTo f xs k).map (Value.int .i64)) ∧ Below w.heap.size w wr) (fun _ _ i _ => n - (intOf i).toNat)
    case atStart =>
      refine ⟨0, Nat.zero_le _, rfl, by rw [hs0], ?_, HB2.out.alloc hzw _⟩
      have := ownsRow_new w2 w.heap.size (.int .i64 f) hzw
      simpa [shownTo, hs0] using this
    case round =>
      obtain ⟨k, hk, rfl, rfl, hown, hB⟩ := hrel
      have hbz := hB.size
      by_cases hlt : k < n
      · obtain ⟨pb, po, hpa, hcell⟩ := hN.2.2 (by omega)
        have hck := cell_below hB (hcell k hlt)
        rw [List.getD_eq_getElem?_getD] at hck
        have hsucc := shownAt_succ f xs k (by rw [HL.out]; exact hlt)
        have hb1 := shownAt_bd f xs k HM.out hfb (by omega)
        have hb2 := shownAt_bd f xs (k + 1) HM.out hfb (by omega)
        rw [hsucc] at hb2
        have hx1 : -500 ≤ xs[k]?.getD 0 ∧ xs[k]?.getD 0 ≤ 500 := by
          have h2 : k < xs.length := by rw [HL.out]; exact hlt
          have := HM.out (xs[k]) (List.getElem_mem h2)
          simpa [h2] using this
        obtain ⟨hb1a, hb1b⟩ := hb1
        obtain ⟨hb2a, hb2b⟩ := hb2
        obtain ⟨hx1a, hx1b⟩ := hx1
        have HSU := Lib.hid hsucc
        clear hsucc
        subst hpa
        clear hcell hc hf
        go_wp2_with (at_builtin; go_loud (refine wpList_append_own _ rfl _ _ 26 rfl w.heap.size 3 i0 (.int .i64 0) 1 8 Tryd.underlying26 hi hy0 hy1 hy2 rfl (by decide) _ _ _ rfl (hown.alloc _) ⟨wr.heap.size, 0, none⟩ 1 1 [.int .i64 (shownAt f xs k + (1000 + xs[k]?.getD 0))] rfl rfl (cell_one_new _ _ _) (by simp [Value.oneCell']) (by unfold maxLen; omega) (by omega) (by simp; omega) ?_); intro v' w3 hown' hgrow _)
        have hown2 : w3.ownsRow w.heap.size 3 1 v' (k + 1 + 1) ((shownTo f xs (k + 1)).map (Value.int .i64)) := by
          rw [shownTo_succ, HSU.out]
          simpa using hown'
        have hB3 : Below w.heap.size w w3 := (hB.alloc hbz _).grown hgrow (by simp; omega) (own_ge hown)
        clear hown' hgrow
        go_roundw
        case rel => exact ⟨k + 1, by omega, by go_num, by rw [HSU.out], hown2, hB3⟩
        case measure => simp [intOf]; omega
      · obtain rfl : k = n := by omega
        have hfin := shown_fin (HL.out) hown (by omega)
        obtain ⟨g, cap2, rfl, hcap, hbg, hNN⟩ := hfin
        have HNN := Lib.hid hNN
        clear hNN
        go_wp2
        go_ret2
        have hlen : (shownL f xs).length = k + 1 := by simp [shownL, shownTo, HL.out]
        refine ⟨some ⟨g, 0, none⟩, k + 1, by (rw [hlen]; rfl), ⟨HNN.out, by rw [hlen]; exact Nat.le_refl _, fun g' o' ha _ => ?_⟩, hB⟩
        injection ha with ha
        injection ha with ha
        omega

end Go.Proofs.YtidnopmjhhmedaaDoor
end

section
/- The levels of a plan. -/
set_option linter.unusedSimpArgs false
set_option linter.unusedVariables false
namespace Go.Proofs.YtidnopmjhhmedaaDoor
open Go.RowKit

def levelL (n : Int) (xs : List Int) : List Int := xs.map fun m => min n m
/-- A result that is a list of its own, in new memory. -/
def OwnPost (l : List Int) (w : World) (e : Ending) (w' : World) : Prop := ∃ v, e = .returned v ∧ w'.ownsRow w.heap.size 3 1 v l.length (l.map (Value.int .i64)) ∧ Below w.heap.size w w'
theorem levelL_take (n : Int) (xs : List Int) (k : Nat) (h : k < xs.length) : levelL n (xs.take (k + 1)) = levelL n (xs.take k) ++ [min n (xs[k]?.getD 0)] := by
  rw [take_snoc_getD xs k h, List.getD_eq_getElem?_getD]; simp [levelL]

set_option maxRecDepth 100000 in
set_option maxHeartbeats 1000000 in
theorem level_any (N : Int) (B : Nat) (a : Option Addr) (n cap : Nat) (xs : List Int) (w : World) (hB : w.cell? ⟨B, 0, none⟩ = some (.slice a n cap)) (hN : Nums w a n xs) (hn : n ≤ 200) :
    Calls Tryd.prog 66 #[.int .i64 N, .pointer (some ⟨B, 0, none⟩)] w (OwnPost (levelL N xs) w) := by
  obtain ⟨i0, hi, hy0, hy1, hy2⟩ := info_parts Tryd.info3
  have hl := hN.1
  have HL := Lib.hid hl; clear hl
  have HC := Lib.hid hN.2.2
  clear hN
  go_enter Tryd.func66, Tryd.ntmps66
  go_wp2
  go_loopw [4, 6, 9] (fun v _ i wr => ∃ k : Nat, k ≤ n ∧ i = .int .i64 k ∧ wr.ownsRow w.heap.size 3 1 v k ((levelL N (xs.take k)).map (Value.int .i64)) ∧ Below w.heap.size w wr) (fun _ _ i _ => n - (intOf i).toNat)
  case atStart => exact ⟨0, Nat.zero_le _, rfl, World.ownsRow_nil _ _ _ _, Below.refl _ _⟩
  case round =>
    obtain ⟨k, hk, rfl, hown, hB1⟩ := hrel
    have hbz := hB1.size
    by_cases hlt : k < n
    · obtain ⟨pb, po, rfl, hcell⟩ := HC.out (by omega)
      have hck := cell_below hB1 (hcell k hlt)
      rw [List.getD_eq_getElem?_getD] at hck
      clear hcell
      have HT := Lib.hid (levelL_take N xs k (by rw [HL.out]; exact hlt))
      go_wp2_with (at_builtin; refine wpList_append_own _ rfl _ _ 26 rfl w.heap.size 3 i0 (.int .i64 0) 1 8 Tryd.underlying26 hi hy0 hy1 hy2 rfl (by decide) _ _ _ rfl (hown.alloc _) ⟨wr.heap.size, 0, none⟩ 1 1 [.int .i64 (min N (xs[k]?.getD 0))] rfl rfl (cell_one_new _ _ _) (by simp [Value.oneCell']) (by unfold maxLen; omega) (by omega) (by simp; omega) ?_; intro v' w3 hown' hgrow _)
      have hown2 : w3.ownsRow w.heap.size 3 1 v' (k + 1) ((levelL N (xs.take (k + 1))).map (Value.int .i64)) := by
        rw [HT.out]
        simpa using hown'
      have hB3 : Below w.heap.size w w3 := (hB1.alloc hbz _).grown hgrow (by simp; omega) (own_ge hown)
      clear hown' hgrow
      go_roundw
      case rel => exact ⟨k + 1, by omega, by go_num, hown2, hB3⟩
      case measure => simp [intOf]; omega
    · obtain rfl : k = n := by omega
      have hx : xs.take k = xs := List.take_of_length_le (by rw [HL.out]; omega)
      have hl2 : (levelL N xs).length = k := by simp [levelL, HL.out]
      rw [hx] at hown
      have HO := Lib.hid hown
      have HL2 := Lib.hid hl2
      clear hx hl2 hown
      go_wp2
      go_ret
      exact ⟨_, rfl, by rw [HL2.out]; exact HO.out, hB1⟩

end Go.Proofs.YtidnopmjhhmedaaDoor
end

section
/- Plain: the levels of a plan, and its adjustments. -/
set_option linter.unusedSimpArgs false
set_option linter.unusedVariables false
namespace Go.Proofs.YtidnopmjhhmedaaDoor
open Go.RowKit

/-- The level: the greatest one, from k on, at which all ticks together are at most what is wanted. -/
def nFrom (want : Int) (xs : List Int) : Nat → Nat → Nat
  | 0, k => k
  | d + 1, k => if sumL (levelL (k + 1) xs) ≤ want then nFrom want xs d (k + 1) else k
def nLevel (want : Int) (xs : List Int) : Nat := nFrom want xs 500 0
def fillS (n : Int) : Int → List Int → Int
  | left, [] => left
  | left, m :: ms => if 0 < left ∧ n < m then fillS n (left - 1) ms else fillS n left ms
def fillL (n : Int) : Int → List Int → List Int
  | _, [] => []
  | left, m :: ms => if 0 < left ∧ n < m then (min n m + 1) :: fillL n (left - 1) ms else min n m :: fillL n left ms
theorem fillL_length (n : Int) (xs : List Int) : ∀ left, (fillL n left xs).length = xs.length := by
  induction xs with
  | nil => intro left; rfl
  | cons m ms ih => intro left; simp only [fillL]; split <;> simp [ih]
theorem fillL_snoc (n : Int) (xs : List Int) (m : Int) : ∀ left, fillL n left (xs ++ [m]) = fillL n left xs ++ [if 0 < fillS n left xs ∧ n < m then min n m + 1 else min n m] := by
  induction xs with
  | nil => intro left; simp only [List.nil_append, fillL, fillS]; split <;> simp [*]
  | cons x xs ih => intro left; simp only [List.cons_append, fillL, fillS]; split <;> simp [ih]
theorem fillS_snoc (n : Int) (xs : List Int) (m : Int) : ∀ left, fillS n left (xs ++ [m]) = if 0 < fillS n left xs ∧ n < m then fillS n left xs - 1 else fillS n left xs := by
  induction xs with
  | nil => intro left; simp only [List.nil_append, fillS]; split <;> rename_i h <;> first | (simp [h]; done) | (simp only [h, if_false]; done)
  | cons x xs ih => intro left; simp only [List.cons_append, fillS]; split <;> simp [ih]
theorem fillS_bd (n : Int) (xs : List Int) : ∀ left, fillS n left xs ≤ left ∧ (fillS n left xs = left ∨ 0 ≤ fillS n left xs) := by
  induction xs with
  | nil => intro left; exact ⟨Int.le_refl _, .inl rfl⟩
  | cons x xs ih =>
    intro left
    simp only [fillS]
    split
    · have := ih (left - 1); omega
    · exact ih left

/-- The list while it is filled: k ticks are done. -/
def midL (n left : Int) (xs : List Int) (k : Nat) : List Int := fillL n left (xs.take k) ++ levelL n (xs.drop k)
theorem midL_zero (n left : Int) (xs : List Int) : midL n left xs 0 = levelL n xs := by simp [midL, fillL]
theorem midL_end (n left : Int) (xs : List Int) : midL n left xs xs.length = fillL n left xs := by simp [midL, levelL]
theorem midL_length (n left : Int) (xs : List Int) (k : Nat) (h : k ≤ xs.length) : (midL n left xs k).length = xs.length := by
  simp [midL, fillL_length, levelL]; omega
theorem midL_at (n left : Int) (xs : List Int) (k : Nat) (h : k < xs.length) : (midL n left xs k)[k]? = some (min n (xs[k]?.getD 0)) := by
  have h1 : (fillL n left (xs.take k)).length = k := by rw [fillL_length]; simp; omega
  rw [midL, List.getElem?_append_right (by omega), h1]
  simp [levelL, h]
theorem drop_cons_getD (xs : List Int) (k : Nat) (h : k < xs.length) : xs.drop k = xs[k]?.getD 0 :: xs.drop (k + 1) := by
  rw [List.drop_eq_getElem_cons h]; simp [h]
theorem set_append_at (l m : List Int) (x y : Int) (k : Nat) (h : l.length = k) : (l ++ x :: m).set k y = (l ++ [y]) ++ m := by
  subst h; simp
theorem midL_succ (n left : Int) (xs : List Int) (k : Nat) (h : k < xs.length) :
    midL n left xs (k + 1) = (midL n left xs k).set k (if 0 < fillS n left (xs.take k) ∧ n < xs[k]?.getD 0 then min n (xs[k]?.getD 0) + 1 else min n (xs[k]?.getD 0)) := by
  have h1 : (fillL n left (xs.take k)).length = k := by rw [fillL_length]; simp; omega
  unfold midL
  rw [take_snoc_getD xs k h, List.getD_eq_getElem?_getD, fillL_snoc, drop_cons_getD xs k h]
  simp only [levelL, List.map_cons]
  rw [set_append_at _ _ _ _ k h1]
theorem midL_go (n left : Int) (xs : List Int) (k : Nat) (h : k < xs.length) (hc : 0 < fillS n left (xs.take k) ∧ n < xs[k]?.getD 0) :
    midL n left xs (k + 1) = (midL n left xs k).set k (min n (xs[k]?.getD 0) + 1) ∧ fillS n left (xs.take (k + 1)) = fillS n left (xs.take k) - 1 := by
  refine ⟨by rw [midL_succ n left xs k h, if_pos hc], ?_⟩
  rw [take_snoc_getD xs k h, List.getD_eq_getElem?_getD, fillS_snoc, if_pos hc]
theorem midL_stay (n left : Int) (xs : List Int) (k : Nat) (h : k < xs.length) (hc : ¬ (0 < fillS n left (xs.take k) ∧ n < xs[k]?.getD 0)) :
    midL n left xs (k + 1) = midL n left xs k ∧ fillS n left (xs.take (k + 1)) = fillS n left (xs.take k) := by
  constructor
  · rw [midL_succ n left xs k h, if_neg hc]
    have h2 := midL_at n left xs k h
    have h3 : k < (midL n left xs k).length := by rw [midL_length n left xs k (by omega)]; exact h
    apply List.ext_getElem?
    intro i
    rw [List.getElem?_set]
    split
    · rename_i e; subst e; first | exact h2.symm | (rw [if_pos h3, h2])
    · rfl
  · rw [take_snoc_getD xs k h, List.getD_eq_getElem?_getD, fillS_snoc, if_neg hc]

def mulL (s : Int) (l : List Int) (k : Nat) : List Int := (l.take k).map (fun x => x * s) ++ l.drop k
theorem mulL_zero (s : Int) (l : List Int) : mulL s l 0 = l := by simp [mulL]
theorem mulL_end (s : Int) (l : List Int) : mulL s l l.length = l.map fun x => x * s := by simp [mulL]
theorem mulL_at (s : Int) (l : List Int) (k : Nat) (h : k < l.length) : (mulL s l k)[k]? = some (l[k]?.getD 0) := by
  have h1 : ((l.take k).map (fun x => x * s)).length = k := by simp; omega
  rw [mulL, List.getElem?_append_right (by omega), h1]
  simp [h]
theorem mulL_succ (s : Int) (l : List Int) (k : Nat) (h : k < l.length) : mulL s l (k + 1) = (mulL s l k).set k (l[k]?.getD 0 * s) := by
  have h1 : ((l.take k).map (fun x => x * s)).length = k := by simp; omega
  unfold mulL
  rw [take_snoc_getD l k h, List.getD_eq_getElem?_getD, List.map_append, drop_cons_getD l k h, set_append_at _ _ _ _ k h1]
  simp
theorem fillL_bd (n : Int) (hn : 0 ≤ n) (hn2 : n ≤ 500) (xs : List Int) (h : ∀ x ∈ xs, 0 ≤ x ∧ x ≤ 500) : ∀ left, ∀ y ∈ fillL n left xs, 0 ≤ y ∧ y ≤ 501 := by
  induction xs with
  | nil => intro left y hy; cases hy
  | cons m ms ih =>
    intro left y hy
    have hm := h m (by simp)
    simp only [fillL] at hy
    split at hy
    · rcases List.mem_cons.1 hy with rfl | hy
      · omega
      · exact ih (fun x hx => h x (by simp [hx])) _ y hy
    · rcases List.mem_cons.1 hy with rfl | hy
      · omega
      · exact ih (fun x hx => h x (by simp [hx])) _ y hy
theorem levelL_bd (n : Int) (hn : 0 ≤ n) (xs : List Int) (h : ∀ x ∈ xs, 0 ≤ x ∧ x ≤ 500) : ∀ y ∈ levelL n xs, 0 ≤ y ∧ y ≤ 500 := by
  intro y hy
  simp only [levelL, List.mem_map] at hy
  obtain ⟨x, hx, rfl⟩ := hy
  have := h x hx
  omega
theorem total_level (n : Int) (hn : 0 ≤ n) (xs : List Int) (h : ∀ x ∈ xs, 0 ≤ x ∧ x ≤ 500) (hl : xs.length ≤ 200) : total (levelL n xs) = sumL (levelL n xs) :=
  total_small _ (levelL_bd n hn xs h) (by simpa [levelL] using hl)
theorem sumL_level_bd (n : Int) (hn : 0 ≤ n) (xs : List Int) (h : ∀ x ∈ xs, 0 ≤ x ∧ x ≤ 500) (hl : xs.length ≤ 200) : 0 ≤ sumL (levelL n xs) ∧ sumL (levelL n xs) ≤ 100000 := by
  have h1 := sumL_bd _ (levelL_bd n hn xs h)
  have h2 : (levelL n xs).length = xs.length := by simp [levelL]
  rw [h2] at h1
  omega

/-- A plan: how far each tick is steered. -/
def planOf (sign want : Int) (xs : List Int) : List Int := (fillL (nLevel want xs) (want - sumL (levelL (nLevel want xs) xs)) xs).map fun x => x * sign
theorem planOf_length (sign want : Int) (xs : List Int) : (planOf sign want xs).length = xs.length := by simp [planOf, fillL_length]
theorem own_some {w : World} {base : Nat} {n cap : Nat} {a : Option Addr} {xs : List Value} (h : w.ownsRow base 3 1 (.slice a n cap) n xs) : (0 < n → ∃ g, a = some ⟨g, 0, none⟩ ∧ base ≤ g) ∧ n ≤ cap ∧ n ≤ maxLen := by
  rcases h.2 with ⟨h0, h1⟩ | ⟨g, cap', cur, h0, hb, _, hc, hm, _⟩
  · simp only [Value.slice.injEq] at h0
    exact ⟨fun hn => by omega, by omega, by omega⟩
  · have ha : a = some ⟨g, 0, none⟩ := by injection h0
    have hk : cap = cap' := by injection h0
    exact ⟨fun _ => ⟨g, ha, hb⟩, by omega, by omega⟩
/-- What owns a row reads as its numbers. -/
theorem own_mono {w : World} {base base' : Nat} {v : Value} {n : Nat} {xs : List Value} (h : w.ownsRow base 3 1 v n xs) (hb : base' ≤ base) : w.ownsRow base' 3 1 v n xs :=
  ⟨h.1, h.2.imp id fun ⟨g, cap, cur, h1, h2, h3⟩ => ⟨g, cap, cur, h1, Nat.le_trans hb h2, h3⟩⟩
theorem nums_of_own {w : World} {base : Nat} {a : Option Addr} {n cap : Nat} {xs : List Int} (h : w.ownsRow base 3 1 (.slice a n cap) n (xs.map (Value.int .i64))) (hl : xs.length = n) (hn : n ≤ 17592186044416) : Nums w a n xs := by
  subst hl
  obtain ⟨a', cap', he, hN⟩ := nums_of_row h hn
  simp only [Value.slice.injEq] at he
  obtain ⟨rfl, _⟩ := he
  exact hN
theorem nums_putObj {w : World} {a : Option Addr} {n D : Nat} {xs : List Int} {o : Obj} (h : Nums w a n xs) (hD : ∀ g o', 0 < n → a = some ⟨g, o', none⟩ → g ≠ D) : Nums (w.putObj D o) a n xs := by
  refine ⟨h.1, h.2.1, fun hn => ?_⟩
  obtain ⟨g, o', ha, hc⟩ := h.2.2 hn
  exact ⟨g, o', ha, fun j hj => (World.cell?_of_block (World.putObj_heap_other (fun e => hD g o' hn ha e))).trans (hc j hj)⟩
theorem below_putObj {n D : Nat} {w W : World} {o : Obj} (h : Below n w W) (hD : n ≤ D) : Below n w (W.putObj D o) :=
  h.trans ⟨rfl, rfl, rfl, (grownBy_putObj' W D o).size, fun k hk => World.putObj_heap_other (by omega)⟩

end Go.Proofs.YtidnopmjhhmedaaDoor
end
