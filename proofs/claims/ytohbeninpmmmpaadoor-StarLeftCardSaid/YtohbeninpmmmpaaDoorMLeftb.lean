/- PROVED: StarLeftCardSaid, for every input, where the listed variable reads as the program's text lays it. Part 2 of 7: of this session; merged by wip/tools/mkClaim.py. -/
import Derived.Test.YtohbeninpmmmpaaDoorProg
import Derived.Below
import Derived.Deep.Draws
import Derived.Deep.AppendLies
import Derived.Maps.AppendAt
import Derived.OwnWalk
import Derived.Laws.BytesArg
import Derived.Laws.MakeOwn
import Derived.Laws.OwnMore
import Derived.Deep.OwnRows
import Derived.Tactics
import Derived.Lib.ConvBytes
import Derived.Laws.Slices
import Derived.WalkKit
import Derived.KernelRfl
import Derived.RowKit3
import Derived.Deep.LoopGhost
import Derived.Deep.QuietTactic
import Derived.BigQuiet
import Derived.WideLaws
import Derived.Deep.DeepCutAuto
import Derived.Deep.CutBlock
import Derived.Deep.RegionHeld3
import Derived.Laws.Rows
import Derived.Lib.AppendStr
import Derived.ArgAppend
import Derived.Laws.IdiomCopy
import Derived.OrdersHeld
import Derived.Laws.BitsLemmas
import Derived.RowKit
import Derived.Test.YtohbeninpmmmpaaDoorMLefta
import Derived.Test.YtohbeninpmmmpaaDoorRows
import Derived.Deep.Slices
import Derived.ChangeSame
import Derived.OpenShut
import Derived.ProofKit
import Derived.SizedLaws
import Derived.RangeFuncOwn
import Derived.Laws.StructEq
import Derived.WalkSpells
import Derived.WalkLawsBesides
import Derived.Lib.Hide
import Derived.IntWalk
import Derived.RangeFuncBox
import Derived.WalkMore
import Derived.Deep.MidRow
import Derived.ChangeKeysEq
import Derived.OrdersIn
import Derived.RangeFuncNested
import Derived.RangeFuncBound
import Derived.RangeFuncCalls
import Derived.RangeFuncLeaves
import Derived.Shelf.Abstract
import Derived.Shelf.RegionOpen
import Derived.OwnWalkIn
import Derived.TacticsInMore
import Derived.LoopNIn
import Derived.LoopIn
section
-- Written by wip/tools/pr.py (a program of this repo over the kit's print.py).
namespace Go.Proofs.TrydX.X
open Go.RowKit Go.Proofs.YtohbeninpmmmpaaDoorW.PrintWords Go.Proofs.YtohbeninpmmmpaaDoorW.PrintLast Go.Proofs.YtohbeninpmmmpaaDoorW.PrintMore
attribute [local go_sem] max2_int min2_int max_two min_two max_three min_three max_four min_four   -- for this text's walks alone
set_option linter.unusedVariables false
set_option linter.unusedSimpArgs false



def errW : Option Int → Value
  | none => .nilIface
  | some c => .iface 0 (.int .i64 c)
theorem errW_none : errW none = .nilIface := rfl
theorem errW_some (c : Int) : errW (some c) = .iface 0 (.int .i64 c) := rfl

theorem info3 : (Tryd.prog.info? 3).map (fun i => (i.zero, i.size, i.bytes)) = some (some (.int .i64 0), 1, 8) := by kernel_rfl
theorem info23 : (Tryd.prog.info? 23).map (fun i => (i.zero, i.size, i.bytes)) = some (some (.agg #[(.int .i64 0), (.int .i64 0)]), 2, 16) := by kernel_rfl
theorem info63 : (Tryd.prog.info? 63).map (fun i => (i.zero, i.size, i.bytes)) = some (some (.agg #[(.int .i64 0), (.int .i64 0), (.int .i64 0), (.int .i64 0), (.int .i64 0)]), 5, 40) := by kernel_rfl
-- the values' own types
/-! #### struct type 23 -/
structure S23 where
  f0 : Int
  f1 : Int
def z23 : S23 := ⟨(0 : Int), (0 : Int)⟩
def k23 : Kd S23 := Kd.iso (Kd.pair (Kd.int .i64) (Kd.int .i64)) (fun x : S23 => (x.f0, x.f1))
theorem k23_heap : Kd.Heap k23 := Kd.heap_iso _ (Kd.heap_pair (Kd.heap_int .i64) (Kd.heap_int .i64))
theorem k23_open {w : World} {x : S23} {cs : List Value} (h : k23.K w x cs) : cs = [.int .i64 x.f0, .int .i64 x.f1] := by
  obtain ⟨_, _, rfl, rfl, rfl⟩ := h
  exact rfl
theorem k23_mk (w : World) (x : S23)  : k23.K w x [.int .i64 x.f0, .int .i64 x.f1] := ⟨[.int .i64 x.f0], [.int .i64 x.f1], rfl, rfl, rfl⟩
theorem k23_mkM (w : World) (base : Nat) (ok : Nat → Prop) (x : S23)  : k23.M w base ok x [.int .i64 x.f0, .int .i64 x.f1] := ⟨[.int .i64 x.f0], [.int .i64 x.f1], rfl, rfl, rfl⟩
def rd_T23 (xs : List S23) (i : Int) : S23 := xs.getD i.toNat z23
theorem at_T23 {w : World} {A : Option Addr} {n : Nat} {xs : List S23} (h : Kd.C k23 w A n xs) (i : Int) (h0 : 0 ≤ i) (h1 : i < n) : ∃ ad , A = some ad ∧ w.cell? (ad.add (i.toNat * 2)) = some (.int .i64 (rd_T23 xs i).f0) ∧ w.cell? ⟨(ad.add (i.toNat * 2)).block, (ad.add (i.toNat * 2)).off + 1, none⟩ = some (.int .i64 (rd_T23 xs i).f1) := by
  obtain ⟨ad, c, e, _, hK, hc0⟩ := Kd.C_get h z23 i h0 h1
  have hc : ∀ j u, c[j]? = some u → w.cell? (ad.add (i.toNat * 2 + j)) = some u := hc0
  obtain rfl := k23_open hK
  exact ⟨ad, e, hc 0 _ rfl, by rw [← add_field _ _ 1 (by omega)]; exact hc 1 _ rfl⟩

/-! #### struct type 63 -/
structure S63 where
  f0 : Int
  f1 : Int
  f2 : Int
  f3 : Int
  f4 : Int
def z63 : S63 := ⟨(0 : Int), (0 : Int), (0 : Int), (0 : Int), (0 : Int)⟩
def k63 : Kd S63 := Kd.iso (Kd.pair (Kd.int .i64) (Kd.pair (Kd.int .i64) (Kd.pair (Kd.int .i64) (Kd.pair (Kd.int .i64) (Kd.int .i64))))) (fun x : S63 => (x.f0, x.f1, x.f2, x.f3, x.f4))
theorem k63_open {w : World} {x : S63} {cs : List Value} (h : k63.K w x cs) : cs = [.int .i64 x.f0, .int .i64 x.f1, .int .i64 x.f2, .int .i64 x.f3, .int .i64 x.f4] := by
  obtain ⟨_, _, rfl, rfl, ⟨_, _, rfl, rfl, ⟨_, _, rfl, rfl, ⟨_, _, rfl, rfl, rfl⟩⟩⟩⟩ := h
  exact rfl
theorem k63_mk (w : World) (x : S63)  : k63.K w x [.int .i64 x.f0, .int .i64 x.f1, .int .i64 x.f2, .int .i64 x.f3, .int .i64 x.f4] := ⟨[.int .i64 x.f0], [.int .i64 x.f1, .int .i64 x.f2, .int .i64 x.f3, .int .i64 x.f4], rfl, rfl, ⟨[.int .i64 x.f1], [.int .i64 x.f2, .int .i64 x.f3, .int .i64 x.f4], rfl, rfl, ⟨[.int .i64 x.f2], [.int .i64 x.f3, .int .i64 x.f4], rfl, rfl, ⟨[.int .i64 x.f3], [.int .i64 x.f4], rfl, rfl, rfl⟩⟩⟩⟩
theorem k63_mkM (w : World) (base : Nat) (ok : Nat → Prop) (x : S63)  : k63.M w base ok x [.int .i64 x.f0, .int .i64 x.f1, .int .i64 x.f2, .int .i64 x.f3, .int .i64 x.f4] := ⟨[.int .i64 x.f0], [.int .i64 x.f1, .int .i64 x.f2, .int .i64 x.f3, .int .i64 x.f4], rfl, rfl, ⟨[.int .i64 x.f1], [.int .i64 x.f2, .int .i64 x.f3, .int .i64 x.f4], rfl, rfl, ⟨[.int .i64 x.f2], [.int .i64 x.f3, .int .i64 x.f4], rfl, rfl, ⟨[.int .i64 x.f3], [.int .i64 x.f4], rfl, rfl, rfl⟩⟩⟩⟩
def rd_T63 (xs : List S63) (i : Int) : S63 := xs.getD i.toNat z63
theorem at_T63 {w : World} {A : Option Addr} {n : Nat} {xs : List S63} (h : Kd.C k63 w A n xs) (i : Int) (h0 : 0 ≤ i) (h1 : i < n) : ∃ ad , A = some ad ∧ w.cell? (ad.add (i.toNat * 5)) = some (.int .i64 (rd_T63 xs i).f0) ∧ w.cell? ⟨(ad.add (i.toNat * 5)).block, (ad.add (i.toNat * 5)).off + 1, none⟩ = some (.int .i64 (rd_T63 xs i).f1) ∧ w.cell? ⟨(ad.add (i.toNat * 5)).block, (ad.add (i.toNat * 5)).off + 2, none⟩ = some (.int .i64 (rd_T63 xs i).f2) ∧ w.cell? ⟨(ad.add (i.toNat * 5)).block, (ad.add (i.toNat * 5)).off + 3, none⟩ = some (.int .i64 (rd_T63 xs i).f3) ∧ w.cell? ⟨(ad.add (i.toNat * 5)).block, (ad.add (i.toNat * 5)).off + 4, none⟩ = some (.int .i64 (rd_T63 xs i).f4) := by
  obtain ⟨ad, c, e, _, hK, hc0⟩ := Kd.C_get h z63 i h0 h1
  have hc : ∀ j u, c[j]? = some u → w.cell? (ad.add (i.toNat * 5 + j)) = some u := hc0
  obtain rfl := k63_open hK
  exact ⟨ad, e, hc 0 _ rfl, by rw [← add_field _ _ 1 (by omega)]; exact hc 1 _ rfl, by rw [← add_field _ _ 2 (by omega)]; exact hc 2 _ rfl, by rw [← add_field _ _ 3 (by omega)]; exact hc 3 _ rfl, by rw [← add_field _ _ 4 (by omega)]; exact hc 4 _ rfl⟩

end Go.Proofs.TrydX.X
end

section
/- Arguments that are books, truths, looks and arrays of numbers: opened to their cells, with what they lead to. -/
set_option linter.unusedSimpArgs false
set_option linter.unusedVariables false
namespace Go.Proofs.TrydX.X
open Go.ChangeShapes Go.WideShapes Go.RowKit Go.Deep Go.Proofs.YtohbeninpmmmpaaDoorW.PrintWords Go.Proofs.YtohbeninpmmmpaaDoorW.PrintLast

section
variable {H : Type} {enc : TypeId × Value → H} {w : World} {base : Nat} {spare : Nat → Bool} {held : Bool} {fuel : Nat} {cs : List Value} {x : DataW H × List MemPlace}
theorem c3 : Tryd.prog.cellsOf 3 = 1 := by kernel_rfl
theorem c23 : Tryd.prog.cellsOf 23 = 2 := by kernel_rfl
theorem c24 : Tryd.prog.cellsOf 24 = 1 := by kernel_rfl
theorem c27 : Tryd.prog.cellsOf 27 = 8 := by kernel_rfl
theorem c30 : Tryd.prog.cellsOf 30 = 3 := by kernel_rfl
theorem c31 : Tryd.prog.cellsOf 31 = 2 := by kernel_rfl
theorem c40 : Tryd.prog.cellsOf 40 = 3 := by kernel_rfl
theorem c63 : Tryd.prog.cellsOf 63 = 5 := by kernel_rfl
theorem b3 : Tryd.prog.bytesOf 3 = 8 := by kernel_rfl
theorem b23 : Tryd.prog.bytesOf 23 = 16 := by kernel_rfl
theorem b63 : Tryd.prog.bytesOf 63 = 40 := by kernel_rfl

abbrev W64 (n : Int) : Prop := (Lit.int .i64 n).wf = true
theorem take_get {l : List Value} {i n : Nat} {v : Value} (h : (l.drop i).take n = [v]) : l[i]? = some v := by
  have h2 := congrArg (fun l : List Value => l[0]?) h
  simp only [List.getElem?_cons_zero] at h2
  rw [List.getElem?_take] at h2
  split at h2
  · rwa [List.getElem?_drop, Nat.add_zero] at h2
  · cases h2
theorem some_of {α : Type} {l : List α} {i n : Nat} (h : l.length = n) (hi : i < n) : ∃ y, l[i]? = some y := ⟨l[i]'(by omega), List.getElem?_eq_getElem (by omega)⟩
theorem len2 {α : Type} {l : List α} (h : l.length = 2) : ∃ v0 v1, l = [v0, v1] := by
  match l, h with
  | [v0, v1], _ => exact ⟨v0, v1, rfl⟩
theorem len5 {α : Type} {l : List α} (h : l.length = 5) : ∃ v0 v1 v2 v3 v4, l = [v0, v1, v2, v3, v4] := by
  match l, h with
  | [v0, v1, v2, v3, v4], _ => exact ⟨v0, v1, v2, v3, v4, rfl⟩
theorem len8 {α : Type} {l : List α} (h : l.length = 8) : ∃ v0 v1 v2 v3 v4 v5 v6 v7, l = [v0, v1, v2, v3, v4, v5, v6, v7] := by
  match l, h with
  | [v0, v1, v2, v3, v4, v5, v6, v7], _ => exact ⟨v0, v1, v2, v3, v4, v5, v6, v7, rfl⟩
theorem op23 (h : DataW.trod enc Tryd.prog w base spare held fuel 23 cs = some x) : ∃ a b, cs = [.int .i64 a, .int .i64 b] ∧ W64 a ∧ W64 b := by
  obtain ⟨xs, n, _, _, hl, hxl, hf⟩ := DataW.trod_struct Tryd.underlying23 h
  rw [c23] at hl
  obtain ⟨y0, hy0⟩ := some_of hxl (show 0 < 2 by decide)
  obtain ⟨y1, hy1⟩ := some_of hxl (show 1 < 2 by decide)
  obtain ⟨a, ha, _, wa⟩ := DataW.trod_int Tryd.underlying3 ((hf 0 _ rfl).trans hy0)
  obtain ⟨b, hb, _, wb⟩ := DataW.trod_int Tryd.underlying3 ((hf 1 _ rfl).trans hy1)
  have ea := take_get ha
  have eb := take_get hb
  obtain ⟨v0, v1, rfl⟩ := len2 hl
  simp at ea eb
  exact ⟨a, b, by rw [ea, eb], wa, wb⟩
theorem op63 (h : DataW.trod enc Tryd.prog w base spare held fuel 63 cs = some x) : ∃ a b c d e, cs = [.int .i64 a, .int .i64 b, .int .i64 c, .int .i64 d, .int .i64 e] ∧ W64 a ∧ W64 b ∧ W64 c ∧ W64 d ∧ W64 e := by
  obtain ⟨xs, n, _, _, hl, hxl, hf⟩ := DataW.trod_struct Tryd.underlying63 h
  rw [c63] at hl
  obtain ⟨y0, hy0⟩ := some_of hxl (show 0 < 5 by decide)
  obtain ⟨y1, hy1⟩ := some_of hxl (show 1 < 5 by decide)
  obtain ⟨y2, hy2⟩ := some_of hxl (show 2 < 5 by decide)
  obtain ⟨y3, hy3⟩ := some_of hxl (show 3 < 5 by decide)
  obtain ⟨y4, hy4⟩ := some_of hxl (show 4 < 5 by decide)
  obtain ⟨a, ha, _, wa⟩ := DataW.trod_int Tryd.underlying3 ((hf 0 _ rfl).trans hy0)
  obtain ⟨b, hb, _, wb⟩ := DataW.trod_int Tryd.underlying3 ((hf 1 _ rfl).trans hy1)
  obtain ⟨c, hc, _, wc⟩ := DataW.trod_int Tryd.underlying3 ((hf 2 _ rfl).trans hy2)
  obtain ⟨d, hd, _, wd⟩ := DataW.trod_int Tryd.underlying3 ((hf 3 _ rfl).trans hy3)
  obtain ⟨e, he, _, we⟩ := DataW.trod_int Tryd.underlying3 ((hf 4 _ rfl).trans hy4)
  have ea := take_get ha
  have eb := take_get hb
  have ec := take_get hc
  have ed := take_get hd
  have ee := take_get he
  obtain ⟨v0, v1, v2, v3, v4, rfl⟩ := len5 hl
  simp at ea eb ec ed ee
  exact ⟨a, b, c, d, e, by rw [ea, eb, ec, ed, ee], wa, wb, wc, wd, we⟩
/-- A slice of spans. -/
theorem op24 (h : DataW.trod enc Tryd.prog w base spare held fuel 24 cs = some x) :
    ∃ A c l, cs = [.slice A (List.length l) c] ∧ Kd.C k23 w A l.length l ∧ l.length ≤ c ∧ (∀ z ∈ l, W64 z.f0 ∧ W64 z.f1) ∧ ((x.1.weights Tryd.prog 24).all (· ≤ reachBytes) = true → l.length ≤ 8796093022208) := by
  rcases open_slice Tryd.underlying24 h with ⟨rfl, rfl⟩ | ⟨a, len, cap, m, n, D, Pl, rfl, hb, hl, hm, hmm, rfl, hi⟩
  · exact ⟨none, 0, [], rfl, Kd.C_nil _ _, Nat.le_refl _, fun z hz => (List.not_mem_nil hz).elim, fun _ => by simp⟩
  · have hlm : len ≤ m := by rw [hmm]; split <;> omega
    have hex : ∀ i, i < len → ∃ z : S23, (∀ j u, [Value.int .i64 z.f0, Value.int .i64 z.f1][j]? = some u → w.cell? (a.add (i * 2 + j)) = some u) ∧ W64 z.f0 ∧ W64 z.f1 := by
      intro i hi'
      obtain ⟨cs', hc, ht⟩ := hi i (by omega)
      rw [c23] at hc
      obtain ⟨a, b, rfl, wa, wb⟩ := op23 ht
      obtain ⟨_, _, hat⟩ := World.cells?_some hc
      refine ⟨⟨a, b⟩, fun j u hu => ?_, wa, wb⟩
      have hj : j < 2 := by
        rcases Nat.lt_or_ge j 2 with h | h
        · exact h
        · rw [List.getElem?_eq_none (by simpa using h)] at hu; cases hu
      have := hat j hj
      rw [Go.Deep.add_add] at this
      rw [this]; exact hu
    let f : Nat → S23 := fun i => if hh : i < len then (hex i hh).choose else z23
    have hfs := fun i (hi' : i < len) => (hex i hi').choose_spec
    have hfe : ∀ i (hi' : i < len), f i = (hex i hi').choose := fun i hi' => by simp only [f, hi', dif_pos]
    have hlen : ((List.range len).map f).length = len := by simp
    refine ⟨some a, cap, (List.range len).map f, by rw [hlen], ⟨rfl, ?_, fun hn => ⟨a, rfl, fun j p hj => ?_⟩⟩, by rw [hlen]; exact hl, ?_, ?_⟩
    · rw [hlen]; unfold maxLen at hm; omega
    · have hj' : j < len := by
        rcases Nat.lt_or_ge j len with h | h
        · exact h
        · rw [List.getElem?_eq_none (by rw [hlen]; exact h)] at hj; cases hj
      have hp : f j = p := by simpa [hj'] using hj
      rw [← hp, hfe j hj']
      exact ⟨_, rfl, k23_mk _ _, (hfs j hj').1⟩
    · intro z hz
      obtain ⟨i, hi', rfl⟩ := List.mem_map.1 hz
      have hi2 : i < len := by simpa using hi'
      rw [hfe i hi2]
      exact (hfs i hi2).2
    · intro hw
      rw [hlen]
      have := List.all_eq_true.1 hw ((((List.range len).map D).length + ((List.range (m - len)).map fun j => D (len + j)).length) * Tryd.prog.bytesOf 23) (by simp [DataW.weights, Tryd.underlying24])
      simp only [decide_eq_true_eq, List.length_map, List.length_range, b23, reachBytes] at this
      omega
/-- A slice of looks. -/
theorem op25 (h : DataW.trod enc Tryd.prog w base spare held fuel 25 cs = some x) :
    ∃ A c l, cs = [.slice A (List.length l) c] ∧ Kd.C k63 w A l.length l ∧ l.length ≤ c ∧ (∀ z ∈ l, W64 z.f0 ∧ W64 z.f1 ∧ W64 z.f2 ∧ W64 z.f3 ∧ W64 z.f4) ∧ ((x.1.weights Tryd.prog 25).all (· ≤ reachBytes) = true → l.length ≤ 3518437208883) := by
  rcases open_slice Tryd.underlying25 h with ⟨rfl, rfl⟩ | ⟨a, len, cap, m, n, D, Pl, rfl, hb, hl, hm, hmm, rfl, hi⟩
  · exact ⟨none, 0, [], rfl, Kd.C_nil _ _, Nat.le_refl _, fun z hz => (List.not_mem_nil hz).elim, fun _ => by simp⟩
  · have hlm : len ≤ m := by rw [hmm]; split <;> omega
    have hex : ∀ i, i < len → ∃ z : S63, (∀ j u, [Value.int .i64 z.f0, Value.int .i64 z.f1, Value.int .i64 z.f2, Value.int .i64 z.f3, Value.int .i64 z.f4][j]? = some u → w.cell? (a.add (i * 5 + j)) = some u) ∧ W64 z.f0 ∧ W64 z.f1 ∧ W64 z.f2 ∧ W64 z.f3 ∧ W64 z.f4 := by
      intro i hi'
      obtain ⟨cs', hc, ht⟩ := hi i (by omega)
      rw [c63] at hc
      obtain ⟨a, b, c, d, e, rfl, wa, wb, wc, wd, we⟩ := op63 ht
      obtain ⟨_, _, hat⟩ := World.cells?_some hc
      refine ⟨⟨a, b, c, d, e⟩, fun j u hu => ?_, wa, wb, wc, wd, we⟩
      have hj : j < 5 := by
        rcases Nat.lt_or_ge j 5 with h | h
        · exact h
        · rw [List.getElem?_eq_none (by simpa using h)] at hu; cases hu
      have := hat j hj
      rw [Go.Deep.add_add] at this
      rw [this]; exact hu
    let f : Nat → S63 := fun i => if hh : i < len then (hex i hh).choose else z63
    have hfs := fun i (hi' : i < len) => (hex i hi').choose_spec
    have hfe : ∀ i (hi' : i < len), f i = (hex i hi').choose := fun i hi' => by simp only [f, hi', dif_pos]
    have hlen : ((List.range len).map f).length = len := by simp
    refine ⟨some a, cap, (List.range len).map f, by rw [hlen], ⟨rfl, ?_, fun hn => ⟨a, rfl, fun j p hj => ?_⟩⟩, by rw [hlen]; exact hl, ?_, ?_⟩
    · rw [hlen]; unfold maxLen at hm; omega
    · have hj' : j < len := by
        rcases Nat.lt_or_ge j len with h | h
        · exact h
        · rw [List.getElem?_eq_none (by rw [hlen]; exact h)] at hj; cases hj
      have hp : f j = p := by simpa [hj'] using hj
      rw [← hp, hfe j hj']
      exact ⟨_, rfl, k63_mk _ _, (hfs j hj').1⟩
    · intro z hz
      obtain ⟨i, hi', rfl⟩ := List.mem_map.1 hz
      have hi2 : i < len := by simpa using hi'
      rw [hfe i hi2]
      exact (hfs i hi2).2
    · intro hw
      rw [hlen]
      have := List.all_eq_true.1 hw ((((List.range len).map D).length + ((List.range (m - len)).map fun j => D (len + j)).length) * Tryd.prog.bytesOf 63) (by simp [DataW.weights, Tryd.underlying25])
      simp only [decide_eq_true_eq, List.length_map, List.length_range, b63, reachBytes] at this
      omega
/-- What a book is: its cells, and what they lead to. -/
structure Book (w : World) (cs : List Value) (a b c d e : Int) (A5 : Option Addr) (c5 : Nat) (l5 : List S23) (A6 : Option Addr) (c6 : Nat) (l6 : List S23) (A7 : Option Addr) (c7 : Nat) (l7 : List S63) : Prop where
  cs : cs = [.int .i64 a, .int .i64 b, .int .i64 c, .int .i64 d, .int .i64 e, .slice A5 l5.length c5, .slice A6 l6.length c6, .slice A7 l7.length c7]
  wf : W64 a ∧ W64 b ∧ W64 c ∧ W64 d ∧ W64 e
  r5 : Kd.C k23 w A5 l5.length l5
  h5 : l5.length ≤ c5
  w5 : ∀ z ∈ l5, W64 z.f0 ∧ W64 z.f1
  r6 : Kd.C k23 w A6 l6.length l6
  h6 : l6.length ≤ c6
  w6 : ∀ z ∈ l6, W64 z.f0 ∧ W64 z.f1
  r7 : Kd.C k63 w A7 l7.length l7
  h7 : l7.length ≤ c7
  w7 : ∀ z ∈ l7, W64 z.f0 ∧ W64 z.f1 ∧ W64 z.f2 ∧ W64 z.f3 ∧ W64 z.f4
theorem len6 {α : Type} {l : List α} (h : l.length = 6) : ∃ v0 v1 v2 v3 v4 v5, l = [v0, v1, v2, v3, v4, v5] := by
  match l, h with
  | [v0, v1, v2, v3, v4, v5], _ => exact ⟨v0, v1, v2, v3, v4, v5, rfl⟩
theorem op27 (h : DataW.trod enc Tryd.prog w base spare held fuel 27 cs = some x) :
    ∃ a b c d e A5 c5 l5 A6 c6 l6 A7 c7 l7, Book w cs a b c d e A5 c5 l5 A6 c6 l6 A7 c7 l7 ∧ ((x.1.weights Tryd.prog 27).all (· ≤ reachBytes) = true → l5.length ≤ 8796093022208 ∧ l6.length ≤ 8796093022208 ∧ l7.length ≤ 3518437208883) := by
  obtain ⟨xs, n, _, hx, hl, hxl, hf⟩ := DataW.trod_struct Tryd.underlying27 h
  rw [c27] at hl
  obtain ⟨y0, hy0⟩ := some_of hxl (show 0 < 6 by decide)
  obtain ⟨y1, hy1⟩ := some_of hxl (show 1 < 6 by decide)
  obtain ⟨y2, hy2⟩ := some_of hxl (show 2 < 6 by decide)
  obtain ⟨y3, hy3⟩ := some_of hxl (show 3 < 6 by decide)
  obtain ⟨y4, hy4⟩ := some_of hxl (show 4 < 6 by decide)
  obtain ⟨y5, hy5⟩ := some_of hxl (show 5 < 6 by decide)
  obtain ⟨a, ha, _, wa⟩ := DataW.trod_int Tryd.underlying3 ((hf 0 _ rfl).trans hy0)
  obtain ⟨b, c, hb, wb, wc⟩ := op23 ((hf 1 _ rfl).trans hy1)
  obtain ⟨d, e, hd, wd, we⟩ := op23 ((hf 2 _ rfl).trans hy2)
  obtain ⟨A5, c5, l5, h5, r5, n5, w5, s5⟩ := op24 ((hf 3 _ rfl).trans hy3)
  obtain ⟨A6, c6, l6, h6, r6, n6, w6, s6⟩ := op24 ((hf 4 _ rfl).trans hy4)
  obtain ⟨A7, c7, l7, h7, r7, n7, w7, s7⟩ := op25 ((hf 5 _ rfl).trans hy5)
  have ea := take_get ha
  have e5 := take_get h5
  have e6 := take_get h6
  have e7 := take_get h7
  have hxs : xs = [y0, y1, y2, y3, y4, y5] := by
    obtain ⟨z0, z1, z2, z3, z4, z5, rfl⟩ := len6 hxl
    simp at hy0 hy1 hy2 hy3 hy4 hy5
    rw [hy0, hy1, hy2, hy3, hy4, hy5]
  refine ⟨a, b, c, d, e, A5, c5, l5, A6, c6, l6, A7, c7, l7, ⟨?_, ⟨wa, wb, wc, wd, we⟩, r5, n5, w5, r6, n6, w6, r7, n7, w7⟩, ?_⟩
  · obtain ⟨v0, v1, v2, v3, v4, v5, v6, v7, rfl⟩ := len8 hl
    simp [c23] at ea hb hd e5 e6 e7
    rw [ea, hb.1, hb.2, hd.1, hd.2, e5, e6, e7]
  · intro hw
    rw [hx, hxs] at hw
    have hw2 := List.all_eq_true.1 hw
    refine ⟨s5 (List.all_eq_true.2 fun z hz => hw2 z ?_), s6 (List.all_eq_true.2 fun z hz => hw2 z ?_), s7 (List.all_eq_true.2 fun z hz => hw2 z ?_)⟩
    · simp only [DataW.weights, Tryd.underlying27, DataW.weightsEach, List.map_cons, List.map_nil, List.mem_append]
      exact .inr (.inr (.inr (.inl hz)))
    · simp only [DataW.weights, Tryd.underlying27, DataW.weightsEach, List.map_cons, List.map_nil, List.mem_append]
      exact .inr (.inr (.inr (.inr (.inl hz))))
    · simp only [DataW.weights, Tryd.underlying27, DataW.weightsEach, List.map_cons, List.map_nil, List.mem_append]
      exact .inr (.inr (.inr (.inr (.inr (.inl hz)))))
end
/-- All cells of a value that is a struct are its own. -/
theorem agg_of {P : Program} {W : World} {r : Reach} {b : Nat} {t : TypeId} {fs : Array Field} {v : Value} (ht : P.underlying t = some (.struct fs)) (hv : Value.okWide P W r b t v) : ∃ cs : List Value, v = .agg cs.toArray ∧ v.cells.toList = cs := by
  obtain ⟨cs, rfl, _⟩ := okWide_struct ht hv
  exact ⟨cs.toList, by simp, rfl⟩
end Go.Proofs.TrydX.X
end

section
/- Maps whose keys are structs of two numbers, and whose elements are numbers: what a look-up and a store do, over whatever program. -/
set_option linter.unusedSimpArgs false
namespace Go.Proofs.YtohbeninpmmmpaaDoor
open Go Go.RowKit

abbrev pairV (s d : Int) : Value := .agg #[.int .i64 s, .int .i64 d]

/-- A map's key of two numbers. -/
structure PairKey (P : Program) (T K : TypeId) : Prop where
  und : ∃ E, P.underlying T = some (.map K E) ∧ ∀ w, (zeroValue E).run P w = .ok (.int .i64 0) w
  str : ∃ fs, P.underlying K = some (.struct fs)
  check : ∀ (w : World) em s d, (Instr.checkKey em 10000 K (pairV s d)).run P w = .ok () w
  eq : ∀ (w : World) s d s' d', (Op.equal K (pairV s d) (pairV s' d')).run P w = .ok (s == s' && d == d') w

def pmLook : List ((Int × Int) × Int) → Int → Int → Option Int
  | [], _, _ => none
  | x :: es, s, d => if s = x.1.1 ∧ d = x.1.2 then some x.2 else pmLook es s d
def pmPut : List ((Int × Int) × Int) → Int → Int → Int → List ((Int × Int) × Int)
  | [], s, d, v => [((s, d), v)]
  | x :: es, s, d, v => if s = x.1.1 ∧ d = x.1.2 then ((s, d), v) :: es else x :: pmPut es s d v
theorem pmLook_put (es : List ((Int × Int) × Int)) (s d v s' d' : Int) : pmLook (pmPut es s d v) s' d' = if s' = s ∧ d' = d then some v else pmLook es s' d' := by
  induction es with
  | nil => simp [pmPut, pmLook]
  | cons x es ih =>
    simp only [pmPut]
    by_cases h : s = x.1.1 ∧ d = x.1.2
    · rw [if_pos h]
      simp only [pmLook]
      obtain ⟨h1, h2⟩ := h
      subst h1; subst h2
      split <;> simp_all
    · rw [if_neg h]
      simp only [pmLook]
      by_cases h' : s' = x.1.1 ∧ d' = x.1.2
      · rw [if_pos h', if_pos h', if_neg]
        rintro ⟨h1, h2⟩
        exact h ⟨h1 ▸ h'.1, h2 ▸ h'.2⟩
      · rw [if_neg h', if_neg h', ih]

/-- The entries of a map read so. -/
def PEnc (arr : Array MapEntry) (es : List ((Int × Int) × Int)) : Prop := arr.toList.map (fun e => (e.key, e.val)) = es.map fun x => (pairV x.1.1 x.1.2, Value.int .i64 x.2)
/-- No two entries bear one stamp, and none a later one than the clock's. -/
def Born (arr : Array MapEntry) (clk : Nat) : Prop := (∀ x ∈ arr.toList, x.born < clk) ∧ (arr.toList.map (·.born)).Nodup
def PMap (w : World) (b : Nat) (es : List ((Int × Int) × Int)) : Prop := ∃ arr clk, w.heap[b]? = some (.map arr clk) ∧ PEnc arr es ∧ Born arr clk
theorem PMap.new {w : World} {b : Nat} (h : w.heap[b]? = some (.map #[] 0)) : PMap w b [] := ⟨_, _, h, rfl, by simp [Born]⟩
theorem PMap.below {w w' : World} {b : Nat} {es : List ((Int × Int) × Int)} (h : PMap w b es) (hb : Below w.heap.size w w') : PMap w' b es := by
  obtain ⟨arr, clk, h1, h2⟩ := h
  exact ⟨arr, clk, (hb.block b (Array.getElem?_eq_some_iff.1 h1).1).trans h1, h2⟩
theorem PMap.lt {w : World} {b : Nat} {es : List ((Int × Int) × Int)} (h : PMap w b es) : b < w.heap.size := by
  obtain ⟨arr, clk, h1, h2⟩ := h
  exact (Array.getElem?_eq_some_iff.1 h1).1

section
variable {P : Program} {T K : TypeId}

theorem run_findAsking (hK : PairKey P T K) (s d : Int) : ∀ (l : List MapEntry) (es : List ((Int × Int) × Int)) (i : Nat), (l.map fun e => (e.key, e.val)) = (es.map fun x => (pairV x.1.1 x.1.2, Value.int .i64 x.2)) →
    ∃ r : Option (Nat × Value), (∀ w : World, (Instr.findAsking K (pairV s d) l i).run P w = .ok r w) ∧
      ((pmLook es s d = none ∧ r = none ∧ pmPut es s d = fun v => es ++ [((s, d), v)]) ∨
       (∃ j v, pmLook es s d = some v ∧ r = some (i + j, .int .i64 v) ∧ j < l.length ∧ es[j]?.map Prod.fst = some (s, d) ∧ ∀ u, pmPut es s d u = es.set j ((s, d), u))) := by
  intro l
  induction l with
  | nil =>
    intro es i h
    have : es = [] := by simpa using h.symm
    subst this
    exact ⟨none, by intro w; simp [Instr.findAsking], .inl ⟨rfl, rfl, by funext v; rfl⟩⟩
  | cons e l ih =>
    intro es i h
    cases es with
    | nil => simp at h
    | cons x es =>
      simp only [List.map_cons, List.cons.injEq, Prod.mk.injEq] at h
      obtain ⟨⟨hk, hv⟩, ht⟩ := h
      by_cases hx : s = x.1.1 ∧ d = x.1.2
      · refine ⟨some (i + 0, .int .i64 x.2), ?_, .inr ⟨0, x.2, by simp [pmLook, hx], rfl, by simp, by simp [hx], fun u => by simp [pmPut, hx]⟩⟩
        intro w
        simp [Instr.findAsking, hk, hv, hK.eq, hx]
      · obtain ⟨r, hr, hcase⟩ := ih es (i + 1) ht
        refine ⟨r, ?_, ?_⟩
        · have hne : (s == x.1.1 && d == x.1.2) = false := by
            rw [Bool.eq_false_iff]; simp only [ne_eq, Bool.and_eq_true, beq_iff_eq]; exact hx
          intro w
          simp [Instr.findAsking, hk, hK.eq, hne]
          exact hr w
        · rcases hcase with ⟨h1, h2, h3⟩ | ⟨j, v, h1, h2, h3, h4, h5⟩
          · refine .inl ⟨by simp [pmLook, hx, h1], h2, ?_⟩
            funext v
            simp only [pmPut, if_neg hx, h3, List.cons_append]
          · refine .inr ⟨j + 1, v, by simp [pmLook, hx, h1], by rw [h2]; congr 2; omega, by simpa using h3, by simpa using h4, ?_⟩
            intro u
            simp only [pmPut, if_neg hx, h5, List.set_cons_succ]

theorem run_findKey (hK : PairKey P T K) (s d : Int) (l : List MapEntry) (es : List ((Int × Int) × Int)) (h : (l.map fun e => (e.key, e.val)) = (es.map fun x => (pairV x.1.1 x.1.2, Value.int .i64 x.2))) :
    ∃ r : Option (Nat × Value), (∀ w : World, (Instr.findKey K (pairV s d) l).run P w = .ok r w) ∧
      ((pmLook es s d = none ∧ r = none ∧ pmPut es s d = fun v => es ++ [((s, d), v)]) ∨
       (∃ j v, pmLook es s d = some v ∧ r = some (j, .int .i64 v) ∧ j < l.length ∧ es[j]?.map Prod.fst = some (s, d) ∧ ∀ u, pmPut es s d u = es.set j ((s, d), u))) := by
  obtain ⟨fs, hfs⟩ := hK.str
  cases l with
  | nil =>
    have : es = [] := by simpa using h.symm
    subst this
    refine ⟨none, ?_, .inl ⟨rfl, rfl, by funext v; rfl⟩⟩
    intro w
    simp [Instr.findKey, Instr.findNow, run_underlying hfs]
  | cons e l =>
    obtain ⟨r, hr, hc⟩ := run_findAsking hK s d (e :: l) es 0 h
    refine ⟨r, ?_, ?_⟩
    · have hn : Instr.findNow (.struct fs) (pairV s d) (e :: l) 0 = none := by simp [Instr.findNow, Instr.sameNow]
      intro w
      simp only [Instr.findKey, Sem.run_bind, run_underlying hfs, Result.andThen_ok, hn]
      exact hr w
    · rcases hc with hc | ⟨j, v, h1, h2, h3⟩
      · exact .inl hc
      · exact .inr ⟨j, v, h1, by rw [h2]; simp, h3⟩

theorem run_getObj_map {w : World} {b : Nat} {arr : Array MapEntry} {clk : Nat} (h : w.heap[b]? = some (.map arr clk)) : (getObj b).run P w = .ok (.map arr clk) w := by
  simp [getObj, Sem.run, h]

theorem run_lookup_pair (hK : PairKey P T K) {w : World} {b : Nat} {arr : Array MapEntry} {clk : Nat} {es : List ((Int × Int) × Int)} (h : w.heap[b]? = some (.map arr clk)) (he : PEnc arr es) (s d : Int) :
    (Instr.lookup T (.map (some b)) (pairV s d) true).run P w = .ok (.tuple #[.int .i64 ((pmLook es s d).getD 0), .bool (pmLook es s d).isSome]) w := by
  obtain ⟨E, hE, hz⟩ := hK.und
  obtain ⟨r, hr, hc⟩ := run_findKey hK s d arr.toList es he
  simp only [Instr.lookup, Sem.run_bind, run_underlying hE, Result.andThen_ok, run_getObj_map h, Sem.run_pure, hK.check, hr]
  rcases hc with ⟨h1, rfl, _⟩ | ⟨j, v, h1, rfl, _⟩
  · simp [hz, h1]
  · simp [h1]

theorem run_mapUpdate_pair (hK : PairKey P T K) {arr : Array MapEntry} {es : List ((Int × Int) × Int)} (clk : Nat) (he : PEnc arr es) (s d u : Int) :
    ∃ arr' clk', (PEnc arr' (pmPut es s d u) ∧ (Born arr clk → Born arr' clk')) ∧ ∀ (w : World) (b : Nat), w.heap[b]? = some (.map arr clk) → (Instr.mapUpdate T (.map (some b)) (pairV s d) (.int .i64 u)).run P w = .ok () (w.putObj b (.map arr' clk')) := by
  obtain ⟨E, hE, hz⟩ := hK.und
  obtain ⟨r, hr, hc⟩ := run_findKey hK s d arr.toList es he
  have hset : ∀ (w : World) (b : Nat), w.heap[b]? = some (.map arr clk) → ∀ o : Obj, (setObj b o).run P w = .ok () (w.putObj b o) := by
    intro w b h o; simp [setObj, Sem.run, h, World.putObj]
  rcases hc with ⟨h1, rfl, hput⟩ | ⟨j, v, h1, rfl, hj, hkey, hput⟩
  · refine ⟨arr.push { key := pairV s d, val := .int .i64 u, born := clk }, clk + 1, ?_, ?_⟩
    · refine ⟨?_, fun hb => ⟨?_, ?_⟩⟩
      · unfold PEnc at he ⊢
        rw [hput]
        simp [he]
      · intro x hx
        simp only [Array.toList_push, List.mem_append, List.mem_singleton] at hx
        rcases hx with hx | rfl
        · have := hb.1 x hx; omega
        · show clk < clk + 1; omega
      · rw [Array.toList_push, List.map_append, List.nodup_append]
        refine ⟨hb.2, by simp, ?_⟩
        intro x hx y hy
        simp only [List.map_cons, List.map_nil, List.mem_singleton] at hy
        obtain ⟨e, he2, rfl⟩ := List.mem_map.1 hx
        have := hb.1 e he2
        omega
    · intro w b h
      simp only [Instr.mapUpdate, Sem.run_bind, run_underlying hE, Result.andThen_ok, run_getObj_map h, hK.check, hr, hset _ _ h]
  · have hjl : j < es.length := by
      rcases Nat.lt_or_ge j es.length with h2 | h2
      · exact h2
      · rw [List.getElem?_eq_none h2] at hkey; cases hkey
    have hold : ((arr[j]?).map (·.key)).getD (pairV s d) = pairV s d := by
      have h2 := congrArg (fun l => l[j]?) he
      simp only [List.getElem?_map] at h2
      have h3 : es[j]? = some es[j] := List.getElem?_eq_getElem hjl
      rw [h3] at h2 hkey
      simp only [Option.map_some, Option.some.injEq] at hkey
      rw [Array.getElem?_toList] at h2
      cases ha : arr[j]? with
      | none => rfl
      | some e =>
        rw [ha] at h2
        simp only [Option.map_some, Option.some.injEq, Prod.mk.injEq] at h2
        simp [h2.1, hkey]
    refine ⟨arr.modify j fun e => { e with key := pairV s d, val := .int .i64 u }, clk, ⟨?_, fun hb => ⟨?_, ?_⟩⟩, ?_⟩
    rotate_left
    · intro x hx
      have hmap : (arr.modify j fun e => { e with key := pairV s d, val := .int .i64 u }).toList.map (·.born) = arr.toList.map (·.born) := by
        rw [Array.toList_modify]
        apply List.ext_getElem?
        intro i
        simp only [List.getElem?_map, List.getElem?_modify]
        cases arr.toList[i]? <;> simp <;> split <;> rfl
      have h1 : x.born ∈ (arr.modify j fun e => { e with key := pairV s d, val := .int .i64 u }).toList.map (·.born) := List.mem_map.2 ⟨x, hx, rfl⟩
      rw [hmap] at h1
      obtain ⟨e, he2, h2⟩ := List.mem_map.1 h1
      rw [← h2]
      exact hb.1 e he2
    · have hmap : (arr.modify j fun e => { e with key := pairV s d, val := .int .i64 u }).toList.map (·.born) = arr.toList.map (·.born) := by
        rw [Array.toList_modify]
        apply List.ext_getElem?
        intro i
        simp only [List.getElem?_map, List.getElem?_modify]
        cases arr.toList[i]? <;> simp <;> split <;> rfl
      rw [hmap]
      exact hb.2
    rotate_left
    · unfold PEnc at he ⊢
      rw [hput u, Array.toList_modify]
      rw [List.map_set, ← he]
      apply List.ext_getElem?
      intro i
      simp only [List.getElem?_map, List.getElem?_set, List.getElem?_modify, List.length_map]
      by_cases hij : j = i
      · subst hij
        have hlt : j < arr.toList.length := hj
        rw [if_pos rfl, if_pos hlt, List.getElem?_eq_getElem hlt]
        simp
      · rw [if_neg hij]
        cases arr.toList[i]? <;> simp [hij]
    · intro w b h
      have hsb : Instr.sameBits 10000 (pairV s d) (pairV s d) = true := by simp [Instr.sameBits]
      simp only [Instr.mapUpdate, Sem.run_bind, run_underlying hE, Result.andThen_ok, run_getObj_map h, hK.check, hr, hold, Instr.keyThatStays, hsb, if_true, Sem.run_pure, hset _ _ h]

theorem putObj_heap_same {w : World} {b : Nat} (h : b < w.heap.size) (o : Obj) : (w.putObj b o).heap[b]? = some o := World.putObj_heap_same h
end

end Go.Proofs.YtohbeninpmmmpaaDoor
end

section
/- The contracts of the small functions of package star. -/
set_option linter.unusedSimpArgs false
set_option linter.unusedVariables false
namespace Go.Proofs.YtohbeninpmmmpaaDoor
open Go.RowKit

theorem cell_below {W W1 : World} {p : Addr} {v : Value} (hb : Below W.heap.size W W1) (h : W.cell? p = some v) : W1.cell? p = some v :=
  (hb.cell (World.block_lt_of_cell? W _ h)).trans h
theorem below_call {w W w1 : World} (h : Below w.heap.size w W) (hb : Below W.heap.size W w1) : Below w.heap.size w w1 := h.trans (hb.mono h.size)

/-- The value of a book in the calculation. -/
abbrev bookV (N b0 b1 r0 r1 : Int) (v5 v6 v7 : Value) (m : Nat) : Value := .agg #[.int .i64 N, .int .i64 b0, .int .i64 b1, .int .i64 r0, .int .i64 r1, v5, v6, v7, .map (some m)]

set_option maxHeartbeats 400000 in
theorem night_any (N b0 b1 r0 r1 : Int) (v5 v6 v7 : Value) (m : Nat) (n : Int) (hn : -1000000 ≤ n ∧ n ≤ 1000000) (w : World) :
    Calls Tryd.prog 56 #[bookV N b0 b1 r0 r1 v5 v6 v7 m, .int .i64 n] w fun e w' => e = .returned (.int .i64 (1 + n)) ∧ Below w.heap.size w w' := by
  have hw : IntKind.i64.wrap (1 + n) = 1 + n := IntWalk.i64_in _ (by constructor <;> omega)
  go_enter Tryd.func56, Tryd.ntmps56
  go_wp2
  go_ret
  exact ⟨rfl, (Below.refl _ _).alloc (Nat.le_refl _) _⟩
set_option maxHeartbeats 400000 in
theorem seen_any (N b0 b1 r0 r1 : Int) (v5 v6 v7 : Value) (m : Nat) (n : Int) (hn : -1000000 ≤ n ∧ n ≤ 1000000) (w : World) :
    Calls Tryd.prog 57 #[bookV N b0 b1 r0 r1 v5 v6 v7 m, .int .i64 n] w fun e w' => e = .returned (.int .i64 (9 + n)) ∧ Below w.heap.size w w' := by
  have hw : IntKind.i64.wrap (9 + n) = 9 + n := IntWalk.i64_in _ (by constructor <;> omega)
  go_enter Tryd.func57, Tryd.ntmps57
  go_wp2
  go_ret
  exact ⟨rfl, (Below.refl _ _).alloc (Nat.le_refl _) _⟩
set_option maxHeartbeats 400000 in
theorem signal_any (N b0 b1 r0 r1 : Int) (v5 v6 v7 : Value) (m : Nat) (n : Int) (hn : -1000000 ≤ n ∧ n ≤ 1000000) (w : World) :
    Calls Tryd.prog 58 #[bookV N b0 b1 r0 r1 v5 v6 v7 m, .int .i64 n] w fun e w' => e = .returned (.int .i64 (13 + n)) ∧ Below w.heap.size w w' := by
  have hw : IntKind.i64.wrap (13 + n) = 13 + n := IntWalk.i64_in _ (by constructor <;> omega)
  go_enter Tryd.func58, Tryd.ntmps58
  go_wp2
  go_ret
  exact ⟨rfl, (Below.refl _ _).alloc (Nat.le_refl _) _⟩

set_option maxHeartbeats 400000 in
theorem least_any (n m : Int) (b o c : Nat) (w : World) (hc : w.cell? ⟨b, o, none⟩ = some (.int .i64 m)) :
    Calls Tryd.prog 88 #[.int .i64 n, .slice (some ⟨b, o, none⟩) 1 c] w fun e w' => e = .returned (.int .i64 (min n m)) ∧ w = w' := by
  go_enter Tryd.func88, Tryd.ntmps88
  go_wp2
  go_loop [0, 9] (fun x i => ∃ k : Nat, k ≤ 1 ∧ i = .int .i64 k ∧ x = .int .i64 (if k = 0 then n else min n m)) (fun _ i => 1 - (intOf i).toNat)
  case atStart => exact ⟨0, by omega, rfl, rfl⟩
  case round =>
    obtain ⟨k, hk, rfl, rfl⟩ := hrel
    by_cases hlt : k < 1
    · obtain rfl : k = 0 := by omega
      go_wp2
      go_round
      case rel => exact ⟨1, by omega, by go_num, by simp; split <;> omega⟩
      case measure => simp [intOf]
    · obtain rfl : k = 1 := by omega
      go_wp2
      go_ret
      exact ⟨rfl, rfl⟩
end Go.Proofs.YtohbeninpmmmpaaDoor
end

section
/- What is known of two things: the map, and how a bound is told of it. -/
set_option linter.unusedSimpArgs false
set_option linter.unusedVariables false
namespace Go.Proofs.YtohbeninpmmmpaaDoor
open Go.RowKit Go.Proofs.YtohbeninpmmmpaaDoorW.PrintWords

theorem pairKey : PairKey Tryd.prog 78 86 where
  und := ⟨3, by kernel_rfl, fun w => by simp [go_sem]⟩
  str := ⟨Tryd.prog.fieldsOf 86, by kernel_rfl⟩
  check := fun w em s d => by kernel_rfl
  eq := fun w s d s' d' => by
    rw [Op.equal, Op.maxDepth]
    simp [go_sem]
    by_cases h : s = s' <;> by_cases h' : d = d' <;> simp [h, h']
theorem PMap.alloc {w : World} {b : Nat} {es : List ((Int × Int) × Int)} (h : PMap w b es) (o : Obj) : PMap (w.alloc o) b es := h.below ((Below.refl _ _).alloc (Nat.le_refl _) o)
theorem PMap.set {w : World} {b : Nat} {es : List ((Int × Int) × Int)} (h : PMap w b es) {p : Addr} (hp : b ≠ p.block) (v : Value) : PMap (w.setCell p v) b es := by
  obtain ⟨arr, clk, h1, h2⟩ := h
  exact ⟨arr, clk, (Below.heap_setCell w p v b hp).trans h1, h2⟩
theorem PMap.drew {w : World} {b : Nat} {es : List ((Int × Int) × Int)} (h : PMap w b es) : PMap w.drew b es := h
theorem PMap.drewN {w : World} {b : Nat} {es : List ((Int × Int) × Int)} (h : PMap w b es) (n : Nat) : PMap (w.drewN n) b es := h
theorem PMap.grown {w w1 : World} {b : Nat} {es : List ((Int × Int) × Int)} (h : PMap w b es) {row : Option Nat} (hg : w.grownBy w1 row) (hr : some b ≠ row) : PMap w1 b es := by
  have hl := h.lt
  obtain ⟨arr, clk, h1, h2⟩ := h
  exact ⟨arr, clk, (hg.block b hl hr).trans h1, h2⟩

section
variable {ops : Array Oper} {rest : List Oper} {o : Oper} {a : Act} {Q : Exit → Act → World → Prop}
theorem wpList_lookup {W : World} {tm tk : Operand} {m : Nat} {s d : Int} {es : List ((Int × Int) × Int)} {r : Option Int} (hgd : o.guard = none) (hop : o.op = .lookup 78 tm tk true) (hm : a.eval tm = .map (some m)) (hk : a.eval tk = pairV s d) (hM : PMap W m es) (hr : pmLook es s d = r)
    (h : wpList Tryd.prog ops Q rest (a.put o.dst (.tuple #[.int .i64 (r.getD 0), .bool r.isSome])) W) : wpList Tryd.prog ops Q (o :: rest) a W := by
  obtain ⟨arr, clk, h1, h2⟩ := hM
  subst hr
  refine Kd.event_run hgd ?_ h
  have := run_lookup_pair pairKey h1 h2.1 s d
  simp only [execOp, hop, hm, hk]
  simp [go_sem, this]
end

theorem upd_ex {W : World} {m : Nat} {es : List ((Int × Int) × Int)} (hM : PMap W m es) (s d u : Int) : ∃ W1, (Instr.mapUpdate 78 (.map (some m)) (.agg #[.int .i64 s, .int .i64 d]) (.int .i64 u)).run Tryd.prog W = .ok () W1 ∧ PMap W1 m (pmPut es s d u) ∧ W.grownBy W1 (some m) ∧ W1.heap.size = W.heap.size := by
  have hl := hM.lt
  obtain ⟨arr, clk, h1, h2⟩ := hM
  obtain ⟨arr', clk', h3, h4⟩ := run_mapUpdate_pair pairKey clk h2.1 s d u
  exact ⟨W.putObj m (.map arr' clk'), h4 W m h1, ⟨arr', clk', World.putObj_heap_same hl, h3.1, h3.2 h2.2⟩, grownBy_putObj' W m _, by show (W.heap.setIfInBounds m _).size = _; simp⟩
/-- What is known, with a bound more. -/
def pmMin (es : List ((Int × Int) × Int)) (s d v : Int) : List ((Int × Int) × Int) := pmPut es s d (match pmLook es s d with | some n => min n v | none => v)

/-- The world in which the loop of 'bound' begins. -/
structure BoundW (m : Nat) (p q v : Nat → Int) (w W : World) : Prop where
  bel : Below w.heap.size w W
  size : W.heap.size = w.heap.size + 3
  map : W.cell? ⟨w.heap.size, 8, none⟩ = some (.map (some m))
  row : ∀ k, k < 2 → W.cell? ⟨w.heap.size + 1 + 1, k * 3, none⟩ = some (.int .i64 (p k)) ∧ W.cell? ⟨w.heap.size + 1 + 1, k * 3 + 1, none⟩ = some (.int .i64 (q k)) ∧ W.cell? ⟨w.heap.size + 1 + 1, k * 3 + 2, none⟩ = some (.int .i64 (v k))
def two (x y : Int) : Nat → Int
  | 0 => x
  | _ => y
noncomputable def boundW (N b0 b1 r0 r1 : Int) (v5 v6 v7 : Value) (m : Nat) (a b lo hi : Int) (w : World) : World :=
  ((w.alloc (.cells #[.int .i64 N, .int .i64 b0, .int .i64 b1, .int .i64 r0, .int .i64 r1, v5, v6, v7, .map (some m)] 80)).alloc (.cells #[.int .i64 lo, .int .i64 hi] 23)).alloc (.cells #[.int .i64 a, .int .i64 b, .int .i64 hi, .int .i64 b, .int .i64 a, .int .i64 (-lo)] 119)
theorem boundW_is (N b0 b1 r0 r1 : Int) (v5 v6 v7 : Value) (m : Nat) (a b lo hi : Int) (w : World) : BoundW m (two a b) (two b a) (two hi (-lo)) w (boundW N b0 b1 r0 r1 v5 v6 v7 m a b lo hi w) := by
  unfold boundW
  refine ⟨?_, by simp, by simp [go_sem], ?_⟩
  · repeat with_reducible (first | exact Below.refl _ _ | refine Below.alloc ?_ (by simp <;> omega) _)
  · intro k hk
    have : k = 0 ∨ k = 1 := by omega
    rcases this with rfl | rfl <;> simp [go_sem, two]
def boundK (es : List ((Int × Int) × Int)) (a b lo hi : Int) : Nat → List ((Int × Int) × Int)
  | 0 => es
  | 1 => pmMin es a b hi
  | _ => pmMin (pmMin es a b hi) b a (-lo)
theorem boundK_succ (es : List ((Int × Int) × Int)) (a b lo hi : Int) (k : Nat) (hk : k < 2) : boundK es a b lo hi (k + 1) = pmMin (boundK es a b lo hi k) (two a b k) (two b a k) (two hi (-lo) k) := by
  have : k = 0 ∨ k = 1 := by omega
  rcases this with rfl | rfl <;> rfl
theorem grown_cell {W W1 : World} {m : Nat} (hg : W.grownBy W1 (some m)) {p : Addr} {v : Value} (h : W.cell? p = some v) (hm : p.block ≠ m) : W1.cell? p = some v := by
  have := hg.block p.block (World.block_lt_of_cell? W p h) (by intro e; injection e with e; exact hm e)
  simpa [World.cell?, this] using h
theorem grown_trans {w W W1 : World} {m : Nat} (h : w.grownBy W (some m)) (k : W.grownBy W1 (some m)) : w.grownBy W1 (some m) :=
  ⟨k.os.trans h.os, k.tape.trans h.tape, k.output.trans h.output, Nat.le_trans h.size k.size, fun i hi hne => (k.block i (Nat.lt_of_lt_of_le hi h.size) hne).trans (h.block i hi hne)⟩
theorem grown_of {w W : World} (h : Below w.heap.size w W) (r : Option Nat) : w.grownBy W r := ⟨h.os, h.tape, h.output, h.size, fun k hk _ => h.block k hk⟩
set_option maxRecDepth 100000 in
set_option maxHeartbeats 4000000 in
theorem bound_any (N b0 b1 r0 r1 : Int) (v5 v6 v7 : Value) (m : Nat) (a b lo hi : Int) (es : List ((Int × Int) × Int)) (hlo : -1000000000000000 ≤ lo ∧ lo ≤ 1000000000000000) (w : World) (hM : PMap w m es) :
    Calls Tryd.prog 74 #[bookV N b0 b1 r0 r1 v5 v6 v7 m, .int .i64 a, .int .i64 b, .agg #[.int .i64 lo, .int .i64 hi]] w fun e w' => e = .returned (.tuple #[]) ∧ PMap w' m (boundK es a b lo hi 2) ∧ w.grownBy w' (some m) := by
  have hml := hM.lt
  have hwn : IntKind.i64.wrap (-lo) = -lo := IntWalk.i64_in _ (by constructor <;> omega)
  go_enter Tryd.func74, Tryd.ntmps74
  go_wp2
  change Code.wp Tryd.prog _ _ _ (boundW N b0 b1 r0 r1 v5 v6 v7 m a b lo hi w)
  have hW := boundW_is N b0 b1 r0 r1 v5 v6 v7 m a b lo hi w
  generalize boundW N b0 b1 r0 r1 v5 v6 v7 m a b lo hi w = W0 at hW ⊢
  have HM0 := Lib.hid (hM.below hW.bel)
  have hsz := hW.size
  have HW := Lib.hid hW
  clear hW hM
  go_loopw [27] (fun i wr => ∃ k : Nat, k ≤ 2 ∧ i = .int .i64 k ∧ PMap wr m (boundK es a b lo hi k) ∧ W0.grownBy wr (some m)) (fun i _ => 2 - (intOf i).toNat)
  case atStart => exact ⟨0, by omega, rfl, HM0.out, World.grownBy.refl _ _⟩
  case round =>
    obtain ⟨k, hk, rfl, hPM, hG⟩ := hrel
    by_cases hlt : k < 2
    · have hnext := boundK_succ es a b lo hi k hlt
      obtain ⟨hc0, hc1, hc2⟩ := HW.out.row k hlt
      obtain ⟨p, hp⟩ : ∃ p, p = two a b k := ⟨_, rfl⟩
      obtain ⟨q, hq⟩ : ∃ q, q = two b a k := ⟨_, rfl⟩
      obtain ⟨v, hv⟩ : ∃ v, v = two hi (-lo) k := ⟨_, rfl⟩
      obtain ⟨ek, hek⟩ : ∃ ek, ek = boundK es a b lo hi k := ⟨_, rfl⟩
      rw [← hp] at hc0 hnext
      rw [← hq] at hc1 hnext
      rw [← hv] at hc2 hnext
      rw [← hek] at hPM hnext
      replace hc0 := grown_cell hG hc0 (by show w.heap.size + 1 + 1 ≠ m; omega)
      replace hc1 := grown_cell hG hc1 (by show w.heap.size + 1 + 1 ≠ m; omega)
      replace hc2 := grown_cell hG hc2 (by show w.heap.size + 1 + 1 ≠ m; omega)
      have hc8 := grown_cell hG HW.out.map (by show w.heap.size ≠ m; omega)
      have hsz2 := hG.size
      have HPM := Lib.hid hPM
      have HG := Lib.hid hG
      have HN := Lib.hid hnext
      clear hPM hG hnext hp hq hv hek
      have hmr : m ≠ wr.heap.size := by omega
      have hx0 : w.heap.size < wr.heap.size := by omega
      have hx1 : w.heap.size + 1 + 1 < wr.heap.size := by omega
      cases hl : pmLook ek p q with
      | none =>
        obtain ⟨W1, hu1, hM1, hg1, hz1⟩ := upd_ex (HPM.out.alloc (.cells #[.int .i64 p, .int .i64 q, .int .i64 v] 119)) p q v
        go_wp2_with (refine wpList_lookup rfl rfl rfl rfl (by with_reducible repeat (first | exact HPM.out | refine PMap.alloc ?_ _)) hl ?_)
        go_roundw
        case rel => exact ⟨k + 1, by omega, by go_num, by rw [HN.out, pmMin, hl]; exact hM1, grown_trans HG.out (grown_trans (World.grownBy_alloc _ _ _) hg1)⟩
        case measure => simp [intOf]; omega
      | some n =>
        obtain ⟨W1, hu1, hM1, hg1, hz1⟩ := upd_ex ((HPM.out.alloc (.cells #[.int .i64 p, .int .i64 q, .int .i64 (min n v)] 119)).alloc (.cells #[.int .i64 v] 3)) p q (min n v)
        go_wp2_with (first | (refine wpList_lookup rfl rfl rfl rfl (by with_reducible repeat (first | exact HPM.out | refine PMap.alloc ?_ _)) hl ?_) | (go_at_call 88; refine (least_any _ _ _ _ _ _ (by simp [go_sem] <;> rfl)).mono ?_; rintro e w' ⟨rfl, rfl⟩))
        go_roundw
        case rel => exact ⟨k + 1, by omega, by go_num, by rw [HN.out, pmMin, hl]; exact hM1, grown_trans HG.out (grown_trans (grown_of (by repeat with_reducible (first | exact Below.refl _ _ | refine Below.setCell ?_ (by simp) _ | refine Below.alloc ?_ (by simp) _)) _) hg1)⟩
        case measure => simp [intOf]; omega
    · obtain rfl : k = 2 := by omega
      go_wp2
      exact bodyPost_end (results_none rfl _ _ _) rfl ⟨rfl, hPM, grown_trans (grown_of HW.out.bel _) hG⟩
end Go.Proofs.YtohbeninpmmmpaaDoor
end

section
/- Plain: one pass over a table of by how much each of 17 things is above each other one: bounds, when a second pass changes nothing, and what it tells. -/
set_option linter.unusedVariables false
set_option linter.unusedSectionVars false
namespace Go.Proofs.YtohbeninpmmmpaaDoor

abbrev Tb := Nat → Nat → Int
def far : Int := 1099511627776
def setT (t : Tb) (i k : Nat) (v : Int) : Tb := fun a b => if a = i ∧ b = k then v else t a b
def kStep (t : Tb) (y i k : Nat) : Tb := setT t i k (min (t i k) (t i y + t y k))
def kTo (t : Tb) (y i : Nat) : Nat → Tb
  | 0 => t
  | k + 1 => kStep (kTo t y i k) y i k
def iStep (t : Tb) (y i : Nat) : Tb := if far ≤ t i y then t else kTo t y i 17
def iTo (t : Tb) (y : Nat) : Nat → Tb
  | 0 => t
  | i + 1 => iStep (iTo t y i) y i
def yTo (t : Tb) : Nat → Tb
  | 0 => t
  | y + 1 => iTo (yTo t y) y 17
def passF (t : Tb) : Tb := yTo t 17
def noNeg (t : Tb) : Bool := (List.range 17).all fun i => decide (0 ≤ t i i)
theorem noNeg_iff (t : Tb) : noNeg t = true ↔ ∀ i, i < 17 → 0 ≤ t i i := by
  simp [noNeg, List.all_eq_true]
theorem setT_same (t : Tb) (i k : Nat) (v : Int) : setT t i k v i k = v := by simp [setT]
theorem setT_ne (t : Tb) (i k : Nat) (v : Int) {a b : Nat} (h : ¬ (a = i ∧ b = k)) : setT t i k v a b = t a b := by simp [setT, h]
theorem kStep_le (t : Tb) (y i k a b : Nat) : kStep t y i k a b ≤ t a b := by
  unfold kStep setT
  split
  · rename_i h; obtain ⟨rfl, rfl⟩ := h; omega
  · exact Int.le_refl _
theorem kTo_le (t : Tb) (y i : Nat) (a b : Nat) : ∀ k, kTo t y i k a b ≤ t a b
  | 0 => Int.le_refl _
  | k + 1 => Int.le_trans (kStep_le _ y i k a b) (kTo_le t y i a b k)
theorem iStep_le (t : Tb) (y i a b : Nat) : iStep t y i a b ≤ t a b := by
  unfold iStep; split
  · exact Int.le_refl _
  · exact kTo_le ..
theorem iTo_le (t : Tb) (y : Nat) (a b : Nat) : ∀ i, iTo t y i a b ≤ t a b
  | 0 => Int.le_refl _
  | i + 1 => Int.le_trans (iStep_le _ y i a b) (iTo_le t y a b i)
theorem yTo_le (t : Tb) (a b : Nat) : ∀ y, yTo t y a b ≤ t a b
  | 0 => Int.le_refl _
  | y + 1 => Int.le_trans (iTo_le _ y a b 17) (yTo_le t a b y)
theorem passF_le (t : Tb) (a b : Nat) : passF t a b ≤ t a b := yTo_le t a b 17

/-! ### How small numbers can get in a pass (nothing overflows). -/
/-- Within the step y, in the row i behind so many k: bounds. -/
structure KB (M : Int) (y i k : Nat) (t : Tb) : Prop where
  all : ∀ a b, -(6 * M) ≤ t a b
  rowy : ∀ b, -(3 * M) ≤ t y b
  yy : -(2 * M) ≤ t y y
  fresh : ∀ a b, i < a → -M ≤ t a b
  freshi : ∀ b, k ≤ b → -M ≤ t i b
  col : -(3 * M) ≤ t i y
  rowy1 : i = y → ∀ b, k ≤ b → -M ≤ t y b
theorem KB.sum {M : Int} {y i k : Nat} {t : Tb} (h : KB M y i k t) : -(6 * M) ≤ t i y + t y k := by
  have h1 := h.col
  have h2 := h.rowy k
  omega
theorem KB.next {M : Int} (hM : 0 ≤ M) {y i k : Nat} {t : Tb} (h : KB M y i k t) : KB M y i (k + 1) (kStep t y i k) := by
  have hs := h.sum
  have hi := h.freshi k (Nat.le_refl _)
  refine ⟨?_, ?_, ?_, ?_, ?_, ?_, ?_⟩
  · intro a b
    unfold kStep setT
    split
    · omega
    · exact h.all a b
  · intro b
    unfold kStep setT
    split
    · rename_i e
      obtain ⟨e1, e2⟩ := e
      subst e1
      have h1 := h.yy
      have h2 := h.rowy1 rfl k (Nat.le_refl _)
      omega
    · exact h.rowy b
  · unfold kStep setT
    split
    · rename_i e
      obtain ⟨e1, e2⟩ := e
      subst e1
      subst e2
      have h2 := h.rowy1 rfl y (Nat.le_refl _)
      omega
    · exact h.yy
  · intro a b ha
    rw [kStep, setT_ne _ _ _ _ (by omega)]
    exact h.fresh a b ha
  · intro b hb
    rw [kStep, setT_ne _ _ _ _ (by omega)]
    exact h.freshi b (by omega)
  · unfold kStep setT
    split
    · rename_i e
      have h1 := h.freshi y (by omega)
      have h2 := h.yy
      rw [← e.2]
      have h3 : -M ≤ t i y := h1
      omega
    · exact h.col
  · intro e b hb
    subst e
    rw [kStep, setT_ne _ _ _ _ (by omega)]
    exact h.freshi b (by omega)
structure IB (M : Int) (y i : Nat) (t : Tb) : Prop where
  all : ∀ a b, -(6 * M) ≤ t a b
  rowy : ∀ b, -(3 * M) ≤ t y b
  yy : -(2 * M) ≤ t y y
  fresh : ∀ a b, i ≤ a → -M ≤ t a b
theorem IB.k0 {M : Int} (hM : 0 ≤ M) {y i : Nat} {t : Tb} (h : IB M y i t) : KB M y i 0 t :=
  ⟨h.all, h.rowy, h.yy, fun a b ha => h.fresh a b (by omega), fun b _ => h.fresh i b (Nat.le_refl _), by have := h.fresh i y (Nat.le_refl _); omega, fun e b _ => e ▸ h.fresh i b (Nat.le_refl _)⟩
theorem KB.row {M : Int} (hM : 0 ≤ M) {y i : Nat} {t : Tb} (h : KB M y i 0 t) : ∀ k, KB M y i k (kTo t y i k)
  | 0 => h
  | k + 1 => (KB.row hM h k).next hM
theorem KB.done {M : Int} {y i k : Nat} {t : Tb} (h : KB M y i k t) : IB M y (i + 1) t := ⟨h.all, h.rowy, h.yy, fun a b ha => h.fresh a b (by omega)⟩
theorem IB.next {M : Int} (hM : 0 ≤ M) {y i : Nat} {t : Tb} (h : IB M y i t) : IB M y (i + 1) (iStep t y i) := by
  unfold iStep
  split
  · exact ⟨h.all, h.rowy, h.yy, fun a b ha => h.fresh a b (by omega)⟩
  · exact ((h.k0 hM).row hM 17).done
theorem IB.to {M : Int} (hM : 0 ≤ M) {y : Nat} {t : Tb} (h : IB M y 0 t) : ∀ i, IB M y i (iTo t y i)
  | 0 => h
  | i + 1 => (IB.to hM h i).next hM
def mB : Nat → Int
  | 0 => 100000
  | y + 1 => 6 * mB y
theorem mB_pos : ∀ y, 0 ≤ mB y
  | 0 => by simp [mB]
  | y + 1 => by have := mB_pos y; simp only [mB]; omega
theorem IB.start {M : Int} (hM : 0 ≤ M) {t : Tb} (h : ∀ a b, -M ≤ t a b) (y : Nat) : IB M y 0 t :=
  ⟨fun a b => by have := h a b; omega, fun b => by have := h y b; omega, by have := h y y; omega, fun a b _ => h a b⟩
theorem yTo_low {t : Tb} (h : ∀ a b, -100000 ≤ t a b) : ∀ y a b, -(mB y) ≤ yTo t y a b
  | 0 => h
  | y + 1 => fun a b => by
    have := ((IB.start (mB_pos y) (yTo_low h y) y).to (mB_pos y) 17).all a b
    simpa only [mB, yTo, Int.neg_mul] using this
theorem mB_le : ∀ y, y ≤ 17 → mB y ≤ 1692665944473600000 := by
  intro y hy
  have h : ∀ d y, mB y ≤ mB (y + d) := by
    intro d
    induction d with
    | zero => intro y; exact Int.le_refl _
    | succ d ih => intro y; have h1 := ih y; have h2 := mB_pos (y + d); show mB y ≤ 6 * mB (y + d); omega
  have := h (17 - y) y
  rw [show y + (17 - y) = 17 by omega] at this
  have e : mB 17 = 1692665944473600000 := by decide +kernel
  omega

/-! ### A pass, where nothing is above itself by less than 0. -/
theorem kTo_is {t : Tb} {y i : Nat} (hy : 0 ≤ t y y) (k : Nat) : kTo t y i k = fun a b => if a = i ∧ b < k then min (t i b) (t i y + t y b) else t a b := by
  induction k with
  | zero => funext a b; simp [kTo]
  | succ k ih =>
    funext a b
    have e1 : (kTo t y i k) i y = t i y := by
      rw [ih]; dsimp only; split <;> omega
    have e2 : (kTo t y i k) y k = t y k := by
      rw [ih]; dsimp only; rw [if_neg (by omega)]
    have e3 : (kTo t y i k) i k = t i k := by
      rw [ih]; dsimp only; rw [if_neg (by omega)]
    rw [kTo, kStep, e1, e2, e3]
    unfold setT
    by_cases h : a = i ∧ b = k
    · rw [if_pos h, if_pos (by omega), h.2]
    · rw [if_neg h, ih]
      dsimp only
      by_cases h2 : a = i ∧ b < k
      · rw [if_pos h2, if_pos (by omega)]
      · rw [if_neg h2, if_neg (by omega)]
def sF (t : Tb) (y : Nat) : Tb := fun a b => if a < 17 ∧ b < 17 ∧ t a y < far then min (t a b) (t a y + t y b) else t a b
theorem iTo_is {t : Tb} {y : Nat} (hy : 0 ≤ t y y) (i : Nat) : iTo t y i = fun a b => if a < i ∧ b < 17 ∧ t a y < far then min (t a b) (t a y + t y b) else t a b := by
  induction i with
  | zero => funext a b; simp [iTo]
  | succ i ih =>
    have ey : ∀ b, (iTo t y i) y b = t y b := by
      intro b; rw [ih]; dsimp only; split <;> omega
    have ei : ∀ b, (iTo t y i) i b = t i b := by
      intro b; rw [ih]; dsimp only; rw [if_neg (by omega)]
    funext a b
    rw [iTo, iStep, ei]
    by_cases hf : far ≤ t i y
    · rw [if_pos hf, ih]
      dsimp only
      by_cases h : a < i ∧ b < 17 ∧ t a y < far
      · rw [if_pos h, if_pos (by omega)]
      · rw [if_neg h, if_neg]
        rintro ⟨h1, h2, h3⟩
        rcases Nat.lt_or_ge a i with h4 | h4
        · exact h ⟨h4, h2, h3⟩
        · obtain rfl : a = i := by omega
          omega
    · rw [if_neg hf, kTo_is (by rw [ey]; exact hy)]
      dsimp only
      rw [ei, ei, ey]
      by_cases h : a = i ∧ b < 17
      · rw [if_pos h, if_pos (by obtain ⟨rfl, h⟩ := h; omega), h.1]
      · rw [if_neg h, ih]
        dsimp only
        by_cases h2 : a < i ∧ b < 17 ∧ t a y < far
        · rw [if_pos h2, if_pos (by omega)]
        · rw [if_neg h2, if_neg]
          rintro ⟨h3, h4, h5⟩
          rcases Nat.lt_or_ge a i with h6 | h6
          · exact h2 ⟨h6, h4, h5⟩
          · exact h ⟨by omega, h4⟩
theorem step_is {t : Tb} {y : Nat} (hy : 0 ≤ t y y) : iTo t y 17 = sF t y := iTo_is hy 17
theorem yTo_anti (t : Tb) (a b : Nat) (d : Nat) : ∀ y, yTo t (y + d) a b ≤ yTo t y a b := by
  induction d with
  | zero => intro y; exact Int.le_refl _
  | succ d ih => intro y; exact Int.le_trans (iTo_le _ _ _ _ 17) (ih y)
theorem diag_at {t : Tb} (h : noNeg (passF t) = true) (y i : Nat) (hy : y ≤ 17) (hi : i < 17) : 0 ≤ yTo t y i i := by
  have h1 := (noNeg_iff _).1 h i hi
  have h2 := yTo_anti t i i (17 - y) y
  rw [show y + (17 - y) = 17 by omega] at h2
  unfold passF at h1
  omega
theorem yTo_is {t : Tb} (h : noNeg (passF t) = true) (y : Nat) (hy : y < 17) : yTo t (y + 1) = sF (yTo t y) y := step_is (diag_at h y y (by omega) hy)

/-! ### Which things are told of, and how they hang together. -/
structure Tab (U : Nat → Prop) (t : Tb) : Prop where
  cls : ∀ i k, i < 17 → k < 17 → (-100000 ≤ t i k ∧ t i k ≤ 100000) ∨ t i k = far
  self : ∀ i, i < 17 → t i i = 0
  out : ∀ i k, i < 17 → k < 17 → i ≠ k → (¬ U i ∨ ¬ U k) → t i k = far
  hang : ∀ i, U i → 0 < i → ∃ j, j < i ∧ U j ∧ t i j ≤ 100000 ∧ t j i ≤ 100000
  few : ∀ i, U i → i < 17
  zero : U 0
def Cls (A : Int) (t : Tb) : Prop := ∀ i k, i < 17 → k < 17 → (-A ≤ t i k ∧ t i k ≤ A) ∨ (far - A ≤ t i k ∧ t i k ≤ far)
theorem Cls.step {A : Int} {t : Tb} (hA : 0 ≤ A ∧ A ≤ 100000000000) (h : Cls A t) {y : Nat} (hy : y < 17) : Cls (2 * A) (sF t y) := by
  intro i k hi hk
  have h1 := h i k hi hk
  have h2 := h i y hi hy
  have h3 := h y k hy hk
  unfold sF far at *
  split <;> omega
def aB : Nat → Int
  | 0 => 100000
  | y + 1 => 2 * aB y
theorem aB_bd : ∀ y, y ≤ 17 → 0 ≤ aB y ∧ aB y ≤ 13107200000 := by
  intro y hy
  have : ∀ y, y ≤ 17 → aB y = 100000 * 2 ^ y := by
    intro y _
    induction y with
    | zero => rfl
    | succ y ih => rw [aB, ih (by omega), Int.pow_succ]; omega
  have e : ∀ y : Fin 18, 0 ≤ aB y ∧ aB y ≤ 13107200000 := by decide +kernel
  exact e ⟨y, by omega⟩
section
variable {U : Nat → Prop} {t : Tb} (hT : Tab U t) (hn : noNeg (passF t) = true)
include hT hn
theorem cls_at : ∀ y, y ≤ 17 → Cls (aB y) (yTo t y)
  | 0, _ => fun i k hi hk => by rcases hT.cls i k hi hk with h | h <;> simp only [aB, yTo] <;> omega
  | y + 1, hy => by
    have ih := cls_at y (by omega)
    have := aB_bd y (by omega)
    rw [yTo_is hn y (by omega)]
    exact ih.step (by omega) (by omega)
theorem cls_all (y : Nat) (hy : y ≤ 17) : Cls 13107200000 (yTo t y) := by
  intro i k hi hk
  have h1 := cls_at hT hn y hy i k hi hk
  have h2 := aB_bd y hy
  omega
/-- What is not told of stays as it is. -/
theorem out_at (u : Nat) (hu : u < 17) (hU : ¬ U u) : ∀ y, y ≤ 17 → (∀ k, k < 17 → k ≠ u → yTo t y u k = far) ∧ yTo t y u u = 0 ∧ ∀ i, i < 17 → i ≠ u → far - 13107200000 ≤ yTo t y i u
  | 0, _ => ⟨fun k hk hne => hT.out u k hu hk (Ne.symm hne) (.inl hU), hT.self u hu, fun i hi hne => by have := hT.out i u hi hu hne (.inr hU); simp only [yTo]; omega⟩
  | y + 1, hy => by
    obtain ⟨h1, h2, h3⟩ := out_at u hu hU y (by omega)
    have hc := cls_all hT hn (y + 1) hy
    rw [yTo_is hn y (by omega)] at hc ⊢
    have hyy := diag_at hn y y (by omega) (by omega)
    refine ⟨?_, ?_, ?_⟩
    · intro k hk hne
      unfold sF
      by_cases e : y = u
      · subst e
        have := h1 k hk hne
        split <;> omega
      · have := h1 y (by omega) e
        rw [if_neg (by omega)]
        exact h1 k hk hne
    · unfold sF
      by_cases e : y = u
      · subst e
        split <;> omega
      · have := h1 y (by omega) e
        rw [if_neg (by omega)]
        exact h2
    · intro i hi hne
      have h4 := hc i u hi hu
      have h5 := h3 i hi hne
      have h6 := cls_all hT hn y (by omega) i y hi (by omega)
      have h8 : y ≠ u → far - 13107200000 ≤ yTo t y y u := fun e => h3 y (by omega) e
      have h9 := cls_at hT hn y (by omega) i y hi (by omega)
      have hb := aB_bd y (by omega)
      by_cases e : y = u
      · subst e
        unfold sF
        split <;> omega
      · have h8 := h8 e
        unfold sF at h4 ⊢
        unfold far at *
        split
        · rename_i hc2
          rw [if_pos hc2] at h4
          omega
        · exact h5
/-- Triangles of numbers that are known. -/
theorem tri_at : ∀ y, y ≤ 17 → ∀ j, j < y → ∀ i k, i < 17 → k < 17 → yTo t y i j ≤ 13107200000 → yTo t y j k ≤ 13107200000 → yTo t y i k ≤ yTo t y i j + yTo t y j k
  | 0, _ => fun j hj => by omega
  | y + 1, hy => by
    intro j hj i k hi hk
    have ih := tri_at y (by omega)
    have hc := cls_all hT hn y (by omega)
    have hyy := diag_at hn y y (by omega) (by omega)
    rw [yTo_is hn y (by omega)]
    have c1 := hc i y hi (by omega)
    have c2 := hc y k (by omega) hk
    have c3 := hc i j hi (by omega)
    have c4 := hc j k (by omega) hk
    have c5 := hc y j (by omega) (by omega)
    have c6 := hc j y (by omega) (by omega)
    have c7 := hc i k hi hk
    by_cases e : j = y
    · subst e
      unfold sF
      unfold far at *
      intro h1 h2
      split <;> split at h1 <;> split at h2 <;> split <;> omega
    · have t1 := ih j (by omega) i k hi hk
      have t2 := ih j (by omega) y k (by omega) hk
      have t3 := ih j (by omega) i y hi (by omega)
      have t4 := ih j (by omega) y y (by omega) (by omega)
      unfold sF
      unfold far at *
      intro h1 h2
      split <;> split at h1 <;> split at h2 <;> split <;> omega
set_option maxHeartbeats 2000000 in
/-- Towards what is not told of. -/
theorem tri_out (u : Nat) (hu : u < 17) (hU : ¬ U u) : ∀ y, y ≤ 17 → ∀ j, j < y → ∀ i, i < 17 → yTo t y i j ≤ 13107200000 → yTo t y i u ≤ yTo t y i j + yTo t y j u
  | 0, _ => fun j hj => by omega
  | y + 1, hy => by
    intro j hj i hi
    have ih := tri_out u hu hU y (by omega)
    have hc := cls_all hT hn y (by omega)
    have hyy := diag_at hn y y (by omega) (by omega)
    obtain ⟨o1, o2, o3⟩ := out_at hT hn u hu hU y (by omega)
    rw [yTo_is hn y (by omega)]
    have c1 := hc i y hi (by omega)
    have c2 := hc y u (by omega) hu
    have c3 := hc i j hi (by omega)
    have c4 := hc j u (by omega) hu
    have c5 := hc y j (by omega) (by omega)
    have c6 := hc j y (by omega) (by omega)
    have c7 := hc i u hi hu
    by_cases e2 : y = u
    · subst e2
      have p1 : i ≠ y → far - 13107200000 ≤ yTo t y i y := o3 i hi
      have p2 : j ≠ y → far - 13107200000 ≤ yTo t y j y := o3 j (by omega)
      have p3 : j ≠ y → yTo t y y j = far := fun h => o1 j (by omega) h
      by_cases e : j = y
      · subst e
        unfold sF
        unfold far at *
        intro h1
        split <;> split at h1 <;> split <;> omega
      · have p2 := p2 e
        have p3 := p3 e
        by_cases ei : i = y
        · subst ei
          unfold sF
          unfold far at *
          intro h1
          split <;> split at h1 <;> split <;> omega
        · have p1 := p1 ei
          have t1 := ih j (by omega) i hi
          unfold sF
          unfold far at *
          intro h1
          split <;> split at h1 <;> split <;> omega
    · have q1 := o3 y (by omega) e2
      by_cases e : j = y
      · subst e
        unfold sF
        unfold far at *
        intro h1
        split <;> split at h1 <;> split <;> omega
      · have t1 := ih j (by omega) i hi
        have t2 := ih j (by omega) y (by omega)
        have t3 := tri_at hT hn y (by omega) j (by omega) i y hi (by omega)
        have t4 := tri_at hT hn y (by omega) j (by omega) y y (by omega) (by omega)
        unfold sF
        unfold far at *
        intro h1
        split <;> split at h1 <;> split <;> omega
/-- All that is told of is known of each other. -/
theorem fin_all : ∀ i k, U i → U k → passF t i k ≤ 13107200000 := by
  have tr : ∀ i j k, i < 17 → j < 17 → k < 17 → passF t i j ≤ 13107200000 → passF t j k ≤ 13107200000 → passF t i k ≤ 13107200000 := by
    intro i j k hi hj hk h1 h2
    have c1 := cls_at hT hn 16 (by omega)
    have h3 := tri_at hT hn 17 (by omega) j hj i k hi hk h1 h2
    have c3 := cls_all hT hn 17 (by omega) i k hi hk
    unfold passF at *
    unfold far at *
    omega
  have base : ∀ i k, t i k ≤ 100000 → passF t i k ≤ 13107200000 := fun i k h => by have := passF_le t i k; omega
  have root : ∀ n i, i ≤ n → U i → passF t i 0 ≤ 13107200000 ∧ passF t 0 i ≤ 13107200000 := by
    intro n
    induction n with
    | zero =>
      intro i hi hU
      obtain rfl : i = 0 := by omega
      have := hT.self 0 (by omega)
      exact ⟨base 0 0 (by omega), base 0 0 (by omega)⟩
    | succ n ih =>
      intro i hi hU
      rcases Nat.eq_zero_or_pos i with h0 | h0
      · exact ih i (by omega) hU
      · obtain ⟨j, h1, h2, h3, h4⟩ := hT.hang i hU h0
        have h5 := ih j (by omega) h2
        have := hT.few i hU
        have := hT.few j h2
        exact ⟨tr i j 0 (by omega) (by omega) (by omega) (base _ _ h3) h5.1, tr 0 j i (by omega) (by omega) (by omega) h5.2 (base _ _ h4)⟩
  intro i k hi hk
  have := hT.few i hi
  have := hT.few k hk
  exact tr i 0 k (by omega) (by omega) (by omega) (root i i (Nat.le_refl _) hi).1 (root k k (Nat.le_refl _) hk).2
theorem tri_all {i j k : Nat} (hi : U i) (hj : U j) (hk : U k) : passF t i k ≤ passF t i j + passF t j k :=
  tri_at hT hn 17 (by omega) j (hT.few j hj) i k (hT.few i hi) (hT.few k hk) (fin_all hT hn i j hi hj) (fin_all hT hn j k hj hk)
theorem self_all {i : Nat} (hi : U i) : passF t i i = 0 := by
  have h1 := diag_at hn 17 i (by omega) (hT.few i hi)
  have h2 := passF_le t i i
  have h3 := hT.self i (hT.few i hi)
  unfold passF at *
  omega
/-- A second pass changes nothing. -/
theorem closed_all (i y b : Nat) (hi : i < 17) (hy : y < 17) (hb : b < 17) (h : passF t i y < far) : passF t i b ≤ passF t i y + passF t y b := by
  have hc := cls_all hT hn 17 (by omega)
  have c1 := hc i b hi hb
  have c2 := hc i y hi hy
  have c3 := hc y b hy hb
  have hyy := diag_at hn 17 y (by omega) hy
  have hbb := diag_at hn 17 b (by omega) hb
  by_cases hU : U y
  · by_cases hUi : U i
    · by_cases hUb : U b
      · exact tri_all hT hn hUi hU hUb
      · exact tri_out hT hn b hb hUb 17 (by omega) y hy i hi (fin_all hT hn i y hUi hU)
    · have := (out_at hT hn i hi hUi 17 (by omega)).1 y hy
      have h2 := (out_at hT hn i hi hUi 17 (by omega)).2.1
      by_cases e : y = i
      · subst e; unfold passF at *; omega
      · unfold passF at *; have := this e; omega
  · obtain ⟨o1, o2, o3⟩ := out_at hT hn y hy hU 17 (by omega)
    by_cases e : b = y
    · subst e; unfold passF at *; omega
    · have h1 := o1 b hb e
      by_cases e2 : i = y
      · subst e2; unfold passF at *; omega
      · have h2 := o3 i hi e2
        unfold passF at *
        unfold far at *
        omega
omit hT hn in
theorem sF_same {s : Tb} {y : Nat} (h : ∀ i b, i < 17 → b < 17 → s i y < far → s i b ≤ s i y + s y b) : sF s y = s := by
  funext i b
  unfold sF
  split
  · rename_i hc
    have := h i b hc.1 hc.2.1 hc.2.2
    omega
  · rfl
theorem passF_twice : passF (passF t) = passF t := by
  have hyy : ∀ y, y < 17 → 0 ≤ passF t y y := (noNeg_iff _).1 hn
  have hcl := closed_all hT hn
  generalize passF t = s at hyy hcl ⊢
  have : ∀ y, y ≤ 17 → yTo s y = s := by
    intro y
    induction y with
    | zero => intro _; rfl
    | succ y ih =>
      intro hy
      have e : yTo s (y + 1) = iTo (yTo s y) y 17 := rfl
      rw [e, ih (by omega), step_is (hyy y (by omega))]
      exact sF_same fun i b hi hb h => hcl i y b hi (by omega) hb h
  exact this 17 (by omega)
end

/-! ### What it tells. -/
/-- Numbers for all things, as they are said to lie. -/
def Pot (U : Nat → Prop) (t : Tb) (o : Nat → Int) : Prop := ∀ i k, U i → U k → o i - o k ≤ t i k
theorem pot_step {t : Tb} {o : Nat → Int} (ho : ∀ i k, i < 17 → k < 17 → o i - o k ≤ t i k) (y i k : Nat) (hy : y < 17) (hi : i < 17) (hk : k < 17) : ∀ a b, a < 17 → b < 17 → o a - o b ≤ kStep t y i k a b := by
  intro a b ha hb
  unfold kStep setT
  split
  · rename_i e
    obtain ⟨rfl, rfl⟩ := e
    have h1 := ho a b ha hb
    have h2 := ho a y ha hy
    have h3 := ho y b hy hb
    omega
  · exact ho a b ha hb
theorem pot_k {t : Tb} {o : Nat → Int} (ho : ∀ i k, i < 17 → k < 17 → o i - o k ≤ t i k) (y i : Nat) (hy : y < 17) (hi : i < 17) : ∀ k, k ≤ 17 → ∀ a b, a < 17 → b < 17 → o a - o b ≤ kTo t y i k a b
  | 0, _ => ho
  | k + 1, hk => pot_step (pot_k ho y i hy hi k (by omega)) y i k hy hi (by omega)
theorem pot_i {t : Tb} {o : Nat → Int} (ho : ∀ i k, i < 17 → k < 17 → o i - o k ≤ t i k) (y : Nat) (hy : y < 17) : ∀ i, i ≤ 17 → ∀ a b, a < 17 → b < 17 → o a - o b ≤ iTo t y i a b
  | 0, _ => ho
  | i + 1, hi => by
    rw [iTo, iStep]
    split
    · exact pot_i ho y hy i (by omega)
    · exact pot_k (pot_i ho y hy i (by omega)) y i hy (by omega) 17 (Nat.le_refl _)
theorem pot_y {t : Tb} {o : Nat → Int} (ho : ∀ i k, i < 17 → k < 17 → o i - o k ≤ t i k) : ∀ y, y ≤ 17 → ∀ a b, a < 17 → b < 17 → o a - o b ≤ yTo t y a b
  | 0, _ => ho
  | y + 1, hy => pot_i (pot_y ho y (by omega)) y (by omega) 17 (Nat.le_refl _)
theorem pot_all {t : Tb} {o : Nat → Int} (ho : ∀ i k, i < 17 → k < 17 → o i - o k ≤ t i k) (a b : Nat) (ha : a < 17) (hb : b < 17) : o a - o b ≤ passF t a b := pot_y ho 17 (Nat.le_refl _) a b ha hb
section
variable {U : Nat → Prop} {t : Tb} (hT : Tab U t)
include hT
theorem pot_bd {o : Nat → Int} (ho : Pot U t o) : ∀ n i, i ≤ n → U i → -(100000 * (i : Int)) ≤ o i - o 0 ∧ o i - o 0 ≤ 100000 * (i : Int) := by
  intro n
  induction n with
  | zero => intro i hi _; obtain rfl : i = 0 := by omega
            omega
  | succ n ih =>
    intro i hi hU
    rcases Nat.eq_zero_or_pos i with h0 | h0
    · exact ih i (by omega) hU
    · obtain ⟨j, h1, h2, h3, h4⟩ := hT.hang i hU h0
      have h5 := ih j (by omega) h2
      have h6 := ho i j hU h2
      have h7 := ho j i h2 hU
      omega
open Classical in
/-- Where something can be so, nothing is above itself by less than 0, and all lies below what is told. -/
theorem pot_told {o : Nat → Int} (ho : Pot U t o) : noNeg (passF t) = true ∧ ∀ i k, U i → U k → o i - o k ≤ passF t i k := by
  have key : ∀ i k, i < 17 → k < 17 → (fun j => if U j then o j - o 0 else 0) i - (fun j => if U j then o j - o 0 else 0) k ≤ t i k := by
    intro i k hi hk
    dsimp only
    by_cases e : i = k
    · subst e; have := hT.self i hi; omega
    · by_cases h1 : U i
      · by_cases h2 : U k
        · rw [if_pos h1, if_pos h2]; have := ho i k h1 h2; omega
        · have b1 := pot_bd hT ho i i (Nat.le_refl _) h1
          have := hT.out i k hi hk e (.inr h2)
          rw [if_pos h1, if_neg h2]; unfold far at *; omega
      · have := hT.out i k hi hk e (.inl h1)
        rw [if_neg h1]
        split
        · rename_i h2
          have b1 := pot_bd hT ho k k (Nat.le_refl _) h2
          unfold far at *; omega
        · unfold far at *; omega
  have hp := pot_all key
  refine ⟨(noNeg_iff _).2 fun i hi => ?_, fun i k hi hk => ?_⟩
  · have := hp i i hi hi; omega
  · have := hp i k (hT.few i hi) (hT.few k hk)
    rw [if_pos hi, if_pos hk] at this
    omega
/-- Each end is so. -/
theorem told_pot (hn : noNeg (passF t) = true) {k : Nat} (hk : U k) : Pot U t fun j => passF t j k := by
  intro i j hi hj
  have h1 := tri_all hT hn hi hj hk
  have h2 := passF_le t i j
  show passF t i k - passF t j k ≤ t i j
  omega
end
end Go.Proofs.YtohbeninpmmmpaaDoor
end

section
/- The table of 17 x 17 numbers: its cells, its loads and stores, and when two are the same. -/
set_option linter.unusedSimpArgs false
set_option linter.unusedVariables false
namespace Go.Proofs.YtohbeninpmmmpaaDoor
open Go.RowKit

/-- The cells of a table. -/
def encT (f : Tb) : List Value := (List.range 289).map fun j => Value.int .i64 (f (j / 17) (j % 17))
theorem encT_length (f : Tb) : (encT f).length = 289 := by simp [encT]
theorem encT_at (f : Tb) (j : Nat) (h : j < 289) : (encT f)[j]? = some (Value.int .i64 (f (j / 17) (j % 17))) := by
  simp [encT, h]
theorem encT_ik (f : Tb) (i k : Nat) (hi : i < 17) (hk : k < 17) : (encT f)[i * 17 + k]? = some (Value.int .i64 (f i k)) := by
  rw [encT_at f _ (by omega), show (i * 17 + k) / 17 = i by omega, show (i * 17 + k) % 17 = k by omega]
theorem encT_one (f : Tb) : ∀ v ∈ encT f, v.oneCell' = true := by
  intro v hv
  simp only [encT, List.mem_map] at hv
  obtain ⟨j, _, rfl⟩ := hv
  rfl
/-- The block b holds the table f. -/
def At (w : World) (b : Nat) (f : Tb) : Prop := w.rangeAt b 0 (encT f) ∧ w.there b 0 289
theorem At.cell {w : World} {b : Nat} {f : Tb} (h : At w b f) (i k : Nat) (hi : i < 17) (hk : k < 17) : w.cell? ⟨b, i * 17 + k, none⟩ = some (.int .i64 (f i k)) := by
  have := h.1 (i * 17 + k) _ (encT_ik f i k hi hk)
  rwa [Nat.zero_add] at this
theorem At.free {w : World} {b : Nat} {f : Tb} (h : At w b f) (j : Nat) (hj : j < 289) : w.frozen? ⟨b, j, none⟩ = false := by
  have := (h.2 j hj).2
  rwa [Nat.zero_add] at this
theorem At.lt {w : World} {b : Nat} {f : Tb} (h : At w b f) : b < w.heap.size := World.block_lt_of_cell? w _ (h.cell 0 0 (by omega) (by omega))
theorem At.below {w W : World} {b : Nat} {f : Tb} (h : At w b f) (hb : Below w.heap.size w W) : At W b f := by
  have hl := h.lt
  refine ⟨fun j v hv => cell_below hb (h.1 j v hv), fun j hj => ?_⟩
  have h1 := hb.cell (p := ⟨b, 0 + j, none⟩) hl
  have h2 := hb.frozen (p := ⟨b, 0 + j, none⟩) hl
  rw [h1, h2]
  exact h.2 j hj
theorem At.belowN {N : Nat} {w W : World} {b : Nat} {f : Tb} (h : At w b f) (hN : b < N) (hb : Below N w W) : At W b f := by
  refine ⟨fun j v hv => (hb.cell (p := ⟨b, 0 + j, none⟩) hN).trans (h.1 j v hv), fun j hj => ?_⟩
  rw [hb.cell (p := ⟨b, 0 + j, none⟩) hN, hb.frozen (p := ⟨b, 0 + j, none⟩) hN]
  exact h.2 j hj
theorem encT_congr {f g : Tb} (h : ∀ i k, i < 17 → k < 17 → f i k = g i k) : encT f = encT g := by
  apply List.map_congr_left
  intro j hj
  have hj' : j < 289 := by simpa using hj
  rw [h (j / 17) (j % 17) (by omega) (by omega)]
theorem At.congr {w : World} {b : Nat} {f g : Tb} (h : At w b f) (hfg : ∀ i k, i < 17 → k < 17 → f i k = g i k) : At w b g := by
  unfold At
  rw [← encT_congr hfg]
  exact h
theorem At.set {w : World} {b : Nat} {f : Tb} (h : At w b f) (i k : Nat) (hi : i < 17) (hk : k < 17) (x : Int) : At (w.setCell ⟨b, i * 17 + k, none⟩ (.int .i64 x)) b (setT f i k x) := by
  have e : (w.setCell ⟨b, i * 17 + k, none⟩ (.int .i64 x)) = w.setCells b (i * 17 + k) [.int .i64 x] := rfl
  refine ⟨fun j v hv => ?_, fun j hj => ?_⟩
  · have hj : j < 289 := by
      rcases Nat.lt_or_ge j 289 with h1 | h1
      · exact h1
      · rw [List.getElem?_eq_none (by rw [encT_length]; exact h1)] at hv; cases hv
    rw [encT_at _ j hj] at hv
    injection hv with hv
    subst hv
    have h0 := h.1 j _ (encT_at f j hj)
    by_cases h1 : j = i * 17 + k
    · have hs := World.rangeAt_setCells_same w b (i * 17 + k) [.int .i64 x] (fun q hq => by have := h.2 (i * 17 + k + q) (by simp at hq; omega); rwa [Nat.zero_add] at this)
      have := hs 0 _ rfl
      rw [e, h1, Nat.zero_add, show (i * 17 + k) / 17 = i by omega, show (i * 17 + k) % 17 = k by omega, setT_same]
      exact this
    · have ha := World.rangeAt_setCells_apart (w := w) (b' := b) (o' := j) (cs := [Value.int .i64 (f (j / 17) (j % 17))]) (fun q v hv => by
        cases q with
        | zero => simp only [List.getElem?_cons_zero] at hv; rw [← hv]; rwa [Nat.zero_add] at h0
        | succ q => simp at hv) b (i * 17 + k) [.int .i64 x] (by right; simp; omega)
      have := ha 0 _ rfl
      rw [e, Nat.zero_add, setT_ne _ _ _ _ (by omega)]
      simpa using this
  · rw [e]
    exact World.there_setCells h.2 b (i * 17 + k) _ j hj
theorem below_setCells {n b : Nat} {w : World} (vs : List Value) : ∀ (o : Nat) (W : World), Below n w W → n ≤ b → Below n w (W.setCells b o vs) := by
  induction vs with
  | nil => intro o W h _; exact h
  | cons v vs ih => intro o W h hn; exact ih _ _ (h.setCell hn _) hn
/-- The whole table is stored. -/
theorem At.store {w : World} {b : Nat} {f : Tb} (h : At w b f) (g : Tb) : At (w.setCells b 0 (encT g)) b g :=
  ⟨World.rangeAt_setCells_same w b 0 _ (by rw [encT_length]; exact h.2), World.there_setCells h.2 b 0 _⟩
theorem At.apart {w : World} {b b' : Nat} {f : Tb} (h : At w b f) (hb : b ≠ b') (o : Nat) (vs : List Value) : At (w.setCells b' o vs) b f :=
  ⟨World.rangeAt_setCells_apart h.1 b' o vs (.inl hb), World.there_setCells h.2 b' o vs⟩
theorem At.apart1 {w : World} {b b' : Nat} {f : Tb} (h : At w b f) (hb : b ≠ b') (o : Nat) (v : Value) : At (w.setCell ⟨b', o, none⟩ v) b f := h.apart hb o [v]
theorem size_setCells {b : Nat} (vs : List Value) : ∀ (o : Nat) (W : World), (W.setCells b o vs).heap.size = W.heap.size := by
  induction vs with
  | nil => intro o W; rfl
  | cons v vs ih => intro o W; show ((W.setCell _ v).setCells b (o + 1) vs).heap.size = _; rw [ih]; simp
def zeroT : Tb := fun _ _ => 0
theorem zeroCells_is : Tryd.zeroCells91 = (encT zeroT).toArray := by kernel_rfl
theorem At.new (w : World) : At (w.alloc (.cells Tryd.zeroCells91 91)) w.heap.size zeroT := by
  have hb := World.alloc_heap_new w (.cells Tryd.zeroCells91 91)
  rw [zeroCells_is] at hb ⊢
  refine ⟨fun j v hv => ?_, fun j hj => ⟨?_, ?_⟩⟩
  · rw [cell_of_row _ _ _ _ _ _ hb]; simpa using hv
  · rw [cell_of_row _ _ _ _ _ _ hb]; simp [encT, hj]
  · exact frozen_of_row _ _ _ _ _ hb
/-- A box of a table that came in. -/
theorem At.box (w : World) (f : Tb) (t : TypeId) : At (w.alloc (.cells (encT f).toArray t)) w.heap.size f := by
  have hb := World.alloc_heap_new w (.cells (encT f).toArray t)
  refine ⟨fun j v hv => ?_, fun j hj => ⟨?_, ?_⟩⟩
  · rw [cell_of_row _ _ _ _ _ _ hb]; simpa using hv
  · rw [cell_of_row _ _ _ _ _ _ hb]; simp [encT, hj]
  · exact frozen_of_row _ _ _ _ _ hb
theorem size91 (f : Tb) : (Tryd.prog.info? 91).map (·.size) = some (encT f).length := by rw [encT_length]; kernel_rfl
theorem size91a (f : Tb) : (Tryd.prog.info? 91).map (·.size) = some (encT f).toArray.size := by rw [List.size_toArray, encT_length]; kernel_rfl
theorem At.there {w : World} {b : Nat} {f : Tb} (h : At w b f) (g : Tb) : w.there b 0 (encT g).toArray.size := by rw [List.size_toArray, encT_length]; exact h.2

def eqT (f g : Tb) : Bool := (List.range 17).all fun i => (List.range 17).all fun k => decide (f i k = g i k)
theorem eqT_iff {f g : Tb} : eqT f g = true ↔ ∀ i k, i < 17 → k < 17 → f i k = g i k := by
  simp only [eqT, List.all_eq_true, List.mem_range, decide_eq_true_eq]
  exact ⟨fun h i k hi hk => h i hi k hk, fun h i hi k hk => h i k hi hk⟩
def rowT (f : Tb) (i : Nat) : List Value := (List.range 17).map fun k => Value.int .i64 (f i k)
theorem encT_row (f : Tb) (i : Nat) (h : i < 17) : ((encT f).toArray).extract (i * 17) (i * 17 + 17) = (rowT f i).toArray := by
  apply Array.ext_getElem?
  intro k
  rw [Array.getElem?_extract]
  have hs : (encT f).toArray.size = 289 := by rw [List.size_toArray, encT_length]
  by_cases hk : k < 17
  · rw [if_pos (by omega), List.getElem?_toArray, encT_ik f i k h hk]
    simp [rowT, hk]
  · rw [if_neg (by omega), List.getElem?_toArray, List.getElem?_eq_none (by simp [rowT]; omega)]
theorem part_row (f : Tb) (i : Nat) (h : i < 17) (w : World) : (part 89 (encT f).toArray (i * 17)).run Tryd.prog w = .ok (.agg (rowT f i).toArray) w := by
  have h1 : ∀ w, (isAgg 89).run Tryd.prog w = .ok true w := fun w => by simp [go_sem]
  have h2 : ∀ w, (sizeOf 89).run Tryd.prog w = .ok 17 w := fun w => by simp [go_sem]
  simp only [part, Sem.run_bind, h1, h2, Result.andThen_ok, if_true, Sem.run_pure, encT_row f i h]
theorem part_cell (f : Tb) (i k : Nat) (hk : k < 17) (w : World) : (part 3 (rowT f i).toArray (k * 1)).run Tryd.prog w = .ok (.int .i64 (f i k)) w := by
  have h1 : ∀ w, (isAgg 3).run Tryd.prog w = .ok false w := fun w => by simp [go_sem]
  simp only [part, Sem.run_bind, h1, Result.andThen_ok]
  have : (rowT f i)[k]? = some (.int .i64 (f i k)) := by simp [rowT, hk]
  simp [this]
theorem eq_cell (d : Nat) (a b : Int) (w : World) : (Op.equalIn (d + 1) 3 (.int .i64 a) (.int .i64 b)).run Tryd.prog w = .ok (decide (a = b)) w := by
  simp [go_sem]
  by_cases h : a = b <;> simp [h]
theorem eqItems_row (d : Nat) (f g : Tb) (i : Nat) (w : World) : ∀ l : List Nat, (∀ k ∈ l, k < 17) →
    (Op.eqItems (d + 1) 3 1 (rowT f i).toArray (rowT g i).toArray l).run Tryd.prog w = .ok (l.all fun k => decide (f i k = g i k)) w
  | [], _ => by simp [Op.eqItems]
  | k :: l, h => by
    have hk := h k (by simp)
    have ih := eqItems_row d f g i w l fun j hj => h j (by simp [hj])
    simp only [Op.eqItems, Sem.run_bind, part_cell f i k hk, part_cell g i k hk, eq_cell, Result.andThen_ok, List.all_cons]
    cases hb : decide (f i k = g i k)
    · simp
    · simpa using ih
theorem has_info (t : TypeId) (h : (Tryd.prog.info? t).isSome = true) : ∃ i, Tryd.prog.info? t = some i := by
  cases h2 : Tryd.prog.info? t with
  | some i => exact ⟨i, rfl⟩
  | none => rw [h2] at h; cases h
theorem eq_row (d : Nat) (f g : Tb) (i : Nat) (w : World) : (Op.equalIn (d + 2) 89 (.agg (rowT f i).toArray) (.agg (rowT g i).toArray)).run Tryd.prog w = .ok ((List.range 17).all fun k => decide (f i k = g i k)) w := by
  obtain ⟨j, hj⟩ := has_info 3 (by kernel_rfl)
  have hc : Tryd.prog.cellsOf 3 = 1 := by kernel_rfl
  rw [run_equalIn_array w (d + 1) _ _ Tryd.underlying89 hj, hc, eqItems_row d f g i w _ (fun k hk => by simpa using hk)]
theorem eqItems_tab (d : Nat) (f g : Tb) (w : World) : ∀ l : List Nat, (∀ k ∈ l, k < 17) →
    (Op.eqItems (d + 2) 89 17 (encT f).toArray (encT g).toArray l).run Tryd.prog w = .ok (l.all fun i => (List.range 17).all fun k => decide (f i k = g i k)) w
  | [], _ => by simp [Op.eqItems]
  | k :: l, h => by
    have hk := h k (by simp)
    have ih := eqItems_tab d f g w l fun j hj => h j (by simp [hj])
    simp only [Op.eqItems, Sem.run_bind, part_row f k hk, part_row g k hk, eq_row, Result.andThen_ok, List.all_cons]
    cases hb : ((List.range 17).all fun j => decide (f k j = g k j))
    · simp
    · simpa using ih
theorem eq_At (f g : Tb) (w : World) : (Op.equalIn 10000 91 (.agg (encT f).toArray) (.agg (encT g).toArray)).run Tryd.prog w = .ok (eqT f g) w := by
  obtain ⟨j, hj⟩ := has_info 89 (by kernel_rfl)
  have hc : Tryd.prog.cellsOf 89 = 17 := by kernel_rfl
  rw [run_equalIn_array w 9999 _ _ Tryd.underlying91 hj, hc, eqItems_tab 9997 f g w _ (fun k hk => by simpa using hk)]
  rfl
theorem storeCells_At {w : World} {b : Nat} {f : Tb} (h : At w b f) (g : Tb) : (storeCells ⟨b, 0, none⟩ (encT g)).run Tryd.prog w = .ok () (w.setCells b 0 (encT g)) := by
  have := run_storeCells_cells (P := Tryd.prog) b 0 (encT g) 0 w (fun j hj => by simpa using (h.2 j (by rw [encT_length] at hj; exact hj)).1) (fun j hj => by simpa using (h.2 j (by rw [encT_length] at hj; exact hj)).2) (encT_one g)
  simpa using this
end Go.Proofs.YtohbeninpmmmpaaDoor
end

section
/- Short words for the printed walks (wip/tools/press.py writes texts that use them): facts on worlds that are carried along, and steps of a drawn region whose closing lines are always the same. -/
set_option linter.unusedVariables false
namespace Go.Proofs.TrydX.X
open Go.RowKit Go.Proofs.YtohbeninpmmmpaaDoorW.PrintWords Go.Proofs.YtohbeninpmmmpaaDoorW.PrintLast Go.Proofs.YtohbeninpmmmpaaDoorW.PrintMore

theorem bk {w0 w : World} {g : Nat} {o : Obj} (B : Aside0 (w0.heap[g]? = some o))
    (h : w.heap[g]? = some o := by with_reducible repeat (first | exact Aside0.out (by assumption) | refine blk_drewN ?_ _ | refine blk_drew ?_ | refine blk_alloc ?_ _ | refine blk_far ?_ (Aside0.out (by assumption)) _)) : w.heap[g]? = some o := h
theorem bl {w W0 W : World} (B : Aside0 (Below w.heap.size w W0))
    (h : Below w.heap.size w W := by with_reducible repeat (first | exact Aside0.out (by assumption) | apply below_alloc | apply pw_below_drewN | apply below_drew1 | refine below_set ?_ (Aside0.out (by assumption)))) : Below w.heap.size w W := h
theorem rk {α : Type} {d : Kd α} {e base : Nat} {w0 w : World} {ok : Nat → Prop} {v : Value} {xs : List α} (B : Aside0 (d.R e w0 base ok v xs))
    (h : d.R e w base ok v xs := by with_reducible repeat (first | exact Aside0.out (by assumption) | apply Kd.R_alloc | apply Kd.R_drewN | apply Kd.R_drew)) : d.R e w base ok v xs := h
theorem ngt {w : World} {g g' : Nat} {o : Obj} (hg : g' = w.heap.size) (h : w.heap[g]? = some o) : Aside0 (g' ≠ g) := ⟨by rw [hg]; exact Nat.ne_of_gt (blk_lt h)⟩
theorem nlt {w : World} {g g' : Nat} {o : Obj} (hg : g' = w.heap.size) (h : w.heap[g]? = some o) : Aside0 (g ≠ g') := ⟨by rw [hg]; exact Nat.ne_of_lt (blk_lt h)⟩
theorem geB {w w1 : World} {g : Nat} (hg : g = w1.heap.size) (h : Below w.heap.size w w1) : Aside0 (w.heap.size ≤ g) := ⟨by rw [hg]; exact below_size h⟩
theorem bc {w : World} {g : Nat} {t : TypeId} {cs : Array Value} (B : Aside0 (w.heap[g]? = some (.cells cs t (0, 0)))) (i : Nat) {v : Value} (h : cs[i]? = some v := by rfl) : w.cell? ⟨g, i, none⟩ = some v := (blk_cell B.out i).trans h
section
variable {P : Program} {md : Region.Mode} {ops : Array Oper} {Q : Exit → Act → World → Prop} {S : World → Prop} {ds : List Nat}
theorem pureA (i N : Nat) {oi : Oper} {v : Value} {fuel : Nat} {l l' : Array Bool} {a a' : Act} {w : World}
    (h : wpAnyLast P md ops Q S ds fuel l' a' w) (hi : ops[i]? = some oi := by rfl) (hN : oi.dst = some N := by rfl)
    (hl : l.setIfInBounds i true = l' := by simp only [List.setIfInBounds_toArray, List.set_cons_zero, List.set_cons_succ] <;> rfl)
    (hc : anyB md ops l l' i = true := by exact any_of HT_.out (by kernel_rfl)) (hQ : ∀ c a w, Q (.panic c) (a.put oi.dst v) w → Q (.panic c) a w := by exact fun _ _ _ h => h)
    (hy : Yields P ops oi v a := by refine Or.inl ⟨by rfl, ?_⟩; intro w'; go_simp; with_reducible rfl)
    (ha : a.put (some N) v = a' := by simp only [Act.put, List.setIfInBounds_toArray, List.set_cons_zero, List.set_cons_succ, i64_w, i32_w] <;> rfl) :
    wpAnyLast P md ops Q S ds (fuel + 1) l a w := pure_ l' hi hN hc hQ hy ha h
theorem takeA (i N : Nat) {oi : Oper} {v : Value} {fuel : Nat} {l l' : Array Bool} {a a' : Act} {w : World}
    (hi : ops[i]? = some oi) (hN : oi.dst = some N) (hx : ∀ w, S w → (execOp a.eval oi).run P w = .ok (.value v) w) (h : wpAnyLast P md ops Q S ds fuel l' a' w)
    (hl : l.setIfInBounds i true = l' := by simp only [List.setIfInBounds_toArray, List.set_cons_zero, List.set_cons_succ] <;> rfl)
    (hc : takeB md ops ds l l' i = true := by exact take_ofW HT_.out HW_.out (by kernel_rfl)) (hQ : ∀ c a w, Q (.panic c) (a.put oi.dst v) w → Q (.panic c) a w := by exact fun _ _ _ h => h)
    (hw : Region.wanted oi (yielded ops a.tmps) = true := by rfl) (hS : S w := by exact hHeld)
    (ha : a.put (some N) v = a' := by simp only [Act.put, List.setIfInBounds_toArray, List.set_cons_zero, List.set_cons_succ, i64_w, i32_w] <;> rfl) :
    wpAnyLast P md ops Q S ds (fuel + 1) l a w := take_ l' hi hN hc hQ (Or.inl ⟨hw, hx⟩) hS ha h
end
section
variable {P : Program} {md : Region.Mode} {ops : Array Oper} {Q : Exit → Act → World → Prop} {S : World → Prop} {ds : List Nat}
theorem oneA (i : Nat) (N : Option Tmp) {oi : Oper} {fuel : Nat} {l l' : Array Bool} {a : Act} {w : World}
    (h : ∀ K : Act → World → Prop, Shut (∀ a' w', S w' → (S w' → wpAnyLast P md ops Q S ds fuel l' a' w') → K a' w') → if Region.wanted oi (yielded ops a.tmps) = true then Oper.wp P oi a w K Q else K (a.put N undef) w)
    (hi : ops[i]? = some oi := by rfl) (hN : oi.dst = N := by rfl)
    (hl : l.setIfInBounds i true = l' := by simp only [List.setIfInBounds_toArray, List.set_cons_zero, List.set_cons_succ] <;> rfl)
    (hc : readyB md ops l l' i = true := by exact one_of HT_.out (by kernel_rfl)) (hd : i ∉ ds := by decide) :
    wpAnyLast P md ops Q S ds (fuel + 1) l a w := one_ l' hi hN hc hd h
theorem lastA (i : Nat) (N : Option Tmp) {oi : Oper} {fuel : Nat} {l l' : Array Bool} {a : Act} {w : World}
    (h : ∀ K : Act → World → Prop, Shut (∀ a' w', wpAnyLast P md ops Q S ds fuel l' a' w' → K a' w') → if Region.wanted oi (yielded ops a.tmps) = true then Oper.wp P oi a w K Q else K (a.put N undef) w)
    (hi : ops[i]? = some oi := by rfl) (hN : oi.dst = N := by rfl)
    (hl : l.setIfInBounds i true = l' := by simp only [List.setIfInBounds_toArray, List.set_cons_zero, List.set_cons_succ] <;> rfl)
    (hc : readyB md ops l l' i = true := by exact one_of HT_.out (by kernel_rfl)) (hd : i ∈ ds := by decide) :
    wpAnyLast P md ops Q S ds (fuel + 1) l a w := last_ l' hi hN hc hd h
theorem normA (N : Nat) {fuel : Nat} {l : Array Bool} {a a' : Act} {w : World} (h : wpAnyLast P md ops Q S ds fuel l a' w)
    (ha : a = a' := by show Act.put _ (some _) _ = _; simp only [Act.put, List.setIfInBounds_toArray, List.set_cons_zero, List.set_cons_succ, i64_w, i32_w] <;> rfl) :
    wpAnyLast P md ops Q S ds fuel l a w := norm_ ha h
end
end Go.Proofs.TrydX.X
end

section
/- What follows from what is known: solved. -/
set_option linter.unusedSimpArgs false
set_option linter.unusedVariables false
namespace Go.Proofs.YtohbeninpmmmpaaDoor
open Go.RowKit Go.Proofs.YtohbeninpmmmpaaDoorW.PrintWords Go.Proofs.YtohbeninpmmmpaaDoorW.PrintLast TrydX.X

/-- The table of what is known. -/
def tab0 (es : List ((Int × Int) × Int)) : Tb := fun i k => if i < 17 ∧ k < 17 then if i = k then 0 else (pmLook es i k).getD far else 0
/-- .. filled so far. -/
def fillT (es : List ((Int × Int) × Int)) (i k : Nat) : Tb := fun a b => if a < i ∨ (a = i ∧ b < k) then tab0 es a b else 0
theorem fill_row (es : List ((Int × Int) × Int)) (i : Nat) : ∀ a b, a < 17 → b < 17 → fillT es i 17 a b = fillT es (i + 1) 0 a b := by
  intro a b ha hb
  unfold fillT
  by_cases h : a < i ∨ (a = i ∧ b < 17)
  · rw [if_pos h, if_pos (by omega)]
  · rw [if_neg h, if_neg (by omega)]
theorem fill_step (es : List ((Int × Int) × Int)) (i k : Nat) (x : Int) (hx : x = tab0 es i k) : setT (fillT es i k) i k x = fillT es i (k + 1) := by
  funext a b
  unfold setT fillT
  by_cases h : a = i ∧ b = k
  · rw [if_pos h, if_pos (by omega), hx, h.1, h.2]
  · rw [if_neg h]
    by_cases h2 : a < i ∨ (a = i ∧ b < k)
    · rw [if_pos h2, if_pos (by omega)]
    · rw [if_neg h2, if_neg (by omega)]
theorem setT_twice (t : Tb) (i k : Nat) (x y : Int) : setT (setT t i k x) i k y = setT t i k y := by
  funext a b; unfold setT; split <;> rfl
theorem PMap.belowN {n : Nat} {w W : World} {b : Nat} {es : List ((Int × Int) × Int)} (h : PMap w b es) (hn : b < n) (hb : Below n w W) : PMap W b es := by
  obtain ⟨arr, clk, h1, h2⟩ := h
  exact ⟨arr, clk, (hb.block b hn).trans h1, h2⟩
/-- The world in which solved's loops begin. -/
noncomputable def solvW (N b0 b1 r0 r1 : Int) (v5 v6 v7 : Value) (m : Nat) (w : World) : World :=
  ((w.alloc (.cells #[.int .i64 N, .int .i64 b0, .int .i64 b1, .int .i64 r0, .int .i64 r1, v5, v6, v7, .map (some m)] 80)).alloc (.cells Tryd.zeroCells91 91)).alloc (.cells Tryd.zeroCells91 91)
structure SolvW (m : Nat) (w W : World) : Prop where
  bel : Below w.heap.size w W
  size : W.heap.size = w.heap.size + 3
  map : W.cell? ⟨w.heap.size, 8, none⟩ = some (.map (some m))
  res : At W (w.heap.size + 1) zeroT
  tab : At W (w.heap.size + 1 + 1) zeroT
theorem solvW_is (N b0 b1 r0 r1 : Int) (v5 v6 v7 : Value) (m : Nat) (w : World) : SolvW m w (solvW N b0 b1 r0 r1 v5 v6 v7 m w) := by
  unfold solvW
  refine ⟨?_, by simp, by simp [go_sem], ?_, ?_⟩
  · repeat with_reducible (first | exact Below.refl _ _ | refine Below.alloc ?_ (by simp <;> omega) _)
  · have h := At.new (w.alloc (.cells #[.int .i64 N, .int .i64 b0, .int .i64 b1, .int .i64 r0, .int .i64 r1, v5, v6, v7, .map (some m)] 80))
    rw [World.size_alloc] at h
    exact h.below ((Below.refl _ _).alloc (Nat.le_refl _) _)
  · have h := At.new ((w.alloc (.cells #[.int .i64 N, .int .i64 b0, .int .i64 b1, .int .i64 r0, .int .i64 r1, v5, v6, v7, .map (some m)] 80)).alloc (.cells Tryd.zeroCells91 91))
    rw [World.size_alloc, World.size_alloc] at h
    exact h
theorem At.alloc {w : World} {b : Nat} {f : Tb} (h : At w b f) (o : Obj) : At (w.alloc o) b f := h.below ((Below.refl _ _).alloc (Nat.le_refl _) o)
theorem i64_small {x : Int} (h : -9000000000000000000 ≤ x ∧ x ≤ 9000000000000000000) : IntKind.i64.wrap x = x := IntWalk.i64_in _ (by constructor <;> omega)

/-! ### Nothing overflows. -/
theorem kTo_anti (t : Tb) (y i a b : Nat) (d : Nat) : ∀ k, kTo t y i (k + d) a b ≤ kTo t y i k a b := by
  induction d with
  | zero => intro k; exact Int.le_refl _
  | succ d ih => intro k; exact Int.le_trans (kStep_le _ _ _ _ _ _) (ih k)
theorem iTo_anti (t : Tb) (y a b : Nat) (d : Nat) : ∀ i, iTo t y (i + d) a b ≤ iTo t y i a b := by
  induction d with
  | zero => intro i; exact Int.le_refl _
  | succ d ih => intro i; exact Int.le_trans (iStep_le _ _ _ _ _) (ih i)
theorem sum_ok {t f : Tb} (hbd : ∀ a b, -100000 ≤ t a b ∧ t a b ≤ far) (htw : noNeg (passF t) = true → passF (passF t) = passF t) (hst : f = t ∨ (f = passF t ∧ noNeg (passF t) = true)) {y i k : Nat} (hy : y < 17) (hi : i < 17) (hk : k < 17) (hf : ¬ far ≤ iTo (yTo f y) y i i y) :
    -9000000000000000000 ≤ kTo (iTo (yTo f y) y i) y i k i y + kTo (iTo (yTo f y) y i) y i k y k ∧ kTo (iTo (yTo f y) y i) y i k i y + kTo (iTo (yTo f y) y i) y i k y k ≤ 9000000000000000000 := by
  have hup : ∀ a b, kTo (iTo (yTo f y) y i) y i k a b ≤ f a b := fun a b => Int.le_trans (kTo_le _ _ _ _ _ _) (Int.le_trans (iTo_le _ _ _ _ _) (yTo_le _ _ _ _))
  have hff : ∀ a b, f a b ≤ far := by
    intro a b
    rcases hst with e | ⟨e, _⟩
    · rw [e]; exact (hbd a b).2
    · rw [e]; exact Int.le_trans (passF_le _ _ _) (hbd a b).2
  have u1 := Int.le_trans (hup i y) (hff i y)
  have u2 := Int.le_trans (hup y k) (hff y k)
  clear hff hup
  rcases hst with e | ⟨e, hn⟩
  · rw [e] at u1 u2 ⊢
    have h1 := (((IB.start (mB_pos y) (yTo_low (fun a b => (hbd a b).1) y) y).to (mB_pos y) i).k0 (mB_pos y)).row (mB_pos y) k
    have h2 := h1.sum
    have h3 := mB_le (y + 1) (by omega)
    simp only [mB] at h3
    unfold far at u1 u2
    omega
  · rw [e] at u1 u2 hf ⊢
    have hlo : ∀ a b, passF t a b ≤ kTo (iTo (yTo (passF t) y) y i) y i k a b := by
      intro a b
      have e1 := kTo_anti (iTo (yTo (passF t) y) y i) y i a b (17 - k) k
      rw [show k + (17 - k) = 17 by omega] at e1
      have e2 : iTo (yTo (passF t) y) y (i + 1) = kTo (iTo (yTo (passF t) y) y i) y i 17 := by rw [iTo, iStep, if_neg hf]
      have e3 := iTo_anti (yTo (passF t) y) y a b (17 - (i + 1)) (i + 1)
      rw [show i + 1 + (17 - (i + 1)) = 17 by omega, e2] at e3
      have e4 := yTo_anti (passF t) a b (17 - (y + 1)) (y + 1)
      rw [show y + 1 + (17 - (y + 1)) = 17 by omega] at e4
      have e5 : yTo (passF t) 17 = passF t := htw hn
      rw [e5] at e4
      exact Int.le_trans e4 (Int.le_trans e3 e1)
    have l1 := hlo i y
    have l2 := hlo y k
    have m1 := yTo_low (fun a b => (hbd a b).1) 17 i y
    have m2 := yTo_low (fun a b => (hbd a b).1) 17 y k
    have h3 := mB_le 17 (by omega)
    unfold passF at *
    unfold far at u1 u2
    omega
theorem noNeg_neg {f : Tb} {m : Nat} (hm : m < 17) (h : f m m < 0) : noNeg f = false := by
  rw [← Bool.not_eq_true, noNeg_iff]
  intro h2
  have := h2 m hm
  omega
theorem loadVar_At {w : World} {b : Nat} {f : Tb} (h : At w b f) : (loadVar 91 ⟨b, 0, none⟩).run Tryd.prog w = .ok (.agg (encT f).toArray) w :=
  run_loadVar_mid w b 0 91 (encT f) _ h.1 Tryd.underlying91 rfl (by rw [encT_length]; kernel_rfl)
def solved28T : Bool × List (List Nat × List Nat) := (true, [([], []), ([], []), ([], []), ([], []), ([2], [2]), ([4, 3], [3, 4]), ([5], [5]), ([], []), ([], []), ([7], [7]), ([9, 8], [8, 9]), ([10], [10]), ([], []), ([], []), ([12], [12]), ([14, 13], [13, 14]), ([15], [15]), ([11, 16], [11, 16]), ([17], [17]), ([6, 18], [6, 18]), ([0], [0]), ([20, 1, 0, 1, 2, 3, 4, 5, 6, 7, 8, 9, 10, 11, 12, 13, 14, 15, 16, 17, 18, 19], [1, 20]), ([21, 19, 19, 0, 1, 2, 3, 4, 5, 6, 7, 8, 9, 10, 11, 12, 13, 14, 15, 16, 17, 18, 19], [19, 21])])
def solved28B : List Nat := [0, 0, 0, 0, 4, 28, 60, 0, 0, 128, 896, 1920, 0, 0, 4096, 28672, 61440, 130944, 262016, 524284, 1, 2097151, 4194303]
theorem solved28_tab : rtab .any (opsOf Tryd.f75 28) = solved28T := by kernel_rfl
theorem solved28_bits : waitsOk solved28T.2 solved28B = true := by kernel_rfl

set_option maxRecDepth 100000 in
set_option maxHeartbeats 16000000 in
theorem solved_any (N b0 b1 r0 r1 : Int) (v5 v6 v7 : Value) (m : Nat) (es : List ((Int × Int) × Int)) (hbd : ∀ a b, -100000 ≤ tab0 es a b ∧ tab0 es a b ≤ far)
    (htw : noNeg (passF (tab0 es)) = true → passF (passF (tab0 es)) = passF (tab0 es)) (w : World) (hM : PMap w m es) :
    Calls Tryd.prog 75 #[bookV N b0 b1 r0 r1 v5 v6 v7 m] w fun e w' => (∃ t' : Tb, e = .returned (.tuple #[.agg (encT t').toArray, .bool (noNeg (passF (tab0 es)))]) ∧ (noNeg (passF (tab0 es)) = true → t' = passF (tab0 es))) ∧ Below w.heap.size w w' := by
  have hml := hM.lt
  have HBD := Lib.hid hbd
  have HTW := Lib.hid htw
  clear hbd htw
  go_enter Tryd.func75, Tryd.ntmps75
  go_wp2_with fail
  change Code.wp Tryd.prog _ _ _ (solvW N b0 b1 r0 r1 v5 v6 v7 m w)
  have hW := solvW_is N b0 b1 r0 r1 v5 v6 v7 m w
  generalize solvW N b0 b1 r0 r1 v5 v6 v7 m w = W0 at hW ⊢
  have HM0 := Lib.hid (hM.below hW.bel)
  have hsz := hW.size
  have HW := Lib.hid hW
  have HA0 := Lib.hid hW.tab
  clear hW hM
  go_loopw [15] (fun i wr => ∃ k : Nat, k ≤ 17 ∧ i = .int .i64 k ∧ At wr (w.heap.size + 1 + 1) (fillT es k 0) ∧ Below (w.heap.size + 2) W0 wr) (fun i _ => 17 - (intOf i).toNat)
  case atStart => exact ⟨0, Nat.zero_le _, rfl, HA0.out.congr (fun i k _ _ => by simp [fillT, zeroT]), Below.refl _ _⟩
  case round =>
    obtain ⟨i, hi, rfl, hat, hB⟩ := hrel
    by_cases hlt : i < 17
    · have HAT := Lib.hid hat
      have hi0 : (0 : Int) ≤ (i : Int) := by omega
      have hi1 : (i : Int) < 17 := by omega
      have HB := Lib.hid hB
      clear hat hB
      go_wp2_with fail
      go_loopw [18] (fun v wx => ∃ k : Nat, k ≤ 17 ∧ v = .int .i64 k ∧ At wx (w.heap.size + 1 + 1) (fillT es i k) ∧ Below (w.heap.size + 2) W0 wx) (fun v _ => 17 - (intOf v).toNat)
      case atStart => exact ⟨0, Nat.zero_le _, rfl, HAT.out, HB.out⟩
      case round =>
        obtain ⟨k, hk, rfl, hat, hB⟩ := hrel
        by_cases hlk : k < 17
        · have hc1 := hat.cell i k hlt hlk
          have hf1 := hat.free (i * 17 + k) (by omega)
          have hsz2 := hB.size
          have hc8 := (hB.cell (p := ⟨w.heap.size, 8, none⟩) (by show w.heap.size < w.heap.size + 2; omega)).trans HW.out.map
          have HPM := Lib.hid (HM0.out.belowN (n := w.heap.size + 2) (by omega) hB)
          have HAT2 := Lib.hid hat
          have HB2 := Lib.hid hB
          have hx0 : w.heap.size < wr.heap.size := by omega
          have hx2 : w.heap.size + 1 + 1 < wr.heap.size := by omega
          have hk0 : (0 : Int) ≤ (k : Int) := by omega
          have hk1 : (k : Int) < 17 := by omega
          have hmt : m ≠ w.heap.size + 1 + 1 := by omega
          clear hat hB
          have hmea : 17 - (k + 1) < 17 - k := by omega
          by_cases hik : i = k
          · subst hik
            have h0 := Lib.hid (show (0 : Int) = tab0 es i i by unfold tab0; rw [if_pos ⟨hlt, hlt⟩, if_pos rfl])
            cases hl : pmLook es i i with
            | none =>
              go_wp2_with (refine wpList_lookup rfl rfl rfl rfl (by with_reducible repeat (first | exact HPM.out | refine PMap.alloc ?_ _ | refine PMap.set ?_ hmt _)) hl ?_)
              go_roundw
              case rel => exact ⟨i + 1, by omega, by go_num, by rw [← fill_step es i i 0 h0.out, ← setT_twice _ i i 1099511627776 0]; exact ((HAT2.out.set i i hlt hlk 1099511627776).set i i hlt hlk 0).alloc _, by repeat with_reducible (first | exact HB2.out | refine Below.setCell ?_ (by first | omega | (simp <;> omega)) _ | refine Below.alloc ?_ (by first | omega | (simp <;> omega)) _)⟩
              case measure => simp [intOf]; omega
            | some n =>
              go_wp2_with (refine wpList_lookup rfl rfl rfl rfl (by with_reducible repeat (first | exact HPM.out | refine PMap.alloc ?_ _ | refine PMap.set ?_ hmt _)) hl ?_)
              go_roundw
              case rel => exact ⟨i + 1, by omega, by go_num, by rw [← fill_step es i i 0 h0.out, ← setT_twice _ i i 1099511627776 0]; exact ((HAT2.out.set i i hlt hlk 1099511627776).set i i hlt hlk 0).alloc _, by repeat with_reducible (first | exact HB2.out | refine Below.setCell ?_ (by first | omega | (simp <;> omega)) _ | refine Below.alloc ?_ (by first | omega | (simp <;> omega)) _)⟩
              case measure => simp [intOf]; omega
          · cases hl : pmLook es i k with
            | none =>
              have h0 := Lib.hid (show (1099511627776 : Int) = tab0 es i k by unfold tab0; rw [if_pos ⟨hlt, hlk⟩, if_neg hik, hl]; rfl)
              go_wp2_with (refine wpList_lookup rfl rfl rfl rfl (by with_reducible repeat (first | exact HPM.out | refine PMap.alloc ?_ _ | refine PMap.set ?_ hmt _)) hl ?_)
              go_roundw
              case rel => exact ⟨k + 1, by omega, by go_num, by rw [← fill_step es i k _ h0.out]; exact (HAT2.out.set i k hlt hlk _).alloc _, by repeat with_reducible (first | exact HB2.out | refine Below.setCell ?_ (by first | omega | (simp <;> omega)) _ | refine Below.alloc ?_ (by first | omega | (simp <;> omega)) _)⟩
              case measure => simp [intOf]; omega
            | some n =>
              have h0 := Lib.hid (show n = tab0 es i k by unfold tab0; rw [if_pos ⟨hlt, hlk⟩, if_neg hik, hl]; rfl)
              go_wp2_with (refine wpList_lookup rfl rfl rfl rfl (by with_reducible repeat (first | exact HPM.out | refine PMap.alloc ?_ _ | refine PMap.set ?_ hmt _)) hl ?_)
              go_roundw
              case rel => exact ⟨k + 1, by omega, by go_num, by rw [← fill_step es i k _ h0.out, ← setT_twice _ i k 1099511627776 n]; first | exact ((HAT2.out.set i k hlt hlk 1099511627776).alloc _).set i k hlt hlk n | exact ((HAT2.out.set i k hlt hlk 1099511627776).set i k hlt hlk n).alloc _, by repeat with_reducible (first | exact HB2.out | refine Below.setCell ?_ (by first | omega | (simp <;> omega)) _ | refine Below.alloc ?_ (by first | omega | (simp <;> omega)) _)⟩
              case measure => simp [intOf]; omega
        · obtain rfl : k = 17 := by omega
          have HAT2 := Lib.hid (hat.congr (fill_row es i))
          have HB2 := Lib.hid hB
          clear hat hB
          go_wp2_with fail
          go_roundw
          case rel => exact ⟨i + 1, by omega, by go_num, HAT2.out, HB2.out⟩
          case measure => simp [intOf]; omega
    · obtain rfl : i = 17 := by omega
      have HAT := Lib.hid (hat.congr (g := tab0 es) (fun a b ha hb => by unfold fillT; rw [if_pos (by omega)]))
      have HB := Lib.hid hB
      clear hat hB
      go_wp2_with fail
      obtain ⟨R, hR⟩ : ∃ R, R = passF (tab0 es) := ⟨_, rfl⟩
      have HR := Lib.hid hR
      go_loopg [] 2 (fun r wx => ∃ f : Tb, At wx (w.heap.size + 1 + 1) f ∧ Below (w.heap.size + 2) W0 wx ∧ ((r = 2 ∧ f = tab0 es) ∨ (r = 1 ∧ f = passF (tab0 es) ∧ noNeg (passF (tab0 es)) = true)))
      case atStart => exact ⟨_, HAT.out, HB.out, .inl ⟨rfl, rfl⟩⟩
      case round =>
        obtain ⟨f, hAt, hBx, hst⟩ := hrel
        have hzx := hBx.size
        have HAT1 := Lib.hid hAt
        have hnew := At.new wr
        have HNEW := Lib.hid hnew
        have hbn : Below wr.heap.size wr ((wr.alloc (.cells Tryd.zeroCells91 91)).setCells wr.heap.size 0 (encT f).toArray.toList) := below_setCells _ _ _ ((Below.refl _ _).alloc (Nat.le_refl _) _) (Nat.le_refl _)
        have HN1 : Hid (At ((wr.alloc (.cells Tryd.zeroCells91 91)).setCells wr.heap.size 0 (encT f).toArray.toList) wr.heap.size f) := Lib.hid (hnew.store f)
        have HB1 : Hid (Below (w.heap.size + 2) W0 ((wr.alloc (.cells Tryd.zeroCells91 91)).setCells wr.heap.size 0 (encT f).toArray.toList)) := Lib.hid (hBx.trans (hbn.mono (by omega)))
        have HA1 := Lib.hid (hAt.below hbn)
        have HS := Lib.hid hst
        have hS5 : ((wr.alloc (.cells Tryd.zeroCells91 91)).setCells wr.heap.size 0 (encT f).toArray.toList).heap.size = wr.heap.size + 1 := by rw [size_setCells]; simp
        have HZ1 := Lib.hid hS5
        obtain ⟨bb, hbb⟩ : ∃ bb, bb = wr.heap.size := ⟨_, rfl⟩
        have hbne : bb ≠ w.heap.size + 1 + 1 := by omega
        clear hAt hnew hbn hst hBx hS5
        go_wp2_with (first | (refine wpList_load_mid rfl 91 _ rfl (w.heap.size + 1 + 1) 0 rfl (encT f) _ HAT1.out.1 Tryd.underlying91 rfl (size91 f) ?_) | (refine wpList_store_mid rfl 91 _ _ rfl wr.heap.size 0 (encT f).toArray rfl rfl (HNEW.out.there f) (size91a f) (all_oneCell_toArray (encT_one f)) ?_; generalize (wr.alloc (.cells Tryd.zeroCells91 91)).setCells wr.heap.size 0 (encT f).toArray.toList = W5 at *))
        clear HNEW HAT1
        go_loopw [58] (fun v wx => ∃ y : Nat, y ≤ 17 ∧ v = .int .i64 y ∧ At wx (w.heap.size + 1 + 1) (yTo f y) ∧ At wx bb f ∧ Below (w.heap.size + 2) W0 wx) (fun v _ => 17 - (intOf v).toNat)
        case atStart => exact ⟨0, Nat.zero_le _, rfl, HA1.out, by rw [hbb]; exact HN1.out, HB1.out⟩
        case round =>
          obtain ⟨y, hy, rfl, hAy, hA9, hBy⟩ := hrel
          by_cases hly : y < 17
          · have HAY := Lib.hid hAy
            have HA9 := Lib.hid hA9
            have HBY := Lib.hid hBy
            have hy0 : (0 : Int) ≤ (y : Int) := by omega
            have hy1 : (y : Int) < 17 := by omega
            clear hAy hA9 hBy
            go_wp2_with fail
            go_step3
            go_wp2_with fail
            go_step3
            go_wp2_with fail
            go_loopw [61] (fun v wx => ∃ i : Nat, i ≤ 17 ∧ v = .int .i64 i ∧ At wx (w.heap.size + 1 + 1) (iTo (yTo f y) y i) ∧ At wx bb f ∧ Below (w.heap.size + 2) W0 wx) (fun v _ => 17 - (intOf v).toNat)
            case atStart => exact ⟨0, Nat.zero_le _, rfl, HAY.out, HA9.out, HBY.out⟩
            case round =>
              obtain ⟨i, hi, rfl, hAi, hA9, hBi⟩ := hrel
              by_cases hli : i < 17
              · have hc1 := hAi.cell i y hli hly
                obtain ⟨g, hg⟩ : ∃ g, g = iTo (yTo f y) y i := ⟨_, rfl⟩
                rw [← hg] at hAi hc1
                have hnext : iTo (yTo f y) y (i + 1) = iStep g y i := by rw [hg]; rfl
                obtain ⟨x, hx⟩ : ∃ x, x = g i y := ⟨_, rfl⟩
                rw [← hx] at hc1
                have HAI := Lib.hid hAi
                have HA9 := Lib.hid hA9
                have HBI := Lib.hid hBi
                have HNE := Lib.hid hnext
                have HX := Lib.hid hx
                have HG := Lib.hid hg
                have hi0 : (0 : Int) ≤ (i : Int) := by omega
                have hi1 : (i : Int) < 17 := by omega
                clear hAi hA9 hBi hnext hx hg
                by_cases hfar : 1099511627776 ≤ x
                · go_wp2_with fail
                  go_roundw
                  case rel => exact ⟨i + 1, by omega, by go_num, by rw [HNE.out, iStep, if_pos (by rw [← HX.out]; exact hfar)]; exact HAI.out, HA9.out, HBI.out⟩
                  case measure => simp [intOf]; omega
                · have hsum : ∀ k, k < 17 → -9000000000000000000 ≤ kTo g y i k i y + kTo g y i k y k ∧ kTo g y i k i y + kTo g y i k y k ≤ 9000000000000000000 := by
                    intro k hk
                    have hst : f = tab0 es ∨ (f = passF (tab0 es) ∧ noNeg (passF (tab0 es)) = true) := by rcases HS.out with ⟨_, h⟩ | ⟨_, h, h2⟩; exact .inl h; exact .inr ⟨h, h2⟩
                    have := sum_ok HBD.out HTW.out hst hly hli hk (by rw [← HG.out, ← HX.out]; exact hfar)
                    rwa [← HG.out] at this
                  have HSUM := Lib.hid hsum
                  have HNE2 : Hid (iTo (yTo f y) y (i + 1) = kTo g y i 17) := Lib.hid (by rw [HNE.out, iStep, if_neg (by rw [← HX.out]; exact hfar)])
                  clear hsum
                  go_wp2_with fail
                  go_loopw [70] (fun v wx => ∃ k : Nat, k ≤ 17 ∧ v = .int .i64 k ∧ At wx (w.heap.size + 1 + 1) (kTo g y i k) ∧ At wx bb f ∧ Below (w.heap.size + 2) W0 wx) (fun v _ => 17 - (intOf v).toNat)
                  case atStart => exact ⟨0, Nat.zero_le _, rfl, HAI.out, HA9.out, HBI.out⟩
                  case round =>
                    obtain ⟨k, hk, rfl, hAk, hA9, hBk⟩ := hrel
                    by_cases hlk : k < 17
                    · obtain ⟨h, hh⟩ : ∃ h, h = kTo g y i k := ⟨_, rfl⟩
                      have hnx : kTo g y i (k + 1) = kStep h y i k := by rw [hh]; rfl
                      have hsm := HSUM.out k hlk
                      rw [← hh] at hAk hsm
                      have hcA := hAk.cell i k hli hlk
                      have hcB := hAk.cell i y hli hly
                      have hcC := hAk.cell y k hly hlk
                      have hfA := hAk.free (i * 17 + k) (by omega)
                      have hltb := hAk.lt
                      obtain ⟨z, hz⟩ : ∃ z, z = h i k := ⟨_, rfl⟩
                      obtain ⟨p, hp⟩ : ∃ p, p = h i y := ⟨_, rfl⟩
                      obtain ⟨q, hq⟩ : ∃ q, q = h y k := ⟨_, rfl⟩
                      rw [← hz] at hcA
                      rw [← hp] at hcB hsm
                      rw [← hq] at hcC hsm
                      have hwr : IntKind.i64.wrap (p + q) = p + q := i64_small hsm
                      have HNX := Lib.hid (show kTo g y i (k + 1) = setT h i k (min z (p + q)) by rw [hnx, kStep, hz, hp, hq])
                      have HAK := Lib.hid (hAk.below ((Below.refl _ _).drew) : At wr.drew (w.heap.size + 1 + 1) h)
                      have HA9K := Lib.hid (hA9.below ((Below.refl _ _).drew) : At wr.drew bb f)
                      have HBK := Lib.hid (hBk.drew : Below (w.heap.size + 2) W0 wr.drew)
                      have hszk := hBk.size
                      have hk0 : (0 : Int) ≤ (k : Int) := by omega
                      have hk1 : (k : Int) < 17 := by omega
                      have hzd : w.heap.size + 1 + 1 < wr.drew.heap.size := hltb
                      have hfD : wr.drew.frozen? ⟨w.heap.size + 1 + 1, i * 17 + k, none⟩ = false := hfA
                      clear hAk hA9 hBk hnx hz hp hq hh hsm hfA hltb
                      go_wp2_with fail
                      refine start_ (n := 23) (S := fun w' => w'.cell? ⟨w.heap.size + 1 + 1, i * 17 + k, none⟩ = some (.int .i64 z) ∧ w'.cell? ⟨w.heap.size + 1 + 1, i * 17 + y, none⟩ = some (.int .i64 p) ∧ w'.cell? ⟨w.heap.size + 1 + 1, y * 17 + k, none⟩ = some (.int .i64 q)) (ds := [22]) #[false, false, false, false, false, false, false, false, false, false, false, false, false, false, false, false, false, false, false, false, false, false, false] (by kernel_rfl) rfl rfl ⟨hcA, hcB, hcC⟩ (fun hHeld => ?_); refine with_tabW solved28_tab solved28_bits (fun HT_ HW_ => ?_)
                      clear hcA hcB hcC
                      generalize wr.drew = wd at HAK HA9K HBK hHeld hzd hfD ⊢
                      refine pureA 0 73 ?_
                      refine pureA 1 74 ?_
                      refine pureA 2 75 ?_
                      refine pureA 3 76 ?_
                      refine pureA 4 77 ?_
                      refine pureA 5 78 ?_
                      refine takeA 6 79 rfl rfl (by rintro w' ⟨s0, s1, s2⟩; go_simp; with_reducible rfl) ?_
                      refine pureA 7 80 ?_
                      refine pureA 8 81 ?_
                      refine pureA 9 82 ?_
                      refine pureA 10 83 ?_
                      refine takeA 11 84 rfl rfl (by rintro w' ⟨s0, s1, s2⟩; go_simp; with_reducible rfl) ?_
                      refine pureA 12 85 ?_
                      refine pureA 13 86 ?_
                      refine pureA 14 87 ?_
                      refine pureA 15 88 ?_
                      refine takeA 16 89 rfl rfl (by rintro w' ⟨s0, s1, s2⟩; go_simp; with_reducible rfl) ?_
                      refine pureA 17 90 ?_
                      refine pureA 20 93 ?_
                      refine oneA 18 (some 91) (fun K hK => ?_)
                      refine value_ (w1 := wd.alloc (.cells #[.int .i64 (p + q)] 3)) (v := .slice (some ⟨wd.heap.size, 0, none⟩) 1 1) (by rfl) rfl ?_ ?_
                      · go_simp
                        try rfl
                      refine hK.out _ _ ⟨((World.cell?_alloc_lt _ _ _ (World.block_lt_of_cell? _ _ (hHeld.1))).trans (hHeld.1)), ((World.cell?_alloc_lt _ _ _ (World.block_lt_of_cell? _ _ (hHeld.2.1))).trans (hHeld.2.1)), ((World.cell?_alloc_lt _ _ _ (World.block_lt_of_cell? _ _ (hHeld.2.2))).trans (hHeld.2.2))⟩ (fun hHeld => ?_)
                      clear hK K
                      refine normA 91 ?_
                      refine oneA 19 (some 92) (fun K hK => ?_)
                      refine call_ 88 #[.int .i64 z, .slice (some ⟨wd.heap.size, 0, none⟩) 1 1] (by rfl) rfl ?_ ?_
                      · go_simp
                        try rfl
                      refine (least_any z (p + q) wd.heap.size 0 1 _ (by simp [go_sem] <;> rfl)).mono ?_
                      rintro e w' ⟨rfl, rfl⟩
                      refine ⟨_, rfl, ?_⟩
                      refine hK.out _ _ hHeld (fun hHeld => ?_)
                      clear hK K
                      refine normA 92 ?_
                      refine pureA 21 94 ?_
                      refine lastA 22 none (fun K hK => ?_)
                      have hs0 := hHeld.1
                      have hfz : (wd.alloc (.cells #[.int .i64 (p + q)] 3)).frozen? ⟨w.heap.size + 1 + 1, i * 17 + k, none⟩ = false := ((((Below.refl _ _).alloc (Nat.le_refl _) _ : Below wd.heap.size wd (wd.alloc (.cells #[.int .i64 (p + q)] 3)))).frozen (p := ⟨w.heap.size + 1 + 1, i * 17 + k, none⟩) hzd).trans hfD
                      refine skip_ (w1 := (wd.alloc (.cells #[.int .i64 (p + q)] 3)).setCell ⟨w.heap.size + 1 + 1, i * 17 + k, none⟩ (.int .i64 (min z (p + q)))) (by rfl) rfl ?_ ?_
                      · go_simp
                        try rfl
                      refine hK.out _ _ ?_
                      clear hK K
                      refine done_ (done_of HT_.out (by kernel_rfl)) ?_
                      try go_wp2
                      go_roundw
                      case rel => exact ⟨k + 1, by omega, by go_num, by rw [HNX.out]; exact (HAK.out.set i k hli hlk _).alloc _, (HA9K.out.apart1 hbne _ _).alloc _, by repeat with_reducible (first | exact HBK.out | refine Below.setCell ?_ (by first | omega | (simp <;> omega)) _ | refine Below.alloc ?_ (by first | omega | (simp <;> omega)) _)⟩
                      case measure => simp [intOf]; omega
                    · obtain rfl : k = 17 := by omega
                      have HAI2 := Lib.hid (show At wr (w.heap.size + 1 + 1) (iTo (yTo f y) y (i + 1)) by rw [HNE2.out]; exact hAk)
                      have HA92 := Lib.hid hA9
                      have HBI2 := Lib.hid hBk
                      clear hAk hA9 hBk
                      go_wp2_with fail
                      go_roundw
                      case rel => exact ⟨i + 1, by omega, by go_num, HAI2.out, HA92.out, HBI2.out⟩
                      case measure => simp [intOf]; omega
              · obtain rfl : i = 17 := by omega
                have HAI := Lib.hid (show At wr (w.heap.size + 1 + 1) (yTo f (y + 1)) from hAi)
                have HA9 := Lib.hid hA9
                have HBI := Lib.hid hBi
                clear hAi hA9 hBi
                go_wp2_with fail
                apply_assumption
                go_wp2_with fail
                go_roundw
                case rel => exact ⟨y + 1, by omega, by go_num, HAI.out, HA9.out, HBI.out⟩
                case measure => simp [intOf]; omega
          · obtain rfl : y = 17 := by omega
            have HAY := Lib.hid (show At wr (w.heap.size + 1 + 1) (passF f) from hAy)
            have HA9 := Lib.hid hA9
            have HBY := Lib.hid hBy
            have HRES := Lib.hid (HW.out.res.belowN (show w.heap.size + 1 < w.heap.size + 2 by omega) hBy)
            clear hAy hA9 hBy
            go_wp2_with fail
            go_loopw [98] (fun v wx => ∃ m : Nat, m ≤ 17 ∧ v = .int .i64 m ∧ (∀ k, k < m → 0 ≤ passF f k k) ∧ At wx (w.heap.size + 1 + 1) (passF f) ∧ At wx bb f ∧ At wx (w.heap.size + 1) zeroT ∧ Below (w.heap.size + 2) W0 wx) (fun v _ => 17 - (intOf v).toNat)
            case atStart => exact ⟨0, Nat.zero_le _, rfl, fun k hk => by omega, HAY.out, HA9.out, HRES.out, HBY.out⟩
            case round =>
              obtain ⟨m, hm, rfl, hok, hAx, hA9x, hAr, hBx⟩ := hrel
              by_cases hlm : m < 17
              · have hc1 := hAx.cell m m hlm hlm
                obtain ⟨p, hp⟩ : ∃ p, p = passF f m m := ⟨_, rfl⟩
                rw [← hp] at hc1
                have hm0 : (0 : Int) ≤ (m : Int) := by omega
                have hm1 : (m : Int) < 17 := by omega
                have HAX := Lib.hid hAx
                have HA9X := Lib.hid hA9x
                have HAR := Lib.hid hAr
                have HBX := Lib.hid hBx
                have HOK := Lib.hid hok
                have HP := Lib.hid hp
                clear hAx hA9x hAr hBx hok hp
                by_cases hneg : p < 0
                · have hbad : noNeg (passF (tab0 es)) = false := by
                    rcases HS.out with ⟨_, e⟩ | ⟨_, e, h2⟩
                    · rw [← e]; exact noNeg_neg hlm (by rw [← HP.out]; exact hneg)
                    · exfalso
                      have h3 := (noNeg_iff _).1 h2 m hlm
                      rw [← HTW.out h2, ← e, ← HP.out] at h3
                      omega
                  have HBAD := Lib.hid hbad
                  have HBF6 : Hid (Below w.heap.size w (wr.setCells (w.heap.size + 1) 0 (encT (passF f)).toArray.toList)) := Lib.hid (below_setCells _ _ _ (HW.out.bel.trans (HBX.out.mono (by omega))) (by omega))
                  have HLV2 : Hid ((loadVar 91 ⟨w.heap.size + 1, 0, none⟩).run Tryd.prog (wr.setCells (w.heap.size + 1) 0 (encT (passF f)).toArray.toList) = .ok (.agg (encT (passF f)).toArray) (wr.setCells (w.heap.size + 1) 0 (encT (passF f)).toArray.toList)) := Lib.hid (loadVar_At (HAR.out.store _))
                  clear hbad
                  go_wp2_with (first | (refine wpList_load_mid rfl 91 _ rfl (w.heap.size + 1 + 1) 0 rfl (encT (passF f)) _ HAX.out.1 Tryd.underlying91 rfl (size91 (passF f)) ?_) | (refine wpList_store_mid rfl 91 _ _ rfl (w.heap.size + 1) 0 (encT (passF f)).toArray rfl rfl (HAR.out.there (passF f)) (size91a (passF f)) (all_oneCell_toArray (encT_one (passF f))) ?_; generalize wr.setCells (w.heap.size + 1) 0 (encT (passF f)).toArray.toList = W6 at *))
                  try rw [Exit.noGoto_ret]
                  try go_wp2_with fail
                  have hlv := HLV2.out
                  refine bodyPost_ret (v := .tuple #[.agg (encT (passF f)).toArray, .bool false]) (by have ha : ∀ W : World, Sem.run Tryd.prog (asAddr (Value.pointer (some ⟨w.heap.size + 1, 0, none⟩))) W = .ok ⟨w.heap.size + 1, 0, none⟩ W := fun _ => rfl; simp [results, Tryd.results75, Sem.run_bind, hlv, ha]) rfl ?_
                  rw [HBAD.out]
                  exact ⟨⟨_, rfl, fun h => by cases h⟩, HBF6.out⟩
                · go_wp2_with fail
                  go_roundw
                  case rel =>
                    refine ⟨m + 1, by omega, by go_num, fun k hk => ?_, HAX.out, HA9X.out, HAR.out, HBX.out⟩
                    by_cases hkm : k = m
                    · rw [hkm, ← HP.out]; omega
                    · exact HOK.out k (by omega)
                  case measure => simp [intOf]; omega
              · obtain rfl : m = 17 := by omega
                have hnn : noNeg (passF f) = true := (noNeg_iff _).2 hok
                have HNN := Lib.hid hnn
                rw [hbb] at hA9x
                have HAX := Lib.hid hAx
                have HA9X := Lib.hid hA9x
                have HAR := Lib.hid hAr
                have HBX := Lib.hid hBx
                have heq := eq_At (passF f) f wr
                clear hAx hA9x hAr hBx hok hnn
                have hfin : noNeg (passF (tab0 es)) = true ∧ passF f = passF (tab0 es) := by
                  rcases HS.out with ⟨_, e⟩ | ⟨_, e, h2⟩
                  · rw [← e]; exact ⟨HNN.out, rfl⟩
                  · exact ⟨h2, by rw [e]; exact HTW.out h2⟩
                have HFIN := Lib.hid hfin
                clear hfin
                cases he : eqT (passF f) f
                · rw [he] at heq
                  go_wp2_with (first | (refine wpList_load_mid rfl 91 _ rfl (w.heap.size + 1 + 1) 0 rfl (encT (passF f)) _ HAX.out.1 Tryd.underlying91 rfl (size91 (passF f)) ?_) | (refine wpList_load_mid rfl 91 _ rfl _ 0 rfl (encT f) _ HA9X.out.1 Tryd.underlying91 rfl (size91 f) ?_))
                  rcases HS.out with ⟨h1, _⟩ | ⟨h1, e, h2⟩
                  · go_roundg 1
                    case measure => omega
                    case rel => exact ⟨passF f, HAX.out, HBX.out, .inr ⟨rfl, HFIN.out.2, HFIN.out.1⟩⟩
                  · exfalso
                    have : eqT (passF f) f = true := by rw [HFIN.out.2, e]; exact eqT_iff.2 fun _ _ _ _ => rfl
                    rw [he] at this
                    cases this
                · rw [he] at heq
                  have HBF6 : Hid (Below w.heap.size w (wr.setCells (w.heap.size + 1) 0 (encT (passF f)).toArray.toList)) := Lib.hid (below_setCells _ _ _ (HW.out.bel.trans (HBX.out.mono (by omega))) (by omega))
                  have HLV2 : Hid ((loadVar 91 ⟨w.heap.size + 1, 0, none⟩).run Tryd.prog (wr.setCells (w.heap.size + 1) 0 (encT (passF f)).toArray.toList) = .ok (.agg (encT (passF f)).toArray) (wr.setCells (w.heap.size + 1) 0 (encT (passF f)).toArray.toList)) := Lib.hid (loadVar_At (HAR.out.store _))
                  go_wp2_with (first | (refine wpList_load_mid rfl 91 _ rfl (w.heap.size + 1 + 1) 0 rfl (encT (passF f)) _ HAX.out.1 Tryd.underlying91 rfl (size91 (passF f)) ?_) | (refine wpList_load_mid rfl 91 _ rfl _ 0 rfl (encT f) _ HA9X.out.1 Tryd.underlying91 rfl (size91 f) ?_) | (refine wpList_store_mid rfl 91 _ _ rfl (w.heap.size + 1) 0 (encT (passF f)).toArray rfl rfl (HAR.out.there (passF f)) (size91a (passF f)) (all_oneCell_toArray (encT_one (passF f))) ?_; generalize wr.setCells (w.heap.size + 1) 0 (encT (passF f)).toArray.toList = W6 at *))
                  have hlv := HLV2.out
                  refine bodyPost_ret (v := .tuple #[.agg (encT (passF f)).toArray, .bool true]) (by have ha : ∀ W : World, Sem.run Tryd.prog (asAddr (Value.pointer (some ⟨w.heap.size + 1, 0, none⟩))) W = .ok ⟨w.heap.size + 1, 0, none⟩ W := fun _ => rfl; simp [results, Tryd.results75, Sem.run_bind, hlv, ha]) rfl ?_
                  rw [HFIN.out.1]
                  exact ⟨⟨_, rfl, fun _ => HFIN.out.2⟩, HBF6.out⟩
end Go.Proofs.YtohbeninpmmmpaaDoor
end

section
/- Plain: what bounds say, and what the table of them tells. -/
set_option linter.unusedVariables false
set_option linter.unusedSectionVars false
namespace Go.Proofs.YtohbeninpmmmpaaDoor

/-- A bound: by how much a first thing is above a second one, at most. -/
abbrev Con := (Int × Int) × Int
/-- What is known, with some bounds more. -/
def addC (es : List Con) (C : List Con) : List Con := C.foldl (fun es c => pmMin es c.1.1 c.1.2 c.2) es
theorem addC_append (es C D : List Con) : addC es (C ++ D) = addC (addC es C) D := by simp [addC]
def twoC (a b lo hi : Int) : List Con := [((a, b), hi), ((b, a), -lo)]
theorem addC_two (es : List Con) (a b lo hi : Int) : addC es (twoC a b lo hi) = boundK es a b lo hi 2 := rfl
theorem pmLook_min (es : List Con) (s d v s' d' : Int) : pmLook (pmMin es s d v) s' d' = if s' = s ∧ d' = d then some (match pmLook es s d with | some n => min n v | none => v) else pmLook es s' d' := pmLook_put _ _ _ _ _ _
/-- What is known comes of the bounds .. -/
theorem look_of (C : List Con) : ∀ (es : List Con) {s d v : Int}, pmLook (addC es C) s d = some v → ((s, d), v) ∈ C ∨ pmLook es s d = some v := by
  induction C with
  | nil => intro es s d v h; exact .inr h
  | cons c C ih =>
    intro es s d v h
    rcases ih (pmMin es c.1.1 c.1.2 c.2) h with h1 | h1
    · exact .inl (List.mem_cons_of_mem _ h1)
    · rw [pmLook_min] at h1
      split at h1
      · rename_i hc
        obtain ⟨rfl, rfl⟩ := hc
        cases hl : pmLook es c.1.1 c.1.2 with
        | none =>
          rw [hl] at h1
          simp only [Option.some.injEq] at h1
          subst h1
          exact .inl (by simp)
        | some n =>
          rw [hl] at h1
          simp only [Option.some.injEq] at h1
          rcases Int.le_total n c.2 with hle | hle
          · rw [Int.min_eq_left hle] at h1
            exact .inr (by rw [h1])
          · rw [Int.min_eq_right hle] at h1
            subst h1
            exact .inl (by simp)
      · exact .inr h1
/-- .. and is no more than they say. -/
theorem look_le (C : List Con) : ∀ (es : List Con) {s d v : Int}, (((s, d), v) ∈ C ∨ ∃ u, pmLook es s d = some u ∧ u ≤ v) → ∃ u, pmLook (addC es C) s d = some u ∧ u ≤ v := by
  induction C with
  | nil =>
    intro es s d v h
    rcases h with h | h
    · cases h
    · exact h
  | cons c C ih =>
    intro es s d v h
    refine ih (pmMin es c.1.1 c.1.2 c.2) ?_
    have key : ∀ u, pmLook es s d = some u → ∃ x, pmLook (pmMin es c.1.1 c.1.2 c.2) s d = some x ∧ x ≤ u := by
      intro u hu
      rw [pmLook_min]
      split
      · rename_i hc
        rw [← hc.1, ← hc.2, hu]
        exact ⟨_, rfl, Int.min_le_left _ _⟩
      · exact ⟨_, hu, Int.le_refl _⟩
    rcases h with h | ⟨u, hu, hle⟩
    · rcases List.mem_cons.1 h with rfl | h
      · right
        rw [pmLook_min, if_pos ⟨rfl, rfl⟩]
        refine ⟨_, rfl, ?_⟩
        split
        · exact Int.min_le_right _ _
        · exact Int.le_refl _
      · exact .inl h
    · obtain ⟨x, hx, hxu⟩ := key u hu
      exact .inr ⟨x, hx, Int.le_trans hxu hle⟩

/-- Bounds of things 0 to 16 that are told of, each hung to a smaller one. -/
structure ConOk (U : Nat → Prop) (C : List Con) : Prop where
  few : ∀ i, U i → i < 17
  zero : U 0
  use : ∀ c ∈ C, ∃ a b : Nat, c.1.1 = a ∧ c.1.2 = b ∧ U a ∧ U b ∧ a ≠ b ∧ -100000 ≤ c.2 ∧ c.2 ≤ 100000
  hang : ∀ i, U i → 0 < i → ∃ j, j < i ∧ U j ∧ (∃ v, (((i : Int), (j : Int)), v) ∈ C) ∧ ∃ v, (((j : Int), (i : Int)), v) ∈ C
/-- Numbers for all things, as the bounds have it. -/
def SatC (C : List Con) (o : Nat → Int) : Prop := ∀ c ∈ C, o c.1.1.toNat - o c.1.2.toNat ≤ c.2
section
variable {U : Nat → Prop} {C : List Con} (hC : ConOk U C)
include hC
theorem tab_val {i k : Nat} (hi : i < 17) (hk : k < 17) (hne : i ≠ k) : (∃ v, tab0 (addC [] C) i k = v ∧ (((i : Int), (k : Int)), v) ∈ C ∧ -100000 ≤ v ∧ v ≤ 100000) ∨ (tab0 (addC [] C) i k = far ∧ ∀ v, (((i : Int), (k : Int)), v) ∉ C) := by
  unfold tab0
  rw [if_pos ⟨hi, hk⟩, if_neg hne]
  cases hl : pmLook (addC [] C) i k with
  | none =>
    refine .inr ⟨rfl, fun v hv => ?_⟩
    obtain ⟨u, hu, _⟩ := look_le C [] (s := i) (d := k) (.inl hv)
    rw [hl] at hu; cases hu
  | some v =>
    rcases look_of C [] hl with h | h
    · obtain ⟨a, b, _, _, _, _, _, h1, h2⟩ := hC.use _ h
      exact .inl ⟨v, rfl, h, h1, h2⟩
    · cases h
theorem tab_le {i k : Nat} (hi : i < 17) (hk : k < 17) (hne : i ≠ k) {v : Int} (hv : (((i : Int), (k : Int)), v) ∈ C) : tab0 (addC [] C) i k ≤ v := by
  unfold tab0
  rw [if_pos ⟨hi, hk⟩, if_neg hne]
  obtain ⟨u, hu, h⟩ := look_le C [] (s := i) (d := k) (.inl hv)
  rw [hu]
  exact h
theorem tab_ok : Tab U (tab0 (addC [] C)) := by
  refine ⟨?_, ?_, ?_, ?_, hC.few, hC.zero⟩
  · intro i k hi hk
    by_cases h : i = k
    · left
      unfold tab0
      rw [if_pos ⟨hi, hk⟩, if_pos h]
      omega
    · rcases tab_val hC hi hk h with ⟨v, h1, _, h2, h3⟩ | ⟨h1, _⟩
      · left; omega
      · right; exact h1
  · intro i hi
    unfold tab0
    rw [if_pos ⟨hi, hi⟩, if_pos rfl]
  · intro i k hi hk hne hU
    rcases tab_val hC hi hk hne with ⟨v, _, h1, _⟩ | ⟨h1, _⟩
    · obtain ⟨a, b, h2, h3, h4, h5, _⟩ := hC.use _ h1
      simp only at h2 h3
      obtain rfl : i = a := by omega
      obtain rfl : k = b := by omega
      rcases hU with h | h
      · exact absurd h4 h
      · exact absurd h5 h
    · exact h1
  · intro i hU h0
    obtain ⟨j, h1, h2, ⟨v, h3⟩, u, h4⟩ := hC.hang i hU h0
    have hi := hC.few i hU
    have hj := hC.few j h2
    refine ⟨j, h1, h2, Int.le_trans (tab_le hC hi hj (by omega) h3) ?_, Int.le_trans (tab_le hC hj hi (by omega) h4) ?_⟩
    · obtain ⟨_, _, _, _, _, _, _, _, h⟩ := hC.use _ h3; exact h
    · obtain ⟨_, _, _, _, _, _, _, _, h⟩ := hC.use _ h4; exact h
/-- What all bounds let be is what the table lets be. -/
theorem sat_pot (o : Nat → Int) : SatC C o ↔ Pot U (tab0 (addC [] C)) o := by
  constructor
  · intro h
    have hT := tab_ok hC
    have step : ∀ i k, U i → U k → tab0 (addC [] C) i k ≤ 100000 → o i - o k ≤ tab0 (addC [] C) i k := by
      intro i k hi hk hle
      by_cases e : i = k
      · subst e
        have := hT.self i (hC.few i hi)
        omega
      · rcases tab_val hC (hC.few i hi) (hC.few k hk) e with ⟨v, h1, h2, _⟩ | ⟨h1, _⟩
        · have := h _ h2
          simp only [Int.toNat_natCast] at this
          omega
        · rw [h1] at hle; unfold far at hle; omega
    have bd : ∀ n i, i ≤ n → U i → -(100000 * (i : Int)) ≤ o i - o 0 ∧ o i - o 0 ≤ 100000 * (i : Int) := by
      intro n
      induction n with
      | zero =>
        intro i hi _
        obtain rfl : i = 0 := by omega
        omega
      | succ n ih =>
        intro i hi hU
        rcases Nat.eq_zero_or_pos i with h0 | h0
        · exact ih i (by omega) hU
        · obtain ⟨j, h1, h2, h3, h4⟩ := hT.hang i hU h0
          have h5 := ih j (by omega) h2
          have h6 := step i j hU h2 h3
          have h7 := step j i h2 hU h4
          omega
    intro i k hi hk
    by_cases hle : tab0 (addC [] C) i k ≤ 100000
    · exact step i k hi hk hle
    · rcases hT.cls i k (hC.few i hi) (hC.few k hk) with h1 | h1
      · omega
      · have b1 := bd i i (Nat.le_refl _) hi
        have b2 := bd k k (Nat.le_refl _) hk
        have l1 := hC.few i hi
        have l2 := hC.few k hk
        rw [h1]
        unfold far
        omega
  · intro h c hc
    obtain ⟨a, b, h1, h2, h3, h4, h5, _⟩ := hC.use c hc
    have h6 := h a b h3 h4
    have h7 : (((a : Int), (b : Int)), c.2) ∈ C := by rw [← h1, ← h2]; exact hc
    have h8 := tab_le hC (hC.few a h3) (hC.few b h4) h5 h7
    rw [h1, h2, Int.toNat_natCast, Int.toNat_natCast]
    omega
/-- Where something can be so: it can be solved, and lies below what is told. -/
theorem sat_told {o : Nat → Int} (h : SatC C o) : noNeg (passF (tab0 (addC [] C))) = true ∧ ∀ i k, U i → U k → o i - o k ≤ passF (tab0 (addC [] C)) i k := pot_told (tab_ok hC) ((sat_pot hC o).1 h)
/-- Each end is so. -/
theorem told_sat (hn : noNeg (passF (tab0 (addC [] C))) = true) {k : Nat} (hk : U k) : SatC C fun j => passF (tab0 (addC [] C)) j k := (sat_pot hC _).2 (told_pot (tab_ok hC) hn hk)
theorem tabC_bd : ∀ a b, -100000 ≤ tab0 (addC [] C) a b ∧ tab0 (addC [] C) a b ≤ far := by
  intro a b
  by_cases h : a < 17 ∧ b < 17
  · rcases (tab_ok hC).cls a b h.1 h.2 with h1 | h1 <;> unfold far at * <;> omega
  · unfold tab0
    rw [if_neg h]
    unfold far
    omega
theorem tabC_twice (hn : noNeg (passF (tab0 (addC [] C))) = true) : passF (passF (tab0 (addC [] C))) = passF (tab0 (addC [] C)) := passF_twice (tab_ok hC) hn
end
end Go.Proofs.YtohbeninpmmmpaaDoor
end

section
/- A region that draws its order, walked by an invariant over the operations that have been carried out: in a fence. -/
namespace Go.Proofs.YtohbeninpmmmpaaDoor
open Go

/-- The operations that bind an operation: all of them are carried out before it. -/
def preds (md : Region.Mode) (ops : Array Oper) (i : Nat) : List Nat :=
  match ops[i]? with
  | some o => (o.after.toList.filter fun e => Region.binds md e).map fun e => e.on
  | none => []

theorem preds_of_ready {md : Region.Mode} {ops : Array Oper} {listed : Array Bool} {i : Nat} (h : i ∈ Region.ready md ops listed) :
    i < ops.size ∧ listed.getD i true = false ∧ ∀ p ∈ preds md ops i, listed.getD p false = true := by
  unfold Region.ready at h
  rw [List.mem_filter] at h
  obtain ⟨h1, h2⟩ := h
  simp only [Bool.and_eq_true, Bool.not_eq_true'] at h2
  refine ⟨List.mem_range.1 h1, h2.1, ?_⟩
  intro p hp
  unfold preds at hp
  have h3 := h2.2
  cases ho : ops[i]? with
  | none => rw [ho] at hp; cases hp
  | some o =>
    rw [ho] at hp h3
    simp only [Option.map_some, Option.getD_some] at h3
    simp only [List.mem_map, List.mem_filter] at hp
    obtain ⟨e, ⟨he, hb⟩, rfl⟩ := hp
    have h4 := Array.all_eq_true'.1 h3 e (Array.mem_toList_iff.1 he)
    simpa [hb] using h4

/-- What is carried out, all before it is. -/
def Closed (md : Region.Mode) (ops : Array Oper) (listed : Array Bool) : Prop :=
  listed.size = ops.size ∧ ∀ i, listed.getD i false = true → ∀ p ∈ preds md ops i, listed.getD p false = true

theorem getD_set {listed : Array Bool} {i j : Nat} (hi : i < listed.size) : (listed.setIfInBounds i true).getD j false = if j = i then true else listed.getD j false := by
  by_cases h : j = i
  · subst h; simp [hi]
  · rw [if_neg h]; simp only [Array.getD_eq_getD_getElem?]; rw [Array.getElem?_setIfInBounds_ne (Ne.symm h)]

theorem Closed.set {md : Region.Mode} {ops : Array Oper} {listed : Array Bool} {i : Nat} (h : Closed md ops listed) (hi : i ∈ Region.ready md ops listed) : Closed md ops (listed.setIfInBounds i true) := by
  obtain ⟨h1, h2, h3⟩ := preds_of_ready hi
  refine ⟨by simp [h.1], ?_⟩
  intro j hj p hp
  rw [getD_set (by rw [h.1]; exact h1)] at hj ⊢
  split
  · rfl
  · split at hj
    · rename_i e; subst e; exact h3 p hp
    · exact h.2 j hj p hp

def unlisted (listed : Array Bool) : Nat := (listed.toList.filter fun b => !b).length

theorem filter_set_lt (l : List Bool) : ∀ i, l[i]? = some false → ((l.set i true).filter fun b => !b).length < (l.filter fun b => !b).length := by
  induction l with
  | nil => intro i h; simp at h
  | cons b l ih =>
    intro i h
    cases i with
    | zero => simp at h; subst h; simp
    | succ i =>
      simp at h
      have := ih i h
      cases b <;> simp <;> simpa using this

theorem unlisted_set {listed : Array Bool} {i : Nat} (h : listed.getD i true = false) : unlisted (listed.setIfInBounds i true) < unlisted listed := by
  unfold unlisted
  rw [Array.toList_setIfInBounds]
  refine filter_set_lt _ _ ?_
  rw [Array.getElem?_toList]
  rcases Nat.lt_or_ge i listed.size with h' | h'
  · simp [h'] at h ⊢; exact h
  · simp [Array.getElem?_eq_none h'] at h

section
variable {F : Fence} {n : Nat} {P : Program} {ops : Array Oper} {Q : Exit → Act → World → Prop} {md : Region.Mode}

theorem ready_nil_all {listed : Array Bool} (hc : Closed md ops listed) (hr : Region.ready md ops listed = []) (hlow : ∀ i, i < ops.size → ∀ p ∈ preds md ops i, p < i) :
    ∀ i, i < ops.size → listed.getD i false = true := by
  intro i
  induction i using Nat.strongRecOn with
  | _ i ih =>
    intro hi
    cases hl : listed.getD i false with
    | true => rfl
    | false =>
      exfalso
      have hmem : i ∈ Region.ready md ops listed := by
        unfold Region.ready
        rw [List.mem_filter]
        refine ⟨List.mem_range.2 hi, ?_⟩
        have h1 : listed.getD i true = false := by
          have : i < listed.size := by rw [hc.1]; exact hi
          simp [this] at hl ⊢; exact hl
        have h2 : ((ops[i]?).map fun o => o.after.all fun e => !Region.binds md e || listed.getD e.on false).getD false = true := by
          have ho : ops[i]? = some ops[i] := Array.getElem?_eq_getElem hi
          rw [ho]
          simp only [Option.map_some, Option.getD_some]
          rw [Array.all_eq_true']
          intro e he
          cases hb : Region.binds md e with
          | false => rfl
          | true =>
            have hp : e.on ∈ preds md ops i := by
              unfold preds
              rw [ho]
              exact List.mem_map.2 ⟨e, List.mem_filter.2 ⟨Array.mem_toList_iff.2 he, hb⟩, rfl⟩
            have hlt := hlow i hi _ hp
            rw [ih _ hlt (by omega)]; rfl
        rw [h1, h2]; rfl
      rw [hr] at hmem; cases hmem

end

end Go.Proofs.YtohbeninpmmmpaaDoor
end

section
/- A row of numbers contains a number: slices.Contains. -/
set_option linter.unusedSimpArgs false
set_option linter.unusedVariables false
namespace Go.Proofs.YtohbeninpmmmpaaDoor
open Go.RowKit Go.Proofs.YtohbeninpmmmpaaDoorW.PrintWords Go.Proofs.YtohbeninpmmmpaaDoorW.PrintLast Go.Proofs.YtohbeninpmmmpaaDoorW.PrintMore TrydX.X

theorem rd_mem {xs : List Int} {i : Int} (h0 : 0 ≤ i) (h1 : i < xs.length) : rd xs i ∈ xs := by
  unfold rd
  rw [List.getD_eq_getElem?_getD, List.getElem?_eq_getElem (by omega)]
  exact List.getElem_mem _
theorem mem_rd {xs : List Int} {v : Int} (h : v ∈ xs) : ∃ k : Nat, k < xs.length ∧ rd xs k = v := by
  obtain ⟨k, hk, e⟩ := List.getElem_of_mem h
  refine ⟨k, hk, ?_⟩
  unfold rd
  rw [List.getD_eq_getElem?_getD, Int.toNat_natCast, List.getElem?_eq_getElem hk]
  exact e

set_option maxHeartbeats 2000000 in
theorem index_any (A : Option Addr) (c : Nat) (xs : List Int) (v : Int) (w : World) (hr : Kd.C (Kd.int .i64) w A xs.length xs) (hl : xs.length ≤ 100000) :
    Calls Tryd.prog 92 #[.slice A xs.length c, .int .i64 v] w fun e w' => (∃ r : Int, e = .returned (.int .i64 r) ∧ (0 ≤ r ↔ v ∈ xs)) ∧ w = w' := by
  have HR := Lib.hid hr
  clear hr
  go_enter Tryd.func92, Tryd.ntmps92
  go_wp2
  go_loop [8] (fun i => ∃ k : Nat, k ≤ xs.length ∧ i = .int .i64 k ∧ ∀ j : Nat, j < k → rd xs j ≠ v) (fun i => xs.length - (intOf i).toNat)
  case atStart => exact ⟨0, by omega, rfl, fun j hj => by omega⟩
  case round =>
    obtain ⟨k, hk, rfl, hno⟩ := hrel
    have HNO := Lib.hid hno
    clear hno
    by_cases hlt : k < xs.length
    · obtain ⟨ad, e, hx⟩ := Kd.at_int HR.out (k : Int) (by omega) (by omega)
      cases e
      rw [Int.toNat_natCast] at hx
      have hlt1 : (k : Int) < (xs.length : Int) := by omega
      by_cases he : v = rd xs k
      · go_wp2
        go_ret
        exact ⟨⟨_, rfl, fun _ => rd_mem (by omega) (by omega), fun _ => by omega⟩, rfl⟩
      · go_wp2
        go_round
        case rel =>
          refine ⟨k + 1, by omega, by go_num, fun j hj => ?_⟩
          by_cases hjk : j = k
          · rw [hjk]; exact fun h => he h.symm
          · exact HNO.out j (by omega)
        case measure => simp [intOf]; omega
    · obtain rfl : k = xs.length := by omega
      go_wp2
      go_ret
      refine ⟨⟨_, rfl, fun h => absurd h (by decide), fun h => ?_⟩, rfl⟩
      obtain ⟨j, hj, e⟩ := mem_rd h
      exact absurd e (HNO.out j hj)
set_option maxHeartbeats 2000000 in
theorem contains_any (A : Option Addr) (c : Nat) (xs : List Int) (v : Int) (w : World) (hr : Kd.C (Kd.int .i64) w A xs.length xs) (hl : xs.length ≤ 100000) :
    Calls Tryd.prog 91 #[.slice A xs.length c, .int .i64 v] w fun e w' => e = .returned (.bool (decide (v ∈ xs))) ∧ w = w' := by
  go_enter Tryd.func91, Tryd.ntmps91
  go_wp2_with (go_at_call 92; refine (index_any _ _ _ _ _ hr hl).mono ?_; rintro e w' ⟨⟨r, rfl, hr0⟩, rfl⟩)
  go_ret
  refine ⟨?_, rfl⟩
  rfl

/-- Some blocks are as they were. -/
structure Kept (St : Nat → Prop) (W W' : World) : Prop where
  size : W.heap.size ≤ W'.heap.size
  block : ∀ k, St k → W'.heap[k]? = W.heap[k]?
theorem Kept.refl (St : Nat → Prop) (W : World) : Kept St W W := ⟨Nat.le_refl _, fun _ _ => rfl⟩
theorem Kept.trans {St : Nat → Prop} {A B C : World} (h : Kept St A B) (k : Kept St B C) : Kept St A C := ⟨Nat.le_trans h.size k.size, fun i hi => (k.block i hi).trans (h.block i hi)⟩
theorem Kept.drew {St : Nat → Prop} {A B : World} (h : Kept St A B) : Kept St A B.drew := ⟨h.size, h.block⟩
theorem Kept.of_below {St : Nat → Prop} {A B : World} {n : Nat} (h : Below n A B) (hS : ∀ k, St k → k < n) : Kept St A B := ⟨h.size, fun k hk => h.block k (hS k hk)⟩
theorem Kept.cell {St : Nat → Prop} {W W' : World} (h : Kept St W W') {p : Addr} (hp : St p.block) : W'.cell? p = W.cell? p := World.cell?_of_block (w := W) (h.block p.block hp)

/-- The looks of a night that are not left out. -/
def isPick (xs : List S63) (nt : Int) (wo : List Int) (j : Nat) : Bool := decide ((rd_T63 xs j).f0 = nt) && !decide ((j : Int) ∈ wo)
def picksTo (xs : List S63) (nt : Int) (wo : List Int) (k : Nat) : List S63 := ((List.range k).filter (isPick xs nt wo)).map fun j : Nat => rd_T63 xs (j : Int)
def picks (xs : List S63) (nt : Int) (wo : List Int) : List S63 := picksTo xs nt wo xs.length
theorem picksTo_in {xs : List S63} {nt : Int} {wo : List Int} {k : Nat} (h : isPick xs nt wo k = true) : picksTo xs nt wo (k + 1) = picksTo xs nt wo k ++ [rd_T63 xs k] := by
  simp [picksTo, List.range_succ, List.filter_append, h]
theorem picksTo_out {xs : List S63} {nt : Int} {wo : List Int} {k : Nat} (h : isPick xs nt wo k = false) : picksTo xs nt wo (k + 1) = picksTo xs nt wo k := by
  simp [picksTo, List.range_succ, List.filter_append, h]
theorem picksTo_prefix (xs : List S63) (nt : Int) (wo : List Int) (k : Nat) (h : k ≤ xs.length) : picksTo xs nt wo k <+: picks xs nt wo := by
  unfold picks
  obtain ⟨d, hd⟩ : ∃ d, xs.length = k + d := ⟨xs.length - k, by omega⟩
  rw [hd]
  unfold picksTo
  rw [List.range_add, List.filter_append, List.map_append]
  exact List.prefix_append _ _
theorem picksTo_length (xs : List S63) (nt : Int) (wo : List Int) (k : Nat) : (picksTo xs nt wo k).length ≤ k := by
  unfold picksTo
  rw [List.length_map]
  exact Nat.le_trans (List.length_filter_le _ _) (by simp)
theorem rd63_mem {xs : List S63} {k : Nat} (h : k < xs.length) : rd_T63 xs (k : Int) ∈ xs := by
  unfold rd_T63
  rw [Int.toNat_natCast, List.getD_eq_getElem?_getD, List.getElem?_eq_getElem h]
  exact List.getElem_mem h
theorem off_about {K : Prop} (h : K) : (∀ f : FuncId, (none : Option FuncId) = some f → Fence.wide.fn f) ∧ K := ⟨fun _ _ => trivial, h⟩
theorem off_wide {g : FuncId} {K : Prop} (h : K) : Fence.wide.fn g ∧ K := ⟨trivial, h⟩
theorem off_some {g : FuncId} {K : Prop} (h : K) : (∀ f : FuncId, some g = some f → Fence.wide.fn f) ∧ K := ⟨fun _ _ => trivial, h⟩
def lookV (x : S63) : Value := .agg #[.int .i64 x.f0, .int .i64 x.f1, .int .i64 x.f2, .int .i64 x.f3, .int .i64 x.f4]

set_option maxRecDepth 100000 in
set_option maxHeartbeats 4000000 in
theorem looks1_in (n l B : Nat) (St : Nat → Prop) (N b0 b1 r0 r1 : Int) (v5 v6 : Value) (A7 : Option Addr) (c7 : Nat) (xs : List S63) (m : Nat) (nt : Int) (Aw : Option Addr) (cw : Nat) (wo : List Int) (hxl : xs.length ≤ 1000) (hwl : wo.length ≤ 1000) (I Ix : List S63 → World → Prop)
    (hIa : ∀ xs W W', I xs W → Below W.heap.size W W' → I xs W')
    (hY : ∀ pre x W, I pre W → pre.length < xs.length → x ∈ xs → YieldAt Fence.wide (n - 1) Tryd.prog l #[lookV x] W fun e W' =>
      (e = .returned (.bool true) ∧ I (pre ++ [x]) W' ∧ Kept St W W') ∨ (e = .returned (.bool false) ∧ Ix (pre ++ [x]) W'))
    (W : World) (hS : St B ∧ St (B + 1) ∧ St (B + 2)) (hSl : ∀ k, St k → k < W.heap.size)
    (hF7 : Kd.F k63 W St A7 xs.length xs) (hFw : Kd.F (Kd.int .i64) W St Aw wo.length wo)
    (hg : W.cell? ⟨B, 7, none⟩ = some (.slice A7 xs.length c7)) (h1 : W.cell? ⟨B + 1, 0, none⟩ = some (.int .i64 nt)) (h2 : W.cell? ⟨B + 2, 0, none⟩ = some (.slice Aw wo.length cw))
    (h0 : I [] W) :
  CallsIn Fence.wide n Tryd.prog 90 #[.func (.yield l) #[] #[], .pointer (some ⟨B, 0, none⟩), .pointer (some ⟨B + 1, 0, none⟩), .pointer (some ⟨B + 2, 0, none⟩)] W fun e W' => (∃ v, e = .returned v) ∧
      ((∃ ys, ys = picks xs nt wo ∧ I ys W') ∨ (∃ pre, pre <+: picks xs nt wo ∧ Ix pre W')) := by
  refine callsIn_of_wp Tryd.func90 rfl trivial ?_ rfl
  simp only [Tryd.ntmps90, List.size_toArray, List.length_cons, List.length_nil, Nat.reduceAdd, Nat.reduceSub, Array.replicate_succ, Array.replicate_zero, List.push_toArray, List.append_toArray, List.nil_append, List.cons_append]
  gi_wp2
  gi_loopw [11] (fun i wr => ∃ k : Nat, k ≤ xs.length ∧ i = .int .i64 k ∧ I (picksTo xs nt wo k) wr ∧ Kept St W wr) (fun i _ => xs.length - (intOf i).toNat)
  case atStart => exact ⟨0, Nat.zero_le _, rfl, h0, Kept.refl _ _⟩
  case round =>
    obtain ⟨k, hk, rfl, hI, hB⟩ := hrel
    by_cases hlt : k < xs.length
    · have hF := Kd.F_now (Kd.F_step hF7 (fun j hj _ => hB.block j hj))
      obtain ⟨ad, e, hx0, hx1, hx2, hx3, hx4⟩ := at_T63 hF (k : Int) (by omega) (by omega)
      cases e
      rw [Int.toNat_natCast] at hx0 hx1 hx2 hx3 hx4
      have hlt1 : (k : Int) < (xs.length : Int) := by omega
      have hg1 := (hB.cell (p := ⟨B + 1, 0, none⟩) hS.2.1).trans h1
      have hg2 := (hB.cell (p := ⟨B + 2, 0, none⟩) hS.2.2).trans h2
      have hb1 : B + 1 < wr.heap.size := Nat.lt_of_lt_of_le (hSl _ hS.2.1) hB.size
      have hb2 : B + 2 < wr.heap.size := Nat.lt_of_lt_of_le (hSl _ hS.2.2) hB.size
      obtain ⟨x, hx⟩ : ∃ x, x = rd_T63 xs (k : Int) := ⟨_, rfl⟩
      rw [← hx] at hx0 hx1 hx2 hx3 hx4
      have hbel : Below wr.heap.size wr (wr.alloc (.cells #[.int .i64 x.f0, .int .i64 x.f1, .int .i64 x.f2, .int .i64 x.f3, .int .i64 x.f4] 63)) := (Below.refl _ _).alloc (Nat.le_refl _) _
      have HI2 := Lib.hid (hIa _ _ _ hI hbel)
      have HB2 := Lib.hid (hB.trans (Kept.of_below hbel (fun j hj => Nat.lt_of_lt_of_le (hSl j hj) hB.size)))
      have HFW := Lib.hid (Kd.F_now (Kd.F_step (Kd.F_step hFw (fun j hj _ => hB.block j hj)) (fun j hj hj2 => hbel.block j hj2)))
      have HX := Lib.hid hx
      clear hbel hF
      by_cases hn : x.f0 = nt
      · subst hn
        by_cases hin : (k : Int) ∈ wo
        · have hp : isPick xs x.f0 wo k = false := by simp [isPick, hin]
          clear hx
          gi_wp2_with (first | (with_reducible refine off_about ?_) | (refine ⟨trivial, (fun h => by cases h), ?_⟩; gi_at_call 91; refine callsIn_wide.2 ((contains_any _ _ _ _ _ HFW.out (by omega)).mono ?_); rintro e w' ⟨rfl, rfl⟩))
          go_roundw
          case rel => exact ⟨k + 1, by omega, by go_num, by rw [picksTo_out hp]; exact HI2.out, HB2.out⟩
          case measure => simp [intOf]; omega
        · have hp : isPick xs x.f0 wo k = true := by simp [isPick, hin, ← hx]
          clear hx
          obtain ⟨fn, tmps, assign, body, hrun, hR⟩ := hY (picksTo xs x.f0 wo k) x _ HI2.out (Nat.lt_of_le_of_lt (picksTo_length xs x.f0 wo k) hlt) (by rw [HX.out]; exact rd63_mem hlt)
          simp only [lookV] at hrun
          gi_wp2_with (first | (with_reducible refine off_about ?_) | (refine ⟨trivial, (fun h => by cases h), ?_⟩; gi_at_call 91; refine callsIn_wide.2 ((contains_any _ _ _ _ _ HFW.out (by omega)).mono ?_); rintro e w' ⟨rfl, rfl⟩))
          refine ⟨(fun h => by cases h), hR.mono ?_⟩
          rintro e w' (⟨rfl, hI3, hB3⟩ | ⟨rfl, hI3⟩)
          · have HI3 := Lib.hid hI3
            have HB3 := Lib.hid hB3
            clear hI3 hB3 hR hrun
            gi_wp2
            go_roundw
            case rel => exact ⟨k + 1, by omega, by go_num, by rw [picksTo_in hp, ← HX.out]; exact HI3.out, HB2.out.trans HB3.out⟩
            case measure => simp [intOf]; omega
          · have HI3 := Lib.hid hI3
            clear hI3 hR hrun
            gi_wp2
            refine bodyPost_ret (results_none rfl _ _ _) rfl ?_
            exact ⟨⟨_, rfl⟩, .inr ⟨_, by have := picksTo_prefix xs x.f0 wo (k + 1) (by omega); rw [picksTo_in hp, ← HX.out] at this; exact this, HI3.out⟩⟩
      · have hp : isPick xs nt wo k = false := by simp [isPick, ← hx, hn]
        clear hx
        gi_wp2_with (first | (with_reducible refine off_about ?_) | (with_reducible refine off_wide ?_) | (with_reducible refine off_some ?_))
        go_roundw
        case rel => exact ⟨k + 1, by omega, by go_num, by rw [picksTo_out hp]; exact HI2.out, HB2.out⟩
        case measure => simp [intOf]; omega
    · gi_wp2
      go_end0
      obtain rfl : k = xs.length := by omega
      exact ⟨⟨_, rfl⟩, .inl ⟨_, rfl, hI⟩⟩

theorem looks_stops (n B : Nat) (St : Nat → Prop) (N b0 b1 r0 r1 : Int) (v5 v6 : Value) (A7 : Option Addr) (c7 : Nat) (xs : List S63) (m : Nat) (nt : Int) (Aw : Option Addr) (cw : Nat) (wo : List Int) (hxl : xs.length ≤ 1000) (hwl : wo.length ≤ 1000)
    (w : World) (hS : St B ∧ St (B + 1) ∧ St (B + 2)) (hSl : ∀ k, St k → k < w.heap.size) (hF7 : Kd.F k63 w St A7 xs.length xs) (hFw : Kd.F (Kd.int .i64) w St Aw wo.length wo)
    (hg : w.cell? ⟨B, 7, none⟩ = some (.slice A7 xs.length c7)) (h1 : w.cell? ⟨B + 1, 0, none⟩ = some (.int .i64 nt)) (h2 : w.cell? ⟨B + 2, 0, none⟩ = some (.slice Aw wo.length cw)) :
    SeqStopsK Fence.wide n Tryd.prog 90 #[.pointer (some ⟨B, 0, none⟩), .pointer (some ⟨B + 1, 0, none⟩), .pointer (some ⟨B + 2, 0, none⟩)] (fun x : { x : S63 // x ∈ xs } => #[lookV x.1]) (Kept St) (fun ys => ys.map (·.1) = picks xs nt wo) (fun pre => pre.map (·.1) <+: picks xs nt wo) xs.length w := by
  intro l I Ix W hW hI hIx hY h0
  refine (looks1_in n l B St N b0 b1 r0 r1 v5 v6 A7 c7 xs m nt Aw cw wo hxl hwl (fun pre W => ∃ p : List { x : S63 // x ∈ xs }, p.map (·.1) = pre ∧ I p W) (fun pre W => ∃ p : List { x : S63 // x ∈ xs }, p.map (·.1) = pre ∧ Ix p W)
    (fun xs A A' h hb => ?_) ?_ W hS (fun k hk => Nat.lt_of_lt_of_le (hSl k hk) hW.size) (Kd.F_step hF7 (fun k hk hlt => hW.block k hlt)) (Kd.F_step hFw (fun k hk hlt => hW.block k hlt)) (cell_below hW hg) (cell_below hW h1) (cell_below hW h2) ⟨[], rfl, h0⟩).mono ?_
  · obtain ⟨p, hp, h⟩ := h
    exact ⟨p, hp, hI p A A' none h ⟨hb.os, hb.tape, hb.output, hb.size, fun k hk _ => hb.block k hk⟩ (fun r e => by cases e)⟩
  · rintro pre x W1 ⟨p, rfl, hp⟩ hl hx
    rw [List.length_map] at hl
    obtain ⟨fn, tmps, assign, body, hrun, hR⟩ := hY p ⟨x, hx⟩ W1 hp hl
    refine ⟨fn, tmps, assign, body, hrun, hR.mono ?_⟩
    rintro e W2 (⟨he, h3, h4⟩ | ⟨he, h3⟩)
    · exact .inl ⟨he, ⟨p ++ [⟨x, hx⟩], by simp, h3⟩, h4⟩
    · exact .inr ⟨he, p ++ [⟨x, hx⟩], by simp, h3⟩
  · rintro e W2 ⟨hv, ⟨ys, hys, p, hp, h⟩ | ⟨pre, hpre, p, hp, h⟩⟩
    · exact ⟨hv, .inl ⟨p, hp.trans hys, h⟩⟩
    · subst hp
      exact ⟨hv, .inr ⟨p, hpre, h⟩⟩
end Go.Proofs.YtohbeninpmmmpaaDoor
end

section
/- A region that draws its order, in a round of a loop over an iterator: walked as it is outside. -/
set_option linter.unusedVariables false
namespace Go.Proofs.YtohbeninpmmmpaaDoor
open Go Go.RowKit Go.Proofs.YtohbeninpmmmpaaDoorW.PrintWords Go.Proofs.YtohbeninpmmmpaaDoorW.PrintLast Go.Proofs.YtohbeninpmmmpaaDoorW.PrintMore
section
variable {n l : Nat} {P : Program} {ops : Array Oper} {Q : Exit → Act → World → Prop} {md : Region.Mode}

theorem wpIn_of_wp {o : Oper} {a : Act} {w : World} {K : Act → World → Prop} (hd : ∀ c, o.op ≠ .defer c) (h : o.wp P a w K Q) : o.wpIn (Fence.wide.inRound l) n P a w K Q := by
  refine ⟨fun _ _ => trivial, ?_⟩
  rw [Oper.semAt_eq _ _ _ hd]
  unfold Oper.wp at h
  generalize (execOp a.eval o).run P w = r at h ⊢
  cases r with
  | ok x w' =>
    cases x with
    | value v => exact h
    | skip => exact h
    | defer d => exact h
    | enter f args => exact ⟨(fun h => by cases h), CallsIn.inRound l (callsIn_wide.2 (Calls.mono h fun e w'' he => by cases e <;> exact he))⟩
    | row r args => exact ⟨(fun h => by cases h), fun c cs _ => let ⟨v, w', r, s⟩ := h c cs; ⟨v, w', r, stepsIn_wide.2 s⟩⟩
    | _ => exact h.elim
  | halt x w' => cases x <;> first | exact h | exact h.elim

theorem anyIn_of_any (hd : ∀ (i : Nat) (o : Oper), ops[i]? = some o → ∀ c, o.op ≠ .defer c) (hQ : ¬ LetsOut Q) : ∀ (fuel : Nat) (listed : Array Bool) (a : Act) (w : World), wpAny P md ops Q fuel listed a w → wpAnyIn (Fence.wide.inRound l) n P md ops Q fuel listed a w
  | 0, listed, a, w, h => h
  | fuel + 1, listed, a, w, h => by
    refine ⟨h.1, fun i hi => ?_⟩
    have h2 := h.2 i hi
    unfold wpOp at h2
    unfold wpOpIn
    cases ho : ops[i]? with
    | none =>
      rw [ho] at h2
      exact anyIn_of_any hd hQ fuel _ _ _ h2
    | some o =>
      rw [ho] at h2
      dsimp only at h2 ⊢
      split
      · rename_i hw
        rw [if_pos hw] at h2
        rcases h2 with h2 | ⟨_, h2⟩
        · exact Oper.wpIn_mono (fun a w h => anyIn_of_any hd hQ fuel _ a w h) (wpIn_of_wp (hd i o ho) h2)
        · exact absurd h2 hQ
      · rename_i hw
        rw [if_neg hw] at h2
        exact ⟨fun _ _ => trivial, anyIn_of_any hd hQ fuel _ _ _ h2⟩
def noDefer (ops : Array Oper) : Bool := ops.all fun o => match o.op with | .defer _ => false | _ => true
theorem noDefer_of (h : noDefer ops = true) : ∀ (i : Nat) (o : Oper), ops[i]? = some o → ∀ c, o.op ≠ .defer c := by
  intro i o ho c hc
  have h1 := Array.all_eq_true'.1 h o (Array.mem_of_getElem? ho)
  rw [hc] at h1
  cases h1
/-- A region that draws, in a round: as 'start_' has it. -/
theorem startIn_ {S : World → Prop} {ds : List Nat} {id k : Nat} {a : Act} {w : World} (ls : Array Bool) (hm : P.follows .mixedOrders = true) (hn : ops.size = k) (hl : Array.replicate k false = ls) (hd : noDefer ops = true) (hQ : ¬ LetsOut Q) (hS : S w.drew)
    (h : S w.drew → wpAnyLast P .any ops Q S ds k ls a w.drew) : (Code.region id ops true).wpIn (Fence.wide.inRound l) n P Q a w := by
  subst hn
  subst hl
  exact wpIn_region_any hm (anyIn_of_any (noDefer_of hd) hQ _ _ _ _ (wpAny_of_last _ _ _ _ (h hS)))
end
end Go.Proofs.YtohbeninpmmmpaaDoor
end

section
/- Loads in drawn regions, and slices that came in, in later worlds. -/
set_option linter.unusedSimpArgs false
set_option linter.unusedVariables false
namespace Go.Proofs.YtohbeninpmmmpaaDoor
open Go.RowKit Go.Proofs.YtohbeninpmmmpaaDoorW.PrintWords Go.Proofs.YtohbeninpmmmpaaDoorW.PrintLast Go.Proofs.YtohbeninpmmmpaaDoorW.PrintMore TrydX.X
attribute [local go_sem] Oper.semAt_some
theorem exec_load_int {o : Oper} {a : Act} {w : World} {ta : Operand} {b k : Nat} {v : Value} (hc : w.cell? ⟨b, k, none⟩ = some v) (hop : o.op = .load 3 ta) (ha : a.eval ta = .pointer (some ⟨b, k, none⟩)) : (execOp a.eval o).run Tryd.prog w = .ok (.value v) w := by
  simp only [execOp, hop, ha]
  simp [go_sem, hc]
theorem exec_load_fn {o : Oper} {a : Act} {w : World} {ta : Operand} {b k : Nat} {v : Value} (hc : w.cell? ⟨b, k, none⟩ = some v) (hop : o.op = .load 117 ta) (ha : a.eval ta = .pointer (some ⟨b, k, none⟩)) : (execOp a.eval o).run Tryd.prog w = .ok (.value v) w := by
  simp only [execOp, hop, ha]
  simp [go_sem, hc]
theorem C63_heap {w W : World} {A : Option Addr} {xs : List S63} (h : Kd.C k63 w A xs.length xs) (hh : ∀ k, k < w.heap.size → W.heap[k]? = w.heap[k]?) (hz : w.heap.size ≤ W.heap.size) : Kd.C k63 W A xs.length xs := by
  have h1 : Below w.heap.size w { w with heap := W.heap } := ⟨rfl, rfl, rfl, hz, hh⟩
  have h2 := Kd.C_below h h1
  exact h2
theorem Cint_heap {w W : World} {A : Option Addr} {xs : List Int} (h : Kd.C (Kd.int .i64) w A xs.length xs) (hh : ∀ k, k < w.heap.size → W.heap[k]? = w.heap[k]?) (hz : w.heap.size ≤ W.heap.size) : Kd.C (Kd.int .i64) W A xs.length xs := by
  have h1 : Below w.heap.size w { w with heap := W.heap } := ⟨rfl, rfl, rfl, hz, hh⟩
  have h2 := Kd.C_below h h1
  exact h2
theorem heap_size_of {w W : World} (hh : ∀ k, k < w.heap.size → W.heap[k]? = w.heap[k]?) : w.heap.size ≤ W.heap.size := by
  rcases Nat.eq_zero_or_pos w.heap.size with h0 | h0
  · omega
  · have h1 := hh (w.heap.size - 1) (by omega)
    rw [Array.getElem?_eq_getElem (by omega : w.heap.size - 1 < w.heap.size)] at h1
    have := (Array.getElem?_eq_some_iff.1 h1).1
    omega
theorem F63_of {w W : World} {A : Option Addr} {xs : List S63} (h : Kd.C k63 w A xs.length xs) (hb : Below w.heap.size w W) {St : Nat → Prop} (hS : ∀ k, k < w.heap.size → St k) : Kd.F k63 W St A xs.length xs := fun W' hW =>
  have hh : ∀ k, k < w.heap.size → W'.heap[k]? = w.heap[k]? := fun k hk => (hW k (hS k hk) (Nat.lt_of_lt_of_le hk hb.size)).trans (hb.block k hk)
  C63_heap h hh (heap_size_of hh)
theorem Fint_of {w W : World} {A : Option Addr} {xs : List Int} (h : Kd.C (Kd.int .i64) w A xs.length xs) (hb : Below w.heap.size w W) {St : Nat → Prop} (hS : ∀ k, k < w.heap.size → St k) : Kd.F (Kd.int .i64) W St A xs.length xs := fun W' hW =>
  have hh : ∀ k, k < w.heap.size → W'.heap[k]? = w.heap[k]? := fun k hk => (hW k (hS k hk) (Nat.lt_of_lt_of_le hk hb.size)).trans (hb.block k hk)
  Cint_heap h hh (heap_size_of hh)
theorem keptK_b {St : Nat → Prop} {w : World} (hS : ∀ k, St k → k < w.heap.size) (W : World) (l : Nat) (o o' : Obj) (hl : w.heap.size ≤ l) (h : W.heap[l]? = some o) (_ : o.isCells = false) (_ : o.isWalk = false) : Kept St W (W.putObj l o') :=
  ⟨(grownBy_putObj' W l o').size, fun k hk => (World.putObj_heap_other (fun e => by have := hS k hk; omega))⟩

/-- One block holds something else, all others as before. -/
structure Put (b : Nat) (o : Obj) (w W : World) : Prop where
  here : W.heap[b]? = some o
  rest : ∀ k, k ≠ b → W.heap[k]? = w.heap[k]?
  size : W.heap.size = w.heap.size
  os : W.os = w.os
  tape : W.tape = w.tape
  output : W.output = w.output
theorem Put.below {b n : Nat} {o : Obj} {w W : World} (h : Put b o w W) (hn : n ≤ b) : Below n w W := ⟨h.os, h.tape, h.output, Nat.le_of_eq h.size.symm, fun k hk => h.rest k (by omega)⟩
theorem Put.blk {b k : Nat} {o o' : Obj} {w W : World} (h : Put b o w W) (hk : w.heap[k]? = some o') (hne : k ≠ b) : W.heap[k]? = some o' := (h.rest k hne).trans hk
theorem Put.grown {b : Nat} {o : Obj} {w W : World} (h : Put b o w W) : w.grownBy W (some b) := ⟨h.os, h.tape, h.output, Nat.le_of_eq h.size.symm, fun k _ hk => h.rest k (fun e => hk (by rw [e]))⟩
theorem setCells_blk {b : Nat} {t : TypeId} : ∀ (vs : List Value) (o : Nat) (w : World) (cs : Array Value), w.heap[b]? = some (.cells cs t (0, 0)) → ∃ cs', (w.setCells b o vs).heap[b]? = some (.cells cs' t (0, 0)) ∧ cs'.size = cs.size ∧ ∀ i : Nat, cs'[i]? = if o ≤ i ∧ i < o + vs.length ∧ i < cs.size then vs[i - o]? else cs[i]?
  | [], o, w, cs, h => ⟨cs, h, rfl, fun i => by rw [if_neg (by simp; omega)]⟩
  | v :: vs, o, w, cs, h => by
    obtain ⟨cs', h1, h2, h3⟩ := setCells_blk vs (o + 1) (w.setCell ⟨b, o, none⟩ v) (cs.setIfInBounds o v) (blk_set h o v)
    refine ⟨cs', h1, by rw [h2]; simp, fun i => ?_⟩
    rw [h3]
    simp only [Array.size_setIfInBounds, List.length_cons]
    by_cases hi : i = o
    · subst hi
      rw [if_neg (by omega)]
      by_cases hs : i < cs.size
      · rw [if_pos (by omega)]; simp [hs]
      · rw [if_neg (by omega)]; simp [hs]
    · by_cases hc : o + 1 ≤ i ∧ i < o + 1 + vs.length ∧ i < cs.size
      · rw [if_pos hc, if_pos (by omega)]
        obtain ⟨j, hj⟩ : ∃ j, i - o = j + 1 := ⟨i - o - 1, by omega⟩
        rw [hj, List.getElem?_cons_succ, show i - (o + 1) = j by omega]
      · rw [if_neg hc, if_neg (by omega), Array.getElem?_setIfInBounds_ne (Ne.symm hi)]
theorem setCells_rest {b : Nat} : ∀ (vs : List Value) (o : Nat) (w : World), (w.setCells b o vs).heap.size = w.heap.size ∧ (w.setCells b o vs).os = w.os ∧ (w.setCells b o vs).tape = w.tape ∧ (w.setCells b o vs).output = w.output ∧ ∀ k, k ≠ b → (w.setCells b o vs).heap[k]? = w.heap[k]?
  | [], o, w => ⟨rfl, rfl, rfl, rfl, fun _ _ => rfl⟩
  | v :: vs, o, w => by
    obtain ⟨h1, h2, h3, h4, h5⟩ := setCells_rest vs (o + 1) (w.setCell ⟨b, o, none⟩ v) (b := b)
    have hg := grownBy_setCell' w b v
    refine ⟨h1.trans (by simp [World.setCell]), h2.trans hg.os, h3.trans hg.tape, h4.trans hg.output, fun k hk => (h5 k hk).trans (Below.heap_setCell w ⟨b, o, none⟩ v k hk)⟩
theorem put_setCells {b : Nat} {t : TypeId} {w : World} {cs : Array Value} {vs : List Value} (h : w.heap[b]? = some (.cells cs t (0, 0))) (hl : vs.length = cs.size) : Put b (.cells vs.toArray t (0, 0)) w (w.setCells b 0 vs) := by
  obtain ⟨cs', h1, h2, h3⟩ := setCells_blk vs 0 w cs h
  obtain ⟨r1, r2, r3, r4, r5⟩ := setCells_rest vs 0 w (b := b)
  have e : cs' = vs.toArray := by
    apply Array.ext_getElem?
    intro i
    rw [h3 i]
    by_cases hi : i < cs.size
    · rw [if_pos ⟨Nat.zero_le _, by omega, hi⟩]; simp
    · rw [if_neg (by omega), Array.getElem?_eq_none (by omega)]
      simp; omega
  rw [e] at h1
  exact ⟨h1, r5, r1, r2, r3, r4⟩
theorem there_blk {b n : Nat} {t : TypeId} {w : World} {cs : Array Value} (h : w.heap[b]? = some (.cells cs t (0, 0))) (hn : n ≤ cs.size) : w.there b 0 n := fun j hj => by
  have hj2 : j < cs.size := by omega
  rw [Nat.zero_add]
  exact ⟨by rw [blk_cell h j]; simp [hj2], blk_frozen h j⟩
/-- A whole block is written. -/
theorem wpList_store_blk {ops : Array Oper} {rest : List Oper} {op : Oper} {a : Act} {w : World} {Q : Exit → Act → World → Prop} {ty t : TypeId} {x y : Operand} {b : Nat} {cs vs : Array Value} (hgd : op.guard = none) (ho : op.op = .store ty x y)
    (hx : a.eval x = .pointer (some ⟨b, 0, none⟩)) (hy : a.eval y = .agg vs) (hB : w.heap[b]? = some (.cells cs t (0, 0))) (hl : vs.size = cs.size) (hi : (Tryd.prog.info? ty).map (·.size) = some vs.size) (h1 : vs.all (·.oneCell') = true)
    (h : ∀ W, Put b (.cells vs t (0, 0)) w W → wpList Tryd.prog ops Q rest (a.put op.dst undef) W) : wpList Tryd.prog ops Q (op :: rest) a w :=
  wpList_store_mid hgd ty x y ho b 0 vs hx hy (there_blk hB (by omega)) hi h1 (h _ (by have := put_setCells (vs := vs.toList) hB (by simpa using hl); simpa using this))
end Go.Proofs.YtohbeninpmmmpaaDoor
end

section
/- What is known of a book: opened. -/
set_option linter.unusedSimpArgs false
set_option linter.unusedVariables false
namespace Go.Proofs.YtohbeninpmmmpaaDoor
open Go.RowKit Go.Proofs.YtohbeninpmmmpaaDoorW.PrintWords Go.Proofs.YtohbeninpmmmpaaDoorW.PrintLast Go.Proofs.YtohbeninpmmmpaaDoorW.PrintMore TrydX.X
attribute [local go_sem] Oper.semAt_some

/-- The marks of loops over iterators that have run. -/
def marks (Ds : List Nat) : List Deferred := Ds.map fun D => { target := .collected D, args := #[] }
/-- .. taken: the blocks of the marks alone have turned. -/
structure Taken (Ds : List Nat) (W W' : World) : Prop where
  size : W'.heap.size = W.heap.size
  block : ∀ k, k ∉ Ds → W'.heap[k]? = W.heap[k]?
  os : W'.os = W.os
  tape : W'.tape = W.tape
  output : W'.output = W.output
theorem leaves_marks {F : Fence} {n : Nat} {P : Program} {fn : Func} {tmps : Array Value} {R : Ending → World → Prop} : ∀ (Ds : List Nat) (W : World), Ds.Nodup → (∀ D ∈ Ds, W.heap[D]? = some (.deferred (some []))) →
    (∀ W', Taken Ds W W' → LeavesInM F n P fn tmps R [] .returning W') → LeavesInM F n P fn tmps R (marks Ds) .returning W
  | [], W, _, _, h => h W ⟨rfl, fun _ _ => rfl, rfl, rfl, rfl⟩
  | D :: Ds, W, hn, hD, h => by
    have hn' := List.nodup_cons.1 hn
    refine ⟨by simp, .inl ⟨D, _, rfl, run_takeDeferred (hD D (by simp)), ?_⟩⟩
    refine leaves_marks Ds _ hn'.2 (fun E hE => (World.putObj_heap_other (fun e => hn'.1 (by rw [← e]; exact hE))).trans (hD E (by simp [hE]))) fun W' hT => h W' ?_
    refine ⟨hT.size.trans (by show (W.heap.setIfInBounds D _).size = _; simp), fun k hk => ?_, hT.os, hT.tape, hT.output⟩
    simp only [List.mem_cons, not_or] at hk
    exact (hT.block k hk.2).trans (World.putObj_heap_other (fun e => hk.1 e))

set_option maxHeartbeats 400000 in
/-- The iterator's value. -/
theorem looks_any (N b0 b1 r0 r1 : Int) (v5 v6 v7 : Value) (m : Nat) (nt : Int) (vw : Value) (hvw : ∃ a n c, vw = .slice a n c) (w : World) :
    Calls Tryd.prog 87 #[bookV N b0 b1 r0 r1 v5 v6 v7 m, .int .i64 nt, vw] w fun e w' => e = .returned (.func (.func 90) #[] #[.pointer (some ⟨w.heap.size, 0, none⟩), .pointer (some ⟨w.heap.size + 1, 0, none⟩), .pointer (some ⟨w.heap.size + 1 + 1, 0, none⟩)]) ∧
      w' = ((w.alloc (.cells #[.int .i64 N, .int .i64 b0, .int .i64 b1, .int .i64 r0, .int .i64 r1, v5, v6, v7, .map (some m)] 80)).alloc (.cells #[.int .i64 nt] 3)).alloc (.cells #[vw] 28) := by
  obtain ⟨a, k, c, rfl⟩ := hvw
  go_enter Tryd.func87, Tryd.ntmps87
  go_wp2
  go_ret
  exact ⟨rfl, rfl⟩

/-- The thing that a look compares a night's offset with. -/
def thingOf (x : S63) : Int := if x.f1 = 0 then 9 + x.f2 else 13 + x.f2
def lookB (n : Int) (es : List ((Int × Int) × Int)) (x : S63) : List ((Int × Int) × Int) := boundK es (1 + n) (thingOf x) (x.f3 - x.f4) (x.f3 + x.f4) 2
def rateB (r0 r1 : Int) (n : Nat) (es : List ((Int × Int) × Int)) : List ((Int × Int) × Int) := if n = 0 then es else boundK es (1 + (n : Int)) (1 + ((n : Int) - 1)) r0 r1 2
def nightB (r0 r1 : Int) (xs : List S63) (wo : List Int) (es : List ((Int × Int) × Int)) (n : Nat) : List ((Int × Int) × Int) := (picks xs n wo).foldl (lookB n) (rateB r0 r1 n es)
def nightsB (b0 b1 r0 r1 : Int) (xs : List S63) (wo : List Int) (k : Nat) : List ((Int × Int) × Int) := (List.range k).foldl (nightB r0 r1 xs wo) (boundK [] 1 0 b0 b1 2)
def personB (ps : List S23) (es : List ((Int × Int) × Int)) (i : Nat) : List ((Int × Int) × Int) := boundK es (9 + (i : Int)) 0 (-(rd_T23 ps i).f1) (-(rd_T23 ps i).f0) 2
def pathB (ps : List S23) (es : List ((Int × Int) × Int)) (i : Nat) : List ((Int × Int) × Int) := boundK es (13 + (i : Int)) 0 (rd_T23 ps i).f0 (rd_T23 ps i).f1 2
def peopleB (ps : List S23) (es : List ((Int × Int) × Int)) (k : Nat) : List ((Int × Int) × Int) := (List.range k).foldl (personB ps) es
def pathsB (ps : List S23) (es : List ((Int × Int) × Int)) (k : Nat) : List ((Int × Int) × Int) := (List.range k).foldl (pathB ps) es
/-- What is known of a book. -/
def openedM (N b0 b1 r0 r1 : Int) (l5 l6 : List S23) (l7 : List S63) (wo : List Int) : List ((Int × Int) × Int) := pathsB l6 (peopleB l5 (nightsB b0 b1 r0 r1 l7 wo N.toNat) l5.length) l6.length
theorem nightsB_succ (b0 b1 r0 r1 : Int) (xs : List S63) (wo : List Int) (k : Nat) : nightsB b0 b1 r0 r1 xs wo (k + 1) = nightB r0 r1 xs wo (nightsB b0 b1 r0 r1 xs wo k) k := by simp [nightsB, List.range_succ]
theorem peopleB_succ (ps : List S23) (es : List ((Int × Int) × Int)) (k : Nat) : peopleB ps es (k + 1) = personB ps (peopleB ps es k) k := by simp [peopleB, List.range_succ]
theorem pathsB_succ (ps : List S23) (es : List ((Int × Int) × Int)) (k : Nat) : pathsB ps es (k + 1) = pathB ps (pathsB ps es k) k := by simp [pathsB, List.range_succ]

/-- The table of what looks compare with. -/
def Kinds (w : World) : Prop := w.cell? ⟨0, 0, none⟩ = some (.func (.func 57) #[] #[]) ∧ w.cell? ⟨0, 1, none⟩ = some (.func (.func 58) #[] #[])
theorem Kinds.below {w w' : World} (h : Kinds w) (hb : Below w.heap.size w w') : Kinds w' := ⟨cell_below hb h.1, cell_below hb h.2⟩

def opened2T : Bool × List (List Nat × List Nat) := (true, [([], []), ([], []), ([1], [1]), ([], []), ([3], [3]), ([0, 2, 4, 2], [0, 2, 4])])
def opened2B : List Nat := [0, 0, 2, 0, 8, 31]
theorem opened2_tab : rtab .any (opsOf Tryd.f55 2) = opened2T := by kernel_rfl
theorem opened2_bits : waitsOk opened2T.2 opened2B = true := by kernel_rfl
def opened7T : Bool × List (List Nat × List Nat) := (true, [([], []), ([], []), ([], []), ([1, 2], [1, 2]), ([], []), ([], []), ([5], [5]), ([4, 6, 3], [4, 6]), ([], []), ([8], [8]), ([0, 3, 7, 9, 7], [0, 3, 7, 9])])
def opened7B : List Nat := [0, 0, 0, 6, 0, 0, 32, 126, 0, 256, 1023]
theorem opened7_tab : rtab .any (opsOf Tryd.f55 7) = opened7T := by kernel_rfl
theorem opened7_bits : waitsOk opened7T.2 opened7B = true := by kernel_rfl
def opened10T : Bool × List (List Nat × List Nat) := (true, [([], []), ([], []), ([], []), ([1, 2], [1, 2]), ([], []), ([4], [4]), ([5], [5]), ([6], [6]), ([], []), ([], []), ([9], [9]), ([7, 8, 10, 3], [7, 8, 10]), ([], []), ([12], [12]), ([], []), ([14], [14]), ([13, 15], [13, 15]), ([], []), ([17], [17]), ([], []), ([19], [19]), ([18, 20], [18, 20]), ([16, 21], [16, 21]), ([0, 3, 11, 22, 11], [0, 3, 11, 22])])
def opened10B : List Nat := [0, 0, 0, 6, 0, 16, 48, 112, 0, 0, 512, 2046, 0, 4096, 0, 16384, 61440, 0, 131072, 0, 524288, 1966080, 4190208, 8388607]
theorem opened10_tab : rtab .any (opsOf Tryd.f55 10) = opened10T := by kernel_rfl
theorem opened10_bits : waitsOk opened10T.2 opened10B = true := by kernel_rfl
def opened15T : Bool × List (List Nat × List Nat) := (true, [([], []), ([], []), ([], []), ([1, 2], [1, 2]), ([], []), ([4], [4]), ([5], [5]), ([], []), ([7], [7]), ([8], [8]), ([6, 9], [6, 9]), ([0, 3, 10, 3], [0, 3, 10])])
def opened15B : List Nat := [0, 0, 0, 6, 0, 16, 48, 0, 128, 384, 1008, 2047]
theorem opened15_tab : rtab .any (opsOf Tryd.f55 15) = opened15T := by kernel_rfl
theorem opened15_bits : waitsOk opened15T.2 opened15B = true := by kernel_rfl
def opened20T : Bool × List (List Nat × List Nat) := (true, [([], []), ([], []), ([], []), ([1, 2], [1, 2]), ([], []), ([0, 3, 4, 3], [0, 3, 4])])
def opened20B : List Nat := [0, 0, 0, 6, 0, 31]
theorem opened20_tab : rtab .any (opsOf Tryd.f55 20) = opened20T := by kernel_rfl
theorem opened20_bits : waitsOk opened20T.2 opened20B = true := by kernel_rfl

theorem exec_load_blk {P : Program} {o : Oper} {a : Act} {w : World} {t t' : TypeId} {ta : Operand} {b : Nat} {cs : Array Value} {d : TypeDesc} (hB : w.heap[b]? = some (.cells cs t' (0, 0))) (hop : o.op = .load t ta) (ha : a.eval ta = .pointer (some ⟨b, 0, none⟩))
    (hu : P.underlying t = some d) (hd : d.isRow = true) (hi : (P.info? t).map (·.size) = some cs.size) : (execOp a.eval o).run P w = .ok (.value (.agg cs)) w := by
  have hs := run_loadAt_mid (P := P) w b 0 t cs.toList d (fun j v hv => by rw [Nat.zero_add, blk_cell hB j]; simpa using hv) hu hd (by simpa using hi)
  simp only [execOp, hop, ha, Sem.run_bind, hs, Result.andThen_ok, Sem.run_pure, Array.toArray_toList]
theorem exec_load_part {P : Program} {o : Oper} {a : Act} {w : World} {t t' : TypeId} {ta : Operand} {b k : Nat} {cs : Array Value} {ds : List Value} {d : TypeDesc} (hB : w.heap[b]? = some (.cells cs t' (0, 0))) (hop : o.op = .load t ta) (ha : a.eval ta = .pointer (some ⟨b, k, none⟩))
    (hds : ∀ j v, ds[j]? = some v → cs[k + j]? = some v) (hu : P.underlying t = some d) (hd : d.isRow = true) (hi : (P.info? t).map (·.size) = some ds.length) : (execOp a.eval o).run P w = .ok (.value (.agg ds.toArray)) w := by
  have hs := run_loadAt_mid (P := P) w b k t ds d (fun j v hv => by rw [blk_cell hB (k + j)]; exact hds j v hv) hu hd hi
  simp only [execOp, hop, ha, Sem.run_bind, hs, Result.andThen_ok, Sem.run_pure]
/-- The blocks of opened, in whatever world behind. -/
structure OpW (bx bk : Array Value) (w W : World) : Prop where
  bel : Below w.heap.size w W
  x : W.heap[w.heap.size]? = some (.cells bx 27 (0, 0))
  r : W.heap[w.heap.size + 1]? = some (.cells #[.int .i64 0, .int .i64 0, .int .i64 0, .int .i64 0, .int .i64 0, .slice none 0 0, .slice none 0 0, .slice none 0 0, .map none] 80 (0, 0))
  b : W.heap[w.heap.size + 1 + 1 + 1]? = some (.cells bk 80 (0, 0))
theorem OpW.size {bx bk : Array Value} {w W : World} (h : OpW bx bk w W) : w.heap.size + 1 + 1 + 1 < W.heap.size := blk_lt h.b
theorem OpW.below {bx bk : Array Value} {w W W1 : World} (h : OpW bx bk w W) (hb : Below W.heap.size W W1) : OpW bx bk w W1 :=
  ⟨h.bel.trans (hb.mono (by have := h.size; omega)), blk_below h.x hb, blk_below h.r hb, blk_below h.b hb⟩
theorem OpW.grown {bx bk : Array Value} {w W W1 : World} (h : OpW bx bk w W) (hg : W.grownBy W1 (some (w.heap.size + 1 + 1))) : OpW bx bk w W1 := by
  have hz := h.size
  refine ⟨⟨hg.os.trans h.bel.os, hg.tape.trans h.bel.tape, hg.output.trans h.bel.output, Nat.le_trans h.bel.size hg.size, fun k hk => ?_⟩, blk_grown h.x hg ?_, blk_grown h.r hg ?_, blk_grown h.b hg ?_⟩
  · exact (hg.block k (by omega) (by intro e; injection e; omega)).trans (h.bel.block k hk)
  all_goals (intro e; injection e; omega)
theorem opW_is (bx bk : Array Value) (w : World) : OpW bx bk w ((((w.alloc (.cells bx 27)).alloc (.cells #[.int .i64 0, .int .i64 0, .int .i64 0, .int .i64 0, .int .i64 0, .slice none 0 0, .slice none 0 0, .slice none 0 0, .map none] 80)).alloc (.map #[] 0)).alloc (.cells bk 80)) := by
  refine ⟨?_, blk_alloc (blk_alloc (blk_alloc (blk_new w _) _) _) _, ?_, ?_⟩
  · repeat with_reducible (first | exact Below.refl _ _ | refine Below.alloc ?_ (by simp <;> omega) _)
  · have h := blk_new (w.alloc (.cells bx 27)) (.cells #[.int .i64 0, .int .i64 0, .int .i64 0, .int .i64 0, .int .i64 0, .slice none 0 0, .slice none 0 0, .slice none 0 0, .map none] 80)
    rw [World.size_alloc] at h
    exact blk_alloc (blk_alloc h _) _
  · have h := blk_new (((w.alloc (.cells bx 27)).alloc (.cells #[.int .i64 0, .int .i64 0, .int .i64 0, .int .i64 0, .int .i64 0, .slice none 0 0, .slice none 0 0, .slice none 0 0, .map none] 80)).alloc (.map #[] 0)) (.cells bk 80)
    rw [World.size_alloc, World.size_alloc, World.size_alloc] at h
    exact h
theorem pmap_new (bx bz bk : Obj) (w : World) : PMap ((((w.alloc bx).alloc bz).alloc (.map #[] 0)).alloc bk) (w.heap.size + 1 + 1) [] := by
  have h := blk_new ((w.alloc bx).alloc bz) (.map #[] 0)
  rw [World.size_alloc, World.size_alloc] at h
  exact PMap.alloc (PMap.new h) _
/-- A postcondition that lets no panic out. -/
def calm (Q : Exit → Act → World → Prop) : Exit → Act → World → Prop
  | .panic _, _, _ => False
  | e, a, w => Q e a w
theorem wp_calm {P : Program} {c : Code} {Q : Exit → Act → World → Prop} {a : Act} {w : World} (h : c.wp P (calm Q) a w) : c.wp P Q a w := Code.wp_mono (fun e a w q => by cases e <;> first | exact q | exact q.elim) h
theorem calm_normal {Q : Exit → Act → World → Prop} {a : Act} {w : World} (h : Q .normal a w) : calm Q .normal a w := h
/-- What holds between the rounds over the looks of a night. -/
structure OpI (bx bk : Array Value) (w : World) (t6 : Nat) (k : Int) (Ds : List Nat) (es : List ((Int × Int) × Int)) (W : World) : Prop where
  opw : OpW bx bk w W
  map : PMap W (w.heap.size + 1 + 1) es
  cell : W.heap[t6]? = some (.cells #[.int .i64 k] 3 (0, 0))
  old : ∀ D ∈ Ds, W.heap[D]? = some (.deferred (some []))
theorem OpI.grown {bx bk : Array Value} {w : World} {t6 : Nat} {k : Int} {Ds : List Nat} {es : List ((Int × Int) × Int)} {W W1 : World} {B : Nat} {row : Option Nat} (h : OpI bx bk w t6 k Ds es W) (hg : W.grownBy W1 row) (hr : ∀ r, row = some r → B ≤ r) (h6 : t6 < B) (hB : w.heap.size + 1 + 1 + 1 < B) (hD : ∀ D ∈ Ds, D < B) : OpI bx bk w t6 k Ds es W1 := by
  have ne : ∀ j, j < B → some j ≠ row := fun j hj e => by have := hr j e.symm; omega
  refine ⟨⟨⟨hg.os.trans h.opw.bel.os, hg.tape.trans h.opw.bel.tape, hg.output.trans h.opw.bel.output, Nat.le_trans h.opw.bel.size hg.size, fun j hj => ?_⟩, blk_grown h.opw.x hg (ne _ (by omega)), blk_grown h.opw.r hg (ne _ (by omega)), blk_grown h.opw.b hg (ne _ (by omega))⟩, h.map.grown hg (ne _ (by omega)), blk_grown h.cell hg (ne _ h6), fun D hd => blk_grown (h.old D hd) hg (ne _ (hD D hd))⟩
  exact (hg.block j (Nat.lt_of_lt_of_le hj h.opw.bel.size) (ne _ (by omega))).trans (h.opw.bel.block j hj)
theorem OpI.below {bx bk : Array Value} {w : World} {t6 : Nat} {k : Int} {Ds : List Nat} {es : List ((Int × Int) × Int)} {W W1 : World} (h : OpI bx bk w t6 k Ds es W) (hb : Below W.heap.size W W1) : OpI bx bk w t6 k Ds es W1 :=
  ⟨h.opw.below hb, h.map.below hb, blk_below h.cell hb, fun D hd => blk_below (h.old D hd) hb⟩
theorem OpI.put {bx bk : Array Value} {w : World} {t6 : Nat} {k : Int} {Ds : List Nat} {es es' : List ((Int × Int) × Int)} {W W1 : World} (h : OpI bx bk w t6 k Ds es W) (hg : W.grownBy W1 (some (w.heap.size + 1 + 1))) (hM : PMap W1 (w.heap.size + 1 + 1) es') (h6 : w.heap.size + 1 + 1 < t6) (hD : ∀ D ∈ Ds, w.heap.size + 1 + 1 < D) : OpI bx bk w t6 k Ds es' W1 :=
  ⟨h.opw.grown hg, hM, blk_grown h.cell hg (by intro e; injection e; omega), fun D hd => blk_grown (h.old D hd) hg (by have := hD D hd; intro e; injection e; omega)⟩
/-- What holds in the loops behind. -/
structure OpJ (bx bk : Array Value) (w : World) (Ds : List Nat) (es : List ((Int × Int) × Int)) (W : World) : Prop where
  opw : OpW bx bk w W
  map : PMap W (w.heap.size + 1 + 1) es
  old : ∀ D ∈ Ds, W.heap[D]? = some (.deferred (some []))
theorem OpJ.below {bx bk : Array Value} {w : World} {Ds : List Nat} {es : List ((Int × Int) × Int)} {W W1 : World} (h : OpJ bx bk w Ds es W) (hb : Below W.heap.size W W1) : OpJ bx bk w Ds es W1 :=
  ⟨h.opw.below hb, h.map.below hb, fun D hd => blk_below (h.old D hd) hb⟩
theorem OpJ.put {bx bk : Array Value} {w : World} {Ds : List Nat} {es es' : List ((Int × Int) × Int)} {W W1 : World} (h : OpJ bx bk w Ds es W) (hg : W.grownBy W1 (some (w.heap.size + 1 + 1))) (hM : PMap W1 (w.heap.size + 1 + 1) es') (hD : ∀ D ∈ Ds, w.heap.size + 1 + 1 < D) : OpJ bx bk w Ds es' W1 :=
  ⟨h.opw.grown hg, hM, fun D hd => blk_grown (h.old D hd) hg (by have := hD D hd; intro e; injection e; omega)⟩
set_option maxRecDepth 100000 in
set_option maxHeartbeats 4000000 in
theorem opened_any (N b0 b1 r0 r1 : Int) (A5 : Option Addr) (c5 : Nat) (l5 : List S23) (A6 : Option Addr) (c6 : Nat) (l6 : List S23) (A7 : Option Addr) (c7 : Nat) (l7 : List S63) (Aw : Option Addr) (cw : Nat) (wo : List Int)
    (w : World) (hK : Kinds w) (h5 : Kd.C k23 w A5 l5.length l5) (h6 : Kd.C k23 w A6 l6.length l6) (h7 : Kd.C k63 w A7 l7.length l7) (hw : Kd.C (Kd.int .i64) w Aw wo.length wo)
    (hN : 1 ≤ N ∧ N ≤ 8) (hb0 : -20000 ≤ b0) (hb1 : b1 ≤ 20000) (hbb : b0 ≤ b1) (hr0 : -1000 ≤ r0) (hrr : r0 ≤ r1) (hr1 : r1 ≤ 1000) (hlen : l5.length ≤ 4 ∧ l6.length ≤ 4 ∧ l7.length ≤ 10 ∧ wo.length ≤ 100) (hlk : ∀ x ∈ l7, (x.f1 = 0 ∨ x.f1 = 1) ∧ (0 ≤ x.f2 ∧ x.f2 ≤ 100) ∧ (-30000 ≤ x.f3 ∧ x.f3 ≤ 30000) ∧ 0 ≤ x.f4 ∧ x.f4 ≤ 2000)
    (hps : ∀ i : Nat, i < l5.length → -5000 ≤ (rd_T23 l5 i).f0 ∧ (rd_T23 l5 i).f0 ≤ 5000 ∧ -5000 ≤ (rd_T23 l5 i).f1 ∧ (rd_T23 l5 i).f1 ≤ 5000) (hpa : ∀ i : Nat, i < l6.length → -5000 ≤ (rd_T23 l6 i).f0 ∧ (rd_T23 l6 i).f0 ≤ 5000) :
    Calls Tryd.prog 55 #[.agg #[.int .i64 N, .int .i64 b0, .int .i64 b1, .int .i64 r0, .int .i64 r1, .slice A5 l5.length c5, .slice A6 l6.length c6, .slice A7 l7.length c7], .slice Aw wo.length cw] w fun e w' =>
      ∃ m, w.heap.size ≤ m ∧ e = .returned (bookV N b0 b1 r0 r1 (.slice A5 l5.length c5) (.slice A6 l6.length c6) (.slice A7 l7.length c7) m) ∧ PMap w' m (openedM N b0 b1 r0 r1 l5 l6 l7 wo) ∧ Below w.heap.size w w' := by
  have hmm := @run_makeMap Tryd.prog
  refine (callsIn_wide (n := 5)).1 ?_
  refine callsIn_of_wp_marks Tryd.func55 rfl trivial ?_ rfl
  simp only [Tryd.ntmps55, List.size_toArray, List.length_cons, List.length_nil, Nat.reduceAdd, Nat.reduceSub, Array.replicate_succ, Array.replicate_zero, List.push_toArray, List.append_toArray, List.nil_append, List.cons_append]
  refine wpIn_wide.2 ?_
  go_wp2_with fail
  have hW := opW_is #[.int .i64 N, .int .i64 b0, .int .i64 b1, .int .i64 r0, .int .i64 r1, .slice A5 l5.length c5, .slice A6 l6.length c6, .slice A7 l7.length c7] #[.int .i64 N, .int .i64 b0, .int .i64 b1, .int .i64 r0, .int .i64 r1, .slice A5 l5.length c5, .slice A6 l6.length c6, .slice A7 l7.length c7, .map (some (w.heap.size + 1 + 1))] w
  have hM := pmap_new (.cells #[.int .i64 N, .int .i64 b0, .int .i64 b1, .int .i64 r0, .int .i64 r1, .slice A5 l5.length c5, .slice A6 l6.length c6, .slice A7 l7.length c7] 27) (.cells #[.int .i64 0, .int .i64 0, .int .i64 0, .int .i64 0, .int .i64 0, .slice none 0 0, .slice none 0 0, .slice none 0 0, .map none] 80) (.cells #[.int .i64 N, .int .i64 b0, .int .i64 b1, .int .i64 r0, .int .i64 r1, .slice A5 l5.length c5, .slice A6 l6.length c6, .slice A7 l7.length c7, .map (some (w.heap.size + 1 + 1))] 80) w
  generalize ((((w.alloc (.cells #[.int .i64 N, .int .i64 b0, .int .i64 b1, .int .i64 r0, .int .i64 r1, .slice A5 l5.length c5, .slice A6 l6.length c6, .slice A7 l7.length c7] 27)).alloc (.cells #[.int .i64 0, .int .i64 0, .int .i64 0, .int .i64 0, .int .i64 0, .slice none 0 0, .slice none 0 0, .slice none 0 0, .map none] 80)).alloc (.map #[] 0)).alloc
        (.cells #[.int .i64 N, .int .i64 b0, .int .i64 b1, .int .i64 r0, .int .i64 r1, .slice A5 l5.length c5, .slice A6 l6.length c6, .slice A7 l7.length c7, .map (some (w.heap.size + 1 + 1))] 80)) = W0 at hW hM ⊢
  have hWd := hW.below ((Below.refl _ W0).drew)
  have hMd := hM.drew
  have HK := Lib.hid hK
  clear hW hM hK
  refine wp_calm ?_
  refine start_ (n := 6) (S := fun w' => w'.heap[w.heap.size]? = some (.cells #[.int .i64 N, .int .i64 b0, .int .i64 b1, .int .i64 r0, .int .i64 r1, .slice A5 l5.length c5, .slice A6 l6.length c6, .slice A7 l7.length c7] 27 (0, 0)) ∧ w'.heap[w.heap.size + 1 + 1 + 1]? = some (.cells #[.int .i64 N, .int .i64 b0, .int .i64 b1, .int .i64 r0, .int .i64 r1, .slice A5 l5.length c5, .slice A6 l6.length c6, .slice A7 l7.length c7, .map (some (w.heap.size + 1 + 1))] 80 (0, 0))) (ds := [5]) #[false, false, false, false, false, false] (by kernel_rfl) rfl rfl ⟨hWd.x, hWd.b⟩ (fun hHeld => ?_)
  refine with_tabW opened2_tab opened2_bits (fun HT_ HW_ => ?_)
  generalize W0.drew = W1 at hWd hMd hHeld ⊢
  refine takeA 0 15 rfl rfl (by rintro w' ⟨s0, s1⟩; exact exec_load_blk s1 rfl rfl Tryd.underlying80 rfl (by kernel_rfl)) ?_
  refine takeA 1 16 rfl rfl (by rintro w' ⟨s0, s1⟩; exact exec_load_blk s1 rfl rfl Tryd.underlying80 rfl (by kernel_rfl)) ?_
  refine pureA 3 18 ?_
  refine takeA 4 19 rfl rfl (by rintro w' ⟨s0, s1⟩; exact exec_load_part (k := 1) (ds := [.int .i64 b0, .int .i64 b1]) s0 rfl rfl (fun j v hv => by match j with | 0 => exact hv | 1 => exact hv | j + 2 => cases hv) Tryd.underlying23 rfl (by kernel_rfl)) ?_
  refine oneA 2 (some 17) (fun K hK => ?_)
  refine call_ 56 #[(bookV N b0 b1 r0 r1 (.slice A5 l5.length c5) (.slice A6 l6.length c6) (.slice A7 l7.length c7) (w.heap.size + 1 + 1)), .int .i64 0] (by rfl) rfl ?_ ?_
  · go_simp
    try rfl
  refine (night_any N b0 b1 r0 r1 _ _ _ _ 0 (by omega) W1).mono ?_
  rintro e w2 ⟨rfl, hb2⟩
  refine ⟨_, rfl, ?_⟩
  have hW2 := hWd.below hb2
  have hM2 := hMd.below hb2
  refine hK.out _ _ ⟨hW2.x, hW2.b⟩ (fun hHeld => ?_)
  clear hK K hWd hMd hb2
  refine normA 17 ?_
  refine lastA 5 (some 20) (fun K hK => ?_)
  refine call_ 74 #[(bookV N b0 b1 r0 r1 (.slice A5 l5.length c5) (.slice A6 l6.length c6) (.slice A7 l7.length c7) (w.heap.size + 1 + 1)), .int .i64 1, .int .i64 0, .agg #[.int .i64 b0, .int .i64 b1]] (by rfl) rfl ?_ ?_
  · go_simp
    try rfl
  refine (bound_any N b0 b1 r0 r1 _ _ _ (w.heap.size + 1 + 1) 1 0 b0 b1 [] (by omega) w2 hM2).mono ?_
  rintro e w3 ⟨rfl, hM3, hg3⟩
  refine ⟨_, rfl, ?_⟩
  have hW3 := hW2.grown hg3
  refine hK.out _ _ ?_
  clear hK K hW2 hM2 hHeld
  refine normA 20 ?_
  refine done_ (done_of HT_.out (by kernel_rfl)) ?_
  clear HT_ HW_ hg3
  refine calm_normal ?_
  have hn0 : w3.cell? ⟨w.heap.size, 0, none⟩ = some (.int .i64 N) := by rw [blk_cell hW3.x 0]; rfl
  have HW3 := Lib.hid hW3
  have HM3 := Lib.hid hM3
  clear hW3 hM3
  go_wp2_with fail
  refine wp_loop (fun a' W => ∃ (k : Nat) (Ds : List Nat) (u6 u23 u24 u25 u26 u27 u28 u29 u30 u31 u32 u33 u34 u35 u36 u37 u38 u39 u40 u41 u42 u68 : Value), (k ≤ N.toNat ∧ u23 = .int .i64 k ∧ OpW #[.int .i64 N, .int .i64 b0, .int .i64 b1, .int .i64 r0, .int .i64 r1, .slice A5 l5.length c5, .slice A6 l6.length c6, .slice A7 l7.length c7] #[.int .i64 N, .int .i64 b0, .int .i64 b1, .int .i64 r0, .int .i64 r1, .slice A5 l5.length c5, .slice A6 l6.length c6, .slice A7 l7.length c7, .map (some (w.heap.size + 1 + 1))] w W ∧ PMap W (w.heap.size + 1 + 1) (nightsB b0 b1 r0 r1 l7 wo k) ∧ Ds.Nodup ∧ ∀ D ∈ Ds, w.heap.size + 1 + 1 + 1 < D ∧ W.heap[D]? = some (.deferred (some []))) ∧
      a' = { tmps := #[.agg #[.int .i64 N, .int .i64 b0, .int .i64 b1, .int .i64 r0, .int .i64 r1, .slice A5 l5.length c5, .slice A6 l6.length c6, .slice A7 l7.length c7], .slice Aw wo.length cw, .pointer (some ⟨w.heap.size, 0, none⟩), undef, .pointer (some ⟨w.heap.size + 1, 0, none⟩), .pointer (some ⟨w.heap.size + 1 + 1 + 1, 0, none⟩), u6, undef, undef, undef, undef, undef, .agg #[.int .i64 N, .int .i64 b0, .int .i64 b1, .int .i64 r0, .int .i64 r1, .slice A5 l5.length c5, .slice A6 l6.length c6, .slice A7 l7.length c7], .map (some (w.heap.size + 1 + 1)), .agg #[.int .i64 N, .int .i64 b0, .int .i64 b1, .int .i64 r0, .int .i64 r1, .slice A5 l5.length c5, .slice A6 l6.length c6, .slice A7 l7.length c7, .map (some (w.heap.size + 1 + 1))], .agg #[.int .i64 N, .int .i64 b0, .int .i64 b1, .int .i64 r0, .int .i64 r1, .slice A5 l5.length c5, .slice A6 l6.length c6, .slice A7 l7.length c7, .map (some (w.heap.size + 1 + 1))], .agg #[.int .i64 N, .int .i64 b0, .int .i64 b1, .int .i64 r0, .int .i64 r1, .slice A5 l5.length c5, .slice A6 l6.length c6, .slice A7 l7.length c7, .map (some (w.heap.size + 1 + 1))], .int .i64 (1 + 0), .pointer (some ⟨w.heap.size, 1, none⟩), .agg #[.int .i64 b0, .int .i64 b1], .tuple #[], .pointer (some ⟨w.heap.size, 0, none⟩), .int .i64 N, u23, u24, u25, u26, u27, u28, u29, u30, u31, u32, u33, u34, u35, u36, u37, u38, u39, u40, u41, u42, undef, undef, undef, undef, undef, undef, undef, undef, undef, undef, undef, undef, undef, undef, undef, undef, undef, undef, undef, undef, undef, undef, undef, undef, undef, u68, undef, undef, undef, undef, undef, undef, undef, undef, undef, undef, undef, undef, undef, undef, undef, undef, undef, undef, undef, undef, undef, undef, undef, undef, undef, undef, undef, undef, undef, undef, undef, undef, undef, undef, undef, undef, undef], defers := marks Ds }) (fun a' _ => N.toNat - (intOf (a'.tmps.getD 23 undef)).toNat) ?start ?round
  case start =>
    refine ⟨0, [], ?_⟩
    (repeat apply Exists.intro)
    exact ⟨⟨Nat.zero_le _, rfl, HW3.out, HM3.out, List.nodup_nil, fun D h => by cases h⟩, rfl⟩
  case round =>
    rintro a' W ⟨k, Ds, u6, u23, u24, u25, u26, u27, u28, u29, u30, u31, u32, u33, u34, u35, u36, u37, u38, u39, u40, u41, u42, u68, ⟨hk, rfl, hW, hM, hDn, hD⟩, rfl⟩
    by_cases hlt : k < N.toNat
    · have hkN : (k : Int) < N := by omega
      have HW := Lib.hid hW
      have HM := Lib.hid hM
      have HD := Lib.hid hD
      have hxW := hW.x
      have hbW := hW.b
      have hsW := hW.size
      clear hW hM hD hn0 HW3 HM3
      have hb6 := blk_alloc hbW (.cells #[.int .i64 (k : Int)] 3)
      have hx6 := blk_alloc hxW (.cells #[.int .i64 (k : Int)] 3)
      have ht6 := blk_new W (.cells #[.int .i64 (k : Int)] 3)
      have hI6 : OpI #[.int .i64 N, .int .i64 b0, .int .i64 b1, .int .i64 r0, .int .i64 r1, .slice A5 l5.length c5, .slice A6 l6.length c6, .slice A7 l7.length c7] #[.int .i64 N, .int .i64 b0, .int .i64 b1, .int .i64 r0, .int .i64 r1, .slice A5 l5.length c5, .slice A6 l6.length c6, .slice A7 l7.length c7, .map (some (w.heap.size + 1 + 1))] w W.heap.size k Ds (nightsB b0 b1 r0 r1 l7 wo k) (W.alloc (.cells #[.int .i64 (k : Int)] 3)) := ⟨HW.out.below ((Below.refl _ _).alloc (Nat.le_refl _) _), HM.out.alloc _, ht6, fun D hd => blk_alloc (HD.out D hd).2 _⟩
      by_cases hk0 : k = 0
      · have hk1 : ¬ (0 : Int) < (k : Int) := by omega
        have HK0 := Lib.hid hk0
        clear hk0
        have HI : Hid (OpI #[.int .i64 N, .int .i64 b0, .int .i64 b1, .int .i64 r0, .int .i64 r1, .slice A5 l5.length c5, .slice A6 l6.length c6, .slice A7 l7.length c7] #[.int .i64 N, .int .i64 b0, .int .i64 b1, .int .i64 r0, .int .i64 r1, .slice A5 l5.length c5, .slice A6 l6.length c6, .slice A7 l7.length c7, .map (some (w.heap.size + 1 + 1))] w W.heap.size k Ds (rateB r0 r1 k (nightsB b0 b1 r0 r1 l7 wo k)) (W.alloc (.cells #[.int .i64 (k : Int)] 3))) := Lib.hid (by unfold rateB; rw [if_pos HK0.out]; exact hI6)
        clear hI6
        have hbN := hb6
        go_wp2_with (first | (refine wpList_load_row rfl 80 _ rfl (w.heap.size + 1 + 1 + 1) rfl 80 #[.int .i64 N, .int .i64 b0, .int .i64 b1, .int .i64 r0, .int .i64 r1, .slice A5 l5.length c5, .slice A6 l6.length c6, .slice A7 l7.length c7, .map (some (w.heap.size + 1 + 1))] (0, 0) _ hbN Tryd.underlying80 rfl (by kernel_rfl) ?_) | (go_at_call 87; refine (looks_any _ _ _ _ _ _ _ _ _ _ _ ⟨_, _, _, rfl⟩ _).mono ?_; rintro e w' ⟨rfl, rfl⟩))
        have hzB : (W.alloc (.cells #[.int .i64 (k : Int)] 3)).heap.size = W.heap.size + 1 := World.size_alloc _ _
        generalize W.alloc (.cells #[.int .i64 (k : Int)] 3) = W7 at *
        have hg7 : (((W7.alloc (.cells #[.int .i64 N, .int .i64 b0, .int .i64 b1, .int .i64 r0, .int .i64 r1, .slice A5 l5.length c5, .slice A6 l6.length c6, .slice A7 l7.length c7, .map (some (w.heap.size + 1 + 1))] 80)).alloc (.cells #[.int .i64 (k : Int)] 3)).alloc (.cells #[.slice Aw wo.length cw] 28)).heap.size = W.heap.size + 1 + 3 := by simp only [World.size_alloc] <;> omega
        have hbel : Below W7.heap.size W7 (((W7.alloc (.cells #[.int .i64 N, .int .i64 b0, .int .i64 b1, .int .i64 r0, .int .i64 r1, .slice A5 l5.length c5, .slice A6 l6.length c6, .slice A7 l7.length c7, .map (some (w.heap.size + 1 + 1))] 80)).alloc (.cells #[.int .i64 (k : Int)] 3)).alloc (.cells #[.slice Aw wo.length cw] 28)) := by
          repeat with_reducible (first | exact Below.refl _ _ | refine Below.alloc ?_ (by simp <;> omega) _)
        have hq0 : (((W7.alloc (.cells #[.int .i64 N, .int .i64 b0, .int .i64 b1, .int .i64 r0, .int .i64 r1, .slice A5 l5.length c5, .slice A6 l6.length c6, .slice A7 l7.length c7, .map (some (w.heap.size + 1 + 1))] 80)).alloc (.cells #[.int .i64 (k : Int)] 3)).alloc (.cells #[.slice Aw wo.length cw] 28)).cell? ⟨W.heap.size + 1, 7, none⟩ = some (.slice A7 l7.length c7) := (blk_cell (blk_alloc (blk_alloc (by first | exact blk_new W7 _ | (rw [← hzB]; exact blk_new W7 _)) _) _) 7).trans rfl
        have hq1 : (((W7.alloc (.cells #[.int .i64 N, .int .i64 b0, .int .i64 b1, .int .i64 r0, .int .i64 r1, .slice A5 l5.length c5, .slice A6 l6.length c6, .slice A7 l7.length c7, .map (some (w.heap.size + 1 + 1))] 80)).alloc (.cells #[.int .i64 (k : Int)] 3)).alloc (.cells #[.slice Aw wo.length cw] 28)).cell? ⟨W.heap.size + 1 + 1, 0, none⟩ = some (.int .i64 k) := (blk_cell (blk_alloc (by have h := blk_new (W7.alloc (.cells #[.int .i64 N, .int .i64 b0, .int .i64 b1, .int .i64 r0, .int .i64 r1, .slice A5 l5.length c5, .slice A6 l6.length c6, .slice A7 l7.length c7, .map (some (w.heap.size + 1 + 1))] 80)) (.cells #[.int .i64 (k : Int)] 3); rw [World.size_alloc, hzB] at h; exact h) _) 0).trans rfl
        have hq2 : (((W7.alloc (.cells #[.int .i64 N, .int .i64 b0, .int .i64 b1, .int .i64 r0, .int .i64 r1, .slice A5 l5.length c5, .slice A6 l6.length c6, .slice A7 l7.length c7, .map (some (w.heap.size + 1 + 1))] 80)).alloc (.cells #[.int .i64 (k : Int)] 3)).alloc (.cells #[.slice Aw wo.length cw] 28)).cell? ⟨W.heap.size + 1 + 1 + 1, 0, none⟩ = some (.slice Aw wo.length cw) := (blk_cell (by have h := blk_new ((W7.alloc (.cells #[.int .i64 N, .int .i64 b0, .int .i64 b1, .int .i64 r0, .int .i64 r1, .slice A5 l5.length c5, .slice A6 l6.length c6, .slice A7 l7.length c7, .map (some (w.heap.size + 1 + 1))] 80)).alloc (.cells #[.int .i64 (k : Int)] 3)) (.cells #[.slice Aw wo.length cw] 28); rw [World.size_alloc, World.size_alloc, hzB] at h; exact h) 0).trans rfl
        have hI8 := HI.out.below hbel
        have hzw := HI.out.opw.bel.size
        generalize (((W7.alloc (.cells #[.int .i64 N, .int .i64 b0, .int .i64 b1, .int .i64 r0, .int .i64 r1, .slice A5 l5.length c5, .slice A6 l6.length c6, .slice A7 l7.length c7, .map (some (w.heap.size + 1 + 1))] 80)).alloc (.cells #[.int .i64 (k : Int)] 3)).alloc (.cells #[.slice Aw wo.length cw] 28)) = W8 at hg7 hbel hq0 hq1 hq2 hI8 ⊢
        have hT6 : W.heap.size < W.heap.size + 1 := by omega
        have hSl : ∀ j, (j < w.heap.size ∨ (W.heap.size + 1 ≤ j ∧ j < W.heap.size + 1 + 3)) → j < W8.heap.size := fun j hj => by omega
        refine (wpIn_wide (n := 5)).1 ?_
        refine wpIn_rangeFunc_ownH rfl (by decide) (gf := 90) (lb := #[.pointer (some ⟨W.heap.size + 1, 0, none⟩), .pointer (some ⟨W.heap.size + 1 + 1, 0, none⟩), .pointer (some ⟨W.heap.size + 1 + 1 + 1, 0, none⟩)]) rfl trivial (enters_of Tryd.func90 (by kernel_rfl) rfl)
          (looks_stops _ (W.heap.size + 1) (fun j => j < w.heap.size ∨ (W.heap.size + 1 ≤ j ∧ j < W.heap.size + 1 + 3)) N b0 b1 r0 r1 (.slice A5 l5.length c5) (.slice A6 l6.length c6) A7 c7 l7 (w.heap.size + 1 + 1) k Aw cw wo (by omega) (by omega) W8 ⟨.inr (by omega), .inr (by omega), .inr (by omega)⟩ hSl (F63_of h7 hI8.opw.bel (fun j hj => .inl hj)) (Fint_of hw hI8.opw.bel (fun j hj => .inl hj)) hq0 hq1 hq2)
          Kept.trans (keptK_b hSl) (Below.refl _ _) (fun _ => rfl)
          (fun pre W' => OpI #[.int .i64 N, .int .i64 b0, .int .i64 b1, .int .i64 r0, .int .i64 r1, .slice A5 l5.length c5, .slice A6 l6.length c6, .slice A7 l7.length c7] #[.int .i64 N, .int .i64 b0, .int .i64 b1, .int .i64 r0, .int .i64 r1, .slice A5 l5.length c5, .slice A6 l6.length c6, .slice A7 l7.length c7, .map (some (w.heap.size + 1 + 1))] w W.heap.size k Ds ((pre.map (·.1)).foldl (lookB k) (rateB r0 r1 k (nightsB b0 b1 r0 r1 l7 wo k))) W' ∧ W8.heap.size ≤ W'.heap.size)
          (fun _ _ _ => False) ?hI (fun _ _ _ _ _ hs _ _ => hs) ?h0
          (fun x a' W' => ∃ T7, W.heap.size + 1 + 3 ≤ T7 ∧ W'.heap[T7]? = some (.cells #[.int .i64 x.1.f0, .int .i64 x.1.f1, .int .i64 x.1.f2, .int .i64 x.1.f3, .int .i64 x.1.f4] 63 (0, 0)) ∧ a' = { tmps := #[.agg #[.int .i64 N, .int .i64 b0, .int .i64 b1, .int .i64 r0, .int .i64 r1, .slice A5 l5.length c5, .slice A6 l6.length c6, .slice A7 l7.length c7], .slice Aw wo.length cw, .pointer (some ⟨w.heap.size, 0, none⟩), undef, .pointer (some ⟨w.heap.size + 1, 0, none⟩), .pointer (some ⟨w.heap.size + 1 + 1 + 1, 0, none⟩), .pointer (some ⟨W.heap.size, 0, none⟩), .pointer (some ⟨T7, 0, none⟩), undef, undef, undef, undef, .agg #[.int .i64 N, .int .i64 b0, .int .i64 b1, .int .i64 r0, .int .i64 r1, .slice A5 l5.length c5, .slice A6 l6.length c6, .slice A7 l7.length c7], .map (some (w.heap.size + 1 + 1)), .agg #[.int .i64 N, .int .i64 b0, .int .i64 b1, .int .i64 r0, .int .i64 r1, .slice A5 l5.length c5, .slice A6 l6.length c6, .slice A7 l7.length c7, .map (some (w.heap.size + 1 + 1))], .agg #[.int .i64 N, .int .i64 b0, .int .i64 b1, .int .i64 r0, .int .i64 r1, .slice A5 l5.length c5, .slice A6 l6.length c6, .slice A7 l7.length c7, .map (some (w.heap.size + 1 + 1))], .agg #[.int .i64 N, .int .i64 b0, .int .i64 b1, .int .i64 r0, .int .i64 r1, .slice A5 l5.length c5, .slice A6 l6.length c6, .slice A7 l7.length c7, .map (some (w.heap.size + 1 + 1))], .int .i64 1, .pointer (some ⟨w.heap.size, 1, none⟩), .agg #[.int .i64 b0, .int .i64 b1], .tuple #[], .pointer (some ⟨w.heap.size, 0, none⟩), .int .i64 N, .int .i64 (k : Int), .bool true, .int .i64 (k : Int), .int .i64 (k : Int), .bool false, u28, u29, u30, u31, u32, u33, u34, u35, u36, u37, u38, .agg #[.int .i64 N, .int .i64 b0, .int .i64 b1, .int .i64 r0, .int .i64 r1, .slice A5 l5.length c5, .slice A6 l6.length c6, .slice A7 l7.length c7, .map (some (w.heap.size + 1 + 1))], .int .i64 (k : Int), .slice Aw wo.length cw, .func (.func 90) #[] #[.pointer (some ⟨W.heap.size + 1, 0, none⟩), .pointer (some ⟨W.heap.size + 1 + 1, 0, none⟩), .pointer (some ⟨W.heap.size + 1 + 1 + 1, 0, none⟩)], lookV x.1, undef, undef, undef, undef, undef, undef, undef, undef, undef, undef, undef, undef, undef, undef, undef, undef, undef, undef, undef, undef, undef, undef, undef, undef, u68, undef, undef, undef, undef, undef, undef, undef, undef, undef, undef, undef, undef, undef, undef, undef, undef, undef, undef, undef, undef, undef, undef, undef, undef, undef, undef, undef, undef, undef, undef, undef, undef, undef, undef, undef, undef, undef], defers := [] })
          ?hAx ?assign ?body ?done ?stop
        case hI =>
          rintro pre X Y row ⟨h1, h2⟩ hg hr
          exact ⟨h1.grown (B := W8.heap.size) hg (fun r e => (hr r e).1) (by omega) (by omega) (fun D hd => by have := (Array.getElem?_eq_some_iff.1 (hI8.old D hd)).1; exact this), Nat.le_trans h2 hg.size⟩
        case h0 => exact ⟨hI8, Nat.le_refl _⟩
        case hAx =>
          rintro x a' _ X Y row ⟨T7, h1, h2, h3⟩ hg hr
          refine ⟨T7, h1, blk_grown h2 hg (fun e => ?_), h3⟩
          obtain ⟨_, o, ho, hc⟩ := hr T7 e.symm
          rw [h2] at ho
          injection ho with ho
          subst ho
          cases hc
        case assign =>
          rintro l pre ⟨x, hx⟩ W' K ⟨h1, h2⟩ hK
          simp only [lookV]
          gi_wp2
          have hb7 : Below W'.heap.size W' (W'.alloc (.cells #[.int .i64 x.f0, .int .i64 x.f1, .int .i64 x.f2, .int .i64 x.f3, .int .i64 x.f4] 63)) := (Below.refl _ _).alloc (Nat.le_refl _) _
          exact hK _ _ (KeepsFrom.of_grownBy (World.grownBy_alloc W' _ none) (fun j e => by cases e)) (Kept.of_below hb7 (fun j hj => Nat.lt_of_lt_of_le (hSl j hj) h2)) ⟨h1.below hb7, Nat.le_trans h2 hb7.size⟩ ⟨W'.heap.size, by omega, blk_new _ _, rfl⟩
        case body =>
          rintro l pre ⟨x, hx⟩ a' W' hl ⟨r, hr⟩ ⟨hI, hz⟩ ⟨T7, hT7, hl7, rfl⟩ hlp
          obtain ⟨hgk, hg2, hg3, hg4⟩ := hlk x hx
          have hKW := HK.out.below hI.opw.bel
          obtain ⟨y0, y1, y2, y3, y4⟩ := x
          simp only at hgk hg2 hg3 hg4 hl7
          have hws : wrap64 (y3 - y4) = y3 - y4 := IntWalk.wrap64_in _ (by constructor <;> omega)
          have hwa : wrap64 (y3 + y4) = y3 + y4 := IntWalk.wrap64_in _ (by constructor <;> omega)
          rcases hgk with rfl | rfl
          · gi_wp2_with fail
            refine startIn_ (S := fun w' => w'.heap[w.heap.size + 1 + 1 + 1]? = some (.cells #[.int .i64 N, .int .i64 b0, .int .i64 b1, .int .i64 r0, .int .i64 r1, .slice A5 l5.length c5, .slice A6 l6.length c6, .slice A7 l7.length c7, .map (some (w.heap.size + 1 + 1))] 80 (0, 0)) ∧ w'.heap[W.heap.size]? = some (.cells #[.int .i64 (k : Int)] 3 (0, 0)) ∧ w'.heap[T7]? = some (.cells #[.int .i64 y0, .int .i64 0, .int .i64 y2, .int .i64 y3, .int .i64 y4] 63 (0, 0)) ∧ Kinds w') (ds := [23]) #[false, false, false, false, false, false, false, false, false, false, false, false, false, false, false, false, false, false, false, false, false, false, false, false] (by rfl) rfl rfl (by kernel_rfl) (by rintro ⟨_, _, h⟩; exact h) ⟨blk_drew hI.opw.b, blk_drew hI.cell, blk_drew hl7, hKW⟩ (fun hHeld => ?_)
            refine with_tabW opened10_tab opened10_bits (fun HT_ HW_ => ?_)
            have hI1 := hI.below ((Below.refl _ W').drew)
            have hKd : KeepsFrom W8.heap.size W' W'.drew := ⟨Nat.le_refl _, fun _ _ _ h _ => h⟩
            have hKe : Kept (fun j => j < w.heap.size ∨ (W.heap.size + 1 ≤ j ∧ j < W.heap.size + 1 + 3)) W' W'.drew := ⟨Nat.le_refl _, fun _ _ => rfl⟩
            generalize W'.drew = V1 at hHeld hI1 hKd hKe ⊢
            refine takeA 0 44 rfl rfl (by rintro w' ⟨s0, s1, s2, s3⟩; exact exec_load_blk s0 rfl rfl Tryd.underlying80 rfl (by kernel_rfl)) ?_
            refine takeA 1 45 rfl rfl (by rintro w' ⟨s0, s1, s2, s3⟩; exact exec_load_blk s0 rfl rfl Tryd.underlying80 rfl (by kernel_rfl)) ?_
            refine takeA 2 46 rfl rfl (by rintro w' ⟨s0, s1, s2, s3⟩; exact exec_load_int ((blk_cell s1 0).trans rfl) rfl rfl) ?_
            refine pureA 4 48 ?_
            refine takeA 5 49 rfl rfl (by rintro w' ⟨s0, s1, s2, s3⟩; exact exec_load_int ((blk_cell s2 1).trans rfl) rfl rfl) ?_
            refine pureA 6 50 ?_
            refine takeA 7 51 rfl rfl (by rintro w' ⟨s0, s1, s2, s3⟩; exact exec_load_fn s3.1 rfl rfl) ?_
            refine takeA 8 52 rfl rfl (by rintro w' ⟨s0, s1, s2, s3⟩; exact exec_load_blk s0 rfl rfl Tryd.underlying80 rfl (by kernel_rfl)) ?_
            refine pureA 9 53 ?_
            refine takeA 10 54 rfl rfl (by rintro w' ⟨s0, s1, s2, s3⟩; exact exec_load_int ((blk_cell s2 2).trans rfl) rfl rfl) ?_
            refine pureA 12 56 ?_
            refine takeA 13 57 rfl rfl (by rintro w' ⟨s0, s1, s2, s3⟩; exact exec_load_int ((blk_cell s2 3).trans rfl) rfl rfl) ?_
            refine pureA 14 58 ?_
            refine takeA 15 59 rfl rfl (by rintro w' ⟨s0, s1, s2, s3⟩; exact exec_load_int ((blk_cell s2 4).trans rfl) rfl rfl) ?_
            refine pureA 16 60 ?_
            refine pureA 17 61 ?_
            refine takeA 18 62 rfl rfl (by rintro w' ⟨s0, s1, s2, s3⟩; exact exec_load_int ((blk_cell s2 3).trans rfl) rfl rfl) ?_
            refine pureA 19 63 ?_
            refine takeA 20 64 rfl rfl (by rintro w' ⟨s0, s1, s2, s3⟩; exact exec_load_int ((blk_cell s2 4).trans rfl) rfl rfl) ?_
            refine pureA 21 65 ?_
            refine pureA 22 66 ?_
            rw [hws, hwa]
            refine oneA 3 (some 47) (fun K hK => ?_)
            refine call_ 56 #[(bookV N b0 b1 r0 r1 (.slice A5 l5.length c5) (.slice A6 l6.length c6) (.slice A7 l7.length c7) (w.heap.size + 1 + 1)), .int .i64 (k : Int)] (by rfl) rfl ?_ ?_
            · go_simp
              try rfl
            refine (night_any N b0 b1 r0 r1 _ _ _ _ (k : Int) (by omega) V1).mono ?_
            rintro e V2 ⟨rfl, hb2⟩
            refine ⟨_, rfl, ?_⟩
            have hI2 := hI1.below hb2
            have hKd2 := hKd.trans ((KeepsFrom.of_grownBy (grown_of hb2 none) (fun j e => by cases e)))
            have hKe2 := hKe.trans (Kept.of_below hb2 (fun j hj => by have := hSl j hj; have := hI1.opw.bel.size; have := hKd.size; omega))
            refine hK.out _ _ ⟨hI2.opw.b, hI2.cell, blk_below hHeld.2.2.1 hb2, hHeld.2.2.2.below hb2⟩ (fun hHeld2 => ?_)
            clear hK K
            refine normA 47 ?_
            refine oneA 11 (some 55) (fun K hK => ?_)
            refine call_ 57 #[(bookV N b0 b1 r0 r1 (.slice A5 l5.length c5) (.slice A6 l6.length c6) (.slice A7 l7.length c7) (w.heap.size + 1 + 1)), .int .i64 y2] (by rfl) rfl ?_ ?_
            · go_simp
              try rfl
            refine (seen_any N b0 b1 r0 r1 _ _ _ _ y2 (by omega) V2).mono ?_
            rintro e V3 ⟨rfl, hb3⟩
            refine ⟨_, rfl, ?_⟩
            have hI3 := hI2.below hb3
            have hKd3 := hKd2.trans ((KeepsFrom.of_grownBy (grown_of hb3 none) (fun j e => by cases e)))
            have hKe3 := hKe2.trans (Kept.of_below hb3 (fun j hj => by have := hSl j hj; have := hKd2.size; omega))
            refine hK.out _ _ ⟨hI3.opw.b, hI3.cell, blk_below hHeld2.2.2.1 hb3, hHeld2.2.2.2.below hb3⟩ (fun hHeld3 => ?_)
            clear hK K
            refine normA 55 ?_
            refine lastA 23 (some 67) (fun K hK => ?_)
            refine call_ 74 #[(bookV N b0 b1 r0 r1 (.slice A5 l5.length c5) (.slice A6 l6.length c6) (.slice A7 l7.length c7) (w.heap.size + 1 + 1)), .int .i64 (1 + (k : Int)), .int .i64 (9 + y2), .agg #[.int .i64 (y3 - y4), .int .i64 (y3 + y4)]] (by rfl) rfl ?_ ?_
            · go_simp
              try rfl
            refine (bound_any N b0 b1 r0 r1 _ _ _ (w.heap.size + 1 + 1) (1 + (k : Int)) (9 + y2) (y3 - y4) (y3 + y4) _ (by omega) V3 hI3.map).mono ?_
            rintro e V4 ⟨rfl, hM4, hg4⟩
            refine ⟨_, rfl, ?_⟩
            have hI4 := hI3.put hg4 hM4 (by omega) (fun D hd => by have := (HD.out D hd).1; omega)
            have hKd4 := hKd3.trans (KeepsFrom.of_grownBy hg4 (fun j e => by injection e with e; omega))
            have hKe4 := hKe3.trans ⟨hg4.size, fun j hj => hg4.block j (by have := hSl j hj; have := hKd3.size; omega) (by intro e; injection e with e; omega)⟩
            refine hK.out _ _ ?_
            clear hK K
            refine normA 67 ?_
            refine done_ (done_of HT_.out (by kernel_rfl)) ?_
            refine ⟨hKd4, hKe4, ?_, Nat.le_trans hz hKd4.size⟩
            rw [List.map_append, List.foldl_append]
            exact hI4
          · gi_wp2_with fail
            refine startIn_ (S := fun w' => w'.heap[w.heap.size + 1 + 1 + 1]? = some (.cells #[.int .i64 N, .int .i64 b0, .int .i64 b1, .int .i64 r0, .int .i64 r1, .slice A5 l5.length c5, .slice A6 l6.length c6, .slice A7 l7.length c7, .map (some (w.heap.size + 1 + 1))] 80 (0, 0)) ∧ w'.heap[W.heap.size]? = some (.cells #[.int .i64 (k : Int)] 3 (0, 0)) ∧ w'.heap[T7]? = some (.cells #[.int .i64 y0, .int .i64 1, .int .i64 y2, .int .i64 y3, .int .i64 y4] 63 (0, 0)) ∧ Kinds w') (ds := [23]) #[false, false, false, false, false, false, false, false, false, false, false, false, false, false, false, false, false, false, false, false, false, false, false, false] (by rfl) rfl rfl (by kernel_rfl) (by rintro ⟨_, _, h⟩; exact h) ⟨blk_drew hI.opw.b, blk_drew hI.cell, blk_drew hl7, hKW⟩ (fun hHeld => ?_)
            refine with_tabW opened10_tab opened10_bits (fun HT_ HW_ => ?_)
            have hI1 := hI.below ((Below.refl _ W').drew)
            have hKd : KeepsFrom W8.heap.size W' W'.drew := ⟨Nat.le_refl _, fun _ _ _ h _ => h⟩
            have hKe : Kept (fun j => j < w.heap.size ∨ (W.heap.size + 1 ≤ j ∧ j < W.heap.size + 1 + 3)) W' W'.drew := ⟨Nat.le_refl _, fun _ _ => rfl⟩
            generalize W'.drew = V1 at hHeld hI1 hKd hKe ⊢
            refine takeA 0 44 rfl rfl (by rintro w' ⟨s0, s1, s2, s3⟩; exact exec_load_blk s0 rfl rfl Tryd.underlying80 rfl (by kernel_rfl)) ?_
            refine takeA 1 45 rfl rfl (by rintro w' ⟨s0, s1, s2, s3⟩; exact exec_load_blk s0 rfl rfl Tryd.underlying80 rfl (by kernel_rfl)) ?_
            refine takeA 2 46 rfl rfl (by rintro w' ⟨s0, s1, s2, s3⟩; exact exec_load_int ((blk_cell s1 0).trans rfl) rfl rfl) ?_
            refine pureA 4 48 ?_
            refine takeA 5 49 rfl rfl (by rintro w' ⟨s0, s1, s2, s3⟩; exact exec_load_int ((blk_cell s2 1).trans rfl) rfl rfl) ?_
            refine pureA 6 50 ?_
            refine takeA 7 51 rfl rfl (by rintro w' ⟨s0, s1, s2, s3⟩; exact exec_load_fn s3.2 rfl rfl) ?_
            refine takeA 8 52 rfl rfl (by rintro w' ⟨s0, s1, s2, s3⟩; exact exec_load_blk s0 rfl rfl Tryd.underlying80 rfl (by kernel_rfl)) ?_
            refine pureA 9 53 ?_
            refine takeA 10 54 rfl rfl (by rintro w' ⟨s0, s1, s2, s3⟩; exact exec_load_int ((blk_cell s2 2).trans rfl) rfl rfl) ?_
            refine pureA 12 56 ?_
            refine takeA 13 57 rfl rfl (by rintro w' ⟨s0, s1, s2, s3⟩; exact exec_load_int ((blk_cell s2 3).trans rfl) rfl rfl) ?_
            refine pureA 14 58 ?_
            refine takeA 15 59 rfl rfl (by rintro w' ⟨s0, s1, s2, s3⟩; exact exec_load_int ((blk_cell s2 4).trans rfl) rfl rfl) ?_
            refine pureA 16 60 ?_
            refine pureA 17 61 ?_
            refine takeA 18 62 rfl rfl (by rintro w' ⟨s0, s1, s2, s3⟩; exact exec_load_int ((blk_cell s2 3).trans rfl) rfl rfl) ?_
            refine pureA 19 63 ?_
            refine takeA 20 64 rfl rfl (by rintro w' ⟨s0, s1, s2, s3⟩; exact exec_load_int ((blk_cell s2 4).trans rfl) rfl rfl) ?_
            refine pureA 21 65 ?_
            refine pureA 22 66 ?_
            rw [hws, hwa]
            refine oneA 3 (some 47) (fun K hK => ?_)
            refine call_ 56 #[(bookV N b0 b1 r0 r1 (.slice A5 l5.length c5) (.slice A6 l6.length c6) (.slice A7 l7.length c7) (w.heap.size + 1 + 1)), .int .i64 (k : Int)] (by rfl) rfl ?_ ?_
            · go_simp
              try rfl
            refine (night_any N b0 b1 r0 r1 _ _ _ _ (k : Int) (by omega) V1).mono ?_
            rintro e V2 ⟨rfl, hb2⟩
            refine ⟨_, rfl, ?_⟩
            have hI2 := hI1.below hb2
            have hKd2 := hKd.trans ((KeepsFrom.of_grownBy (grown_of hb2 none) (fun j e => by cases e)))
            have hKe2 := hKe.trans (Kept.of_below hb2 (fun j hj => by have := hSl j hj; have := hI1.opw.bel.size; have := hKd.size; omega))
            refine hK.out _ _ ⟨hI2.opw.b, hI2.cell, blk_below hHeld.2.2.1 hb2, hHeld.2.2.2.below hb2⟩ (fun hHeld2 => ?_)
            clear hK K
            refine normA 47 ?_
            refine oneA 11 (some 55) (fun K hK => ?_)
            refine call_ 58 #[(bookV N b0 b1 r0 r1 (.slice A5 l5.length c5) (.slice A6 l6.length c6) (.slice A7 l7.length c7) (w.heap.size + 1 + 1)), .int .i64 y2] (by rfl) rfl ?_ ?_
            · go_simp
              try rfl
            refine (signal_any N b0 b1 r0 r1 _ _ _ _ y2 (by omega) V2).mono ?_
            rintro e V3 ⟨rfl, hb3⟩
            refine ⟨_, rfl, ?_⟩
            have hI3 := hI2.below hb3
            have hKd3 := hKd2.trans ((KeepsFrom.of_grownBy (grown_of hb3 none) (fun j e => by cases e)))
            have hKe3 := hKe2.trans (Kept.of_below hb3 (fun j hj => by have := hSl j hj; have := hKd2.size; omega))
            refine hK.out _ _ ⟨hI3.opw.b, hI3.cell, blk_below hHeld2.2.2.1 hb3, hHeld2.2.2.2.below hb3⟩ (fun hHeld3 => ?_)
            clear hK K
            refine normA 55 ?_
            refine lastA 23 (some 67) (fun K hK => ?_)
            refine call_ 74 #[(bookV N b0 b1 r0 r1 (.slice A5 l5.length c5) (.slice A6 l6.length c6) (.slice A7 l7.length c7) (w.heap.size + 1 + 1)), .int .i64 (1 + (k : Int)), .int .i64 (13 + y2), .agg #[.int .i64 (y3 - y4), .int .i64 (y3 + y4)]] (by rfl) rfl ?_ ?_
            · go_simp
              try rfl
            refine (bound_any N b0 b1 r0 r1 _ _ _ (w.heap.size + 1 + 1) (1 + (k : Int)) (13 + y2) (y3 - y4) (y3 + y4) _ (by omega) V3 hI3.map).mono ?_
            rintro e V4 ⟨rfl, hM4, hg4⟩
            refine ⟨_, rfl, ?_⟩
            have hI4 := hI3.put hg4 hM4 (by omega) (fun D hd => by have := (HD.out D hd).1; omega)
            have hKd4 := hKd3.trans (KeepsFrom.of_grownBy hg4 (fun j e => by injection e with e; omega))
            have hKe4 := hKe3.trans ⟨hg4.size, fun j hj => hg4.block j (by have := hSl j hj; have := hKd3.size; omega) (by intro e; injection e with e; omega)⟩
            refine hK.out _ _ ?_
            clear hK K
            refine normA 67 ?_
            refine done_ (done_of HT_.out (by kernel_rfl)) ?_
            refine ⟨hKd4, hKe4, ?_, Nat.le_trans hz hKd4.size⟩
            rw [List.map_append, List.foldl_append]
            exact hI4
        case stop =>
          rintro D c pre W' _ _ h _
          exact h.elim
        case done =>
          rintro D ys W' hD hys ⟨hI, hz⟩ hK1
          have HI9 := Lib.hid hI
          have HK1 := Lib.hid hK1
          have HYS := Lib.hid hys
          have HI88 := Lib.hid hI8
          clear hI hK1 hys hI8
          go_wp2_with fail
          refine ⟨⟨k + 1, D :: Ds, ?_⟩, ?_⟩
          · (repeat apply Exists.intro)
            refine ⟨?rel0, ?eq0⟩
            case eq0 => first | rfl | exact ⟨⟨rfl, rfl⟩, rfl⟩
            refine ⟨by omega, ?_, HI9.out.opw, ?_, List.nodup_cons.2 ⟨fun hm => ?_, hDn⟩, ?_⟩
            · first | rfl | go_num
            · rw [nightsB_succ, nightB, ← HYS.out]
              exact HI9.out.map
            · have := (Array.getElem?_eq_some_iff.1 (HI88.out.old D hm)).1
              omega
            · intro E hE
              rcases List.mem_cons.1 hE with rfl | hE
              · exact ⟨by omega, HK1.out⟩
              · exact ⟨(HD.out E hE).1, HI9.out.old E hE⟩
          · simp [intOf]
            omega
      · have hk1 : (0 : Int) < (k : Int) := by omega
        have HK0 := Lib.hid hk0
        clear hk0
        go_wp2_with fail
        have hw1 : wrap64 ((k : Int) - 1) = (k : Int) - 1 := IntWalk.wrap64_in _ (by constructor <;> omega)
        refine wp_calm ?_
        refine start_ (n := 11) (S := fun w' => w'.heap[w.heap.size]? = some (.cells #[.int .i64 N, .int .i64 b0, .int .i64 b1, .int .i64 r0, .int .i64 r1, .slice A5 l5.length c5, .slice A6 l6.length c6, .slice A7 l7.length c7] 27 (0, 0)) ∧ w'.heap[w.heap.size + 1 + 1 + 1]? = some (.cells #[.int .i64 N, .int .i64 b0, .int .i64 b1, .int .i64 r0, .int .i64 r1, .slice A5 l5.length c5, .slice A6 l6.length c6, .slice A7 l7.length c7, .map (some (w.heap.size + 1 + 1))] 80 (0, 0)) ∧ w'.heap[W.heap.size]? = some (.cells #[.int .i64 (k : Int)] 3 (0, 0))) (ds := [10]) #[false, false, false, false, false, false, false, false, false, false, false] (by kernel_rfl) rfl rfl ⟨blk_drew hI6.opw.x, blk_drew hI6.opw.b, blk_drew hI6.cell⟩ (fun hHeld => ?_)
        refine with_tabW opened7_tab opened7_bits (fun HT_ HW_ => ?_)
        have hI1 := hI6.below ((Below.refl _ _).drew)
        clear hI6 hb6 hx6 ht6
        generalize (W.alloc (.cells #[.int .i64 (k : Int)] 3)).drew = V1 at hHeld hI1 ⊢
        refine takeA 0 28 rfl rfl (by rintro w' ⟨s0, s1, s2⟩; exact exec_load_blk s1 rfl rfl Tryd.underlying80 rfl (by kernel_rfl)) ?_
        refine takeA 1 29 rfl rfl (by rintro w' ⟨s0, s1, s2⟩; exact exec_load_blk s1 rfl rfl Tryd.underlying80 rfl (by kernel_rfl)) ?_
        refine takeA 2 30 rfl rfl (by rintro w' ⟨s0, s1, s2⟩; exact exec_load_int ((blk_cell s2 0).trans rfl) rfl rfl) ?_
        refine takeA 4 32 rfl rfl (by rintro w' ⟨s0, s1, s2⟩; exact exec_load_blk s1 rfl rfl Tryd.underlying80 rfl (by kernel_rfl)) ?_
        refine takeA 5 33 rfl rfl (by rintro w' ⟨s0, s1, s2⟩; exact exec_load_int ((blk_cell s2 0).trans rfl) rfl rfl) ?_
        refine pureA 6 34 ?_
        refine pureA 8 36 ?_
        refine takeA 9 37 rfl rfl (by rintro w' ⟨s0, s1, s2⟩; exact exec_load_part (k := 3) (ds := [.int .i64 r0, .int .i64 r1]) s0 rfl rfl (fun j v hv => by match j with | 0 => exact hv | 1 => exact hv | j + 2 => cases hv) Tryd.underlying23 rfl (by kernel_rfl)) ?_
        rw [hw1]
        refine oneA 3 (some 31) (fun K hK => ?_)
        refine call_ 56 #[(bookV N b0 b1 r0 r1 (.slice A5 l5.length c5) (.slice A6 l6.length c6) (.slice A7 l7.length c7) (w.heap.size + 1 + 1)), .int .i64 (k : Int)] (by rfl) rfl ?_ ?_
        · go_simp
          try rfl
        refine (night_any N b0 b1 r0 r1 _ _ _ _ (k : Int) (by omega) V1).mono ?_
        rintro e V2 ⟨rfl, hb2⟩
        refine ⟨_, rfl, ?_⟩
        have hI2 := hI1.below hb2
        refine hK.out _ _ ⟨hI2.opw.x, hI2.opw.b, hI2.cell⟩ (fun hHeld2 => ?_)
        clear hK K
        refine normA 31 ?_
        refine oneA 7 (some 35) (fun K hK => ?_)
        refine call_ 56 #[(bookV N b0 b1 r0 r1 (.slice A5 l5.length c5) (.slice A6 l6.length c6) (.slice A7 l7.length c7) (w.heap.size + 1 + 1)), .int .i64 ((k : Int) - 1)] (by rfl) rfl ?_ ?_
        · go_simp
          try rfl
        refine (night_any N b0 b1 r0 r1 _ _ _ _ ((k : Int) - 1) (by omega) V2).mono ?_
        rintro e V3 ⟨rfl, hb3⟩
        refine ⟨_, rfl, ?_⟩
        have hI3 := hI2.below hb3
        refine hK.out _ _ ⟨hI3.opw.x, hI3.opw.b, hI3.cell⟩ (fun hHeld3 => ?_)
        clear hK K
        refine normA 35 ?_
        refine lastA 10 (some 38) (fun K hK => ?_)
        refine call_ 74 #[(bookV N b0 b1 r0 r1 (.slice A5 l5.length c5) (.slice A6 l6.length c6) (.slice A7 l7.length c7) (w.heap.size + 1 + 1)), .int .i64 (1 + (k : Int)), .int .i64 (1 + ((k : Int) - 1)), .agg #[.int .i64 r0, .int .i64 r1]] (by rfl) rfl ?_ ?_
        · go_simp
          try rfl
        refine (bound_any N b0 b1 r0 r1 _ _ _ (w.heap.size + 1 + 1) (1 + (k : Int)) (1 + ((k : Int) - 1)) r0 r1 _ (by omega) V3 hI3.map).mono ?_
        rintro e W7 ⟨rfl, hM4, hg4⟩
        refine ⟨_, rfl, ?_⟩
        have HI : Hid (OpI #[.int .i64 N, .int .i64 b0, .int .i64 b1, .int .i64 r0, .int .i64 r1, .slice A5 l5.length c5, .slice A6 l6.length c6, .slice A7 l7.length c7] #[.int .i64 N, .int .i64 b0, .int .i64 b1, .int .i64 r0, .int .i64 r1, .slice A5 l5.length c5, .slice A6 l6.length c6, .slice A7 l7.length c7, .map (some (w.heap.size + 1 + 1))] w W.heap.size k Ds (rateB r0 r1 k (nightsB b0 b1 r0 r1 l7 wo k)) W7) := Lib.hid (by
          unfold rateB
          rw [if_neg HK0.out]
          exact hI3.put hg4 hM4 (by omega) (fun D hd => by have := (HD.out D hd).1; omega))
        refine hK.out _ _ ?_
        clear hK K
        refine normA 38 ?_
        refine done_ (done_of HT_.out (by kernel_rfl)) ?_
        clear HT_ HW_ hHeld hHeld2 hHeld3 hI1 hI2 hI3 hb2 hb3 hM4 hg4
        refine calm_normal ?_
        have hbN := HI.out.opw.b
        have htN := HI.out.cell
        have hT6' : W.heap.size < W7.heap.size := blk_lt HI.out.cell
        have htc : W7.cell? ⟨W.heap.size, 0, none⟩ = some (.int .i64 (k : Int)) := (blk_cell htN 0).trans rfl
        go_wp2_with (first | (refine wpList_load_row rfl 80 _ rfl (w.heap.size + 1 + 1 + 1) rfl 80 #[.int .i64 N, .int .i64 b0, .int .i64 b1, .int .i64 r0, .int .i64 r1, .slice A5 l5.length c5, .slice A6 l6.length c6, .slice A7 l7.length c7, .map (some (w.heap.size + 1 + 1))] (0, 0) _ hbN Tryd.underlying80 rfl (by kernel_rfl) ?_) | (go_at_call 87; refine (looks_any _ _ _ _ _ _ _ _ _ _ _ ⟨_, _, _, rfl⟩ _).mono ?_; rintro e w' ⟨rfl, rfl⟩))
        have hzB : W7.heap.size = W7.heap.size := rfl
        have hg7 : (((W7.alloc (.cells #[.int .i64 N, .int .i64 b0, .int .i64 b1, .int .i64 r0, .int .i64 r1, .slice A5 l5.length c5, .slice A6 l6.length c6, .slice A7 l7.length c7, .map (some (w.heap.size + 1 + 1))] 80)).alloc (.cells #[.int .i64 (k : Int)] 3)).alloc (.cells #[.slice Aw wo.length cw] 28)).heap.size = W7.heap.size + 3 := by simp only [World.size_alloc] <;> omega
        have hbel : Below W7.heap.size W7 (((W7.alloc (.cells #[.int .i64 N, .int .i64 b0, .int .i64 b1, .int .i64 r0, .int .i64 r1, .slice A5 l5.length c5, .slice A6 l6.length c6, .slice A7 l7.length c7, .map (some (w.heap.size + 1 + 1))] 80)).alloc (.cells #[.int .i64 (k : Int)] 3)).alloc (.cells #[.slice Aw wo.length cw] 28)) := by
          repeat with_reducible (first | exact Below.refl _ _ | refine Below.alloc ?_ (by simp <;> omega) _)
        have hq0 : (((W7.alloc (.cells #[.int .i64 N, .int .i64 b0, .int .i64 b1, .int .i64 r0, .int .i64 r1, .slice A5 l5.length c5, .slice A6 l6.length c6, .slice A7 l7.length c7, .map (some (w.heap.size + 1 + 1))] 80)).alloc (.cells #[.int .i64 (k : Int)] 3)).alloc (.cells #[.slice Aw wo.length cw] 28)).cell? ⟨W7.heap.size, 7, none⟩ = some (.slice A7 l7.length c7) := (blk_cell (blk_alloc (blk_alloc (by first | exact blk_new W7 _ | (rw [← hzB]; exact blk_new W7 _)) _) _) 7).trans rfl
        have hq1 : (((W7.alloc (.cells #[.int .i64 N, .int .i64 b0, .int .i64 b1, .int .i64 r0, .int .i64 r1, .slice A5 l5.length c5, .slice A6 l6.length c6, .slice A7 l7.length c7, .map (some (w.heap.size + 1 + 1))] 80)).alloc (.cells #[.int .i64 (k : Int)] 3)).alloc (.cells #[.slice Aw wo.length cw] 28)).cell? ⟨W7.heap.size + 1, 0, none⟩ = some (.int .i64 k) := (blk_cell (blk_alloc (by have h := blk_new (W7.alloc (.cells #[.int .i64 N, .int .i64 b0, .int .i64 b1, .int .i64 r0, .int .i64 r1, .slice A5 l5.length c5, .slice A6 l6.length c6, .slice A7 l7.length c7, .map (some (w.heap.size + 1 + 1))] 80)) (.cells #[.int .i64 (k : Int)] 3); rw [World.size_alloc, hzB] at h; exact h) _) 0).trans rfl
        have hq2 : (((W7.alloc (.cells #[.int .i64 N, .int .i64 b0, .int .i64 b1, .int .i64 r0, .int .i64 r1, .slice A5 l5.length c5, .slice A6 l6.length c6, .slice A7 l7.length c7, .map (some (w.heap.size + 1 + 1))] 80)).alloc (.cells #[.int .i64 (k : Int)] 3)).alloc (.cells #[.slice Aw wo.length cw] 28)).cell? ⟨W7.heap.size + 1 + 1, 0, none⟩ = some (.slice Aw wo.length cw) := (blk_cell (by have h := blk_new ((W7.alloc (.cells #[.int .i64 N, .int .i64 b0, .int .i64 b1, .int .i64 r0, .int .i64 r1, .slice A5 l5.length c5, .slice A6 l6.length c6, .slice A7 l7.length c7, .map (some (w.heap.size + 1 + 1))] 80)).alloc (.cells #[.int .i64 (k : Int)] 3)) (.cells #[.slice Aw wo.length cw] 28); rw [World.size_alloc, World.size_alloc, hzB] at h; exact h) 0).trans rfl
        have hI8 := HI.out.below hbel
        have hzw := HI.out.opw.bel.size
        generalize (((W7.alloc (.cells #[.int .i64 N, .int .i64 b0, .int .i64 b1, .int .i64 r0, .int .i64 r1, .slice A5 l5.length c5, .slice A6 l6.length c6, .slice A7 l7.length c7, .map (some (w.heap.size + 1 + 1))] 80)).alloc (.cells #[.int .i64 (k : Int)] 3)).alloc (.cells #[.slice Aw wo.length cw] 28)) = W8 at hg7 hbel hq0 hq1 hq2 hI8 ⊢
        have hT6 : W.heap.size < W7.heap.size := by omega
        have hSl : ∀ j, (j < w.heap.size ∨ (W7.heap.size ≤ j ∧ j < W7.heap.size + 3)) → j < W8.heap.size := fun j hj => by omega
        refine (wpIn_wide (n := 5)).1 ?_
        refine wpIn_rangeFunc_ownH rfl (by decide) (gf := 90) (lb := #[.pointer (some ⟨W7.heap.size, 0, none⟩), .pointer (some ⟨W7.heap.size + 1, 0, none⟩), .pointer (some ⟨W7.heap.size + 1 + 1, 0, none⟩)]) rfl trivial (enters_of Tryd.func90 (by kernel_rfl) rfl)
          (looks_stops _ (W7.heap.size) (fun j => j < w.heap.size ∨ (W7.heap.size ≤ j ∧ j < W7.heap.size + 3)) N b0 b1 r0 r1 (.slice A5 l5.length c5) (.slice A6 l6.length c6) A7 c7 l7 (w.heap.size + 1 + 1) k Aw cw wo (by omega) (by omega) W8 ⟨.inr (by omega), .inr (by omega), .inr (by omega)⟩ hSl (F63_of h7 hI8.opw.bel (fun j hj => .inl hj)) (Fint_of hw hI8.opw.bel (fun j hj => .inl hj)) hq0 hq1 hq2)
          Kept.trans (keptK_b hSl) (Below.refl _ _) (fun _ => rfl)
          (fun pre W' => OpI #[.int .i64 N, .int .i64 b0, .int .i64 b1, .int .i64 r0, .int .i64 r1, .slice A5 l5.length c5, .slice A6 l6.length c6, .slice A7 l7.length c7] #[.int .i64 N, .int .i64 b0, .int .i64 b1, .int .i64 r0, .int .i64 r1, .slice A5 l5.length c5, .slice A6 l6.length c6, .slice A7 l7.length c7, .map (some (w.heap.size + 1 + 1))] w W.heap.size k Ds ((pre.map (·.1)).foldl (lookB k) (rateB r0 r1 k (nightsB b0 b1 r0 r1 l7 wo k))) W' ∧ W8.heap.size ≤ W'.heap.size)
          (fun _ _ _ => False) ?hI (fun _ _ _ _ _ hs _ _ => hs) ?h0
          (fun x a' W' => ∃ T7, W7.heap.size + 3 ≤ T7 ∧ W'.heap[T7]? = some (.cells #[.int .i64 x.1.f0, .int .i64 x.1.f1, .int .i64 x.1.f2, .int .i64 x.1.f3, .int .i64 x.1.f4] 63 (0, 0)) ∧ a' = { tmps := #[.agg #[.int .i64 N, .int .i64 b0, .int .i64 b1, .int .i64 r0, .int .i64 r1, .slice A5 l5.length c5, .slice A6 l6.length c6, .slice A7 l7.length c7], .slice Aw wo.length cw, .pointer (some ⟨w.heap.size, 0, none⟩), undef, .pointer (some ⟨w.heap.size + 1, 0, none⟩), .pointer (some ⟨w.heap.size + 1 + 1 + 1, 0, none⟩), .pointer (some ⟨W.heap.size, 0, none⟩), .pointer (some ⟨T7, 0, none⟩), undef, undef, undef, undef, .agg #[.int .i64 N, .int .i64 b0, .int .i64 b1, .int .i64 r0, .int .i64 r1, .slice A5 l5.length c5, .slice A6 l6.length c6, .slice A7 l7.length c7], .map (some (w.heap.size + 1 + 1)), .agg #[.int .i64 N, .int .i64 b0, .int .i64 b1, .int .i64 r0, .int .i64 r1, .slice A5 l5.length c5, .slice A6 l6.length c6, .slice A7 l7.length c7, .map (some (w.heap.size + 1 + 1))], .agg #[.int .i64 N, .int .i64 b0, .int .i64 b1, .int .i64 r0, .int .i64 r1, .slice A5 l5.length c5, .slice A6 l6.length c6, .slice A7 l7.length c7, .map (some (w.heap.size + 1 + 1))], .agg #[.int .i64 N, .int .i64 b0, .int .i64 b1, .int .i64 r0, .int .i64 r1, .slice A5 l5.length c5, .slice A6 l6.length c6, .slice A7 l7.length c7, .map (some (w.heap.size + 1 + 1))], .int .i64 1, .pointer (some ⟨w.heap.size, 1, none⟩), .agg #[.int .i64 b0, .int .i64 b1], .tuple #[], .pointer (some ⟨w.heap.size, 0, none⟩), .int .i64 N, .int .i64 (k : Int), .bool true, .int .i64 (k : Int), .int .i64 (k : Int), .bool true, .agg #[.int .i64 N, .int .i64 b0, .int .i64 b1, .int .i64 r0, .int .i64 r1, .slice A5 l5.length c5, .slice A6 l6.length c6, .slice A7 l7.length c7, .map (some (w.heap.size + 1 + 1))], .agg #[.int .i64 N, .int .i64 b0, .int .i64 b1, .int .i64 r0, .int .i64 r1, .slice A5 l5.length c5, .slice A6 l6.length c6, .slice A7 l7.length c7, .map (some (w.heap.size + 1 + 1))], .int .i64 (k : Int), .int .i64 (1 + (k : Int)), .agg #[.int .i64 N, .int .i64 b0, .int .i64 b1, .int .i64 r0, .int .i64 r1, .slice A5 l5.length c5, .slice A6 l6.length c6, .slice A7 l7.length c7, .map (some (w.heap.size + 1 + 1))], .int .i64 (k : Int), .int .i64 ((k : Int) - 1), .int .i64 (1 + ((k : Int) - 1)), .pointer (some ⟨w.heap.size, 3, none⟩), .agg #[.int .i64 r0, .int .i64 r1], .tuple #[], .agg #[.int .i64 N, .int .i64 b0, .int .i64 b1, .int .i64 r0, .int .i64 r1, .slice A5 l5.length c5, .slice A6 l6.length c6, .slice A7 l7.length c7, .map (some (w.heap.size + 1 + 1))], .int .i64 (k : Int), .slice Aw wo.length cw, .func (.func 90) #[] #[.pointer (some ⟨W7.heap.size, 0, none⟩), .pointer (some ⟨W7.heap.size + 1, 0, none⟩), .pointer (some ⟨W7.heap.size + 1 + 1, 0, none⟩)], lookV x.1, undef, undef, undef, undef, undef, undef, undef, undef, undef, undef, undef, undef, undef, undef, undef, undef, undef, undef, undef, undef, undef, undef, undef, undef, u68, undef, undef, undef, undef, undef, undef, undef, undef, undef, undef, undef, undef, undef, undef, undef, undef, undef, undef, undef, undef, undef, undef, undef, undef, undef, undef, undef, undef, undef, undef, undef, undef, undef, undef, undef, undef, undef], defers := [] })
          ?hAx ?assign ?body ?done ?stop
        case hI =>
          rintro pre X Y row ⟨h1, h2⟩ hg hr
          exact ⟨h1.grown (B := W8.heap.size) hg (fun r e => (hr r e).1) (by omega) (by omega) (fun D hd => by have := (Array.getElem?_eq_some_iff.1 (hI8.old D hd)).1; exact this), Nat.le_trans h2 hg.size⟩
        case h0 => exact ⟨hI8, Nat.le_refl _⟩
        case hAx =>
          rintro x a' _ X Y row ⟨T7, h1, h2, h3⟩ hg hr
          refine ⟨T7, h1, blk_grown h2 hg (fun e => ?_), h3⟩
          obtain ⟨_, o, ho, hc⟩ := hr T7 e.symm
          rw [h2] at ho
          injection ho with ho
          subst ho
          cases hc
        case assign =>
          rintro l pre ⟨x, hx⟩ W' K ⟨h1, h2⟩ hK
          simp only [lookV]
          gi_wp2
          have hb7 : Below W'.heap.size W' (W'.alloc (.cells #[.int .i64 x.f0, .int .i64 x.f1, .int .i64 x.f2, .int .i64 x.f3, .int .i64 x.f4] 63)) := (Below.refl _ _).alloc (Nat.le_refl _) _
          exact hK _ _ (KeepsFrom.of_grownBy (World.grownBy_alloc W' _ none) (fun j e => by cases e)) (Kept.of_below hb7 (fun j hj => Nat.lt_of_lt_of_le (hSl j hj) h2)) ⟨h1.below hb7, Nat.le_trans h2 hb7.size⟩ ⟨W'.heap.size, by omega, blk_new _ _, rfl⟩
        case body =>
          rintro l pre ⟨x, hx⟩ a' W' hl ⟨r, hr⟩ ⟨hI, hz⟩ ⟨T7, hT7, hl7, rfl⟩ hlp
          obtain ⟨hgk, hg2, hg3, hg4⟩ := hlk x hx
          have hKW := HK.out.below hI.opw.bel
          obtain ⟨y0, y1, y2, y3, y4⟩ := x
          simp only at hgk hg2 hg3 hg4 hl7
          have hws : wrap64 (y3 - y4) = y3 - y4 := IntWalk.wrap64_in _ (by constructor <;> omega)
          have hwa : wrap64 (y3 + y4) = y3 + y4 := IntWalk.wrap64_in _ (by constructor <;> omega)
          rcases hgk with rfl | rfl
          · gi_wp2_with fail
            refine startIn_ (S := fun w' => w'.heap[w.heap.size + 1 + 1 + 1]? = some (.cells #[.int .i64 N, .int .i64 b0, .int .i64 b1, .int .i64 r0, .int .i64 r1, .slice A5 l5.length c5, .slice A6 l6.length c6, .slice A7 l7.length c7, .map (some (w.heap.size + 1 + 1))] 80 (0, 0)) ∧ w'.heap[W.heap.size]? = some (.cells #[.int .i64 (k : Int)] 3 (0, 0)) ∧ w'.heap[T7]? = some (.cells #[.int .i64 y0, .int .i64 0, .int .i64 y2, .int .i64 y3, .int .i64 y4] 63 (0, 0)) ∧ Kinds w') (ds := [23]) #[false, false, false, false, false, false, false, false, false, false, false, false, false, false, false, false, false, false, false, false, false, false, false, false] (by rfl) rfl rfl (by kernel_rfl) (by rintro ⟨_, _, h⟩; exact h) ⟨blk_drew hI.opw.b, blk_drew hI.cell, blk_drew hl7, hKW⟩ (fun hHeld => ?_)
            refine with_tabW opened10_tab opened10_bits (fun HT_ HW_ => ?_)
            have hI1 := hI.below ((Below.refl _ W').drew)
            have hKd : KeepsFrom W8.heap.size W' W'.drew := ⟨Nat.le_refl _, fun _ _ _ h _ => h⟩
            have hKe : Kept (fun j => j < w.heap.size ∨ (W7.heap.size ≤ j ∧ j < W7.heap.size + 3)) W' W'.drew := ⟨Nat.le_refl _, fun _ _ => rfl⟩
            generalize W'.drew = V1 at hHeld hI1 hKd hKe ⊢
            refine takeA 0 44 rfl rfl (by rintro w' ⟨s0, s1, s2, s3⟩; exact exec_load_blk s0 rfl rfl Tryd.underlying80 rfl (by kernel_rfl)) ?_
            refine takeA 1 45 rfl rfl (by rintro w' ⟨s0, s1, s2, s3⟩; exact exec_load_blk s0 rfl rfl Tryd.underlying80 rfl (by kernel_rfl)) ?_
            refine takeA 2 46 rfl rfl (by rintro w' ⟨s0, s1, s2, s3⟩; exact exec_load_int ((blk_cell s1 0).trans rfl) rfl rfl) ?_
            refine pureA 4 48 ?_
            refine takeA 5 49 rfl rfl (by rintro w' ⟨s0, s1, s2, s3⟩; exact exec_load_int ((blk_cell s2 1).trans rfl) rfl rfl) ?_
            refine pureA 6 50 ?_
            refine takeA 7 51 rfl rfl (by rintro w' ⟨s0, s1, s2, s3⟩; exact exec_load_fn s3.1 rfl rfl) ?_
            refine takeA 8 52 rfl rfl (by rintro w' ⟨s0, s1, s2, s3⟩; exact exec_load_blk s0 rfl rfl Tryd.underlying80 rfl (by kernel_rfl)) ?_
            refine pureA 9 53 ?_
            refine takeA 10 54 rfl rfl (by rintro w' ⟨s0, s1, s2, s3⟩; exact exec_load_int ((blk_cell s2 2).trans rfl) rfl rfl) ?_
            refine pureA 12 56 ?_
            refine takeA 13 57 rfl rfl (by rintro w' ⟨s0, s1, s2, s3⟩; exact exec_load_int ((blk_cell s2 3).trans rfl) rfl rfl) ?_
            refine pureA 14 58 ?_
            refine takeA 15 59 rfl rfl (by rintro w' ⟨s0, s1, s2, s3⟩; exact exec_load_int ((blk_cell s2 4).trans rfl) rfl rfl) ?_
            refine pureA 16 60 ?_
            refine pureA 17 61 ?_
            refine takeA 18 62 rfl rfl (by rintro w' ⟨s0, s1, s2, s3⟩; exact exec_load_int ((blk_cell s2 3).trans rfl) rfl rfl) ?_
            refine pureA 19 63 ?_
            refine takeA 20 64 rfl rfl (by rintro w' ⟨s0, s1, s2, s3⟩; exact exec_load_int ((blk_cell s2 4).trans rfl) rfl rfl) ?_
            refine pureA 21 65 ?_
            refine pureA 22 66 ?_
            rw [hws, hwa]
            refine oneA 3 (some 47) (fun K hK => ?_)
            refine call_ 56 #[(bookV N b0 b1 r0 r1 (.slice A5 l5.length c5) (.slice A6 l6.length c6) (.slice A7 l7.length c7) (w.heap.size + 1 + 1)), .int .i64 (k : Int)] (by rfl) rfl ?_ ?_
            · go_simp
              try rfl
            refine (night_any N b0 b1 r0 r1 _ _ _ _ (k : Int) (by omega) V1).mono ?_
            rintro e V2 ⟨rfl, hb2⟩
            refine ⟨_, rfl, ?_⟩
            have hI2 := hI1.below hb2
            have hKd2 := hKd.trans ((KeepsFrom.of_grownBy (grown_of hb2 none) (fun j e => by cases e)))
            have hKe2 := hKe.trans (Kept.of_below hb2 (fun j hj => by have := hSl j hj; have := hI1.opw.bel.size; have := hKd.size; omega))
            refine hK.out _ _ ⟨hI2.opw.b, hI2.cell, blk_below hHeld.2.2.1 hb2, hHeld.2.2.2.below hb2⟩ (fun hHeld2 => ?_)
            clear hK K
            refine normA 47 ?_
            refine oneA 11 (some 55) (fun K hK => ?_)
            refine call_ 57 #[(bookV N b0 b1 r0 r1 (.slice A5 l5.length c5) (.slice A6 l6.length c6) (.slice A7 l7.length c7) (w.heap.size + 1 + 1)), .int .i64 y2] (by rfl) rfl ?_ ?_
            · go_simp
              try rfl
            refine (seen_any N b0 b1 r0 r1 _ _ _ _ y2 (by omega) V2).mono ?_
            rintro e V3 ⟨rfl, hb3⟩
            refine ⟨_, rfl, ?_⟩
            have hI3 := hI2.below hb3
            have hKd3 := hKd2.trans ((KeepsFrom.of_grownBy (grown_of hb3 none) (fun j e => by cases e)))
            have hKe3 := hKe2.trans (Kept.of_below hb3 (fun j hj => by have := hSl j hj; have := hKd2.size; omega))
            refine hK.out _ _ ⟨hI3.opw.b, hI3.cell, blk_below hHeld2.2.2.1 hb3, hHeld2.2.2.2.below hb3⟩ (fun hHeld3 => ?_)
            clear hK K
            refine normA 55 ?_
            refine lastA 23 (some 67) (fun K hK => ?_)
            refine call_ 74 #[(bookV N b0 b1 r0 r1 (.slice A5 l5.length c5) (.slice A6 l6.length c6) (.slice A7 l7.length c7) (w.heap.size + 1 + 1)), .int .i64 (1 + (k : Int)), .int .i64 (9 + y2), .agg #[.int .i64 (y3 - y4), .int .i64 (y3 + y4)]] (by rfl) rfl ?_ ?_
            · go_simp
              try rfl
            refine (bound_any N b0 b1 r0 r1 _ _ _ (w.heap.size + 1 + 1) (1 + (k : Int)) (9 + y2) (y3 - y4) (y3 + y4) _ (by omega) V3 hI3.map).mono ?_
            rintro e V4 ⟨rfl, hM4, hg4⟩
            refine ⟨_, rfl, ?_⟩
            have hI4 := hI3.put hg4 hM4 (by omega) (fun D hd => by have := (HD.out D hd).1; omega)
            have hKd4 := hKd3.trans (KeepsFrom.of_grownBy hg4 (fun j e => by injection e with e; omega))
            have hKe4 := hKe3.trans ⟨hg4.size, fun j hj => hg4.block j (by have := hSl j hj; have := hKd3.size; omega) (by intro e; injection e with e; omega)⟩
            refine hK.out _ _ ?_
            clear hK K
            refine normA 67 ?_
            refine done_ (done_of HT_.out (by kernel_rfl)) ?_
            refine ⟨hKd4, hKe4, ?_, Nat.le_trans hz hKd4.size⟩
            rw [List.map_append, List.foldl_append]
            exact hI4
          · gi_wp2_with fail
            refine startIn_ (S := fun w' => w'.heap[w.heap.size + 1 + 1 + 1]? = some (.cells #[.int .i64 N, .int .i64 b0, .int .i64 b1, .int .i64 r0, .int .i64 r1, .slice A5 l5.length c5, .slice A6 l6.length c6, .slice A7 l7.length c7, .map (some (w.heap.size + 1 + 1))] 80 (0, 0)) ∧ w'.heap[W.heap.size]? = some (.cells #[.int .i64 (k : Int)] 3 (0, 0)) ∧ w'.heap[T7]? = some (.cells #[.int .i64 y0, .int .i64 1, .int .i64 y2, .int .i64 y3, .int .i64 y4] 63 (0, 0)) ∧ Kinds w') (ds := [23]) #[false, false, false, false, false, false, false, false, false, false, false, false, false, false, false, false, false, false, false, false, false, false, false, false] (by rfl) rfl rfl (by kernel_rfl) (by rintro ⟨_, _, h⟩; exact h) ⟨blk_drew hI.opw.b, blk_drew hI.cell, blk_drew hl7, hKW⟩ (fun hHeld => ?_)
            refine with_tabW opened10_tab opened10_bits (fun HT_ HW_ => ?_)
            have hI1 := hI.below ((Below.refl _ W').drew)
            have hKd : KeepsFrom W8.heap.size W' W'.drew := ⟨Nat.le_refl _, fun _ _ _ h _ => h⟩
            have hKe : Kept (fun j => j < w.heap.size ∨ (W7.heap.size ≤ j ∧ j < W7.heap.size + 3)) W' W'.drew := ⟨Nat.le_refl _, fun _ _ => rfl⟩
            generalize W'.drew = V1 at hHeld hI1 hKd hKe ⊢
            refine takeA 0 44 rfl rfl (by rintro w' ⟨s0, s1, s2, s3⟩; exact exec_load_blk s0 rfl rfl Tryd.underlying80 rfl (by kernel_rfl)) ?_
            refine takeA 1 45 rfl rfl (by rintro w' ⟨s0, s1, s2, s3⟩; exact exec_load_blk s0 rfl rfl Tryd.underlying80 rfl (by kernel_rfl)) ?_
            refine takeA 2 46 rfl rfl (by rintro w' ⟨s0, s1, s2, s3⟩; exact exec_load_int ((blk_cell s1 0).trans rfl) rfl rfl) ?_
            refine pureA 4 48 ?_
            refine takeA 5 49 rfl rfl (by rintro w' ⟨s0, s1, s2, s3⟩; exact exec_load_int ((blk_cell s2 1).trans rfl) rfl rfl) ?_
            refine pureA 6 50 ?_
            refine takeA 7 51 rfl rfl (by rintro w' ⟨s0, s1, s2, s3⟩; exact exec_load_fn s3.2 rfl rfl) ?_
            refine takeA 8 52 rfl rfl (by rintro w' ⟨s0, s1, s2, s3⟩; exact exec_load_blk s0 rfl rfl Tryd.underlying80 rfl (by kernel_rfl)) ?_
            refine pureA 9 53 ?_
            refine takeA 10 54 rfl rfl (by rintro w' ⟨s0, s1, s2, s3⟩; exact exec_load_int ((blk_cell s2 2).trans rfl) rfl rfl) ?_
            refine pureA 12 56 ?_
            refine takeA 13 57 rfl rfl (by rintro w' ⟨s0, s1, s2, s3⟩; exact exec_load_int ((blk_cell s2 3).trans rfl) rfl rfl) ?_
            refine pureA 14 58 ?_
            refine takeA 15 59 rfl rfl (by rintro w' ⟨s0, s1, s2, s3⟩; exact exec_load_int ((blk_cell s2 4).trans rfl) rfl rfl) ?_
            refine pureA 16 60 ?_
            refine pureA 17 61 ?_
            refine takeA 18 62 rfl rfl (by rintro w' ⟨s0, s1, s2, s3⟩; exact exec_load_int ((blk_cell s2 3).trans rfl) rfl rfl) ?_
            refine pureA 19 63 ?_
            refine takeA 20 64 rfl rfl (by rintro w' ⟨s0, s1, s2, s3⟩; exact exec_load_int ((blk_cell s2 4).trans rfl) rfl rfl) ?_
            refine pureA 21 65 ?_
            refine pureA 22 66 ?_
            rw [hws, hwa]
            refine oneA 3 (some 47) (fun K hK => ?_)
            refine call_ 56 #[(bookV N b0 b1 r0 r1 (.slice A5 l5.length c5) (.slice A6 l6.length c6) (.slice A7 l7.length c7) (w.heap.size + 1 + 1)), .int .i64 (k : Int)] (by rfl) rfl ?_ ?_
            · go_simp
              try rfl
            refine (night_any N b0 b1 r0 r1 _ _ _ _ (k : Int) (by omega) V1).mono ?_
            rintro e V2 ⟨rfl, hb2⟩
            refine ⟨_, rfl, ?_⟩
            have hI2 := hI1.below hb2
            have hKd2 := hKd.trans ((KeepsFrom.of_grownBy (grown_of hb2 none) (fun j e => by cases e)))
            have hKe2 := hKe.trans (Kept.of_below hb2 (fun j hj => by have := hSl j hj; have := hI1.opw.bel.size; have := hKd.size; omega))
            refine hK.out _ _ ⟨hI2.opw.b, hI2.cell, blk_below hHeld.2.2.1 hb2, hHeld.2.2.2.below hb2⟩ (fun hHeld2 => ?_)
            clear hK K
            refine normA 47 ?_
            refine oneA 11 (some 55) (fun K hK => ?_)
            refine call_ 58 #[(bookV N b0 b1 r0 r1 (.slice A5 l5.length c5) (.slice A6 l6.length c6) (.slice A7 l7.length c7) (w.heap.size + 1 + 1)), .int .i64 y2] (by rfl) rfl ?_ ?_
            · go_simp
              try rfl
            refine (signal_any N b0 b1 r0 r1 _ _ _ _ y2 (by omega) V2).mono ?_
            rintro e V3 ⟨rfl, hb3⟩
            refine ⟨_, rfl, ?_⟩
            have hI3 := hI2.below hb3
            have hKd3 := hKd2.trans ((KeepsFrom.of_grownBy (grown_of hb3 none) (fun j e => by cases e)))
            have hKe3 := hKe2.trans (Kept.of_below hb3 (fun j hj => by have := hSl j hj; have := hKd2.size; omega))
            refine hK.out _ _ ⟨hI3.opw.b, hI3.cell, blk_below hHeld2.2.2.1 hb3, hHeld2.2.2.2.below hb3⟩ (fun hHeld3 => ?_)
            clear hK K
            refine normA 55 ?_
            refine lastA 23 (some 67) (fun K hK => ?_)
            refine call_ 74 #[(bookV N b0 b1 r0 r1 (.slice A5 l5.length c5) (.slice A6 l6.length c6) (.slice A7 l7.length c7) (w.heap.size + 1 + 1)), .int .i64 (1 + (k : Int)), .int .i64 (13 + y2), .agg #[.int .i64 (y3 - y4), .int .i64 (y3 + y4)]] (by rfl) rfl ?_ ?_
            · go_simp
              try rfl
            refine (bound_any N b0 b1 r0 r1 _ _ _ (w.heap.size + 1 + 1) (1 + (k : Int)) (13 + y2) (y3 - y4) (y3 + y4) _ (by omega) V3 hI3.map).mono ?_
            rintro e V4 ⟨rfl, hM4, hg4⟩
            refine ⟨_, rfl, ?_⟩
            have hI4 := hI3.put hg4 hM4 (by omega) (fun D hd => by have := (HD.out D hd).1; omega)
            have hKd4 := hKd3.trans (KeepsFrom.of_grownBy hg4 (fun j e => by injection e with e; omega))
            have hKe4 := hKe3.trans ⟨hg4.size, fun j hj => hg4.block j (by have := hSl j hj; have := hKd3.size; omega) (by intro e; injection e with e; omega)⟩
            refine hK.out _ _ ?_
            clear hK K
            refine normA 67 ?_
            refine done_ (done_of HT_.out (by kernel_rfl)) ?_
            refine ⟨hKd4, hKe4, ?_, Nat.le_trans hz hKd4.size⟩
            rw [List.map_append, List.foldl_append]
            exact hI4
        case stop =>
          rintro D c pre W' _ _ h _
          exact h.elim
        case done =>
          rintro D ys W' hD hys ⟨hI, hz⟩ hK1
          have HI9 := Lib.hid hI
          have HK1 := Lib.hid hK1
          have HYS := Lib.hid hys
          have HI88 := Lib.hid hI8
          clear hI hK1 hys hI8
          go_wp2_with fail
          refine ⟨⟨k + 1, D :: Ds, ?_⟩, ?_⟩
          · (repeat apply Exists.intro)
            refine ⟨?rel1, ?eq1⟩
            case eq1 => first | rfl | exact ⟨⟨rfl, rfl⟩, rfl⟩
            refine ⟨by omega, ?_, HI9.out.opw, ?_, List.nodup_cons.2 ⟨fun hm => ?_, hDn⟩, ?_⟩
            · first | rfl | go_num
            · rw [nightsB_succ, nightB, ← HYS.out]
              exact HI9.out.map
            · have := (Array.getElem?_eq_some_iff.1 (HI88.out.old D hm)).1
              omega
            · intro E hE
              rcases List.mem_cons.1 hE with rfl | hE
              · exact ⟨by omega, HK1.out⟩
              · exact ⟨(HD.out E hE).1, HI9.out.old E hE⟩
          · simp [intOf]
            omega
    · have hge : N ≤ (k : Int) := by omega
      have hkt : k = N.toNat := by omega
      have HKT := Lib.hid hkt
      have hI0 : OpJ #[.int .i64 N, .int .i64 b0, .int .i64 b1, .int .i64 r0, .int .i64 r1, .slice A5 l5.length c5, .slice A6 l6.length c6, .slice A7 l7.length c7] #[.int .i64 N, .int .i64 b0, .int .i64 b1, .int .i64 r0, .int .i64 r1, .slice A5 l5.length c5, .slice A6 l6.length c6, .slice A7 l7.length c7, .map (some (w.heap.size + 1 + 1))] w Ds (peopleB l5 (nightsB b0 b1 r0 r1 l7 wo k) 0) W := ⟨hW, hM, fun D hd => (hD D hd).2⟩
      have HDG : Hid (∀ D ∈ Ds, w.heap.size + 1 + 1 + 1 < D) := Lib.hid fun D hd => (hD D hd).1
      have hp5 : W.cell? ⟨w.heap.size, 5, none⟩ = some (.slice A5 l5.length c5) := (blk_cell hW.x 5).trans rfl
      have HJ0 := Lib.hid hI0
      clear hW hM hD hkt hI0 HW3 HM3 hn0
      go_wp2_with fail
      go_loopw [72] (fun i wr => ∃ j : Nat, j ≤ l5.length ∧ i = .int .i64 j ∧ OpJ #[.int .i64 N, .int .i64 b0, .int .i64 b1, .int .i64 r0, .int .i64 r1, .slice A5 l5.length c5, .slice A6 l6.length c6, .slice A7 l7.length c7] #[.int .i64 N, .int .i64 b0, .int .i64 b1, .int .i64 r0, .int .i64 r1, .slice A5 l5.length c5, .slice A6 l6.length c6, .slice A7 l7.length c7, .map (some (w.heap.size + 1 + 1))] w Ds (peopleB l5 (nightsB b0 b1 r0 r1 l7 wo k) j) wr) (fun i _ => l5.length - (intOf i).toNat)
      case atStart => exact ⟨0, Nat.zero_le _, rfl, HJ0.out⟩
      case round =>
        obtain ⟨j, hj, rfl, hJ⟩ := hrel
        by_cases hjl : j < l5.length
        · have hjl1 : (j : Int) < (l5.length : Int) := by omega
          obtain ⟨ad, e, hx0, hx1⟩ := at_T23 (Kd.C_below h5 hJ.opw.bel) (j : Int) (by omega) (by omega)
          cases e
          rw [Int.toNat_natCast] at hx0 hx1
          have hpj := hps j hjl
          obtain ⟨p0, hp0⟩ : ∃ p0, p0 = (rd_T23 l5 (j : Int)).f0 := ⟨_, rfl⟩
          obtain ⟨p1, hp1⟩ : ∃ p1, p1 = (rd_T23 l5 (j : Int)).f1 := ⟨_, rfl⟩
          rw [← hp0] at hx0 hpj
          rw [← hp1] at hx1 hpj
          have HP0 := Lib.hid hp0
          have HP1 := Lib.hid hp1
          have HJ := Lib.hid hJ
          clear hJ hp0 hp1
          go_wp2_with fail
          refine wp_calm ?_
          have hb9 : Below wr.heap.size wr (wr.alloc (.cells #[.int .i64 p0, .int .i64 p1] 23)) := (Below.refl _ _).alloc (Nat.le_refl _) _
          have hJ1 := (HJ.out.below hb9).below ((Below.refl _ _).drew)
          have ht9 := blk_drew (blk_new wr (.cells #[.int .i64 p0, .int .i64 p1] 23))
          have hn0' : wrap64 (-p0) = -p0 := IntWalk.wrap64_in _ (by constructor <;> omega)
          have hn1' : wrap64 (-p1) = -p1 := IntWalk.wrap64_in _ (by constructor <;> omega)
          refine start_ (n := 12) (S := fun w' => w'.heap[w.heap.size + 1 + 1 + 1]? = some (.cells #[.int .i64 N, .int .i64 b0, .int .i64 b1, .int .i64 r0, .int .i64 r1, .slice (some ad) l5.length c5, .slice A6 l6.length c6, .slice A7 l7.length c7, .map (some (w.heap.size + 1 + 1))] 80 (0, 0)) ∧ w'.heap[wr.heap.size]? = some (.cells #[.int .i64 p0, .int .i64 p1] 23 (0, 0))) (ds := [11]) #[false, false, false, false, false, false, false, false, false, false, false, false] (by kernel_rfl) rfl rfl ⟨hJ1.opw.b, ht9⟩ (fun hHeld => ?_)
          refine with_tabW opened15_tab opened15_bits (fun HT_ HW_ => ?_)
          generalize (wr.alloc (.cells #[.int .i64 p0, .int .i64 p1] 23)).drew = V1 at hHeld hJ1 ⊢
          refine takeA 0 77 rfl rfl (by rintro w' ⟨s0, s1⟩; exact exec_load_blk s0 rfl rfl Tryd.underlying80 rfl (by kernel_rfl)) ?_
          refine takeA 1 78 rfl rfl (by rintro w' ⟨s0, s1⟩; exact exec_load_blk s0 rfl rfl Tryd.underlying80 rfl (by kernel_rfl)) ?_
          refine pureA 2 79 ?_
          refine pureA 4 81 ?_
          refine takeA 5 82 rfl rfl (by rintro w' ⟨s0, s1⟩; exact exec_load_int ((blk_cell s1 1).trans rfl) rfl rfl) ?_
          refine pureA 6 83 ?_
          refine pureA 7 84 ?_
          refine takeA 8 85 rfl rfl (by rintro w' ⟨s0, s1⟩; exact exec_load_int ((blk_cell s1 0).trans rfl) rfl rfl) ?_
          refine pureA 9 86 ?_
          refine pureA 10 87 ?_
          rw [hn0', hn1']
          refine oneA 3 (some 80) (fun K hK => ?_)
          refine call_ 57 #[(bookV N b0 b1 r0 r1 (.slice (some ad) l5.length c5) (.slice A6 l6.length c6) (.slice A7 l7.length c7) (w.heap.size + 1 + 1)), .int .i64 (j : Int)] (by rfl) rfl ?_ ?_
          · go_simp
            try rfl
          refine (seen_any N b0 b1 r0 r1 _ _ _ _ (j : Int) (by omega) V1).mono ?_
          rintro e V2 ⟨rfl, hb2⟩
          refine ⟨_, rfl, ?_⟩
          have hJ2 := hJ1.below hb2
          refine hK.out _ _ ⟨hJ2.opw.b, blk_below hHeld.2 hb2⟩ (fun hHeld2 => ?_)
          clear hK K
          refine normA 80 ?_
          refine lastA 11 (some 88) (fun K hK => ?_)
          refine call_ 74 #[(bookV N b0 b1 r0 r1 (.slice (some ad) l5.length c5) (.slice A6 l6.length c6) (.slice A7 l7.length c7) (w.heap.size + 1 + 1)), .int .i64 (9 + (j : Int)), .int .i64 0, .agg #[.int .i64 (-p1), .int .i64 (-p0)]] (by rfl) rfl ?_ ?_
          · go_simp
            try rfl
          refine (bound_any N b0 b1 r0 r1 _ _ _ (w.heap.size + 1 + 1) (9 + (j : Int)) 0 (-p1) (-p0) _ (by omega) V2 hJ2.map).mono ?_
          rintro e V3 ⟨rfl, hM3, hg3⟩
          refine ⟨_, rfl, ?_⟩
          have hJ3 : OpJ #[.int .i64 N, .int .i64 b0, .int .i64 b1, .int .i64 r0, .int .i64 r1, .slice (some ad) l5.length c5, .slice A6 l6.length c6, .slice A7 l7.length c7] #[.int .i64 N, .int .i64 b0, .int .i64 b1, .int .i64 r0, .int .i64 r1, .slice (some ad) l5.length c5, .slice A6 l6.length c6, .slice A7 l7.length c7, .map (some (w.heap.size + 1 + 1))] w Ds (peopleB l5 (nightsB b0 b1 r0 r1 l7 wo k) (j + 1)) V3 := by
            rw [peopleB_succ, personB, ← HP0.out, ← HP1.out]
            exact hJ2.put hg3 hM3 (fun D hd => by have := HDG.out D hd; omega)
          refine hK.out _ _ ?_
          clear hK K
          refine normA 88 ?_
          refine done_ (done_of HT_.out (by kernel_rfl)) ?_
          have HJ3 := Lib.hid hJ3
          clear HT_ HW_ hHeld hHeld2 hJ1 hJ2 hJ3 hb2 hM3 hg3 ht9 hb9 hx0 hx1
          refine calm_normal ?_
          go_wp2_with fail
          go_roundw
          case rel => exact ⟨j + 1, by omega, by go_num, HJ3.out⟩
          case measure => simp [intOf]; omega
        · obtain rfl : j = l5.length := by omega
          have HJ := Lib.hid hJ
          have hp6 : wr.cell? ⟨w.heap.size, 6, none⟩ = some (.slice A6 l6.length c6) := (blk_cell hJ.opw.x 6).trans rfl
          have hI9 : OpJ #[.int .i64 N, .int .i64 b0, .int .i64 b1, .int .i64 r0, .int .i64 r1, .slice A5 l5.length c5, .slice A6 l6.length c6, .slice A7 l7.length c7] #[.int .i64 N, .int .i64 b0, .int .i64 b1, .int .i64 r0, .int .i64 r1, .slice A5 l5.length c5, .slice A6 l6.length c6, .slice A7 l7.length c7, .map (some (w.heap.size + 1 + 1))] w Ds (pathsB l6 (peopleB l5 (nightsB b0 b1 r0 r1 l7 wo k) l5.length) 0) wr := hJ
          have HI9 := Lib.hid hI9
          clear hJ hI9
          go_wp2_with fail
          go_loopw [93] (fun i wx => ∃ j : Nat, j ≤ l6.length ∧ i = .int .i64 j ∧ OpJ #[.int .i64 N, .int .i64 b0, .int .i64 b1, .int .i64 r0, .int .i64 r1, .slice A5 l5.length c5, .slice A6 l6.length c6, .slice A7 l7.length c7] #[.int .i64 N, .int .i64 b0, .int .i64 b1, .int .i64 r0, .int .i64 r1, .slice A5 l5.length c5, .slice A6 l6.length c6, .slice A7 l7.length c7, .map (some (w.heap.size + 1 + 1))] w Ds (pathsB l6 (peopleB l5 (nightsB b0 b1 r0 r1 l7 wo k) l5.length) j) wx) (fun i _ => l6.length - (intOf i).toNat)
          case atStart => exact ⟨0, Nat.zero_le _, rfl, HI9.out⟩
          case round =>
            clear HI9 HJ
            obtain ⟨j, hj, rfl, hJ⟩ := hrel
            by_cases hjl : j < l6.length
            · have hjl1 : (j : Int) < (l6.length : Int) := by omega
              obtain ⟨ad, e, hx0, hx1⟩ := at_T23 (Kd.C_below h6 hJ.opw.bel) (j : Int) (by omega) (by omega)
              cases e
              rw [Int.toNat_natCast] at hx0 hx1
              have hpj := hpa j hjl
              obtain ⟨p0, hp0⟩ : ∃ p0, p0 = (rd_T23 l6 (j : Int)).f0 := ⟨_, rfl⟩
              obtain ⟨p1, hp1⟩ : ∃ p1, p1 = (rd_T23 l6 (j : Int)).f1 := ⟨_, rfl⟩
              rw [← hp0] at hx0 hpj
              rw [← hp1] at hx1
              have HP0 := Lib.hid hp0
              have HP1 := Lib.hid hp1
              have HJ := Lib.hid hJ
              clear hJ hp0 hp1
              rename World => wy
              go_wp2_with fail
              refine wp_calm ?_
              have hb9 : Below wy.heap.size wy (wy.alloc (.cells #[.int .i64 p0, .int .i64 p1] 23)) := (Below.refl _ _).alloc (Nat.le_refl _) _
              have hJ1 := (HJ.out.below hb9).below ((Below.refl _ _).drew)
              have ht9 := blk_drew (blk_new wy (.cells #[.int .i64 p0, .int .i64 p1] 23))
              refine start_ (n := 6) (S := fun w' => w'.heap[w.heap.size + 1 + 1 + 1]? = some (.cells #[.int .i64 N, .int .i64 b0, .int .i64 b1, .int .i64 r0, .int .i64 r1, .slice A5 l5.length c5, .slice (some ad) l6.length c6, .slice A7 l7.length c7, .map (some (w.heap.size + 1 + 1))] 80 (0, 0)) ∧ w'.heap[wy.heap.size]? = some (.cells #[.int .i64 p0, .int .i64 p1] 23 (0, 0))) (ds := [5]) #[false, false, false, false, false, false] (by kernel_rfl) rfl rfl ⟨hJ1.opw.b, ht9⟩ (fun hHeld => ?_)
              refine with_tabW opened20_tab opened20_bits (fun HT_ HW_ => ?_)
              generalize (wy.alloc (.cells #[.int .i64 p0, .int .i64 p1] 23)).drew = V1 at hHeld hJ1 ⊢
              refine takeA 0 98 rfl rfl (by rintro w' ⟨s0, s1⟩; exact exec_load_blk s0 rfl rfl Tryd.underlying80 rfl (by kernel_rfl)) ?_
              refine takeA 1 99 rfl rfl (by rintro w' ⟨s0, s1⟩; exact exec_load_blk s0 rfl rfl Tryd.underlying80 rfl (by kernel_rfl)) ?_
              refine pureA 2 100 ?_
              refine takeA 4 102 rfl rfl (by rintro w' ⟨s0, s1⟩; exact exec_load_blk s1 rfl rfl Tryd.underlying23 rfl (by kernel_rfl)) ?_
              refine oneA 3 (some 101) (fun K hK => ?_)
              refine call_ 58 #[(bookV N b0 b1 r0 r1 (.slice A5 l5.length c5) (.slice (some ad) l6.length c6) (.slice A7 l7.length c7) (w.heap.size + 1 + 1)), .int .i64 (j : Int)] (by rfl) rfl ?_ ?_
              · go_simp
                try rfl
              refine (signal_any N b0 b1 r0 r1 _ _ _ _ (j : Int) (by omega) V1).mono ?_
              rintro e V2 ⟨rfl, hb2⟩
              refine ⟨_, rfl, ?_⟩
              have hJ2 := hJ1.below hb2
              refine hK.out _ _ ⟨hJ2.opw.b, blk_below hHeld.2 hb2⟩ (fun hHeld2 => ?_)
              clear hK K
              refine normA 101 ?_
              refine lastA 5 (some 103) (fun K hK => ?_)
              refine call_ 74 #[(bookV N b0 b1 r0 r1 (.slice A5 l5.length c5) (.slice (some ad) l6.length c6) (.slice A7 l7.length c7) (w.heap.size + 1 + 1)), .int .i64 (13 + (j : Int)), .int .i64 0, .agg #[.int .i64 p0, .int .i64 p1]] (by rfl) rfl ?_ ?_
              · go_simp
                try rfl
              refine (bound_any N b0 b1 r0 r1 _ _ _ (w.heap.size + 1 + 1) (13 + (j : Int)) 0 p0 p1 _ (by omega) V2 hJ2.map).mono ?_
              rintro e V3 ⟨rfl, hM3, hg3⟩
              refine ⟨_, rfl, ?_⟩
              have hJ3 : OpJ #[.int .i64 N, .int .i64 b0, .int .i64 b1, .int .i64 r0, .int .i64 r1, .slice A5 l5.length c5, .slice (some ad) l6.length c6, .slice A7 l7.length c7] #[.int .i64 N, .int .i64 b0, .int .i64 b1, .int .i64 r0, .int .i64 r1, .slice A5 l5.length c5, .slice (some ad) l6.length c6, .slice A7 l7.length c7, .map (some (w.heap.size + 1 + 1))] w Ds (pathsB l6 (peopleB l5 (nightsB b0 b1 r0 r1 l7 wo k) l5.length) (j + 1)) V3 := by
                rw [pathsB_succ, pathB, ← HP0.out, ← HP1.out]
                exact hJ2.put hg3 hM3 (fun D hd => by have := HDG.out D hd; omega)
              refine hK.out _ _ ?_
              clear hK K
              refine normA 103 ?_
              refine done_ (done_of HT_.out (by kernel_rfl)) ?_
              have HJ3 := Lib.hid hJ3
              clear HT_ HW_ hHeld hHeld2 hJ1 hJ2 hJ3 hb2 hM3 hg3 ht9 hb9 hx0 hx1
              refine calm_normal ?_
              go_wp2_with fail
              go_roundw
              case rel => exact ⟨j + 1, by omega, by go_num, HJ3.out⟩
              case measure => simp [intOf]; omega
            · obtain rfl : j = l6.length := by omega
              rename World => wy
              have hbN := hJ.opw.b
              have hrN := hJ.opw.r
              have HJ := Lib.hid hJ
              clear hJ
              go_wp2_with (first | (refine wpList_load_row rfl 80 _ rfl (w.heap.size + 1 + 1 + 1) rfl 80 #[.int .i64 N, .int .i64 b0, .int .i64 b1, .int .i64 r0, .int .i64 r1, .slice A5 l5.length c5, .slice A6 l6.length c6, .slice A7 l7.length c7, .map (some (w.heap.size + 1 + 1))] (0, 0) _ hbN Tryd.underlying80 rfl (by kernel_rfl) ?_) | (refine wpList_store_blk rfl rfl rfl rfl hrN rfl (by kernel_rfl) (by simp [Value.oneCell']) ?_; intro W9 hP9))
              refine leaves_marks Ds _ hDn (fun D hd => hP9.blk (HJ.out.old D hd) (by have := HDG.out D hd; omega)) fun W' hT => ?_
              have hDl := HDG.out
              refine ⟨_, results_cell_row rfl _ _ (w.heap.size + 1) 80 #[.int .i64 N, .int .i64 b0, .int .i64 b1, .int .i64 r0, .int .i64 r1, .slice A5 l5.length c5, .slice A6 l6.length c6, .slice A7 l7.length c7, .map (some (w.heap.size + 1 + 1))] (0, 0) _ rfl ((hT.block _ (fun hd => by have := hDl _ hd; omega)).trans hP9.here) Tryd.underlying80 rfl (by kernel_rfl), w.heap.size + 1 + 1, by omega, rfl, ?_, ?_⟩
              · have hM := HJ.out.map
                unfold openedM
                rw [← HKT.out]
                obtain ⟨arr, clk, h1, h2⟩ := hM
                exact ⟨arr, clk, (hT.block _ (fun hd => by have := hDl _ hd; omega)).trans (hP9.blk h1 (by omega)), h2⟩
              · have hb := HJ.out.opw.bel.trans (hP9.below (n := w.heap.size) (by omega))
                exact ⟨hT.os.trans hb.os, hT.tape.trans hb.tape, hT.output.trans hb.output, by rw [hT.size]; exact hb.size, fun q hq => (hT.block q (fun hd => by have := hDl _ hd; omega)).trans (hb.block q hq)⟩
end Go.Proofs.YtohbeninpmmmpaaDoor
end

section
/- Plain: what a book says, and what it tells. -/
set_option linter.unusedVariables false
set_option linter.unusedSectionVars false
namespace Go.Proofs.YtohbeninpmmmpaaDoor
open TrydX.X

theorem foldl_addC {α : Type} (f : List Con → α → List Con) (g : α → List Con) (h : ∀ es x, f es x = addC es (g x)) : ∀ (L : List α) (es : List Con), L.foldl f es = addC es (L.flatMap g) := by
  intro L
  induction L with
  | nil => intro es; rfl
  | cons x L ih =>
    intro es
    rw [List.foldl_cons, ih, h, List.flatMap_cons, addC_append]
def lookC (n : Int) (x : S63) : List Con := twoC (1 + n) (thingOf x) (x.f3 - x.f4) (x.f3 + x.f4)
def rateC (r0 r1 : Int) (n : Nat) : List Con := if n = 0 then [] else twoC (1 + (n : Int)) (1 + ((n : Int) - 1)) r0 r1
def nightC (r0 r1 : Int) (xs : List S63) (wo : List Int) (n : Nat) : List Con := rateC r0 r1 n ++ (picks xs n wo).flatMap (lookC n)
def personC (ps : List S23) (i : Nat) : List Con := twoC (9 + (i : Int)) 0 (-(rd_T23 ps i).f1) (-(rd_T23 ps i).f0)
def pathC (ps : List S23) (i : Nat) : List Con := twoC (13 + (i : Int)) 0 (rd_T23 ps i).f0 (rd_T23 ps i).f1
/-- All bounds of a book. -/
def bookC (N b0 b1 r0 r1 : Int) (l5 l6 : List S23) (l7 : List S63) (wo : List Int) : List Con :=
  twoC 1 0 b0 b1 ++ ((List.range N.toNat).flatMap (nightC r0 r1 l7 wo) ++ ((List.range l5.length).flatMap (personC l5) ++ (List.range l6.length).flatMap (pathC l6)))
theorem nightB_is (r0 r1 : Int) (xs : List S63) (wo : List Int) (es : List Con) (n : Nat) : nightB r0 r1 xs wo es n = addC es (nightC r0 r1 xs wo n) := by
  unfold nightB nightC
  rw [addC_append, foldl_addC (lookB n) (lookC n) (fun _ _ => rfl)]
  congr 1
  unfold rateB rateC
  split <;> rfl
theorem openedM_is (N b0 b1 r0 r1 : Int) (l5 l6 : List S23) (l7 : List S63) (wo : List Int) : openedM N b0 b1 r0 r1 l5 l6 l7 wo = addC [] (bookC N b0 b1 r0 r1 l5 l6 l7 wo) := by
  unfold openedM bookC pathsB peopleB nightsB
  rw [foldl_addC (pathB l6) (pathC l6) (fun _ _ => rfl), foldl_addC (personB l5) (personC l5) (fun _ _ => rfl), foldl_addC (nightB r0 r1 l7 wo) (nightC r0 r1 l7 wo) (nightB_is r0 r1 l7 wo), addC_append, addC_append, addC_append]
  rfl

/-- A book as Check has it. -/
structure BookOk (N b0 b1 r0 r1 : Int) (l5 l6 : List S23) (l7 : List S63) : Prop where
  n : 1 ≤ N ∧ N ≤ 8
  b : -20000 ≤ b0 ∧ b0 ≤ b1 ∧ b1 ≤ 20000
  r : -1000 ≤ r0 ∧ r0 ≤ r1 ∧ r1 ≤ 1000
  len : l5.length ≤ 4 ∧ l6.length ≤ 4 ∧ l7.length ≤ 10
  p5 : ∀ i : Nat, i < l5.length → -2000 ≤ (rd_T23 l5 i).f0 ∧ (rd_T23 l5 i).f0 ≤ (rd_T23 l5 i).f1 ∧ (rd_T23 l5 i).f1 ≤ 2000
  p6 : ∀ i : Nat, i < l6.length → 0 ≤ (rd_T23 l6 i).f0 ∧ (rd_T23 l6 i).f0 ≤ (rd_T23 l6 i).f1 ∧ (rd_T23 l6 i).f1 ≤ 5000
  p7 : ∀ j : Nat, j < l7.length → (0 ≤ (rd_T63 l7 j).f0 ∧ (rd_T63 l7 j).f0 < N) ∧ (((rd_T63 l7 j).f1 = 0 ∧ (rd_T63 l7 j).f2 < l5.length) ∨ ((rd_T63 l7 j).f1 = 1 ∧ (rd_T63 l7 j).f2 < l6.length)) ∧ 0 ≤ (rd_T63 l7 j).f2 ∧ (-30000 ≤ (rd_T63 l7 j).f3 ∧ (rd_T63 l7 j).f3 ≤ 30000) ∧ 0 ≤ (rd_T63 l7 j).f4 ∧ (rd_T63 l7 j).f4 ≤ 2000
/-- The things of a book. -/
def Used (N : Int) (l5 l6 : List S23) (i : Nat) : Prop := i = 0 ∨ (1 ≤ i ∧ (i : Int) ≤ N) ∨ (9 ≤ i ∧ i < 9 + l5.length) ∨ (13 ≤ i ∧ i < 13 + l6.length)
/-- The thing that a look compares with. -/
def thingN (x : S63) : Nat := if x.f1 = 0 then 9 + x.f2.toNat else 13 + x.f2.toNat
theorem thing_is {x : S63} (h : 0 ≤ x.f2) : thingOf x = (thingN x : Int) := by
  unfold thingOf thingN
  split <;> omega
/-- Numbers for all things, as a book has them. -/
structure Sat (N b0 b1 r0 r1 : Int) (l5 l6 : List S23) (l7 : List S63) (wo : List Int) (o : Nat → Int) : Prop where
  start : b0 ≤ o 1 - o 0 ∧ o 1 - o 0 ≤ b1
  rate : ∀ n : Nat, 1 ≤ n → (n : Int) < N → r0 ≤ o (1 + n) - o n ∧ o (1 + n) - o n ≤ r1
  look : ∀ j : Nat, j < l7.length → (j : Int) ∉ wo → (rd_T63 l7 j).f3 - (rd_T63 l7 j).f4 ≤ o (1 + (rd_T63 l7 j).f0.toNat) - o (thingN (rd_T63 l7 j)) ∧ o (1 + (rd_T63 l7 j).f0.toNat) - o (thingN (rd_T63 l7 j)) ≤ (rd_T63 l7 j).f3 + (rd_T63 l7 j).f4
  person : ∀ i : Nat, i < l5.length → -(rd_T23 l5 i).f1 ≤ o (9 + i) - o 0 ∧ o (9 + i) - o 0 ≤ -(rd_T23 l5 i).f0
  path : ∀ i : Nat, i < l6.length → (rd_T23 l6 i).f0 ≤ o (13 + i) - o 0 ∧ o (13 + i) - o 0 ≤ (rd_T23 l6 i).f1
theorem satC_append (C D : List Con) (o : Nat → Int) : SatC (C ++ D) o ↔ SatC C o ∧ SatC D o := by
  unfold SatC
  simp only [List.mem_append]
  exact ⟨fun h => ⟨fun c hc => h c (.inl hc), fun c hc => h c (.inr hc)⟩, fun h c hc => hc.elim (h.1 c) (h.2 c)⟩
theorem satC_flatMap {α : Type} (L : List α) (g : α → List Con) (o : Nat → Int) : SatC (L.flatMap g) o ↔ ∀ x ∈ L, SatC (g x) o := by
  unfold SatC
  simp only [List.mem_flatMap]
  exact ⟨fun h x hx c hc => h c ⟨x, hx, hc⟩, fun h c ⟨x, hx, hc⟩ => h x hx c hc⟩
theorem satC_two (a b : Nat) (A B lo hi : Int) (hA : A = a) (hB : B = b) (o : Nat → Int) : SatC (twoC A B lo hi) o ↔ lo ≤ o a - o b ∧ o a - o b ≤ hi := by
  subst hA; subst hB
  unfold SatC twoC
  simp only [List.mem_cons, List.not_mem_nil, or_false, forall_eq_or_imp, forall_eq, Int.toNat_natCast]
  omega
theorem mem_picks {xs : List S63} {n : Int} {wo : List Int} {x : S63} : x ∈ picks xs n wo ↔ ∃ j : Nat, j < xs.length ∧ (j : Int) ∉ wo ∧ (rd_T63 xs j).f0 = n ∧ x = rd_T63 xs j := by
  unfold picks picksTo isPick
  simp only [List.mem_map, List.mem_filter, List.mem_range, Bool.and_eq_true, decide_eq_true_eq, Bool.not_eq_true', decide_eq_false_iff_not]
  constructor
  · rintro ⟨j, ⟨h1, h2, h3⟩, h4⟩
    exact ⟨j, h1, h3, h2, h4.symm⟩
  · rintro ⟨j, h1, h2, h3, h4⟩
    exact ⟨j, ⟨h1, h3, h2⟩, h4.symm⟩
section
variable {N b0 b1 r0 r1 : Int} {l5 l6 : List S23} {l7 : List S63} (hB : BookOk N b0 b1 r0 r1 l5 l6 l7) (wo : List Int)
include hB
theorem sat_is (o : Nat → Int) : SatC (bookC N b0 b1 r0 r1 l5 l6 l7 wo) o ↔ Sat N b0 b1 r0 r1 l5 l6 l7 wo o := by
  obtain ⟨hN1, hN2⟩ := hB.n
  unfold bookC
  rw [satC_append, satC_append, satC_append, satC_flatMap, satC_flatMap, satC_flatMap, satC_two 1 0 1 0 b0 b1 rfl rfl]
  simp only [List.mem_range]
  have e2 : ∀ i : Nat, SatC (personC l5 i) o ↔ -(rd_T23 l5 i).f1 ≤ o (9 + i) - o 0 ∧ o (9 + i) - o 0 ≤ -(rd_T23 l5 i).f0 := fun i => satC_two (9 + i) 0 _ _ _ _ (by omega) rfl o
  have e3 : ∀ i : Nat, SatC (pathC l6 i) o ↔ (rd_T23 l6 i).f0 ≤ o (13 + i) - o 0 ∧ o (13 + i) - o 0 ≤ (rd_T23 l6 i).f1 := fun i => satC_two (13 + i) 0 _ _ _ _ (by omega) rfl o
  have e1 : ∀ n : Nat, SatC (nightC r0 r1 l7 wo n) o ↔ (1 ≤ n → r0 ≤ o (1 + n) - o n ∧ o (1 + n) - o n ≤ r1) ∧ ∀ x ∈ picks l7 n wo, SatC (lookC n x) o := by
    intro n
    unfold nightC
    rw [satC_append, satC_flatMap]
    refine and_congr ?_ Iff.rfl
    unfold rateC
    split
    · subst n
      exact ⟨fun _ h => by omega, fun _ c hc => by cases hc⟩
    · rw [satC_two (1 + n) n _ _ _ _ (by omega) (by omega)]
      exact ⟨fun h _ => h, fun h => h (by omega)⟩
  have e4 : ∀ j : Nat, j < l7.length → (SatC (lookC (rd_T63 l7 j).f0 (rd_T63 l7 j)) o ↔ (rd_T63 l7 j).f3 - (rd_T63 l7 j).f4 ≤ o (1 + (rd_T63 l7 j).f0.toNat) - o (thingN (rd_T63 l7 j)) ∧ o (1 + (rd_T63 l7 j).f0.toNat) - o (thingN (rd_T63 l7 j)) ≤ (rd_T63 l7 j).f3 + (rd_T63 l7 j).f4) := by
    intro j hj
    obtain ⟨h1, _, h2, _⟩ := hB.p7 j hj
    exact satC_two _ _ _ _ _ _ (by omega) (thing_is h2) o
  constructor
  · rintro ⟨h1, h2, h3, h4⟩
    refine ⟨h1, fun n hn hnN => ((e1 n).1 (h2 n (by omega))).1 hn, fun j hj hw => ?_, fun i hi => (e2 i).1 (h3 i hi), fun i hi => (e3 i).1 (h4 i hi)⟩
    obtain ⟨g1, _⟩ := hB.p7 j hj
    refine (e4 j hj).1 ?_
    have hx := ((e1 (rd_T63 l7 j).f0.toNat).1 (h2 _ (by omega))).2 (rd_T63 l7 j) (mem_picks.2 ⟨j, hj, hw, by omega, rfl⟩)
    rwa [Int.toNat_of_nonneg g1.1] at hx
  · intro h
    refine ⟨h.start, fun n hn => (e1 n).2 ⟨fun h1 => h.rate n h1 (by omega), fun x hx => ?_⟩, fun i hi => (e2 i).2 (h.person i hi), fun i hi => (e3 i).2 (h.path i hi)⟩
    obtain ⟨j, h1, h2, h3, rfl⟩ := mem_picks.1 hx
    rw [← h3]
    exact (e4 j h1).2 (h.look j h1 h2)
theorem bookC_ok : ConOk (Used N l5 l6) (bookC N b0 b1 r0 r1 l5 l6 l7 wo) := by
  obtain ⟨hN1, hN2⟩ := hB.n
  obtain ⟨hb0, hb1, hb2⟩ := hB.b
  obtain ⟨hr0, hr1, hr2⟩ := hB.r
  obtain ⟨hl5, hl6, hl7⟩ := hB.len
  have two : ∀ (a b : Nat) (A B lo hi : Int), A = a → B = b → Used N l5 l6 a → Used N l5 l6 b → a ≠ b → -100000 ≤ lo → lo ≤ 100000 → -100000 ≤ hi → hi ≤ 100000 → ∀ c ∈ twoC A B lo hi, ∃ a b : Nat, c.1.1 = a ∧ c.1.2 = b ∧ Used N l5 l6 a ∧ Used N l5 l6 b ∧ a ≠ b ∧ -100000 ≤ c.2 ∧ c.2 ≤ 100000 := by
    intro a b A B lo hi hA hB' ha hb hab h1 h2 h3 h4 c hc
    subst hA; subst hB'
    unfold twoC at hc
    simp only [List.mem_cons, List.not_mem_nil, or_false] at hc
    rcases hc with rfl | rfl
    · exact ⟨a, b, rfl, rfl, ha, hb, hab, h3, h4⟩
    · exact ⟨b, a, rfl, rfl, hb, ha, Ne.symm hab, by show -100000 ≤ -lo; omega, by show -lo ≤ 100000; omega⟩
  refine ⟨?_, .inl rfl, ?_, ?_⟩
  · intro i hi
    unfold Used at hi
    omega
  · intro c hc
    unfold bookC at hc
    simp only [List.mem_append, List.mem_flatMap, List.mem_range] at hc
    rcases hc with hc | ⟨n, hn, hc⟩ | ⟨i, hi, hc⟩ | ⟨i, hi, hc⟩
    · exact two 1 0 1 0 b0 b1 rfl rfl (by unfold Used; omega) (.inl rfl) (by omega) (by omega) (by omega) (by omega) (by omega) c hc
    · unfold nightC rateC at hc
      rw [List.mem_append] at hc
      rcases hc with hc | hc
      · split at hc
        · cases hc
        · exact two (1 + n) n _ _ r0 r1 (by omega) (by omega) (by unfold Used; omega) (by unfold Used; omega) (by omega) (by omega) (by omega) (by omega) (by omega) c hc
      · obtain ⟨x, hx, hc⟩ := List.mem_flatMap.1 hc
        obtain ⟨j, h1, h2, h3, rfl⟩ := mem_picks.1 hx
        obtain ⟨g1, g2, g3, g4, g5⟩ := hB.p7 j h1
        refine two (1 + n) (thingN (rd_T63 l7 j)) _ _ _ _ (by omega) (thing_is g3) (by unfold Used; omega) ?_ ?_ (by omega) (by omega) (by omega) (by omega) c hc
        · unfold Used thingN
          rcases g2 with ⟨k, g2⟩ | ⟨k, g2⟩
          · rw [if_pos k]; omega
          · rw [if_neg (by omega)]; omega
        · unfold thingN
          split <;> omega
    · obtain ⟨h1, h2, h3⟩ := hB.p5 i hi
      exact two (9 + i) 0 _ _ _ _ (by omega) rfl (by unfold Used; omega) (.inl rfl) (by omega) (by omega) (by omega) (by omega) (by omega) c hc
    · obtain ⟨h1, h2, h3⟩ := hB.p6 i hi
      exact two (13 + i) 0 _ _ _ _ (by omega) rfl (by unfold Used; omega) (.inl rfl) (by omega) (by omega) (by omega) (by omega) (by omega) c hc
  · intro i hi h0
    have put : ∀ (a b : Nat) (A B lo hi : Int), A = a → B = b → (∀ c ∈ twoC A B lo hi, c ∈ bookC N b0 b1 r0 r1 l5 l6 l7 wo) → (∃ v, (((a : Int), (b : Int)), v) ∈ bookC N b0 b1 r0 r1 l5 l6 l7 wo) ∧ ∃ v, (((b : Int), (a : Int)), v) ∈ bookC N b0 b1 r0 r1 l5 l6 l7 wo := by
      intro a b A B lo hi hA hB' h
      subst hA; subst hB'
      exact ⟨⟨hi, h _ (by simp [twoC])⟩, ⟨-lo, h _ (by simp [twoC])⟩⟩
    have hi' := hi
    unfold Used at hi'
    have hcase : i = 1 ∨ (2 ≤ i ∧ (i : Int) ≤ N) ∨ (9 ≤ i ∧ i < 9 + l5.length) ∨ (13 ≤ i ∧ i < 13 + l6.length) := by omega
    rcases hcase with rfl | h | h | h
    · refine ⟨0, by omega, .inl rfl, ?_⟩
      refine put 1 0 1 0 b0 b1 rfl rfl fun c hc => ?_
      unfold bookC
      exact List.mem_append.2 (.inl hc)
    · refine ⟨i - 1, by omega, by unfold Used; omega, ?_⟩
      obtain ⟨n, rfl⟩ : ∃ n, i = 1 + n := ⟨i - 1, by omega⟩
      refine put (1 + n) (1 + n - 1) (1 + (n : Int)) (1 + ((n : Int) - 1)) r0 r1 (by omega) (by omega) fun c hc => ?_
      unfold bookC
      refine List.mem_append.2 (.inr (List.mem_append.2 (.inl (List.mem_flatMap.2 ⟨n, List.mem_range.2 (by omega), ?_⟩))))
      unfold nightC rateC
      rw [if_neg (by omega)]
      exact List.mem_append.2 (.inl hc)
    · refine ⟨0, by omega, .inl rfl, ?_⟩
      obtain ⟨n, rfl⟩ : ∃ n, i = 9 + n := ⟨i - 9, by omega⟩
      refine put (9 + n) 0 (9 + (n : Int)) 0 (-(rd_T23 l5 n).f1) (-(rd_T23 l5 n).f0) (by omega) rfl fun c hc => ?_
      unfold bookC
      exact List.mem_append.2 (.inr (List.mem_append.2 (.inr (List.mem_append.2 (.inl (List.mem_flatMap.2 ⟨n, List.mem_range.2 (by omega), hc⟩))))))
    · refine ⟨0, by omega, .inl rfl, ?_⟩
      obtain ⟨n, rfl⟩ : ∃ n, i = 13 + n := ⟨i - 13, by omega⟩
      refine put (13 + n) 0 (13 + (n : Int)) 0 (rd_T23 l6 n).f0 (rd_T23 l6 n).f1 (by omega) rfl fun c hc => ?_
      unfold bookC
      exact List.mem_append.2 (.inr (List.mem_append.2 (.inr (List.mem_append.2 (.inr (List.mem_flatMap.2 ⟨n, List.mem_range.2 (by omega), hc⟩))))))
end
/-- What a book tells of two things: by how much the first one is above the second one, at most. -/
def told (N b0 b1 r0 r1 : Int) (l5 l6 : List S23) (l7 : List S63) (wo : List Int) : Tb := passF (tab0 (openedM N b0 b1 r0 r1 l5 l6 l7 wo))
/-- Can the book be true, without some looks? -/
def canB (N b0 b1 r0 r1 : Int) (l5 l6 : List S23) (l7 : List S63) (wo : List Int) : Bool := noNeg (told N b0 b1 r0 r1 l5 l6 l7 wo)
section
variable {N b0 b1 r0 r1 : Int} {l5 l6 : List S23} {l7 : List S63} (hB : BookOk N b0 b1 r0 r1 l5 l6 l7) (wo : List Int)
include hB
/-- Whatever is so lies between what is told. -/
theorem so_told {o : Nat → Int} (h : Sat N b0 b1 r0 r1 l5 l6 l7 wo o) : canB N b0 b1 r0 r1 l5 l6 l7 wo = true ∧ ∀ i k, Used N l5 l6 i → Used N l5 l6 k → o i - o k ≤ told N b0 b1 r0 r1 l5 l6 l7 wo i k := by
  unfold canB told
  rw [openedM_is]
  exact sat_told (bookC_ok hB wo) ((sat_is hB wo o).2 h)
/-- Each end that is told is so. -/
theorem told_so (hn : canB N b0 b1 r0 r1 l5 l6 l7 wo = true) {k : Nat} (hk : Used N l5 l6 k) : Sat N b0 b1 r0 r1 l5 l6 l7 wo fun j => told N b0 b1 r0 r1 l5 l6 l7 wo j k := by
  unfold canB told at *
  rw [openedM_is] at *
  exact (sat_is hB wo _).1 (told_sat (bookC_ok hB wo) hn hk)
theorem told_self (hn : canB N b0 b1 r0 r1 l5 l6 l7 wo = true) {i : Nat} (hi : Used N l5 l6 i) : told N b0 b1 r0 r1 l5 l6 l7 wo i i = 0 := by
  unfold canB told at *
  rw [openedM_is] at *
  exact self_all (tab_ok (bookC_ok hB wo)) hn hi
theorem opened_bd : ∀ a b, -100000 ≤ tab0 (openedM N b0 b1 r0 r1 l5 l6 l7 wo) a b ∧ tab0 (openedM N b0 b1 r0 r1 l5 l6 l7 wo) a b ≤ far := by
  rw [openedM_is]
  exact tabC_bd (bookC_ok hB wo)
theorem opened_twice (hn : noNeg (passF (tab0 (openedM N b0 b1 r0 r1 l5 l6 l7 wo))) = true) : passF (passF (tab0 (openedM N b0 b1 r0 r1 l5 l6 l7 wo))) = passF (tab0 (openedM N b0 b1 r0 r1 l5 l6 l7 wo)) := by
  rw [openedM_is] at *
  exact tabC_twice (bookC_ok hB wo) hn
end
end Go.Proofs.YtohbeninpmmmpaaDoor
end

section
/- Plain: things that are set to ends, one after the other. -/
set_option linter.unusedVariables false
set_option linter.unusedSectionVars false
namespace Go.Proofs.YtohbeninpmmmpaaDoor
open TrydX.X

section
variable {U : Nat → Prop} {C : List Con} (hC : ConOk U C)
include hC
/-- Each least end is so. -/
theorem told_sat_low (hn : noNeg (passF (tab0 (addC [] C))) = true) {k : Nat} (hk : U k) : SatC C fun j => -(passF (tab0 (addC [] C)) k j) := by
  refine (sat_pot hC _).2 ?_
  intro i j hi hj
  have h1 := tri_all (tab_ok hC) hn hk hi hj
  have h2 := passF_le (tab0 (addC [] C)) i j
  show -(passF (tab0 (addC [] C)) k i) - -(passF (tab0 (addC [] C)) k j) ≤ _
  omega
end
theorem satC_mono {C D : List Con} {o : Nat → Int} (h : SatC D o) (hs : ∀ c ∈ C, c ∈ D) : SatC C o := fun c hc => h c (hs c hc)
/-- An end of what is told of a thing. -/
def endT (most : Bool) (t : Tb) (i : Nat) : Int := if most then t i 0 else -(t 0 i)
/-- Bounds that can all be so, of things that lie near. -/
structure Ready (U : Nat → Prop) (C : List Con) : Prop where
  ok : ConOk U C
  can : noNeg (passF (tab0 (addC [] C))) = true
  bd : ∀ o, SatC C o → ∀ i, U i → -30000 ≤ o i - o 0 ∧ o i - o 0 ≤ 30000
theorem Ready.end_sat {U : Nat → Prop} {C : List Con} (h : Ready U C) (most : Bool) {i : Nat} (hi : U i) : ∃ o, SatC C o ∧ o i - o 0 = endT most (passF (tab0 (addC [] C))) i := by
  have h0 := self_all (tab_ok h.ok) h.can h.ok.zero
  have h1 := told_sat h.ok h.can h.ok.zero
  have h2 := told_sat_low h.ok h.can h.ok.zero
  unfold endT
  generalize passF (tab0 (addC [] C)) = T at h0 h1 h2 ⊢
  cases most with
  | true =>
    refine ⟨_, h1, ?_⟩
    show T i 0 - T 0 0 = T i 0
    omega
  | false =>
    refine ⟨_, h2, ?_⟩
    show -(T 0 i) - -(T 0 0) = -(T 0 i)
    omega
theorem Ready.end_bd {U : Nat → Prop} {C : List Con} (h : Ready U C) (most : Bool) {i : Nat} (hi : U i) : -30000 ≤ endT most (passF (tab0 (addC [] C))) i ∧ endT most (passF (tab0 (addC [] C))) i ≤ 30000 := by
  obtain ⟨o, h1, h2⟩ := h.end_sat most hi
  rw [← h2]
  exact h.bd o h1 i hi
theorem satC_twoN (a b : Nat) (lo hi : Int) (o : Nat → Int) : SatC (twoC a b lo hi) o ↔ lo ≤ o a - o b ∧ o a - o b ≤ hi := by
  unfold SatC twoC
  simp only [List.mem_cons, List.not_mem_nil, or_false, forall_eq_or_imp, forall_eq, Int.toNat_natCast]
  omega
/-- A thing is set to an end. -/
theorem Ready.step {U : Nat → Prop} {C : List Con} (h : Ready U C) (most : Bool) {i : Nat} (hi : U i) (h0 : i ≠ 0) : Ready U (C ++ twoC i 0 (endT most (passF (tab0 (addC [] C))) i) (endT most (passF (tab0 (addC [] C))) i)) := by
  obtain ⟨o, h1, h2⟩ := h.end_sat most hi
  have hb := h.end_bd most hi
  generalize endT most (passF (tab0 (addC [] C))) i = n at h2 hb ⊢
  have hmem : ∀ c ∈ C, c ∈ C ++ twoC i 0 n n := fun c hc => List.mem_append.2 (.inl hc)
  have hok : ConOk U (C ++ twoC i 0 n n) := by
    refine ⟨h.ok.few, h.ok.zero, ?_, ?_⟩
    · intro c hc
      rcases List.mem_append.1 hc with hc | hc
      · exact h.ok.use c hc
      · unfold twoC at hc
        simp only [List.mem_cons, List.not_mem_nil, or_false] at hc
        rcases hc with rfl | rfl
        · exact ⟨i, 0, rfl, rfl, hi, h.ok.zero, h0, by show -100000 ≤ n; omega, by show n ≤ 100000; omega⟩
        · exact ⟨0, i, rfl, rfl, h.ok.zero, hi, Ne.symm h0, by show -100000 ≤ -n; omega, by show -n ≤ 100000; omega⟩
    · intro j hj hj0
      obtain ⟨k, h3, h4, ⟨v, h5⟩, u, h6⟩ := h.ok.hang j hj hj0
      exact ⟨k, h3, h4, ⟨v, hmem _ h5⟩, u, hmem _ h6⟩
  have hsat : SatC (C ++ twoC i 0 n n) o := by
    intro c hc
    rcases List.mem_append.1 hc with hc | hc
    · exact h1 c hc
    · exact (satC_twoN i 0 n n o).2 ⟨by omega, by omega⟩ c hc
  exact ⟨hok, (sat_told hok hsat).1, fun o ho => h.bd o (satC_mono ho hmem)⟩
/-- Things are set one after the other, each to an end that the others leave. -/
def setsF (most : Bool) : List Nat → List Con → List Con × List Int
  | [], es => (es, [])
  | i :: is, es => ((setsF most is (boundK es i 0 (endT most (passF (tab0 es)) i) (endT most (passF (tab0 es)) i) 2)).1, endT most (passF (tab0 es)) i :: (setsF most is (boundK es i 0 (endT most (passF (tab0 es)) i) (endT most (passF (tab0 es)) i) 2)).2)
theorem setsF_length (most : Bool) : ∀ (is : List Nat) (es : List Con), (setsF most is es).2.length = is.length
  | [], _ => rfl
  | i :: is, es => by simp [setsF, setsF_length most is]
theorem sets_ready (most : Bool) {U : Nat → Prop} : ∀ (is : List Nat) (C : List Con), Ready U C → (∀ i ∈ is, U i ∧ i ≠ 0) →
    ∃ C', (setsF most is (addC [] C)).1 = addC [] C' ∧ Ready U C' ∧ (∀ c ∈ C, c ∈ C') ∧ ∀ k, (hk : k < is.length) → ∀ c ∈ twoC (is[k] : Nat) 0 ((setsF most is (addC [] C)).2.getD k 0) ((setsF most is (addC [] C)).2.getD k 0), c ∈ C'
  | [], C, h, _ => ⟨C, rfl, h, fun _ hc => hc, fun k hk => absurd hk (by simp)⟩
  | i :: is, C, h, hU => by
    have hi := hU i (by simp)
    have hs := h.step most hi.1 hi.2
    obtain ⟨C', h1, h2, h3, h4⟩ := sets_ready most is _ hs (fun j hj => hU j (by simp [hj]))
    rw [addC_append, addC_two] at h1 h4
    refine ⟨C', h1, h2, fun c hc => h3 c (List.mem_append.2 (.inl hc)), ?_⟩
    intro k hk c hc
    cases k with
    | zero => exact h3 c (List.mem_append.2 (.inr hc))
    | succ k => exact h4 k (by simpa using hk) c hc
/-- .. and all that they are set to is so together. -/
theorem sets_sat (most : Bool) {U : Nat → Prop} (is : List Nat) (C : List Con) (h : Ready U C) (hU : ∀ i ∈ is, U i ∧ i ≠ 0) :
    ∃ o, SatC C o ∧ o 0 = 0 ∧ ∀ k, (hk : k < is.length) → o (is[k]) = (setsF most is (addC [] C)).2.getD k 0 := by
  obtain ⟨C', _, h2, h3, h4⟩ := sets_ready most is C h hU
  have hs := told_sat h2.ok h2.can h2.ok.zero
  have h0 := self_all (tab_ok h2.ok) h2.can h2.ok.zero
  generalize passF (tab0 (addC [] C')) = T at h0 hs
  refine ⟨_, satC_mono hs h3, h0, fun k hk => ?_⟩
  have := (satC_twoN (is[k]) 0 _ _ _).1 (satC_mono hs (h4 k hk))
  show T (is[k]) 0 = _
  omega
section
variable {N b0 b1 r0 r1 : Int} {l5 l6 : List S23} {l7 : List S63} (hB : BookOk N b0 b1 r0 r1 l5 l6 l7) (wo : List Int)
include hB
theorem sat_near {o : Nat → Int} (h : Sat N b0 b1 r0 r1 l5 l6 l7 wo o) : ∀ i, Used N l5 l6 i → -30000 ≤ o i - o 0 ∧ o i - o 0 ≤ 30000 := by
  obtain ⟨hN1, hN2⟩ := hB.n
  obtain ⟨hb0, hb1, hb2⟩ := hB.b
  obtain ⟨hr0, hr1, hr2⟩ := hB.r
  have key : ∀ n : Nat, (n : Int) < N → -(20000 + 1000 * (n : Int)) ≤ o (1 + n) - o 0 ∧ o (1 + n) - o 0 ≤ 20000 + 1000 * (n : Int) := by
    intro n
    induction n with
    | zero => intro _; have := h.start; simp only [Nat.add_zero]; omega
    | succ n ih =>
      intro hn
      have h1 := ih (by omega)
      have h2 := h.rate (n + 1) (by omega) hn
      have e : 1 + n = n + 1 := by omega
      rw [e] at h1
      omega
  intro i hi
  unfold Used at hi
  rcases hi with rfl | hi | hi | hi
  · omega
  · obtain ⟨n, rfl⟩ : ∃ n, i = 1 + n := ⟨i - 1, by omega⟩
    have := key n (by omega)
    omega
  · obtain ⟨n, rfl⟩ : ∃ n, i = 9 + n := ⟨i - 9, by omega⟩
    have h1 := h.person n (by omega)
    have h2 := hB.p5 n (by omega)
    omega
  · obtain ⟨n, rfl⟩ : ∃ n, i = 13 + n := ⟨i - 13, by omega⟩
    have h1 := h.path n (by omega)
    have h2 := hB.p6 n (by omega)
    omega
theorem book_ready (hn : canB N b0 b1 r0 r1 l5 l6 l7 wo = true) : Ready (Used N l5 l6) (bookC N b0 b1 r0 r1 l5 l6 l7 wo) := by
  refine ⟨bookC_ok hB wo, ?_, fun o ho => sat_near hB wo ((sat_is hB wo o).1 ho)⟩
  unfold canB told at hn
  rwa [openedM_is] at hn
/-- What is told of a thing lies near. -/
theorem told_near (hn : canB N b0 b1 r0 r1 l5 l6 l7 wo = true) {i k : Nat} (hi : Used N l5 l6 i) (hk : Used N l5 l6 k) : -60000 ≤ told N b0 b1 r0 r1 l5 l6 l7 wo i k ∧ told N b0 b1 r0 r1 l5 l6 l7 wo i k ≤ 60000 := by
  have h1 := told_so hB wo hn hk
  have h2 := sat_near hB wo h1
  have h3 := h2 i hi
  have h4 := h2 k hk
  have h5 := told_self hB wo hn hk
  generalize told N b0 b1 r0 r1 l5 l6 l7 wo = T at h3 h4 h5 ⊢
  omega
end
end Go.Proofs.YtohbeninpmmmpaaDoor
end

section
-- Written by wip/tools/pr.py (a program of this repo over the kit's print.py).
namespace Go.Proofs.TrydX.X
open Go.RowKit Go.Proofs.YtohbeninpmmmpaaDoorW.PrintWords Go.Proofs.YtohbeninpmmmpaaDoorW.PrintLast Go.Proofs.YtohbeninpmmmpaaDoorW.PrintMore
attribute [local go_sem] max2_int min2_int max_two min_two max_three min_three max_four min_four   -- for this text's walks alone
set_option linter.unusedVariables false
set_option linter.unusedSimpArgs false

/-! ### star_isSpan: function 62 -/
def star_isSpan.f (a0_0 : Int) (a0_1 : Int) (a1 : Int) (a2 : Int) : Option (Bool) := if a1 ≤ a0_0 then (if a0_0 ≤ a0_1 then (some (decide (a0_1 ≤ a2))) else (some false)) else (some false)
set_option maxHeartbeats 8000000 in
set_option maxRecDepth 100000 in
theorem star_isSpan.calls (a0_0 : Int) (a0_1 : Int) (a1 : Int) (a2 : Int) (r : Bool) (w : World) (h : star_isSpan.f a0_0 a0_1 a1 a2 = some r) :
    Calls Tryd.prog 62 #[.agg #[.int .i64 a0_0, .int .i64 a0_1], .int .i64 a1, .int .i64 a2] w fun e w' => e = .returned (.bool r) ∧ Below w.heap.size w w' := by
  have hu23 := Tryd.underlying23
  have HB := Aside0.mk (Below.refl w.heap.size w)
  have H : (if a1 ≤ a0_0 then (if a0_0 ≤ a0_1 then (some (decide (a0_1 ≤ a2))) else (some false)) else (some false)) = some r := h
  clear h
  by_cases c4 : a1 ≤ a0_0
  · rw [if_pos c4] at H
    have c4b0 : decide (a1 ≤ a0_0) = true := decide_eq_true c4
    clear c4
    by_cases c5 : a0_0 ≤ a0_1
    · rw [if_pos c5] at H
      have c5b0 : decide (a0_0 ≤ a0_1) = true := decide_eq_true c5
      clear c5
      obtain rfl := Option.some.inj H
      go_enter Tryd.func62, Tryd.ntmps62
      go_wp2_with (first | ((with_reducible refine gate_dst (N := 3) rfl ?_); refine box_event ?hg (N := 3) ?hd (cs := #[.int .i64 a0_0, .int .i64 a0_1]) (t := 23) ?hr ?_; (case hd => rfl); (case hg => rfl); (case hr => first | (go_simp; done) | (go_simp; rfl)); intro gb101 hg w6 hbox hb; have n0_ := Aside0.mk (below_step (by repeat (first | (with_reducible first | exact HB.out | apply below_alloc | apply pw_below_drewN | apply below_drew1) | exact HB.out)) hb); have n1_ := Aside0.mk (hbox); have n2_ := Aside0.mk ((by rw [hg]; exact (below_size (by repeat (first | (with_reducible first | exact HB.out | apply below_alloc | apply pw_below_drewN | apply below_drew1) | exact HB.out))) : w.heap.size ≤ gb101)); have n3_ := Aside0.mk ((by rw [hg]; exact (below_size (by repeat (first | (with_reducible first | exact HB.out | apply below_alloc | apply pw_below_drewN | apply below_drew1) | exact HB.out))) : w.heap.size ≤ gb101)); clear HB; have HB := n0_; have BK101 := n1_; have GW101 := n2_; have GE101 := n3_; clear n0_ n1_ n2_ n3_; clear hb hbox hg; have hcz7_0 : w6.cell? ⟨gb101, 0, none⟩ = some (.int .i64 a0_0) := (blk_cell BK101.out 0).trans rfl; have hcz7_1 : w6.cell? ⟨gb101, 1, none⟩ = some (.int .i64 a0_1) := (blk_cell BK101.out 1).trans rfl; have hfz7_0 := blk_frozen BK101.out 0; have hfz7_1 := blk_frozen BK101.out 1))
      go_ret
      exact ⟨by first | rfl | (simp [errW_none, errW_some] <;> rfl) | (simp [*, errW_none, errW_some] <;> rfl), by repeat (first | (with_reducible first | exact HB.out | apply below_alloc | apply pw_below_drewN | apply below_drew1 | refine below_set ?_ GE101.out) | exact HB.out)⟩
    · rw [if_neg c5] at H
      have c5b0 : decide (a0_0 ≤ a0_1) = false := decide_eq_false c5
      clear c5
      obtain rfl := Option.some.inj H
      go_enter Tryd.func62, Tryd.ntmps62
      go_wp2_with (first | ((with_reducible refine gate_dst (N := 3) rfl ?_); refine box_event ?hg (N := 3) ?hd (cs := #[.int .i64 a0_0, .int .i64 a0_1]) (t := 23) ?hr ?_; (case hd => rfl); (case hg => rfl); (case hr => first | (go_simp; done) | (go_simp; rfl)); intro gb101 hg w8 hbox hb; have n0_ := Aside0.mk (below_step (by repeat (first | (with_reducible first | exact HB.out | apply below_alloc | apply pw_below_drewN | apply below_drew1) | exact HB.out)) hb); have n1_ := Aside0.mk (hbox); have n2_ := Aside0.mk ((by rw [hg]; exact (below_size (by repeat (first | (with_reducible first | exact HB.out | apply below_alloc | apply pw_below_drewN | apply below_drew1) | exact HB.out))) : w.heap.size ≤ gb101)); have n3_ := Aside0.mk ((by rw [hg]; exact (below_size (by repeat (first | (with_reducible first | exact HB.out | apply below_alloc | apply pw_below_drewN | apply below_drew1) | exact HB.out))) : w.heap.size ≤ gb101)); clear HB; have HB := n0_; have BK101 := n1_; have GW101 := n2_; have GE101 := n3_; clear n0_ n1_ n2_ n3_; clear hb hbox hg; have hcz9_0 : w8.cell? ⟨gb101, 0, none⟩ = some (.int .i64 a0_0) := (blk_cell BK101.out 0).trans rfl; have hcz9_1 : w8.cell? ⟨gb101, 1, none⟩ = some (.int .i64 a0_1) := (blk_cell BK101.out 1).trans rfl; have hfz9_0 := blk_frozen BK101.out 0; have hfz9_1 := blk_frozen BK101.out 1))
      go_ret
      exact ⟨by first | rfl | (simp [errW_none, errW_some] <;> rfl) | (simp [*, errW_none, errW_some] <;> rfl), by repeat (first | (with_reducible first | exact HB.out | apply below_alloc | apply pw_below_drewN | apply below_drew1 | refine below_set ?_ GE101.out) | exact HB.out)⟩
  · rw [if_neg c4] at H
    have c4b0 : decide (a1 ≤ a0_0) = false := decide_eq_false c4
    clear c4
    obtain rfl := Option.some.inj H
    go_enter Tryd.func62, Tryd.ntmps62
    go_wp2_with (first | ((with_reducible refine gate_dst (N := 3) rfl ?_); refine box_event ?hg (N := 3) ?hd (cs := #[.int .i64 a0_0, .int .i64 a0_1]) (t := 23) ?hr ?_; (case hd => rfl); (case hg => rfl); (case hr => first | (go_simp; done) | (go_simp; rfl)); intro gb101 hg w10 hbox hb; have n0_ := Aside0.mk (below_step (by repeat (first | (with_reducible first | exact HB.out | apply below_alloc | apply pw_below_drewN | apply below_drew1) | exact HB.out)) hb); have n1_ := Aside0.mk (hbox); have n2_ := Aside0.mk ((by rw [hg]; exact (below_size (by repeat (first | (with_reducible first | exact HB.out | apply below_alloc | apply pw_below_drewN | apply below_drew1) | exact HB.out))) : w.heap.size ≤ gb101)); have n3_ := Aside0.mk ((by rw [hg]; exact (below_size (by repeat (first | (with_reducible first | exact HB.out | apply below_alloc | apply pw_below_drewN | apply below_drew1) | exact HB.out))) : w.heap.size ≤ gb101)); clear HB; have HB := n0_; have BK101 := n1_; have GW101 := n2_; have GE101 := n3_; clear n0_ n1_ n2_ n3_; clear hb hbox hg; have hcz11_0 : w10.cell? ⟨gb101, 0, none⟩ = some (.int .i64 a0_0) := (blk_cell BK101.out 0).trans rfl; have hcz11_1 : w10.cell? ⟨gb101, 1, none⟩ = some (.int .i64 a0_1) := (blk_cell BK101.out 1).trans rfl; have hfz11_0 := blk_frozen BK101.out 0; have hfz11_1 := blk_frozen BK101.out 1))
    go_ret
    exact ⟨by first | rfl | (simp [errW_none, errW_some] <;> rfl) | (simp [*, errW_none, errW_some] <;> rfl), by repeat (first | (with_reducible first | exact HB.out | apply below_alloc | apply pw_below_drewN | apply below_drew1 | refine below_set ?_ GE101.out) | exact HB.out)⟩

end Go.Proofs.TrydX.X
end

section
-- Written by wip/tools/pr.py (a program of this repo over the kit's print.py).
namespace Go.Proofs.TrydX.X
open Go.RowKit Go.Proofs.YtohbeninpmmmpaaDoorW.PrintWords Go.Proofs.YtohbeninpmmmpaaDoorW.PrintLast Go.Proofs.YtohbeninpmmmpaaDoorW.PrintMore
attribute [local go_sem] max2_int min2_int max_two min_two max_three min_three max_four min_four   -- for this text's walks alone
set_option linter.unusedVariables false
set_option linter.unusedSimpArgs false

/-! ### star_within: function 59 -/
def star_within.f (a0 : Int) (a1 : Int) (a2 : Int) : Option (Bool) := if a1 ≤ a0 then (some (decide (a0 ≤ a2))) else (some false)
set_option maxHeartbeats 8000000 in
set_option maxRecDepth 100000 in
theorem star_within.calls (a0 : Int) (a1 : Int) (a2 : Int) (r : Bool) (w : World) (h : star_within.f a0 a1 a2 = some r) :
    Calls Tryd.prog 59 #[.int .i64 a0, .int .i64 a1, .int .i64 a2] w fun e w' => e = .returned (.bool r) ∧ Drawn0 w w' := by
  have H : (if a1 ≤ a0 then (some (decide (a0 ≤ a2))) else (some false)) = some r := h
  clear h
  by_cases c4 : a1 ≤ a0
  · rw [if_pos c4] at H
    have c4b0 : decide (a1 ≤ a0) = true := decide_eq_true c4
    clear c4
    obtain rfl := Option.some.inj H
    go_enter Tryd.func59, Tryd.ntmps59
    go_wp2
    go_ret
    exact ⟨by first | rfl | (simp; done) | (simp [*]; done), by repeat (first | exact Drawn0.refl _ | apply Drawn0.step)⟩
  · rw [if_neg c4] at H
    have c4b0 : decide (a1 ≤ a0) = false := decide_eq_false c4
    clear c4
    obtain rfl := Option.some.inj H
    go_enter Tryd.func59, Tryd.ntmps59
    go_wp2
    go_ret
    exact ⟨by first | rfl | (simp; done) | (simp [*]; done), by repeat (first | exact Drawn0.refl _ | apply Drawn0.step)⟩

end Go.Proofs.TrydX.X
end
