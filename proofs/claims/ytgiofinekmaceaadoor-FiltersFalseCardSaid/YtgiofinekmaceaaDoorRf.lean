/- rows: filters and slices of numbers are opened -/
import Derived.Test.YtgiofinekmaceaaDoorRo
import Derived.Test.YtgiofinekmaceaaDoorFc
import Derived.Deep.Slices
import Derived.Deep.Matrix
import Derived.Lib.SmallJoins
namespace Go.Proofs.YtgiofinekmaceaaDoor.Ro
open Go.ChangeShapes Go.WideShapes Go.ChangeAt Go.RowKit Go.Deep Go.Joins
open Go.Proofs.YtgiofinekmaceaaDoorW.PrintWords Go.Proofs.YtgiofinekmaceaaDoor.Q
set_option linter.unusedVariables false
/-- a row of numbers, from its cells -/
theorem C_numsR {W : World} {k : IntKind} {a : Addr} {n : Nat} {zs : List Int} (hz : n ≤ zs.length) (hm : n ≤ maxLen) (hcell : ∀ i, i < zs.length → W.cell? (a.add i) = some (.int k (zs.getD i 0))) :
    Kd.C (Kd.int k) W (some a) n (zs.take n) := by
  refine ⟨by simp; omega, by unfold maxLen at hm; omega, fun _ => ⟨_, rfl, fun j p hj => ⟨[.int k p], rfl, rfl, fun i u hu => ?_⟩⟩⟩
  rw [List.getElem?_take] at hj
  split at hj
  · rename_i hjn
    match i, hu with
    | 0, hu =>
      injection hu with hu
      subst hu
      show W.cell? (a.add (j * 1 + 0)) = _
      rw [Nat.mul_one, Nat.add_zero, hcell j (by omega), List.getD_eq_getElem?_getD, hj]
      rfl
    | i + 1, hu => simp at hu
  · cases hj
theorem C_nil0 {α : Type} (d : Kd α) (W : World) (A : Option Addr) : Kd.C d W A 0 [] := ⟨rfl, by omega, fun h => absurd h (Nat.lt_irrefl 0)⟩
section
variable {H : Type} {enc : TypeId × Value → H} {P : Program} {W : World} {base : Nat} {held : Bool}
theorem open_numsT {t e : TypeId} {k : IntKind} {fuel : Nat} {v : Value} {x : DataW H × List MemPlace} (ht : P.underlying t = some (.slice e)) (he : P.underlying e = some (.int k)) (hc : P.cellsOf e = 1)
    (h : DataW.trod enc P W base (fun _ => true) held fuel t [v] = some x) : ∃ (a : Option Addr) (len cap : Nat) (xs : List Int), v = .slice a len cap ∧ Kd.C (Kd.int k) W a len xs ∧ len ≤ cap ∧ ∀ x ∈ xs, (Lit.int k x).wf = true := by
  rcases open_ints ht he hc h with ⟨hcs, _⟩ | ⟨x, l, c, zs, hcs, _, hl, hm, hz, _, hcell, hwz⟩
  · obtain rfl : v = .slice none 0 0 := by simpa using hcs
    exact ⟨none, 0, 0, [], rfl, C_nil0 _ _ _, Nat.le_refl _, by simp⟩
  · obtain rfl : v = .slice (some x) l c := by simpa using hcs
    have hz' : zs.length = c := by simpa using hz
    exact ⟨some x, l, c, zs.take l, rfl, C_numsR (by omega) (by omega) hcell, hl, fun y hy => hwz y (List.mem_of_mem_take hy)⟩
theorem open_nums {t e : TypeId} {k : IntKind} {a : Option Addr} {len cap : Nat} {d : DataW H} {ps : List MemPlace} (ht : P.underlying t = some (.slice e)) (he : P.underlying e = some (.int k)) (hc : P.cellsOf e = 1)
    (h : DataW.Trod enc P W base (fun _ => true) held t (.slice a len cap) d ps) : ∃ xs : List Int, Kd.C (Kd.int k) W a len xs ∧ len ≤ cap ∧ ∀ x ∈ xs, (Lit.int k x).wf = true := by
  obtain ⟨fuel, hf⟩ := h
  obtain ⟨a', l', c', xs, e1, h1, h2, h3⟩ := open_numsT ht he hc (v := .slice a len cap) hf
  cases e1
  exact ⟨xs, h1, h2, h3⟩
end
/-- a filter, by value -/
theorem open_filter {H : Type} {enc : TypeId × Value → H} {W : World} {v : Value} {d : DataW H} {ps : List MemPlace} (hv : Value.okWide Tryd.prog W .any 0 26 v) (h : DataW.Trod enc Tryd.prog W 0 (fun _ => true) true 26 v d ps) :
    ∃ (a b : Int) (A : Option Addr) (n c : Nat) (xs : List Int), v = .agg (fcells a b A n c) ∧ (Lit.int .i64 a).wf = true ∧ (Lit.int .i64 b).wf = true ∧ Kd.C (Kd.int .u8) W A n xs ∧ n ≤ c ∧ ∀ x ∈ xs, (Lit.int .u8 x).wf = true := by
  obtain ⟨c0, c1, c2, y0, y1, y2, m, rfl, _, _, hy0, hy1, hy2⟩ := open_agg3 Tryd.underlying26 (by kernel_rfl) (by kernel_rfl) hv h
  obtain ⟨x, e0, _, wx⟩ := DataW.trod_int Tryd.underlying3 hy0
  obtain ⟨y, e1, _, wy⟩ := DataW.trod_int Tryd.underlying3 hy1
  obtain ⟨A, n, c, xs, rfl, hC, hl, hw⟩ := open_numsT Tryd.underlying24 Tryd.underlying5 (by kernel_rfl) hy2
  simp at e0 e1
  subst e0 e1
  exact ⟨x, y, A, n, c, xs, rfl, wx, wy, hC, hl, hw⟩
end Go.Proofs.YtgiofinekmaceaaDoor.Ro
