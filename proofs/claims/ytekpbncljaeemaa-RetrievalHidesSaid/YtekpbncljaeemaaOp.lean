import Derived.Test.YtekpbncljaeemaaQx0
import Derived.Deep.Matrix
import Derived.SizedLaws
import Derived.ChangeSame
namespace Go.Proofs.Ytekpbncljaeemaa.Op
open Go.RowKit Go.ChangeShapes Go.WideShapes Go.Deep
open Go.Proofs.YtekpbncljaeemaaW.PrintWords Go.Proofs.YtekpbncljaeemaaW.PrintLast Go.Proofs.YtekpbncljaeemaaW.PrintMore
set_option linter.unusedVariables false
set_option linter.unusedSimpArgs false

/-- a row of numbers, from its cells -/
theorem C_ints {W : World} {k : IntKind} {a : Addr} {n : Nat} {zs : List Int} (hz : n ≤ zs.length) (hm : n ≤ maxLen) (hcell : ∀ i, i < zs.length → W.cell? (a.add i) = some (.int k (zs.getD i 0))) :
    Kd.C (Kd.int k) W (some a) n (zs.take n) := by
  refine ⟨by simp; omega, by unfold maxLen at hm; omega, fun _ => ⟨_, rfl, fun j p hj => ⟨[.int k p], rfl, rfl, fun i u hu => ?_⟩⟩⟩
  rw [List.getElem?_take] at hj
  split at hj
  · rename_i hjn
    match i, hu with
    | 0, hu =>
      injection hu with hu
      subst hu
      show W.cell? (a.add (j * 1 + 0)) = _
      rw [Nat.mul_one, Nat.add_zero, hcell j (by omega), List.getD_eq_getElem?_getD, hj]
      rfl
    | i + 1, hu => simp at hu
  · cases hj
theorem C_nil0 {α : Type} (d : Kd α) (W : World) (A : Option Addr) : Kd.C d W A 0 [] := ⟨rfl, by omega, fun h => absurd h (Nat.lt_irrefl 0)⟩

section
variable {H : Type} {enc : TypeId × Value → H} {P : Program} {W : World} {base : Nat} {held : Bool}

/-- a slice of numbers, opened -/
theorem open_nums {t e : TypeId} {k : IntKind} {a : Option Addr} {len cap : Nat} {d : DataW H} {ps : List MemPlace} (ht : P.underlying t = some (.slice e)) (he : P.underlying e = some (.int k)) (hc : P.cellsOf e = 1)
    (h : DataW.Trod enc P W base (fun _ => true) held t (.slice a len cap) d ps) : ∃ xs : List Int, xs.length = len ∧ Kd.C (Kd.int k) W a len xs ∧ len ≤ cap ∧ ∀ x ∈ xs, (Lit.int k x).wf = true := by
  obtain ⟨fuel, hf⟩ := h
  rcases open_ints ht he hc hf with ⟨hcs, _⟩ | ⟨x, l, c, zs, hcs, _, hl, hm, hz, _, hcell, hwz⟩
  · simp [Value.cells] at hcs
    obtain ⟨rfl, rfl, rfl⟩ := hcs
    exact ⟨[], rfl, C_nil0 _ _ _, Nat.le_refl _, by simp⟩
  · simp [Value.cells] at hcs
    obtain ⟨rfl, rfl, rfl⟩ := hcs
    have hz' : zs.length = cap := by simpa using hz
    exact ⟨zs.take len, by simp; omega, C_ints (by omega) (by omega) hcell, hl, fun y hy => hwz y (List.mem_of_mem_take hy)⟩

theorem rows_of {k : IntKind} {e : TypeId} {a : Addr} {len cap : Nat} {A : Nat → Option Addr} {L C : Nat → Nat} {Z : Nat → List Int} (hl : len ≤ cap) (hm : cap ≤ maxLen)
    (hx : ∀ r, r < cap → W.cell? (a.add r) = some (.slice (A r) (L r) (C r)) ∧ L r ≤ C r ∧ C r ≤ maxLen ∧ (Z r).length = C r ∧ (∀ n ∈ Z r, (Lit.int k n).wf = true) ∧ (A r = none → C r = 0) ∧
        ∀ a', A r = some a' → base ≤ a'.block ∧ ∀ c, c < C r → W.cell? (a'.add c) = some (.int k ((Z r).getD c 0))) :
    ∃ rows : List (List Int), rows.length = len ∧ Kd.C (Kd.slice e (Kd.int k)) W (some a) len rows ∧ ∀ m ∈ rows, ∀ x ∈ m, (Lit.int k x).wf = true := by
  refine ⟨(List.range len).map fun r => (Z r).take (L r), by simp, ⟨by simp, by unfold maxLen at hm; omega, fun _ => ⟨_, rfl, fun j p hj => ?_⟩⟩, ?_⟩
  · rw [List.getElem?_map, Option.map_eq_some_iff] at hj
    obtain ⟨r, hr, rfl⟩ := hj
    obtain ⟨hr1, hr2⟩ := List.getElem?_eq_some_iff.1 hr
    simp at hr1 hr2
    subst hr2
    obtain ⟨e1, e2, e3, e4, e5, e6, e7⟩ := hx j (by omega)
    have hlen : ((Z j).take (L j)).length = L j := by simp; omega
    refine ⟨[.slice (A j) (L j) (C j)], rfl, ⟨A j, C j, by rw [hlen], by rw [hlen]; exact e2, ?_⟩, fun i u hu => ?_⟩
    · rw [hlen]
      cases hA : A j with
      | none =>
        have hC0 := e6 hA
        have hL0 : L j = 0 := by omega
        rw [hL0, List.take_zero]
        exact C_nil0 _ _ _
      | some a' => exact C_ints (by omega) (by omega) (fun i hi => (e7 a' hA).2 i (by omega))
    · match i, hu with
      | 0, hu =>
        injection hu with hu
        subst hu
        show W.cell? (a.add (j * 1 + 0)) = _
        rw [Nat.mul_one, Nat.add_zero, e1]
      | i + 1, hu => simp at hu
  · intro m hm2 x hx2
    obtain ⟨r, hr, rfl⟩ := List.mem_map.1 hm2
    exact (hx r (by have := List.mem_range.1 hr; omega)).2.2.2.2.1 x (List.mem_of_mem_take hx2)

/-- a slice of slices of numbers, opened -/
theorem open_rows {t e q : TypeId} {k : IntKind} {a : Option Addr} {len cap : Nat} {d : DataW H} {ps : List MemPlace} (ht : P.underlying t = some (.slice e)) (he : P.underlying e = some (.slice q)) (hq : P.underlying q = some (.int k))
    (ce : P.cellsOf e = 1) (cq : P.cellsOf q = 1) (h : DataW.Trod enc P W base (fun _ => true) held t (.slice a len cap) d ps) :
    ∃ rows : List (List Int), rows.length = len ∧ Kd.C (Kd.slice q (Kd.int k)) W a len rows ∧ len ≤ cap ∧ ∀ m ∈ rows, ∀ x ∈ m, (Lit.int k x).wf = true := by
  obtain ⟨fuel, hf⟩ := h
  rcases open_int_rows ht he hq ce cq hf with ⟨hcs, _⟩ | ⟨x, l, c, A, L, C, Z, hcs, _, hl, hm, _, hx⟩
  · simp [Value.cells] at hcs
    obtain ⟨rfl, rfl, rfl⟩ := hcs
    exact ⟨[], rfl, C_nil0 _ _ _, Nat.le_refl _, by simp⟩
  · simp [Value.cells] at hcs
    obtain ⟨rfl, rfl, rfl⟩ := hcs
    obtain ⟨rows, h1, h2, h3⟩ := rows_of (e := q) hl hm hx
    exact ⟨rows, h1, h2, hl, h3⟩

/-- a struct of one field, a slice of slices of numbers, opened -/
theorem open_field_rows {T t e q : TypeId} {k : IntKind} {nm : Field} {v : Value} {d : DataW H} {ps : List MemPlace} {r : Reach} {b0 : Nat} (hT : P.underlying T = some (.struct #[nm])) (htn : nm.type = t) (hof : nm.offset = 0) (cT : P.cellsOf T = 1) (ct : P.cellsOf t = 1)
    (ht : P.underlying t = some (.slice e)) (he : P.underlying e = some (.slice q)) (hq : P.underlying q = some (.int k))
    (ce : P.cellsOf e = 1) (cq : P.cellsOf q = 1) (hval : Value.okWide P W r b0 T v) (h : DataW.Trod enc P W base (fun _ => true) held T v d ps) :
    ∃ (a : Option Addr) (len cap : Nat) (rows : List (List Int)), v = .agg #[.slice a len cap] ∧ rows.length = len ∧ Kd.C (Kd.slice q (Kd.int k)) W a len rows ∧ len ≤ cap ∧ ∀ m ∈ rows, ∀ x ∈ m, (Lit.int k x).wf = true := by
  obtain ⟨cs, rfl, hcs⟩ := okWide_struct hT hval
  rw [cT] at hcs
  obtain ⟨x, rfl⟩ : ∃ x, cs = #[x] := by
    match cs, hcs with
    | ⟨[x]⟩, _ => exact ⟨x, rfl⟩
  obtain ⟨fuel, hf⟩ := h
  obtain ⟨y0, n, _, _, hf0⟩ := trod_struct1 hT hf
  have hf1 : DataW.trod enc P W base (fun _ => true) held n t [x] = some y0 := by
    rw [htn, hof, ct] at hf0
    exact hf0
  rcases open_int_rows ht he hq ce cq hf1 with ⟨hcs1, _⟩ | ⟨x1, l, c, A, L, C, Z, hcs1, _, hl, hm, _, hx⟩
  · injection hcs1 with hcs1
    subst hcs1
    exact ⟨none, 0, 0, [], rfl, rfl, C_nil0 _ _ _, Nat.le_refl _, by simp⟩
  · injection hcs1 with hcs1
    subst hcs1
    obtain ⟨rows, h1, h2, h3⟩ := rows_of (e := q) hl hm hx
    exact ⟨_, _, _, rows, rfl, h1, h2, hl, h3⟩
end
theorem bytes_of_wf {rows : List (List Int)} (h : ∀ m ∈ rows, ∀ x ∈ m, (Lit.int .u8 x).wf = true) : ∀ m ∈ rows, ∀ x ∈ m, 0 ≤ x ∧ x ≤ 255 := by
  intro m hm x hx
  have := h m hm x hx
  simp [Lit.wf, IntKind.min, IntKind.max, IntKind.signed, IntKind.bits] at this
  omega
end Go.Proofs.Ytekpbncljaeemaa.Op
