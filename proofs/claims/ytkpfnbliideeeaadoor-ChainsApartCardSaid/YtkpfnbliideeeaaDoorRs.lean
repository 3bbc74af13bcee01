/- rows: slices of digests are opened -/
import Derived.Test.YtkpfnbliideeeaaDoorRo
import Derived.Deep.Slices
namespace Go.Proofs.YtkpfnbliideeeaaDoor.Ro
open Go.ChangeShapes Go.WideShapes Go.ChangeAt Go.RowKit Go.Deep
open Go.Proofs.YtkpfnbliideeeaaDoorW.PrintWords Go.Proofs.YtkpfnbliideeeaaDoor.Q
set_option linter.unusedVariables false
theorem open_digs {H : Type} {enc : TypeId × Value → H} {W : World} {sp : Nat → Bool} {A : Option Addr} {n c : Nat} {d : DataW H} {ps : List MemPlace} (h : DataW.Trod enc Tryd.prog W 0 sp true 24 (.slice A n c) d ps) :
    ∃ xs : List (List Int), Kd.C KdD W A n xs ∧ n ≤ c := by
  obtain ⟨fuel, hf⟩ := h
  rcases open_slice Tryd.underlying24 hf with ⟨h0, _⟩ | ⟨a, len, cap, m, n', D, Pl, hcs, _, hl, hm, hmm, _, hx⟩
  · have h1 : (Value.slice A n c) = .slice none 0 0 := by simpa [Value.cells] using h0
    cases h1
    exact ⟨[], ⟨rfl, by omega, fun h => by omega⟩, Nat.le_refl _⟩
  · have h1 : (Value.slice A n c) = .slice (some a) len cap := by simpa [Value.cells] using hcs
    cases h1
    have hlm : n ≤ m := by rw [hmm]; split <;> omega
    rw [show Tryd.prog.cellsOf 23 = 32 from by kernel_rfl] at hx
    obtain ⟨X, hX⟩ := choose_lt (α := List Int) (p := fun i x => x.length = 32 ∧ ∀ j, j < 32 → W.cell? ((a.add (i * 32)).add j) = some (.int .u8 (x.getD j 0))) (fun i (hi : i < n) => by
      obtain ⟨cs', h1, h2⟩ := hx i (by omega)
      obtain ⟨_, hlen, hcell⟩ := World.cells?_some h1
      obtain ⟨ds, _, _, hel⟩ := arr_at Tryd.underlying23 Tryd.underlying5 (by kernel_rfl) h2
      refine ⟨cs'.map intOf, by simpa using hlen, fun j hj => ?_⟩
      obtain ⟨v, hv, _, _⟩ := hel j hj
      rw [hcell j hj, hv]
      simp [List.getD, hv, intOf])
    refine ⟨(List.range n).map X, ⟨by simp, by unfold maxLen at hm; omega, fun _ => ⟨a, rfl, fun j p hj => ?_⟩⟩, hl⟩
    have hj' : j < n := by
      have := (List.getElem?_eq_some_iff.1 hj).1
      simpa using this
    have hp : X j = p := by simpa [hj'] using hj
    subst hp
    obtain ⟨hlX, hcX⟩ := hX j hj'
    refine ⟨nums .u8 (X j), (by show _ = 32; simpa [nums] using hlX), Kd.K_of_M KdD (dig_M (w := W) (base := 0) (ok := fun _ => True) _ hlX), fun i u hu => ?_⟩
    have hi : i < 32 := by
      have := (List.getElem?_eq_some_iff.1 hu).1
      simpa [nums, hlX] using this
    have := hcX i hi
    rw [add_add'] at this
    show W.cell? (a.add (j * 32 + i)) = some u
    rw [this]
    have h3 : (X j)[i]? = some ((X j).getD i 0) := by simp [List.getD, hlX, hi]
    rw [nums, List.getElem?_map, h3] at hu
    exact hu
end Go.Proofs.YtkpfnbliideeeaaDoor.Ro
