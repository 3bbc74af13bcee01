/- rows: digests are opened; the laid tables -/
import Derived.Test.YtgiofinekmaceaaDoorRows
import Derived.Test.YtgiofinekmaceaaDoorGa
import Derived.WalkKit
import Derived.ProofKit
import Derived.OpenShut
import Derived.LaidMore
import Derived.Stop.Joined
import Derived.ChangeOld
import Derived.Below
namespace Go.Proofs.YtgiofinekmaceaaDoor.Ro
open Go.ChangeShapes Go.WideShapes Go.ChangeAt Go.RowKit
open Go.Proofs.YtgiofinekmaceaaDoorW.PrintWords Go.Proofs.YtgiofinekmaceaaDoor.Q
set_option linter.unusedVariables false
theorem own : ownKnob Tryd.prog.godebug = none := by kernel_rfl
theorem laidOut : laidOutB Tryd.prog = true := by kernel_rfl
section
variable {H : Type} {enc : TypeId × Value → H} {P : Program} {w : World} {base : Nat} {sp : Nat → Bool} {hd : Bool}
theorem arr_at {n : Nat} {t e : TypeId} {k : IntKind} {fuel : Nat} {cs : List Value} {x : DataW H × List MemPlace} (ht : P.underlying t = some (.array n e)) (he : P.underlying e = some (.int k)) (hc : P.cellsOf e = 1)
    (h : DataW.trod enc P w base sp hd fuel t cs = some x) : ∃ ds : List (DataW H), x.1 = .agg ds ∧ ds.length = n ∧ ∀ i, i < n → ∃ a : Int, cs[i]? = some (.int k a) ∧ ds[i]? = some (.lit (.int k a)) ∧ (Lit.int k a).wf = true := by
  obtain ⟨xs, m, _, hx, hlen, hn, hel⟩ := DataW.trod_array ht h
  refine ⟨xs.map (·.1), by rw [hx], by rw [List.length_map, hn], fun i hi => ?_⟩
  have h1 := hel i hi
  rw [hc, Nat.mul_one, List.getElem?_eq_getElem (by omega)] at h1
  obtain ⟨a, e1, e2, hw⟩ := DataW.trod_int he h1
  refine ⟨a, ?_, by rw [List.getElem?_map, List.getElem?_eq_getElem (by omega), e2]; rfl, hw⟩
  have : ((cs.drop i).take 1)[0]? = some (.int k a) := by rw [e1]; rfl
  rw [List.getElem?_take, if_pos (by omega), List.getElem?_drop] at this
  simpa using this
end
def laid2 : List (String × DataW Unit) := [("testamur/digest.start", Rows.laid_testamur_digest_start), ("testamur/digest.numbers", Rows.laid_testamur_digest_numbers)]
theorem gStart : Tryd.prog.globalNamed "testamur/digest.start" = some 0 := by kernel_rfl
theorem gNums : Tryd.prog.globalNamed "testamur/digest.numbers" = some 1 := by kernel_rfl
theorem tStart : (Tryd.prog.globals[0]?).map (·.type) = some 66 := by kernel_rfl
theorem tNums : (Tryd.prog.globals[1]?).map (·.type) = some 76 := by kernel_rfl
theorem lit_start : Rows.laid_testamur_digest_start (H := Unit) = .agg (hTab.map fun x => .lit (.int .u32 x)) := rfl
theorem lit_nums : Rows.laid_testamur_digest_numbers (H := Unit) = .agg (kTab.map fun x => .lit (.int .u32 x)) := rfl
theorem tab_at {n : Nat} {cs : List Value} {L : List Int} {ds : List (DataW Unit)} (hds : (DataW.agg (L.map fun x => .lit (.int .u32 x)) : DataW Unit) = .agg ds) (h : ∀ i, i < n → ∃ a : Int, cs[i]? = some (.int .u32 a) ∧ ds[i]? = some (.lit (.int .u32 a)) ∧ (Lit.int .u32 a).wf = true) (i : Nat) (hi : i < n) : cs[i]? = some (.int .u32 (rd L (i : Int))) := by
  obtain ⟨a, h1, h2, _⟩ := h i hi
  injection hds with hds
  rw [← hds, List.getElem?_map] at h2
  obtain ⟨b, hb, e⟩ := Option.map_eq_some_iff.1 h2
  injection e with e
  injection e with _ e
  subst e
  rw [h1]
  simp [rd, List.getD, hb]
/-- what the condition gives: the tables lie in the variables -/
theorem of_laid {W : World} (h : laidMetH Tryd.prog laid2 W) : Tabs W := by
  rw [MakeChecks.laidMetH_plain _ _ _ (by kernel_rfl)] at h
  obtain ⟨ps, ⟨g0, t0, cs0, f0, p0, q0, hg0, ht0, hv0, hd0, ⟨g1, t1, cs1, f1, p1, q1, hg1, ht1, hv1, hd1, _, _⟩, _⟩, _, _⟩ := h
  obtain rfl := Option.some.inj (gStart.symm.trans hg0)
  obtain rfl := Option.some.inj (gNums.symm.trans hg1)
  obtain rfl := Option.some.inj (tStart.symm.trans ht0)
  obtain rfl := Option.some.inj (tNums.symm.trans ht1)
  obtain ⟨ds0, e0, _, h0⟩ := arr_at Tryd.underlying66 Tryd.underlying65 (by kernel_rfl) hd0
  obtain ⟨ds1, e1, _, h1⟩ := arr_at Tryd.underlying76 Tryd.underlying65 (by kernel_rfl) hd1
  refine ⟨fun t ht => ?_, fun t ht => ?_⟩
  · have := World.var?_cell hg1 hv1 t
    rw [this, ← Array.getElem?_toList]
    exact tab_at (lit_nums.symm.trans e1) h1 t ht
  · have := World.var?_cell hg0 hv0 t
    rw [this, ← Array.getElem?_toList]
    exact tab_at (lit_start.symm.trans e0) h0 t ht
/-- a digest, by value -/
theorem open_dig {H : Type} {enc : TypeId × Value → H} {W : World} {sp : Nat → Bool} {v : Value} {d : DataW H} {ps : List MemPlace} (hv : Value.okWide Tryd.prog W .any 0 23 v) (h : DataW.Trod enc Tryd.prog W 0 sp true 23 v d ps) :
    ∃ l : List Int, l.length = 32 ∧ v = .agg (cells8 l) ∧ ∀ x ∈ l, (Lit.int .u8 x).wf = true := by
  obtain ⟨cs, rfl, hsz, _⟩ : ∃ cs, v = .agg cs ∧ cs.size = Tryd.prog.cellsOf 23 ∧ Row.okWide Tryd.prog W .any 0 23 cs := by
    simpa [Value.okWide, Tryd.underlying23] using hv
  rw [show Tryd.prog.cellsOf 23 = 32 from by kernel_rfl] at hsz
  obtain ⟨fuel, hf⟩ := h
  obtain ⟨ds, _, _, hel⟩ := arr_at Tryd.underlying23 Tryd.underlying5 (by kernel_rfl) hf
  have hcell : ∀ i, i < 32 → ∃ a : Int, cs[i]? = some (.int .u8 a) ∧ (Lit.int .u8 a).wf = true := fun i hi => by
    obtain ⟨a, h1, _, h3⟩ := hel i hi
    exact ⟨a, by simpa [Value.cells] using h1, h3⟩
  refine ⟨cs.toList.map intOf, by simpa using hsz, ?_, ?_⟩
  · congr 1
    apply Array.ext_getElem?
    intro i
    by_cases hi : i < 32
    · obtain ⟨a, ha, _⟩ := hcell i hi
      rw [ha, cells8, nums]
      simp [ha, intOf]
    · rw [Array.getElem?_eq_none (by omega), Array.getElem?_eq_none (by simp [cells8, nums]; omega)]
  · intro x hx
    obtain ⟨v, hv', rfl⟩ := List.mem_map.1 hx
    obtain ⟨i, hi, e⟩ := List.getElem_of_mem hv'
    have hi' : i < 32 := by simpa [hsz] using hi
    obtain ⟨a, ha, hw⟩ := hcell i hi'
    have : v = .int .u8 a := by
      have h2 : cs.toList[i]? = some v := by rw [List.getElem?_eq_getElem hi, e]
      rw [Array.getElem?_toList, ha] at h2
      exact (Option.some.inj h2).symm
    rw [this]
    exact hw
set_option maxRecDepth 100000 in
theorem door_met (os : Os) (args : Array Value) : laidMetH Tryd.prog laid2 ((World.doorLaid Tryd.prog 400 os).forCall (fun _ _ => 0) ⟨#[], args, []⟩).memory :=
  laidMetH_of_parts3 (fuel := 8) (laidMet_of_run' 8 (by kernel_rfl) (by kernel_rfl)) (by kernel_rfl) (by kernel_rfl)
end Go.Proofs.YtgiofinekmaceaaDoor.Ro
