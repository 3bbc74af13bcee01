/- filters: New, the reference's Same; added, has -/
import Derived.Test.YtgiofinekmaceaaDoorFf
import Derived.Test.YtgiofinekmaceaaDoorPFiltersSpecx2
namespace Go.Proofs.YtgiofinekmaceaaDoor.Q
open Go.RowKit Go.Shelf Go.Proofs.YtgiofinekmaceaaDoorW.PrintWords Go.Proofs.YtgiofinekmaceaaDoorW.PrintLast Go.Proofs.YtgiofinekmaceaaDoorW.PrintMore
set_option linter.unusedVariables false
set_option linter.unusedSimpArgs false
def zerosN (b : Int) : List Int := List.replicate ((b + 7) / 8).toNat 0
theorem New_ok (l b : Int) (h : okB l b = true) (w : World) : Calls Tryd.prog 10 #[.int .i64 l, .int .i64 b] w fun e w' => ∃ v, e = .returned (.tuple #[.agg #[.int .i64 l, .int .i64 b, v], .int .i64 0]) ∧ Kd.R (Kd.int .u8) 5 w' w.heap.size (fun _ => True) v (zerosN b) ∧ Below w.heap.size w w' := by
  obtain ⟨h0, h1, h2, h3⟩ := okB_spec h
  refine PFiltersSpec.filters_New.calls l b l b (zerosN b) 0 w ?_
  have e1 : PFiltersSpec.filters_valid.f l b = some true := by
    unfold PFiltersSpec.filters_valid.f
    rw [if_pos h0, if_pos h1, if_pos h2, decide_eq_true h3]
  have e2 : PFiltersSpec.filters_size.f b = some ((b + 7) / 8) := by
    unfold PFiltersSpec.filters_size.f
    have hw : wrap64 (b + 7) = b + 7 := by unfold wrap64; omega
    rw [hw, Int.tdiv_eq_ediv_of_nonneg (by omega)]
    congr 1
    unfold wrap64
    omega
  unfold PFiltersSpec.filters_New.f
  rw [e1, Option.bind_some, if_pos rfl, e2, Option.bind_some, if_pos (by omega), if_pos (by omega)]
  rfl
theorem New_bad (l b : Int) (h : okB l b = false) (w : World) : Calls Tryd.prog 10 #[.int .i64 l, .int .i64 b] w fun e w' => ∃ v, e = .returned (.tuple #[.agg #[.int .i64 0, .int .i64 0, v], .int .i64 330]) ∧ Kd.R (Kd.int .u8) 5 w' w.heap.size (fun _ => True) v [] ∧ Below w.heap.size w w' := by
  have hn : ¬ (0 ≤ l ∧ l < 16 ∧ 8 ≤ b ∧ b ≤ 4096) := of_decide_eq_false h
  refine PFiltersSpec.filters_New.calls l b 0 0 [] 330 w ?_
  have e1 : PFiltersSpec.filters_valid.f l b = some false := by
    unfold PFiltersSpec.filters_valid.f
    by_cases h0 : l ≥ 0
    · rw [if_pos h0]
      by_cases h1 : l < 16
      · rw [if_pos h1]
        by_cases h2 : b ≥ 8
        · rw [if_pos h2, decide_eq_false (fun h3 => hn ⟨h0, h1, h2, h3⟩)]
        · rw [if_neg h2]
      · rw [if_neg h1]
    · rw [if_neg h0]
  unfold PFiltersSpec.filters_New.f
  rw [e1, Option.bind_some, if_neg (by simp)]
theorem Same_refl (l b : Int) (A1 : Option Addr) (n1 c1 : Nat) (A2 : Option Addr) (n2 c2 : Nat) (data : List Int) (w : World) (h1 : Kd.C (Kd.int .u8) w A1 n1 data) (hc1 : n1 ≤ c1) (h2 : Kd.C (Kd.int .u8) w A2 n2 data) (hc2 : n2 ≤ c2) :
    Calls Tryd.prog 14 #[.agg (fcells l b A1 n1 c1), .agg (fcells l b A2 n2 c2)] w fun e w' => e = .returned (.bool true) ∧ Below w.heap.size w w' := by
  obtain rfl := Kd.C_len h1
  obtain rfl := Kd.C_len h2
  refine PFiltersSpec.testamurref33_Same.calls l b A1 c1 data l b A2 c2 data true w h1 hc1 h2 hc2 ?_
  unfold PFiltersSpec.testamurref33_Same.f
  simp
end Go.Proofs.YtgiofinekmaceaaDoor.Q
