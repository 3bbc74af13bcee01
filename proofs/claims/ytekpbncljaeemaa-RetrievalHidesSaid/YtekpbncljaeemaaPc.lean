import Derived.Test.YtekpbncljaeemaaPb
import Derived.Test.YtekpbncljaeemaaQa
namespace Go.Proofs.Ytekpbncljaeemaa.Q
open Go.RowKit Go.Proofs.YtekpbncljaeemaaW.PrintWords Go.Proofs.YtekpbncljaeemaaW.PrintLast Go.Proofs.YtekpbncljaeemaaW.PrintMore
set_option linter.unusedVariables false
set_option linter.unusedSimpArgs false

theorem ask_loop (a0 : Int) (l1 : List Int) (l3 : List (List Int)) (h1 : l1.length ≤ l3.length) (h3 : l3.length ≤ 132) (hb : ∀ n, n < l3.length → ∀ x ∈ l3.getD n [], 0 ≤ x ∧ x ≤ 255) : ∀ (d k n : Nat), n + d = l3.length → askErr a0 l1 l3 n = 0 →
    testamurref36_Ask.l0 (d + 12 + k) a0 l1 (l3.length : Int) l3 (n : Int) ((List.range n).map (fun i => (askAt a0 l1 l3 i).1)) ((List.range n).map (fun i => (askAt a0 l1 l3 i).2.1)) =
      if askErr a0 l1 l3 l3.length = 0 then some ((List.range l3.length).map (fun i => (askAt a0 l1 l3 i).1), (List.range l3.length).map (fun i => (askAt a0 l1 l3 i).2.1), 0) else some ([], [], askErr a0 l1 l3 l3.length)
  | 0, k, n, h, he => by
    rw [show 0 + 12 + k = (11 + k) + 1 from by omega, testamurref36_Ask.l0, if_neg (by omega), show n = l3.length from by omega] 
    rw [show n = l3.length from by omega] at he
    rw [if_pos he]
  | d + 1, k, n, h, he => by
    rw [show d + 1 + 12 + k = (d + 12 + k) + 1 from by omega, testamurref36_Ask.l0, if_pos (by omega)]
    have hstop := askErr_stop a0 l1 l3 n he
    have hat : ∀ (A B : Option (List (List Int) × List (List Int) × Int)), (if (n : Int) < (l1.length : Int) then A else B) = if n < l1.length then A else B := by
      intro A B
      by_cases q : n < l1.length
      · rw [if_pos q, if_pos (by omega)]
      · rw [if_neg q, if_neg (by omega)]
    have go : ∀ x : Int, x = (if n < l1.length then rd l1 (n : Int) else 0) →
        ((testamurref36_Masks.f (d + 12 + k) a0 x (l3.getD n [])).bind fun bt245 => (if bt245.2.2 = 0 then (if ((List.range n).map (fun i => (askAt a0 l1 l3 i).1)).length < 5864062014805 then (if ((List.range n).map (fun i => (askAt a0 l1 l3 i).2.1)).length < 5864062014805 then (testamurref36_Ask.l0 (d + 12 + k) a0 l1 (l3.length : Int) l3 (wrap64 ((n : Int) + 1)) (((List.range n).map (fun i => (askAt a0 l1 l3 i).1)) ++ [bt245.1]) (((List.range n).map (fun i => (askAt a0 l1 l3 i).2.1)) ++ [bt245.2.1])) else (none)) else (none)) else (some (([] : List (List Int)), ([] : List (List Int)), bt245.2.2)))) =
        if askErr a0 l1 l3 l3.length = 0 then some ((List.range l3.length).map (fun i => (askAt a0 l1 l3 i).1), (List.range l3.length).map (fun i => (askAt a0 l1 l3 i).2.1), 0) else some ([], [], askErr a0 l1 l3 l3.length) := by
      intro x hx
      rw [hx, show d + 12 + k = 9 + (d + 1 + k) + 2 from by omega, rmasks_of _ _ _ _ (hb n (by omega)), Option.bind_some, show 9 + (d + 1 + k) + 2 = d + 12 + k from by omega]
      have e : masksOf a0 (if n < l1.length then rd l1 (n : Int) else 0) (l3.getD n []) = askAt a0 l1 l3 n := rfl
      rw [e]
      by_cases hz : (askAt a0 l1 l3 n).2.2 = 0
      · rw [if_pos hz, if_pos (by simp; omega), if_pos (by simp; omega), show wrap64 ((n : Int) + 1) = ((n + 1 : Nat) : Int) from by unfold wrap64; omega]
        have := ask_loop a0 l1 l3 h1 h3 hb d k (n + 1) (by omega) (by rw [askErr, if_pos he]; exact hz)
        rw [List.range_succ, List.map_append, List.map_append, List.map_singleton, List.map_singleton] at this
        exact this
      · rw [if_neg hz]
        have := hstop hz d
        rw [show n + 1 + d = l3.length from by omega] at this
        rw [this, if_neg hz]
    rw [hat]
    by_cases q : n < l1.length
    · rw [if_pos q, if_pos (by omega), if_pos (by omega), rd_L1_nat]
      exact go _ (by rw [if_pos q])
    · rw [if_neg q, if_pos (by omega), if_pos (by omega), rd_L1_nat]
      exact go _ (by rw [if_neg q])
theorem rask_of (a0 : Int) (l1 : List Int) (a2 : Int) (l3 : List (List Int)) (hb : ∀ n, n < l3.length → ∀ x ∈ l3.getD n [], 0 ≤ x ∧ x ≤ 255) (k : Nat) (hk : l3.length + 13 ≤ k) : testamurref36_Ask.f k a0 l1 a2 l3 = retrieval_Ask.f a0 l1 a2 l3 := by
  unfold testamurref36_Ask.f retrieval_Ask.f askBad
  rw [show k = (k - 1) + 1 from by omega]
  by_cases h1 : a2 < 1
  · rw [if_pos h1, decide_eq_true h1, Bool.true_or, Bool.true_or, Bool.true_or, if_pos rfl, testamurref36_Ask.j0, if_pos rfl]
  · rw [if_neg h1, decide_eq_false h1, Bool.false_or]
    by_cases h2 : a2 > 132
    · rw [if_pos h2, decide_eq_true (show 132 < a2 by omega), Bool.true_or, Bool.true_or, if_pos rfl, testamurref36_Ask.j0, if_pos rfl]
    · rw [if_neg h2, decide_eq_false (show ¬ 132 < a2 by omega), Bool.false_or]
      by_cases h3 : (l1.length : Int) > a2
      · rw [if_pos h3, decide_eq_true (show a2 < (l1.length : Int) by omega), Bool.true_or, if_pos rfl, testamurref36_Ask.j0, if_pos rfl]
      · rw [if_neg h3, decide_eq_false (show ¬ a2 < (l1.length : Int) by omega), Bool.false_or]
        by_cases h4 : (l3.length : Int) = a2
        · subst h4
          rw [show ((l3.length : Int) != (l3.length : Int)) = false from by simp, testamurref36_Ask.j0, if_neg (by simp), if_neg (by simp)]
          rw [show k - 1 = l3.length + 12 + (k - 1 - l3.length - 12) from by omega]
          exact ask_loop a0 l1 l3 (by omega) (by omega) hb l3.length _ 0 (by omega) rfl
        · rw [show ((l3.length : Int) != a2) = true from bne_iff_ne.mpr h4, testamurref36_Ask.j0, if_pos rfl, if_pos rfl]
end Go.Proofs.Ytekpbncljaeemaa.Q
