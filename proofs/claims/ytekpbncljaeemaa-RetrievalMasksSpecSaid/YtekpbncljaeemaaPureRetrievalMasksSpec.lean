/- For all numbers and coins, valid or not, Masks and Twin give what the reference gives; coins of more than 200 bytes aside, as the statement says itself. -/
import Derived.Test.YtekpbncljaeemaaPa
namespace Go.Proofs.Ytekpbncljaeemaa.Pure
open Go.RowKit Go.Proofs.Ytekpbncljaeemaa.Q Go.Proofs.YtekpbncljaeemaaW.PrintWords Go.Proofs.YtekpbncljaeemaaW.PrintLast

theorem RetrievalMasksSpec : testamurlaw36_RetrievalMasksSpec.Pure := by
  intro a0 a1 a2 l3 _ _ _ _ _ hw
  have hb := bytes_wf hw
  refine ⟨9 + 0 + 2, ?_⟩
  unfold testamurlaw36_RetrievalMasksSpec.f testamurlaw36_sane.f
  rw [Option.bind_some, if_pos rfl]
  by_cases h : (l3.length : Int) > 200
  · rw [if_pos h]
  · rw [if_neg h, masks_of 9, Option.bind_some, rmasks_of 0 _ _ _ hb, Option.bind_some, twin_of 9, Option.bind_some, rtwin_of 0 _ _ _ _ hb, Option.bind_some, if_pos rfl, if_pos rfl, if_pos rfl, if_pos rfl]
    simp

end Go.Proofs.Ytekpbncljaeemaa.Pure
