/- one step of a chain, as the law spells it -/
import Derived.Test.YtkpfnbliideeeaaDoorCv
namespace Go.Proofs.YtkpfnbliideeeaaDoor.Q
open Go.RowKit Go.Shelf Go.Proofs.YtkpfnbliideeeaaDoorW.PrintWords Go.Proofs.YtkpfnbliideeeaaDoorW.PrintLast Go.Proofs.YtkpfnbliideeeaaDoorW.PrintMore
set_option linter.unusedVariables false
set_option linter.unusedSimpArgs false
theorem stepD_length (d : List Int) : (stepD d).length = 32 := by rw [stepD]; exact tagged_length _ _
set_option maxHeartbeats 400000 in
theorem step_calls (d : List Int) (hd : d.length = 32) (w : World) (hT : Tabs w) :
    Calls Tryd.prog 20 #[.agg (cells8 d)] w fun e w' => e = .returned (.agg (cells8 (stepD d))) ∧ Below w.heap.size w w' := by
  have HT := Aside0.mk hT
  have HC := Aside0.mk (C_dig (w := (w.alloc (.cells (cells8 d) 23)).alloc (.cells #[.int .u8 0, .int .u8 0, .int .u8 0, .int .u8 0, .int .u8 0, .int .u8 0, .int .u8 0, .int .u8 0, .int .u8 0, .int .u8 0, .int .u8 0, .int .u8 0, .int .u8 0, .int .u8 0, .int .u8 0, .int .u8 0, .int .u8 0, .int .u8 0, .int .u8 0, .int .u8 0, .int .u8 0, .int .u8 0, .int .u8 0, .int .u8 0, .int .u8 0, .int .u8 0, .int .u8 0, .int .u8 0, .int .u8 0, .int .u8 0, .int .u8 0, .int .u8 0] 23)) (heap_alloc2_old w (.cells (cells8 d) 23) (.cells #[.int .u8 0, .int .u8 0, .int .u8 0, .int .u8 0, .int .u8 0, .int .u8 0, .int .u8 0, .int .u8 0, .int .u8 0, .int .u8 0, .int .u8 0, .int .u8 0, .int .u8 0, .int .u8 0, .int .u8 0, .int .u8 0, .int .u8 0, .int .u8 0, .int .u8 0, .int .u8 0, .int .u8 0, .int .u8 0, .int .u8 0, .int .u8 0, .int .u8 0, .int .u8 0, .int .u8 0, .int .u8 0, .int .u8 0, .int .u8 0, .int .u8 0, .int .u8 0] 23)) hd)
  have HZ : Aside0 (((w.alloc (.cells (cells8 d) 23)).alloc (.cells #[.int .u8 0, .int .u8 0, .int .u8 0, .int .u8 0, .int .u8 0, .int .u8 0, .int .u8 0, .int .u8 0, .int .u8 0, .int .u8 0, .int .u8 0, .int .u8 0, .int .u8 0, .int .u8 0, .int .u8 0, .int .u8 0, .int .u8 0, .int .u8 0, .int .u8 0, .int .u8 0, .int .u8 0, .int .u8 0, .int .u8 0, .int .u8 0, .int .u8 0, .int .u8 0, .int .u8 0, .int .u8 0, .int .u8 0, .int .u8 0, .int .u8 0, .int .u8 0] 23)).heap[w.heap.size + 1]? = some (.cells #[.int .u8 0, .int .u8 0, .int .u8 0, .int .u8 0, .int .u8 0, .int .u8 0, .int .u8 0, .int .u8 0, .int .u8 0, .int .u8 0, .int .u8 0, .int .u8 0, .int .u8 0, .int .u8 0, .int .u8 0, .int .u8 0, .int .u8 0, .int .u8 0, .int .u8 0, .int .u8 0, .int .u8 0, .int .u8 0, .int .u8 0, .int .u8 0, .int .u8 0, .int .u8 0, .int .u8 0, .int .u8 0, .int .u8 0, .int .u8 0, .int .u8 0, .int .u8 0] 23 (0, 0))) := ⟨heap_alloc2_new _ _ _⟩
  have HB : Aside0 (Below w.heap.size w ((w.alloc (.cells (cells8 d) 23)).alloc (.cells #[.int .u8 0, .int .u8 0, .int .u8 0, .int .u8 0, .int .u8 0, .int .u8 0, .int .u8 0, .int .u8 0, .int .u8 0, .int .u8 0, .int .u8 0, .int .u8 0, .int .u8 0, .int .u8 0, .int .u8 0, .int .u8 0, .int .u8 0, .int .u8 0, .int .u8 0, .int .u8 0, .int .u8 0, .int .u8 0, .int .u8 0, .int .u8 0, .int .u8 0, .int .u8 0, .int .u8 0, .int .u8 0, .int .u8 0, .int .u8 0, .int .u8 0, .int .u8 0] 23))) := ⟨below_alloc (below_alloc (Below.refl _ _) _) _⟩
  clear hT hd
  go_enter Tryd.func20, Tryd.ntmps20
  go_wp2_with fail
  refine (Tagged_any tagStep (some ⟨w.heap.size, 0, none⟩) 32 32 d _ (by decide) HC.out (by omega) (by omega) (HT.out.below HB.out)).mono ?_
  rintro e w1 ⟨rfl, hb1⟩
  have hst : tagged (bytesOf tagStep) d = stepD d := by rw [stepD]
  rw [hst]
  have hyl := stepD_length d
  obtain ⟨y, hy⟩ : ∃ y, y = stepD d := ⟨_, rfl⟩
  rw [← hy] at hyl ⊢
  have HY := Aside0.mk hy
  have HS := Aside0.mk (size32 y hyl)
  have HO : Aside0 ((#[.int .u8 0, .int .u8 0, .int .u8 0, .int .u8 0, .int .u8 0, .int .u8 0, .int .u8 0, .int .u8 0, .int .u8 0, .int .u8 0, .int .u8 0, .int .u8 0, .int .u8 0, .int .u8 0, .int .u8 0, .int .u8 0, .int .u8 0, .int .u8 0, .int .u8 0, .int .u8 0, .int .u8 0, .int .u8 0, .int .u8 0, .int .u8 0, .int .u8 0, .int .u8 0, .int .u8 0, .int .u8 0, .int .u8 0, .int .u8 0, .int .u8 0, .int .u8 0] : Array Value).size = (cells8 y).size) := ⟨by rw [cells8_size, hyl]; rfl⟩
  have HZ1 := Aside0.mk (blk_of_below HZ.out hb1)
  have HB1 : Aside0 (Below w.heap.size w w1) := ⟨HB.out.trans (hb1.mono HB.out.size)⟩
  clear hb1 hy hst HZ HB
  go_wp2_with (with_reducible refine wpList_store_row rfl 23 (.tmp 2) (.tmp 4) rfl (w.heap.size + 1) (cells8 y) rfl rfl 23 #[.int .u8 0, .int .u8 0, .int .u8 0, .int .u8 0, .int .u8 0, .int .u8 0, .int .u8 0, .int .u8 0, .int .u8 0, .int .u8 0, .int .u8 0, .int .u8 0, .int .u8 0, .int .u8 0, .int .u8 0, .int .u8 0, .int .u8 0, .int .u8 0, .int .u8 0, .int .u8 0, .int .u8 0, .int .u8 0, .int .u8 0, .int .u8 0, .int .u8 0, .int .u8 0, .int .u8 0, .int .u8 0, .int .u8 0, .int .u8 0, .int .u8 0, .int .u8 0] HZ1.out HS.out HO.out (all_one8 _) ?_)
  exact bodyPost_ret (results_cell_row rfl _ _ (w.heap.size + 1) 23 (cells8 y) (0, 0) _ rfl (setRow_heap _ _ _ _ _ _ HZ1.out) Tryd.underlying23 rfl HS.out) rfl ⟨by rw [HY.out], below_setRow HB1.out (by omega) _⟩
end Go.Proofs.YtkpfnbliideeeaaDoor.Q
