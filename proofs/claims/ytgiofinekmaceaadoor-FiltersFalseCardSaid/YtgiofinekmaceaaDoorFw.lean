/- plain: which numbers a filter has that was empty -/
import Derived.Test.YtgiofinekmaceaaDoorFq
namespace Go.Proofs.YtgiofinekmaceaaDoor.Q
open Go.RowKit Go.Shelf Go.Proofs.YtgiofinekmaceaaDoorW.PrintWords Go.Proofs.YtgiofinekmaceaaDoorW.PrintLast Go.Proofs.YtgiofinekmaceaaDoorW.PrintMore
set_option linter.unusedVariables false
set_option linter.unusedSimpArgs false
theorem rd_zeros (n : Nat) (i : Int) : rd (List.replicate n 0) i = 0 := by
  unfold rd
  rw [List.getD, List.getElem?_replicate]
  split <;> rfl
theorem bytes_zeros (b : Int) : Bytes (zerosN b) := fun x hx => by
  have := List.eq_of_mem_replicate hx
  omega
theorem okF_zeros {l b : Int} (h : okB l b = true) : okF l b (zerosN b) = true := by
  obtain ⟨h0, h1, h2, h3⟩ := okB_spec h
  refine okF_of h (by rw [zerosN, List.length_replicate]; omega) ?_
  unfold lastOk zerosN
  rw [rd_zeros, Int.zero_ediv]
  simp
theorem bitAt_zeros (b j : Int) : bitAt (zerosN b) j = false := by
  unfold bitAt zerosN
  rw [rd_zeros, Int.zero_ediv]
  decide
theorem has_false {s : List Int} {l b id : Int} (ids : List Int) (h : okI l b (zerosN b) id = true) : hasL s l b id (addedD s l b (zerosN b) ids) = (inD s l b ids (bitD s l b id 0) && inD s l b ids (bitD s l b id 1)) := by
  obtain ⟨h1, h2, h3⟩ := okI_spec h
  have hB := okB_spec (okF_okB h1)
  have r0 := bitD_range s l b id 0 (by omega)
  have r1 := bitD_range s l b id 1 (by omega)
  unfold hasL hasD
  rw [okI_of (okF_addedD ids (bytes_zeros b) h1) h2 (by omega), bitAt_addedD_eq ids (bytes_zeros b) h1 _ r0.1, bitAt_addedD_eq ids (bytes_zeros b) h1 _ r1.1, bitAt_zeros, bitAt_zeros]
  simp
theorem inD_take (s : List Int) (l b y : Int) (ids : List Int) (j : Nat) (h : j < ids.length) : inD s l b (ids.take (j + 1)) y = (inD s l b (ids.take j) y || oneIn s l b y (rd ids (j : Int))) := by
  rw [List.take_succ_eq_append_getElem h, inD, List.any_append]
  simp [inD, rd, List.getD, h]
theorem oneIn_off {s : List Int} {l b y k : Int} (hb : okB l b = true) (h : okI l b (zerosN b) k = false) : oneIn s l b y k = false := by
  unfold okI at h
  rw [okF_zeros hb, Bool.true_and] at h
  unfold oneIn
  rw [h]
  rfl
theorem oneIn_on {s : List Int} {l b y k : Int} (h : okI l b (zerosN b) k = true) : oneIn s l b y k = (decide (y = bitD s l b k 0) || decide (y = bitD s l b k 1)) := by
  obtain ⟨h1, h2, h3⟩ := okI_spec h
  unfold oneIn
  rw [decide_eq_true (show 0 ≤ k ∧ k < 1024 by omega)]
  rfl
theorem okI00b (id : Int) : okI 0 0 [] id = false := by
  unfold okI okF
  rw [show okB 0 0 = false from by decide]
  rfl
theorem makeMet : ∀ W : World, (Instr.makeSlice 47 (.int .i64 2) (.int .i64 2)).run Tryd.prog W = .ok (.slice (some ⟨W.heap.size, 0, none⟩) 2 2) (W.alloc (.cells #[.bool false, .bool false] 4)) :=
  fun W => by
  have h := print_make_of (P := Tryd.prog) 47 4 (.bool false) 1 Tryd.underlying47 (by kernel_rfl) rfl (by omega) 2 (by omega) W
  rw [show madeCells #[.bool false] 2 = #[.bool false, .bool false] from by kernel_rfl] at h
  exact h
/-- a cell of a block that is as it was -/
theorem cell_same {W W' : World} {g : Nat} (h : W'.heap[g]? = W.heap[g]?) (i : Nat) : W'.cell? ⟨g, i, none⟩ = W.cell? ⟨g, i, none⟩ := by
  simp only [World.cell?, h]
/-- two numbers of a list of Go's own -/
theorem R_two {e base : Nat} {W : World} {v : Value} {x y : Int} (h : Kd.R (Kd.int .i64) e W base (fun _ => True) v [x, y]) : ∃ g c, v = .slice (some ⟨g, 0, none⟩) 2 c ∧ 2 ≤ c ∧ base ≤ g ∧ g < W.heap.size ∧ W.cell? ⟨g, 0, none⟩ = some (.int .i64 x) ∧ W.cell? ⟨g, 1, none⟩ = some (.int .i64 y) := by
  obtain ⟨A, c, n, rfl, hC, hc⟩ := R_any h
  have hn : n = 2 := (Kd.C_len hC).symm
  subst hn
  obtain ⟨ad, rfl, h0⟩ := Kd.at_int hC 0 (by omega) (by omega)
  obtain ⟨g, rfl⟩ := Kd.R_head h
  obtain ⟨ad1, e1, h1⟩ := Kd.at_int hC 1 (by omega) (by omega)
  cases e1
  obtain ⟨inner, hin⟩ := Kd.R_own h
  exact ⟨g, c, rfl, hc, own_base hin g rfl, own_lt h rfl, h0, h1⟩
end Go.Proofs.YtgiofinekmaceaaDoor.Q
