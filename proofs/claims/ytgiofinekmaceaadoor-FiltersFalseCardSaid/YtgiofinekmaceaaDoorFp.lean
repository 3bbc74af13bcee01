/- plain: bits of filters -/
import Derived.Test.YtgiofinekmaceaaDoorFi
namespace Go.Proofs.YtgiofinekmaceaaDoor.Q
open Go.RowKit Go.Shelf Go.Proofs.YtgiofinekmaceaaDoorW.PrintWords Go.Proofs.YtgiofinekmaceaaDoorW.PrintLast Go.Proofs.YtgiofinekmaceaaDoorW.PrintMore
set_option linter.unusedVariables false
set_option linter.unusedSimpArgs false
theorem or_bit : ∀ z : Fin 256, ∀ i j : Fin 8, (bits BinOp.and IntKind.u8 (bits BinOp.or IntKind.u8 (z.val : Int) (IntKind.u8.wrap (2 ^ i.val)) / 2 ^ j.val) 1 == 0) = ((bits BinOp.and IntKind.u8 ((z.val : Int) / 2 ^ j.val) 1 == 0) && !(i == j)) := by decide +kernel
theorem or_high : ∀ z : Fin 256, ∀ i j : Fin 8, i < j → (z.val : Int) / 2 ^ j.val = 0 → bits BinOp.or IntKind.u8 (z.val : Int) (IntKind.u8.wrap (2 ^ i.val)) / 2 ^ j.val = 0 := by decide +kernel
theorem or_again : ∀ z : Fin 256, ∀ i : Fin 8, bits BinOp.or IntKind.u8 (bits BinOp.or IntKind.u8 (z.val : Int) (IntKind.u8.wrap (2 ^ i.val))) (IntKind.u8.wrap (2 ^ i.val)) = bits BinOp.or IntKind.u8 (z.val : Int) (IntKind.u8.wrap (2 ^ i.val)) := by decide +kernel
theorem or_comm8 : ∀ z : Fin 256, ∀ i j : Fin 8, bits BinOp.or IntKind.u8 (bits BinOp.or IntKind.u8 (z.val : Int) (IntKind.u8.wrap (2 ^ i.val))) (IntKind.u8.wrap (2 ^ j.val)) = bits BinOp.or IntKind.u8 (bits BinOp.or IntKind.u8 (z.val : Int) (IntKind.u8.wrap (2 ^ j.val))) (IntKind.u8.wrap (2 ^ i.val)) := by decide +kernel
theorem byte_fin {x : Int} (h : 0 ≤ x ∧ x ≤ 255) : ∃ z : Fin 256, x = (z.val : Int) := ⟨⟨x.toNat, by omega⟩, by simp; omega⟩
theorem bit_fin (k : Int) : ∃ i : Fin 8, (k % 8).toNat = i.val ∧ k % 8 = (i.val : Int) := ⟨⟨(k % 8).toNat, by omega⟩, rfl, by simp; omega⟩
theorem rd_set (data : List Int) (i j : Int) (x : Int) (hi : 0 ≤ i) (hi2 : i < (data.length : Int)) (hj : 0 ≤ j) : rd (data.set i.toNat x) j = if j = i then x else rd data j := by
  unfold rd
  rw [List.getD, List.getD, List.getElem?_set]
  by_cases h : j = i
  · subst h
    rw [if_pos rfl, if_pos rfl, if_pos (by omega)]
    rfl
  · rw [if_neg (by omega), if_neg h]
theorem bitAt_setBit {data : List Int} (hb : Bytes data) (k j : Int) (hk : 0 ≤ k) (hk2 : k / 8 < (data.length : Int)) (hj : 0 ≤ j) : bitAt (setBit data k) j = (bitAt data j || decide (j = k)) := by
  obtain ⟨i8, ei, ei2⟩ := bit_fin k
  obtain ⟨j8, ej, ej2⟩ := bit_fin j
  unfold bitAt setBit
  rw [rd_set _ _ _ _ (by omega) hk2 (by omega)]
  by_cases h : j / 8 = k / 8
  · rw [if_pos h, ei, ej, h]
    obtain ⟨z, ez⟩ := byte_fin (hb.rd (k / 8))
    rw [ez, or_bit z i8 j8]
    by_cases hij : i8 = j8
    · subst hij
      have : j = k := by omega
      simp [this]
    · have : ¬ j = k := fun e => by
        subst e
        exact hij (Fin.ext (by omega))
      have hb' : (i8 == j8) = false := by simpa using hij
      rw [hb']
      simp [this]
  · rw [if_neg h]
    have : ¬ j = k := fun e => h (by rw [e])
    simp [this]
theorem lastOk_setBit {data : List Int} (hb : Bytes data) (b k : Int) (hk : 0 ≤ k) (hkb : k < b) (hlen : (data.length : Int) = (b + 7) / 8) (h : lastOk b data = true) : lastOk b (setBit data k) = true := by
  unfold lastOk at h ⊢
  rw [setBit_length]
  by_cases h0 : b % 8 = 0
  · simp [h0]
  · have h' : rd data ((data.length : Int) - 1) / 2 ^ (b % 8).toNat = 0 := by
      have hf : (b % 8 == 0) = false := by simpa using h0
      rw [hf] at h
      simpa using h
    have goal : rd (setBit data k) ((data.length : Int) - 1) / 2 ^ (b % 8).toNat = 0 := by
      unfold setBit
      rw [rd_set _ _ _ _ (by omega) (by omega) (by omega)]
      split
      · rename_i he
        obtain ⟨i8, ei, ei2⟩ := bit_fin k
        obtain ⟨j8, ej, ej2⟩ := bit_fin b
        obtain ⟨z, ez⟩ := byte_fin (hb.rd (k / 8))
        rw [ei, ej, ez]
        rw [he, ej, ez] at h'
        exact or_high z i8 j8 (by
          have : k / 8 = b / 8 := by omega
          have : (i8.val : Int) < (j8.val : Int) := by omega
          exact Fin.lt_def.2 (by omega)) h'
      · exact h'
    rw [goal]
    simp
theorem okF_parts {l b : Int} {data : List Int} (h : okF l b data = true) : okB l b = true ∧ (data.length : Int) = (b + 7) / 8 ∧ lastOk b data = true := by
  unfold okF at h
  simp only [Bool.and_eq_true, beq_iff_eq] at h
  exact ⟨h.1.1, h.1.2, h.2⟩
theorem okF_of {l b : Int} {data : List Int} (h1 : okB l b = true) (h2 : (data.length : Int) = (b + 7) / 8) (h3 : lastOk b data = true) : okF l b data = true := by
  unfold okF
  rw [h1, h3, h2]
  simp
theorem okF_setBit {l b : Int} {data : List Int} (hb : Bytes data) (h : okF l b data = true) (k : Int) (hk : 0 ≤ k) (hkb : k < b) : okF l b (setBit data k) = true := by
  obtain ⟨h1, h2, h3⟩ := okF_parts h
  exact okF_of h1 (by rw [setBit_length]; exact h2) (lastOk_setBit hb b k hk hkb h2 h3)
theorem okF_addD {s : List Int} {l b id : Int} {data : List Int} (hb : Bytes data) (h : okF l b data = true) : okF l b (addD s l b id data) = true := by
  have hB := okB_spec (okF_okB h)
  have r0 := bitD_range s l b id 0 (by omega)
  have r1 := bitD_range s l b id 1 (by omega)
  exact okF_setBit (setBit_bytes hb _) (okF_setBit hb h _ r0.1 r0.2) _ r1.1 r1.2
theorem bitAt_addD {s : List Int} {l b id : Int} {data : List Int} (hb : Bytes data) (h : okF l b data = true) (j : Int) (hj : 0 ≤ j) : bitAt (addD s l b id data) j = (bitAt data j || decide (j = bitD s l b id 0) || decide (j = bitD s l b id 1)) := by
  obtain ⟨hB, hl, _⟩ := okF_parts h
  have hB := okB_spec hB
  have r0 := bitD_range s l b id 0 (by omega)
  have r1 := bitD_range s l b id 1 (by omega)
  unfold addD
  rw [bitAt_setBit (setBit_bytes hb _) _ _ r1.1 (by rw [setBit_length]; omega) hj, bitAt_setBit hb _ _ r0.1 (by omega) hj]
theorem hasD_addD {s : List Int} {l b id : Int} {data : List Int} (hb : Bytes data) (h : okF l b data = true) : hasD s l b id (addD s l b id data) = true := by
  have hB := okB_spec (okF_okB h)
  have r0 := bitD_range s l b id 0 (by omega)
  have r1 := bitD_range s l b id 1 (by omega)
  unfold hasD
  rw [bitAt_addD hb h _ r0.1, bitAt_addD hb h _ r1.1]
  simp
theorem addD_bytes {s : List Int} {l b id : Int} {data : List Int} (hb : Bytes data) : Bytes (addD s l b id data) := setBit_bytes (setBit_bytes hb _) _
theorem okF_addOne {s : List Int} {l b : Int} {data : List Int} (hb : Bytes data) (h : okF l b data = true) (id : Int) : okF l b (addOne s l b data id) = true := by
  unfold addOne
  split
  · exact okF_addD hb h
  · exact h
theorem okF_addedD {s : List Int} {l b : Int} (ids : List Int) : ∀ {data : List Int}, Bytes data → okF l b data = true → okF l b (addedD s l b data ids) = true := by
  induction ids with
  | nil => exact fun _ h => h
  | cons x ids ih => exact fun hb h => ih (addOne_bytes hb x) (okF_addOne hb h x)
/-- what was there is still there -/
theorem bitAt_addOne {s : List Int} {l b : Int} {data : List Int} (hb : Bytes data) (h : okF l b data = true) (id : Int) (j : Int) (hj : 0 ≤ j) (ht : bitAt data j = true) : bitAt (addOne s l b data id) j = true := by
  unfold addOne
  split
  · rw [bitAt_addD hb h j hj, ht]; rfl
  · exact ht
theorem bitAt_addedD {s : List Int} {l b : Int} (ids : List Int) : ∀ {data : List Int}, Bytes data → okF l b data = true → ∀ j, 0 ≤ j → bitAt data j = true → bitAt (addedD s l b data ids) j = true := by
  induction ids with
  | nil => exact fun _ _ _ _ h => h
  | cons x ids ih => exact fun hb h j hj ht => ih (addOne_bytes hb x) (okF_addOne hb h x) j hj (bitAt_addOne hb h x j hj ht)
theorem hasD_addedD {s : List Int} {l b id : Int} {data : List Int} (ids : List Int) (hb : Bytes data) (h : okF l b data = true) (ht : hasD s l b id data = true) : hasD s l b id (addedD s l b data ids) = true := by
  have hB := okB_spec (okF_okB h)
  have r0 := bitD_range s l b id 0 (by omega)
  have r1 := bitD_range s l b id 1 (by omega)
  unfold hasD at ht ⊢
  obtain ⟨t0, t1⟩ := Bool.and_eq_true_iff.1 ht
  rw [bitAt_addedD ids hb h _ r0.1 t0, bitAt_addedD ids hb h _ r1.1 t1]
  rfl
theorem okI_of {l b : Int} {data : List Int} {id : Int} (h : okF l b data = true) (h0 : 0 ≤ id) (h1 : id < 1024) : okI l b data id = true := by
  unfold okI
  rw [h, decide_eq_true ⟨h0, h1⟩]
  rfl
/-- each number that was added is there -/
theorem has_added {s : List Int} {l b : Int} (ids : List Int) : ∀ {data : List Int}, Bytes data → okF l b data = true → ∀ x ∈ ids, 0 ≤ x → x < 1024 → hasD s l b x (addedD s l b data ids) = true := by
  induction ids with
  | nil => exact fun _ _ x hx => nomatch hx
  | cons y ids ih =>
    intro data hb h x hx h0 h1
    rcases List.mem_cons.1 hx with rfl | hx
    · refine hasD_addedD ids (addOne_bytes hb _) (okF_addOne hb h _) ?_
      unfold addOne
      rw [if_pos (okI_of h h0 h1)]
      exact hasD_addD hb h
    · exact ih (addOne_bytes hb y) (okF_addOne hb h y) x hx h0 h1
/-- an invalid filter stays as it was -/
theorem addedD_bad {s : List Int} {l b : Int} (ids : List Int) : ∀ {data : List Int}, okF l b data = false → addedD s l b data ids = data := by
  induction ids with
  | nil => exact fun _ => rfl
  | cons y ids ih =>
    intro data h
    show addedD s l b (addOne s l b data y) ids = data
    have : addOne s l b data y = data := by
      unfold addOne okI
      rw [h]
      simp
    rw [this]
    exact ih h
end Go.Proofs.YtgiofinekmaceaaDoor.Q
