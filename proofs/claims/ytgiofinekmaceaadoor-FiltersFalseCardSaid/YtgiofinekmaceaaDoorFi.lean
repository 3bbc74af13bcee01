/- the law's added -/
import Derived.Test.YtgiofinekmaceaaDoorFh
namespace Go.Proofs.YtgiofinekmaceaaDoor.Q
open Go.RowKit Go.Shelf Go.Proofs.YtgiofinekmaceaaDoorW.PrintWords Go.Proofs.YtgiofinekmaceaaDoorW.PrintLast Go.Proofs.YtgiofinekmaceaaDoorW.PrintMore
set_option linter.unusedVariables false
set_option linter.unusedSimpArgs false
set_option maxRecDepth 20000 in
set_option maxHeartbeats 2000000 in
theorem added_calls (s : List Int) (hs : s.length = 32) (l b : Int) (A : Option Addr) (n c : Nat) (data : List Int) (B : Option Addr) (N cN : Nat) (ids : List Int) (w : World) (hD : Kd.C (Kd.int .u8) w A n data) (hc : n ≤ c) (hd : Bytes data) (hI : Kd.C (Kd.int .u16) w B N ids) (hi : ∀ x ∈ ids, 0 ≤ x ∧ x ≤ 65535) (hN : N ≤ 1000) (hT : Tabs w) :
    Calls Tryd.prog 22 #[.agg (cells8 s), .agg (fcells l b A n c), .slice B N cN] w fun e w' => ∃ A' n' c', e = .returned (.agg (fcells l b A' n' c')) ∧ Kd.C (Kd.int .u8) w' A' n' (addedD s l b data ids) ∧ n' ≤ c' ∧ Below w.heap.size w w' := by
  have HS := Aside0.mk hs
  have HT := Aside0.mk hT
  have HIt := Aside0.mk hI
  have HDB := Aside0.mk hd
  have HIr : Aside0 (∀ j : Nat, 0 ≤ rd ids (j : Int) ∧ rd ids (j : Int) ≤ 65535) := ⟨fun j => by
    rw [rd, Int.toNat_natCast, List.getD]
    cases e : ids[j]? with
    | none => simp
    | some x => exact hi x (List.mem_of_getElem? e)⟩
  have HIL := Aside0.mk (Kd.C_len hI)
  have HSs := Aside0.mk (size32 s hs)
  have hnb : ∀ ad, A = some ad → 0 < n → ad.block < w.heap.size := fun ad e hn => by
    subst e
    obtain ⟨ad', e', hcc⟩ := Kd.at_int hD 0 (by omega) (by omega)
    cases e'
    have := World.block_lt_of_cell? w _ hcc
    unfold Addr.add at this
    split at this <;> exact this
  have HNB := Aside0.mk hnb
  obtain ⟨wa, hwa⟩ : ∃ x, x = ((w.alloc (.cells (cells8 s) 23)).alloc (.cells (fcells l b A n c) 26)).alloc (.cells zeroF 26) := ⟨_, rfl⟩
  have HA0 : Aside0 (wa.heap[w.heap.size]? = some (.cells (cells8 s) 23 (0, 0))) := ⟨by rw [hwa]; exact blk_alloc (blk_alloc (heap_alloc_new _ _) _) _⟩
  have HA1 : Aside0 (wa.heap[w.heap.size + 1]? = some (.cells (fcells l b A n c) 26 (0, 0))) := ⟨by rw [hwa]; exact blk_alloc (heap_alloc2_new w (.cells (cells8 s) 23) (.cells (fcells l b A n c) 26)) _⟩
  have HA2 : Aside0 (wa.heap[w.heap.size + 1 + 1]? = some (.cells zeroF 26 (0, 0))) := ⟨by rw [hwa]; have h := heap_alloc_new ((w.alloc (.cells (cells8 s) 23)).alloc (.cells (fcells l b A n c) 26)) (.cells zeroF 26); simp only [World.size_alloc] at h; exact h⟩
  have HBa : Aside0 (Below w.heap.size w wa) := ⟨by rw [hwa]; exact below_alloc (below_alloc (below_alloc (Below.refl _ _) _) _) _⟩
  have HCa := Aside0.mk (Kd.C_below hD HBa.out)
  have hsa : w.heap.size + 3 ≤ wa.heap.size := by rw [hwa]; simp only [World.size_alloc]; omega
  have HWA := Aside0.mk hwa
  have HCN := Aside0.mk hc
  clear hs hT hI hi hd hwa hD hnb hc
  go_enter Tryd.func22, Tryd.ntmps22
  go_wp2_with fail
  change Code.wp _ _ _ _ (((w.alloc (.cells (cells8 s) 23)).alloc (.cells (fcells l b A n c) 26)).alloc (.cells zeroF 26))
  rw [← HWA.out]
  go_loopw [13] (fun i wr => ∃ j : Nat, j ≤ N ∧ i = .int .i64 (j : Int) ∧ w.heap.size + 3 ≤ wr.heap.size ∧ Aside0 (∃ A' n' c', wr.heap[w.heap.size + 1]? = some (.cells (fcells l b A' n' c') 26 (0, 0)) ∧ Kd.C (Kd.int .u8) wr A' n' (addedD s l b data (ids.take j)) ∧ n' ≤ c' ∧ ∀ ad, A' = some ad → 0 < n' → ad.block ≠ w.heap.size + 1 ∧ ad.block ≠ w.heap.size + 1 + 1) ∧ Aside0 (wr.heap[w.heap.size]? = some (.cells (cells8 s) 23 (0, 0))) ∧ Aside0 (wr.heap[w.heap.size + 1 + 1]? = some (.cells zeroF 26 (0, 0))) ∧ Aside0 (Below w.heap.size w wr)) (fun i _ => N - (intOf i).toNat)
  case atStart => exact ⟨0, by omega, rfl, hsa, ⟨A, n, c, HA1.out, HCa.out, HCN.out, fun ad e hn => by have := HNB.out ad e hn; omega⟩, HA0, HA2, HBa⟩
  case round =>
    obtain ⟨j, hj, rfl, hsz, ⟨A1, n1, c1, hF1, hC1, hc1, hne⟩, HS0, HZ2, HB⟩ := hrel
    have HF1 := Aside0.mk hF1
    have HC1 := Aside0.mk hC1
    have HNE := Aside0.mk hne
    have HSF := Aside0.mk (sizeF l b A1 n1 c1)
    have HOF := Aside0.mk (oneF l b A1 n1 c1)
    have HDJ : Aside0 (Bytes (addedD s l b data (ids.take j))) := ⟨addedD_bytes _ HDB.out⟩
    by_cases hlt : j < N
    · have c14 : decide ((j : Int) < (N : Int)) = true := decide_eq_true (by omega)
      have p1 := eq_true (show 0 ≤ (j : Int) by omega)
      have p2 := eq_true (show (j : Int) < (N : Int) by omega)
      have hir := HIr.out j
      have HTK := Aside0.mk (addedD_take s l b data ids j (by rw [HIL.out]; exact hlt))
      obtain ⟨bd, rfl, hid⟩ := Kd.at_int (Kd.C_below HIt.out HB.out) (j : Int) (by omega) (by omega)
      rw [Int.toNat_natCast] at hid
      obtain ⟨id, hidd⟩ : ∃ z, z = rd ids (j : Int) := ⟨_, rfl⟩
      rw [← hidd] at hid hir HTK
      obtain ⟨L, hL⟩ : ∃ z, z = addedD s l b data (ids.take j) := ⟨_, rfl⟩
      rw [← hL] at HC1 HTK HDJ
      have HOK := Aside0.mk (fun h => Add_ok s HS.out l b A1 n1 c1 L id wr HC1.out hc1 HDJ.out h (HT.out.below HB.out))
      have HBD := Aside0.mk (fun h => Add_bad s HS.out l b A1 n1 c1 L id wr HC1.out HDJ.out h)
      obtain ⟨fc, hfc⟩ : ∃ z, z = fcells l b A1 n1 c1 := ⟨_, rfl⟩
      rw [← hfc] at HF1 HSF HOF HOK HBD
      have HFC := Aside0.mk hfc
      have hwid : wrap64 id = id := by unfold wrap64; omega
      clear hF1 hC1 hne hidd hL hfc
      cases hok : okI l b L id with
      | true =>
        have HC := Aside0.mk (HOK.out hok)
        have HA : Aside0 (addOne s l b L id = addD s l b id L) := ⟨by rw [addOne, hok]; rfl⟩
        clear hok HOK HBD
        go_wp2_with (first
          | (with_reducible refine wpList_load_row rfl 23 (.tmp 3) rfl w.heap.size rfl 23 (cells8 s) (0, 0) _ HS0.out Tryd.underlying23 rfl HSs.out ?_)
          | (with_reducible refine wpList_load_row rfl 26 (.tmp 4) rfl (w.heap.size + 1) rfl 26 fc (0, 0) _ HF1.out Tryd.underlying26 rfl HSF.out ?_))
        refine HC.out.mono ?_
        rintro e w3 ⟨v, rfl, hR3, hb3⟩
        obtain ⟨A3, c3, n3, rfl, hC3, hc3⟩ := R_any hR3
        have hne3 : ∀ ad, A3 = some ad → 0 < n3 → wr.heap.size ≤ ad.block := fun ad e hn => by
          subst e
          obtain ⟨g, rfl⟩ := Kd.R_head hR3
          obtain ⟨inner, hin⟩ := Kd.R_own hR3
          exact own_base hin g rfl
        have hlt3 : ∀ ad, A3 = some ad → 0 < n3 → ad.block < w3.heap.size := fun ad e hn => by
          subst e
          obtain ⟨g, rfl⟩ := Kd.R_head hR3
          exact own_lt hR3 rfl
        have HNE3 := Aside0.mk hne3
        have HLT3 := Aside0.mk hlt3
        have HC3 := Aside0.mk hC3
        have HCC3 := Aside0.mk hc3
        have HB3 : Aside0 (Below w.heap.size w w3) := ⟨HB.out.trans (hb3.mono HB.out.size)⟩
        have H30 := Aside0.mk (blk_of_below HS0.out hb3)
        have H31 := Aside0.mk (blk_of_below HF1.out hb3)
        have H32 := Aside0.mk (blk_of_below HZ2.out hb3)
        have hs3 : w.heap.size + 3 ≤ w3.heap.size := Nat.le_trans hsz hb3.size
        have HS3 := Aside0.mk (sizeF l b A3 n3 c3)
        have HO3 := Aside0.mk (oneF l b A3 n3 c3)
        rw [show (#[.int .i64 l, .int .i64 b, .slice A3 n3 c3] : Array Value) = fcells l b A3 n3 c3 from rfl]
        obtain ⟨f3, hf3⟩ : ∃ z, z = fcells l b A3 n3 c3 := ⟨_, rfl⟩
        rw [← hf3] at HS3 HO3 ⊢
        have HF3 := Aside0.mk hf3
        have HZ3 : Aside0 (zeroF.size = f3.size) := ⟨by rw [hf3]; rfl⟩
        have HZ4 : Aside0 (fc.size = f3.size) := ⟨by rw [hf3, HFC.out]; rfl⟩
        have HN := Aside0.mk (heap_alloc_new w3 (.cells zeroF 26))
        obtain ⟨w4, hw4⟩ : ∃ z, z = (w3.alloc (.cells zeroF 26)).setRow w3.heap.size f3 := ⟨_, rfl⟩
        have H49 : Aside0 (w4.heap[w3.heap.size]? = some (.cells f3 26 (0, 0))) := ⟨by rw [hw4]; exact setRow_heap _ _ _ _ _ _ HN.out⟩
        have hb4 : Below w3.heap.size w3 w4 := by rw [hw4]; exact below_setRow (below_alloc (Below.refl _ _) _) (Nat.le_refl _) _
        have H40 := Aside0.mk (blk_of_below H30.out hb4)
        have H41 := Aside0.mk (blk_of_below H31.out hb4)
        have H42 := Aside0.mk (blk_of_below H32.out hb4)
        have HC4 := Aside0.mk (Kd.C_below HC3.out hb4)
        have HB4 : Aside0 (Below w.heap.size w w4) := ⟨HB3.out.trans (hb4.mono HB3.out.size)⟩
        have hs4 : w.heap.size + 3 ≤ w4.heap.size := Nat.le_trans hs3 hb4.size
        have HW4 := Aside0.mk hw4
        clear hR3 hC3 hc3 hne3 hlt3 hb3 hf3 hw4 hb4
        go_wp2_with (first
          | (change wpList _ _ _ _ _ (w3.alloc (.cells zeroF 26)); with_reducible refine wpList_store_row rfl 26 (.tmp 9) (.tmp 23) rfl w3.heap.size f3 rfl rfl 26 zeroF HN.out HS3.out HZ3.out HO3.out ?_; rw [← HW4.out])
          | (with_reducible refine wpList_load_row rfl 26 (.tmp 9) rfl w3.heap.size rfl 26 f3 (0, 0) _ H49.out Tryd.underlying26 rfl HS3.out ?_)
          | (with_reducible refine wpList_store_row rfl 26 (.tmp 4) (.tmp 27) rfl (w.heap.size + 1) f3 rfl rfl 26 fc H41.out HS3.out HZ4.out HO3.out ?_))
        go_roundw
        case rel =>
          refine ⟨j + 1, by omega, by push_cast; rfl, by simpa [World.setRow] using hs4, ⟨A3, n3, c3, by rw [← HF3.out]; exact setRow_heap _ _ _ _ _ _ H41.out, ?_, HCC3.out, fun ad e hn => by have := HNE3.out ad e hn; omega⟩, ⟨(setRow_other _ _ _ _ (by omega)).trans H40.out⟩, ⟨(setRow_other _ _ _ _ (by omega)).trans H42.out⟩, ⟨below_setRow HB4.out (by omega) _⟩⟩
          rw [HTK.out, HA.out]
          exact C_setRow HC4.out (fun ad e hn => by have := HNE3.out ad e hn; omega)
        case measure => show N - ((j : Int) + 1).toNat < N - ((j : Int)).toNat; omega
      | false =>
        have HC := Aside0.mk (HBD.out hok)
        have HA : Aside0 (addOne s l b L id = L) := ⟨by rw [addOne, hok]; rfl⟩
        clear hok HOK HBD
        go_wp2_with (first
          | (with_reducible refine wpList_load_row rfl 23 (.tmp 3) rfl w.heap.size rfl 23 (cells8 s) (0, 0) _ HS0.out Tryd.underlying23 rfl HSs.out ?_)
          | (with_reducible refine wpList_load_row rfl 26 (.tmp 4) rfl (w.heap.size + 1) rfl 26 fc (0, 0) _ HF1.out Tryd.underlying26 rfl HSF.out ?_))
        refine HC.out.mono ?_
        rintro e w3 ⟨rfl, hb3⟩
        have HB3 : Aside0 (Below w.heap.size w w3) := ⟨HB.out.trans (hb3.mono HB.out.size)⟩
        have H30 := Aside0.mk (blk_of_below HS0.out hb3)
        have H31 := Aside0.mk (blk_of_below HF1.out hb3)
        have H32 := Aside0.mk (blk_of_below HZ2.out hb3)
        have HC3 := Aside0.mk (Kd.C_below HC1.out hb3)
        have hs3 : w.heap.size + 3 ≤ w3.heap.size := Nat.le_trans hsz hb3.size
        have HN := Aside0.mk (heap_alloc_new w3 (.cells zeroF 26))
        have hb4 : Below w3.heap.size w3 ((w3.alloc (.cells zeroF 26)).setRow w3.heap.size zeroF) := below_setRow (below_alloc (Below.refl _ _) _) (Nat.le_refl _) _
        have HB34 := Aside0.mk hb4
        clear hb3 hb4
        go_wp2_with (first
          | (change wpList _ _ _ _ _ (w3.alloc (.cells zeroF 26)); with_reducible refine wpList_store_row rfl 26 (.tmp 9) (.tmp 23) rfl w3.heap.size zeroF rfl rfl 26 zeroF HN.out sizeZ rfl oneZ ?_))
        go_roundw
        case rel => exact ⟨j + 1, by omega, by push_cast; rfl, Nat.le_trans hs3 HB34.out.size, ⟨A1, n1, c1, by rw [← HFC.out]; exact blk_of_below H31.out HB34.out, by rw [HTK.out, HA.out]; exact Kd.C_below HC3.out HB34.out, hc1, HNE.out⟩, ⟨blk_of_below H30.out HB34.out⟩, ⟨blk_of_below H32.out HB34.out⟩, ⟨HB3.out.trans (HB34.out.mono HB3.out.size)⟩⟩
        case measure => show N - ((j : Int) + 1).toNat < N - ((j : Int)).toNat; omega
    · obtain rfl : j = N := by omega
      have HTA : Aside0 (addedD s l b data (ids.take j) = addedD s l b data ids) := ⟨by rw [List.take_of_length_le (Nat.le_of_eq HIL.out)]⟩
      obtain ⟨fc, hfc⟩ : ∃ z, z = fcells l b A1 n1 c1 := ⟨_, rfl⟩
      rw [← hfc] at HF1 HSF HOF
      have HFC := Aside0.mk hfc
      have HZ4 : Aside0 (zeroF.size = fc.size) := ⟨by rw [hfc]; rfl⟩
      clear hF1 hC1 hne hfc
      go_wp2_with (first
        | (with_reducible refine wpList_load_row rfl 26 (.tmp 4) rfl (w.heap.size + 1) rfl 26 fc (0, 0) _ HF1.out Tryd.underlying26 rfl HSF.out ?_)
        | (with_reducible refine wpList_store_row rfl 26 (.tmp 6) (.tmp 29) rfl (w.heap.size + 1 + 1) fc rfl rfl 26 zeroF HZ2.out HSF.out HZ4.out HOF.out ?_))
      refine bodyPost_ret (results_cell_row rfl _ _ (w.heap.size + 1 + 1) 26 fc (0, 0) _ rfl (setRow_heap _ _ _ _ _ _ HZ2.out) Tryd.underlying26 rfl HSF.out) rfl ⟨A1, n1, c1, by rw [HFC.out], ?_, hc1, below_setRow HB.out (by omega) _⟩
      rw [← HTA.out]
      exact C_setRow HC1.out (fun ad e hn => (HNE.out ad e hn).2)
end Go.Proofs.YtgiofinekmaceaaDoor.Q
