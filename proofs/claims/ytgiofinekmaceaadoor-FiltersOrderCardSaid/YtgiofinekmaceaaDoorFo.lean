/- the law FiltersOrder (printed by wip/ordergen.py) -/
import Derived.Test.YtgiofinekmaceaaDoorFq
namespace Go.Proofs.YtgiofinekmaceaaDoor.Q
open Go.RowKit Go.Shelf Go.Proofs.YtgiofinekmaceaaDoorW.PrintWords Go.Proofs.YtgiofinekmaceaaDoorW.PrintLast Go.Proofs.YtgiofinekmaceaaDoorW.PrintMore
set_option linter.unusedVariables false
set_option linter.unusedSimpArgs false
set_option maxRecDepth 20000 in
set_option maxHeartbeats 4000000 in
theorem FOrder_calls (w : World) (s : List Int) (hs : s.length = 32) (_ : ∀ x ∈ s, 0 ≤ x ∧ x ≤ 255) (l b : Int) (A : Option Addr) (n c : Nat) (data : List Int) (_ : (Lit.int .i64 l).wf = true) (_ : (Lit.int .i64 b).wf = true) (hD : Kd.C (Kd.int .u8) w A n data) (hc : n ≤ c) (hd8 : ∀ x ∈ data, (Lit.int .u8 x).wf = true)
    (B : Option Addr) (N cN : Nat) (ids : List Int) (hI : Kd.C (Kd.int .u16) w B N ids) (hNc : N ≤ cN) (hi16 : ∀ x ∈ ids, (Lit.int .u16 x).wf = true) (t : Int) (ht : (Lit.int .u8 t).wf = true) (hT : Tabs w) :
    Calls Tryd.prog 6 #[.agg (cells8 s), .agg (fcells l b A n c), .slice B N cN, .int .u8 t] w fun e w' => e = .returned (.bool true) ∧ Below w.heap.size w w' := by
  have hd := wf8 hd8
  have htr := wf8 (l := [t]) (fun x hx => by rw [List.mem_singleton.1 hx]; exact ht) t (by simp)
  have hNC := Aside0.mk hNc
  clear ht hNc
  obtain ⟨i0, hi0, _, hsz0, _⟩ := info_parts info44
  have HI0 := Aside0.mk hi0
  have HSZ := Aside0.mk hsz0
  clear hi0 hsz0
  have hi := wf16 hi16
  have HS := Aside0.mk hs
  have HT := Aside0.mk hT
  have HDt := Aside0.mk hD
  have HIt := Aside0.mk hI
  have HDB := Aside0.mk hd
  have HIB := Aside0.mk hi
  have HIL := Aside0.mk (Kd.C_len hI)
  have HSs := Aside0.mk (size32 s hs)
  have HSF := Aside0.mk (sizeF l b A n c)
  obtain ⟨wa, hwa⟩ : ∃ x, x = (w.alloc (.cells (cells8 s) 23)).alloc (.cells (fcells l b A n c) 26) := ⟨_, rfl⟩
  have HA0 : Aside0 (wa.heap[w.heap.size]? = some (.cells (cells8 s) 23 (0, 0))) := ⟨by rw [hwa]; exact heap_alloc2_old _ _ _⟩
  have HA1 : Aside0 (wa.heap[w.heap.size + 1]? = some (.cells (fcells l b A n c) 26 (0, 0))) := ⟨by rw [hwa]; exact heap_alloc2_new _ _ _⟩
  have HBa : Aside0 (Below w.heap.size w wa) := ⟨by rw [hwa]; exact below_alloc (below_alloc (Below.refl _ _) _) _⟩
  have HWA := Aside0.mk hwa
  obtain ⟨fc, hfc⟩ : ∃ z, z = fcells l b A n c := ⟨_, rfl⟩
  have HFC := Aside0.mk hfc
  rw [← hfc] at HA1 HSF HWA ⊢
  clear hs hD hd hd8 hi hi16 hI hwa hfc hT
  go_enter Tryd.func6, Tryd.ntmps6
  go_wp2_with fail
  rw [← HWA.out]
  refine (sane_calls wa (HT.out.below HBa.out)).mono ?_
  rintro e w1 ⟨rfl, hb1⟩
  have HB1 : Aside0 (Below w.heap.size w w1) := ⟨HBa.out.trans (hb1.mono HBa.out.size)⟩
  have H10 := Aside0.mk (blk_of_below HA0.out hb1)
  have H11 := Aside0.mk (blk_of_below HA1.out hb1)
  have f2 : w1.cell? ⟨w.heap.size + 1, 2, none⟩ = some (.slice A n c) := (blk_cell H11.out 2).trans (by rw [HFC.out]; rfl)
  clear hb1 HA0 HA1 HBa HWA
  by_cases h600 : 600 < n
  · have c1 := eq_true (show (600 : Int) < (n : Int) by omega)
    go_wp2_with fail
    go_ret
    exact ⟨rfl, HB1.out⟩
  have c1 := eq_false (show ¬ (600 : Int) < (n : Int) by omega)
  by_cases h40 : 40 < N
  · have c2 := eq_true (show (40 : Int) < (N : Int) by omega)
    go_wp2_with fail
    go_ret
    exact ⟨rfl, HB1.out⟩
  have c2 := eq_false (show ¬ (40 : Int) < (N : Int) by omega)
  have HCC := Aside0.mk hc
  by_cases hN0 : 0 < N
  · have c3 := eq_true (show (0 : Int) < (N : Int) by omega)
    have c4 := eq_false (show ¬ (N : Int) = 0 by omega)
    obtain ⟨k, hk⟩ : ∃ k : Nat, (k : Int) = t % (N : Int) := ⟨(t % (N : Int)).toNat, by have := Int.emod_nonneg t (show (N : Int) ≠ 0 by omega); omega⟩
    have hkN : k ≤ N := by have := Int.emod_lt_of_pos t (show (0 : Int) < (N : Int) by omega); omega
    have hkt : t.tmod (N : Int) = (k : Int) := by rw [hk, Int.tmod_eq_emod_of_nonneg (by omega)]
    have hwt : wrap64 t = t := by unfold wrap64; omega
    have hwk : wrap64 (k : Int) = k := by unfold wrap64; omega
    clear hk htr
    have hs1 := cut_from (P := Tryd.prog) 42 44 .i64 Tryd.underlying42 HI0.out 1 HSZ.out B N cN (k : Int) (by omega) (by omega)
    have hs2 := cut_to (P := Tryd.prog) 42 44 .i64 Tryd.underlying42 HI0.out B N cN (k : Int) (by omega) (by omega) hNC.out
    rw [Int.toNat_natCast] at hs1 hs2
    obtain ⟨B', hB'⟩ : ∃ z, z = (if cN = k then B else B.map (·.add (k * 1))) := ⟨_, rfl⟩
    rw [← hB'] at hs1
    have HC1 : Aside0 (∀ W, Below w.heap.size w W → Kd.C (Kd.int .u16) W B' (N - k) (ids.drop k)) := ⟨fun W h => by rw [hB']; exact C_atk (Kd.C_below HIt.out h) hkN hNC.out⟩
    have HC2 : Aside0 (∀ W, Below w.heap.size w W → Kd.C (Kd.int .u16) W B k (ids.take k)) := ⟨fun W h => C_firstk (Kd.C_below HIt.out h) hkN⟩
    have HNK : Aside0 (k ≤ N ∧ N ≤ 40) := ⟨hkN, by omega⟩
    have HTI : Aside0 (∀ x ∈ [] ++ ids.drop k ++ ids.take k, 0 ≤ x ∧ x ≤ 65535) := ⟨fun x hx => by
      rw [List.nil_append, List.mem_append] at hx
      rcases hx with hx | hx
      · exact HIB.out x (List.mem_of_mem_drop hx)
      · exact HIB.out x (List.mem_of_mem_take hx)⟩
    clear hB' hkN
    have HAD := Aside0.mk (added_calls s HS.out l b A n c data B N cN ids w1 (Kd.C_below HDt.out HB1.out) hc HDB.out (Kd.C_below HIt.out HB1.out) HIB.out (by omega) (HT.out.below HB1.out))
    rw [← HFC.out] at HAD
    go_wp2_with (first
      | (with_reducible refine wpList_load_row rfl 23 (.tmp 4) rfl w.heap.size rfl 23 (cells8 s) (0, 0) _ H10.out Tryd.underlying23 rfl HSs.out ?_)
      | (with_reducible refine wpList_load_row rfl 26 (.tmp 5) rfl (w.heap.size + 1) rfl 26 fc (0, 0) _ H11.out Tryd.underlying26 rfl HSF.out ?_))
    refine HAD.out.mono ?_
    rintro e w2 ⟨A1, n1, c1', rfl, hC2, hc2, hb2⟩
    have HB2 : Aside0 (Below w.heap.size w w2) := ⟨HB1.out.trans (hb2.mono HB1.out.size)⟩
    have H20 := Aside0.mk (blk_of_below H10.out hb2)
    have H21 := Aside0.mk (blk_of_below H11.out hb2)
    obtain ⟨X, hX⟩ : ∃ z, z = addedD s l b data ids := ⟨_, rfl⟩
    rw [← hX] at hC2
    have HX := Aside0.mk hX
    have HXB : Aside0 (Bytes X) := ⟨by rw [hX]; exact addedD_bytes ids HDB.out⟩
    have HXC := Aside0.mk hc2
    have HSX := Aside0.mk (sizeF l b A1 n1 c1')
    have HOX := Aside0.mk (oneF l b A1 n1 c1')
    obtain ⟨xc, hxc⟩ : ∃ z, z = fcells l b A1 n1 c1' := ⟨_, rfl⟩
    rw [← hxc] at HSX HOX ⊢
    have HXX := Aside0.mk hxc
    have HZX : Aside0 (zeroF.size = xc.size) := ⟨by rw [hxc]; rfl⟩
    obtain ⟨w4, hw4, hx4, hb4⟩ := new_row w2 xc
    have HN := Aside0.mk (heap_alloc_new w2 (.cells zeroF 26))
    have HW4 := Aside0.mk hw4
    have HB4 : Aside0 (Below w.heap.size w w4) := ⟨HB2.out.trans (hb4.mono HB2.out.size)⟩
    have H40 := Aside0.mk (blk_of_below H20.out hb4)
    have H41 := Aside0.mk (blk_of_below H21.out hb4)
    have H49 := Aside0.mk hx4
    have HC4 := Aside0.mk (Kd.C_below hC2 hb4)
    clear hb2 hX hC2 hc2 hxc hw4 hx4 hb4 H10 H11 H20 H21 HB1 HB2 HAD f2
    go_wp2_with (change wpList _ _ _ _ _ (w2.alloc (.cells zeroF 26)); with_reducible refine wpList_store_row rfl 26 (.tmp 10) (.tmp 34) rfl w2.heap.size xc rfl rfl 26 zeroF HN.out HSX.out HZX.out HOX.out ?_; rw [← HW4.out])
    obtain ⟨gx, hgx⟩ : ∃ z, z = w2.heap.size := ⟨_, rfl⟩
    rw [← hgx] at H49 ⊢
    clear HN HW4 hgx
    refine start_ (n := 14) (S := fun W => Below w4.heap.size w4 W) (ds := []) #[false, false, false, false, false, false, false, false, false, false, false, false, false, false] (by kernel_rfl) rfl rfl (below_drew (Below.refl _ _)) (fun hHeld => ?_)
    refine take_ (i := 0) (N := some 35) (v := .agg (cells8 s)) (a' := ?_) #[true, false, false, false, false, false, false, false, false, false, false, false, false, false] rfl rfl (by kernel_rfl) (fun _ _ _ h => h) (Or.inl ⟨by rfl, fun w' s0 => load_run 23 (.tmp 4) rfl w.heap.size rfl 23 _ (0, 0) _ (blk_of_below H40.out s0) Tryd.underlying23 rfl HSs.out⟩) hHeld ?_ ?_
    rotate_left
    · simp only [Act.put, List.setIfInBounds_toArray, List.set_cons_zero, List.set_cons_succ, i64_w, i32_w]
      rfl
    refine take_ (i := 1) (N := some 36) (v := .agg fc) (a' := ?_) #[true, true, false, false, false, false, false, false, false, false, false, false, false, false] rfl rfl (by kernel_rfl) (fun _ _ _ h => h) (Or.inl ⟨by rfl, fun w' s0 => load_run 26 (.tmp 5) rfl (w.heap.size + 1) rfl 26 _ (0, 0) _ (blk_of_below H41.out s0) Tryd.underlying26 rfl HSF.out⟩) hHeld ?_ ?_
    rotate_left
    · simp only [Act.put, List.setIfInBounds_toArray, List.set_cons_zero, List.set_cons_succ, i64_w, i32_w]
      rfl
    refine pure_ (i := 3) (N := some 38) (v := ?_) (a' := ?_) #[true, true, false, true, false, false, false, false, false, false, false, false, false, false] rfl rfl (by kernel_rfl) (fun _ _ _ h => h) (Or.inl ⟨by rfl, ?_⟩) ?_ ?_
    rotate_left
    · intro w'
      go_simp
      with_reducible rfl
    rotate_left
    · simp only [Act.put, List.setIfInBounds_toArray, List.set_cons_zero, List.set_cons_succ, i64_w, i32_w]
      rfl
    refine pure_ (i := 4) (N := some 39) (v := ?_) (a' := ?_) #[true, true, false, true, true, false, false, false, false, false, false, false, false, false] rfl rfl (by kernel_rfl) (fun _ _ _ h => h) (Or.inl ⟨by rfl, ?_⟩) ?_ ?_
    rotate_left
    · intro w'
      go_simp
      with_reducible rfl
    rotate_left
    · simp only [Act.put, List.setIfInBounds_toArray, List.set_cons_zero, List.set_cons_succ, i64_w, i32_w]
      rfl
    refine pure_ (i := 5) (N := some 40) (v := ?_) (a' := ?_) #[true, true, false, true, true, true, false, false, false, false, false, false, false, false] rfl rfl (by kernel_rfl) (fun _ _ _ h => h) (Or.inl ⟨by rfl, ?_⟩) ?_ ?_
    rotate_left
    · intro w'
      go_simp
      with_reducible rfl
    rotate_left
    · simp only [Act.put, List.setIfInBounds_toArray, List.set_cons_zero, List.set_cons_succ, i64_w, i32_w]
      rfl
    refine pure_ (i := 7) (N := some 42) (v := ?_) (a' := ?_) #[true, true, false, true, true, true, false, true, false, false, false, false, false, false] rfl rfl (by kernel_rfl) (fun _ _ _ h => h) (Or.inl ⟨by rfl, ?_⟩) ?_ ?_
    rotate_left
    · intro w'
      go_simp
      with_reducible rfl
    rotate_left
    · simp only [Act.put, List.setIfInBounds_toArray, List.set_cons_zero, List.set_cons_succ, i64_w, i32_w]
      rfl
    refine pure_ (i := 8) (N := some 43) (v := ?_) (a' := ?_) #[true, true, false, true, true, true, false, true, true, false, false, false, false, false] rfl rfl (by kernel_rfl) (fun _ _ _ h => h) (Or.inl ⟨by rfl, ?_⟩) ?_ ?_
    rotate_left
    · intro w'
      go_simp
      with_reducible rfl
    rotate_left
    · simp only [Act.put, List.setIfInBounds_toArray, List.set_cons_zero, List.set_cons_succ, i64_w, i32_w]
      rfl
    refine pure_ (i := 9) (N := some 44) (v := ?_) (a' := ?_) #[true, true, false, true, true, true, false, true, true, true, false, false, false, false] rfl rfl (by kernel_rfl) (fun _ _ _ h => h) (Or.inl ⟨by rfl, ?_⟩) ?_ ?_
    rotate_left
    · intro w'
      go_simp
      with_reducible rfl
    rotate_left
    · simp only [Act.put, List.setIfInBounds_toArray, List.set_cons_zero, List.set_cons_succ, i64_w, i32_w]
      rfl
    have hs : St0 w4 none w4.drew := ⟨hHeld, fun g e => by cases e⟩
    refine join_ (σ := Value × Value × Value × Option Addr × Nat × Nat × Nat) 1 #[true, true, true, true, true, true, true, true, true, true, true, true, true, false] (fun q => [(37, q.1), (41, q.2.1), (45, q.2.2.1), (46, .agg (fcells l b q.2.2.2.1 q.2.2.2.2.1 q.2.2.2.2.2.1)), (11, .pointer (some ⟨q.2.2.2.2.2.2, 0, none⟩))]) (fun q W => StC w4 (some q.2.2.2.2.2.2) q.2.2.2.1 q.2.2.2.2.1 q.2.2.2.2.2.1 (addedD s l b data ([] ++ ids.drop k ++ ids.take k)) W) ?_ ?_
    rotate_left
    · intro hcont
      refine two_ (i := 2) (j := 12) (Ni := some 37) (Nj := some 11) #[true, true, true, true, true, true, false, true, true, true, false, false, false, false] #[true, true, false, true, true, true, false, true, true, true, false, false, true, false] rfl rfl rfl rfl (by kernel_rfl) (by decide) (by decide) (fun K hK => ?_) (fun K hK => ?_)
      · refine Kd.R_lit_step (Kd.int .u16) (w0 := w4) w4.heap.size 44 (by rfl) (N := 37) rfl (xs := ([] : List Int)) (inner := []) (ok := fun _ => True) (okp := fun _ => True) ?hr ?hp (fun _ hk => hk) trivial hs.1 hs.1.size (by simp) ?_
        case hr => first | (go_simp; done) | (go_simp; rfl)
        case hp => exact Reps.none _ _
        intro v1 W1 hR hb hg hown
        replace hs := StR.lit hs hR hb hg hown
        clear hR hg hown
        refine hK.out _ _ (hb) (fun hNew => ?_)
        clear hHeld hK K
        have hHeld := hNew
        clear hNew
        refine norm_ (a' := ?_) ?_ ?_
        rotate_left
        · show Act.put _ (some 37) _ = _
          simp only [Act.put, List.setIfInBounds_toArray, List.set_cons_zero, List.set_cons_succ, i64_w, i32_w]
          rfl
        clear hb
        refine two_ (i := 6) (j := 12) (Ni := some 41) (Nj := some 11) #[true, true, true, true, true, true, true, true, true, true, false, false, false, false] #[true, true, true, true, true, true, false, true, true, true, false, false, true, false] rfl rfl rfl rfl (by kernel_rfl) (by decide) (by decide) (fun K hK => ?_) (fun K hK => ?_)
        · refine Kd.R_append_rows_step (Kd.int .u16) (w0 := w4) w4.heap.size (by rfl) (.tmp 37) (.tmp 40) 42 44 (.int .u16 0) 2 rfl Tryd.underlying42 info44 rfl (by decide) (by omega) v1 [] (ids.drop k) B' (N - k) (cN - k) (fun _ => True) (fun _ => False) rfl rfl hs.2.1 (HC1.out _ (HB4.out.trans (hs.1.1.mono HB4.out.size))) (fun _ _ h => h) (fun _ h => h.elim) (fun _ _ => trivial) hs.1.1 hs.1.1.size (by have := HNK.out; have := HIL.out; simp only [List.nil_append, List.length_nil, List.length_drop]; omega) ?_
          intro v2 W2 hR hb hg hat
          replace hs := StR.append hs hR hb hg hat
          clear hR hg hat
          refine hK.out _ _ (hb) (fun hNew => ?_)
          clear hHeld hK K
          have hHeld := hNew
          clear hNew
          refine norm_ (a' := ?_) ?_ ?_
          rotate_left
          · show Act.put _ (some 41) _ = _
            simp only [Act.put, List.setIfInBounds_toArray, List.set_cons_zero, List.set_cons_succ, i64_w, i32_w]
            rfl
          clear hb
          refine two_ (i := 10) (j := 12) (Ni := some 45) (Nj := some 11) #[true, true, true, true, true, true, true, true, true, true, true, false, false, false] #[true, true, true, true, true, true, true, true, true, true, false, false, true, false] rfl rfl rfl rfl (by kernel_rfl) (by decide) (by decide) (fun K hK => ?_) (fun K hK => ?_)
          · refine Kd.R_append_rows_step (Kd.int .u16) (w0 := w4) w4.heap.size (by rfl) (.tmp 41) (.tmp 44) 42 44 (.int .u16 0) 2 rfl Tryd.underlying42 info44 rfl (by decide) (by omega) v2 ([] ++ ids.drop k) (ids.take k) B k cN (fun _ => True) (fun _ => False) rfl rfl hs.2.1 (HC2.out _ (HB4.out.trans (hs.1.1.mono HB4.out.size))) (fun _ _ h => h) (fun _ h => h.elim) (fun _ _ => trivial) hs.1.1 hs.1.1.size (by have := HNK.out; have := HIL.out; simp only [List.nil_append, List.length_nil, List.length_drop]; omega) ?_
            intro v3 W3 hR hb hg hat
            replace hs := StR.append hs hR hb hg hat
            clear hR hg hat
            refine hK.out _ _ (hb) (fun hNew => ?_)
            clear hHeld hK K
            have hHeld := hNew
            clear hNew
            refine norm_ (a' := ?_) ?_ ?_
            rotate_left
            · show Act.put _ (some 45) _ = _
              simp only [Act.put, List.setIfInBounds_toArray, List.set_cons_zero, List.set_cons_succ, i64_w, i32_w]
              rfl
            clear hb
            refine two_ (i := 11) (j := 12) (Ni := some 46) (Nj := some 11) #[true, true, true, true, true, true, true, true, true, true, true, true, false, false] #[true, true, true, true, true, true, true, true, true, true, true, false, true, false] rfl rfl rfl rfl (by kernel_rfl) (by decide) (by decide) (fun K hK => ?_) (fun K hK => ?_)
            · obtain ⟨A5, c5, n5, rfl, hC5, hc5⟩ := R_any hs.2.1
              have hl5 : n5 ≤ 1000 := by have e1 := Kd.C_len hC5; have := HNK.out; have := HIL.out; simp only [List.nil_append, List.length_append, List.length_drop, List.length_take] at e1; omega
              have hBt := HB4.out.trans (hs.1.1.mono HB4.out.size)
              have hcall := added_calls s HS.out l b A n c data A5 n5 c5 ([] ++ ids.drop k ++ ids.take k) _ (Kd.C_below HDt.out hBt) HCC.out HDB.out hC5 HTI.out hl5 (HT.out.below hBt)
              rw [← HFC.out] at hcall
              refine goes_ Tryd.func22 (by kernel_rfl) rfl #[.agg (cells8 s), .agg fc, .slice A5 n5 c5] (by rfl) rfl rfl (by (try simp only [List.map_toArray, List.map_cons, List.map_nil]); first | done | rfl) ?_
              refine hcall.mono ?_
              rintro e W4 ⟨A2, n2, c2, rfl, hC6, hc6, hb6⟩
              clear hcall hBt
              replace hs : StC w4 none A2 n2 c2 _ W4 := ⟨hs.1.below hb6, hC6, hc6⟩
              refine ⟨_, rfl, ?_⟩
              refine hK.out _ _ (hs.1.1) (fun hNew => ?_)
              clear hHeld hK K
              have hHeld := hNew
              clear hNew
              refine norm_ (a' := ?_) ?_ ?_
              rotate_left
              · show Act.put _ (some 46) _ = _
                simp only [Act.put, List.setIfInBounds_toArray, List.set_cons_zero, List.set_cons_succ, i64_w, i32_w]
                rfl
              refine one_ (i := 12) (N := some 11) #[true, true, true, true, true, true, true, true, true, true, true, true, true, false] rfl rfl (by kernel_rfl) (by decide) (fun K hK => ?_)
              refine value_ (by rfl) rfl (alloc_runF rfl _) ?_
              replace hs := hs.alloc
              have hb := hs.1.1
              refine hK.out _ _ (hb) (fun hNew => ?_)
              clear hHeld hK K
              have hHeld := hNew
              clear hNew
              refine norm_ (a' := ?_) ?_ ?_
              rotate_left
              · show Act.put _ (some 11) _ = _
                simp only [Act.put, List.setIfInBounds_toArray, List.set_cons_zero, List.set_cons_succ, i64_w, i32_w]
                rfl
              clear hb
              exact hcont (v1, v2, .slice A5 n5 c5, A2, n2, c2, _) _ hs
            · refine value_ (by rfl) rfl (alloc_runF rfl _) ?_
              replace hs := hs.alloc
              have hb := hs.1.1
              refine hK.out _ _ (hb) (fun hNew => ?_)
              clear hHeld hK K
              have hHeld := hNew
              clear hNew
              refine norm_ (a' := ?_) ?_ ?_
              rotate_left
              · show Act.put _ (some 11) _ = _
                simp only [Act.put, List.setIfInBounds_toArray, List.set_cons_zero, List.set_cons_succ, i64_w, i32_w]
                rfl
              clear hb
              refine one_ (i := 11) (N := some 46) #[true, true, true, true, true, true, true, true, true, true, true, true, true, false] rfl rfl (by kernel_rfl) (by decide) (fun K hK => ?_)
              obtain ⟨A5, c5, n5, rfl, hC5, hc5⟩ := R_any hs.2.1
              have hl5 : n5 ≤ 1000 := by have e1 := Kd.C_len hC5; have := HNK.out; have := HIL.out; simp only [List.nil_append, List.length_append, List.length_drop, List.length_take] at e1; omega
              have hBt := HB4.out.trans (hs.1.1.mono HB4.out.size)
              have hcall := added_calls s HS.out l b A n c data A5 n5 c5 ([] ++ ids.drop k ++ ids.take k) _ (Kd.C_below HDt.out hBt) HCC.out HDB.out hC5 HTI.out hl5 (HT.out.below hBt)
              rw [← HFC.out] at hcall
              refine goes_ Tryd.func22 (by kernel_rfl) rfl #[.agg (cells8 s), .agg fc, .slice A5 n5 c5] (by rfl) rfl rfl (by (try simp only [List.map_toArray, List.map_cons, List.map_nil]); first | done | rfl) ?_
              refine hcall.mono ?_
              rintro e W4 ⟨A2, n2, c2, rfl, hC6, hc6, hb6⟩
              clear hcall hBt
              replace hs : StC w4 (some _) A2 n2 c2 _ W4 := ⟨hs.1.below hb6, hC6, hc6⟩
              refine ⟨_, rfl, ?_⟩
              refine hK.out _ _ (hs.1.1) (fun hNew => ?_)
              clear hHeld hK K
              have hHeld := hNew
              clear hNew
              refine norm_ (a' := ?_) ?_ ?_
              rotate_left
              · show Act.put _ (some 46) _ = _
                simp only [Act.put, List.setIfInBounds_toArray, List.set_cons_zero, List.set_cons_succ, i64_w, i32_w]
                rfl
              exact hcont (v1, v2, .slice A5 n5 c5, A2, n2, c2, _) _ hs
          · refine value_ (by rfl) rfl (alloc_runF rfl _) ?_
            replace hs := hs.alloc
            have hb := hs.1.1
            refine hK.out _ _ (hb) (fun hNew => ?_)
            clear hHeld hK K
            have hHeld := hNew
            clear hNew
            refine norm_ (a' := ?_) ?_ ?_
            rotate_left
            · show Act.put _ (some 11) _ = _
              simp only [Act.put, List.setIfInBounds_toArray, List.set_cons_zero, List.set_cons_succ, i64_w, i32_w]
              rfl
            clear hb
            refine one_ (i := 10) (N := some 45) #[true, true, true, true, true, true, true, true, true, true, true, false, true, false] rfl rfl (by kernel_rfl) (by decide) (fun K hK => ?_)
            refine Kd.R_append_rows_step (Kd.int .u16) (w0 := w4) w4.heap.size (by rfl) (.tmp 41) (.tmp 44) 42 44 (.int .u16 0) 2 rfl Tryd.underlying42 info44 rfl (by decide) (by omega) v2 ([] ++ ids.drop k) (ids.take k) B k cN (fun _ => True) (fun _ => False) rfl rfl hs.2.1 (HC2.out _ (HB4.out.trans (hs.1.1.mono HB4.out.size))) (fun _ _ h => h) (fun _ h => h.elim) (fun _ _ => trivial) hs.1.1 hs.1.1.size (by have := HNK.out; have := HIL.out; simp only [List.nil_append, List.length_nil, List.length_drop]; omega) ?_
            intro v3 W3 hR hb hg hat
            replace hs := StR.append hs hR hb hg hat
            clear hR hg hat
            refine hK.out _ _ (hb) (fun hNew => ?_)
            clear hHeld hK K
            have hHeld := hNew
            clear hNew
            refine norm_ (a' := ?_) ?_ ?_
            rotate_left
            · show Act.put _ (some 45) _ = _
              simp only [Act.put, List.setIfInBounds_toArray, List.set_cons_zero, List.set_cons_succ, i64_w, i32_w]
              rfl
            clear hb
            refine one_ (i := 11) (N := some 46) #[true, true, true, true, true, true, true, true, true, true, true, true, true, false] rfl rfl (by kernel_rfl) (by decide) (fun K hK => ?_)
            obtain ⟨A5, c5, n5, rfl, hC5, hc5⟩ := R_any hs.2.1
            have hl5 : n5 ≤ 1000 := by have e1 := Kd.C_len hC5; have := HNK.out; have := HIL.out; simp only [List.nil_append, List.length_append, List.length_drop, List.length_take] at e1; omega
            have hBt := HB4.out.trans (hs.1.1.mono HB4.out.size)
            have hcall := added_calls s HS.out l b A n c data A5 n5 c5 ([] ++ ids.drop k ++ ids.take k) _ (Kd.C_below HDt.out hBt) HCC.out HDB.out hC5 HTI.out hl5 (HT.out.below hBt)
            rw [← HFC.out] at hcall
            refine goes_ Tryd.func22 (by kernel_rfl) rfl #[.agg (cells8 s), .agg fc, .slice A5 n5 c5] (by rfl) rfl rfl (by (try simp only [List.map_toArray, List.map_cons, List.map_nil]); first | done | rfl) ?_
            refine hcall.mono ?_
            rintro e W4 ⟨A2, n2, c2, rfl, hC6, hc6, hb6⟩
            clear hcall hBt
            replace hs : StC w4 (some _) A2 n2 c2 _ W4 := ⟨hs.1.below hb6, hC6, hc6⟩
            refine ⟨_, rfl, ?_⟩
            refine hK.out _ _ (hs.1.1) (fun hNew => ?_)
            clear hHeld hK K
            have hHeld := hNew
            clear hNew
            refine norm_ (a' := ?_) ?_ ?_
            rotate_left
            · show Act.put _ (some 46) _ = _
              simp only [Act.put, List.setIfInBounds_toArray, List.set_cons_zero, List.set_cons_succ, i64_w, i32_w]
              rfl
            exact hcont (v1, v2, .slice A5 n5 c5, A2, n2, c2, _) _ hs
        · refine value_ (by rfl) rfl (alloc_runF rfl _) ?_
          replace hs := hs.alloc
          have hb := hs.1.1
          refine hK.out _ _ (hb) (fun hNew => ?_)
          clear hHeld hK K
          have hHeld := hNew
          clear hNew
          refine norm_ (a' := ?_) ?_ ?_
          rotate_left
          · show Act.put _ (some 11) _ = _
            simp only [Act.put, List.setIfInBounds_toArray, List.set_cons_zero, List.set_cons_succ, i64_w, i32_w]
            rfl
          clear hb
          refine one_ (i := 6) (N := some 41) #[true, true, true, true, true, true, true, true, true, true, false, false, true, false] rfl rfl (by kernel_rfl) (by decide) (fun K hK => ?_)
          refine Kd.R_append_rows_step (Kd.int .u16) (w0 := w4) w4.heap.size (by rfl) (.tmp 37) (.tmp 40) 42 44 (.int .u16 0) 2 rfl Tryd.underlying42 info44 rfl (by decide) (by omega) v1 [] (ids.drop k) B' (N - k) (cN - k) (fun _ => True) (fun _ => False) rfl rfl hs.2.1 (HC1.out _ (HB4.out.trans (hs.1.1.mono HB4.out.size))) (fun _ _ h => h) (fun _ h => h.elim) (fun _ _ => trivial) hs.1.1 hs.1.1.size (by have := HNK.out; have := HIL.out; simp only [List.nil_append, List.length_nil, List.length_drop]; omega) ?_
          intro v2 W2 hR hb hg hat
          replace hs := StR.append hs hR hb hg hat
          clear hR hg hat
          refine hK.out _ _ (hb) (fun hNew => ?_)
          clear hHeld hK K
          have hHeld := hNew
          clear hNew
          refine norm_ (a' := ?_) ?_ ?_
          rotate_left
          · show Act.put _ (some 41) _ = _
            simp only [Act.put, List.setIfInBounds_toArray, List.set_cons_zero, List.set_cons_succ, i64_w, i32_w]
            rfl
          clear hb
          refine one_ (i := 10) (N := some 45) #[true, true, true, true, true, true, true, true, true, true, true, false, true, false] rfl rfl (by kernel_rfl) (by decide) (fun K hK => ?_)
          refine Kd.R_append_rows_step (Kd.int .u16) (w0 := w4) w4.heap.size (by rfl) (.tmp 41) (.tmp 44) 42 44 (.int .u16 0) 2 rfl Tryd.underlying42 info44 rfl (by decide) (by omega) v2 ([] ++ ids.drop k) (ids.take k) B k cN (fun _ => True) (fun _ => False) rfl rfl hs.2.1 (HC2.out _ (HB4.out.trans (hs.1.1.mono HB4.out.size))) (fun _ _ h => h) (fun _ h => h.elim) (fun _ _ => trivial) hs.1.1 hs.1.1.size (by have := HNK.out; have := HIL.out; simp only [List.nil_append, List.length_nil, List.length_drop]; omega) ?_
          intro v3 W3 hR hb hg hat
          replace hs := StR.append hs hR hb hg hat
          clear hR hg hat
          refine hK.out _ _ (hb) (fun hNew => ?_)
          clear hHeld hK K
          have hHeld := hNew
          clear hNew
          refine norm_ (a' := ?_) ?_ ?_
          rotate_left
          · show Act.put _ (some 45) _ = _
            simp only [Act.put, List.setIfInBounds_toArray, List.set_cons_zero, List.set_cons_succ, i64_w, i32_w]
            rfl
          clear hb
          refine one_ (i := 11) (N := some 46) #[true, true, true, true, true, true, true, true, true, true, true, true, true, false] rfl rfl (by kernel_rfl) (by decide) (fun K hK => ?_)
          obtain ⟨A5, c5, n5, rfl, hC5, hc5⟩ := R_any hs.2.1
          have hl5 : n5 ≤ 1000 := by have e1 := Kd.C_len hC5; have := HNK.out; have := HIL.out; simp only [List.nil_append, List.length_append, List.length_drop, List.length_take] at e1; omega
          have hBt := HB4.out.trans (hs.1.1.mono HB4.out.size)
          have hcall := added_calls s HS.out l b A n c data A5 n5 c5 ([] ++ ids.drop k ++ ids.take k) _ (Kd.C_below HDt.out hBt) HCC.out HDB.out hC5 HTI.out hl5 (HT.out.below hBt)
          rw [← HFC.out] at hcall
          refine goes_ Tryd.func22 (by kernel_rfl) rfl #[.agg (cells8 s), .agg fc, .slice A5 n5 c5] (by rfl) rfl rfl (by (try simp only [List.map_toArray, List.map_cons, List.map_nil]); first | done | rfl) ?_
          refine hcall.mono ?_
          rintro e W4 ⟨A2, n2, c2, rfl, hC6, hc6, hb6⟩
          clear hcall hBt
          replace hs : StC w4 (some _) A2 n2 c2 _ W4 := ⟨hs.1.below hb6, hC6, hc6⟩
          refine ⟨_, rfl, ?_⟩
          refine hK.out _ _ (hs.1.1) (fun hNew => ?_)
          clear hHeld hK K
          have hHeld := hNew
          clear hNew
          refine norm_ (a' := ?_) ?_ ?_
          rotate_left
          · show Act.put _ (some 46) _ = _
            simp only [Act.put, List.setIfInBounds_toArray, List.set_cons_zero, List.set_cons_succ, i64_w, i32_w]
            rfl
          exact hcont (v1, v2, .slice A5 n5 c5, A2, n2, c2, _) _ hs
      · refine value_ (by rfl) rfl (alloc_runF rfl _) ?_
        replace hs := hs.alloc
        have hb := hs.1
        refine hK.out _ _ (hb) (fun hNew => ?_)
        clear hHeld hK K
        have hHeld := hNew
        clear hNew
        refine norm_ (a' := ?_) ?_ ?_
        rotate_left
        · show Act.put _ (some 11) _ = _
          simp only [Act.put, List.setIfInBounds_toArray, List.set_cons_zero, List.set_cons_succ, i64_w, i32_w]
          rfl
        clear hb
        refine one_ (i := 2) (N := some 37) #[true, true, true, true, true, true, false, true, true, true, false, false, true, false] rfl rfl (by kernel_rfl) (by decide) (fun K hK => ?_)
        refine Kd.R_lit_step (Kd.int .u16) (w0 := w4) w4.heap.size 44 (by rfl) (N := 37) rfl (xs := ([] : List Int)) (inner := []) (ok := fun _ => True) (okp := fun _ => True) ?hr ?hp (fun _ hk => hk) trivial hs.1 hs.1.size (by simp) ?_
        case hr => first | (go_simp; done) | (go_simp; rfl)
        case hp => exact Reps.none _ _
        intro v1 W1 hR hb hg hown
        replace hs := StR.lit hs hR hb hg hown
        clear hR hg hown
        refine hK.out _ _ (hb) (fun hNew => ?_)
        clear hHeld hK K
        have hHeld := hNew
        clear hNew
        refine norm_ (a' := ?_) ?_ ?_
        rotate_left
        · show Act.put _ (some 37) _ = _
          simp only [Act.put, List.setIfInBounds_toArray, List.set_cons_zero, List.set_cons_succ, i64_w, i32_w]
          rfl
        clear hb
        refine one_ (i := 6) (N := some 41) #[true, true, true, true, true, true, true, true, true, true, false, false, true, false] rfl rfl (by kernel_rfl) (by decide) (fun K hK => ?_)
        refine Kd.R_append_rows_step (Kd.int .u16) (w0 := w4) w4.heap.size (by rfl) (.tmp 37) (.tmp 40) 42 44 (.int .u16 0) 2 rfl Tryd.underlying42 info44 rfl (by decide) (by omega) v1 [] (ids.drop k) B' (N - k) (cN - k) (fun _ => True) (fun _ => False) rfl rfl hs.2.1 (HC1.out _ (HB4.out.trans (hs.1.1.mono HB4.out.size))) (fun _ _ h => h) (fun _ h => h.elim) (fun _ _ => trivial) hs.1.1 hs.1.1.size (by have := HNK.out; have := HIL.out; simp only [List.nil_append, List.length_nil, List.length_drop]; omega) ?_
        intro v2 W2 hR hb hg hat
        replace hs := StR.append hs hR hb hg hat
        clear hR hg hat
        refine hK.out _ _ (hb) (fun hNew => ?_)
        clear hHeld hK K
        have hHeld := hNew
        clear hNew
        refine norm_ (a' := ?_) ?_ ?_
        rotate_left
        · show Act.put _ (some 41) _ = _
          simp only [Act.put, List.setIfInBounds_toArray, List.set_cons_zero, List.set_cons_succ, i64_w, i32_w]
          rfl
        clear hb
        refine one_ (i := 10) (N := some 45) #[true, true, true, true, true, true, true, true, true, true, true, false, true, false] rfl rfl (by kernel_rfl) (by decide) (fun K hK => ?_)
        refine Kd.R_append_rows_step (Kd.int .u16) (w0 := w4) w4.heap.size (by rfl) (.tmp 41) (.tmp 44) 42 44 (.int .u16 0) 2 rfl Tryd.underlying42 info44 rfl (by decide) (by omega) v2 ([] ++ ids.drop k) (ids.take k) B k cN (fun _ => True) (fun _ => False) rfl rfl hs.2.1 (HC2.out _ (HB4.out.trans (hs.1.1.mono HB4.out.size))) (fun _ _ h => h) (fun _ h => h.elim) (fun _ _ => trivial) hs.1.1 hs.1.1.size (by have := HNK.out; have := HIL.out; simp only [List.nil_append, List.length_nil, List.length_drop]; omega) ?_
        intro v3 W3 hR hb hg hat
        replace hs := StR.append hs hR hb hg hat
        clear hR hg hat
        refine hK.out _ _ (hb) (fun hNew => ?_)
        clear hHeld hK K
        have hHeld := hNew
        clear hNew
        refine norm_ (a' := ?_) ?_ ?_
        rotate_left
        · show Act.put _ (some 45) _ = _
          simp only [Act.put, List.setIfInBounds_toArray, List.set_cons_zero, List.set_cons_succ, i64_w, i32_w]
          rfl
        clear hb
        refine one_ (i := 11) (N := some 46) #[true, true, true, true, true, true, true, true, true, true, true, true, true, false] rfl rfl (by kernel_rfl) (by decide) (fun K hK => ?_)
        obtain ⟨A5, c5, n5, rfl, hC5, hc5⟩ := R_any hs.2.1
        have hl5 : n5 ≤ 1000 := by have e1 := Kd.C_len hC5; have := HNK.out; have := HIL.out; simp only [List.nil_append, List.length_append, List.length_drop, List.length_take] at e1; omega
        have hBt := HB4.out.trans (hs.1.1.mono HB4.out.size)
        have hcall := added_calls s HS.out l b A n c data A5 n5 c5 ([] ++ ids.drop k ++ ids.take k) _ (Kd.C_below HDt.out hBt) HCC.out HDB.out hC5 HTI.out hl5 (HT.out.below hBt)
        rw [← HFC.out] at hcall
        refine goes_ Tryd.func22 (by kernel_rfl) rfl #[.agg (cells8 s), .agg fc, .slice A5 n5 c5] (by rfl) rfl rfl (by (try simp only [List.map_toArray, List.map_cons, List.map_nil]); first | done | rfl) ?_
        refine hcall.mono ?_
        rintro e W4 ⟨A2, n2, c2, rfl, hC6, hc6, hb6⟩
        clear hcall hBt
        replace hs : StC w4 (some _) A2 n2 c2 _ W4 := ⟨hs.1.below hb6, hC6, hc6⟩
        refine ⟨_, rfl, ?_⟩
        refine hK.out _ _ (hs.1.1) (fun hNew => ?_)
        clear hHeld hK K
        have hHeld := hNew
        clear hNew
        refine norm_ (a' := ?_) ?_ ?_
        rotate_left
        · show Act.put _ (some 46) _ = _
          simp only [Act.put, List.setIfInBounds_toArray, List.set_cons_zero, List.set_cons_succ, i64_w, i32_w]
          rfl
        exact hcont (v1, v2, .slice A5 n5 c5, A2, n2, c2, _) _ hs
    rintro ⟨v1, v2, v3, A2, n2, c2, gy⟩ W5 hs
    refine norm_ (a' := ?_) ?_ ?_
    rotate_left
    · show Act.put (Act.put (Act.put (Act.put (Act.put _ (some 37) v1) (some 41) v2) (some 45) v3) (some 46) (.agg (fcells l b A2 n2 c2))) (some 11) (.pointer (some ⟨gy, 0, none⟩)) = _
      simp only [Act.put, List.setIfInBounds_toArray, List.set_cons_zero, List.set_cons_succ, i64_w, i32_w]
      rfl
    replace hs : StC w4 (some gy) A2 n2 c2 (addedD s l b data ([] ++ ids.drop k ++ ids.take k)) W5 := hs
    rw [List.nil_append, added_turn ids k HDB.out, ← HX.out] at hs
    obtain ⟨⟨hb5, hgy⟩, hC5, hc5⟩ := hs
    obtain ⟨hgy1, hgy2⟩ := hgy gy rfl
    have HGY := Aside0.mk hgy2
    have hny := C_row_ne (by decide) hC5 hgy2
    clear hgy
    refine one_ (i := 13) (N := none) #[true, true, true, true, true, true, true, true, true, true, true, true, true, true] rfl rfl (by kernel_rfl) (by decide) (fun K hK => ?_)
    refine store_row_ (by rfl) 26 (.tmp 11) (.tmp 46) rfl rfl gy (fcells l b A2 n2 c2) rfl rfl 26 zeroF hgy2 (sizeF l b A2 n2 c2) rfl (oneF l b A2 n2 c2) ?_
    refine hK.out _ _ (below_setRow hb5 hgy1 _) (fun hNew => ?_)
    clear hHeld hK K
    refine done_ (by kernel_rfl) ?_
    obtain ⟨w6, hw6⟩ : ∃ z, z = W5.setRow gy (fcells l b A2 n2 c2) := ⟨_, rfl⟩
    rw [← hw6] at hNew ⊢
    have HC6 : Aside0 (Kd.C (Kd.int .u8) w6 A2 n2 X) := ⟨by rw [hw6]; exact C_setRow hC5 hny⟩
    have H6Y : Aside0 (w6.heap[gy]? = some (.cells (fcells l b A2 n2 c2) 26 (0, 0))) := ⟨by rw [hw6]; exact setRow_heap _ _ _ _ _ _ hgy2⟩
    have H60 := Aside0.mk (blk_of_below H40.out hNew)
    have H69 := Aside0.mk (blk_of_below H49.out hNew)
    have HC61 := Aside0.mk (Kd.C_below HC4.out hNew)
    have HB6 : Aside0 (Below w.heap.size w w6) := ⟨HB4.out.trans (hNew.mono HB4.out.size)⟩
    have HCY := Aside0.mk hc5
    have HSY := Aside0.mk (sizeF l b A2 n2 c2)
    obtain ⟨yc, hyc⟩ : ∃ z, z = fcells l b A2 n2 c2 := ⟨_, rfl⟩
    rw [← hyc] at H6Y HSY
    have HYC := Aside0.mk hyc
    clear hw6 hNew hyc hb5 hC5 hc5 hny hgy1 hgy2 HGY
    go_wp2_with fail
    refine start_ (n := 12) (S := fun W => Below w6.heap.size w6 W) (ds := []) #[false, false, false, false, false, false, false, false, false, false, false, false] (by kernel_rfl) rfl rfl (below_drew (Below.refl _ _)) (fun hHeld => ?_)
    refine take_ (i := 0) (N := some 47) (v := .agg xc) (a' := ?_) #[true, false, false, false, false, false, false, false, false, false, false, false] rfl rfl (by kernel_rfl) (fun _ _ _ h => h) (Or.inl ⟨by rfl, fun w' s0 => load_run 26 (.tmp 10) rfl gx rfl 26 _ (0, 0) _ (blk_of_below H69.out s0) Tryd.underlying26 rfl HSX.out⟩) hHeld ?_ ?_
    rotate_left
    · simp only [Act.put, List.setIfInBounds_toArray, List.set_cons_zero, List.set_cons_succ, i64_w, i32_w]
      rfl
    refine take_ (i := 1) (N := some 48) (v := .agg yc) (a' := ?_) #[true, true, false, false, false, false, false, false, false, false, false, false] rfl rfl (by kernel_rfl) (fun _ _ _ h => h) (Or.inl ⟨by rfl, fun w' s0 => load_run 26 (.tmp 11) rfl gy rfl 26 _ (0, 0) _ (blk_of_below H6Y.out s0) Tryd.underlying26 rfl HSY.out⟩) hHeld ?_ ?_
    rotate_left
    · simp only [Act.put, List.setIfInBounds_toArray, List.set_cons_zero, List.set_cons_succ, i64_w, i32_w]
      rfl
    have hSM := Same_refl l b A1 n1 c1' A2 n2 c2 X _ (Kd.C_below HC61.out hHeld) HXC.out (Kd.C_below HC6.out hHeld) HCY.out
    rw [← HXX.out, ← HYC.out] at hSM
    refine one_ (i := 2) (N := some 49) #[true, true, true, false, false, false, false, false, false, false, false, false] rfl rfl (by kernel_rfl) (by decide) (fun K hK => ?_)
    refine goes_ Tryd.func14 (by kernel_rfl) rfl #[.agg xc, .agg yc] (by rfl) rfl rfl (by (try simp only [List.map_toArray, List.map_cons, List.map_nil]); first | done | rfl) ?_
    refine (hSM).mono ?_
    rintro e W7 ⟨rfl, hb7⟩
    refine ⟨_, rfl, ?_⟩
    refine hK.out _ _ (hHeld.trans (hb7.mono hHeld.size)) (fun hNew => ?_)
    clear hHeld hK K
    have hHeld := hNew
    clear hNew
    refine norm_ (a' := ?_) ?_ ?_
    rotate_left
    · show Act.put _ (some 49) _ = _
      simp only [Act.put, List.setIfInBounds_toArray, List.set_cons_zero, List.set_cons_succ, i64_w, i32_w]
      rfl
    refine pure_ (i := 3) (N := some 50) (v := ?_) (a' := ?_) #[true, true, true, true, false, false, false, false, false, false, false, false] rfl rfl (by kernel_rfl) (fun _ _ _ h => h) (Or.inl ⟨by rfl, ?_⟩) ?_ ?_
    rotate_left
    · intro w'
      go_simp
      with_reducible rfl
    rotate_left
    · simp only [Act.put, List.setIfInBounds_toArray, List.set_cons_zero, List.set_cons_succ, i64_w, i32_w]
      rfl
    refine take_ (i := 4) (N := some 51) (v := .agg (cells8 s)) (a' := ?_) #[true, true, true, true, true, false, false, false, false, false, false, false] rfl rfl (by kernel_rfl) (fun _ _ _ h => h) (Or.inl ⟨by rfl, fun w' s0 => load_run 23 (.tmp 4) rfl w.heap.size rfl 23 _ (0, 0) _ (blk_of_below H60.out s0) Tryd.underlying23 rfl HSs.out⟩) hHeld ?_ ?_
    rotate_left
    · simp only [Act.put, List.setIfInBounds_toArray, List.set_cons_zero, List.set_cons_succ, i64_w, i32_w]
      rfl
    refine take_ (i := 5) (N := some 52) (v := .agg xc) (a' := ?_) #[true, true, true, true, true, true, false, false, false, false, false, false] rfl rfl (by kernel_rfl) (fun _ _ _ h => h) (Or.inl ⟨by rfl, fun w' s0 => load_run 26 (.tmp 10) rfl gx rfl 26 _ (0, 0) _ (blk_of_below H69.out s0) Tryd.underlying26 rfl HSX.out⟩) hHeld ?_ ?_
    rotate_left
    · simp only [Act.put, List.setIfInBounds_toArray, List.set_cons_zero, List.set_cons_succ, i64_w, i32_w]
      rfl
    refine pure_ (i := 6) (N := some 53) (v := ?_) (a' := ?_) #[true, true, true, true, true, true, true, false, false, false, false, false] rfl rfl (by kernel_rfl) (fun _ _ _ h => h) (Or.inl ⟨by rfl, ?_⟩) ?_ ?_
    rotate_left
    · intro w'
      go_simp
      with_reducible rfl
    rotate_left
    · simp only [Act.put, List.setIfInBounds_toArray, List.set_cons_zero, List.set_cons_succ, i64_w, i32_w]
      rfl
    refine take_ (i := 8) (N := some 55) (v := .agg xc) (a' := ?_) #[true, true, true, true, true, true, true, false, true, false, false, false] rfl rfl (by kernel_rfl) (fun _ _ _ h => h) (Or.inl ⟨by rfl, fun w' s0 => load_run 26 (.tmp 10) rfl gx rfl 26 _ (0, 0) _ (blk_of_below H69.out s0) Tryd.underlying26 rfl HSX.out⟩) hHeld ?_ ?_
    rotate_left
    · simp only [Act.put, List.setIfInBounds_toArray, List.set_cons_zero, List.set_cons_succ, i64_w, i32_w]
      rfl
    have hBt := HB6.out.trans (hHeld.mono HB6.out.size)
    have hAD := added_calls s HS.out l b A1 n1 c1' X B N cN ids _ (Kd.C_below HC61.out hHeld) HXC.out HXB.out (Kd.C_below HIt.out hBt) HIB.out (by have := HNK.out; omega) (HT.out.below hBt)
    rw [← HXX.out, show addedD s l b X ids = X by rw [HX.out]; exact added_again ids HDB.out] at hAD
    refine one_ (i := 7) (N := some 54) #[true, true, true, true, true, true, true, true, true, false, false, false] rfl rfl (by kernel_rfl) (by decide) (fun K hK => ?_)
    refine goes_ Tryd.func22 (by kernel_rfl) rfl #[.agg (cells8 s), .agg xc, .slice B N cN] (by rfl) rfl rfl (by (try simp only [List.map_toArray, List.map_cons, List.map_nil]); first | done | rfl) ?_
    refine (hAD).mono ?_
    rintro e W8 ⟨A3, n3, c3, rfl, hC8, hc8, hb8⟩
    refine ⟨_, rfl, ?_⟩
    refine hK.out _ _ (hHeld.trans (hb8.mono hHeld.size)) (fun hNew => ?_)
    clear hHeld hK K
    have hHeld := hNew
    clear hNew
    refine norm_ (a' := ?_) ?_ ?_
    rotate_left
    · show Act.put _ (some 54) _ = _
      simp only [Act.put, List.setIfInBounds_toArray, List.set_cons_zero, List.set_cons_succ, i64_w, i32_w]
      rfl
    have hSM2 := Same_refl l b A3 n3 c3 A1 n1 c1' X _ hC8 hc8 (Kd.C_below HC61.out hHeld) HXC.out
    rw [← HXX.out] at hSM2
    refine one_ (i := 9) (N := some 56) #[true, true, true, true, true, true, true, true, true, true, false, false] rfl rfl (by kernel_rfl) (by decide) (fun K hK => ?_)
    refine goes_ Tryd.func14 (by kernel_rfl) rfl #[.agg (fcells l b A3 n3 c3), .agg xc] (by rfl) rfl rfl (by (try simp only [List.map_toArray, List.map_cons, List.map_nil]); first | done | rfl) ?_
    refine (hSM2).mono ?_
    rintro e W9 ⟨rfl, hb9⟩
    refine ⟨_, rfl, ?_⟩
    refine hK.out _ _ (hHeld.trans (hb9.mono hHeld.size)) (fun hNew => ?_)
    clear hHeld hK K
    have hHeld := hNew
    clear hNew
    refine norm_ (a' := ?_) ?_ ?_
    rotate_left
    · show Act.put _ (some 56) _ = _
      simp only [Act.put, List.setIfInBounds_toArray, List.set_cons_zero, List.set_cons_succ, i64_w, i32_w]
      rfl
    refine pure_ (i := 10) (N := some 57) (v := ?_) (a' := ?_) #[true, true, true, true, true, true, true, true, true, true, true, false] rfl rfl (by kernel_rfl) (fun _ _ _ h => h) (Or.inl ⟨by rfl, ?_⟩) ?_ ?_
    rotate_left
    · intro w'
      go_simp
      with_reducible rfl
    rotate_left
    · simp only [Act.put, List.setIfInBounds_toArray, List.set_cons_zero, List.set_cons_succ, i64_w, i32_w]
      rfl
    refine pure_ (i := 11) (N := some 8) (v := ?_) (a' := ?_) #[true, true, true, true, true, true, true, true, true, true, true, true] rfl rfl (by kernel_rfl) (fun _ _ _ h => h) (Or.inl ⟨by rfl, ?_⟩) ?_ ?_
    rotate_left
    · intro w'
      go_simp
      with_reducible rfl
    rotate_left
    · simp only [Act.put, List.setIfInBounds_toArray, List.set_cons_zero, List.set_cons_succ, i64_w, i32_w]
      rfl
    refine done_ (by kernel_rfl) ?_
    have HB9 : Aside0 (Below w.heap.size w W9) := ⟨HB6.out.trans (hHeld.mono HB6.out.size)⟩
    clear hHeld
    go_wp2_with fail
    go_ret
    exact ⟨rfl, HB9.out⟩
  · have c3 := eq_false (show ¬ (0 : Int) < (N : Int) by omega)
    obtain ⟨k, hk0⟩ : ∃ k : Nat, k = 0 := ⟨_, rfl⟩
    have hkN : k ≤ N := by omega
    clear htr
    have hs1 := cut_from (P := Tryd.prog) 42 44 .i64 Tryd.underlying42 HI0.out 1 HSZ.out B N cN (k : Int) (by omega) (by omega)
    have hs2 := cut_to (P := Tryd.prog) 42 44 .i64 Tryd.underlying42 HI0.out B N cN (k : Int) (by omega) (by omega) hNC.out
    rw [Int.toNat_natCast] at hs1 hs2
    have HC1 : Aside0 (∀ W, Below w.heap.size w W → Kd.C (Kd.int .u16) W B N (ids.drop k)) := ⟨fun W h => by rw [hk0]; exact Kd.C_below HIt.out h⟩
    have HC2 : Aside0 (∀ W, Below w.heap.size w W → Kd.C (Kd.int .u16) W B 0 (ids.take k)) := ⟨fun W h => by have h2 := C_firstk (Kd.C_below HIt.out h) hkN; rw [hk0] at h2 ⊢; exact h2⟩
    have HNK : Aside0 (k ≤ N ∧ N ≤ 40) := ⟨hkN, by omega⟩
    have HTI : Aside0 (∀ x ∈ [] ++ ids.drop k ++ ids.take k, 0 ≤ x ∧ x ≤ 65535) := ⟨fun x hx => by
      rw [List.nil_append, List.mem_append] at hx
      rcases hx with hx | hx
      · exact HIB.out x (List.mem_of_mem_drop hx)
      · exact HIB.out x (List.mem_of_mem_take hx)⟩
    clear hs1 hs2
    clear hkN
    have HAD := Aside0.mk (added_calls s HS.out l b A n c data B N cN ids w1 (Kd.C_below HDt.out HB1.out) hc HDB.out (Kd.C_below HIt.out HB1.out) HIB.out (by omega) (HT.out.below HB1.out))
    rw [← HFC.out] at HAD
    go_wp2_with (first
      | (with_reducible refine wpList_load_row rfl 23 (.tmp 4) rfl w.heap.size rfl 23 (cells8 s) (0, 0) _ H10.out Tryd.underlying23 rfl HSs.out ?_)
      | (with_reducible refine wpList_load_row rfl 26 (.tmp 5) rfl (w.heap.size + 1) rfl 26 fc (0, 0) _ H11.out Tryd.underlying26 rfl HSF.out ?_))
    refine HAD.out.mono ?_
    rintro e w2 ⟨A1, n1, c1', rfl, hC2, hc2, hb2⟩
    have HB2 : Aside0 (Below w.heap.size w w2) := ⟨HB1.out.trans (hb2.mono HB1.out.size)⟩
    have H20 := Aside0.mk (blk_of_below H10.out hb2)
    have H21 := Aside0.mk (blk_of_below H11.out hb2)
    obtain ⟨X, hX⟩ : ∃ z, z = addedD s l b data ids := ⟨_, rfl⟩
    rw [← hX] at hC2
    have HX := Aside0.mk hX
    have HXB : Aside0 (Bytes X) := ⟨by rw [hX]; exact addedD_bytes ids HDB.out⟩
    have HXC := Aside0.mk hc2
    have HSX := Aside0.mk (sizeF l b A1 n1 c1')
    have HOX := Aside0.mk (oneF l b A1 n1 c1')
    obtain ⟨xc, hxc⟩ : ∃ z, z = fcells l b A1 n1 c1' := ⟨_, rfl⟩
    rw [← hxc] at HSX HOX ⊢
    have HXX := Aside0.mk hxc
    have HZX : Aside0 (zeroF.size = xc.size) := ⟨by rw [hxc]; rfl⟩
    obtain ⟨w4, hw4, hx4, hb4⟩ := new_row w2 xc
    have HN := Aside0.mk (heap_alloc_new w2 (.cells zeroF 26))
    have HW4 := Aside0.mk hw4
    have HB4 : Aside0 (Below w.heap.size w w4) := ⟨HB2.out.trans (hb4.mono HB2.out.size)⟩
    have H40 := Aside0.mk (blk_of_below H20.out hb4)
    have H41 := Aside0.mk (blk_of_below H21.out hb4)
    have H49 := Aside0.mk hx4
    have HC4 := Aside0.mk (Kd.C_below hC2 hb4)
    clear hb2 hX hC2 hc2 hxc hw4 hx4 hb4 H10 H11 H20 H21 HB1 HB2 HAD f2
    go_wp2_with (change wpList _ _ _ _ _ (w2.alloc (.cells zeroF 26)); with_reducible refine wpList_store_row rfl 26 (.tmp 10) (.tmp 34) rfl w2.heap.size xc rfl rfl 26 zeroF HN.out HSX.out HZX.out HOX.out ?_; rw [← HW4.out])
    obtain ⟨gx, hgx⟩ : ∃ z, z = w2.heap.size := ⟨_, rfl⟩
    rw [← hgx] at H49 ⊢
    clear HN HW4 hgx
    refine start_ (n := 14) (S := fun W => Below w4.heap.size w4 W) (ds := []) #[false, false, false, false, false, false, false, false, false, false, false, false, false, false] (by kernel_rfl) rfl rfl (below_drew (Below.refl _ _)) (fun hHeld => ?_)
    refine take_ (i := 0) (N := some 35) (v := .agg (cells8 s)) (a' := ?_) #[true, false, false, false, false, false, false, false, false, false, false, false, false, false] rfl rfl (by kernel_rfl) (fun _ _ _ h => h) (Or.inl ⟨by rfl, fun w' s0 => load_run 23 (.tmp 4) rfl w.heap.size rfl 23 _ (0, 0) _ (blk_of_below H40.out s0) Tryd.underlying23 rfl HSs.out⟩) hHeld ?_ ?_
    rotate_left
    · simp only [Act.put, List.setIfInBounds_toArray, List.set_cons_zero, List.set_cons_succ, i64_w, i32_w]
      rfl
    refine take_ (i := 1) (N := some 36) (v := .agg fc) (a' := ?_) #[true, true, false, false, false, false, false, false, false, false, false, false, false, false] rfl rfl (by kernel_rfl) (fun _ _ _ h => h) (Or.inl ⟨by rfl, fun w' s0 => load_run 26 (.tmp 5) rfl (w.heap.size + 1) rfl 26 _ (0, 0) _ (blk_of_below H41.out s0) Tryd.underlying26 rfl HSF.out⟩) hHeld ?_ ?_
    rotate_left
    · simp only [Act.put, List.setIfInBounds_toArray, List.set_cons_zero, List.set_cons_succ, i64_w, i32_w]
      rfl
    refine pure_ (i := 3) (N := some 38) (v := ?_) (a' := ?_) #[true, true, false, true, false, false, false, false, false, false, false, false, false, false] rfl rfl (by kernel_rfl) (fun _ _ _ h => h) (Or.inl ⟨by rfl, ?_⟩) ?_ ?_
    rotate_left
    · intro w'
      go_simp
      with_reducible rfl
    rotate_left
    · simp only [Act.put, List.setIfInBounds_toArray, List.set_cons_zero, List.set_cons_succ, i64_w, i32_w]
      rfl
    refine pure_ (i := 4) (N := some 39) (v := ?_) (a' := ?_) #[true, true, false, true, true, false, false, false, false, false, false, false, false, false] rfl rfl (by kernel_rfl) (fun _ _ _ h => h) (Or.inl ⟨by rfl, ?_⟩) ?_ ?_
    rotate_left
    · intro w'
      go_simp
      with_reducible rfl
    rotate_left
    · simp only [Act.put, List.setIfInBounds_toArray, List.set_cons_zero, List.set_cons_succ, i64_w, i32_w]
      rfl
    refine pure_ (i := 5) (N := some 40) (v := ?_) (a' := ?_) #[true, true, false, true, true, true, false, false, false, false, false, false, false, false] rfl rfl (by kernel_rfl) (fun _ _ _ h => h) (Or.inl ⟨by rfl, ?_⟩) ?_ ?_
    rotate_left
    · intro w'
      go_simp
      with_reducible rfl
    rotate_left
    · simp only [Act.put, List.setIfInBounds_toArray, List.set_cons_zero, List.set_cons_succ, i64_w, i32_w]
      rfl
    refine pure_ (i := 7) (N := some 42) (v := ?_) (a' := ?_) #[true, true, false, true, true, true, false, true, false, false, false, false, false, false] rfl rfl (by kernel_rfl) (fun _ _ _ h => h) (Or.inl ⟨by rfl, ?_⟩) ?_ ?_
    rotate_left
    · intro w'
      go_simp
      with_reducible rfl
    rotate_left
    · simp only [Act.put, List.setIfInBounds_toArray, List.set_cons_zero, List.set_cons_succ, i64_w, i32_w]
      rfl
    refine pure_ (i := 8) (N := some 43) (v := ?_) (a' := ?_) #[true, true, false, true, true, true, false, true, true, false, false, false, false, false] rfl rfl (by kernel_rfl) (fun _ _ _ h => h) (Or.inl ⟨by rfl, ?_⟩) ?_ ?_
    rotate_left
    · intro w'
      go_simp
      with_reducible rfl
    rotate_left
    · simp only [Act.put, List.setIfInBounds_toArray, List.set_cons_zero, List.set_cons_succ, i64_w, i32_w]
      rfl
    refine pure_ (i := 9) (N := some 44) (v := ?_) (a' := ?_) #[true, true, false, true, true, true, false, true, true, true, false, false, false, false] rfl rfl (by kernel_rfl) (fun _ _ _ h => h) (Or.inl ⟨by rfl, ?_⟩) ?_ ?_
    rotate_left
    · intro w'
      go_simp
      with_reducible rfl
    rotate_left
    · simp only [Act.put, List.setIfInBounds_toArray, List.set_cons_zero, List.set_cons_succ, i64_w, i32_w]
      rfl
    have hs : St0 w4 none w4.drew := ⟨hHeld, fun g e => by cases e⟩
    refine join_ (σ := Value × Value × Value × Option Addr × Nat × Nat × Nat) 1 #[true, true, true, true, true, true, true, true, true, true, true, true, true, false] (fun q => [(37, q.1), (41, q.2.1), (45, q.2.2.1), (46, .agg (fcells l b q.2.2.2.1 q.2.2.2.2.1 q.2.2.2.2.2.1)), (11, .pointer (some ⟨q.2.2.2.2.2.2, 0, none⟩))]) (fun q W => StC w4 (some q.2.2.2.2.2.2) q.2.2.2.1 q.2.2.2.2.1 q.2.2.2.2.2.1 (addedD s l b data ([] ++ ids.drop k ++ ids.take k)) W) ?_ ?_
    rotate_left
    · intro hcont
      refine two_ (i := 2) (j := 12) (Ni := some 37) (Nj := some 11) #[true, true, true, true, true, true, false, true, true, true, false, false, false, false] #[true, true, false, true, true, true, false, true, true, true, false, false, true, false] rfl rfl rfl rfl (by kernel_rfl) (by decide) (by decide) (fun K hK => ?_) (fun K hK => ?_)
      · refine Kd.R_lit_step (Kd.int .u16) (w0 := w4) w4.heap.size 44 (by rfl) (N := 37) rfl (xs := ([] : List Int)) (inner := []) (ok := fun _ => True) (okp := fun _ => True) ?hr ?hp (fun _ hk => hk) trivial hs.1 hs.1.size (by simp) ?_
        case hr => first | (go_simp; done) | (go_simp; rfl)
        case hp => exact Reps.none _ _
        intro v1 W1 hR hb hg hown
        replace hs := StR.lit hs hR hb hg hown
        clear hR hg hown
        refine hK.out _ _ (hb) (fun hNew => ?_)
        clear hHeld hK K
        have hHeld := hNew
        clear hNew
        refine norm_ (a' := ?_) ?_ ?_
        rotate_left
        · show Act.put _ (some 37) _ = _
          simp only [Act.put, List.setIfInBounds_toArray, List.set_cons_zero, List.set_cons_succ, i64_w, i32_w]
          rfl
        clear hb
        refine two_ (i := 6) (j := 12) (Ni := some 41) (Nj := some 11) #[true, true, true, true, true, true, true, true, true, true, false, false, false, false] #[true, true, true, true, true, true, false, true, true, true, false, false, true, false] rfl rfl rfl rfl (by kernel_rfl) (by decide) (by decide) (fun K hK => ?_) (fun K hK => ?_)
        · refine Kd.R_append_rows_step (Kd.int .u16) (w0 := w4) w4.heap.size (by rfl) (.tmp 37) (.tmp 40) 42 44 (.int .u16 0) 2 rfl Tryd.underlying42 info44 rfl (by decide) (by omega) v1 [] (ids.drop k) B N cN (fun _ => True) (fun _ => False) rfl rfl hs.2.1 (HC1.out _ (HB4.out.trans (hs.1.1.mono HB4.out.size))) (fun _ _ h => h) (fun _ h => h.elim) (fun _ _ => trivial) hs.1.1 hs.1.1.size (by have := HNK.out; have := HIL.out; simp only [List.nil_append, List.length_nil, List.length_drop]; omega) ?_
          intro v2 W2 hR hb hg hat
          replace hs := StR.append hs hR hb hg hat
          clear hR hg hat
          refine hK.out _ _ (hb) (fun hNew => ?_)
          clear hHeld hK K
          have hHeld := hNew
          clear hNew
          refine norm_ (a' := ?_) ?_ ?_
          rotate_left
          · show Act.put _ (some 41) _ = _
            simp only [Act.put, List.setIfInBounds_toArray, List.set_cons_zero, List.set_cons_succ, i64_w, i32_w]
            rfl
          clear hb
          refine two_ (i := 10) (j := 12) (Ni := some 45) (Nj := some 11) #[true, true, true, true, true, true, true, true, true, true, true, false, false, false] #[true, true, true, true, true, true, true, true, true, true, false, false, true, false] rfl rfl rfl rfl (by kernel_rfl) (by decide) (by decide) (fun K hK => ?_) (fun K hK => ?_)
          · refine Kd.R_append_rows_step (Kd.int .u16) (w0 := w4) w4.heap.size (by rfl) (.tmp 41) (.tmp 44) 42 44 (.int .u16 0) 2 rfl Tryd.underlying42 info44 rfl (by decide) (by omega) v2 ([] ++ ids.drop k) (ids.take k) B 0 cN (fun _ => True) (fun _ => False) rfl rfl hs.2.1 (HC2.out _ (HB4.out.trans (hs.1.1.mono HB4.out.size))) (fun _ _ h => h) (fun _ h => h.elim) (fun _ _ => trivial) hs.1.1 hs.1.1.size (by have := HNK.out; have := HIL.out; simp only [List.nil_append, List.length_nil, List.length_drop]; omega) ?_
            intro v3 W3 hR hb hg hat
            replace hs := StR.append hs hR hb hg hat
            clear hR hg hat
            refine hK.out _ _ (hb) (fun hNew => ?_)
            clear hHeld hK K
            have hHeld := hNew
            clear hNew
            refine norm_ (a' := ?_) ?_ ?_
            rotate_left
            · show Act.put _ (some 45) _ = _
              simp only [Act.put, List.setIfInBounds_toArray, List.set_cons_zero, List.set_cons_succ, i64_w, i32_w]
              rfl
            clear hb
            refine two_ (i := 11) (j := 12) (Ni := some 46) (Nj := some 11) #[true, true, true, true, true, true, true, true, true, true, true, true, false, false] #[true, true, true, true, true, true, true, true, true, true, true, false, true, false] rfl rfl rfl rfl (by kernel_rfl) (by decide) (by decide) (fun K hK => ?_) (fun K hK => ?_)
            · obtain ⟨A5, c5, n5, rfl, hC5, hc5⟩ := R_any hs.2.1
              have hl5 : n5 ≤ 1000 := by have e1 := Kd.C_len hC5; have := HNK.out; have := HIL.out; simp only [List.nil_append, List.length_append, List.length_drop, List.length_take] at e1; omega
              have hBt := HB4.out.trans (hs.1.1.mono HB4.out.size)
              have hcall := added_calls s HS.out l b A n c data A5 n5 c5 ([] ++ ids.drop k ++ ids.take k) _ (Kd.C_below HDt.out hBt) HCC.out HDB.out hC5 HTI.out hl5 (HT.out.below hBt)
              rw [← HFC.out] at hcall
              refine goes_ Tryd.func22 (by kernel_rfl) rfl #[.agg (cells8 s), .agg fc, .slice A5 n5 c5] (by rfl) rfl rfl (by (try simp only [List.map_toArray, List.map_cons, List.map_nil]); first | done | rfl) ?_
              refine hcall.mono ?_
              rintro e W4 ⟨A2, n2, c2, rfl, hC6, hc6, hb6⟩
              clear hcall hBt
              replace hs : StC w4 none A2 n2 c2 _ W4 := ⟨hs.1.below hb6, hC6, hc6⟩
              refine ⟨_, rfl, ?_⟩
              refine hK.out _ _ (hs.1.1) (fun hNew => ?_)
              clear hHeld hK K
              have hHeld := hNew
              clear hNew
              refine norm_ (a' := ?_) ?_ ?_
              rotate_left
              · show Act.put _ (some 46) _ = _
                simp only [Act.put, List.setIfInBounds_toArray, List.set_cons_zero, List.set_cons_succ, i64_w, i32_w]
                rfl
              refine one_ (i := 12) (N := some 11) #[true, true, true, true, true, true, true, true, true, true, true, true, true, false] rfl rfl (by kernel_rfl) (by decide) (fun K hK => ?_)
              refine value_ (by rfl) rfl (alloc_runF rfl _) ?_
              replace hs := hs.alloc
              have hb := hs.1.1
              refine hK.out _ _ (hb) (fun hNew => ?_)
              clear hHeld hK K
              have hHeld := hNew
              clear hNew
              refine norm_ (a' := ?_) ?_ ?_
              rotate_left
              · show Act.put _ (some 11) _ = _
                simp only [Act.put, List.setIfInBounds_toArray, List.set_cons_zero, List.set_cons_succ, i64_w, i32_w]
                rfl
              clear hb
              exact hcont (v1, v2, .slice A5 n5 c5, A2, n2, c2, _) _ hs
            · refine value_ (by rfl) rfl (alloc_runF rfl _) ?_
              replace hs := hs.alloc
              have hb := hs.1.1
              refine hK.out _ _ (hb) (fun hNew => ?_)
              clear hHeld hK K
              have hHeld := hNew
              clear hNew
              refine norm_ (a' := ?_) ?_ ?_
              rotate_left
              · show Act.put _ (some 11) _ = _
                simp only [Act.put, List.setIfInBounds_toArray, List.set_cons_zero, List.set_cons_succ, i64_w, i32_w]
                rfl
              clear hb
              refine one_ (i := 11) (N := some 46) #[true, true, true, true, true, true, true, true, true, true, true, true, true, false] rfl rfl (by kernel_rfl) (by decide) (fun K hK => ?_)
              obtain ⟨A5, c5, n5, rfl, hC5, hc5⟩ := R_any hs.2.1
              have hl5 : n5 ≤ 1000 := by have e1 := Kd.C_len hC5; have := HNK.out; have := HIL.out; simp only [List.nil_append, List.length_append, List.length_drop, List.length_take] at e1; omega
              have hBt := HB4.out.trans (hs.1.1.mono HB4.out.size)
              have hcall := added_calls s HS.out l b A n c data A5 n5 c5 ([] ++ ids.drop k ++ ids.take k) _ (Kd.C_below HDt.out hBt) HCC.out HDB.out hC5 HTI.out hl5 (HT.out.below hBt)
              rw [← HFC.out] at hcall
              refine goes_ Tryd.func22 (by kernel_rfl) rfl #[.agg (cells8 s), .agg fc, .slice A5 n5 c5] (by rfl) rfl rfl (by (try simp only [List.map_toArray, List.map_cons, List.map_nil]); first | done | rfl) ?_
              refine hcall.mono ?_
              rintro e W4 ⟨A2, n2, c2, rfl, hC6, hc6, hb6⟩
              clear hcall hBt
              replace hs : StC w4 (some _) A2 n2 c2 _ W4 := ⟨hs.1.below hb6, hC6, hc6⟩
              refine ⟨_, rfl, ?_⟩
              refine hK.out _ _ (hs.1.1) (fun hNew => ?_)
              clear hHeld hK K
              have hHeld := hNew
              clear hNew
              refine norm_ (a' := ?_) ?_ ?_
              rotate_left
              · show Act.put _ (some 46) _ = _
                simp only [Act.put, List.setIfInBounds_toArray, List.set_cons_zero, List.set_cons_succ, i64_w, i32_w]
                rfl
              exact hcont (v1, v2, .slice A5 n5 c5, A2, n2, c2, _) _ hs
          · refine value_ (by rfl) rfl (alloc_runF rfl _) ?_
            replace hs := hs.alloc
            have hb := hs.1.1
            refine hK.out _ _ (hb) (fun hNew => ?_)
            clear hHeld hK K
            have hHeld := hNew
            clear hNew
            refine norm_ (a' := ?_) ?_ ?_
            rotate_left
            · show Act.put _ (some 11) _ = _
              simp only [Act.put, List.setIfInBounds_toArray, List.set_cons_zero, List.set_cons_succ, i64_w, i32_w]
              rfl
            clear hb
            refine one_ (i := 10) (N := some 45) #[true, true, true, true, true, true, true, true, true, true, true, false, true, false] rfl rfl (by kernel_rfl) (by decide) (fun K hK => ?_)
            refine Kd.R_append_rows_step (Kd.int .u16) (w0 := w4) w4.heap.size (by rfl) (.tmp 41) (.tmp 44) 42 44 (.int .u16 0) 2 rfl Tryd.underlying42 info44 rfl (by decide) (by omega) v2 ([] ++ ids.drop k) (ids.take k) B 0 cN (fun _ => True) (fun _ => False) rfl rfl hs.2.1 (HC2.out _ (HB4.out.trans (hs.1.1.mono HB4.out.size))) (fun _ _ h => h) (fun _ h => h.elim) (fun _ _ => trivial) hs.1.1 hs.1.1.size (by have := HNK.out; have := HIL.out; simp only [List.nil_append, List.length_nil, List.length_drop]; omega) ?_
            intro v3 W3 hR hb hg hat
            replace hs := StR.append hs hR hb hg hat
            clear hR hg hat
            refine hK.out _ _ (hb) (fun hNew => ?_)
            clear hHeld hK K
            have hHeld := hNew
            clear hNew
            refine norm_ (a' := ?_) ?_ ?_
            rotate_left
            · show Act.put _ (some 45) _ = _
              simp only [Act.put, List.setIfInBounds_toArray, List.set_cons_zero, List.set_cons_succ, i64_w, i32_w]
              rfl
            clear hb
            refine one_ (i := 11) (N := some 46) #[true, true, true, true, true, true, true, true, true, true, true, true, true, false] rfl rfl (by kernel_rfl) (by decide) (fun K hK => ?_)
            obtain ⟨A5, c5, n5, rfl, hC5, hc5⟩ := R_any hs.2.1
            have hl5 : n5 ≤ 1000 := by have e1 := Kd.C_len hC5; have := HNK.out; have := HIL.out; simp only [List.nil_append, List.length_append, List.length_drop, List.length_take] at e1; omega
            have hBt := HB4.out.trans (hs.1.1.mono HB4.out.size)
            have hcall := added_calls s HS.out l b A n c data A5 n5 c5 ([] ++ ids.drop k ++ ids.take k) _ (Kd.C_below HDt.out hBt) HCC.out HDB.out hC5 HTI.out hl5 (HT.out.below hBt)
            rw [← HFC.out] at hcall
            refine goes_ Tryd.func22 (by kernel_rfl) rfl #[.agg (cells8 s), .agg fc, .slice A5 n5 c5] (by rfl) rfl rfl (by (try simp only [List.map_toArray, List.map_cons, List.map_nil]); first | done | rfl) ?_
            refine hcall.mono ?_
            rintro e W4 ⟨A2, n2, c2, rfl, hC6, hc6, hb6⟩
            clear hcall hBt
            replace hs : StC w4 (some _) A2 n2 c2 _ W4 := ⟨hs.1.below hb6, hC6, hc6⟩
            refine ⟨_, rfl, ?_⟩
            refine hK.out _ _ (hs.1.1) (fun hNew => ?_)
            clear hHeld hK K
            have hHeld := hNew
            clear hNew
            refine norm_ (a' := ?_) ?_ ?_
            rotate_left
            · show Act.put _ (some 46) _ = _
              simp only [Act.put, List.setIfInBounds_toArray, List.set_cons_zero, List.set_cons_succ, i64_w, i32_w]
              rfl
            exact hcont (v1, v2, .slice A5 n5 c5, A2, n2, c2, _) _ hs
        · refine value_ (by rfl) rfl (alloc_runF rfl _) ?_
          replace hs := hs.alloc
          have hb := hs.1.1
          refine hK.out _ _ (hb) (fun hNew => ?_)
          clear hHeld hK K
          have hHeld := hNew
          clear hNew
          refine norm_ (a' := ?_) ?_ ?_
          rotate_left
          · show Act.put _ (some 11) _ = _
            simp only [Act.put, List.setIfInBounds_toArray, List.set_cons_zero, List.set_cons_succ, i64_w, i32_w]
            rfl
          clear hb
          refine one_ (i := 6) (N := some 41) #[true, true, true, true, true, true, true, true, true, true, false, false, true, false] rfl rfl (by kernel_rfl) (by decide) (fun K hK => ?_)
          refine Kd.R_append_rows_step (Kd.int .u16) (w0 := w4) w4.heap.size (by rfl) (.tmp 37) (.tmp 40) 42 44 (.int .u16 0) 2 rfl Tryd.underlying42 info44 rfl (by decide) (by omega) v1 [] (ids.drop k) B N cN (fun _ => True) (fun _ => False) rfl rfl hs.2.1 (HC1.out _ (HB4.out.trans (hs.1.1.mono HB4.out.size))) (fun _ _ h => h) (fun _ h => h.elim) (fun _ _ => trivial) hs.1.1 hs.1.1.size (by have := HNK.out; have := HIL.out; simp only [List.nil_append, List.length_nil, List.length_drop]; omega) ?_
          intro v2 W2 hR hb hg hat
          replace hs := StR.append hs hR hb hg hat
          clear hR hg hat
          refine hK.out _ _ (hb) (fun hNew => ?_)
          clear hHeld hK K
          have hHeld := hNew
          clear hNew
          refine norm_ (a' := ?_) ?_ ?_
          rotate_left
          · show Act.put _ (some 41) _ = _
            simp only [Act.put, List.setIfInBounds_toArray, List.set_cons_zero, List.set_cons_succ, i64_w, i32_w]
            rfl
          clear hb
          refine one_ (i := 10) (N := some 45) #[true, true, true, true, true, true, true, true, true, true, true, false, true, false] rfl rfl (by kernel_rfl) (by decide) (fun K hK => ?_)
          refine Kd.R_append_rows_step (Kd.int .u16) (w0 := w4) w4.heap.size (by rfl) (.tmp 41) (.tmp 44) 42 44 (.int .u16 0) 2 rfl Tryd.underlying42 info44 rfl (by decide) (by omega) v2 ([] ++ ids.drop k) (ids.take k) B 0 cN (fun _ => True) (fun _ => False) rfl rfl hs.2.1 (HC2.out _ (HB4.out.trans (hs.1.1.mono HB4.out.size))) (fun _ _ h => h) (fun _ h => h.elim) (fun _ _ => trivial) hs.1.1 hs.1.1.size (by have := HNK.out; have := HIL.out; simp only [List.nil_append, List.length_nil, List.length_drop]; omega) ?_
          intro v3 W3 hR hb hg hat
          replace hs := StR.append hs hR hb hg hat
          clear hR hg hat
          refine hK.out _ _ (hb) (fun hNew => ?_)
          clear hHeld hK K
          have hHeld := hNew
          clear hNew
          refine norm_ (a' := ?_) ?_ ?_
          rotate_left
          · show Act.put _ (some 45) _ = _
            simp only [Act.put, List.setIfInBounds_toArray, List.set_cons_zero, List.set_cons_succ, i64_w, i32_w]
            rfl
          clear hb
          refine one_ (i := 11) (N := some 46) #[true, true, true, true, true, true, true, true, true, true, true, true, true, false] rfl rfl (by kernel_rfl) (by decide) (fun K hK => ?_)
          obtain ⟨A5, c5, n5, rfl, hC5, hc5⟩ := R_any hs.2.1
          have hl5 : n5 ≤ 1000 := by have e1 := Kd.C_len hC5; have := HNK.out; have := HIL.out; simp only [List.nil_append, List.length_append, List.length_drop, List.length_take] at e1; omega
          have hBt := HB4.out.trans (hs.1.1.mono HB4.out.size)
          have hcall := added_calls s HS.out l b A n c data A5 n5 c5 ([] ++ ids.drop k ++ ids.take k) _ (Kd.C_below HDt.out hBt) HCC.out HDB.out hC5 HTI.out hl5 (HT.out.below hBt)
          rw [← HFC.out] at hcall
          refine goes_ Tryd.func22 (by kernel_rfl) rfl #[.agg (cells8 s), .agg fc, .slice A5 n5 c5] (by rfl) rfl rfl (by (try simp only [List.map_toArray, List.map_cons, List.map_nil]); first | done | rfl) ?_
          refine hcall.mono ?_
          rintro e W4 ⟨A2, n2, c2, rfl, hC6, hc6, hb6⟩
          clear hcall hBt
          replace hs : StC w4 (some _) A2 n2 c2 _ W4 := ⟨hs.1.below hb6, hC6, hc6⟩
          refine ⟨_, rfl, ?_⟩
          refine hK.out _ _ (hs.1.1) (fun hNew => ?_)
          clear hHeld hK K
          have hHeld := hNew
          clear hNew
          refine norm_ (a' := ?_) ?_ ?_
          rotate_left
          · show Act.put _ (some 46) _ = _
            simp only [Act.put, List.setIfInBounds_toArray, List.set_cons_zero, List.set_cons_succ, i64_w, i32_w]
            rfl
          exact hcont (v1, v2, .slice A5 n5 c5, A2, n2, c2, _) _ hs
      · refine value_ (by rfl) rfl (alloc_runF rfl _) ?_
        replace hs := hs.alloc
        have hb := hs.1
        refine hK.out _ _ (hb) (fun hNew => ?_)
        clear hHeld hK K
        have hHeld := hNew
        clear hNew
        refine norm_ (a' := ?_) ?_ ?_
        rotate_left
        · show Act.put _ (some 11) _ = _
          simp only [Act.put, List.setIfInBounds_toArray, List.set_cons_zero, List.set_cons_succ, i64_w, i32_w]
          rfl
        clear hb
        refine one_ (i := 2) (N := some 37) #[true, true, true, true, true, true, false, true, true, true, false, false, true, false] rfl rfl (by kernel_rfl) (by decide) (fun K hK => ?_)
        refine Kd.R_lit_step (Kd.int .u16) (w0 := w4) w4.heap.size 44 (by rfl) (N := 37) rfl (xs := ([] : List Int)) (inner := []) (ok := fun _ => True) (okp := fun _ => True) ?hr ?hp (fun _ hk => hk) trivial hs.1 hs.1.size (by simp) ?_
        case hr => first | (go_simp; done) | (go_simp; rfl)
        case hp => exact Reps.none _ _
        intro v1 W1 hR hb hg hown
        replace hs := StR.lit hs hR hb hg hown
        clear hR hg hown
        refine hK.out _ _ (hb) (fun hNew => ?_)
        clear hHeld hK K
        have hHeld := hNew
        clear hNew
        refine norm_ (a' := ?_) ?_ ?_
        rotate_left
        · show Act.put _ (some 37) _ = _
          simp only [Act.put, List.setIfInBounds_toArray, List.set_cons_zero, List.set_cons_succ, i64_w, i32_w]
          rfl
        clear hb
        refine one_ (i := 6) (N := some 41) #[true, true, true, true, true, true, true, true, true, true, false, false, true, false] rfl rfl (by kernel_rfl) (by decide) (fun K hK => ?_)
        refine Kd.R_append_rows_step (Kd.int .u16) (w0 := w4) w4.heap.size (by rfl) (.tmp 37) (.tmp 40) 42 44 (.int .u16 0) 2 rfl Tryd.underlying42 info44 rfl (by decide) (by omega) v1 [] (ids.drop k) B N cN (fun _ => True) (fun _ => False) rfl rfl hs.2.1 (HC1.out _ (HB4.out.trans (hs.1.1.mono HB4.out.size))) (fun _ _ h => h) (fun _ h => h.elim) (fun _ _ => trivial) hs.1.1 hs.1.1.size (by have := HNK.out; have := HIL.out; simp only [List.nil_append, List.length_nil, List.length_drop]; omega) ?_
        intro v2 W2 hR hb hg hat
        replace hs := StR.append hs hR hb hg hat
        clear hR hg hat
        refine hK.out _ _ (hb) (fun hNew => ?_)
        clear hHeld hK K
        have hHeld := hNew
        clear hNew
        refine norm_ (a' := ?_) ?_ ?_
        rotate_left
        · show Act.put _ (some 41) _ = _
          simp only [Act.put, List.setIfInBounds_toArray, List.set_cons_zero, List.set_cons_succ, i64_w, i32_w]
          rfl
        clear hb
        refine one_ (i := 10) (N := some 45) #[true, true, true, true, true, true, true, true, true, true, true, false, true, false] rfl rfl (by kernel_rfl) (by decide) (fun K hK => ?_)
        refine Kd.R_append_rows_step (Kd.int .u16) (w0 := w4) w4.heap.size (by rfl) (.tmp 41) (.tmp 44) 42 44 (.int .u16 0) 2 rfl Tryd.underlying42 info44 rfl (by decide) (by omega) v2 ([] ++ ids.drop k) (ids.take k) B 0 cN (fun _ => True) (fun _ => False) rfl rfl hs.2.1 (HC2.out _ (HB4.out.trans (hs.1.1.mono HB4.out.size))) (fun _ _ h => h) (fun _ h => h.elim) (fun _ _ => trivial) hs.1.1 hs.1.1.size (by have := HNK.out; have := HIL.out; simp only [List.nil_append, List.length_nil, List.length_drop]; omega) ?_
        intro v3 W3 hR hb hg hat
        replace hs := StR.append hs hR hb hg hat
        clear hR hg hat
        refine hK.out _ _ (hb) (fun hNew => ?_)
        clear hHeld hK K
        have hHeld := hNew
        clear hNew
        refine norm_ (a' := ?_) ?_ ?_
        rotate_left
        · show Act.put _ (some 45) _ = _
          simp only [Act.put, List.setIfInBounds_toArray, List.set_cons_zero, List.set_cons_succ, i64_w, i32_w]
          rfl
        clear hb
        refine one_ (i := 11) (N := some 46) #[true, true, true, true, true, true, true, true, true, true, true, true, true, false] rfl rfl (by kernel_rfl) (by decide) (fun K hK => ?_)
        obtain ⟨A5, c5, n5, rfl, hC5, hc5⟩ := R_any hs.2.1
        have hl5 : n5 ≤ 1000 := by have e1 := Kd.C_len hC5; have := HNK.out; have := HIL.out; simp only [List.nil_append, List.length_append, List.length_drop, List.length_take] at e1; omega
        have hBt := HB4.out.trans (hs.1.1.mono HB4.out.size)
        have hcall := added_calls s HS.out l b A n c data A5 n5 c5 ([] ++ ids.drop k ++ ids.take k) _ (Kd.C_below HDt.out hBt) HCC.out HDB.out hC5 HTI.out hl5 (HT.out.below hBt)
        rw [← HFC.out] at hcall
        refine goes_ Tryd.func22 (by kernel_rfl) rfl #[.agg (cells8 s), .agg fc, .slice A5 n5 c5] (by rfl) rfl rfl (by (try simp only [List.map_toArray, List.map_cons, List.map_nil]); first | done | rfl) ?_
        refine hcall.mono ?_
        rintro e W4 ⟨A2, n2, c2, rfl, hC6, hc6, hb6⟩
        clear hcall hBt
        replace hs : StC w4 (some _) A2 n2 c2 _ W4 := ⟨hs.1.below hb6, hC6, hc6⟩
        refine ⟨_, rfl, ?_⟩
        refine hK.out _ _ (hs.1.1) (fun hNew => ?_)
        clear hHeld hK K
        have hHeld := hNew
        clear hNew
        refine norm_ (a' := ?_) ?_ ?_
        rotate_left
        · show Act.put _ (some 46) _ = _
          simp only [Act.put, List.setIfInBounds_toArray, List.set_cons_zero, List.set_cons_succ, i64_w, i32_w]
          rfl
        exact hcont (v1, v2, .slice A5 n5 c5, A2, n2, c2, _) _ hs
    rintro ⟨v1, v2, v3, A2, n2, c2, gy⟩ W5 hs
    refine norm_ (a' := ?_) ?_ ?_
    rotate_left
    · show Act.put (Act.put (Act.put (Act.put (Act.put _ (some 37) v1) (some 41) v2) (some 45) v3) (some 46) (.agg (fcells l b A2 n2 c2))) (some 11) (.pointer (some ⟨gy, 0, none⟩)) = _
      simp only [Act.put, List.setIfInBounds_toArray, List.set_cons_zero, List.set_cons_succ, i64_w, i32_w]
      rfl
    replace hs : StC w4 (some gy) A2 n2 c2 (addedD s l b data ([] ++ ids.drop k ++ ids.take k)) W5 := hs
    rw [List.nil_append, added_turn ids k HDB.out, ← HX.out] at hs
    obtain ⟨⟨hb5, hgy⟩, hC5, hc5⟩ := hs
    obtain ⟨hgy1, hgy2⟩ := hgy gy rfl
    have HGY := Aside0.mk hgy2
    have hny := C_row_ne (by decide) hC5 hgy2
    clear hgy
    refine one_ (i := 13) (N := none) #[true, true, true, true, true, true, true, true, true, true, true, true, true, true] rfl rfl (by kernel_rfl) (by decide) (fun K hK => ?_)
    refine store_row_ (by rfl) 26 (.tmp 11) (.tmp 46) rfl rfl gy (fcells l b A2 n2 c2) rfl rfl 26 zeroF hgy2 (sizeF l b A2 n2 c2) rfl (oneF l b A2 n2 c2) ?_
    refine hK.out _ _ (below_setRow hb5 hgy1 _) (fun hNew => ?_)
    clear hHeld hK K
    refine done_ (by kernel_rfl) ?_
    obtain ⟨w6, hw6⟩ : ∃ z, z = W5.setRow gy (fcells l b A2 n2 c2) := ⟨_, rfl⟩
    rw [← hw6] at hNew ⊢
    have HC6 : Aside0 (Kd.C (Kd.int .u8) w6 A2 n2 X) := ⟨by rw [hw6]; exact C_setRow hC5 hny⟩
    have H6Y : Aside0 (w6.heap[gy]? = some (.cells (fcells l b A2 n2 c2) 26 (0, 0))) := ⟨by rw [hw6]; exact setRow_heap _ _ _ _ _ _ hgy2⟩
    have H60 := Aside0.mk (blk_of_below H40.out hNew)
    have H69 := Aside0.mk (blk_of_below H49.out hNew)
    have HC61 := Aside0.mk (Kd.C_below HC4.out hNew)
    have HB6 : Aside0 (Below w.heap.size w w6) := ⟨HB4.out.trans (hNew.mono HB4.out.size)⟩
    have HCY := Aside0.mk hc5
    have HSY := Aside0.mk (sizeF l b A2 n2 c2)
    obtain ⟨yc, hyc⟩ : ∃ z, z = fcells l b A2 n2 c2 := ⟨_, rfl⟩
    rw [← hyc] at H6Y HSY
    have HYC := Aside0.mk hyc
    clear hw6 hNew hyc hb5 hC5 hc5 hny hgy1 hgy2 HGY
    go_wp2_with fail
    refine start_ (n := 12) (S := fun W => Below w6.heap.size w6 W) (ds := []) #[false, false, false, false, false, false, false, false, false, false, false, false] (by kernel_rfl) rfl rfl (below_drew (Below.refl _ _)) (fun hHeld => ?_)
    refine take_ (i := 0) (N := some 47) (v := .agg xc) (a' := ?_) #[true, false, false, false, false, false, false, false, false, false, false, false] rfl rfl (by kernel_rfl) (fun _ _ _ h => h) (Or.inl ⟨by rfl, fun w' s0 => load_run 26 (.tmp 10) rfl gx rfl 26 _ (0, 0) _ (blk_of_below H69.out s0) Tryd.underlying26 rfl HSX.out⟩) hHeld ?_ ?_
    rotate_left
    · simp only [Act.put, List.setIfInBounds_toArray, List.set_cons_zero, List.set_cons_succ, i64_w, i32_w]
      rfl
    refine take_ (i := 1) (N := some 48) (v := .agg yc) (a' := ?_) #[true, true, false, false, false, false, false, false, false, false, false, false] rfl rfl (by kernel_rfl) (fun _ _ _ h => h) (Or.inl ⟨by rfl, fun w' s0 => load_run 26 (.tmp 11) rfl gy rfl 26 _ (0, 0) _ (blk_of_below H6Y.out s0) Tryd.underlying26 rfl HSY.out⟩) hHeld ?_ ?_
    rotate_left
    · simp only [Act.put, List.setIfInBounds_toArray, List.set_cons_zero, List.set_cons_succ, i64_w, i32_w]
      rfl
    have hSM := Same_refl l b A1 n1 c1' A2 n2 c2 X _ (Kd.C_below HC61.out hHeld) HXC.out (Kd.C_below HC6.out hHeld) HCY.out
    rw [← HXX.out, ← HYC.out] at hSM
    refine one_ (i := 2) (N := some 49) #[true, true, true, false, false, false, false, false, false, false, false, false] rfl rfl (by kernel_rfl) (by decide) (fun K hK => ?_)
    refine goes_ Tryd.func14 (by kernel_rfl) rfl #[.agg xc, .agg yc] (by rfl) rfl rfl (by (try simp only [List.map_toArray, List.map_cons, List.map_nil]); first | done | rfl) ?_
    refine (hSM).mono ?_
    rintro e W7 ⟨rfl, hb7⟩
    refine ⟨_, rfl, ?_⟩
    refine hK.out _ _ (hHeld.trans (hb7.mono hHeld.size)) (fun hNew => ?_)
    clear hHeld hK K
    have hHeld := hNew
    clear hNew
    refine norm_ (a' := ?_) ?_ ?_
    rotate_left
    · show Act.put _ (some 49) _ = _
      simp only [Act.put, List.setIfInBounds_toArray, List.set_cons_zero, List.set_cons_succ, i64_w, i32_w]
      rfl
    refine pure_ (i := 3) (N := some 50) (v := ?_) (a' := ?_) #[true, true, true, true, false, false, false, false, false, false, false, false] rfl rfl (by kernel_rfl) (fun _ _ _ h => h) (Or.inl ⟨by rfl, ?_⟩) ?_ ?_
    rotate_left
    · intro w'
      go_simp
      with_reducible rfl
    rotate_left
    · simp only [Act.put, List.setIfInBounds_toArray, List.set_cons_zero, List.set_cons_succ, i64_w, i32_w]
      rfl
    refine take_ (i := 4) (N := some 51) (v := .agg (cells8 s)) (a' := ?_) #[true, true, true, true, true, false, false, false, false, false, false, false] rfl rfl (by kernel_rfl) (fun _ _ _ h => h) (Or.inl ⟨by rfl, fun w' s0 => load_run 23 (.tmp 4) rfl w.heap.size rfl 23 _ (0, 0) _ (blk_of_below H60.out s0) Tryd.underlying23 rfl HSs.out⟩) hHeld ?_ ?_
    rotate_left
    · simp only [Act.put, List.setIfInBounds_toArray, List.set_cons_zero, List.set_cons_succ, i64_w, i32_w]
      rfl
    refine take_ (i := 5) (N := some 52) (v := .agg xc) (a' := ?_) #[true, true, true, true, true, true, false, false, false, false, false, false] rfl rfl (by kernel_rfl) (fun _ _ _ h => h) (Or.inl ⟨by rfl, fun w' s0 => load_run 26 (.tmp 10) rfl gx rfl 26 _ (0, 0) _ (blk_of_below H69.out s0) Tryd.underlying26 rfl HSX.out⟩) hHeld ?_ ?_
    rotate_left
    · simp only [Act.put, List.setIfInBounds_toArray, List.set_cons_zero, List.set_cons_succ, i64_w, i32_w]
      rfl
    refine pure_ (i := 6) (N := some 53) (v := ?_) (a' := ?_) #[true, true, true, true, true, true, true, false, false, false, false, false] rfl rfl (by kernel_rfl) (fun _ _ _ h => h) (Or.inl ⟨by rfl, ?_⟩) ?_ ?_
    rotate_left
    · intro w'
      go_simp
      with_reducible rfl
    rotate_left
    · simp only [Act.put, List.setIfInBounds_toArray, List.set_cons_zero, List.set_cons_succ, i64_w, i32_w]
      rfl
    refine take_ (i := 8) (N := some 55) (v := .agg xc) (a' := ?_) #[true, true, true, true, true, true, true, false, true, false, false, false] rfl rfl (by kernel_rfl) (fun _ _ _ h => h) (Or.inl ⟨by rfl, fun w' s0 => load_run 26 (.tmp 10) rfl gx rfl 26 _ (0, 0) _ (blk_of_below H69.out s0) Tryd.underlying26 rfl HSX.out⟩) hHeld ?_ ?_
    rotate_left
    · simp only [Act.put, List.setIfInBounds_toArray, List.set_cons_zero, List.set_cons_succ, i64_w, i32_w]
      rfl
    have hBt := HB6.out.trans (hHeld.mono HB6.out.size)
    have hAD := added_calls s HS.out l b A1 n1 c1' X B N cN ids _ (Kd.C_below HC61.out hHeld) HXC.out HXB.out (Kd.C_below HIt.out hBt) HIB.out (by have := HNK.out; omega) (HT.out.below hBt)
    rw [← HXX.out, show addedD s l b X ids = X by rw [HX.out]; exact added_again ids HDB.out] at hAD
    refine one_ (i := 7) (N := some 54) #[true, true, true, true, true, true, true, true, true, false, false, false] rfl rfl (by kernel_rfl) (by decide) (fun K hK => ?_)
    refine goes_ Tryd.func22 (by kernel_rfl) rfl #[.agg (cells8 s), .agg xc, .slice B N cN] (by rfl) rfl rfl (by (try simp only [List.map_toArray, List.map_cons, List.map_nil]); first | done | rfl) ?_
    refine (hAD).mono ?_
    rintro e W8 ⟨A3, n3, c3, rfl, hC8, hc8, hb8⟩
    refine ⟨_, rfl, ?_⟩
    refine hK.out _ _ (hHeld.trans (hb8.mono hHeld.size)) (fun hNew => ?_)
    clear hHeld hK K
    have hHeld := hNew
    clear hNew
    refine norm_ (a' := ?_) ?_ ?_
    rotate_left
    · show Act.put _ (some 54) _ = _
      simp only [Act.put, List.setIfInBounds_toArray, List.set_cons_zero, List.set_cons_succ, i64_w, i32_w]
      rfl
    have hSM2 := Same_refl l b A3 n3 c3 A1 n1 c1' X _ hC8 hc8 (Kd.C_below HC61.out hHeld) HXC.out
    rw [← HXX.out] at hSM2
    refine one_ (i := 9) (N := some 56) #[true, true, true, true, true, true, true, true, true, true, false, false] rfl rfl (by kernel_rfl) (by decide) (fun K hK => ?_)
    refine goes_ Tryd.func14 (by kernel_rfl) rfl #[.agg (fcells l b A3 n3 c3), .agg xc] (by rfl) rfl rfl (by (try simp only [List.map_toArray, List.map_cons, List.map_nil]); first | done | rfl) ?_
    refine (hSM2).mono ?_
    rintro e W9 ⟨rfl, hb9⟩
    refine ⟨_, rfl, ?_⟩
    refine hK.out _ _ (hHeld.trans (hb9.mono hHeld.size)) (fun hNew => ?_)
    clear hHeld hK K
    have hHeld := hNew
    clear hNew
    refine norm_ (a' := ?_) ?_ ?_
    rotate_left
    · show Act.put _ (some 56) _ = _
      simp only [Act.put, List.setIfInBounds_toArray, List.set_cons_zero, List.set_cons_succ, i64_w, i32_w]
      rfl
    refine pure_ (i := 10) (N := some 57) (v := ?_) (a' := ?_) #[true, true, true, true, true, true, true, true, true, true, true, false] rfl rfl (by kernel_rfl) (fun _ _ _ h => h) (Or.inl ⟨by rfl, ?_⟩) ?_ ?_
    rotate_left
    · intro w'
      go_simp
      with_reducible rfl
    rotate_left
    · simp only [Act.put, List.setIfInBounds_toArray, List.set_cons_zero, List.set_cons_succ, i64_w, i32_w]
      rfl
    refine pure_ (i := 11) (N := some 8) (v := ?_) (a' := ?_) #[true, true, true, true, true, true, true, true, true, true, true, true] rfl rfl (by kernel_rfl) (fun _ _ _ h => h) (Or.inl ⟨by rfl, ?_⟩) ?_ ?_
    rotate_left
    · intro w'
      go_simp
      with_reducible rfl
    rotate_left
    · simp only [Act.put, List.setIfInBounds_toArray, List.set_cons_zero, List.set_cons_succ, i64_w, i32_w]
      rfl
    refine done_ (by kernel_rfl) ?_
    have HB9 : Aside0 (Below w.heap.size w W9) := ⟨HB6.out.trans (hHeld.mono HB6.out.size)⟩
    clear hHeld
    go_wp2_with fail
    go_ret
    exact ⟨rfl, HB9.out⟩
end Go.Proofs.YtgiofinekmaceaaDoor.Q
