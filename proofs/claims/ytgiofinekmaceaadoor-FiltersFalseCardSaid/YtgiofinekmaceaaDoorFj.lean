/- the law FiltersHas -/
import Derived.Test.YtgiofinekmaceaaDoorFs
namespace Go.Proofs.YtgiofinekmaceaaDoor.Q
open Go.RowKit Go.Shelf Go.Proofs.YtgiofinekmaceaaDoorW.PrintWords Go.Proofs.YtgiofinekmaceaaDoorW.PrintLast Go.Proofs.YtgiofinekmaceaaDoorW.PrintMore
set_option linter.unusedVariables false
set_option linter.unusedSimpArgs false
theorem wf8 {l : List Int} (h : ∀ x ∈ l, (Lit.int .u8 x).wf = true) : Bytes l := fun x hx => by
  have := h x hx
  have hmin : IntKind.u8.min = 0 := by decide
  have hmax : IntKind.u8.max = 255 := by decide
  simp [Lit.wf, hmin, hmax] at this
  omega
theorem wf16 {l : List Int} (h : ∀ x ∈ l, (Lit.int .u16 x).wf = true) : ∀ x ∈ l, 0 ≤ x ∧ x ≤ 65535 := fun x hx => by
  have := h x hx
  have hmin : IntKind.u16.min = 0 := by decide
  have hmax : IntKind.u16.max = 65535 := by decide
  simp [Lit.wf, hmin, hmax] at this
  omega
theorem hasL_addedD {s : List Int} {l b id : Int} {data : List Int} (ids : List Int) (hb : Bytes data) (h : hasL s l b id data = true) : hasL s l b id (addedD s l b data ids) = true := by
  obtain ⟨h1, h2⟩ := Bool.and_eq_true_iff.1 h
  obtain ⟨h3, h4, h5⟩ := okI_spec h1
  unfold hasL
  rw [okI_of (okF_addedD ids hb h3) h4 (by omega), hasD_addedD ids hb h3 h2]
  rfl
theorem hasL_mem {s : List Int} {l b : Int} {data : List Int} (ids : List Int) (hb : Bytes data) (h : okF l b data = true) (x : Int) (hx : x ∈ ids) (h0 : 0 ≤ x) (h1 : x < 1024) : hasL s l b x (addedD s l b data ids) = true := by
  unfold hasL
  rw [okI_of (okF_addedD ids hb h) h0 h1, has_added ids hb h x hx h0 h1]
  rfl
set_option maxRecDepth 20000 in
set_option maxHeartbeats 4000000 in
theorem FHas_calls (w : World) (s : List Int) (hs : s.length = 32) (_ : ∀ x ∈ s, 0 ≤ x ∧ x ≤ 255) (l b : Int) (A : Option Addr) (n c : Nat) (data : List Int) (_ : (Lit.int .i64 l).wf = true) (_ : (Lit.int .i64 b).wf = true) (hD : Kd.C (Kd.int .u8) w A n data) (hc : n ≤ c) (hd8 : ∀ x ∈ data, (Lit.int .u8 x).wf = true)
    (B : Option Addr) (N cN : Nat) (ids : List Int) (hI : Kd.C (Kd.int .u16) w B N ids) (_ : N ≤ cN) (hi16 : ∀ x ∈ ids, (Lit.int .u16 x).wf = true) (id : Int) (_ : (Lit.int .i64 id).wf = true) (hT : Tabs w) :
    Calls Tryd.prog 5 #[.agg (cells8 s), .agg (fcells l b A n c), .slice B N cN, .int .i64 id] w fun e w' => e = .returned (.bool true) ∧ Below w.heap.size w w' := by
  have hd := wf8 hd8
  have hi := wf16 hi16
  have HS := Aside0.mk hs
  have HT := Aside0.mk hT
  have HDt := Aside0.mk hD
  have HIt := Aside0.mk hI
  have HDB := Aside0.mk hd
  have HIB := Aside0.mk hi
  have HIL := Aside0.mk (Kd.C_len hI)
  have HSs := Aside0.mk (size32 s hs)
  have HSF := Aside0.mk (sizeF l b A n c)
  obtain ⟨wa, hwa⟩ : ∃ x, x = (w.alloc (.cells (cells8 s) 23)).alloc (.cells (fcells l b A n c) 26) := ⟨_, rfl⟩
  have HA0 : Aside0 (wa.heap[w.heap.size]? = some (.cells (cells8 s) 23 (0, 0))) := ⟨by rw [hwa]; exact heap_alloc2_old _ _ _⟩
  have HA1 : Aside0 (wa.heap[w.heap.size + 1]? = some (.cells (fcells l b A n c) 26 (0, 0))) := ⟨by rw [hwa]; exact heap_alloc2_new _ _ _⟩
  have HBa : Aside0 (Below w.heap.size w wa) := ⟨by rw [hwa]; exact below_alloc (below_alloc (Below.refl _ _) _) _⟩
  have HWA := Aside0.mk hwa
  obtain ⟨fc, hfc⟩ : ∃ z, z = fcells l b A n c := ⟨_, rfl⟩
  have HFC := Aside0.mk hfc
  rw [← hfc] at HA1 HSF HWA ⊢
  clear hs hD hd hd8 hi hi16 hI hwa hfc hT
  go_enter Tryd.func5, Tryd.ntmps5
  go_wp2_with fail
  rw [← HWA.out]
  refine (sane_calls wa (HT.out.below HBa.out)).mono ?_
  rintro e w1 ⟨rfl, hb1⟩
  have HB1 : Aside0 (Below w.heap.size w w1) := ⟨HBa.out.trans (hb1.mono HBa.out.size)⟩
  have H10 := Aside0.mk (blk_of_below HA0.out hb1)
  have H11 := Aside0.mk (blk_of_below HA1.out hb1)
  have f2 : w1.cell? ⟨w.heap.size + 1, 2, none⟩ = some (.slice A n c) := (blk_cell H11.out 2).trans (by rw [HFC.out]; rfl)
  clear hb1 HA0 HA1 HBa HWA
  by_cases h600 : 600 < n
  · have c1 := eq_true (show (600 : Int) < (n : Int) by omega)
    go_wp2_with fail
    go_ret
    exact ⟨rfl, HB1.out⟩
  have c1 := eq_false (show ¬ (600 : Int) < (n : Int) by omega)
  by_cases h40 : 40 < N
  · have c2 := eq_true (show (40 : Int) < (N : Int) by omega)
    go_wp2_with fail
    go_ret
    exact ⟨rfl, HB1.out⟩
  have c2 := eq_false (show ¬ (40 : Int) < (N : Int) by omega)
  have HAD := Aside0.mk (added_calls s HS.out l b A n c data B N cN ids w1 (Kd.C_below HDt.out HB1.out) hc HDB.out (Kd.C_below HIt.out HB1.out) HIB.out (by omega) (HT.out.below HB1.out))
  rw [← HFC.out] at HAD
  go_wp2_with (first
    | (with_reducible refine wpList_load_row rfl 23 (.tmp 4) rfl w.heap.size rfl 23 (cells8 s) (0, 0) _ H10.out Tryd.underlying23 rfl HSs.out ?_)
    | (with_reducible refine wpList_load_row rfl 26 (.tmp 5) rfl (w.heap.size + 1) rfl 26 fc (0, 0) _ H11.out Tryd.underlying26 rfl HSF.out ?_))
  refine HAD.out.mono ?_
  rintro e w2 ⟨A1, n1, c1', rfl, hC2, hc2, hb2⟩
  have HB2 : Aside0 (Below w.heap.size w w2) := ⟨HB1.out.trans (hb2.mono HB1.out.size)⟩
  have H20 := Aside0.mk (blk_of_below H10.out hb2)
  have H21 := Aside0.mk (blk_of_below H11.out hb2)
  obtain ⟨X, hX⟩ : ∃ z, z = addedD s l b data ids := ⟨_, rfl⟩
  rw [← hX] at hC2
  have HX := Aside0.mk hX
  have HXB : Aside0 (Bytes X) := ⟨by rw [hX]; exact addedD_bytes ids HDB.out⟩
  have HXC := Aside0.mk hc2
  have HSX := Aside0.mk (sizeF l b A1 n1 c1')
  have HOX := Aside0.mk (oneF l b A1 n1 c1')
  obtain ⟨xc, hxc⟩ : ∃ z, z = fcells l b A1 n1 c1' := ⟨_, rfl⟩
  rw [← hxc] at HSX HOX ⊢
  have HXX := Aside0.mk hxc
  have HZX : Aside0 (zeroF.size = xc.size) := ⟨by rw [hxc]; rfl⟩
  obtain ⟨w3, hw3, hx3, hb3⟩ := new_row w2 xc
  have HN := Aside0.mk (heap_alloc_new w2 (.cells zeroF 26))
  have HW3 := Aside0.mk hw3
  have HB3 : Aside0 (Below w.heap.size w w3) := ⟨HB2.out.trans (hb3.mono HB2.out.size)⟩
  have H30 := Aside0.mk (blk_of_below H20.out hb3)
  have H31 := Aside0.mk (blk_of_below H21.out hb3)
  have H39 := Aside0.mk hx3
  have HC3 := Aside0.mk (Kd.C_below hC2 hb3)
  have HCK := Aside0.mk (Check_calls l b A n c data w3 (Kd.C_below HDt.out HB3.out) HDB.out)
  rw [filterV_eq, ← HFC.out] at HCK
  clear hb2 hX hC2 hc2 hxc hw3 hx3 hb3 H10 H11 H20 H21 HB1 HB2 HAD f2
  cases hok : okF l b data with
  | false =>
    have hfe : filterE l b data = 330 := by rw [filterE, hok]; rfl
    rw [hfe] at HCK
    have hXd : X = data := by rw [HX.out]; exact addedD_bad ids hok
    rw [hXd] at HC3
    clear hok hfe hXd
    go_wp2_with (first
      | (change wpList _ _ _ _ _ (w2.alloc (.cells zeroF 26)); with_reducible refine wpList_store_row rfl 26 (.tmp 9) (.tmp 26) rfl w2.heap.size xc rfl rfl 26 zeroF HN.out HSX.out HZX.out HOX.out ?_; rw [← HW3.out])
      | (with_reducible refine wpList_load_row rfl 26 (.tmp 5) rfl (w.heap.size + 1) rfl 26 fc (0, 0) _ H31.out Tryd.underlying26 rfl HSF.out ?_))
    refine HCK.out.mono ?_
    rintro e w4 ⟨rfl, hb4⟩
    have HB4 : Aside0 (Below w.heap.size w w4) := ⟨HB3.out.trans (hb4.mono HB3.out.size)⟩
    have H41 := Aside0.mk (blk_of_below H31.out hb4)
    have H49 := Aside0.mk (blk_of_below H39.out hb4)
    have hSM := Same_refl l b A1 n1 c1' A n c data w4 (Kd.C_below HC3.out hb4) HXC.out (Kd.C_below HDt.out HB4.out) hc
    rw [← HXX.out, ← HFC.out] at hSM
    have HSM := Aside0.mk hSM
    clear hb4 hSM
    go_wp2_with (first
      | (with_reducible refine wpList_load_row rfl 26 (.tmp 9) rfl w2.heap.size rfl 26 xc (0, 0) _ H49.out Tryd.underlying26 rfl HSX.out ?_)
      | (with_reducible refine wpList_load_row rfl 26 (.tmp 5) rfl (w.heap.size + 1) rfl 26 fc (0, 0) _ H41.out Tryd.underlying26 rfl HSF.out ?_))
    refine HSM.out.mono ?_
    rintro e w5 ⟨rfl, hb5⟩
    have HB5 : Aside0 (Below w.heap.size w w5) := ⟨HB4.out.trans (hb5.mono HB4.out.size)⟩
    clear hb5
    go_wp2_with fail
    go_ret
    exact ⟨rfl, HB5.out⟩
  | true =>
    have hfe : filterE l b data = 0 := by rw [filterE, hok]; rfl
    rw [hfe] at HCK
    have hokX : okF l b X = true := by rw [HX.out]; exact okF_addedD ids HDB.out hok
    have hfx : filterE l b X = 0 := by rw [filterE, hokX]; rfl
    have HOK := Aside0.mk hok
    have HOKX := Aside0.mk hokX
    clear hok hfe hokX
    go_wp2_with (first
      | (change wpList _ _ _ _ _ (w2.alloc (.cells zeroF 26)); with_reducible refine wpList_store_row rfl 26 (.tmp 9) (.tmp 26) rfl w2.heap.size xc rfl rfl 26 zeroF HN.out HSX.out HZX.out HOX.out ?_; rw [← HW3.out])
      | (with_reducible refine wpList_load_row rfl 26 (.tmp 5) rfl (w.heap.size + 1) rfl 26 fc (0, 0) _ H31.out Tryd.underlying26 rfl HSF.out ?_))
    refine HCK.out.mono ?_
    rintro e w4 ⟨rfl, hb4⟩
    have HB4 : Aside0 (Below w.heap.size w w4) := ⟨HB3.out.trans (hb4.mono HB3.out.size)⟩
    have H40 := Aside0.mk (blk_of_below H30.out hb4)
    have H41 := Aside0.mk (blk_of_below H31.out hb4)
    have H49 := Aside0.mk (blk_of_below H39.out hb4)
    have HC4 := Aside0.mk (Kd.C_below HC3.out hb4)
    have HCX := Aside0.mk (Check_calls l b A1 n1 c1' X w4 HC4.out HXB.out)
    rw [filterV_eq, ← HXX.out, hfx] at HCX
    clear hb4 hfx H30 H31 H39 HC3 HB3 HCK HN HW3
    go_wp2_with (with_reducible refine wpList_load_row rfl 26 (.tmp 9) rfl w2.heap.size rfl 26 xc (0, 0) _ H49.out Tryd.underlying26 rfl HSX.out ?_)
    refine HCX.out.mono ?_
    rintro e w5 ⟨rfl, hb5⟩
    have HB5 : Aside0 (Below w.heap.size w w5) := ⟨HB4.out.trans (hb5.mono HB4.out.size)⟩
    have H50 := Aside0.mk (blk_of_below H40.out hb5)
    have H51 := Aside0.mk (blk_of_below H41.out hb5)
    have H59 := Aside0.mk (blk_of_below H49.out hb5)
    have HC5 := Aside0.mk (Kd.C_below HC4.out hb5)
    have x0 : w5.cell? ⟨w2.heap.size, 0, none⟩ = some (.int .i64 l) := (blk_cell H59.out 0).trans (by rw [HXX.out]; rfl)
    have x1 : w5.cell? ⟨w2.heap.size, 1, none⟩ = some (.int .i64 b) := (blk_cell H59.out 1).trans (by rw [HXX.out]; rfl)
    have y0 : w5.cell? ⟨w.heap.size + 1, 0, none⟩ = some (.int .i64 l) := (blk_cell H51.out 0).trans (by rw [HFC.out]; rfl)
    have y1 : w5.cell? ⟨w.heap.size + 1, 1, none⟩ = some (.int .i64 b) := (blk_cell H51.out 1).trans (by rw [HFC.out]; rfl)
    clear hb5 H40 H41 H49 HC4 HB4 HCX
    go_wp2_with fail
    go_loopw [52] (fun i wr => ∃ j : Nat, j ≤ N ∧ i = .int .i64 (j : Int) ∧ Aside0 (Below w5.heap.size w5 wr)) (fun i _ => N - (intOf i).toNat)
    case atStart => exact ⟨0, by omega, rfl, ⟨Below.refl _ _⟩⟩
    case round =>
      obtain ⟨j, hj, rfl, HBr⟩ := hrel
      have HBw : Aside0 (Below w.heap.size w wr) := ⟨HB5.out.trans (HBr.out.mono HB5.out.size)⟩
      have HR0 := Aside0.mk (blk_of_below H50.out HBr.out)
      have HR1 := Aside0.mk (blk_of_below H51.out HBr.out)
      have HR9 := Aside0.mk (blk_of_below H59.out HBr.out)
      have HRC := Aside0.mk (Kd.C_below HC5.out HBr.out)
      by_cases hlt : j < N
      · have c14 : decide ((j : Int) < (N : Int)) = true := decide_eq_true (by omega)
        have p1 := eq_true (show 0 ≤ (j : Int) by omega)
        have p2 := eq_true (show (j : Int) < (N : Int) by omega)
        obtain ⟨bd, rfl, hid⟩ := Kd.at_int (Kd.C_below HIt.out HBw.out) (j : Int) (by omega) (by omega)
        rw [Int.toNat_natCast] at hid
        have hmem : rd ids (j : Int) ∈ ids := by
          have : j < ids.length := by rw [HIL.out]; exact hlt
          simp [rd, List.getD, this]
        obtain ⟨k, hkk⟩ : ∃ z, z = rd ids (j : Int) := ⟨_, rfl⟩
        rw [← hkk] at hid hmem
        have hkr := HIB.out k hmem
        have hwk : wrap64 k = k := by unfold wrap64; omega
        have HM := Aside0.mk hmem
        clear hkk hmem x0 x1 y0 y1
        by_cases hk : k < 1024
        · have c3 := eq_true hk
          have hh := has_calls s HS.out l b A1 n1 c1' X k wr HRC.out HXB.out (HT.out.below HBw.out)
          rw [← HXX.out, show hasL s l b k X = true by rw [HX.out]; exact hasL_mem ids HDB.out HOK.out k HM.out hkr.1 hk] at hh
          have HHH := Aside0.mk hh
          clear hh
          go_wp2_with (first
            | (refine wpList_on (by rfl) (load_run 23 (.tmp 4) rfl w.heap.size rfl 23 (cells8 s) (0, 0) _ HR0.out Tryd.underlying23 rfl HSs.out) ?_)
            | (refine wpList_on (by rfl) (load_run 26 (.tmp 9) rfl w2.heap.size rfl 26 xc (0, 0) _ HR9.out Tryd.underlying26 rfl HSX.out) ?_))
          refine HHH.out.mono ?_
          rintro e w6 ⟨rfl, hb6⟩
          have HB6 : Aside0 (Below w5.heap.size w5 w6) := ⟨HBr.out.trans (hb6.mono HBr.out.size)⟩
          clear hb6
          go_wp2_with fail
          go_roundw
          case rel => exact ⟨j + 1, by omega, by push_cast; rfl, HB6⟩
          case measure => show N - ((j : Int) + 1).toNat < N - ((j : Int)).toNat; omega
        · have c3 := eq_false hk
          go_wp2_with fail
          go_roundw
          case rel => exact ⟨j + 1, by omega, by push_cast; rfl, HBr⟩
          case measure => show N - ((j : Int) + 1).toNat < N - ((j : Int)).toNat; omega
      · obtain rfl : j = N := by omega
        have hh := has_calls s HS.out l b A n c data id wr (Kd.C_below HDt.out HBw.out) HDB.out (HT.out.below HBw.out)
        rw [← HFC.out] at hh
        have HHH := Aside0.mk hh
        clear hh x0 x1 y0 y1
        cases hq : hasL s l b id data with
        | false =>
          rw [hq] at HHH
          clear hq
          go_wp2_with (first
            | (with_reducible refine wpList_load_row rfl 23 (.tmp 4) rfl w.heap.size rfl 23 (cells8 s) (0, 0) _ HR0.out Tryd.underlying23 rfl HSs.out ?_)
            | (with_reducible refine wpList_load_row rfl 26 (.tmp 5) rfl (w.heap.size + 1) rfl 26 fc (0, 0) _ HR1.out Tryd.underlying26 rfl HSF.out ?_))
          refine HHH.out.mono ?_
          rintro e w6 ⟨rfl, hb6⟩
          have HB6 : Aside0 (Below w.heap.size w w6) := ⟨HBw.out.trans (hb6.mono HBw.out.size)⟩
          clear hb6
          go_wp2_with fail
          go_ret
          exact ⟨rfl, HB6.out⟩
        | true =>
          rw [hq] at HHH
          have hqx : hasL s l b id X = true := by rw [HX.out]; exact hasL_addedD ids HDB.out hq
          clear hq
          go_wp2_with (first
            | (with_reducible refine wpList_load_row rfl 23 (.tmp 4) rfl w.heap.size rfl 23 (cells8 s) (0, 0) _ HR0.out Tryd.underlying23 rfl HSs.out ?_)
            | (with_reducible refine wpList_load_row rfl 26 (.tmp 5) rfl (w.heap.size + 1) rfl 26 fc (0, 0) _ HR1.out Tryd.underlying26 rfl HSF.out ?_))
          refine HHH.out.mono ?_
          rintro e w6 ⟨rfl, hb6⟩
          have HB6 : Aside0 (Below w.heap.size w w6) := ⟨HBw.out.trans (hb6.mono HBw.out.size)⟩
          have H60 := Aside0.mk (blk_of_below HR0.out hb6)
          have H69 := Aside0.mk (blk_of_below HR9.out hb6)
          have hh := has_calls s HS.out l b A1 n1 c1' X id w6 (Kd.C_below HRC.out hb6) HXB.out (HT.out.below HB6.out)
          rw [← HXX.out, hqx] at hh
          have HH2 := Aside0.mk hh
          clear hh hb6 hqx
          go_wp2_with (first
            | (refine wpList_on (by rfl) (load_run 23 (.tmp 4) rfl w.heap.size rfl 23 (cells8 s) (0, 0) _ H60.out Tryd.underlying23 rfl HSs.out) ?_)
            | (refine wpList_on (by rfl) (load_run 26 (.tmp 9) rfl w2.heap.size rfl 26 xc (0, 0) _ H69.out Tryd.underlying26 rfl HSX.out) ?_))
          refine HH2.out.mono ?_
          rintro e w7 ⟨rfl, hb7⟩
          have HB7 : Aside0 (Below w.heap.size w w7) := ⟨HB6.out.trans (hb7.mono HB6.out.size)⟩
          clear hb7
          go_wp2_with fail
          go_ret
          exact ⟨rfl, HB7.out⟩
end Go.Proofs.YtgiofinekmaceaaDoor.Q
