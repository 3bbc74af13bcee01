/- the law ChainsSigned -/
import Derived.Test.YtkpfnbliideeeaaDoorCh
namespace Go.Proofs.YtkpfnbliideeeaaDoor.Q
open Go.RowKit Go.Shelf Go.Proofs.YtkpfnbliideeeaaDoorW.PrintWords Go.Proofs.YtkpfnbliideeeaaDoorW.PrintLast Go.Proofs.YtkpfnbliideeeaaDoorW.PrintMore
set_option linter.unusedVariables false
set_option linter.unusedSimpArgs false
set_option maxHeartbeats 1000000 in
theorem Signed_calls (d m o : List Int) (hd : d.length = 32) (hm : m.length = 32) (ho : o.length = 32) (w : World) (hT : Tabs w) :
    Calls Tryd.prog 4 #[.agg (cells8 d), .agg (cells8 m), .agg (cells8 o)] w fun e w' => e = .returned (.bool true) ∧ Below w.heap.size w w' := by
  have HD := Aside0.mk hd
  have HM := Aside0.mk hm
  have HO := Aside0.mk ho
  have HT := Aside0.mk hT
  have HSd := Aside0.mk (size32 d hd)
  have HSm := Aside0.mk (size32 m hm)
  have HSo := Aside0.mk (size32 o ho)
  clear hd hm ho hT
  obtain ⟨wa, hwa⟩ : ∃ x, x = ((w.alloc (.cells (cells8 d) 23)).alloc (.cells (cells8 m) 23)).alloc (.cells (cells8 o) 23) := ⟨_, rfl⟩
  have HA0 : Aside0 (wa.heap[w.heap.size]? = some (.cells (cells8 d) 23 (0, 0))) := ⟨by rw [hwa]; exact blk_alloc (blk_alloc (heap_alloc_new _ _) _) _⟩
  have HA1 : Aside0 (wa.heap[w.heap.size + 1]? = some (.cells (cells8 m) 23 (0, 0))) := ⟨by rw [hwa]; exact blk_alloc (heap_alloc2_new w (.cells (cells8 d) 23) (.cells (cells8 m) 23)) _⟩
  have HA2 : Aside0 (wa.heap[w.heap.size + 1 + 1]? = some (.cells (cells8 o) 23 (0, 0))) := ⟨by rw [hwa]; have h := heap_alloc_new ((w.alloc (.cells (cells8 d) 23)).alloc (.cells (cells8 m) 23)) (.cells (cells8 o) 23); simp only [World.size_alloc] at h; exact h⟩
  have HBa : Aside0 (Below w.heap.size w wa) := ⟨by rw [hwa]; exact below_alloc (below_alloc (below_alloc (Below.refl _ _) _) _) _⟩
  have HWA := Aside0.mk hwa
  clear hwa
  go_enter Tryd.func4, Tryd.ntmps4
  go_wp2_with fail
  rw [← HWA.out]
  refine (sane_calls wa (HT.out.below HBa.out)).mono ?_
  rintro e w1 ⟨rfl, hb1⟩
  have HB1 : Aside0 (Below w.heap.size w w1) := ⟨HBa.out.trans (hb1.mono HBa.out.size)⟩
  have H10 := Aside0.mk (blk_of_below HA0.out hb1)
  have H11 := Aside0.mk (blk_of_below HA1.out hb1)
  have H12 := Aside0.mk (blk_of_below HA2.out hb1)
  clear hb1 HA0 HA1 HA2 HBa HWA
  go_wp2_with (first
    | (with_reducible refine wpList_load_row rfl 23 (.tmp 3) rfl w.heap.size rfl 23 (cells8 d) (0, 0) _ H10.out Tryd.underlying23 rfl HSd.out ?_)
    | (with_reducible refine wpList_load_row rfl 23 (.tmp 4) rfl (w.heap.size + 1) rfl 23 (cells8 m) (0, 0) _ H11.out Tryd.underlying23 rfl HSm.out ?_))
  refine (Sign_calls d m HD.out HM.out w1 (HT.out.below HB1.out)).mono ?_
  rintro e w2 ⟨v, rfl, hR, hb2⟩
  obtain ⟨A5, c5, rfl, hc5, hC5⟩ := Kd.R_reads hR
  rw [signD_length] at hc5 hC5
  rw [signD_length]
  have HB2 : Aside0 (Below w.heap.size w w2) := ⟨HB1.out.trans (hb2.mono HB1.out.size)⟩
  have H20 := Aside0.mk (blk_of_below H10.out hb2)
  have H21 := Aside0.mk (blk_of_below H11.out hb2)
  have H22 := Aside0.mk (blk_of_below H12.out hb2)
  have hrec := recover_sign d m
  have hre : recoverE (signD d m) = 0 := by rw [recoverE, if_pos (signD_length d m)]
  have hpl := publicD_length d
  have hv1 := verify_sign d m (publicD d)
  rw [beq_self_eq_true] at hv1
  have hv2 : verifyD o m (signD d m) = (o == publicD d) := by rw [verify_sign, BEq.comm]
  have HPC := Aside0.mk (fun w' h => Public_calls d HD.out w' h)
  have HRC := Aside0.mk (fun w' h1 h2 => Recover_calls m HM.out A5 19 c5 (signD d m) (by omega) hc5 w' h1 h2)
  obtain ⟨p, hp⟩ : ∃ p, p = publicD d := ⟨_, rfl⟩
  rw [hrec, hre] at HRC
  rw [← hp] at hpl hv1 hv2 HPC HRC
  have HV1 := Aside0.mk hv1
  have HV2 := Aside0.mk hv2
  obtain ⟨s, hs⟩ : ∃ s, s = signD d m := ⟨_, rfl⟩
  rw [← hs] at hC5 HV1 HV2 HRC
  have HC2 := Aside0.mk hC5
  clear hR hb2 H10 H11 H12 hrec hre hv1 hv2 hp hs hC5 HB1
  go_wp2_with (with_reducible refine wpList_load_row rfl 23 (.tmp 4) rfl (w.heap.size + 1) rfl 23 (cells8 m) (0, 0) _ H21.out Tryd.underlying23 rfl HSm.out ?_)
  refine (HRC.out w2 HC2.out (HT.out.below HB2.out)).mono ?_
  rintro e w3 ⟨rfl, hb3⟩
  have HN := Aside0.mk (heap_alloc_new w3 (.cells #[.int .u8 0, .int .u8 0, .int .u8 0, .int .u8 0, .int .u8 0, .int .u8 0, .int .u8 0, .int .u8 0, .int .u8 0, .int .u8 0, .int .u8 0, .int .u8 0, .int .u8 0, .int .u8 0, .int .u8 0, .int .u8 0, .int .u8 0, .int .u8 0, .int .u8 0, .int .u8 0, .int .u8 0, .int .u8 0, .int .u8 0, .int .u8 0, .int .u8 0, .int .u8 0, .int .u8 0, .int .u8 0, .int .u8 0, .int .u8 0, .int .u8 0, .int .u8 0] 23))
  have HSp := Aside0.mk (size32 p hpl)
  have HOp : Aside0 ((#[.int .u8 0, .int .u8 0, .int .u8 0, .int .u8 0, .int .u8 0, .int .u8 0, .int .u8 0, .int .u8 0, .int .u8 0, .int .u8 0, .int .u8 0, .int .u8 0, .int .u8 0, .int .u8 0, .int .u8 0, .int .u8 0, .int .u8 0, .int .u8 0, .int .u8 0, .int .u8 0, .int .u8 0, .int .u8 0, .int .u8 0, .int .u8 0, .int .u8 0, .int .u8 0, .int .u8 0, .int .u8 0, .int .u8 0, .int .u8 0, .int .u8 0, .int .u8 0] : Array Value).size = (cells8 p).size) := ⟨by rw [cells8_size, hpl]; rfl⟩
  have hbX : Below w2.heap.size w2 ((w3.alloc (.cells #[.int .u8 0, .int .u8 0, .int .u8 0, .int .u8 0, .int .u8 0, .int .u8 0, .int .u8 0, .int .u8 0, .int .u8 0, .int .u8 0, .int .u8 0, .int .u8 0, .int .u8 0, .int .u8 0, .int .u8 0, .int .u8 0, .int .u8 0, .int .u8 0, .int .u8 0, .int .u8 0, .int .u8 0, .int .u8 0, .int .u8 0, .int .u8 0, .int .u8 0, .int .u8 0, .int .u8 0, .int .u8 0, .int .u8 0, .int .u8 0, .int .u8 0, .int .u8 0] 23)).setRow w3.heap.size (cells8 p)) := below_setRow (below_alloc hb3 _) hb3.size _
  go_wp2_with (with_reducible refine wpList_store_row rfl 23 (.tmp 8) (.tmp 19) rfl w3.heap.size (cells8 p) rfl rfl 23 #[.int .u8 0, .int .u8 0, .int .u8 0, .int .u8 0, .int .u8 0, .int .u8 0, .int .u8 0, .int .u8 0, .int .u8 0, .int .u8 0, .int .u8 0, .int .u8 0, .int .u8 0, .int .u8 0, .int .u8 0, .int .u8 0, .int .u8 0, .int .u8 0, .int .u8 0, .int .u8 0, .int .u8 0, .int .u8 0, .int .u8 0, .int .u8 0, .int .u8 0, .int .u8 0, .int .u8 0, .int .u8 0, .int .u8 0, .int .u8 0, .int .u8 0, .int .u8 0] HN.out HSp.out HOp.out (all_one8 _) ?_)
  obtain ⟨wX, hwX⟩ : ∃ x, x = (w3.alloc (.cells #[.int .u8 0, .int .u8 0, .int .u8 0, .int .u8 0, .int .u8 0, .int .u8 0, .int .u8 0, .int .u8 0, .int .u8 0, .int .u8 0, .int .u8 0, .int .u8 0, .int .u8 0, .int .u8 0, .int .u8 0, .int .u8 0, .int .u8 0, .int .u8 0, .int .u8 0, .int .u8 0, .int .u8 0, .int .u8 0, .int .u8 0, .int .u8 0, .int .u8 0, .int .u8 0, .int .u8 0, .int .u8 0, .int .u8 0, .int .u8 0, .int .u8 0, .int .u8 0] 23)).setRow w3.heap.size (cells8 p) := ⟨_, rfl⟩
  have H8 : Aside0 (wX.heap[w3.heap.size]? = some (.cells (cells8 p) 23 (0, 0))) := ⟨by rw [hwX]; exact setRow_heap _ _ _ _ _ _ HN.out⟩
  rw [← hwX] at hbX ⊢
  obtain ⟨B8, hB8⟩ : ∃ x, x = w3.heap.size := ⟨_, rfl⟩
  obtain ⟨b, hb⟩ : ∃ x, x = w.heap.size := ⟨_, rfl⟩
  have H0 := Aside0.mk (blk_of_below H20.out hbX)
  have H1 := Aside0.mk (blk_of_below H21.out hbX)
  have H2 := Aside0.mk (blk_of_below H22.out hbX)
  have HC5 := Aside0.mk (Kd.C_below HC2.out hbX)
  have HBX : Aside0 (Below w.heap.size w wX) := ⟨HB2.out.trans (hbX.mono HB2.out.size)⟩
  have HTX := Aside0.mk (HT.out.below HBX.out)
  rw [← hb] at H0 H1 H2 ⊢
  rw [← hB8] at H8 ⊢
  have hEq1 := fun w' => eq_dig w' p p hpl hpl
  have hEq2 := fun w' => eq_dig w' o p HO.out hpl
  rw [show (p == p) = true from by simp] at hEq1
  clear hwX hbX hb3 HN HOp HB2 hB8 H20 H21 H22 HC2 HRC
  have hbH2 := Aside0.mk hb
  clear hb
  refine start_ (n := 25) (S := fun W => W.heap[B8]? = some (.cells (cells8 p) 23 (0, 0)) ∧ W.heap[b]? = some (.cells (cells8 d) 23 (0, 0)) ∧ W.heap[b + 1]? = some (.cells (cells8 m) 23 (0, 0)) ∧ W.heap[b + 1 + 1]? = some (.cells (cells8 o) 23 (0, 0)) ∧ Below wX.heap.size wX W) (ds := []) #[false, false, false, false, false, false, false, false, false, false, false, false, false, false, false, false, false, false, false, false, false, false, false, false, false] (by kernel_rfl) rfl rfl (⟨H8.out, H0.out, H1.out, H2.out, below_drew (Below.refl _ _)⟩) (fun hHeld => ?_)
  refine pure_ (i := 0) (N := some 21) (v := ?_) (a' := ?_) #[true, false, false, false, false, false, false, false, false, false, false, false, false, false, false, false, false, false, false, false, false, false, false, false, false] rfl rfl (by kernel_rfl) (fun _ _ _ h => h) (Or.inl ⟨by rfl, ?_⟩) ?_ ?_
  rotate_left
  · intro w'
    go_simp
    with_reducible rfl
  rotate_left
  · simp only [Act.put, List.setIfInBounds_toArray, List.set_cons_zero, List.set_cons_succ, i64_w, i32_w]
    rfl
  refine pure_ (i := 1) (N := some 22) (v := ?_) (a' := ?_) #[true, true, false, false, false, false, false, false, false, false, false, false, false, false, false, false, false, false, false, false, false, false, false, false, false] rfl rfl (by kernel_rfl) (fun _ _ _ h => h) (Or.inl ⟨by rfl, ?_⟩) ?_ ?_
  rotate_left
  · intro w'
    go_simp
    with_reducible rfl
  rotate_left
  · simp only [Act.put, List.setIfInBounds_toArray, List.set_cons_zero, List.set_cons_succ, i64_w, i32_w]
    rfl
  refine pure_ (i := 2) (N := some 23) (v := ?_) (a' := ?_) #[true, true, true, false, false, false, false, false, false, false, false, false, false, false, false, false, false, false, false, false, false, false, false, false, false] rfl rfl (by kernel_rfl) (fun _ _ _ h => h) (Or.inl ⟨by rfl, ?_⟩) ?_ ?_
  rotate_left
  · intro w'
    go_simp
    with_reducible rfl
  rotate_left
  · simp only [Act.put, List.setIfInBounds_toArray, List.set_cons_zero, List.set_cons_succ, i64_w, i32_w]
    rfl
  refine take_ (i := 3) (N := some 24) (v := .agg (cells8 p)) (a' := ?_) #[true, true, true, true, false, false, false, false, false, false, false, false, false, false, false, false, false, false, false, false, false, false, false, false, false] rfl rfl (by kernel_rfl) (fun _ _ _ h => h) (Or.inl ⟨by rfl, fun w' s0 => load_run 23 (.tmp 8) rfl B8 rfl 23 _ (0, 0) _ s0.1 Tryd.underlying23 rfl (size32 _ hpl)⟩) hHeld ?_ ?_
  rotate_left
  · simp only [Act.put, List.setIfInBounds_toArray, List.set_cons_zero, List.set_cons_succ, i64_w, i32_w]
    rfl
  refine take_ (i := 4) (N := some 25) (v := .agg (cells8 d)) (a' := ?_) #[true, true, true, true, true, false, false, false, false, false, false, false, false, false, false, false, false, false, false, false, false, false, false, false, false] rfl rfl (by kernel_rfl) (fun _ _ _ h => h) (Or.inl ⟨by rfl, fun w' s0 => load_run 23 (.tmp 3) rfl b rfl 23 _ (0, 0) _ s0.2.1 Tryd.underlying23 rfl (size32 _ HD.out)⟩) hHeld ?_ ?_
  rotate_left
  · simp only [Act.put, List.setIfInBounds_toArray, List.set_cons_zero, List.set_cons_succ, i64_w, i32_w]
    rfl
  refine one_ (i := 5) (N := some 26) #[true, true, true, true, true, true, false, false, false, false, false, false, false, false, false, false, false, false, false, false, false, false, false, false, false] rfl rfl (by kernel_rfl) (by decide) (fun K hK => ?_)
  refine goes_ Tryd.func15 (by kernel_rfl) rfl #[.agg (cells8 d)] (by rfl) rfl rfl (by (try simp only [List.map_toArray, List.map_cons, List.map_nil]); first | done | rfl) ?_
  refine (HPC.out _ (HTX.out.below hHeld.2.2.2.2)).mono ?_
  rintro e wY ⟨rfl, hbH⟩
  refine ⟨_, rfl, ?_⟩
  refine hK.out _ _ (⟨blk_of_below hHeld.1 hbH, blk_of_below hHeld.2.1 hbH, blk_of_below hHeld.2.2.1 hbH, blk_of_below hHeld.2.2.2.1 hbH, hHeld.2.2.2.2.trans (hbH.mono hHeld.2.2.2.2.size)⟩) (fun hNew => ?_)
  clear hHeld hK K
  have hHeld := hNew
  clear hNew
  refine norm_ (a' := ?_) ?_ ?_
  rotate_left
  · show Act.put _ (some 26) _ = _
    simp only [Act.put, List.setIfInBounds_toArray, List.set_cons_zero, List.set_cons_succ, i64_w, i32_w]
    rfl
  refine pure_ (i := 6) (N := some 27) (v := ?_) (a' := ?_) #[true, true, true, true, true, true, true, false, false, false, false, false, false, false, false, false, false, false, false, false, false, false, false, false, false] rfl rfl (by kernel_rfl) (fun _ _ _ h => h) (Or.inl ⟨by rfl, ?_⟩) ?_ ?_
  rotate_left
  · intro w'
    go_simp
    with_reducible rfl
  rotate_left
  · simp only [Act.put, List.setIfInBounds_toArray, List.set_cons_zero, List.set_cons_succ, i64_w, i32_w]
    rfl
  refine pure_ (i := 7) (N := some 28) (v := ?_) (a' := ?_) #[true, true, true, true, true, true, true, true, false, false, false, false, false, false, false, false, false, false, false, false, false, false, false, false, false] rfl rfl (by kernel_rfl) (fun _ _ _ h => h) (Or.inl ⟨by rfl, ?_⟩) ?_ ?_
  rotate_left
  · intro w'
    go_simp
    with_reducible rfl
  rotate_left
  · simp only [Act.put, List.setIfInBounds_toArray, List.set_cons_zero, List.set_cons_succ, i64_w, i32_w]
    rfl
  refine pure_ (i := 8) (N := some 29) (v := ?_) (a' := ?_) #[true, true, true, true, true, true, true, true, true, false, false, false, false, false, false, false, false, false, false, false, false, false, false, false, false] rfl rfl (by kernel_rfl) (fun _ _ _ h => h) (Or.inl ⟨by rfl, ?_⟩) ?_ ?_
  rotate_left
  · intro w'
    go_simp
    with_reducible rfl
  rotate_left
  · simp only [Act.put, List.setIfInBounds_toArray, List.set_cons_zero, List.set_cons_succ, i64_w, i32_w]
    rfl
  refine take_ (i := 9) (N := some 30) (v := .agg (cells8 p)) (a' := ?_) #[true, true, true, true, true, true, true, true, true, true, false, false, false, false, false, false, false, false, false, false, false, false, false, false, false] rfl rfl (by kernel_rfl) (fun _ _ _ h => h) (Or.inl ⟨by rfl, fun w' s0 => load_run 23 (.tmp 8) rfl B8 rfl 23 _ (0, 0) _ s0.1 Tryd.underlying23 rfl (size32 _ hpl)⟩) hHeld ?_ ?_
  rotate_left
  · simp only [Act.put, List.setIfInBounds_toArray, List.set_cons_zero, List.set_cons_succ, i64_w, i32_w]
    rfl
  refine take_ (i := 10) (N := some 31) (v := .agg (cells8 m)) (a' := ?_) #[true, true, true, true, true, true, true, true, true, true, true, false, false, false, false, false, false, false, false, false, false, false, false, false, false] rfl rfl (by kernel_rfl) (fun _ _ _ h => h) (Or.inl ⟨by rfl, fun w' s0 => load_run 23 (.tmp 4) rfl (b + 1) rfl 23 _ (0, 0) _ s0.2.2.1 Tryd.underlying23 rfl (size32 _ HM.out)⟩) hHeld ?_ ?_
  rotate_left
  · simp only [Act.put, List.setIfInBounds_toArray, List.set_cons_zero, List.set_cons_succ, i64_w, i32_w]
    rfl
  refine pure_ (i := 11) (N := some 32) (v := ?_) (a' := ?_) #[true, true, true, true, true, true, true, true, true, true, true, true, false, false, false, false, false, false, false, false, false, false, false, false, false] rfl rfl (by kernel_rfl) (fun _ _ _ h => h) (Or.inl ⟨by rfl, ?_⟩) ?_ ?_
  rotate_left
  · intro w'
    go_simp
    with_reducible rfl
  rotate_left
  · simp only [Act.put, List.setIfInBounds_toArray, List.set_cons_zero, List.set_cons_succ, i64_w, i32_w]
    rfl
  refine one_ (i := 12) (N := some 33) #[true, true, true, true, true, true, true, true, true, true, true, true, true, false, false, false, false, false, false, false, false, false, false, false, false] rfl rfl (by kernel_rfl) (by decide) (fun K hK => ?_)
  refine goes_ Tryd.func16 (by kernel_rfl) rfl #[.agg (cells8 p), .agg (cells8 m), .slice A5 19 c5] (by rfl) rfl rfl (by (try simp only [List.map_toArray, List.map_cons, List.map_nil]); first | done | rfl) ?_
  refine (Verify_calls p m hpl HM.out A5 19 c5 _ (by omega) hc5 _ (Kd.C_below HC5.out hHeld.2.2.2.2) (HTX.out.below hHeld.2.2.2.2)).mono ?_
  rintro e wY ⟨rfl, hbH⟩
  rw [HV1.out]
  refine ⟨_, rfl, ?_⟩
  refine hK.out _ _ (⟨blk_of_below hHeld.1 hbH, blk_of_below hHeld.2.1 hbH, blk_of_below hHeld.2.2.1 hbH, blk_of_below hHeld.2.2.2.1 hbH, hHeld.2.2.2.2.trans (hbH.mono hHeld.2.2.2.2.size)⟩) (fun hNew => ?_)
  clear hHeld hK K
  have hHeld := hNew
  clear hNew
  refine norm_ (a' := ?_) ?_ ?_
  rotate_left
  · show Act.put _ (some 33) _ = _
    simp only [Act.put, List.setIfInBounds_toArray, List.set_cons_zero, List.set_cons_succ, i64_w, i32_w]
    rfl
  refine pure_ (i := 13) (N := some 34) (v := ?_) (a' := ?_) #[true, true, true, true, true, true, true, true, true, true, true, true, true, true, false, false, false, false, false, false, false, false, false, false, false] rfl rfl (by kernel_rfl) (fun _ _ _ h => h) (Or.inl ⟨by rfl, ?_⟩) ?_ ?_
  rotate_left
  · intro w'
    go_simp
    with_reducible rfl
  rotate_left
  · simp only [Act.put, List.setIfInBounds_toArray, List.set_cons_zero, List.set_cons_succ, i64_w, i32_w]
    rfl
  refine pure_ (i := 14) (N := some 35) (v := ?_) (a' := ?_) #[true, true, true, true, true, true, true, true, true, true, true, true, true, true, true, false, false, false, false, false, false, false, false, false, false] rfl rfl (by kernel_rfl) (fun _ _ _ h => h) (Or.inl ⟨by rfl, ?_⟩) ?_ ?_
  rotate_left
  · intro w'
    go_simp
    with_reducible rfl
  rotate_left
  · simp only [Act.put, List.setIfInBounds_toArray, List.set_cons_zero, List.set_cons_succ, i64_w, i32_w]
    rfl
  refine take_ (i := 15) (N := some 36) (v := .agg (cells8 o)) (a' := ?_) #[true, true, true, true, true, true, true, true, true, true, true, true, true, true, true, true, false, false, false, false, false, false, false, false, false] rfl rfl (by kernel_rfl) (fun _ _ _ h => h) (Or.inl ⟨by rfl, fun w' s0 => load_run 23 (.tmp 5) rfl (b + 1 + 1) rfl 23 _ (0, 0) _ s0.2.2.2.1 Tryd.underlying23 rfl (size32 _ HO.out)⟩) hHeld ?_ ?_
  rotate_left
  · simp only [Act.put, List.setIfInBounds_toArray, List.set_cons_zero, List.set_cons_succ, i64_w, i32_w]
    rfl
  refine take_ (i := 16) (N := some 37) (v := .agg (cells8 m)) (a' := ?_) #[true, true, true, true, true, true, true, true, true, true, true, true, true, true, true, true, true, false, false, false, false, false, false, false, false] rfl rfl (by kernel_rfl) (fun _ _ _ h => h) (Or.inl ⟨by rfl, fun w' s0 => load_run 23 (.tmp 4) rfl (b + 1) rfl 23 _ (0, 0) _ s0.2.2.1 Tryd.underlying23 rfl (size32 _ HM.out)⟩) hHeld ?_ ?_
  rotate_left
  · simp only [Act.put, List.setIfInBounds_toArray, List.set_cons_zero, List.set_cons_succ, i64_w, i32_w]
    rfl
  refine pure_ (i := 17) (N := some 38) (v := ?_) (a' := ?_) #[true, true, true, true, true, true, true, true, true, true, true, true, true, true, true, true, true, true, false, false, false, false, false, false, false] rfl rfl (by kernel_rfl) (fun _ _ _ h => h) (Or.inl ⟨by rfl, ?_⟩) ?_ ?_
  rotate_left
  · intro w'
    go_simp
    with_reducible rfl
  rotate_left
  · simp only [Act.put, List.setIfInBounds_toArray, List.set_cons_zero, List.set_cons_succ, i64_w, i32_w]
    rfl
  refine take_ (i := 19) (N := some 40) (v := .agg (cells8 o)) (a' := ?_) #[true, true, true, true, true, true, true, true, true, true, true, true, true, true, true, true, true, true, false, true, false, false, false, false, false] rfl rfl (by kernel_rfl) (fun _ _ _ h => h) (Or.inl ⟨by rfl, fun w' s0 => load_run 23 (.tmp 5) rfl (b + 1 + 1) rfl 23 _ (0, 0) _ s0.2.2.2.1 Tryd.underlying23 rfl (size32 _ HO.out)⟩) hHeld ?_ ?_
  rotate_left
  · simp only [Act.put, List.setIfInBounds_toArray, List.set_cons_zero, List.set_cons_succ, i64_w, i32_w]
    rfl
  refine take_ (i := 20) (N := some 41) (v := .agg (cells8 p)) (a' := ?_) #[true, true, true, true, true, true, true, true, true, true, true, true, true, true, true, true, true, true, false, true, true, false, false, false, false] rfl rfl (by kernel_rfl) (fun _ _ _ h => h) (Or.inl ⟨by rfl, fun w' s0 => load_run 23 (.tmp 8) rfl B8 rfl 23 _ (0, 0) _ s0.1 Tryd.underlying23 rfl (size32 _ hpl)⟩) hHeld ?_ ?_
  rotate_left
  · simp only [Act.put, List.setIfInBounds_toArray, List.set_cons_zero, List.set_cons_succ, i64_w, i32_w]
    rfl
  refine pure_ (i := 21) (N := some 42) (v := ?_) (a' := ?_) #[true, true, true, true, true, true, true, true, true, true, true, true, true, true, true, true, true, true, false, true, true, true, false, false, false] rfl rfl (by kernel_rfl) (fun _ _ _ h => h) (Or.inl ⟨by rfl, ?_⟩) ?_ ?_
  rotate_left
  · intro w'
    go_simp
    with_reducible rfl
  rotate_left
  · simp only [Act.put, List.setIfInBounds_toArray, List.set_cons_zero, List.set_cons_succ, i64_w, i32_w]
    rfl
  refine one_ (i := 18) (N := some 39) #[true, true, true, true, true, true, true, true, true, true, true, true, true, true, true, true, true, true, true, true, true, true, false, false, false] rfl rfl (by kernel_rfl) (by decide) (fun K hK => ?_)
  refine goes_ Tryd.func16 (by kernel_rfl) rfl #[.agg (cells8 o), .agg (cells8 m), .slice A5 19 c5] (by rfl) rfl rfl (by (try simp only [List.map_toArray, List.map_cons, List.map_nil]); first | done | rfl) ?_
  refine (Verify_calls o m HO.out HM.out A5 19 c5 _ (by omega) hc5 _ (Kd.C_below HC5.out hHeld.2.2.2.2) (HTX.out.below hHeld.2.2.2.2)).mono ?_
  rintro e wY ⟨rfl, hbH⟩
  rw [HV2.out]
  refine ⟨_, rfl, ?_⟩
  refine hK.out _ _ (⟨blk_of_below hHeld.1 hbH, blk_of_below hHeld.2.1 hbH, blk_of_below hHeld.2.2.1 hbH, blk_of_below hHeld.2.2.2.1 hbH, hHeld.2.2.2.2.trans (hbH.mono hHeld.2.2.2.2.size)⟩) (fun hNew => ?_)
  clear hHeld hK K
  have hHeld := hNew
  clear hNew
  refine norm_ (a' := ?_) ?_ ?_
  rotate_left
  · show Act.put _ (some 39) _ = _
    simp only [Act.put, List.setIfInBounds_toArray, List.set_cons_zero, List.set_cons_succ, i64_w, i32_w]
    rfl
  refine pure_ (i := 22) (N := some 43) (v := ?_) (a' := ?_) #[true, true, true, true, true, true, true, true, true, true, true, true, true, true, true, true, true, true, true, true, true, true, true, false, false] rfl rfl (by kernel_rfl) (fun _ _ _ h => h) (Or.inl ⟨by rfl, ?_⟩) ?_ ?_
  rotate_left
  · intro w'
    go_simp
    with_reducible rfl
  rotate_left
  · simp only [Act.put, List.setIfInBounds_toArray, List.set_cons_zero, List.set_cons_succ, i64_w, i32_w]
    rfl
  refine pure_ (i := 23) (N := some 44) (v := ?_) (a' := ?_) #[true, true, true, true, true, true, true, true, true, true, true, true, true, true, true, true, true, true, true, true, true, true, true, true, false] rfl rfl (by kernel_rfl) (fun _ _ _ h => h) (Or.inl ⟨by rfl, ?_⟩) ?_ ?_
  rotate_left
  · intro w'
    go_simp
    with_reducible rfl
  rotate_left
  · simp only [Act.put, List.setIfInBounds_toArray, List.set_cons_zero, List.set_cons_succ, i64_w, i32_w]
    rfl
  refine pure_ (i := 24) (N := some 6) (v := ?_) (a' := ?_) #[true, true, true, true, true, true, true, true, true, true, true, true, true, true, true, true, true, true, true, true, true, true, true, true, true] rfl rfl (by kernel_rfl) (fun _ _ _ h => h) (Or.inl ⟨by rfl, ?_⟩) ?_ ?_
  rotate_left
  · intro w'
    go_simp
    with_reducible rfl
  rotate_left
  · simp only [Act.put, List.setIfInBounds_toArray, List.set_cons_zero, List.set_cons_succ, i64_w, i32_w]
    rfl
  refine done_ (by kernel_rfl) ?_
  have HBF : Aside0 (Below w.heap.size w wY) := ⟨HBX.out.trans (hHeld.2.2.2.2.mono HBX.out.size)⟩
  clear hHeld
  go_wp2_with fail
  go_ret
  exact ⟨rfl, HBF.out⟩
end Go.Proofs.YtkpfnbliideeeaaDoor.Q
