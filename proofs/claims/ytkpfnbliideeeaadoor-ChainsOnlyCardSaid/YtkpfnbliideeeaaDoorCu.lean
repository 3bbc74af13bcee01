/- the law ChainsDigitsSpec -/
import Derived.Test.YtkpfnbliideeeaaDoorCt
namespace Go.Proofs.YtkpfnbliideeeaaDoor.Q
open Go.RowKit Go.Shelf Go.Proofs.YtkpfnbliideeeaaDoorW.PrintWords Go.Proofs.YtkpfnbliideeeaaDoorW.PrintLast Go.Proofs.YtkpfnbliideeeaaDoorW.PrintMore
set_option linter.unusedVariables false
set_option linter.unusedSimpArgs false
set_option maxHeartbeats 1000000 in
theorem DigitsSpec_calls (m o : List Int) (hm : m.length = 32) (ho : o.length = 32) (hmb : ∀ x ∈ m, 0 ≤ x ∧ x ≤ 255) (hob : ∀ x ∈ o, 0 ≤ x ∧ x ≤ 255) (A : Option Addr) (n c : Nat) (w : World) (hT : Tabs w) :
    Calls Tryd.prog 3 #[.agg (cells8 m), .agg (cells8 o), .slice A n c] w fun e w' => e = .returned (.bool true) ∧ Below w.heap.size w w' := by
  have HM := Aside0.mk hm
  have HO := Aside0.mk ho
  have HMb := Aside0.mk hmb
  have HOb := Aside0.mk hob
  have HT := Aside0.mk hT
  have HSm := Aside0.mk (size32 m hm)
  have HSo := Aside0.mk (size32 o ho)
  clear hm ho hmb hob hT
  have hself : Aside0 ((digits m == digits m) = true) := ⟨by simp⟩
  obtain ⟨wa, hwa⟩ : ∃ x, x = (w.alloc (.cells (cells8 m) 23)).alloc (.cells (cells8 o) 23) := ⟨_, rfl⟩
  have HA0 : Aside0 (wa.heap[w.heap.size]? = some (.cells (cells8 m) 23 (0, 0))) := ⟨by rw [hwa]; exact heap_alloc2_old _ _ _⟩
  have HA1 : Aside0 (wa.heap[w.heap.size + 1]? = some (.cells (cells8 o) 23 (0, 0))) := ⟨by rw [hwa]; exact heap_alloc2_new _ _ _⟩
  have HBa : Aside0 (Below w.heap.size w wa) := ⟨by rw [hwa]; exact below_alloc (below_alloc (Below.refl _ _) _) _⟩
  have HWA := Aside0.mk hwa
  clear hwa
  go_enter Tryd.func3, Tryd.ntmps3
  go_wp2_with fail
  rw [← HWA.out]
  refine (sane_calls wa (HT.out.below HBa.out)).mono ?_
  rintro e w1 ⟨rfl, hb1⟩
  have HB1 : Aside0 (Below w.heap.size w w1) := ⟨HBa.out.trans (hb1.mono HBa.out.size)⟩
  have H10 := Aside0.mk (blk_of_below HA0.out hb1)
  have H11 := Aside0.mk (blk_of_below HA1.out hb1)
  clear hb1 HA0 HA1 HBa HWA
  by_cases h40 : 40 < n
  · have c15 : decide ((40 : Int) < (n : Int)) = true := decide_eq_true (by omega)
    have c16 : (40 : Int) < (n : Int) := by omega
    go_wp2_with fail
    go_ret
    exact ⟨rfl, HB1.out⟩
  · have c15 : decide ((40 : Int) < (n : Int)) = false := decide_eq_false (by omega)
    have c16 : ¬ (40 : Int) < (n : Int) := by omega
    go_wp2_with (first
      | (with_reducible refine wpList_load_row rfl 23 (.tmp 3) rfl w.heap.size rfl 23 (cells8 m) (0, 0) _ H10.out Tryd.underlying23 rfl HSm.out ?_)
      | (with_reducible refine wpList_load_row rfl 23 (.tmp 4) rfl (w.heap.size + 1) rfl 23 (cells8 o) (0, 0) _ H11.out Tryd.underlying23 rfl HSo.out ?_))
    refine (Earlier_calls m o HM.out HO.out A n c (by omega) w1).mono ?_
    rintro e w2 ⟨rfl, hb2⟩
    have HRE := Aside0.mk (fun w' => rEarlier_calls m o HM.out HO.out HMb.out HOb.out A n c (by omega) w')
    obtain ⟨q, hq⟩ : ∃ q, q = earlierD m o n := ⟨_, rfl⟩
    rw [← hq] at HRE ⊢
    obtain ⟨qa, qb⟩ := q
    have HB2 : Aside0 (Below w.heap.size w w2) := ⟨HB1.out.trans (hb2.mono HB1.out.size)⟩
    have H20 := Aside0.mk (blk_of_below H10.out hb2)
    have H21 := Aside0.mk (blk_of_below H11.out hb2)
    clear hq hb2 H10 H11 HB1
    go_wp2_with (first
      | (with_reducible refine wpList_load_row rfl 23 (.tmp 3) rfl w.heap.size rfl 23 (cells8 m) (0, 0) _ H20.out Tryd.underlying23 rfl HSm.out ?_)
      | (with_reducible refine wpList_load_row rfl 23 (.tmp 4) rfl (w.heap.size + 1) rfl 23 (cells8 o) (0, 0) _ H21.out Tryd.underlying23 rfl HSo.out ?_))
    refine (HRE.out w2).mono ?_
    rintro e wX ⟨rfl, hb3⟩
    have HBX : Aside0 (Below w.heap.size w wX) := ⟨HB2.out.trans (hb3.mono HB2.out.size)⟩
    have H0 := Aside0.mk (blk_of_below H20.out hb3)
    clear hb3 HB2 H20 H21 HRE
    go_wp2_with fail
    refine start_ (n := 16) (S := fun W => W.heap[w.heap.size]? = some (.cells (cells8 m) 23 (0, 0)) ∧ Below wX.heap.size wX W) (ds := []) #[false, false, false, false, false, false, false, false, false, false, false, false, false, false, false, false] (by kernel_rfl) rfl rfl (⟨H0.out, below_drew (Below.refl _ _)⟩) (fun hHeld => ?_)
    refine take_ (i := 0) (N := some 30) (v := .agg (cells8 m)) (a' := ?_) #[true, false, false, false, false, false, false, false, false, false, false, false, false, false, false, false] rfl rfl (by kernel_rfl) (fun _ _ _ h => h) (Or.inl ⟨by rfl, fun w' s0 => load_run 23 (.tmp 3) rfl w.heap.size rfl 23 _ (0, 0) _ s0.1 Tryd.underlying23 rfl (size32 _ HM.out)⟩) hHeld ?_ ?_
    rotate_left
    · simp only [Act.put, List.setIfInBounds_toArray, List.set_cons_zero, List.set_cons_succ, i64_w, i32_w]
      rfl
    refine take_ (i := 2) (N := some 32) (v := .agg (cells8 m)) (a' := ?_) #[true, false, true, false, false, false, false, false, false, false, false, false, false, false, false, false] rfl rfl (by kernel_rfl) (fun _ _ _ h => h) (Or.inl ⟨by rfl, fun w' s0 => load_run 23 (.tmp 3) rfl w.heap.size rfl 23 _ (0, 0) _ s0.1 Tryd.underlying23 rfl (size32 _ HM.out)⟩) hHeld ?_ ?_
    rotate_left
    · simp only [Act.put, List.setIfInBounds_toArray, List.set_cons_zero, List.set_cons_succ, i64_w, i32_w]
      rfl
    refine one_ (i := 1) (N := some 31) #[true, true, true, false, false, false, false, false, false, false, false, false, false, false, false, false] rfl rfl (by kernel_rfl) (by decide) (fun K hK => ?_)
    refine goes_ Tryd.func11 (by kernel_rfl) rfl #[.agg (cells8 m)] (by rfl) rfl rfl (by (try simp only [List.map_toArray, List.map_cons, List.map_nil]); first | done | rfl) ?_
    refine (Digits_calls m HM.out _).mono ?_
    rintro e wY ⟨b1, rfl, hCa, hbH⟩
    refine ⟨_, rfl, ?_⟩
    refine hK.out _ _ (⟨blk_of_below hHeld.1 hbH, hHeld.2.trans (hbH.mono hHeld.2.size)⟩) (fun hNew => ?_)
    clear hHeld hK K
    have hHeld := hNew
    clear hNew
    refine norm_ (a' := ?_) ?_ ?_
    rotate_left
    · show Act.put _ (some 31) _ = _
      simp only [Act.put, List.setIfInBounds_toArray, List.set_cons_zero, List.set_cons_succ, i64_w, i32_w]
      rfl
    refine one_ (i := 3) (N := some 33) #[true, true, true, true, false, false, false, false, false, false, false, false, false, false, false, false] rfl rfl (by kernel_rfl) (by decide) (fun K hK => ?_)
    refine goes_ Tryd.func12 (by kernel_rfl) rfl #[.agg (cells8 m)] (by rfl) rfl rfl (by (try simp only [List.map_toArray, List.map_cons, List.map_nil]); first | done | rfl) ?_
    refine (rDigits_calls m HM.out HMb.out _).mono ?_
    rintro e wZ ⟨A2, c2, rfl, _, hCb, hbH⟩
    replace hCa := Kd.C_below hCa hbH
    refine ⟨_, rfl, ?_⟩
    refine hK.out _ _ (⟨blk_of_below hHeld.1 hbH, hHeld.2.trans (hbH.mono hHeld.2.size)⟩) (fun hNew => ?_)
    clear hHeld hK K
    have hHeld := hNew
    clear hNew
    refine norm_ (a' := ?_) ?_ ?_
    rotate_left
    · show Act.put _ (some 33) _ = _
      simp only [Act.put, List.setIfInBounds_toArray, List.set_cons_zero, List.set_cons_succ, i64_w, i32_w]
      rfl
    refine one_ (i := 4) (N := some 34) #[true, true, true, true, true, false, false, false, false, false, false, false, false, false, false, false] rfl rfl (by kernel_rfl) (by decide) (fun K hK => ?_)
    refine goes_ Tryd.func10 (by kernel_rfl) rfl #[.slice (some ⟨b1, 0, none⟩) 19 19, .slice A2 19 c2] (by rfl) rfl rfl (by (try simp only [List.map_toArray, List.map_cons, List.map_nil]); first | done | rfl) ?_
    refine (SameInts_calls _ _ 19 19 19 c2 (digits m) (digits m) _ hCa hCb (by omega) (by omega)).mono ?_
    rintro e wV ⟨rfl, hbH⟩
    rw [hself.out]
    refine ⟨_, rfl, ?_⟩
    refine hK.out _ _ (⟨blk_of_below hHeld.1 hbH, hHeld.2.trans (hbH.mono hHeld.2.size)⟩) (fun hNew => ?_)
    clear hHeld hK K
    have hHeld := hNew
    clear hNew
    refine norm_ (a' := ?_) ?_ ?_
    rotate_left
    · show Act.put _ (some 34) _ = _
      simp only [Act.put, List.setIfInBounds_toArray, List.set_cons_zero, List.set_cons_succ, i64_w, i32_w]
      rfl
    refine pure_ (i := 5) (N := some 35) (v := ?_) (a' := ?_) #[true, true, true, true, true, true, false, false, false, false, false, false, false, false, false, false] rfl rfl (by kernel_rfl) (fun _ _ _ h => h) (Or.inl ⟨by rfl, ?_⟩) ?_ ?_
    rotate_left
    · intro w'
      go_simp
      with_reducible rfl
    rotate_left
    · simp only [Act.put, List.setIfInBounds_toArray, List.set_cons_zero, List.set_cons_succ, i64_w, i32_w]
      rfl
    refine pure_ (i := 6) (N := some 36) (v := ?_) (a' := ?_) #[true, true, true, true, true, true, true, false, false, false, false, false, false, false, false, false] rfl rfl (by kernel_rfl) (fun _ _ _ h => h) (Or.inl ⟨by rfl, ?_⟩) ?_ ?_
    rotate_left
    · intro w'
      go_simp
      with_reducible rfl
    rotate_left
    · simp only [Act.put, List.setIfInBounds_toArray, List.set_cons_zero, List.set_cons_succ, i64_w, i32_w]
      rfl
    refine pure_ (i := 7) (N := some 37) (v := ?_) (a' := ?_) #[true, true, true, true, true, true, true, true, false, false, false, false, false, false, false, false] rfl rfl (by kernel_rfl) (fun _ _ _ h => h) (Or.inl ⟨by rfl, ?_⟩) ?_ ?_
    rotate_left
    · intro w'
      go_simp
      with_reducible rfl
    rotate_left
    · simp only [Act.put, List.setIfInBounds_toArray, List.set_cons_zero, List.set_cons_succ, i64_w, i32_w]
      rfl
    refine pure_ (i := 8) (N := some 38) (v := ?_) (a' := ?_) #[true, true, true, true, true, true, true, true, true, false, false, false, false, false, false, false] rfl rfl (by kernel_rfl) (fun _ _ _ h => h) (Or.inl ⟨by rfl, ?_⟩) ?_ ?_
    rotate_left
    · intro w'
      go_simp
      with_reducible rfl
    rotate_left
    · simp only [Act.put, List.setIfInBounds_toArray, List.set_cons_zero, List.set_cons_succ, i64_w, i32_w]
      rfl
    refine pure_ (i := 9) (N := some 39) (v := ?_) (a' := ?_) #[true, true, true, true, true, true, true, true, true, true, false, false, false, false, false, false] rfl rfl (by kernel_rfl) (fun _ _ _ h => h) (Or.inl ⟨by rfl, ?_⟩) ?_ ?_
    rotate_left
    · intro w'
      go_simp
      with_reducible rfl
    rotate_left
    · simp only [Act.put, List.setIfInBounds_toArray, List.set_cons_zero, List.set_cons_succ, i64_w, i32_w]
      rfl
    refine pure_ (i := 10) (N := some 40) (v := ?_) (a' := ?_) #[true, true, true, true, true, true, true, true, true, true, true, false, false, false, false, false] rfl rfl (by kernel_rfl) (fun _ _ _ h => h) (Or.inl ⟨by rfl, ?_⟩) ?_ ?_
    rotate_left
    · intro w'
      go_simp
      with_reducible rfl
    rotate_left
    · simp only [Act.put, List.setIfInBounds_toArray, List.set_cons_zero, List.set_cons_succ, i64_w, i32_w]
      rfl
    refine pure_ (i := 11) (N := some 41) (v := ?_) (a' := ?_) #[true, true, true, true, true, true, true, true, true, true, true, true, false, false, false, false] rfl rfl (by kernel_rfl) (fun _ _ _ h => h) (Or.inl ⟨by rfl, ?_⟩) ?_ ?_
    rotate_left
    · intro w'
      go_simp
      with_reducible rfl
    rotate_left
    · simp only [Act.put, List.setIfInBounds_toArray, List.set_cons_zero, List.set_cons_succ, i64_w, i32_w]
      rfl
    refine pure_ (i := 12) (N := some 42) (v := ?_) (a' := ?_) #[true, true, true, true, true, true, true, true, true, true, true, true, true, false, false, false] rfl rfl (by kernel_rfl) (fun _ _ _ h => h) (Or.inl ⟨by rfl, ?_⟩) ?_ ?_
    rotate_left
    · intro w'
      go_simp
      with_reducible rfl
    rotate_left
    · simp only [Act.put, List.setIfInBounds_toArray, List.set_cons_zero, List.set_cons_succ, i64_w, i32_w]
      rfl
    refine pure_ (i := 13) (N := some 43) (v := ?_) (a' := ?_) #[true, true, true, true, true, true, true, true, true, true, true, true, true, true, false, false] rfl rfl (by kernel_rfl) (fun _ _ _ h => h) (Or.inl ⟨by rfl, ?_⟩) ?_ ?_
    rotate_left
    · intro w'
      go_simp
      with_reducible rfl
    rotate_left
    · simp only [Act.put, List.setIfInBounds_toArray, List.set_cons_zero, List.set_cons_succ, i64_w, i32_w]
      rfl
    refine pure_ (i := 14) (N := some 44) (v := ?_) (a' := ?_) #[true, true, true, true, true, true, true, true, true, true, true, true, true, true, true, false] rfl rfl (by kernel_rfl) (fun _ _ _ h => h) (Or.inl ⟨by rfl, ?_⟩) ?_ ?_
    rotate_left
    · intro w'
      go_simp
      with_reducible rfl
    rotate_left
    · simp only [Act.put, List.setIfInBounds_toArray, List.set_cons_zero, List.set_cons_succ, i64_w, i32_w]
      rfl
    refine pure_ (i := 15) (N := some 6) (v := ?_) (a' := ?_) #[true, true, true, true, true, true, true, true, true, true, true, true, true, true, true, true] rfl rfl (by kernel_rfl) (fun _ _ _ h => h) (Or.inl ⟨by rfl, ?_⟩) ?_ ?_
    rotate_left
    · intro w'
      go_simp
      with_reducible rfl
    rotate_left
    · simp only [Act.put, List.setIfInBounds_toArray, List.set_cons_zero, List.set_cons_succ, i64_w, i32_w]
      rfl
    refine done_ (by kernel_rfl) ?_
    have HBF : Aside0 (Below w.heap.size w wV) := ⟨HBX.out.trans (hHeld.2.mono HBX.out.size)⟩
    clear hHeld hCa hCb hbH
    go_wp2_with fail
    go_ret
    exact ⟨rfl, HBF.out⟩
end Go.Proofs.YtkpfnbliideeeaaDoor.Q
