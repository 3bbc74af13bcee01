/- the law ChainsOnly -/
import Derived.Test.YtkpfnbliideeeaaDoorCx
namespace Go.Proofs.YtkpfnbliideeeaaDoor.Q
open Go.RowKit Go.Shelf Go.Proofs.YtkpfnbliideeeaaDoorW.PrintWords Go.Proofs.YtkpfnbliideeeaaDoorW.PrintLast Go.Proofs.YtkpfnbliideeeaaDoorW.PrintMore
set_option linter.unusedVariables false
set_option linter.unusedSimpArgs false
theorem verify_true {p m : List Int} {s : List (List Int)} (h : verifyD p m s = true) : s.length = 19 ∧ keyD (endsD m s 19) = p := by
  by_cases h19 : s.length = 19
  · rw [verifyD, recoverD, if_pos h19] at h
    exact ⟨h19, by simpa using (Bool.and_eq_true_iff.1 h).2⟩
  · rw [verifyD, recoverE, if_neg h19] at h
    simp at h
theorem ends_at {m : List Int} {s t : List (List Int)} (h : endsD m s 19 = endsD m t 19) (i : Nat) (hi : i < 19) : endD m s i = endD m t i := by
  have h1 : (endsD m s 19)[i]? = (endsD m t 19)[i]? := by rw [h]
  simpa [endsD, hi] using h1
theorem list_eq19 {s t : List (List Int)} (hs : s.length = 19) (ht : t.length = 19) (h : ∀ q, q < 19 → s.getD q [] = t.getD q []) : s = t :=
  List.ext_getElem (hs.trans ht.symm) fun i h1 h2 => by
    have := h i (by omega)
    simpa [List.getD, h1, h2] using this
theorem alloc_run {o : Oper} {a : Act} (ho : o.op = .alloc 23) (w : World) : (execOp a.eval o).run Tryd.prog w = .ok (.value (.pointer (some ⟨w.heap.size, 0, none⟩))) (w.alloc (.cells #[.int .u8 0, .int .u8 0, .int .u8 0, .int .u8 0, .int .u8 0, .int .u8 0, .int .u8 0, .int .u8 0, .int .u8 0, .int .u8 0, .int .u8 0, .int .u8 0, .int .u8 0, .int .u8 0, .int .u8 0, .int .u8 0, .int .u8 0, .int .u8 0, .int .u8 0, .int .u8 0, .int .u8 0, .int .u8 0, .int .u8 0, .int .u8 0, .int .u8 0, .int .u8 0, .int .u8 0, .int .u8 0, .int .u8 0, .int .u8 0, .int .u8 0, .int .u8 0] 23)) := by
  unfold execOp
  simp only [ho]
  kernel_rfl
theorem store_row_ {P : Program} {ops : Array Oper} {oi : Oper} {a : Act} {w : World} {K : Act → World → Prop} {Q : Exit → Act → World → Prop} (hw : Region.wanted oi (yielded ops a.tmps) = true) (ty : TypeId) (x y : Operand) (ho : oi.op = .store ty x y) (hN : oi.dst = none)
    (g : Nat) (cells : Array Value) (hx : a.eval x = .pointer (some ⟨g, 0, none⟩)) (hy : a.eval y = .agg cells) (t : TypeId) (old : Array Value) (hg : w.heap[g]? = some (.cells old t (0, 0))) (hi : (P.info? ty).map (·.size) = some cells.size) (hold : old.size = cells.size) (h1 : cells.all (·.oneCell') = true)
    (h : K a (w.setRow g cells)) : if Region.wanted oi (yielded ops a.tmps) = true then Oper.wp P oi a w K Q else K (a.put none undef) w := by
  rw [if_pos hw]
  exact wp_store_row ty x y ho g cells hx hy t old hg hi hold h1 (by rw [hN]; exact h)
theorem own_lt {α : Type} {d : Kd α} {e base : Nat} {ok : Nat → Prop} {w : World} {v : Value} {xs : List α} (h : d.R e w base ok v xs) {k : Nat} (hk : v.ownBlock = some k) : k < w.heap.size := ((Kd.R_bound h).1 k hk).2.2.1
/-- u's block is not v's; v grew to v1 -/
theorem ne_after {α : Type} {d : Kd α} {e base : Nat} {ok : Nat → Prop} {W : World} {u v v1 : Value} {xs : List α} (h : d.R e W base ok u xs) (hne : ∀ q, v.ownBlock = some q → some q ≠ u.ownBlock) (hat : v1.ownBlock = v.ownBlock ∨ ∃ b, v1.ownBlock = some b ∧ W.heap.size ≤ b) : ∀ q, v1.ownBlock = some q → some q ≠ u.ownBlock := fun q hq hu => by
  rcases hat with hat | ⟨b, hb, hle⟩
  · exact hne q (hat ▸ hq) hu
  · have := own_lt h hu.symm
    rw [hb] at hq
    cases hq
    omega
theorem ne_turn {u v : Value} (h : ∀ q, v.ownBlock = some q → some q ≠ u.ownBlock) : ∀ q, u.ownBlock = some q → some q ≠ v.ownBlock := fun q hq hv => h q hv.symm hq.symm
theorem C_row32 {w : World} {ad : Addr} {x : List Int} (hl : x.length = 32) (h : ∀ j v, (cells8 x).toList[j]? = some v → w.cell? (ad.add j) = some v) : Kd.C (Kd.int .u8) w (some ad) 32 x := by
  have := C_of_cells (kd := .u8) (w := w) (ad := ad) (xs := x) (by omega) (fun j p hj => h j _ (by simp [cells8, nums, hj]))
  rwa [hl] at this
set_option maxHeartbeats 2000000 in
set_option maxRecDepth 20000 in
theorem Only_calls (p m : List Int) (hp : p.length = 32) (hm : m.length = 32) (A B : Option Addr) (n k c d : Nat) (s t : List (List Int)) (w : World) (hS : Kd.C KdD w A n s) (hU : Kd.C KdD w B k t) (hc : n ≤ c) (hd : k ≤ d) (hT : Tabs w) :
    Calls Tryd.prog 6 #[.agg (cells8 p), .agg (cells8 m), .slice A n c, .slice B k d] w fun e w' => e = .returned (.bool true) ∧ Below w.heap.size w w' := by
  have HP := Aside0.mk hp
  have HM := Aside0.mk hm
  have HT := Aside0.mk hT
  have HS := Aside0.mk hS
  have HU := Aside0.mk hU
  have HLS := Aside0.mk (Kd.C_len hS)
  have HLU := Aside0.mk (Kd.C_len hU)
  have HSp := Aside0.mk (size32 p hp)
  have HSm := Aside0.mk (size32 m hm)
  clear hp hm hT hS hU
  obtain ⟨wa, hwa⟩ : ∃ x, x = (w.alloc (.cells (cells8 p) 23)).alloc (.cells (cells8 m) 23) := ⟨_, rfl⟩
  have HA0 : Aside0 (wa.heap[w.heap.size]? = some (.cells (cells8 p) 23 (0, 0))) := ⟨by rw [hwa]; exact heap_alloc2_old _ _ _⟩
  have HA1 : Aside0 (wa.heap[w.heap.size + 1]? = some (.cells (cells8 m) 23 (0, 0))) := ⟨by rw [hwa]; exact heap_alloc2_new _ _ _⟩
  have HBa : Aside0 (Below w.heap.size w wa) := ⟨by rw [hwa]; exact below_alloc (below_alloc (Below.refl _ _) _) _⟩
  have HWA := Aside0.mk hwa
  clear hwa
  go_enter Tryd.func6, Tryd.ntmps6
  go_wp2_with fail
  rw [← HWA.out]
  refine (sane_calls wa (HT.out.below HBa.out)).mono ?_
  rintro e w1 ⟨rfl, hb1⟩
  have HB1 : Aside0 (Below w.heap.size w w1) := ⟨HBa.out.trans (hb1.mono HBa.out.size)⟩
  have H10 := Aside0.mk (blk_of_below HA0.out hb1)
  have H11 := Aside0.mk (blk_of_below HA1.out hb1)
  clear hb1 HA0 HA1 HBa HWA
  by_cases h40 : 40 < n
  · have c15 : decide ((40 : Int) < (n : Int)) = true := decide_eq_true (by omega)
    have c16 : (40 : Int) < (n : Int) := by omega
    go_wp2_with fail
    go_ret
    exact ⟨rfl, HB1.out⟩
  have c15 : decide ((40 : Int) < (n : Int)) = false := decide_eq_false (by omega)
  have c16 : ¬ (40 : Int) < (n : Int) := by omega
  by_cases h41 : 40 < k
  · have c17 : decide ((40 : Int) < (k : Int)) = true := decide_eq_true (by omega)
    have c18 : (40 : Int) < (k : Int) := by omega
    go_wp2_with fail
    go_ret
    exact ⟨rfl, HB1.out⟩
  have c17 : decide ((40 : Int) < (k : Int)) = false := decide_eq_false (by omega)
  have c18 : ¬ (40 : Int) < (k : Int) := by omega
  have HVS := Aside0.mk (fun w' h => Verify_calls p m HP.out HM.out A n c s (by omega) hc w' (Kd.C_below HS.out h) (HT.out.below h))
  have HVU := Aside0.mk (fun w' h => Verify_calls p m HP.out HM.out B k d t (by omega) hd w' (Kd.C_below HU.out h) (HT.out.below h))
  cases hv1 : verifyD p m s with
  | false =>
    rw [hv1] at HVS
    clear hv1
    go_wp2_with (first
      | (refine wpList_on (by rfl) (load_run 23 (.tmp 4) rfl w.heap.size rfl 23 (cells8 p) (0, 0) _ H10.out Tryd.underlying23 rfl HSp.out) ?_)
      | (refine wpList_on (by rfl) (load_run 23 (.tmp 5) rfl (w.heap.size + 1) rfl 23 (cells8 m) (0, 0) _ H11.out Tryd.underlying23 rfl HSm.out) ?_))
    refine (HVS.out w1 HB1.out).mono ?_
    rintro e w2 ⟨rfl, hb2⟩
    have HB2 : Aside0 (Below w.heap.size w w2) := ⟨HB1.out.trans (hb2.mono HB1.out.size)⟩
    clear hb2
    go_wp2_with fail
    go_ret
    exact ⟨rfl, HB2.out⟩
  | true =>
    have HV1 := Aside0.mk (verify_true hv1)
    rw [hv1] at HVS
    clear hv1
    go_wp2_with (first
      | (refine wpList_on (by rfl) (load_run 23 (.tmp 4) rfl w.heap.size rfl 23 (cells8 p) (0, 0) _ H10.out Tryd.underlying23 rfl HSp.out) ?_)
      | (refine wpList_on (by rfl) (load_run 23 (.tmp 5) rfl (w.heap.size + 1) rfl 23 (cells8 m) (0, 0) _ H11.out Tryd.underlying23 rfl HSm.out) ?_))
    refine (HVS.out w1 HB1.out).mono ?_
    rintro e w2 ⟨rfl, hb2⟩
    have HB2 : Aside0 (Below w.heap.size w w2) := ⟨HB1.out.trans (hb2.mono HB1.out.size)⟩
    have H20 := Aside0.mk (blk_of_below H10.out hb2)
    have H21 := Aside0.mk (blk_of_below H11.out hb2)
    clear hb2 HVS H10 H11 HB1
    cases hv2 : verifyD p m t with
    | false =>
      rw [hv2] at HVU
      clear hv2
      go_wp2_with (first
        | (refine wpList_on (by rfl) (load_run 23 (.tmp 4) rfl w.heap.size rfl 23 (cells8 p) (0, 0) _ H20.out Tryd.underlying23 rfl HSp.out) ?_)
        | (refine wpList_on (by rfl) (load_run 23 (.tmp 5) rfl (w.heap.size + 1) rfl 23 (cells8 m) (0, 0) _ H21.out Tryd.underlying23 rfl HSm.out) ?_))
      refine (HVU.out w2 HB2.out).mono ?_
      rintro e w3 ⟨rfl, hb3⟩
      have HB3 : Aside0 (Below w.heap.size w w3) := ⟨HB2.out.trans (hb3.mono HB2.out.size)⟩
      clear hb3
      go_wp2_with fail
      go_ret
      exact ⟨rfl, HB3.out⟩
    | true =>
      have HV2 := Aside0.mk (verify_true hv2)
      rw [hv2] at HVU
      clear hv2
      go_wp2_with (first
        | (refine wpList_on (by rfl) (load_run 23 (.tmp 4) rfl w.heap.size rfl 23 (cells8 p) (0, 0) _ H20.out Tryd.underlying23 rfl HSp.out) ?_)
        | (refine wpList_on (by rfl) (load_run 23 (.tmp 5) rfl (w.heap.size + 1) rfl 23 (cells8 m) (0, 0) _ H21.out Tryd.underlying23 rfl HSm.out) ?_))
      refine (HVU.out w2 HB2.out).mono ?_
      rintro e w3 ⟨rfl, hb3⟩
      have HB3 : Aside0 (Below w.heap.size w w3) := ⟨HB2.out.trans (hb3.mono HB2.out.size)⟩
      have H30 := Aside0.mk (blk_of_below H20.out hb3)
      have H31 := Aside0.mk (blk_of_below H21.out hb3)
      clear hb3 HVU H20 H21 HB2
      have hn : n = 19 := by have := HLS.out; have := HV1.out.1; omega
      have hk : k = 19 := by have := HLU.out; have := HV2.out.1; omega
      clear h40 h41 c15 c16 c17 c18
      subst hn hk
      go_wp2_with (with_reducible refine wpList_load_row rfl 23 (.tmp 5) rfl (w.heap.size + 1) rfl 23 (cells8 m) (0, 0) _ H31.out Tryd.underlying23 rfl HSm.out ?_)
      refine (Digits_calls m HM.out w3).mono ?_
      rintro e w4 ⟨b4, rfl, hC4, hb4⟩
      have HB4 : Aside0 (Below w.heap.size w w4) := ⟨HB3.out.trans (hb4.mono HB3.out.size)⟩
      have H41 := Aside0.mk (blk_of_below H31.out hb4)
      have HC4 := Aside0.mk hC4
      have hsame := Same_calls A B 19 19 c d s t w4 (Kd.C_below HS.out HB4.out) (Kd.C_below HU.out HB4.out) (by omega) (by omega)
      clear hb4 hC4 HB3 H30 H31
      go_wp2_with fail
      refine hsame.mono ?_
      rintro e w5 ⟨rfl, hb5⟩
      have HB5 : Aside0 (Below w.heap.size w w5) := ⟨HB4.out.trans (hb5.mono HB4.out.size)⟩
      have H51 := Aside0.mk (blk_of_below H41.out hb5)
      have HC5 := Aside0.mk (Kd.C_below HC4.out hb5)
      clear hb5 HB4 H41 HC4 hsame
      cases hst : s == t with
      | true =>
        clear hst
        go_wp2_with fail
        go_ret
        exact ⟨rfl, HB5.out⟩
      | false =>
        have HNE : Aside0 (s ≠ t) := ⟨by simpa using hst⟩
        clear hst
        have HSx : Aside0 (∀ W : World, Below w5.heap.size w5 W → Kd.C KdD W A 19 s) := ⟨fun W h => Kd.C_below HS.out (HB5.out.trans (h.mono HB5.out.size))⟩
        have HUx : Aside0 (∀ W : World, Below w5.heap.size w5 W → Kd.C KdD W B 19 t) := ⟨fun W h => Kd.C_below HU.out (HB5.out.trans (h.mono HB5.out.size))⟩
        have HTx : Aside0 (∀ W : World, Below w5.heap.size w5 W → Tabs W) := ⟨fun W h => HT.out.below (HB5.out.trans (h.mono HB5.out.size))⟩
        go_wp2_with fail
        refine start_ (n := 8) (S := fun W => W.heap[w.heap.size + 1]? = some (.cells (cells8 m) 23 (0, 0)) ∧ Below w5.heap.size w5 W) (ds := []) #[false, false, false, false, false, false, false, false] (by kernel_rfl) rfl rfl (⟨H51.out, below_drew (Below.refl _ _)⟩) (fun hHeld => ?_)
        refine take_ (i := 0) (N := some 64) (v := .agg (cells8 m)) (a' := ?_) #[true, false, false, false, false, false, false, false] rfl rfl (by kernel_rfl) (fun _ _ _ h => h) (Or.inl ⟨by rfl, fun w' s0 => load_run 23 (.tmp 5) rfl (w.heap.size + 1) rfl 23 _ (0, 0) _ s0.1 Tryd.underlying23 rfl HSm.out⟩) hHeld ?_ ?_
        rotate_left
        · simp only [Act.put, List.setIfInBounds_toArray, List.set_cons_zero, List.set_cons_succ, i64_w, i32_w]
          rfl
        refine pure_ (i := 1) (N := some 65) (v := ?_) (a' := ?_) #[true, true, false, false, false, false, false, false] rfl rfl (by kernel_rfl) (fun _ _ _ h => h) (Or.inl ⟨by rfl, ?_⟩) ?_ ?_
        rotate_left
        · intro w'
          go_simp
          with_reducible rfl
        rotate_left
        · simp only [Act.put, List.setIfInBounds_toArray, List.set_cons_zero, List.set_cons_succ, i64_w, i32_w]
          rfl
        refine take_ (i := 3) (N := some 67) (v := .agg (cells8 m)) (a' := ?_) #[true, true, false, true, false, false, false, false] rfl rfl (by kernel_rfl) (fun _ _ _ h => h) (Or.inl ⟨by rfl, fun w' s0 => load_run 23 (.tmp 5) rfl (w.heap.size + 1) rfl 23 _ (0, 0) _ s0.1 Tryd.underlying23 rfl HSm.out⟩) hHeld ?_ ?_
        rotate_left
        · simp only [Act.put, List.setIfInBounds_toArray, List.set_cons_zero, List.set_cons_succ, i64_w, i32_w]
          rfl
        refine pure_ (i := 4) (N := some 68) (v := ?_) (a' := ?_) #[true, true, false, true, true, false, false, false] rfl rfl (by kernel_rfl) (fun _ _ _ h => h) (Or.inl ⟨by rfl, ?_⟩) ?_ ?_
        rotate_left
        · intro w'
          go_simp
          with_reducible rfl
        rotate_left
        · simp only [Act.put, List.setIfInBounds_toArray, List.set_cons_zero, List.set_cons_succ, i64_w, i32_w]
          rfl
        refine one_ (i := 2) (N := some 66) #[true, true, true, true, true, false, false, false] rfl rfl (by kernel_rfl) (by decide) (fun K hK => ?_)
        refine goes_ Tryd.func18 (by kernel_rfl) rfl #[.agg (cells8 m), .slice A 19 c] (by rfl) rfl rfl (by (try simp only [List.map_toArray, List.map_cons, List.map_nil]); first | done | rfl) ?_
        refine (ends_calls m HM.out A c s _ (HSx.out _ hHeld.2) (HTx.out _ hHeld.2)).mono ?_
        rintro e wY ⟨va, rfl, hRa, hbH⟩
        obtain ⟨Aa, ca, na, ea, hCa, hca⟩ := R_anyD hRa
        obtain rfl : na = 19 := by rw [← Kd.C_len hCa]; simp [endsD]
        subst ea
        clear hRa
        refine ⟨_, rfl, ?_⟩
        refine hK.out _ _ (⟨blk_of_below hHeld.1 hbH, hHeld.2.trans (hbH.mono hHeld.2.size)⟩) (fun hNew => ?_)
        clear hHeld hK K
        have hHeld := hNew
        clear hNew
        refine norm_ (a' := ?_) ?_ ?_
        rotate_left
        · show Act.put _ (some 66) _ = _
          simp only [Act.put, List.setIfInBounds_toArray, List.set_cons_zero, List.set_cons_succ, i64_w, i32_w]
          rfl
        refine one_ (i := 5) (N := some 69) #[true, true, true, true, true, true, false, false] rfl rfl (by kernel_rfl) (by decide) (fun K hK => ?_)
        refine goes_ Tryd.func18 (by kernel_rfl) rfl #[.agg (cells8 m), .slice B 19 d] (by rfl) rfl rfl (by (try simp only [List.map_toArray, List.map_cons, List.map_nil]); first | done | rfl) ?_
        refine (ends_calls m HM.out B d t _ (HUx.out _ hHeld.2) (HTx.out _ hHeld.2)).mono ?_
        rintro e wZ ⟨vb, rfl, hRb, hbH⟩
        obtain ⟨Ab, cb, nb, eb, hCb, hcb⟩ := R_anyD hRb
        obtain rfl : nb = 19 := by rw [← Kd.C_len hCb]; simp [endsD]
        subst eb
        replace hCa := Kd.C_below hCa hbH
        clear hRb
        refine ⟨_, rfl, ?_⟩
        refine hK.out _ _ (⟨blk_of_below hHeld.1 hbH, hHeld.2.trans (hbH.mono hHeld.2.size)⟩) (fun hNew => ?_)
        clear hHeld hK K
        have hHeld := hNew
        clear hNew
        refine norm_ (a' := ?_) ?_ ?_
        rotate_left
        · show Act.put _ (some 69) _ = _
          simp only [Act.put, List.setIfInBounds_toArray, List.set_cons_zero, List.set_cons_succ, i64_w, i32_w]
          rfl
        refine pure_ (i := 6) (N := some 10) (v := ?_) (a' := ?_) #[true, true, true, true, true, true, true, false] rfl rfl (by kernel_rfl) (fun _ _ _ h => h) (Or.inl ⟨by rfl, ?_⟩) ?_ ?_
        rotate_left
        · intro w'
          go_simp
          with_reducible rfl
        rotate_left
        · simp only [Act.put, List.setIfInBounds_toArray, List.set_cons_zero, List.set_cons_succ, i64_w, i32_w]
          rfl
        refine pure_ (i := 7) (N := some 11) (v := ?_) (a' := ?_) #[true, true, true, true, true, true, true, true] rfl rfl (by kernel_rfl) (fun _ _ _ h => h) (Or.inl ⟨by rfl, ?_⟩) ?_ ?_
        rotate_left
        · intro w'
          go_simp
          with_reducible rfl
        rotate_left
        · simp only [Act.put, List.setIfInBounds_toArray, List.set_cons_zero, List.set_cons_succ, i64_w, i32_w]
          rfl
        refine done_ (by kernel_rfl) ?_
        have HBz : Aside0 (Below w.heap.size w wZ) := ⟨HB5.out.trans (hHeld.2.mono HB5.out.size)⟩
        have HC9 := Aside0.mk (Kd.C_below HC5.out hHeld.2)
        obtain ⟨ea, hea⟩ : ∃ x, x = endsD m s 19 := ⟨_, rfl⟩
        obtain ⟨eb, heb⟩ : ∃ x, x = endsD m t 19 := ⟨_, rfl⟩
        rw [← hea] at hCa
        rw [← heb] at hCb
        have HAa := Aside0.mk hCa
        have HAb := Aside0.mk hCb
        have HEA := Aside0.mk hea
        have HEB := Aside0.mk heb
        have hsame := Same_calls Aa Ab 19 19 ca cb ea eb wZ HAa.out HAb.out (by omega) (by omega)
        clear hHeld hCa hCb hbH hea heb HSx HUx HTx H51 HC5 HB5
        go_wp2_with fail
        refine hsame.mono ?_
        rintro e w6 ⟨rfl, hb6⟩
        have HB6 : Aside0 (Below w.heap.size w w6) := ⟨HBz.out.trans (hb6.mono HBz.out.size)⟩
        have HC6 := Aside0.mk (Kd.C_below HC9.out hb6)
        have HA6 := Aside0.mk (Kd.C_below HAa.out hb6)
        have HE6 := Aside0.mk (Kd.C_below HAb.out hb6)
        clear hsame hb6 HBz HC9 HAa HAb
        cases hab : ea == eb with
        | false =>
          clear hab
          go_wp2_with fail
          go_loopw [12, 13, 76] (fun x y i wr => ∃ j : Nat, j ≤ 19 ∧ i = .int .i64 (j : Int) ∧ Aside0 (Kd.R (Kd.int .u8) 5 wr w6.heap.size (fun _ => True) x (ea.take j).flatten) ∧ Aside0 (Kd.R (Kd.int .u8) 5 wr w6.heap.size (fun _ => True) y (eb.take j).flatten) ∧ Aside0 (∀ q, x.ownBlock = some q → some q ≠ y.ownBlock) ∧ Aside0 (Below w6.heap.size w6 wr)) (fun _ _ i _ => 19 - (intOf i).toNat)
          case atStart => exact ⟨0, by omega, rfl, ⟨Kd.R_nil _ _ _ _ _⟩, ⟨Kd.R_nil _ _ _ _ _⟩, ⟨fun q e => by cases e⟩, ⟨Below.refl _ _⟩⟩
          case round =>
            obtain ⟨j, hj, rfl, HR1, HR2, HNE1, HB⟩ := hrel
            obtain ⟨A3, c3, n3, e3, hC3, hc3⟩ := R_any HR1.out
            subst e3
            obtain ⟨A4, c4, n4, e4, hC4, hc4⟩ := R_any HR2.out
            subst e4
            have hl3 : ((ea.take j).flatten).length = 32 * j := flat32 ea (C_all32 HA6.out) j (by rw [Kd.C_len HA6.out]; exact hj)
            have hl4 : ((eb.take j).flatten).length = 32 * j := flat32 eb (C_all32 HE6.out) j (by rw [Kd.C_len HE6.out]; exact hj)
            have hn3 : n3 ≤ 608 := by rw [← Kd.C_len hC3]; omega
            have hn4 : n4 ≤ 608 := by rw [← Kd.C_len hC4]; omega
            replace hl3 : ((ea.take j).flatten).length ≤ 608 := by omega
            replace hl4 : ((eb.take j).flatten).length ≤ 608 := by omega
            have HC3 := Aside0.mk hC3
            have HC4 := Aside0.mk hC4
            clear hC3 hC4
            by_cases hlt : j < 19
            · have c77 : decide ((j : Int) < 19) = true := decide_eq_true (by omega)
              have p1 := eq_true (show 0 ≤ (j : Int) by omega)
              have p2 := eq_true (show (j : Int) < 19 by omega)
              obtain ⟨ad, rfl, hlx, -⟩ := at_dig HA6.out j hlt
              obtain ⟨bd, rfl, hly, -⟩ := at_dig HE6.out j hlt
              have HFA := Aside0.mk (flat_succ ea j (by rw [Kd.C_len HA6.out]; exact hlt))
              have HFB := Aside0.mk (flat_succ eb j (by rw [Kd.C_len HE6.out]; exact hlt))
              obtain ⟨x, hx⟩ : ∃ x, x = ea.getD j [] := ⟨_, rfl⟩
              obtain ⟨y, hy⟩ : ∃ y, y = eb.getD j [] := ⟨_, rfl⟩
              rw [← hx] at hlx HFA
              rw [← hy] at hly HFB
              have HX : Aside0 (∀ W : World, Below w6.heap.size w6 W → Kd.C (Kd.int .u8) W (some (ad.add (j * 32))) 32 x) := ⟨fun W h => by
                obtain ⟨ad', e', _, hc'⟩ := at_dig (Kd.C_below HA6.out h) j hlt
                cases e'
                rw [← hx] at hc'
                exact C_row32 hlx hc'⟩
              have HY : Aside0 (∀ W : World, Below w6.heap.size w6 W → Kd.C (Kd.int .u8) W (some (bd.add (j * 32))) 32 y) := ⟨fun W h => by
                obtain ⟨ad', e', _, hc'⟩ := at_dig (Kd.C_below HE6.out h) j hlt
                cases e'
                rw [← hy] at hc'
                exact C_row32 hly hc'⟩
              clear hx hy
              go_wp2_with fail
              refine start_ (n := 14) (S := fun _ => True) (ds := []) #[false, false, false, false, false, false, false, false, false, false, false, false, false, false] (by kernel_rfl) rfl rfl (trivial) (fun hHeld => ?_)
              refine pure_ (i := 0) (N := some 79) (v := ?_) (a' := ?_) #[true, false, false, false, false, false, false, false, false, false, false, false, false, false] rfl rfl (by kernel_rfl) (fun _ _ _ h => h) (Or.inl ⟨by rfl, ?_⟩) ?_ ?_
              rotate_left
              · intro w'
                go_simp
                with_reducible rfl
              rotate_left
              · simp only [Act.put, List.setIfInBounds_toArray, List.set_cons_zero, List.set_cons_succ, i64_w, i32_w]
                rfl
              refine pure_ (i := 1) (N := some 80) (v := ?_) (a' := ?_) #[true, true, false, false, false, false, false, false, false, false, false, false, false, false] rfl rfl (by kernel_rfl) (fun _ _ _ h => h) (Or.inl ⟨by rfl, ?_⟩) ?_ ?_
              rotate_left
              · intro w'
                go_simp
                with_reducible rfl
              rotate_left
              · simp only [Act.put, List.setIfInBounds_toArray, List.set_cons_zero, List.set_cons_succ, i64_w, i32_w]
                rfl
              refine pure_ (i := 2) (N := some 81) (v := ?_) (a' := ?_) #[true, true, true, false, false, false, false, false, false, false, false, false, false, false] rfl rfl (by kernel_rfl) (fun _ _ _ h => h) (Or.inl ⟨by rfl, ?_⟩) ?_ ?_
              rotate_left
              · intro w'
                go_simp
                with_reducible rfl
              rotate_left
              · simp only [Act.put, List.setIfInBounds_toArray, List.set_cons_zero, List.set_cons_succ, i64_w, i32_w]
                rfl
              refine pure_ (i := 3) (N := some 82) (v := ?_) (a' := ?_) #[true, true, true, true, false, false, false, false, false, false, false, false, false, false] rfl rfl (by kernel_rfl) (fun _ _ _ h => h) (Or.inl ⟨by rfl, ?_⟩) ?_ ?_
              rotate_left
              · intro w'
                go_simp
                with_reducible rfl
              rotate_left
              · simp only [Act.put, List.setIfInBounds_toArray, List.set_cons_zero, List.set_cons_succ, i64_w, i32_w]
                rfl
              refine pure_ (i := 4) (N := some 83) (v := ?_) (a' := ?_) #[true, true, true, true, true, false, false, false, false, false, false, false, false, false] rfl rfl (by kernel_rfl) (fun _ _ _ h => h) (Or.inl ⟨by rfl, ?_⟩) ?_ ?_
              rotate_left
              · intro w'
                go_simp
                with_reducible rfl
              rotate_left
              · simp only [Act.put, List.setIfInBounds_toArray, List.set_cons_zero, List.set_cons_succ, i64_w, i32_w]
                rfl
              refine pure_ (i := 6) (N := some 85) (v := ?_) (a' := ?_) #[true, true, true, true, true, false, true, false, false, false, false, false, false, false] rfl rfl (by kernel_rfl) (fun _ _ _ h => h) (Or.inl ⟨by rfl, ?_⟩) ?_ ?_
              rotate_left
              · intro w'
                go_simp
                with_reducible rfl
              rotate_left
              · simp only [Act.put, List.setIfInBounds_toArray, List.set_cons_zero, List.set_cons_succ, i64_w, i32_w]
                rfl
              refine pure_ (i := 7) (N := some 86) (v := ?_) (a' := ?_) #[true, true, true, true, true, false, true, true, false, false, false, false, false, false] rfl rfl (by kernel_rfl) (fun _ _ _ h => h) (Or.inl ⟨by rfl, ?_⟩) ?_ ?_
              rotate_left
              · intro w'
                go_simp
                with_reducible rfl
              rotate_left
              · simp only [Act.put, List.setIfInBounds_toArray, List.set_cons_zero, List.set_cons_succ, i64_w, i32_w]
                rfl
              refine pure_ (i := 8) (N := some 87) (v := ?_) (a' := ?_) #[true, true, true, true, true, false, true, true, true, false, false, false, false, false] rfl rfl (by kernel_rfl) (fun _ _ _ h => h) (Or.inl ⟨by rfl, ?_⟩) ?_ ?_
              rotate_left
              · intro w'
                go_simp
                with_reducible rfl
              rotate_left
              · simp only [Act.put, List.setIfInBounds_toArray, List.set_cons_zero, List.set_cons_succ, i64_w, i32_w]
                rfl
              refine pure_ (i := 9) (N := some 88) (v := ?_) (a' := ?_) #[true, true, true, true, true, false, true, true, true, true, false, false, false, false] rfl rfl (by kernel_rfl) (fun _ _ _ h => h) (Or.inl ⟨by rfl, ?_⟩) ?_ ?_
              rotate_left
              · intro w'
                go_simp
                with_reducible rfl
              rotate_left
              · simp only [Act.put, List.setIfInBounds_toArray, List.set_cons_zero, List.set_cons_succ, i64_w, i32_w]
                rfl
              refine pure_ (i := 10) (N := some 89) (v := ?_) (a' := ?_) #[true, true, true, true, true, false, true, true, true, true, true, false, false, false] rfl rfl (by kernel_rfl) (fun _ _ _ h => h) (Or.inl ⟨by rfl, ?_⟩) ?_ ?_
              rotate_left
              · intro w'
                go_simp
                with_reducible rfl
              rotate_left
              · simp only [Act.put, List.setIfInBounds_toArray, List.set_cons_zero, List.set_cons_succ, i64_w, i32_w]
                rfl
              refine one_ (i := 5) (N := some 84) #[true, true, true, true, true, true, true, true, true, true, true, false, false, false] rfl rfl (by kernel_rfl) (by decide) (fun K hK => ?_)
              refine Kd.R_append_rows_step (Kd.int .u8) (w0 := w6) (W := wr.drew) w6.heap.size (by rfl) (.tmp 79) (.tmp 83) 40 5 (.int .u8 0) 1 rfl Tryd.underlying40 info5 rfl (by decide) (by decide) (.slice A3 n3 c3) ((ea.take j).flatten) (x) (some (ad.add (j * 32))) 32 32 (fun _ => True) (fun _ => False) rfl rfl (Kd.R_drew HR1.out) (HX.out _ (below_drew HB.out)) (fun _ _ h => h) (fun _ h => h.elim) (fun _ _ => trivial) (below_drew HB.out) ((below_drew HB.out)).size (by omega) ?_
              intro v1 W1 ho1 hb1 hg1 hat1
              refine hK.out _ _ trivial (fun _ => ?_)
              clear hK K
              refine norm_ (a' := ?_) ?_ ?_
              rotate_left
              · show Act.put _ (some 84) _ = _
                simp only [Act.put, List.setIfInBounds_toArray, List.set_cons_zero, List.set_cons_succ, i64_w, i32_w]
                rfl
              have hy1 := Kd.R_grown2 (Kd.R_drew HR2.out) rfl hg1 HNE1.out
              have hne1 := ne_after (Kd.R_drew HR2.out) HNE1.out hat1
              have hne1' := ne_turn hne1
              refine one_ (i := 11) (N := some 90) #[true, true, true, true, true, true, true, true, true, true, true, true, false, false] rfl rfl (by kernel_rfl) (by decide) (fun K hK => ?_)
              refine Kd.R_append_rows_step (Kd.int .u8) (w0 := w6) (W := W1) w6.heap.size (by rfl) (.tmp 85) (.tmp 89) 40 5 (.int .u8 0) 1 rfl Tryd.underlying40 info5 rfl (by decide) (by decide) (.slice A4 n4 c4) ((eb.take j).flatten) (y) (some (bd.add (j * 32))) 32 32 (fun _ => True) (fun _ => False) rfl rfl hy1 (HY.out _ hb1) (fun _ _ h => h) (fun _ h => h.elim) (fun _ _ => trivial) hb1 (hb1).size (by omega) ?_
              intro v2 W2 ho2 hb2 hg2 hat2
              refine hK.out _ _ trivial (fun _ => ?_)
              clear hK K
              refine norm_ (a' := ?_) ?_ ?_
              rotate_left
              · show Act.put _ (some 90) _ = _
                simp only [Act.put, List.setIfInBounds_toArray, List.set_cons_zero, List.set_cons_succ, i64_w, i32_w]
                rfl
              have hx2 := Kd.R_grown2 ho1 rfl hg2 hne1'
              have hne2 := ne_turn (ne_after ho1 hne1' hat2)
              rw [← HFA.out] at hx2
              rw [← HFB.out] at ho2
              have HR1n := Aside0.mk hx2
              have HR2n := Aside0.mk ho2
              have HNEn := Aside0.mk hne2
              have HBn := Aside0.mk hb2
              clear ho1 hb1 hg1 hat1 hy1 hne1 hne1' ho2 hb2 hg2 hat2 hx2 hne2
              refine pure_ (i := 12) (N := some 12) (v := ?_) (a' := ?_) #[true, true, true, true, true, true, true, true, true, true, true, true, true, false] rfl rfl (by kernel_rfl) (fun _ _ _ h => h) (Or.inl ⟨by rfl, ?_⟩) ?_ ?_
              rotate_left
              · intro w'
                go_simp
                with_reducible rfl
              rotate_left
              · simp only [Act.put, List.setIfInBounds_toArray, List.set_cons_zero, List.set_cons_succ, i64_w, i32_w]
                rfl
              refine pure_ (i := 13) (N := some 13) (v := ?_) (a' := ?_) #[true, true, true, true, true, true, true, true, true, true, true, true, true, true] rfl rfl (by kernel_rfl) (fun _ _ _ h => h) (Or.inl ⟨by rfl, ?_⟩) ?_ ?_
              rotate_left
              · intro w'
                go_simp
                with_reducible rfl
              rotate_left
              · simp only [Act.put, List.setIfInBounds_toArray, List.set_cons_zero, List.set_cons_succ, i64_w, i32_w]
                rfl
              refine done_ (by kernel_rfl) ?_
              go_wp2_with fail
              go_roundw
              case rel => exact ⟨j + 1, by omega, by push_cast; rfl, HR1n, HR2n, HNEn, HBn⟩
              case measure => show 19 - ((j : Int) + 1).toNat < 19 - ((j : Int)).toNat; omega
            · obtain rfl : j = 19 := by omega
              have htag1 : tagged (bytesOf tagPublic) (ea.take 19).flatten = p := by
                rw [List.take_of_length_le (by rw [Kd.C_len HA6.out]; exact Nat.le_refl _), HEA.out]
                exact HV1.out.2
              have htag2 : tagged (bytesOf tagPublic) (eb.take 19).flatten = p := by
                rw [List.take_of_length_le (by rw [Kd.C_len HE6.out]; exact Nat.le_refl _), HEB.out]
                exact HV2.out.2
              have HT1 := Aside0.mk (fun W (h : Below w6.heap.size w6 W) (hC : Kd.C (Kd.int .u8) W A3 n3 (ea.take 19).flatten) => Tagged_any tagPublic A3 n3 c3 _ W (by decide) hC hc3 (by omega) (HT.out.below (HB6.out.trans (h.mono HB6.out.size))))
              have HT2 := Aside0.mk (fun W (h : Below w6.heap.size w6 W) (hC : Kd.C (Kd.int .u8) W A4 n4 (eb.take 19).flatten) => Tagged_any tagPublic A4 n4 c4 _ W (by decide) hC hc4 (by omega) (HT.out.below (HB6.out.trans (h.mono HB6.out.size))))
              rw [htag1] at HT1
              rw [htag2] at HT2
              have hEq := fun w' => eq_dig w' p p HP.out HP.out
              rw [beq_self_eq_true] at hEq
              clear htag1 htag2
              go_wp2_with fail
              refine (HT1.out wr HB.out HC3.out).mono ?_
              rintro e w7 ⟨rfl, hb7⟩
              have HB7 : Aside0 (Below w6.heap.size w6 w7) := ⟨HB.out.trans (hb7.mono HB.out.size)⟩
              have hC4' := Kd.C_below HC4.out hb7
              clear hb7
              go_wp2_with fail
              refine (HT2.out w7 HB7.out hC4').mono ?_
              rintro e w8 ⟨rfl, hb8⟩
              have HB8 : Aside0 (Below w.heap.size w w8) := ⟨HB6.out.trans ((HB7.out.trans (hb8.mono HB7.out.size)).mono HB6.out.size)⟩
              clear hb8 hC4'
              go_wp2_with fail
              go_ret
              exact ⟨rfl, HB8.out⟩
        | true =>
          have hab' : endsD m s 19 = endsD m t 19 := by rw [← HEA.out, ← HEB.out]; simpa using hab
          have HEND : Aside0 (∀ i, i < 19 → endD m s i = endD m t i) := ⟨ends_at hab'⟩
          clear hab hab'
          have HSy6 : Aside0 (Kd.C KdD w6 A 19 s) := ⟨Kd.C_below HS.out HB6.out⟩
          have HUy6 : Aside0 (Kd.C KdD w6 B 19 t) := ⟨Kd.C_below HU.out HB6.out⟩
          have HT6 := Aside0.mk (HT.out.below HB6.out)
          go_wp2_with fail
          go_loopw [99] (fun i wr => ∃ j : Nat, j ≤ 19 ∧ i = .int .i64 (j : Int) ∧ Aside0 (∀ q, q < j → s.getD q [] = t.getD q []) ∧ Aside0 (Below w6.heap.size w6 wr)) (fun i _ => 19 - (intOf i).toNat)
          case atStart => exact ⟨0, by omega, rfl, ⟨fun q hq => by omega⟩, ⟨Below.refl _ _⟩⟩
          case round =>
            rename World => wo
            obtain ⟨j, hj, rfl, HEQ, HB⟩ := hrel
            by_cases hlt : j < 19
            · have c100 : decide ((j : Int) < 19) = true := decide_eq_true (by omega)
              have p1 := eq_true (show 0 ≤ (j : Int) by omega)
              have p2 := eq_true (show (j : Int) < 19 by omega)
              have hdg := digits_range m j hlt
              obtain ⟨g, hg⟩ : ∃ g, g = rd (digits m) (j : Int) := ⟨_, rfl⟩
              rw [← hg] at hdg
              have HG := Aside0.mk hg
              have hend := HEND.out j hlt
              rw [endD, endD, ← hg] at hend
              obtain ⟨ad, rfl, hlx, -⟩ := at_dig HSy6.out j hlt
              obtain ⟨bd, rfl, hly, -⟩ := at_dig HUy6.out j hlt
              have hXc : ∀ W : World, Below wo.heap.size wo W → ∀ q v, (cells8 (s.getD j [])).toList[q]? = some v → W.cell? ((ad.add (j * 32)).add q) = some v := fun W h => by
                obtain ⟨ad', e', _, hc'⟩ := at_dig (Kd.C_below (Kd.C_below HSy6.out HB.out) h) j hlt
                cases e'
                exact hc'
              have hYc : ∀ W : World, Below wo.heap.size wo W → ∀ q v, (cells8 (t.getD j [])).toList[q]? = some v → W.cell? ((bd.add (j * 32)).add q) = some v := fun W h => by
                obtain ⟨ad', e', _, hc'⟩ := at_dig (Kd.C_below (Kd.C_below HUy6.out HB.out) h) j hlt
                cases e'
                exact hc'
              obtain ⟨x, hx⟩ : ∃ x, x = s.getD j [] := ⟨_, rfl⟩
              obtain ⟨y, hy⟩ : ∃ y, y = t.getD j [] := ⟨_, rfl⟩
              rw [← hx] at hlx hXc hend
              rw [← hy] at hly hYc hend
              have HXc := Aside0.mk hXc
              have HYc := Aside0.mk hYc
              have HX := Aside0.mk hx
              have HY := Aside0.mk hy
              have HEN := Aside0.mk hend
              have HLx := Aside0.mk hlx
              have HLy := Aside0.mk hly
              have HSx := Aside0.mk (size32 x hlx)
              have HSy := Aside0.mk (size32 y hly)
              have HOx : Aside0 ((#[.int .u8 0, .int .u8 0, .int .u8 0, .int .u8 0, .int .u8 0, .int .u8 0, .int .u8 0, .int .u8 0, .int .u8 0, .int .u8 0, .int .u8 0, .int .u8 0, .int .u8 0, .int .u8 0, .int .u8 0, .int .u8 0, .int .u8 0, .int .u8 0, .int .u8 0, .int .u8 0, .int .u8 0, .int .u8 0, .int .u8 0, .int .u8 0, .int .u8 0, .int .u8 0, .int .u8 0, .int .u8 0, .int .u8 0, .int .u8 0, .int .u8 0, .int .u8 0] : Array Value).size = (cells8 x).size) := ⟨by rw [cells8_size, hlx]; rfl⟩
              have HOy : Aside0 ((#[.int .u8 0, .int .u8 0, .int .u8 0, .int .u8 0, .int .u8 0, .int .u8 0, .int .u8 0, .int .u8 0, .int .u8 0, .int .u8 0, .int .u8 0, .int .u8 0, .int .u8 0, .int .u8 0, .int .u8 0, .int .u8 0, .int .u8 0, .int .u8 0, .int .u8 0, .int .u8 0, .int .u8 0, .int .u8 0, .int .u8 0, .int .u8 0, .int .u8 0, .int .u8 0, .int .u8 0, .int .u8 0, .int .u8 0, .int .u8 0, .int .u8 0, .int .u8 0] : Array Value).size = (cells8 y).size) := ⟨by rw [cells8_size, hly]; rfl⟩
              clear hXc hYc hg hx hy hend hlx hly
              go_wp2_with fail
              refine start_ (n := 12) (S := fun W => Below wo.heap.size wo W) (ds := []) #[false, false, false, false, false, false, false, false, false, false, false, false] (by kernel_rfl) rfl rfl (below_drew (Below.refl _ _)) (fun hHeld => ?_)
              refine pure_ (i := 0) (N := some 102) (v := ?_) (a' := ?_) #[true, false, false, false, false, false, false, false, false, false, false, false] rfl rfl (by kernel_rfl) (fun _ _ _ h => h) (Or.inl ⟨by rfl, ?_⟩) ?_ ?_
              rotate_left
              · intro w'
                go_simp
                with_reducible rfl
              rotate_left
              · simp only [Act.put, List.setIfInBounds_toArray, List.set_cons_zero, List.set_cons_succ, i64_w, i32_w]
                rfl
              refine pure_ (i := 1) (N := some 103) (v := ?_) (a' := ?_) #[true, true, false, false, false, false, false, false, false, false, false, false] rfl rfl (by kernel_rfl) (fun _ _ _ h => h) (Or.inl ⟨by rfl, ?_⟩) ?_ ?_
              rotate_left
              · intro w'
                go_simp
                with_reducible rfl
              rotate_left
              · simp only [Act.put, List.setIfInBounds_toArray, List.set_cons_zero, List.set_cons_succ, i64_w, i32_w]
                rfl
              refine pure_ (i := 2) (N := some 104) (v := ?_) (a' := ?_) #[true, true, true, false, false, false, false, false, false, false, false, false] rfl rfl (by kernel_rfl) (fun _ _ _ h => h) (Or.inl ⟨by rfl, ?_⟩) ?_ ?_
              rotate_left
              · intro w'
                go_simp
                with_reducible rfl
              rotate_left
              · simp only [Act.put, List.setIfInBounds_toArray, List.set_cons_zero, List.set_cons_succ, i64_w, i32_w]
                rfl
              refine take_ (i := 3) (N := some 105) (v := .agg (cells8 x)) (a' := ?_) #[true, true, true, true, false, false, false, false, false, false, false, false] rfl rfl (by kernel_rfl) (fun _ _ _ h => h) (Or.inl ⟨by rfl, fun w' s0 => load_run_at 23 (.tmp 104) rfl (ad.add (j * 32)) rfl _ _ (HXc.out w' s0) Tryd.underlying23 rfl HSx.out⟩) hHeld ?_ ?_
              rotate_left
              · simp only [Act.put, List.setIfInBounds_toArray, List.set_cons_zero, List.set_cons_succ, i64_w, i32_w]
                rfl
              refine pure_ (i := 4) (N := some 106) (v := ?_) (a' := ?_) #[true, true, true, true, true, false, false, false, false, false, false, false] rfl rfl (by kernel_rfl) (fun _ _ _ h => h) (Or.inl ⟨by rfl, ?_⟩) ?_ ?_
              rotate_left
              · intro w'
                go_simp
                with_reducible rfl
              rotate_left
              · simp only [Act.put, List.setIfInBounds_toArray, List.set_cons_zero, List.set_cons_succ, i64_w, i32_w]
                rfl
              refine pure_ (i := 5) (N := some 107) (v := ?_) (a' := ?_) #[true, true, true, true, true, true, false, false, false, false, false, false] rfl rfl (by kernel_rfl) (fun _ _ _ h => h) (Or.inl ⟨by rfl, ?_⟩) ?_ ?_
              rotate_left
              · intro w'
                go_simp
                with_reducible rfl
              rotate_left
              · simp only [Act.put, List.setIfInBounds_toArray, List.set_cons_zero, List.set_cons_succ, i64_w, i32_w]
                rfl
              refine pure_ (i := 6) (N := some 108) (v := ?_) (a' := ?_) #[true, true, true, true, true, true, true, false, false, false, false, false] rfl rfl (by kernel_rfl) (fun _ _ _ h => h) (Or.inl ⟨by rfl, ?_⟩) ?_ ?_
              rotate_left
              · intro w'
                go_simp
                with_reducible rfl
              rotate_left
              · simp only [Act.put, List.setIfInBounds_toArray, List.set_cons_zero, List.set_cons_succ, i64_w, i32_w]
                rfl
              refine take_ (i := 7) (N := some 109) (v := .agg (cells8 y)) (a' := ?_) #[true, true, true, true, true, true, true, true, false, false, false, false] rfl rfl (by kernel_rfl) (fun _ _ _ h => h) (Or.inl ⟨by rfl, fun w' s0 => load_run_at 23 (.tmp 108) rfl (bd.add (j * 32)) rfl _ _ (HYc.out w' s0) Tryd.underlying23 rfl HSy.out⟩) hHeld ?_ ?_
              rotate_left
              · simp only [Act.put, List.setIfInBounds_toArray, List.set_cons_zero, List.set_cons_succ, i64_w, i32_w]
                rfl
              refine join_ (σ := Nat × Nat) 2 #[true, true, true, true, true, true, true, true, true, true, false, false] (fun s => [(16, .pointer (some ⟨s.1, 0, none⟩)), (17, .pointer (some ⟨s.2, 0, none⟩))]) (fun s W => W.heap[s.1]? = some (.cells #[.int .u8 0, .int .u8 0, .int .u8 0, .int .u8 0, .int .u8 0, .int .u8 0, .int .u8 0, .int .u8 0, .int .u8 0, .int .u8 0, .int .u8 0, .int .u8 0, .int .u8 0, .int .u8 0, .int .u8 0, .int .u8 0, .int .u8 0, .int .u8 0, .int .u8 0, .int .u8 0, .int .u8 0, .int .u8 0, .int .u8 0, .int .u8 0, .int .u8 0, .int .u8 0, .int .u8 0, .int .u8 0, .int .u8 0, .int .u8 0, .int .u8 0, .int .u8 0] 23 (0, 0)) ∧ W.heap[s.2]? = some (.cells #[.int .u8 0, .int .u8 0, .int .u8 0, .int .u8 0, .int .u8 0, .int .u8 0, .int .u8 0, .int .u8 0, .int .u8 0, .int .u8 0, .int .u8 0, .int .u8 0, .int .u8 0, .int .u8 0, .int .u8 0, .int .u8 0, .int .u8 0, .int .u8 0, .int .u8 0, .int .u8 0, .int .u8 0, .int .u8 0, .int .u8 0, .int .u8 0, .int .u8 0, .int .u8 0, .int .u8 0, .int .u8 0, .int .u8 0, .int .u8 0, .int .u8 0, .int .u8 0] 23 (0, 0)) ∧ s.1 ≠ s.2 ∧ wo.heap.size ≤ s.1 ∧ wo.heap.size ≤ s.2 ∧ Below wo.heap.size wo W) ?cont ?forks
              rotate_left
              · intro hcont
                refine two_ (i := 8) (j := 9) (Ni := some 16) (Nj := some 17) #[true, true, true, true, true, true, true, true, true, false, false, false] #[true, true, true, true, true, true, true, true, false, true, false, false] rfl rfl rfl rfl (by kernel_rfl) (by decide) (by decide) (fun K hK => ?_) (fun K hK => ?_)
                · refine value_ (by rfl) rfl (alloc_run rfl _) ?_
                  refine hK.out _ _ (below_alloc hHeld _) (fun hNew => ?_)
                  clear hHeld hK K
                  have hHeld := hNew
                  clear hNew
                  refine norm_ (a' := ?_) ?_ ?_
                  rotate_left
                  · show Act.put _ (some 16) _ = _
                    simp only [Act.put, List.setIfInBounds_toArray, List.set_cons_zero, List.set_cons_succ, i64_w, i32_w]
                    rfl
                  refine one_ (i := 9) (N := some 17) #[true, true, true, true, true, true, true, true, true, true, false, false] rfl rfl (by kernel_rfl) (by decide) (fun K hK => ?_)
                  refine value_ (by rfl) rfl (alloc_run rfl _) ?_
                  refine hK.out _ _ (below_alloc hHeld _) (fun hNew => ?_)
                  clear hHeld hK K
                  have hHeld := hNew
                  clear hNew
                  refine norm_ (a' := ?_) ?_ ?_
                  rotate_left
                  · show Act.put _ (some 17) _ = _
                    simp only [Act.put, List.setIfInBounds_toArray, List.set_cons_zero, List.set_cons_succ, i64_w, i32_w]
                    rfl
                  exact hcont (wo.drew.heap.size, (wo.drew.alloc (.cells #[.int .u8 0, .int .u8 0, .int .u8 0, .int .u8 0, .int .u8 0, .int .u8 0, .int .u8 0, .int .u8 0, .int .u8 0, .int .u8 0, .int .u8 0, .int .u8 0, .int .u8 0, .int .u8 0, .int .u8 0, .int .u8 0, .int .u8 0, .int .u8 0, .int .u8 0, .int .u8 0, .int .u8 0, .int .u8 0, .int .u8 0, .int .u8 0, .int .u8 0, .int .u8 0, .int .u8 0, .int .u8 0, .int .u8 0, .int .u8 0, .int .u8 0, .int .u8 0] 23)).heap.size) _ ⟨blk_alloc (heap_alloc_new _ _) _, heap_alloc_new _ _, by simp, by simp, by simp, hHeld⟩
                · refine value_ (by rfl) rfl (alloc_run rfl _) ?_
                  refine hK.out _ _ (below_alloc hHeld _) (fun hNew => ?_)
                  clear hHeld hK K
                  have hHeld := hNew
                  clear hNew
                  refine norm_ (a' := ?_) ?_ ?_
                  rotate_left
                  · show Act.put _ (some 17) _ = _
                    simp only [Act.put, List.setIfInBounds_toArray, List.set_cons_zero, List.set_cons_succ, i64_w, i32_w]
                    rfl
                  refine one_ (i := 8) (N := some 16) #[true, true, true, true, true, true, true, true, true, true, false, false] rfl rfl (by kernel_rfl) (by decide) (fun K hK => ?_)
                  refine value_ (by rfl) rfl (alloc_run rfl _) ?_
                  refine hK.out _ _ (below_alloc hHeld _) (fun hNew => ?_)
                  clear hHeld hK K
                  have hHeld := hNew
                  clear hNew
                  refine norm_ (a' := ?_) ?_ ?_
                  rotate_left
                  · show Act.put _ (some 16) _ = _
                    simp only [Act.put, List.setIfInBounds_toArray, List.set_cons_zero, List.set_cons_succ, i64_w, i32_w]
                    rfl
                  exact hcont ((wo.drew.alloc (.cells #[.int .u8 0, .int .u8 0, .int .u8 0, .int .u8 0, .int .u8 0, .int .u8 0, .int .u8 0, .int .u8 0, .int .u8 0, .int .u8 0, .int .u8 0, .int .u8 0, .int .u8 0, .int .u8 0, .int .u8 0, .int .u8 0, .int .u8 0, .int .u8 0, .int .u8 0, .int .u8 0, .int .u8 0, .int .u8 0, .int .u8 0, .int .u8 0, .int .u8 0, .int .u8 0, .int .u8 0, .int .u8 0, .int .u8 0, .int .u8 0, .int .u8 0, .int .u8 0] 23)).heap.size, wo.drew.heap.size) _ ⟨heap_alloc_new _ _, blk_alloc (heap_alloc_new _ _) _, by simp, by simp, by simp, hHeld⟩
              rintro ⟨g1, g2⟩ W1 ⟨hg1, hg2, hgne, hle1, hle2, hHeld⟩
              refine norm_ (a' := ?_) ?_ ?_
              rotate_left
              · show Act.put (Act.put _ (some 16) _) (some 17) _ = _
                simp only [Act.put, List.setIfInBounds_toArray, List.set_cons_zero, List.set_cons_succ, i64_w, i32_w]
                rfl
              replace hle1 : wo.heap.size ≤ g1 := hle1
              replace hle2 : wo.heap.size ≤ g2 := hle2
              replace hgne : g1 ≠ g2 := hgne
              refine one_ (i := 10) (N := none) #[true, true, true, true, true, true, true, true, true, true, true, false] rfl rfl (by kernel_rfl) (by decide) (fun K hK => ?_)
              refine store_row_ (by rfl) 23 (.tmp 16) (.tmp 105) rfl rfl (g1) (cells8 x) rfl rfl 23 (#[.int .u8 0, .int .u8 0, .int .u8 0, .int .u8 0, .int .u8 0, .int .u8 0, .int .u8 0, .int .u8 0, .int .u8 0, .int .u8 0, .int .u8 0, .int .u8 0, .int .u8 0, .int .u8 0, .int .u8 0, .int .u8 0, .int .u8 0, .int .u8 0, .int .u8 0, .int .u8 0, .int .u8 0, .int .u8 0, .int .u8 0, .int .u8 0, .int .u8 0, .int .u8 0, .int .u8 0, .int .u8 0, .int .u8 0, .int .u8 0, .int .u8 0, .int .u8 0]) (hg1) (HSx.out) (HOx.out) (all_one8 _) ?_
              refine hK.out _ _ (below_setRow hHeld hle1 _) (fun hNew => ?_)
              clear hHeld hK K
              have hHeld := hNew
              clear hNew
              have hg2' : (W1.setRow g1 (cells8 x)).heap[g2]? = some (.cells #[.int .u8 0, .int .u8 0, .int .u8 0, .int .u8 0, .int .u8 0, .int .u8 0, .int .u8 0, .int .u8 0, .int .u8 0, .int .u8 0, .int .u8 0, .int .u8 0, .int .u8 0, .int .u8 0, .int .u8 0, .int .u8 0, .int .u8 0, .int .u8 0, .int .u8 0, .int .u8 0, .int .u8 0, .int .u8 0, .int .u8 0, .int .u8 0, .int .u8 0, .int .u8 0, .int .u8 0, .int .u8 0, .int .u8 0, .int .u8 0, .int .u8 0, .int .u8 0] 23 (0, 0)) := (setRow_other _ _ _ _ (fun e => hgne e.symm)).trans hg2
              have hg1' := setRow_heap _ _ _ (cells8 x) _ _ hg1
              refine one_ (i := 11) (N := none) #[true, true, true, true, true, true, true, true, true, true, true, true] rfl rfl (by kernel_rfl) (by decide) (fun K hK => ?_)
              refine store_row_ (by rfl) 23 (.tmp 17) (.tmp 109) rfl rfl (g2) (cells8 y) rfl rfl 23 (#[.int .u8 0, .int .u8 0, .int .u8 0, .int .u8 0, .int .u8 0, .int .u8 0, .int .u8 0, .int .u8 0, .int .u8 0, .int .u8 0, .int .u8 0, .int .u8 0, .int .u8 0, .int .u8 0, .int .u8 0, .int .u8 0, .int .u8 0, .int .u8 0, .int .u8 0, .int .u8 0, .int .u8 0, .int .u8 0, .int .u8 0, .int .u8 0, .int .u8 0, .int .u8 0, .int .u8 0, .int .u8 0, .int .u8 0, .int .u8 0, .int .u8 0, .int .u8 0]) (hg2') (HSy.out) (HOy.out) (all_one8 _) ?_
              refine hK.out _ _ (below_setRow hHeld hle2 _) (fun hNew => ?_)
              clear hHeld hK K
              have hHeld := hNew
              clear hNew
              refine done_ (by kernel_rfl) ?_
              obtain ⟨W3, hW3⟩ : ∃ z, z = (W1.setRow g1 (cells8 x)).setRow g2 (cells8 y) := ⟨_, rfl⟩
              rw [← hW3] at hHeld ⊢
              have HG1 : Aside0 (W3.heap[g1]? = some (.cells (cells8 x) 23 (0, 0))) := ⟨by rw [hW3]; exact (setRow_other _ _ _ _ hgne).trans hg1'⟩
              have HG2 : Aside0 (W3.heap[g2]? = some (.cells (cells8 y) 23 (0, 0))) := ⟨by rw [hW3]; exact setRow_heap _ _ _ _ _ _ hg2'⟩
              have HB3 := Aside0.mk hHeld
              clear hW3 hg1 hg2 hg1' hg2' hHeld
              have hdc := blkdig (Kd.C_below (Kd.C_below HC6.out HB.out) HB3.out) j hlt
              rw [← HG.out] at hdc
              go_wp2_with fail
              go_loopw [18] (fun v wi => ∃ q : Nat, g + (q : Int) ≤ 3 ∧ v = .int .i64 (g + (q : Int)) ∧ Aside0 (wi.heap[g1]? = some (.cells (cells8 (stepsD x q)) 23 (0, 0))) ∧ Aside0 (wi.heap[g2]? = some (.cells (cells8 (stepsD y q)) 23 (0, 0))) ∧ Aside0 (x = y ∨ stepsD x q ≠ stepsD y q) ∧ Aside0 (Below wo.heap.size wo wi)) (fun v _ => 3 - (intOf v).toNat)
              case atStart => exact ⟨0, by omega, by simp, HG1, HG2, ⟨by rw [stepsD, stepsD]; exact Classical.em _⟩, HB3⟩
              case round =>
                rename World => wi
                obtain ⟨q, hq, rfl, HX1, HY1, HOR, HBi⟩ := hrel
                have HLx1 : Aside0 ((stepsD x q).length = 32) := ⟨stepsD_length x HLx.out q⟩
                have HLy1 : Aside0 ((stepsD y q).length = 32) := ⟨stepsD_length y HLy.out q⟩
                have HSx1 := Aside0.mk (size32 _ HLx1.out)
                have HSy1 := Aside0.mk (size32 _ HLy1.out)
                have HTi : Aside0 (∀ W : World, Below wi.heap.size wi W → Tabs W) := ⟨fun W h => (HT6.out.below HB.out).below (HBi.out.trans (h.mono HBi.out.size))⟩
                by_cases hlt3 : g + (q : Int) < 3
                · have c115 : decide (g + (q : Int) < 3) = true := decide_eq_true hlt3
                  have hwr : wrap64 (g + (q : Int) + 1) = g + (q : Int) + 1 := by unfold wrap64; omega
                  have HSQ : Aside0 (stepsD x (q + 1) = stepD (stepsD x q) ∧ stepsD y (q + 1) = stepD (stepsD y q)) := ⟨rfl, rfl⟩
                  obtain ⟨x1, hx1⟩ : ∃ z, z = stepsD x q := ⟨_, rfl⟩
                  obtain ⟨y1, hy1⟩ : ∃ z, z = stepsD y q := ⟨_, rfl⟩
                  rw [← hx1] at HX1 HLx1 HSx1 HOR HSQ
                  rw [← hy1] at HY1 HLy1 HSy1 HOR HSQ
                  have HX1e := Aside0.mk hx1
                  have HY1e := Aside0.mk hy1
                  obtain ⟨x2, hx2⟩ : ∃ z, z = stepD x1 := ⟨_, rfl⟩
                  obtain ⟨y2, hy2⟩ : ∃ z, z = stepD y1 := ⟨_, rfl⟩
                  have HCx := Aside0.mk (fun W (h : Tabs W) => step_calls x1 HLx1.out W h)
                  have HCy := Aside0.mk (fun W (h : Tabs W) => step_calls y1 HLy1.out W h)
                  have HLx2 : Aside0 (x2.length = 32) := ⟨by rw [hx2]; exact stepD_length _⟩
                  have HLy2 : Aside0 (y2.length = 32) := ⟨by rw [hy2]; exact stepD_length _⟩
                  rw [← hx2] at HCx
                  rw [← hy2] at HCy
                  rw [← hx2, ← hy2] at HSQ
                  have HSx2 := Aside0.mk (size32 x2 HLx2.out)
                  have HSy2 := Aside0.mk (size32 y2 HLy2.out)
                  have HOx2 : Aside0 ((cells8 x1).size = (cells8 x2).size) := ⟨by rw [cells8_size, cells8_size, HLx1.out, HLx2.out]⟩
                  have HOy2 : Aside0 ((cells8 y1).size = (cells8 y2).size) := ⟨by rw [cells8_size, cells8_size, HLy1.out, HLy2.out]⟩
                  clear hx1 hy1 hx2 hy2
                  by_cases hxy : x1 = y1
                  · have HXY : Aside0 (x = y) := ⟨by rcases HOR.out with h | h; exact h; exact absurd hxy h⟩
                    have hEq := fun w' => eq_dig w' x1 y1 HLx1.out HLy1.out
                    rw [show (x1 == y1) = true from by simpa using hxy] at hEq
                    have HXYe := Aside0.mk hxy
                    clear hxy
                    go_wp2_with fail
                    refine start_ (n := 10) (S := fun W => W.heap[g1]? = some (.cells (cells8 x1) 23 (0, 0)) ∧ W.heap[g2]? = some (.cells (cells8 y1) 23 (0, 0)) ∧ Below wi.heap.size wi W) (ds := []) #[false, false, false, false, false, false, false, false, false, false] (by kernel_rfl) rfl rfl (⟨HX1.out, HY1.out, below_drew (Below.refl _ _)⟩) (fun hHeld => ?_)
                    refine take_ (i := 0) (N := some 118) (v := .agg (cells8 x1)) (a' := ?_) #[true, false, false, false, false, false, false, false, false, false] rfl rfl (by kernel_rfl) (fun _ _ _ h => h) (Or.inl ⟨by rfl, fun w' s0 => load_run 23 (.tmp 16) rfl g1 rfl 23 _ (0, 0) _ s0.1 Tryd.underlying23 rfl HSx1.out⟩) hHeld ?_ ?_
                    rotate_left
                    · simp only [Act.put, List.setIfInBounds_toArray, List.set_cons_zero, List.set_cons_succ, i64_w, i32_w]
                      rfl
                    refine take_ (i := 1) (N := some 119) (v := .agg (cells8 y1)) (a' := ?_) #[true, true, false, false, false, false, false, false, false, false] rfl rfl (by kernel_rfl) (fun _ _ _ h => h) (Or.inl ⟨by rfl, fun w' s0 => load_run 23 (.tmp 17) rfl g2 rfl 23 _ (0, 0) _ s0.2.1 Tryd.underlying23 rfl HSy1.out⟩) hHeld ?_ ?_
                    rotate_left
                    · simp only [Act.put, List.setIfInBounds_toArray, List.set_cons_zero, List.set_cons_succ, i64_w, i32_w]
                      rfl
                    refine pure_ (i := 2) (N := some 120) (v := ?_) (a' := ?_) #[true, true, true, false, false, false, false, false, false, false] rfl rfl (by kernel_rfl) (fun _ _ _ h => h) (Or.inl ⟨by rfl, ?_⟩) ?_ ?_
                    rotate_left
                    · intro w'
                      go_simp
                      with_reducible rfl
                    rotate_left
                    · simp only [Act.put, List.setIfInBounds_toArray, List.set_cons_zero, List.set_cons_succ, i64_w, i32_w]
                      rfl
                    refine pure_ (i := 3) (N := some 121) (v := ?_) (a' := ?_) #[true, true, true, true, false, false, false, false, false, false] rfl rfl (by kernel_rfl) (fun _ _ _ h => h) (Or.inl ⟨by rfl, ?_⟩) ?_ ?_
                    rotate_left
                    · intro w'
                      go_simp
                      with_reducible rfl
                    rotate_left
                    · simp only [Act.put, List.setIfInBounds_toArray, List.set_cons_zero, List.set_cons_succ, i64_w, i32_w]
                      rfl
                    refine pure_ (i := 4) (N := some 122) (v := undef) (a' := ?_) #[true, true, true, true, true, false, false, false, false, false] rfl rfl (by kernel_rfl) (fun _ _ _ h => h) (Or.inr ⟨by rfl, rfl⟩) ?_ ?_
                    rotate_left
                    · simp only [Act.put, List.setIfInBounds_toArray, List.set_cons_zero, List.set_cons_succ, i64_w, i32_w]
                      rfl
                    refine pure_ (i := 5) (N := some 123) (v := undef) (a' := ?_) #[true, true, true, true, true, true, false, false, false, false] rfl rfl (by kernel_rfl) (fun _ _ _ h => h) (Or.inr ⟨by rfl, rfl⟩) ?_ ?_
                    rotate_left
                    · simp only [Act.put, List.setIfInBounds_toArray, List.set_cons_zero, List.set_cons_succ, i64_w, i32_w]
                      rfl
                    refine pure_ (i := 6) (N := some 124) (v := undef) (a' := ?_) #[true, true, true, true, true, true, true, false, false, false] rfl rfl (by kernel_rfl) (fun _ _ _ h => h) (Or.inr ⟨by rfl, rfl⟩) ?_ ?_
                    rotate_left
                    · simp only [Act.put, List.setIfInBounds_toArray, List.set_cons_zero, List.set_cons_succ, i64_w, i32_w]
                      rfl
                    refine pure_ (i := 7) (N := some 125) (v := undef) (a' := ?_) #[true, true, true, true, true, true, true, true, false, false] rfl rfl (by kernel_rfl) (fun _ _ _ h => h) (Or.inr ⟨by rfl, rfl⟩) ?_ ?_
                    rotate_left
                    · simp only [Act.put, List.setIfInBounds_toArray, List.set_cons_zero, List.set_cons_succ, i64_w, i32_w]
                      rfl
                    refine pure_ (i := 8) (N := some 126) (v := undef) (a' := ?_) #[true, true, true, true, true, true, true, true, true, false] rfl rfl (by kernel_rfl) (fun _ _ _ h => h) (Or.inr ⟨by rfl, rfl⟩) ?_ ?_
                    rotate_left
                    · simp only [Act.put, List.setIfInBounds_toArray, List.set_cons_zero, List.set_cons_succ, i64_w, i32_w]
                      rfl
                    refine pure_ (i := 9) (N := some 127) (v := ?_) (a' := ?_) #[true, true, true, true, true, true, true, true, true, true] rfl rfl (by kernel_rfl) (fun _ _ _ h => h) (Or.inl ⟨by rfl, ?_⟩) ?_ ?_
                    rotate_left
                    · intro w'
                      go_simp
                      with_reducible rfl
                    rotate_left
                    · simp only [Act.put, List.setIfInBounds_toArray, List.set_cons_zero, List.set_cons_succ, i64_w, i32_w]
                      rfl
                    refine done_ (by kernel_rfl) ?_
                    obtain ⟨wj, hwj⟩ : ∃ z, z = wi.drew := ⟨_, rfl⟩
                    rw [← hwj] at hHeld ⊢
                    clear hwj
                    have HX2 := Aside0.mk hHeld.1
                    have HY2 := Aside0.mk hHeld.2.1
                    have HBj := Aside0.mk hHeld.2.2
                    clear hHeld hEq
                    go_wp2_with fail
                    refine start_ (n := 6) (S := fun W => W.heap[g1]? = some (.cells (cells8 x1) 23 (0, 0)) ∧ W.heap[g2]? = some (.cells (cells8 y1) 23 (0, 0)) ∧ Below wi.heap.size wi W) (ds := [4, 5]) #[false, false, false, false, false, false] (by kernel_rfl) rfl rfl (⟨HX2.out, HY2.out, below_drew HBj.out⟩) (fun hHeld => ?_)
                    refine take_ (i := 0) (N := some 128) (v := .agg (cells8 x1)) (a' := ?_) #[true, false, false, false, false, false] rfl rfl (by kernel_rfl) (fun _ _ _ h => h) (Or.inl ⟨by rfl, fun w' s0 => load_run 23 (.tmp 16) rfl g1 rfl 23 _ (0, 0) _ s0.1 Tryd.underlying23 rfl HSx1.out⟩) hHeld ?_ ?_
                    rotate_left
                    · simp only [Act.put, List.setIfInBounds_toArray, List.set_cons_zero, List.set_cons_succ, i64_w, i32_w]
                      rfl
                    refine take_ (i := 2) (N := some 130) (v := .agg (cells8 y1)) (a' := ?_) #[true, false, true, false, false, false] rfl rfl (by kernel_rfl) (fun _ _ _ h => h) (Or.inl ⟨by rfl, fun w' s0 => load_run 23 (.tmp 17) rfl g2 rfl 23 _ (0, 0) _ s0.2.1 Tryd.underlying23 rfl HSy1.out⟩) hHeld ?_ ?_
                    rotate_left
                    · simp only [Act.put, List.setIfInBounds_toArray, List.set_cons_zero, List.set_cons_succ, i64_w, i32_w]
                      rfl
                    refine one_ (i := 1) (N := some 129) #[true, true, true, false, false, false] rfl rfl (by kernel_rfl) (by decide) (fun K hK => ?_)
                    refine goes_ Tryd.func20 (by kernel_rfl) rfl #[.agg (cells8 x1)] (by rfl) rfl rfl (by (try simp only [List.map_toArray, List.map_cons, List.map_nil]); first | done | rfl) ?_
                    refine (HCx.out _ (HTi.out _ hHeld.2.2)).mono ?_
                    rintro e wY ⟨rfl, hbH⟩
                    refine ⟨_, rfl, ?_⟩
                    refine hK.out _ _ (⟨blk_of_below hHeld.1 hbH, blk_of_below hHeld.2.1 hbH, hHeld.2.2.trans (hbH.mono hHeld.2.2.size)⟩) (fun hNew => ?_)
                    clear hHeld hK K
                    have hHeld := hNew
                    clear hNew
                    refine norm_ (a' := ?_) ?_ ?_
                    rotate_left
                    · show Act.put _ (some 129) _ = _
                      simp only [Act.put, List.setIfInBounds_toArray, List.set_cons_zero, List.set_cons_succ, i64_w, i32_w]
                      rfl
                    refine one_ (i := 3) (N := some 131) #[true, true, true, true, false, false] rfl rfl (by kernel_rfl) (by decide) (fun K hK => ?_)
                    refine goes_ Tryd.func20 (by kernel_rfl) rfl #[.agg (cells8 y1)] (by rfl) rfl rfl (by (try simp only [List.map_toArray, List.map_cons, List.map_nil]); first | done | rfl) ?_
                    refine (HCy.out _ (HTi.out _ hHeld.2.2)).mono ?_
                    rintro e wk ⟨rfl, hbH2⟩
                    refine ⟨_, rfl, ?_⟩
                    refine hK.out _ _ (⟨blk_of_below hHeld.1 hbH2, blk_of_below hHeld.2.1 hbH2, hHeld.2.2.trans (hbH2.mono hHeld.2.2.size)⟩) (fun hNew => ?_)
                    clear hHeld hK K
                    have hHeld := hNew
                    clear hNew
                    refine norm_ (a' := ?_) ?_ ?_
                    rotate_left
                    · show Act.put _ (some 131) _ = _
                      simp only [Act.put, List.setIfInBounds_toArray, List.set_cons_zero, List.set_cons_succ, i64_w, i32_w]
                      rfl
                    obtain ⟨hk1, hk2, hk3⟩ := hHeld
                    clear hbH hbH2
                    refine last_ (i := 4) (N := none) #[true, true, true, true, true, false] rfl rfl (by kernel_rfl) (by decide) (fun K hK => ?_)
                    refine store_row_ (by rfl) 23 (.tmp 16) (.tmp 129) rfl rfl (g1) (cells8 x2) rfl rfl 23 (cells8 x1) (hk1) (HSx2.out) (HOx2.out) (all_one8 _) ?_
                    refine hK.out _ _ ?_
                    clear hK K
                    have hk2' : (wk.setRow g1 (cells8 x2)).heap[g2]? = some (.cells (cells8 y1) 23 (0, 0)) := (setRow_other _ _ _ _ (fun e => hgne e.symm)).trans hk2
                    have hk1' := setRow_heap _ _ _ (cells8 x2) _ _ hk1
                    refine last_ (i := 5) (N := none) #[true, true, true, true, true, true] rfl rfl (by kernel_rfl) (by decide) (fun K hK => ?_)
                    refine store_row_ (by rfl) 23 (.tmp 17) (.tmp 131) rfl rfl (g2) (cells8 y2) rfl rfl 23 (cells8 y1) (hk2') (HSy2.out) (HOy2.out) (all_one8 _) ?_
                    refine hK.out _ _ ?_
                    clear hK K
                    refine done_ (by kernel_rfl) ?_
                    obtain ⟨W5, hW5⟩ : ∃ z, z = (wk.setRow g1 (cells8 x2)).setRow g2 (cells8 y2) := ⟨_, rfl⟩
                    rw [← hW5]
                    have HG1n : Aside0 (W5.heap[g1]? = some (.cells (cells8 x2) 23 (0, 0))) := ⟨by rw [hW5]; exact (setRow_other _ _ _ _ hgne).trans hk1'⟩
                    have HG2n : Aside0 (W5.heap[g2]? = some (.cells (cells8 y2) 23 (0, 0))) := ⟨by rw [hW5]; exact setRow_heap _ _ _ _ _ _ hk2'⟩
                    have HBn : Aside0 (Below wo.heap.size wo W5) := ⟨by rw [hW5]; exact below_setRow (below_setRow (HBi.out.trans (hk3.mono HBi.out.size)) hle1 _) hle2 _⟩
                    clear hW5 hk1 hk2 hk1' hk2' hk3
                    go_wp2_with fail
                    go_roundw
                    case rel => exact ⟨q + 1, by omega, by push_cast; rw [Int.add_assoc], ⟨by rw [HSQ.out.1]; exact HG1n.out⟩, ⟨by rw [HSQ.out.2]; exact HG2n.out⟩, ⟨.inl HXY.out⟩, HBn⟩
                    case measure => simp [intOf]; omega
                  · have hEq := fun w' => eq_dig w' x1 y1 HLx1.out HLy1.out
                    rw [show (x1 == y1) = false from by simpa using hxy] at hEq
                    have hEq2 := fun w' => eq_dig w' x2 y2 HLx2.out HLy2.out
                    cases hse : (x2 == y2) with
                    | true =>
                      rw [hse] at hEq2
                      clear hse hxy
                      go_wp2_with fail
                      refine start_ (n := 10) (S := fun W => W.heap[g1]? = some (.cells (cells8 x1) 23 (0, 0)) ∧ W.heap[g2]? = some (.cells (cells8 y1) 23 (0, 0)) ∧ Below wi.heap.size wi W) (ds := []) #[false, false, false, false, false, false, false, false, false, false] (by kernel_rfl) rfl rfl (⟨HX1.out, HY1.out, below_drew (Below.refl _ _)⟩) (fun hHeld => ?_)
                      refine take_ (i := 0) (N := some 118) (v := .agg (cells8 x1)) (a' := ?_) #[true, false, false, false, false, false, false, false, false, false] rfl rfl (by kernel_rfl) (fun _ _ _ h => h) (Or.inl ⟨by rfl, fun w' s0 => load_run 23 (.tmp 16) rfl g1 rfl 23 _ (0, 0) _ s0.1 Tryd.underlying23 rfl HSx1.out⟩) hHeld ?_ ?_
                      rotate_left
                      · simp only [Act.put, List.setIfInBounds_toArray, List.set_cons_zero, List.set_cons_succ, i64_w, i32_w]
                        rfl
                      refine take_ (i := 1) (N := some 119) (v := .agg (cells8 y1)) (a' := ?_) #[true, true, false, false, false, false, false, false, false, false] rfl rfl (by kernel_rfl) (fun _ _ _ h => h) (Or.inl ⟨by rfl, fun w' s0 => load_run 23 (.tmp 17) rfl g2 rfl 23 _ (0, 0) _ s0.2.1 Tryd.underlying23 rfl HSy1.out⟩) hHeld ?_ ?_
                      rotate_left
                      · simp only [Act.put, List.setIfInBounds_toArray, List.set_cons_zero, List.set_cons_succ, i64_w, i32_w]
                        rfl
                      refine pure_ (i := 2) (N := some 120) (v := ?_) (a' := ?_) #[true, true, true, false, false, false, false, false, false, false] rfl rfl (by kernel_rfl) (fun _ _ _ h => h) (Or.inl ⟨by rfl, ?_⟩) ?_ ?_
                      rotate_left
                      · intro w'
                        go_simp
                        with_reducible rfl
                      rotate_left
                      · simp only [Act.put, List.setIfInBounds_toArray, List.set_cons_zero, List.set_cons_succ, i64_w, i32_w]
                        rfl
                      refine pure_ (i := 3) (N := some 121) (v := ?_) (a' := ?_) #[true, true, true, true, false, false, false, false, false, false] rfl rfl (by kernel_rfl) (fun _ _ _ h => h) (Or.inl ⟨by rfl, ?_⟩) ?_ ?_
                      rotate_left
                      · intro w'
                        go_simp
                        with_reducible rfl
                      rotate_left
                      · simp only [Act.put, List.setIfInBounds_toArray, List.set_cons_zero, List.set_cons_succ, i64_w, i32_w]
                        rfl
                      refine take_ (i := 4) (N := some 122) (v := .agg (cells8 x1)) (a' := ?_) #[true, true, true, true, true, false, false, false, false, false] rfl rfl (by kernel_rfl) (fun _ _ _ h => h) (Or.inl ⟨by rfl, fun w' s0 => load_run 23 (.tmp 16) rfl g1 rfl 23 _ (0, 0) _ s0.1 Tryd.underlying23 rfl HSx1.out⟩) hHeld ?_ ?_
                      rotate_left
                      · simp only [Act.put, List.setIfInBounds_toArray, List.set_cons_zero, List.set_cons_succ, i64_w, i32_w]
                        rfl
                      refine take_ (i := 6) (N := some 124) (v := .agg (cells8 y1)) (a' := ?_) #[true, true, true, true, true, false, true, false, false, false] rfl rfl (by kernel_rfl) (fun _ _ _ h => h) (Or.inl ⟨by rfl, fun w' s0 => load_run 23 (.tmp 17) rfl g2 rfl 23 _ (0, 0) _ s0.2.1 Tryd.underlying23 rfl HSy1.out⟩) hHeld ?_ ?_
                      rotate_left
                      · simp only [Act.put, List.setIfInBounds_toArray, List.set_cons_zero, List.set_cons_succ, i64_w, i32_w]
                        rfl
                      refine one_ (i := 5) (N := some 123) #[true, true, true, true, true, true, true, false, false, false] rfl rfl (by kernel_rfl) (by decide) (fun K hK => ?_)
                      refine goes_ Tryd.func20 (by kernel_rfl) rfl #[.agg (cells8 x1)] (by rfl) rfl rfl (by (try simp only [List.map_toArray, List.map_cons, List.map_nil]); first | done | rfl) ?_
                      refine (HCx.out _ (HTi.out _ hHeld.2.2)).mono ?_
                      rintro e wY ⟨rfl, hbH⟩
                      refine ⟨_, rfl, ?_⟩
                      refine hK.out _ _ (⟨blk_of_below hHeld.1 hbH, blk_of_below hHeld.2.1 hbH, hHeld.2.2.trans (hbH.mono hHeld.2.2.size)⟩) (fun hNew => ?_)
                      clear hHeld hK K
                      have hHeld := hNew
                      clear hNew
                      refine norm_ (a' := ?_) ?_ ?_
                      rotate_left
                      · show Act.put _ (some 123) _ = _
                        simp only [Act.put, List.setIfInBounds_toArray, List.set_cons_zero, List.set_cons_succ, i64_w, i32_w]
                        rfl
                      refine one_ (i := 7) (N := some 125) #[true, true, true, true, true, true, true, true, false, false] rfl rfl (by kernel_rfl) (by decide) (fun K hK => ?_)
                      refine goes_ Tryd.func20 (by kernel_rfl) rfl #[.agg (cells8 y1)] (by rfl) rfl rfl (by (try simp only [List.map_toArray, List.map_cons, List.map_nil]); first | done | rfl) ?_
                      refine (HCy.out _ (HTi.out _ hHeld.2.2)).mono ?_
                      rintro e wj ⟨rfl, hbH2⟩
                      refine ⟨_, rfl, ?_⟩
                      refine hK.out _ _ (⟨blk_of_below hHeld.1 hbH2, blk_of_below hHeld.2.1 hbH2, hHeld.2.2.trans (hbH2.mono hHeld.2.2.size)⟩) (fun hNew => ?_)
                      clear hHeld hK K
                      have hHeld := hNew
                      clear hNew
                      refine norm_ (a' := ?_) ?_ ?_
                      rotate_left
                      · show Act.put _ (some 125) _ = _
                        simp only [Act.put, List.setIfInBounds_toArray, List.set_cons_zero, List.set_cons_succ, i64_w, i32_w]
                        rfl
                      refine pure_ (i := 8) (N := some 126) (v := ?_) (a' := ?_) #[true, true, true, true, true, true, true, true, true, false] rfl rfl (by kernel_rfl) (fun _ _ _ h => h) (Or.inl ⟨by rfl, ?_⟩) ?_ ?_
                      rotate_left
                      · intro w'
                        go_simp
                        with_reducible rfl
                      rotate_left
                      · simp only [Act.put, List.setIfInBounds_toArray, List.set_cons_zero, List.set_cons_succ, i64_w, i32_w]
                        rfl
                      refine pure_ (i := 9) (N := some 127) (v := ?_) (a' := ?_) #[true, true, true, true, true, true, true, true, true, true] rfl rfl (by kernel_rfl) (fun _ _ _ h => h) (Or.inl ⟨by rfl, ?_⟩) ?_ ?_
                      rotate_left
                      · intro w'
                        go_simp
                        with_reducible rfl
                      rotate_left
                      · simp only [Act.put, List.setIfInBounds_toArray, List.set_cons_zero, List.set_cons_succ, i64_w, i32_w]
                        rfl
                      refine done_ (by kernel_rfl) ?_
                      clear hbH hbH2
                      have HBj : Aside0 (Below w.heap.size w wj) := ⟨HB6.out.trans ((HB.out.trans ((HBi.out.trans (hHeld.2.2.mono HBi.out.size)).mono HB.out.size)).mono HB6.out.size)⟩
                      clear hHeld
                      go_wp2_with fail
                      go_ret
                      exact ⟨rfl, HBj.out⟩
                    | false =>
                      have HNS : Aside0 (x2 ≠ y2) := ⟨by simpa using hse⟩
                      rw [hse] at hEq2
                      clear hse hxy
                      go_wp2_with fail
                      refine start_ (n := 10) (S := fun W => W.heap[g1]? = some (.cells (cells8 x1) 23 (0, 0)) ∧ W.heap[g2]? = some (.cells (cells8 y1) 23 (0, 0)) ∧ Below wi.heap.size wi W) (ds := []) #[false, false, false, false, false, false, false, false, false, false] (by kernel_rfl) rfl rfl (⟨HX1.out, HY1.out, below_drew (Below.refl _ _)⟩) (fun hHeld => ?_)
                      refine take_ (i := 0) (N := some 118) (v := .agg (cells8 x1)) (a' := ?_) #[true, false, false, false, false, false, false, false, false, false] rfl rfl (by kernel_rfl) (fun _ _ _ h => h) (Or.inl ⟨by rfl, fun w' s0 => load_run 23 (.tmp 16) rfl g1 rfl 23 _ (0, 0) _ s0.1 Tryd.underlying23 rfl HSx1.out⟩) hHeld ?_ ?_
                      rotate_left
                      · simp only [Act.put, List.setIfInBounds_toArray, List.set_cons_zero, List.set_cons_succ, i64_w, i32_w]
                        rfl
                      refine take_ (i := 1) (N := some 119) (v := .agg (cells8 y1)) (a' := ?_) #[true, true, false, false, false, false, false, false, false, false] rfl rfl (by kernel_rfl) (fun _ _ _ h => h) (Or.inl ⟨by rfl, fun w' s0 => load_run 23 (.tmp 17) rfl g2 rfl 23 _ (0, 0) _ s0.2.1 Tryd.underlying23 rfl HSy1.out⟩) hHeld ?_ ?_
                      rotate_left
                      · simp only [Act.put, List.setIfInBounds_toArray, List.set_cons_zero, List.set_cons_succ, i64_w, i32_w]
                        rfl
                      refine pure_ (i := 2) (N := some 120) (v := ?_) (a' := ?_) #[true, true, true, false, false, false, false, false, false, false] rfl rfl (by kernel_rfl) (fun _ _ _ h => h) (Or.inl ⟨by rfl, ?_⟩) ?_ ?_
                      rotate_left
                      · intro w'
                        go_simp
                        with_reducible rfl
                      rotate_left
                      · simp only [Act.put, List.setIfInBounds_toArray, List.set_cons_zero, List.set_cons_succ, i64_w, i32_w]
                        rfl
                      refine pure_ (i := 3) (N := some 121) (v := ?_) (a' := ?_) #[true, true, true, true, false, false, false, false, false, false] rfl rfl (by kernel_rfl) (fun _ _ _ h => h) (Or.inl ⟨by rfl, ?_⟩) ?_ ?_
                      rotate_left
                      · intro w'
                        go_simp
                        with_reducible rfl
                      rotate_left
                      · simp only [Act.put, List.setIfInBounds_toArray, List.set_cons_zero, List.set_cons_succ, i64_w, i32_w]
                        rfl
                      refine take_ (i := 4) (N := some 122) (v := .agg (cells8 x1)) (a' := ?_) #[true, true, true, true, true, false, false, false, false, false] rfl rfl (by kernel_rfl) (fun _ _ _ h => h) (Or.inl ⟨by rfl, fun w' s0 => load_run 23 (.tmp 16) rfl g1 rfl 23 _ (0, 0) _ s0.1 Tryd.underlying23 rfl HSx1.out⟩) hHeld ?_ ?_
                      rotate_left
                      · simp only [Act.put, List.setIfInBounds_toArray, List.set_cons_zero, List.set_cons_succ, i64_w, i32_w]
                        rfl
                      refine take_ (i := 6) (N := some 124) (v := .agg (cells8 y1)) (a' := ?_) #[true, true, true, true, true, false, true, false, false, false] rfl rfl (by kernel_rfl) (fun _ _ _ h => h) (Or.inl ⟨by rfl, fun w' s0 => load_run 23 (.tmp 17) rfl g2 rfl 23 _ (0, 0) _ s0.2.1 Tryd.underlying23 rfl HSy1.out⟩) hHeld ?_ ?_
                      rotate_left
                      · simp only [Act.put, List.setIfInBounds_toArray, List.set_cons_zero, List.set_cons_succ, i64_w, i32_w]
                        rfl
                      refine one_ (i := 5) (N := some 123) #[true, true, true, true, true, true, true, false, false, false] rfl rfl (by kernel_rfl) (by decide) (fun K hK => ?_)
                      refine goes_ Tryd.func20 (by kernel_rfl) rfl #[.agg (cells8 x1)] (by rfl) rfl rfl (by (try simp only [List.map_toArray, List.map_cons, List.map_nil]); first | done | rfl) ?_
                      refine (HCx.out _ (HTi.out _ hHeld.2.2)).mono ?_
                      rintro e wY ⟨rfl, hbH⟩
                      refine ⟨_, rfl, ?_⟩
                      refine hK.out _ _ (⟨blk_of_below hHeld.1 hbH, blk_of_below hHeld.2.1 hbH, hHeld.2.2.trans (hbH.mono hHeld.2.2.size)⟩) (fun hNew => ?_)
                      clear hHeld hK K
                      have hHeld := hNew
                      clear hNew
                      refine norm_ (a' := ?_) ?_ ?_
                      rotate_left
                      · show Act.put _ (some 123) _ = _
                        simp only [Act.put, List.setIfInBounds_toArray, List.set_cons_zero, List.set_cons_succ, i64_w, i32_w]
                        rfl
                      refine one_ (i := 7) (N := some 125) #[true, true, true, true, true, true, true, true, false, false] rfl rfl (by kernel_rfl) (by decide) (fun K hK => ?_)
                      refine goes_ Tryd.func20 (by kernel_rfl) rfl #[.agg (cells8 y1)] (by rfl) rfl rfl (by (try simp only [List.map_toArray, List.map_cons, List.map_nil]); first | done | rfl) ?_
                      refine (HCy.out _ (HTi.out _ hHeld.2.2)).mono ?_
                      rintro e wj ⟨rfl, hbH2⟩
                      refine ⟨_, rfl, ?_⟩
                      refine hK.out _ _ (⟨blk_of_below hHeld.1 hbH2, blk_of_below hHeld.2.1 hbH2, hHeld.2.2.trans (hbH2.mono hHeld.2.2.size)⟩) (fun hNew => ?_)
                      clear hHeld hK K
                      have hHeld := hNew
                      clear hNew
                      refine norm_ (a' := ?_) ?_ ?_
                      rotate_left
                      · show Act.put _ (some 125) _ = _
                        simp only [Act.put, List.setIfInBounds_toArray, List.set_cons_zero, List.set_cons_succ, i64_w, i32_w]
                        rfl
                      refine pure_ (i := 8) (N := some 126) (v := ?_) (a' := ?_) #[true, true, true, true, true, true, true, true, true, false] rfl rfl (by kernel_rfl) (fun _ _ _ h => h) (Or.inl ⟨by rfl, ?_⟩) ?_ ?_
                      rotate_left
                      · intro w'
                        go_simp
                        with_reducible rfl
                      rotate_left
                      · simp only [Act.put, List.setIfInBounds_toArray, List.set_cons_zero, List.set_cons_succ, i64_w, i32_w]
                        rfl
                      refine pure_ (i := 9) (N := some 127) (v := ?_) (a' := ?_) #[true, true, true, true, true, true, true, true, true, true] rfl rfl (by kernel_rfl) (fun _ _ _ h => h) (Or.inl ⟨by rfl, ?_⟩) ?_ ?_
                      rotate_left
                      · intro w'
                        go_simp
                        with_reducible rfl
                      rotate_left
                      · simp only [Act.put, List.setIfInBounds_toArray, List.set_cons_zero, List.set_cons_succ, i64_w, i32_w]
                        rfl
                      refine done_ (by kernel_rfl) ?_
                      clear hbH hbH2
                      have HX2 := Aside0.mk hHeld.1
                      have HY2 := Aside0.mk hHeld.2.1
                      have HBj := Aside0.mk hHeld.2.2
                      clear hHeld hEq hEq2
                      go_wp2_with fail
                      refine start_ (n := 6) (S := fun W => W.heap[g1]? = some (.cells (cells8 x1) 23 (0, 0)) ∧ W.heap[g2]? = some (.cells (cells8 y1) 23 (0, 0)) ∧ Below wi.heap.size wi W) (ds := [4, 5]) #[false, false, false, false, false, false] (by kernel_rfl) rfl rfl (⟨HX2.out, HY2.out, below_drew HBj.out⟩) (fun hHeld => ?_)
                      refine take_ (i := 0) (N := some 128) (v := .agg (cells8 x1)) (a' := ?_) #[true, false, false, false, false, false] rfl rfl (by kernel_rfl) (fun _ _ _ h => h) (Or.inl ⟨by rfl, fun w' s0 => load_run 23 (.tmp 16) rfl g1 rfl 23 _ (0, 0) _ s0.1 Tryd.underlying23 rfl HSx1.out⟩) hHeld ?_ ?_
                      rotate_left
                      · simp only [Act.put, List.setIfInBounds_toArray, List.set_cons_zero, List.set_cons_succ, i64_w, i32_w]
                        rfl
                      refine take_ (i := 2) (N := some 130) (v := .agg (cells8 y1)) (a' := ?_) #[true, false, true, false, false, false] rfl rfl (by kernel_rfl) (fun _ _ _ h => h) (Or.inl ⟨by rfl, fun w' s0 => load_run 23 (.tmp 17) rfl g2 rfl 23 _ (0, 0) _ s0.2.1 Tryd.underlying23 rfl HSy1.out⟩) hHeld ?_ ?_
                      rotate_left
                      · simp only [Act.put, List.setIfInBounds_toArray, List.set_cons_zero, List.set_cons_succ, i64_w, i32_w]
                        rfl
                      refine one_ (i := 1) (N := some 129) #[true, true, true, false, false, false] rfl rfl (by kernel_rfl) (by decide) (fun K hK => ?_)
                      refine goes_ Tryd.func20 (by kernel_rfl) rfl #[.agg (cells8 x1)] (by rfl) rfl rfl (by (try simp only [List.map_toArray, List.map_cons, List.map_nil]); first | done | rfl) ?_
                      refine (HCx.out _ (HTi.out _ hHeld.2.2)).mono ?_
                      rintro e wY ⟨rfl, hbH⟩
                      refine ⟨_, rfl, ?_⟩
                      refine hK.out _ _ (⟨blk_of_below hHeld.1 hbH, blk_of_below hHeld.2.1 hbH, hHeld.2.2.trans (hbH.mono hHeld.2.2.size)⟩) (fun hNew => ?_)
                      clear hHeld hK K
                      have hHeld := hNew
                      clear hNew
                      refine norm_ (a' := ?_) ?_ ?_
                      rotate_left
                      · show Act.put _ (some 129) _ = _
                        simp only [Act.put, List.setIfInBounds_toArray, List.set_cons_zero, List.set_cons_succ, i64_w, i32_w]
                        rfl
                      refine one_ (i := 3) (N := some 131) #[true, true, true, true, false, false] rfl rfl (by kernel_rfl) (by decide) (fun K hK => ?_)
                      refine goes_ Tryd.func20 (by kernel_rfl) rfl #[.agg (cells8 y1)] (by rfl) rfl rfl (by (try simp only [List.map_toArray, List.map_cons, List.map_nil]); first | done | rfl) ?_
                      refine (HCy.out _ (HTi.out _ hHeld.2.2)).mono ?_
                      rintro e wk ⟨rfl, hbH2⟩
                      refine ⟨_, rfl, ?_⟩
                      refine hK.out _ _ (⟨blk_of_below hHeld.1 hbH2, blk_of_below hHeld.2.1 hbH2, hHeld.2.2.trans (hbH2.mono hHeld.2.2.size)⟩) (fun hNew => ?_)
                      clear hHeld hK K
                      have hHeld := hNew
                      clear hNew
                      refine norm_ (a' := ?_) ?_ ?_
                      rotate_left
                      · show Act.put _ (some 131) _ = _
                        simp only [Act.put, List.setIfInBounds_toArray, List.set_cons_zero, List.set_cons_succ, i64_w, i32_w]
                        rfl
                      obtain ⟨hk1, hk2, hk3⟩ := hHeld
                      clear hbH hbH2
                      refine last_ (i := 4) (N := none) #[true, true, true, true, true, false] rfl rfl (by kernel_rfl) (by decide) (fun K hK => ?_)
                      refine store_row_ (by rfl) 23 (.tmp 16) (.tmp 129) rfl rfl (g1) (cells8 x2) rfl rfl 23 (cells8 x1) (hk1) (HSx2.out) (HOx2.out) (all_one8 _) ?_
                      refine hK.out _ _ ?_
                      clear hK K
                      have hk2' : (wk.setRow g1 (cells8 x2)).heap[g2]? = some (.cells (cells8 y1) 23 (0, 0)) := (setRow_other _ _ _ _ (fun e => hgne e.symm)).trans hk2
                      have hk1' := setRow_heap _ _ _ (cells8 x2) _ _ hk1
                      refine last_ (i := 5) (N := none) #[true, true, true, true, true, true] rfl rfl (by kernel_rfl) (by decide) (fun K hK => ?_)
                      refine store_row_ (by rfl) 23 (.tmp 17) (.tmp 131) rfl rfl (g2) (cells8 y2) rfl rfl 23 (cells8 y1) (hk2') (HSy2.out) (HOy2.out) (all_one8 _) ?_
                      refine hK.out _ _ ?_
                      clear hK K
                      refine done_ (by kernel_rfl) ?_
                      obtain ⟨W5, hW5⟩ : ∃ z, z = (wk.setRow g1 (cells8 x2)).setRow g2 (cells8 y2) := ⟨_, rfl⟩
                      rw [← hW5]
                      have HG1n : Aside0 (W5.heap[g1]? = some (.cells (cells8 x2) 23 (0, 0))) := ⟨by rw [hW5]; exact (setRow_other _ _ _ _ hgne).trans hk1'⟩
                      have HG2n : Aside0 (W5.heap[g2]? = some (.cells (cells8 y2) 23 (0, 0))) := ⟨by rw [hW5]; exact setRow_heap _ _ _ _ _ _ hk2'⟩
                      have HBn : Aside0 (Below wo.heap.size wo W5) := ⟨by rw [hW5]; exact below_setRow (below_setRow (HBi.out.trans (hk3.mono HBi.out.size)) hle1 _) hle2 _⟩
                      clear hW5 hk1 hk2 hk1' hk2' hk3
                      go_wp2_with fail
                      go_roundw
                      case rel => exact ⟨q + 1, by omega, by push_cast; rw [Int.add_assoc], ⟨by rw [HSQ.out.1]; exact HG1n.out⟩, ⟨by rw [HSQ.out.2]; exact HG2n.out⟩, ⟨.inr (by rw [HSQ.out.1, HSQ.out.2]; exact HNS.out)⟩, HBn⟩
                      case measure => simp [intOf]; omega
                · have c115 : decide (g + (q : Int) < 3) = false := decide_eq_false hlt3
                  have hje : (3 - g).toNat = q := by omega
                  have HXYx : Aside0 (x = y) := ⟨by
                    have h1 := HEN.out
                    rw [hje] at h1
                    rcases HOR.out with h | h
                    · exact h
                    · exact absurd h1 h⟩
                  have HEQn : Aside0 (∀ r, r < j + 1 → s.getD r [] = t.getD r []) := ⟨fun r hr => by
                    rcases Nat.lt_succ_iff_lt_or_eq.1 hr with h | rfl
                    · exact HEQ.out r h
                    · rw [← HX.out, ← HY.out, HXYx.out]⟩
                  have HBn : Aside0 (Below w6.heap.size w6 wi) := ⟨HB.out.trans (HBi.out.mono HB.out.size)⟩
                  clear hje
                  go_wp2_with fail
                  go_roundw
                  case rel => exact ⟨j + 1, by omega, by push_cast; rfl, HEQn, HBn⟩
                  case measure => show 19 - ((j : Int) + 1).toNat < 19 - ((j : Int)).toNat; omega
            · exfalso
              obtain rfl : j = 19 := by omega
              exact HNE.out (list_eq19 HV1.out.1 HV2.out.1 HEQ.out)
theorem Only_row (w : World) (p : List Int) (hp : p.length = 32) (_ : ∀ x ∈ p, 0 ≤ x ∧ x ≤ 255) (m : List Int) (hm : m.length = 32) (_ : ∀ x ∈ m, 0 ≤ x ∧ x ≤ 255) (A : Option Addr) (n c : Nat) (s : List (List Int)) (hS : Kd.C KdD w A n s) (hc : n ≤ c) (B : Option Addr) (k d : Nat) (t : List (List Int)) (hU : Kd.C KdD w B k t) (hd : k ≤ d) (hT : Tabs w) :
    Calls Tryd.prog 6 #[.agg (cells8 p), .agg (cells8 m), .slice A n c, .slice B k d] w fun e w' => e = .returned (.bool true) ∧ Below w.heap.size w w' :=
  Only_calls p m hp hm A B n k c d s t w hS hU hc hd hT
end Go.Proofs.YtkpfnbliideeeaaDoor.Q
