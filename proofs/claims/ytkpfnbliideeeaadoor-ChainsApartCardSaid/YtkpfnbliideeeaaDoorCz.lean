/- the law ChainsApart -/
import Derived.Test.YtkpfnbliideeeaaDoorCp
namespace Go.Proofs.YtkpfnbliideeeaaDoor.Q
open Go.RowKit Go.Shelf Go.Proofs.YtkpfnbliideeeaaDoorW.PrintWords Go.Proofs.YtkpfnbliideeeaaDoorW.PrintLast Go.Proofs.YtkpfnbliideeeaaDoorW.PrintMore
set_option linter.unusedVariables false
set_option linter.unusedSimpArgs false
theorem cell19 {w : World} {b : Nat} {l : List Int} (h : Kd.C (Kd.int .i64) w (some ⟨b, 0, none⟩) 19 l) (k : Nat) (hk : k < 19) : w.cell? ⟨b, k, none⟩ = some (.int .i64 (rd l (k : Int))) := by
  obtain ⟨ad, e, hc⟩ := Kd.at_int h (k : Int) (by omega) (by omega)
  cases e
  rw [Int.toNat_natCast, add_plain] at hc
  exact hc
theorem take_eq_succ (xs ys : List Int) (hx : xs.length = 19) (hy : ys.length = 19) (k : Nat) (hk : k < 19) : (xs.take (k + 1) == ys.take (k + 1)) = ((xs.take k == ys.take k) && (rd xs (k : Int) == rd ys (k : Int))) := by
  have e1 : rd xs (k : Int) = xs[k]'(by omega) := by simp [rd, List.getD, hx, hk]
  have e2 : rd ys (k : Int) = ys[k]'(by omega) := by simp [rd, List.getD, hy, hk]
  rw [Bool.eq_iff_iff, List.take_succ_eq_append_getElem (by omega), List.take_succ_eq_append_getElem (by omega), e1, e2]
  simp only [beq_iff_eq, Bool.and_eq_true]
  constructor
  · intro h
    have := List.append_inj' h rfl
    exact ⟨this.1, by simpa using this.2⟩
  · rintro ⟨h1, h2⟩
    rw [h1, h2]
set_option maxRecDepth 20000 in
set_option maxHeartbeats 4000000 in
theorem Apart_calls (w : World) (a : List Int) (ha : a.length = 32) (hab : ∀ x ∈ a, 0 ≤ x ∧ x ≤ 255) (b : List Int) (hb : b.length = 32) (hbb : ∀ x ∈ b, 0 ≤ x ∧ x ≤ 255) (A : Option Addr) (n c : Nat) (s : List (List Int)) (_hS : Kd.C KdD w A n s) (_hc : n ≤ c) (hT : Tabs w) :
    Calls Tryd.prog 5 #[.agg (cells8 a), .agg (cells8 b), .slice A n c] w fun e w' => e = .returned (.bool true) ∧ Below w.heap.size w w' := by
  have HA := Aside0.mk ha
  have HB := Aside0.mk hb
  have HAb := Aside0.mk hab
  have HBb := Aside0.mk hbb
  have HT := Aside0.mk hT
  have HSa := Aside0.mk (size32 a ha)
  have HSb := Aside0.mk (size32 b hb)
  have HDS := Aside0.mk (digits_same a b hab hbb)
  clear ha hb hab hbb hT _hS _hc
  obtain ⟨wa, hwa⟩ : ∃ x, x = (w.alloc (.cells (cells8 a) 23)).alloc (.cells (cells8 b) 23) := ⟨_, rfl⟩
  have HA0 : Aside0 (wa.heap[w.heap.size]? = some (.cells (cells8 a) 23 (0, 0))) := ⟨by rw [hwa]; exact heap_alloc2_old _ _ _⟩
  have HA1 : Aside0 (wa.heap[w.heap.size + 1]? = some (.cells (cells8 b) 23 (0, 0))) := ⟨by rw [hwa]; exact heap_alloc2_new _ _ _⟩
  have HBa : Aside0 (Below w.heap.size w wa) := ⟨by rw [hwa]; exact below_alloc (below_alloc (Below.refl _ _) _) _⟩
  have HWA := Aside0.mk hwa
  clear hwa
  go_enter Tryd.func5, Tryd.ntmps5
  go_wp2_with fail
  rw [← HWA.out]
  refine (sane_calls wa (HT.out.below HBa.out)).mono ?_
  rintro e w1 ⟨rfl, hb1⟩
  have HB1 : Aside0 (Below w.heap.size w w1) := ⟨HBa.out.trans (hb1.mono HBa.out.size)⟩
  have H10 := Aside0.mk (blk_of_below HA0.out hb1)
  have H11 := Aside0.mk (blk_of_below HA1.out hb1)
  clear hb1 HA0 HA1 HBa HWA
  by_cases h40 : 40 < n
  · have c15 : decide ((40 : Int) < (n : Int)) = true := decide_eq_true (by omega)
    have c16 : (40 : Int) < (n : Int) := by omega
    go_wp2_with fail
    go_ret
    exact ⟨rfl, HB1.out⟩
  have c15 : decide ((40 : Int) < (n : Int)) = false := decide_eq_false (by omega)
  have c16 : ¬ (40 : Int) < (n : Int) := by omega
  go_wp2_with fail
  refine start_ (n := 6) (S := fun W => W.heap[w.heap.size]? = some (.cells (cells8 a) 23 (0, 0)) ∧ W.heap[w.heap.size + 1]? = some (.cells (cells8 b) 23 (0, 0)) ∧ Below w1.heap.size w1 W) (ds := []) #[false, false, false, false, false, false] (by kernel_rfl) rfl rfl (⟨H10.out, H11.out, below_drew (Below.refl _ _)⟩) (fun hHeld => ?_)
  refine take_ (i := 0) (N := some 22) (v := .agg (cells8 a)) (a' := ?_) #[true, false, false, false, false, false] rfl rfl (by kernel_rfl) (fun _ _ _ h => h) (Or.inl ⟨by rfl, fun w' s0 => load_run 23 (.tmp 3) rfl w.heap.size rfl 23 _ (0, 0) _ s0.1 Tryd.underlying23 rfl HSa.out⟩) hHeld ?_ ?_
  rotate_left
  · simp only [Act.put, List.setIfInBounds_toArray, List.set_cons_zero, List.set_cons_succ, i64_w, i32_w]
    rfl
  refine take_ (i := 2) (N := some 24) (v := .agg (cells8 b)) (a' := ?_) #[true, false, true, false, false, false] rfl rfl (by kernel_rfl) (fun _ _ _ h => h) (Or.inl ⟨by rfl, fun w' s0 => load_run 23 (.tmp 4) rfl (w.heap.size + 1) rfl 23 _ (0, 0) _ s0.2.1 Tryd.underlying23 rfl HSb.out⟩) hHeld ?_ ?_
  rotate_left
  · simp only [Act.put, List.setIfInBounds_toArray, List.set_cons_zero, List.set_cons_succ, i64_w, i32_w]
    rfl
  refine one_ (i := 1) (N := some 23) #[true, true, true, false, false, false] rfl rfl (by kernel_rfl) (by decide) (fun K hK => ?_)
  refine goes_ Tryd.func11 (by kernel_rfl) rfl #[.agg (cells8 a)] (by rfl) rfl rfl (by (try simp only [List.map_toArray, List.map_cons, List.map_nil]); first | done | rfl) ?_
  refine (Digits_calls a HA.out _).mono ?_
  rintro e wY ⟨bx, rfl, hCx, hbH⟩
  refine ⟨_, rfl, ?_⟩
  refine hK.out _ _ (⟨blk_of_below hHeld.1 hbH, blk_of_below hHeld.2.1 hbH, hHeld.2.2.trans (hbH.mono hHeld.2.2.size)⟩) (fun hNew => ?_)
  clear hHeld hK K
  have hHeld := hNew
  clear hNew
  refine norm_ (a' := ?_) ?_ ?_
  rotate_left
  · show Act.put _ (some 23) _ = _
    simp only [Act.put, List.setIfInBounds_toArray, List.set_cons_zero, List.set_cons_succ, i64_w, i32_w]
    rfl
  refine one_ (i := 3) (N := some 25) #[true, true, true, true, false, false] rfl rfl (by kernel_rfl) (by decide) (fun K hK => ?_)
  refine goes_ Tryd.func11 (by kernel_rfl) rfl #[.agg (cells8 b)] (by rfl) rfl rfl (by (try simp only [List.map_toArray, List.map_cons, List.map_nil]); first | done | rfl) ?_
  refine (Digits_calls b HB.out _).mono ?_
  rintro e wZ ⟨bY, rfl, hCy, hbH2⟩
  replace hCx := Kd.C_below hCx hbH2
  refine ⟨_, rfl, ?_⟩
  refine hK.out _ _ (⟨blk_of_below hHeld.1 hbH2, blk_of_below hHeld.2.1 hbH2, hHeld.2.2.trans (hbH2.mono hHeld.2.2.size)⟩) (fun hNew => ?_)
  clear hHeld hK K
  have hHeld := hNew
  clear hNew
  refine norm_ (a' := ?_) ?_ ?_
  rotate_left
  · show Act.put _ (some 25) _ = _
    simp only [Act.put, List.setIfInBounds_toArray, List.set_cons_zero, List.set_cons_succ, i64_w, i32_w]
    rfl
  refine pure_ (i := 4) (N := some 7) (v := ?_) (a' := ?_) #[true, true, true, true, true, false] rfl rfl (by kernel_rfl) (fun _ _ _ h => h) (Or.inl ⟨by rfl, ?_⟩) ?_ ?_
  rotate_left
  · intro w'
    go_simp
    with_reducible rfl
  rotate_left
  · simp only [Act.put, List.setIfInBounds_toArray, List.set_cons_zero, List.set_cons_succ, i64_w, i32_w]
    rfl
  refine pure_ (i := 5) (N := some 8) (v := ?_) (a' := ?_) #[true, true, true, true, true, true] rfl rfl (by kernel_rfl) (fun _ _ _ h => h) (Or.inl ⟨by rfl, ?_⟩) ?_ ?_
  rotate_left
  · intro w'
    go_simp
    with_reducible rfl
  rotate_left
  · simp only [Act.put, List.setIfInBounds_toArray, List.set_cons_zero, List.set_cons_succ, i64_w, i32_w]
    rfl
  refine done_ (by kernel_rfl) ?_
  obtain ⟨x, hx⟩ : ∃ x, x = digits a := ⟨_, rfl⟩
  obtain ⟨y, hy⟩ : ∃ y, y = digits b := ⟨_, rfl⟩
  rw [← hx] at hCx
  rw [← hy] at hCy
  have HX := Aside0.mk hCx
  have HY := Aside0.mk hCy
  have HBz : Aside0 (Below w.heap.size w wZ) := ⟨HB1.out.trans (hHeld.2.2.mono HB1.out.size)⟩
  have HZ0 := Aside0.mk hHeld.1
  have HZ1 := Aside0.mk hHeld.2.1
  have HLx : Aside0 (x.length = 19) := ⟨by rw [hx]; exact digits_length a⟩
  have HLy : Aside0 (y.length = 19) := ⟨by rw [hy]; exact digits_length b⟩
  have HXD := Aside0.mk hx
  have HYD := Aside0.mk hy
  clear hHeld hCx hCy hbH hbH2 hx hy H10 H11 HB1
  go_wp2_with fail
  go_loopw [9, 10, 36] (fun u v i wr => ∃ k : Nat, k ≤ 19 ∧ i = .int .i64 (k : Int) ∧ u = .int .i64 (digSum a (min k 16)) ∧ v = .bool (x.take k == y.take k) ∧ Aside0 (Below wZ.heap.size wZ wr)) (fun _ _ i _ => 19 - (intOf i).toNat)
  case atStart => exact ⟨0, by omega, rfl, rfl, rfl, ⟨Below.refl _ _⟩⟩
  case round =>
    obtain ⟨k, hk, rfl, rfl, rfl, HBr⟩ := hrel
    by_cases hlt : k < 19
    · have c37 : decide ((k : Int) < 19) = true := decide_eq_true (by omega)
      have p1 := eq_true (show 0 ≤ (k : Int) by omega)
      have p2 := eq_true (show (k : Int) < 19 by omega)
      have hg := cell19 (Kd.C_below HX.out HBr.out) k hlt
      have hh := cell19 (Kd.C_below HY.out HBr.out) k hlt
      have hr := digits_range a k hlt
      rw [← HXD.out] at hr
      have HTK := Aside0.mk (take_eq_succ x y HLx.out HLy.out k hlt)
      have HDG : Aside0 (k < 16 → rd x (k : Int) = dig a k) := ⟨fun h => by rw [HXD.out, digits_rd a k h]⟩
      obtain ⟨g, hgg⟩ : ∃ g, g = rd x (k : Int) := ⟨_, rfl⟩
      obtain ⟨h, hhh⟩ : ∃ h, h = rd y (k : Int) := ⟨_, rfl⟩
      rw [← hgg] at hg hr HTK HDG
      rw [← hhh] at hh HTK
      clear hgg hhh
      have c42 : decide (g < 0) = false := decide_eq_false (by omega)
      have c45 : decide ((3 : Int) < g) = false := decide_eq_false (by omega)
      have c42' : ¬ g < 0 := by omega
      have c45' : ¬ (3 : Int) < g := by omega
      by_cases h16 : k < 16
      · have c48 : decide ((k : Int) < 16) = true := decide_eq_true (by omega)
        have HSUM : Aside0 (wrap64 (digSum a k + (3 - g)) = digSum a (min (k + 1) 16)) := ⟨by
          have hw : wrap64 (3 - dig a k) = 3 - dig a k := by have := dig_range a k; unfold wrap64; omega
          rw [HDG.out h16, show min (k + 1) 16 = k + 1 by omega, digSum, hw]⟩
        rw [show min k 16 = k by omega]
        cases hs : (x.take k == y.take k) with
        | true =>
          rw [hs, Bool.true_and] at HTK
          clear hs
          go_wp2_with fail
          go_roundw
          case rel => exact ⟨k + 1, by omega, by push_cast; rfl, by rw [← HSUM.out], by rw [HTK.out], HBr⟩
          case measure => show 19 - ((k : Int) + 1).toNat < 19 - ((k : Int)).toNat; omega
        | false =>
          rw [hs, Bool.false_and] at HTK
          clear hs
          go_wp2_with fail
          go_roundw
          case rel => exact ⟨k + 1, by omega, by push_cast; rfl, by rw [← HSUM.out], by rw [HTK.out], HBr⟩
          case measure => show 19 - ((k : Int) + 1).toNat < 19 - ((k : Int)).toNat; omega
      · have c48 : decide ((k : Int) < 16) = false := decide_eq_false (by omega)
        have HSUM : Aside0 (min k 16 = min (k + 1) 16) := ⟨by omega⟩
        cases hs : (x.take k == y.take k) with
        | true =>
          rw [hs, Bool.true_and] at HTK
          clear hs
          go_wp2_with fail
          go_roundw
          case rel => exact ⟨k + 1, by omega, by push_cast; rfl, by rw [← HSUM.out], by rw [HTK.out], HBr⟩
          case measure => show 19 - ((k : Int) + 1).toNat < 19 - ((k : Int)).toNat; omega
        | false =>
          rw [hs, Bool.false_and] at HTK
          clear hs
          go_wp2_with fail
          go_roundw
          case rel => exact ⟨k + 1, by omega, by push_cast; rfl, by rw [← HSUM.out], by rw [HTK.out], HBr⟩
          case measure => show 19 - ((k : Int) + 1).toNat < 19 - ((k : Int)).toNat; omega
    · obtain rfl : k = 19 := by omega
      rw [show min 19 16 = 16 from rfl, List.take_of_length_le (Nat.le_of_eq HLx.out), List.take_of_length_le (Nat.le_of_eq HLy.out)]
      have HBw : Aside0 (Below w.heap.size w wr) := ⟨HBz.out.trans (HBr.out.mono HBz.out.size)⟩
      have h16 : wr.cell? ⟨bx, 16, none⟩ = some (.int .i64 (rd x 16)) := cell19 (Kd.C_below HX.out HBr.out) 16 (by omega)
      have h17 : wr.cell? ⟨bx, 17, none⟩ = some (.int .i64 (rd x 17)) := cell19 (Kd.C_below HX.out HBr.out) 17 (by omega)
      have h18 : wr.cell? ⟨bx, 18, none⟩ = some (.int .i64 (rd x 18)) := cell19 (Kd.C_below HX.out HBr.out) 18 (by omega)
      have HXw := Aside0.mk (Kd.C_below HX.out HBr.out)
      have HYw := Aside0.mk (Kd.C_below HY.out HBr.out)
      have H30 := Aside0.mk (blk_of_below HZ0.out HBr.out)
      have H31 := Aside0.mk (blk_of_below HZ1.out HBr.out)
      have a0 : wr.cell? ⟨w.heap.size, 0, none⟩ = some (.int .u8 (rd a 0)) := blk8 H30.out 0 (by rw [HA.out]; omega)
      have a1 : wr.cell? ⟨w.heap.size, 1, none⟩ = some (.int .u8 (rd a 1)) := blk8 H30.out 1 (by rw [HA.out]; omega)
      have a2 : wr.cell? ⟨w.heap.size, 2, none⟩ = some (.int .u8 (rd a 2)) := blk8 H30.out 2 (by rw [HA.out]; omega)
      have a3 : wr.cell? ⟨w.heap.size, 3, none⟩ = some (.int .u8 (rd a 3)) := blk8 H30.out 3 (by rw [HA.out]; omega)
      have b0 : wr.cell? ⟨w.heap.size + 1, 0, none⟩ = some (.int .u8 (rd b 0)) := blk8 H31.out 0 (by rw [HB.out]; omega)
      have b1 : wr.cell? ⟨w.heap.size + 1, 1, none⟩ = some (.int .u8 (rd b 1)) := blk8 H31.out 1 (by rw [HB.out]; omega)
      have b2 : wr.cell? ⟨w.heap.size + 1, 2, none⟩ = some (.int .u8 (rd b 2)) := blk8 H31.out 2 (by rw [HB.out]; omega)
      have b3 : wr.cell? ⟨w.heap.size + 1, 3, none⟩ = some (.int .u8 (rd b 3)) := blk8 H31.out 3 (by rw [HB.out]; omega)
      have hparts := digSum_parts a
      have r16 : 0 ≤ rd (digits a) 16 ∧ rd (digits a) 16 ≤ 3 := digits_range a 16 (by omega)
      have r17 : 0 ≤ rd (digits a) 17 ∧ rd (digits a) 17 ≤ 3 := digits_range a 17 (by omega)
      have r18 : 0 ≤ rd (digits a) 18 ∧ rd (digits a) 18 ≤ 3 := digits_range a 18 (by omega)
      have hdsame := HDS.out
      rw [← HXD.out] at hparts r16 r17 r18
      rw [← HXD.out, ← HYD.out] at hdsame
      have HD2 := Aside0.mk (earlier_apart a b n)
      have HD3 := Aside0.mk (earlier_apart b a n)
      have HD4 := Aside0.mk (earlier_same a b n)
      have HD5 := Aside0.mk (earlier_same b a n)
      rw [← HXD.out, ← HYD.out] at HD2 HD3 HD4 HD5
      rw [hparts]
      generalize rd x 16 = x16 at h16 r16
      generalize rd x 17 = x17 at h17 r17
      generalize rd x 18 = x18 at h18 r18
      generalize rd a 0 = va0 at a0 hdsame
      generalize rd a 1 = va1 at a1 hdsame
      generalize rd a 2 = va2 at a2 hdsame
      generalize rd a 3 = va3 at a3 hdsame
      generalize rd b 0 = vb0 at b0 hdsame
      generalize rd b 1 = vb1 at b1 hdsame
      generalize rd b 2 = vb2 at b2 hdsame
      generalize rd b 3 = vb3 at b3 hdsame
      have HEA := Aside0.mk (fun W => Earlier_calls a b HA.out HB.out A n c (by omega) W)
      have HEB := Aside0.mk (fun W => Earlier_calls b a HB.out HA.out A n c (by omega) W)
      clear hparts HDS
      by_cases hxy : x = y
      · obtain ⟨e0, e1, e2, e3⟩ := hdsame.1 hxy
        subst e0 e1 e2 e3
        rw [show (x == y) = true by simpa using hxy]
        have g1 := HD4.out (Or.inr hxy)
        have g2 := HD5.out (Or.inr hxy.symm)
        rw [g1] at HEA
        rw [g2] at HEB
        clear hxy hdsame g1 g2
        go_wp2_with fail
        go_quiet (fail)
        obtain ⟨wd, hwd⟩ : ∃ z, z = wr.drewN nq := ⟨_, rfl⟩
        rw [← hwd]
        have HBd : Aside0 (Below w.heap.size w wd) := ⟨by rw [hwd]; exact pw_below_drewN HBw.out nq⟩
        have H40 : Aside0 (wd.heap[w.heap.size]? = some (.cells (cells8 a) 23 (0, 0))) := ⟨by rw [hwd]; exact H30.out⟩
        have H41 : Aside0 (wd.heap[w.heap.size + 1]? = some (.cells (cells8 b) 23 (0, 0))) := ⟨by rw [hwd]; exact H31.out⟩
        have HX4 : Aside0 (Kd.C (Kd.int .i64) wd (some ⟨bx, 0, none⟩) 19 x) := ⟨by rw [hwd]; exact Kd.C_drewN HXw.out nq⟩
        have HY4 : Aside0 (Kd.C (Kd.int .i64) wd (some ⟨bY, 0, none⟩) 19 y) := ⟨by rw [hwd]; exact Kd.C_drewN HYw.out nq⟩
        clear hwd a0 a1 a2 a3 b0 b1 b2 b3 h16 h17 h18
        go_wp2_with (first
          | (with_reducible refine wpList_load_row rfl 23 (.tmp 3) rfl w.heap.size rfl 23 (cells8 a) (0, 0) _ H40.out Tryd.underlying23 rfl HSa.out ?_)
          | (with_reducible refine wpList_load_row rfl 23 (.tmp 4) rfl (w.heap.size + 1) rfl 23 (cells8 b) (0, 0) _ H41.out Tryd.underlying23 rfl HSb.out ?_))
        refine (HEA.out wd).mono ?_
        rintro e w5 ⟨rfl, hb5⟩
        have HB5 : Aside0 (Below w.heap.size w w5) := ⟨HBd.out.trans (hb5.mono HBd.out.size)⟩
        have H50 := Aside0.mk (blk_of_below H40.out hb5)
        have H51 := Aside0.mk (blk_of_below H41.out hb5)
        have HX5 := Aside0.mk (Kd.C_below HX4.out hb5)
        have HY5 := Aside0.mk (Kd.C_below HY4.out hb5)
        clear hb5
        go_wp2_with (first
          | (with_reducible refine wpList_load_row rfl 23 (.tmp 3) rfl w.heap.size rfl 23 (cells8 a) (0, 0) _ H50.out Tryd.underlying23 rfl HSa.out ?_)
          | (with_reducible refine wpList_load_row rfl 23 (.tmp 4) rfl (w.heap.size + 1) rfl 23 (cells8 b) (0, 0) _ H51.out Tryd.underlying23 rfl HSb.out ?_))
        refine (HEB.out w5).mono ?_
        rintro e w6 ⟨rfl, hb6⟩
        have HB6 : Aside0 (Below w.heap.size w w6) := ⟨HB5.out.trans (hb6.mono HB5.out.size)⟩
        have HX6 := Aside0.mk (Kd.C_below HX5.out hb6)
        have HY6 := Aside0.mk (Kd.C_below HY5.out hb6)
        clear hb6
        by_cases hn : n = 19
        · subst hn
          go_wp2_with fail
          go_ret
          exact ⟨rfl, HB6.out⟩
        · have cn : ¬ (n : Int) = 19 := by omega
          go_wp2_with fail
          go_ret
          exact ⟨rfl, HB6.out⟩
      · rw [show (x == y) = false by simpa using hxy]
        have hne : ¬ (va0 = vb0 ∧ va1 = vb1 ∧ va2 = vb2 ∧ va3 = vb3) := fun h => hxy (hdsame.2 h)
        have HXY := Aside0.mk hxy
        clear hxy hdsame
        by_cases h0 : va0 = vb0
        · have q0 : (va0 == vb0) = true := by simpa using h0
          by_cases h1 : va1 = vb1
          · have q1 : (va1 == vb1) = true := by simpa using h1
            by_cases h2 : va2 = vb2
            · have q2 : (va2 == vb2) = true := by simpa using h2
              have q3 : (va3 == vb3) = false := by simpa using fun h3 => hne ⟨h0, h1, h2, h3⟩
              clear h0 h1 h2 hne
              go_wp2_with fail
              go_quiet (fail)
              by_cases hn : n = 19
              · obtain ⟨i1, g1, hi1, hl1⟩ := HD2.out hn HXY.out
                obtain ⟨i2, g2, hi2, hl2⟩ := HD3.out hn (fun e => HXY.out e.symm)
                rw [g1] at HEA
                rw [g2] at HEB
                subst hn
                clear g1 g2
                obtain ⟨wd, hwd⟩ : ∃ z, z = wr.drewN nq := ⟨_, rfl⟩
                rw [← hwd]
                have HBd : Aside0 (Below w.heap.size w wd) := ⟨by rw [hwd]; exact pw_below_drewN HBw.out nq⟩
                have H40 : Aside0 (wd.heap[w.heap.size]? = some (.cells (cells8 a) 23 (0, 0))) := ⟨by rw [hwd]; exact H30.out⟩
                have H41 : Aside0 (wd.heap[w.heap.size + 1]? = some (.cells (cells8 b) 23 (0, 0))) := ⟨by rw [hwd]; exact H31.out⟩
                have HX4 : Aside0 (Kd.C (Kd.int .i64) wd (some ⟨bx, 0, none⟩) 19 x) := ⟨by rw [hwd]; exact Kd.C_drewN HXw.out nq⟩
                have HY4 : Aside0 (Kd.C (Kd.int .i64) wd (some ⟨bY, 0, none⟩) 19 y) := ⟨by rw [hwd]; exact Kd.C_drewN HYw.out nq⟩
                clear hwd a0 a1 a2 a3 b0 b1 b2 b3 h16 h17 h18
                go_wp2_with (first
                  | (with_reducible refine wpList_load_row rfl 23 (.tmp 3) rfl w.heap.size rfl 23 (cells8 a) (0, 0) _ H40.out Tryd.underlying23 rfl HSa.out ?_)
                  | (with_reducible refine wpList_load_row rfl 23 (.tmp 4) rfl (w.heap.size + 1) rfl 23 (cells8 b) (0, 0) _ H41.out Tryd.underlying23 rfl HSb.out ?_))
                refine (HEA.out wd).mono ?_
                rintro e w5 ⟨rfl, hb5⟩
                have HB5 : Aside0 (Below w.heap.size w w5) := ⟨HBd.out.trans (hb5.mono HBd.out.size)⟩
                have H50 := Aside0.mk (blk_of_below H40.out hb5)
                have H51 := Aside0.mk (blk_of_below H41.out hb5)
                have HX5 := Aside0.mk (Kd.C_below HX4.out hb5)
                have HY5 := Aside0.mk (Kd.C_below HY4.out hb5)
                clear hb5
                go_wp2_with (first
                  | (with_reducible refine wpList_load_row rfl 23 (.tmp 3) rfl w.heap.size rfl 23 (cells8 a) (0, 0) _ H50.out Tryd.underlying23 rfl HSa.out ?_)
                  | (with_reducible refine wpList_load_row rfl 23 (.tmp 4) rfl (w.heap.size + 1) rfl 23 (cells8 b) (0, 0) _ H51.out Tryd.underlying23 rfl HSb.out ?_))
                refine (HEB.out w5).mono ?_
                rintro e w6 ⟨rfl, hb6⟩
                have HB6 : Aside0 (Below w.heap.size w w6) := ⟨HB5.out.trans (hb6.mono HB5.out.size)⟩
                have HX6 := Aside0.mk (Kd.C_below HX5.out hb6)
                have HY6 := Aside0.mk (Kd.C_below HY5.out hb6)
                clear hb6
                have y1 := cell19 HY6.out i1 hi1
                have x1 := cell19 HX6.out i1 hi1
                have x2 := cell19 HX6.out i2 hi2
                have y2 := cell19 HY6.out i2 hi2
                generalize rd y (i1 : Int) = yy1 at y1 hl1
                generalize rd x (i1 : Int) = xx1 at x1 hl1
                generalize rd x (i2 : Int) = xx2 at x2 hl2
                generalize rd y (i2 : Int) = yy2 at y2 hl2
                have l1 := eq_true hl1
                have l2 := eq_true hl2
                have k1 := eq_true (show 0 ≤ (i1 : Int) by omega)
                have k2 := eq_true (show (i1 : Int) < 19 by omega)
                have k3 := eq_true (show 0 ≤ (i2 : Int) by omega)
                have k4 := eq_true (show (i2 : Int) < 19 by omega)
                have m1 := eq_false (show ¬ (i1 : Int) < 0 by omega)
                have m2 := eq_false (show ¬ (19 : Int) ≤ i1 by omega)
                have m3 := eq_false (show ¬ (i2 : Int) < 0 by omega)
                have m4 := eq_false (show ¬ (19 : Int) ≤ i2 by omega)
                clear hl1 hl2
                go_wp2_with fail
                go_quiet (fail)
                have HB7 : Aside0 (Below w.heap.size w (w6.drewN nq)) := ⟨pw_below_drewN HB6.out nq⟩
                go_wp2_with fail
                go_ret
                exact ⟨rfl, HB7.out⟩
              · have g1 := HD4.out (Or.inl hn)
                have g2 := HD5.out (Or.inl hn)
                rw [g1] at HEA
                rw [g2] at HEB
                have cn : ¬ (n : Int) = 19 := by omega
                clear g1 g2
                obtain ⟨wd, hwd⟩ : ∃ z, z = wr.drewN nq := ⟨_, rfl⟩
                rw [← hwd]
                have HBd : Aside0 (Below w.heap.size w wd) := ⟨by rw [hwd]; exact pw_below_drewN HBw.out nq⟩
                have H40 : Aside0 (wd.heap[w.heap.size]? = some (.cells (cells8 a) 23 (0, 0))) := ⟨by rw [hwd]; exact H30.out⟩
                have H41 : Aside0 (wd.heap[w.heap.size + 1]? = some (.cells (cells8 b) 23 (0, 0))) := ⟨by rw [hwd]; exact H31.out⟩
                have HX4 : Aside0 (Kd.C (Kd.int .i64) wd (some ⟨bx, 0, none⟩) 19 x) := ⟨by rw [hwd]; exact Kd.C_drewN HXw.out nq⟩
                have HY4 : Aside0 (Kd.C (Kd.int .i64) wd (some ⟨bY, 0, none⟩) 19 y) := ⟨by rw [hwd]; exact Kd.C_drewN HYw.out nq⟩
                clear hwd a0 a1 a2 a3 b0 b1 b2 b3 h16 h17 h18
                go_wp2_with (first
                  | (with_reducible refine wpList_load_row rfl 23 (.tmp 3) rfl w.heap.size rfl 23 (cells8 a) (0, 0) _ H40.out Tryd.underlying23 rfl HSa.out ?_)
                  | (with_reducible refine wpList_load_row rfl 23 (.tmp 4) rfl (w.heap.size + 1) rfl 23 (cells8 b) (0, 0) _ H41.out Tryd.underlying23 rfl HSb.out ?_))
                refine (HEA.out wd).mono ?_
                rintro e w5 ⟨rfl, hb5⟩
                have HB5 : Aside0 (Below w.heap.size w w5) := ⟨HBd.out.trans (hb5.mono HBd.out.size)⟩
                have H50 := Aside0.mk (blk_of_below H40.out hb5)
                have H51 := Aside0.mk (blk_of_below H41.out hb5)
                have HX5 := Aside0.mk (Kd.C_below HX4.out hb5)
                have HY5 := Aside0.mk (Kd.C_below HY4.out hb5)
                clear hb5
                go_wp2_with (first
                  | (with_reducible refine wpList_load_row rfl 23 (.tmp 3) rfl w.heap.size rfl 23 (cells8 a) (0, 0) _ H50.out Tryd.underlying23 rfl HSa.out ?_)
                  | (with_reducible refine wpList_load_row rfl 23 (.tmp 4) rfl (w.heap.size + 1) rfl 23 (cells8 b) (0, 0) _ H51.out Tryd.underlying23 rfl HSb.out ?_))
                refine (HEB.out w5).mono ?_
                rintro e w6 ⟨rfl, hb6⟩
                have HB6 : Aside0 (Below w.heap.size w w6) := ⟨HB5.out.trans (hb6.mono HB5.out.size)⟩
                have HX6 := Aside0.mk (Kd.C_below HX5.out hb6)
                have HY6 := Aside0.mk (Kd.C_below HY5.out hb6)
                clear hb6
                go_wp2_with fail
                go_ret
                exact ⟨rfl, HB6.out⟩
            · have q2 : (va2 == vb2) = false := by simpa using h2
              clear h0 h1 h2 hne
              go_wp2_with fail
              go_quiet (fail)
              by_cases hn : n = 19
              · obtain ⟨i1, g1, hi1, hl1⟩ := HD2.out hn HXY.out
                obtain ⟨i2, g2, hi2, hl2⟩ := HD3.out hn (fun e => HXY.out e.symm)
                rw [g1] at HEA
                rw [g2] at HEB
                subst hn
                clear g1 g2
                obtain ⟨wd, hwd⟩ : ∃ z, z = wr.drewN nq := ⟨_, rfl⟩
                rw [← hwd]
                have HBd : Aside0 (Below w.heap.size w wd) := ⟨by rw [hwd]; exact pw_below_drewN HBw.out nq⟩
                have H40 : Aside0 (wd.heap[w.heap.size]? = some (.cells (cells8 a) 23 (0, 0))) := ⟨by rw [hwd]; exact H30.out⟩
                have H41 : Aside0 (wd.heap[w.heap.size + 1]? = some (.cells (cells8 b) 23 (0, 0))) := ⟨by rw [hwd]; exact H31.out⟩
                have HX4 : Aside0 (Kd.C (Kd.int .i64) wd (some ⟨bx, 0, none⟩) 19 x) := ⟨by rw [hwd]; exact Kd.C_drewN HXw.out nq⟩
                have HY4 : Aside0 (Kd.C (Kd.int .i64) wd (some ⟨bY, 0, none⟩) 19 y) := ⟨by rw [hwd]; exact Kd.C_drewN HYw.out nq⟩
                clear hwd a0 a1 a2 a3 b0 b1 b2 b3 h16 h17 h18
                go_wp2_with (first
                  | (with_reducible refine wpList_load_row rfl 23 (.tmp 3) rfl w.heap.size rfl 23 (cells8 a) (0, 0) _ H40.out Tryd.underlying23 rfl HSa.out ?_)
                  | (with_reducible refine wpList_load_row rfl 23 (.tmp 4) rfl (w.heap.size + 1) rfl 23 (cells8 b) (0, 0) _ H41.out Tryd.underlying23 rfl HSb.out ?_))
                refine (HEA.out wd).mono ?_
                rintro e w5 ⟨rfl, hb5⟩
                have HB5 : Aside0 (Below w.heap.size w w5) := ⟨HBd.out.trans (hb5.mono HBd.out.size)⟩
                have H50 := Aside0.mk (blk_of_below H40.out hb5)
                have H51 := Aside0.mk (blk_of_below H41.out hb5)
                have HX5 := Aside0.mk (Kd.C_below HX4.out hb5)
                have HY5 := Aside0.mk (Kd.C_below HY4.out hb5)
                clear hb5
                go_wp2_with (first
                  | (with_reducible refine wpList_load_row rfl 23 (.tmp 3) rfl w.heap.size rfl 23 (cells8 a) (0, 0) _ H50.out Tryd.underlying23 rfl HSa.out ?_)
                  | (with_reducible refine wpList_load_row rfl 23 (.tmp 4) rfl (w.heap.size + 1) rfl 23 (cells8 b) (0, 0) _ H51.out Tryd.underlying23 rfl HSb.out ?_))
                refine (HEB.out w5).mono ?_
                rintro e w6 ⟨rfl, hb6⟩
                have HB6 : Aside0 (Below w.heap.size w w6) := ⟨HB5.out.trans (hb6.mono HB5.out.size)⟩
                have HX6 := Aside0.mk (Kd.C_below HX5.out hb6)
                have HY6 := Aside0.mk (Kd.C_below HY5.out hb6)
                clear hb6
                have y1 := cell19 HY6.out i1 hi1
                have x1 := cell19 HX6.out i1 hi1
                have x2 := cell19 HX6.out i2 hi2
                have y2 := cell19 HY6.out i2 hi2
                generalize rd y (i1 : Int) = yy1 at y1 hl1
                generalize rd x (i1 : Int) = xx1 at x1 hl1
                generalize rd x (i2 : Int) = xx2 at x2 hl2
                generalize rd y (i2 : Int) = yy2 at y2 hl2
                have l1 := eq_true hl1
                have l2 := eq_true hl2
                have k1 := eq_true (show 0 ≤ (i1 : Int) by omega)
                have k2 := eq_true (show (i1 : Int) < 19 by omega)
                have k3 := eq_true (show 0 ≤ (i2 : Int) by omega)
                have k4 := eq_true (show (i2 : Int) < 19 by omega)
                have m1 := eq_false (show ¬ (i1 : Int) < 0 by omega)
                have m2 := eq_false (show ¬ (19 : Int) ≤ i1 by omega)
                have m3 := eq_false (show ¬ (i2 : Int) < 0 by omega)
                have m4 := eq_false (show ¬ (19 : Int) ≤ i2 by omega)
                clear hl1 hl2
                go_wp2_with fail
                go_quiet (fail)
                have HB7 : Aside0 (Below w.heap.size w (w6.drewN nq)) := ⟨pw_below_drewN HB6.out nq⟩
                go_wp2_with fail
                go_ret
                exact ⟨rfl, HB7.out⟩
              · have g1 := HD4.out (Or.inl hn)
                have g2 := HD5.out (Or.inl hn)
                rw [g1] at HEA
                rw [g2] at HEB
                have cn : ¬ (n : Int) = 19 := by omega
                clear g1 g2
                obtain ⟨wd, hwd⟩ : ∃ z, z = wr.drewN nq := ⟨_, rfl⟩
                rw [← hwd]
                have HBd : Aside0 (Below w.heap.size w wd) := ⟨by rw [hwd]; exact pw_below_drewN HBw.out nq⟩
                have H40 : Aside0 (wd.heap[w.heap.size]? = some (.cells (cells8 a) 23 (0, 0))) := ⟨by rw [hwd]; exact H30.out⟩
                have H41 : Aside0 (wd.heap[w.heap.size + 1]? = some (.cells (cells8 b) 23 (0, 0))) := ⟨by rw [hwd]; exact H31.out⟩
                have HX4 : Aside0 (Kd.C (Kd.int .i64) wd (some ⟨bx, 0, none⟩) 19 x) := ⟨by rw [hwd]; exact Kd.C_drewN HXw.out nq⟩
                have HY4 : Aside0 (Kd.C (Kd.int .i64) wd (some ⟨bY, 0, none⟩) 19 y) := ⟨by rw [hwd]; exact Kd.C_drewN HYw.out nq⟩
                clear hwd a0 a1 a2 a3 b0 b1 b2 b3 h16 h17 h18
                go_wp2_with (first
                  | (with_reducible refine wpList_load_row rfl 23 (.tmp 3) rfl w.heap.size rfl 23 (cells8 a) (0, 0) _ H40.out Tryd.underlying23 rfl HSa.out ?_)
                  | (with_reducible refine wpList_load_row rfl 23 (.tmp 4) rfl (w.heap.size + 1) rfl 23 (cells8 b) (0, 0) _ H41.out Tryd.underlying23 rfl HSb.out ?_))
                refine (HEA.out wd).mono ?_
                rintro e w5 ⟨rfl, hb5⟩
                have HB5 : Aside0 (Below w.heap.size w w5) := ⟨HBd.out.trans (hb5.mono HBd.out.size)⟩
                have H50 := Aside0.mk (blk_of_below H40.out hb5)
                have H51 := Aside0.mk (blk_of_below H41.out hb5)
                have HX5 := Aside0.mk (Kd.C_below HX4.out hb5)
                have HY5 := Aside0.mk (Kd.C_below HY4.out hb5)
                clear hb5
                go_wp2_with (first
                  | (with_reducible refine wpList_load_row rfl 23 (.tmp 3) rfl w.heap.size rfl 23 (cells8 a) (0, 0) _ H50.out Tryd.underlying23 rfl HSa.out ?_)
                  | (with_reducible refine wpList_load_row rfl 23 (.tmp 4) rfl (w.heap.size + 1) rfl 23 (cells8 b) (0, 0) _ H51.out Tryd.underlying23 rfl HSb.out ?_))
                refine (HEB.out w5).mono ?_
                rintro e w6 ⟨rfl, hb6⟩
                have HB6 : Aside0 (Below w.heap.size w w6) := ⟨HB5.out.trans (hb6.mono HB5.out.size)⟩
                have HX6 := Aside0.mk (Kd.C_below HX5.out hb6)
                have HY6 := Aside0.mk (Kd.C_below HY5.out hb6)
                clear hb6
                go_wp2_with fail
                go_ret
                exact ⟨rfl, HB6.out⟩
          · have q1 : (va1 == vb1) = false := by simpa using h1
            clear h0 h1 hne
            go_wp2_with fail
            go_quiet (fail)
            by_cases hn : n = 19
            · obtain ⟨i1, g1, hi1, hl1⟩ := HD2.out hn HXY.out
              obtain ⟨i2, g2, hi2, hl2⟩ := HD3.out hn (fun e => HXY.out e.symm)
              rw [g1] at HEA
              rw [g2] at HEB
              subst hn
              clear g1 g2
              obtain ⟨wd, hwd⟩ : ∃ z, z = wr.drewN nq := ⟨_, rfl⟩
              rw [← hwd]
              have HBd : Aside0 (Below w.heap.size w wd) := ⟨by rw [hwd]; exact pw_below_drewN HBw.out nq⟩
              have H40 : Aside0 (wd.heap[w.heap.size]? = some (.cells (cells8 a) 23 (0, 0))) := ⟨by rw [hwd]; exact H30.out⟩
              have H41 : Aside0 (wd.heap[w.heap.size + 1]? = some (.cells (cells8 b) 23 (0, 0))) := ⟨by rw [hwd]; exact H31.out⟩
              have HX4 : Aside0 (Kd.C (Kd.int .i64) wd (some ⟨bx, 0, none⟩) 19 x) := ⟨by rw [hwd]; exact Kd.C_drewN HXw.out nq⟩
              have HY4 : Aside0 (Kd.C (Kd.int .i64) wd (some ⟨bY, 0, none⟩) 19 y) := ⟨by rw [hwd]; exact Kd.C_drewN HYw.out nq⟩
              clear hwd a0 a1 a2 a3 b0 b1 b2 b3 h16 h17 h18
              go_wp2_with (first
                | (with_reducible refine wpList_load_row rfl 23 (.tmp 3) rfl w.heap.size rfl 23 (cells8 a) (0, 0) _ H40.out Tryd.underlying23 rfl HSa.out ?_)
                | (with_reducible refine wpList_load_row rfl 23 (.tmp 4) rfl (w.heap.size + 1) rfl 23 (cells8 b) (0, 0) _ H41.out Tryd.underlying23 rfl HSb.out ?_))
              refine (HEA.out wd).mono ?_
              rintro e w5 ⟨rfl, hb5⟩
              have HB5 : Aside0 (Below w.heap.size w w5) := ⟨HBd.out.trans (hb5.mono HBd.out.size)⟩
              have H50 := Aside0.mk (blk_of_below H40.out hb5)
              have H51 := Aside0.mk (blk_of_below H41.out hb5)
              have HX5 := Aside0.mk (Kd.C_below HX4.out hb5)
              have HY5 := Aside0.mk (Kd.C_below HY4.out hb5)
              clear hb5
              go_wp2_with (first
                | (with_reducible refine wpList_load_row rfl 23 (.tmp 3) rfl w.heap.size rfl 23 (cells8 a) (0, 0) _ H50.out Tryd.underlying23 rfl HSa.out ?_)
                | (with_reducible refine wpList_load_row rfl 23 (.tmp 4) rfl (w.heap.size + 1) rfl 23 (cells8 b) (0, 0) _ H51.out Tryd.underlying23 rfl HSb.out ?_))
              refine (HEB.out w5).mono ?_
              rintro e w6 ⟨rfl, hb6⟩
              have HB6 : Aside0 (Below w.heap.size w w6) := ⟨HB5.out.trans (hb6.mono HB5.out.size)⟩
              have HX6 := Aside0.mk (Kd.C_below HX5.out hb6)
              have HY6 := Aside0.mk (Kd.C_below HY5.out hb6)
              clear hb6
              have y1 := cell19 HY6.out i1 hi1
              have x1 := cell19 HX6.out i1 hi1
              have x2 := cell19 HX6.out i2 hi2
              have y2 := cell19 HY6.out i2 hi2
              generalize rd y (i1 : Int) = yy1 at y1 hl1
              generalize rd x (i1 : Int) = xx1 at x1 hl1
              generalize rd x (i2 : Int) = xx2 at x2 hl2
              generalize rd y (i2 : Int) = yy2 at y2 hl2
              have l1 := eq_true hl1
              have l2 := eq_true hl2
              have k1 := eq_true (show 0 ≤ (i1 : Int) by omega)
              have k2 := eq_true (show (i1 : Int) < 19 by omega)
              have k3 := eq_true (show 0 ≤ (i2 : Int) by omega)
              have k4 := eq_true (show (i2 : Int) < 19 by omega)
              have m1 := eq_false (show ¬ (i1 : Int) < 0 by omega)
              have m2 := eq_false (show ¬ (19 : Int) ≤ i1 by omega)
              have m3 := eq_false (show ¬ (i2 : Int) < 0 by omega)
              have m4 := eq_false (show ¬ (19 : Int) ≤ i2 by omega)
              clear hl1 hl2
              go_wp2_with fail
              go_quiet (fail)
              have HB7 : Aside0 (Below w.heap.size w (w6.drewN nq)) := ⟨pw_below_drewN HB6.out nq⟩
              go_wp2_with fail
              go_ret
              exact ⟨rfl, HB7.out⟩
            · have g1 := HD4.out (Or.inl hn)
              have g2 := HD5.out (Or.inl hn)
              rw [g1] at HEA
              rw [g2] at HEB
              have cn : ¬ (n : Int) = 19 := by omega
              clear g1 g2
              obtain ⟨wd, hwd⟩ : ∃ z, z = wr.drewN nq := ⟨_, rfl⟩
              rw [← hwd]
              have HBd : Aside0 (Below w.heap.size w wd) := ⟨by rw [hwd]; exact pw_below_drewN HBw.out nq⟩
              have H40 : Aside0 (wd.heap[w.heap.size]? = some (.cells (cells8 a) 23 (0, 0))) := ⟨by rw [hwd]; exact H30.out⟩
              have H41 : Aside0 (wd.heap[w.heap.size + 1]? = some (.cells (cells8 b) 23 (0, 0))) := ⟨by rw [hwd]; exact H31.out⟩
              have HX4 : Aside0 (Kd.C (Kd.int .i64) wd (some ⟨bx, 0, none⟩) 19 x) := ⟨by rw [hwd]; exact Kd.C_drewN HXw.out nq⟩
              have HY4 : Aside0 (Kd.C (Kd.int .i64) wd (some ⟨bY, 0, none⟩) 19 y) := ⟨by rw [hwd]; exact Kd.C_drewN HYw.out nq⟩
              clear hwd a0 a1 a2 a3 b0 b1 b2 b3 h16 h17 h18
              go_wp2_with (first
                | (with_reducible refine wpList_load_row rfl 23 (.tmp 3) rfl w.heap.size rfl 23 (cells8 a) (0, 0) _ H40.out Tryd.underlying23 rfl HSa.out ?_)
                | (with_reducible refine wpList_load_row rfl 23 (.tmp 4) rfl (w.heap.size + 1) rfl 23 (cells8 b) (0, 0) _ H41.out Tryd.underlying23 rfl HSb.out ?_))
              refine (HEA.out wd).mono ?_
              rintro e w5 ⟨rfl, hb5⟩
              have HB5 : Aside0 (Below w.heap.size w w5) := ⟨HBd.out.trans (hb5.mono HBd.out.size)⟩
              have H50 := Aside0.mk (blk_of_below H40.out hb5)
              have H51 := Aside0.mk (blk_of_below H41.out hb5)
              have HX5 := Aside0.mk (Kd.C_below HX4.out hb5)
              have HY5 := Aside0.mk (Kd.C_below HY4.out hb5)
              clear hb5
              go_wp2_with (first
                | (with_reducible refine wpList_load_row rfl 23 (.tmp 3) rfl w.heap.size rfl 23 (cells8 a) (0, 0) _ H50.out Tryd.underlying23 rfl HSa.out ?_)
                | (with_reducible refine wpList_load_row rfl 23 (.tmp 4) rfl (w.heap.size + 1) rfl 23 (cells8 b) (0, 0) _ H51.out Tryd.underlying23 rfl HSb.out ?_))
              refine (HEB.out w5).mono ?_
              rintro e w6 ⟨rfl, hb6⟩
              have HB6 : Aside0 (Below w.heap.size w w6) := ⟨HB5.out.trans (hb6.mono HB5.out.size)⟩
              have HX6 := Aside0.mk (Kd.C_below HX5.out hb6)
              have HY6 := Aside0.mk (Kd.C_below HY5.out hb6)
              clear hb6
              go_wp2_with fail
              go_ret
              exact ⟨rfl, HB6.out⟩
        · have q0 : (va0 == vb0) = false := by simpa using h0
          clear h0 hne
          go_wp2_with fail
          go_quiet (fail)
          by_cases hn : n = 19
          · obtain ⟨i1, g1, hi1, hl1⟩ := HD2.out hn HXY.out
            obtain ⟨i2, g2, hi2, hl2⟩ := HD3.out hn (fun e => HXY.out e.symm)
            rw [g1] at HEA
            rw [g2] at HEB
            subst hn
            clear g1 g2
            obtain ⟨wd, hwd⟩ : ∃ z, z = wr.drewN nq := ⟨_, rfl⟩
            rw [← hwd]
            have HBd : Aside0 (Below w.heap.size w wd) := ⟨by rw [hwd]; exact pw_below_drewN HBw.out nq⟩
            have H40 : Aside0 (wd.heap[w.heap.size]? = some (.cells (cells8 a) 23 (0, 0))) := ⟨by rw [hwd]; exact H30.out⟩
            have H41 : Aside0 (wd.heap[w.heap.size + 1]? = some (.cells (cells8 b) 23 (0, 0))) := ⟨by rw [hwd]; exact H31.out⟩
            have HX4 : Aside0 (Kd.C (Kd.int .i64) wd (some ⟨bx, 0, none⟩) 19 x) := ⟨by rw [hwd]; exact Kd.C_drewN HXw.out nq⟩
            have HY4 : Aside0 (Kd.C (Kd.int .i64) wd (some ⟨bY, 0, none⟩) 19 y) := ⟨by rw [hwd]; exact Kd.C_drewN HYw.out nq⟩
            clear hwd a0 a1 a2 a3 b0 b1 b2 b3 h16 h17 h18
            go_wp2_with (first
              | (with_reducible refine wpList_load_row rfl 23 (.tmp 3) rfl w.heap.size rfl 23 (cells8 a) (0, 0) _ H40.out Tryd.underlying23 rfl HSa.out ?_)
              | (with_reducible refine wpList_load_row rfl 23 (.tmp 4) rfl (w.heap.size + 1) rfl 23 (cells8 b) (0, 0) _ H41.out Tryd.underlying23 rfl HSb.out ?_))
            refine (HEA.out wd).mono ?_
            rintro e w5 ⟨rfl, hb5⟩
            have HB5 : Aside0 (Below w.heap.size w w5) := ⟨HBd.out.trans (hb5.mono HBd.out.size)⟩
            have H50 := Aside0.mk (blk_of_below H40.out hb5)
            have H51 := Aside0.mk (blk_of_below H41.out hb5)
            have HX5 := Aside0.mk (Kd.C_below HX4.out hb5)
            have HY5 := Aside0.mk (Kd.C_below HY4.out hb5)
            clear hb5
            go_wp2_with (first
              | (with_reducible refine wpList_load_row rfl 23 (.tmp 3) rfl w.heap.size rfl 23 (cells8 a) (0, 0) _ H50.out Tryd.underlying23 rfl HSa.out ?_)
              | (with_reducible refine wpList_load_row rfl 23 (.tmp 4) rfl (w.heap.size + 1) rfl 23 (cells8 b) (0, 0) _ H51.out Tryd.underlying23 rfl HSb.out ?_))
            refine (HEB.out w5).mono ?_
            rintro e w6 ⟨rfl, hb6⟩
            have HB6 : Aside0 (Below w.heap.size w w6) := ⟨HB5.out.trans (hb6.mono HB5.out.size)⟩
            have HX6 := Aside0.mk (Kd.C_below HX5.out hb6)
            have HY6 := Aside0.mk (Kd.C_below HY5.out hb6)
            clear hb6
            have y1 := cell19 HY6.out i1 hi1
            have x1 := cell19 HX6.out i1 hi1
            have x2 := cell19 HX6.out i2 hi2
            have y2 := cell19 HY6.out i2 hi2
            generalize rd y (i1 : Int) = yy1 at y1 hl1
            generalize rd x (i1 : Int) = xx1 at x1 hl1
            generalize rd x (i2 : Int) = xx2 at x2 hl2
            generalize rd y (i2 : Int) = yy2 at y2 hl2
            have l1 := eq_true hl1
            have l2 := eq_true hl2
            have k1 := eq_true (show 0 ≤ (i1 : Int) by omega)
            have k2 := eq_true (show (i1 : Int) < 19 by omega)
            have k3 := eq_true (show 0 ≤ (i2 : Int) by omega)
            have k4 := eq_true (show (i2 : Int) < 19 by omega)
            have m1 := eq_false (show ¬ (i1 : Int) < 0 by omega)
            have m2 := eq_false (show ¬ (19 : Int) ≤ i1 by omega)
            have m3 := eq_false (show ¬ (i2 : Int) < 0 by omega)
            have m4 := eq_false (show ¬ (19 : Int) ≤ i2 by omega)
            clear hl1 hl2
            go_wp2_with fail
            go_quiet (fail)
            have HB7 : Aside0 (Below w.heap.size w (w6.drewN nq)) := ⟨pw_below_drewN HB6.out nq⟩
            go_wp2_with fail
            go_ret
            exact ⟨rfl, HB7.out⟩
          · have g1 := HD4.out (Or.inl hn)
            have g2 := HD5.out (Or.inl hn)
            rw [g1] at HEA
            rw [g2] at HEB
            have cn : ¬ (n : Int) = 19 := by omega
            clear g1 g2
            obtain ⟨wd, hwd⟩ : ∃ z, z = wr.drewN nq := ⟨_, rfl⟩
            rw [← hwd]
            have HBd : Aside0 (Below w.heap.size w wd) := ⟨by rw [hwd]; exact pw_below_drewN HBw.out nq⟩
            have H40 : Aside0 (wd.heap[w.heap.size]? = some (.cells (cells8 a) 23 (0, 0))) := ⟨by rw [hwd]; exact H30.out⟩
            have H41 : Aside0 (wd.heap[w.heap.size + 1]? = some (.cells (cells8 b) 23 (0, 0))) := ⟨by rw [hwd]; exact H31.out⟩
            have HX4 : Aside0 (Kd.C (Kd.int .i64) wd (some ⟨bx, 0, none⟩) 19 x) := ⟨by rw [hwd]; exact Kd.C_drewN HXw.out nq⟩
            have HY4 : Aside0 (Kd.C (Kd.int .i64) wd (some ⟨bY, 0, none⟩) 19 y) := ⟨by rw [hwd]; exact Kd.C_drewN HYw.out nq⟩
            clear hwd a0 a1 a2 a3 b0 b1 b2 b3 h16 h17 h18
            go_wp2_with (first
              | (with_reducible refine wpList_load_row rfl 23 (.tmp 3) rfl w.heap.size rfl 23 (cells8 a) (0, 0) _ H40.out Tryd.underlying23 rfl HSa.out ?_)
              | (with_reducible refine wpList_load_row rfl 23 (.tmp 4) rfl (w.heap.size + 1) rfl 23 (cells8 b) (0, 0) _ H41.out Tryd.underlying23 rfl HSb.out ?_))
            refine (HEA.out wd).mono ?_
            rintro e w5 ⟨rfl, hb5⟩
            have HB5 : Aside0 (Below w.heap.size w w5) := ⟨HBd.out.trans (hb5.mono HBd.out.size)⟩
            have H50 := Aside0.mk (blk_of_below H40.out hb5)
            have H51 := Aside0.mk (blk_of_below H41.out hb5)
            have HX5 := Aside0.mk (Kd.C_below HX4.out hb5)
            have HY5 := Aside0.mk (Kd.C_below HY4.out hb5)
            clear hb5
            go_wp2_with (first
              | (with_reducible refine wpList_load_row rfl 23 (.tmp 3) rfl w.heap.size rfl 23 (cells8 a) (0, 0) _ H50.out Tryd.underlying23 rfl HSa.out ?_)
              | (with_reducible refine wpList_load_row rfl 23 (.tmp 4) rfl (w.heap.size + 1) rfl 23 (cells8 b) (0, 0) _ H51.out Tryd.underlying23 rfl HSb.out ?_))
            refine (HEB.out w5).mono ?_
            rintro e w6 ⟨rfl, hb6⟩
            have HB6 : Aside0 (Below w.heap.size w w6) := ⟨HB5.out.trans (hb6.mono HB5.out.size)⟩
            have HX6 := Aside0.mk (Kd.C_below HX5.out hb6)
            have HY6 := Aside0.mk (Kd.C_below HY5.out hb6)
            clear hb6
            go_wp2_with fail
            go_ret
            exact ⟨rfl, HB6.out⟩
end Go.Proofs.YtkpfnbliideeeaaDoor.Q
