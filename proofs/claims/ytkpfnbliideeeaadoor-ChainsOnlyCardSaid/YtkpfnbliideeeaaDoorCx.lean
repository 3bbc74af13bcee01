/- the law's ends -/
import Derived.Test.YtkpfnbliideeeaaDoorCw
namespace Go.Proofs.YtkpfnbliideeeaaDoor.Q
open Go.RowKit Go.Shelf Go.Proofs.YtkpfnbliideeeaaDoorW.PrintWords Go.Proofs.YtkpfnbliideeeaaDoorW.PrintLast Go.Proofs.YtkpfnbliideeeaaDoorW.PrintMore
set_option linter.unusedVariables false
set_option linter.unusedSimpArgs false
theorem blkdig {w : World} {b : Nat} {l : List Int} (h : Kd.C (Kd.int .i64) w (some ⟨b, 0, none⟩) 19 l) (k : Nat) (hk : k < 19) : w.cell? ⟨b, k, none⟩ = some (.int .i64 (rd l (k : Int))) := by
  obtain ⟨ad, e, hc⟩ := Kd.at_int h (k : Int) (by omega) (by omega)
  cases e
  rw [Int.toNat_natCast, add_plain] at hc
  exact hc
set_option maxHeartbeats 1000000 in
theorem ends_calls (m : List Int) (hm : m.length = 32) (A : Option Addr) (c : Nat) (s : List (List Int)) (w : World) (hS : Kd.C KdD w A 19 s) (hT : Tabs w) :
    Calls Tryd.prog 18 #[.agg (cells8 m), .slice A 19 c] w fun e w' => ∃ v, e = .returned v ∧ KdD.R 23 w' w.heap.size (fun _ => True) v (endsD m s 19) ∧ Below w.heap.size w w' := by
  have HM := Aside0.mk hm
  have HS := Aside0.mk hS
  have HT := Aside0.mk hT
  have HSm := Aside0.mk (size32 m hm)
  have HM0 := Aside0.mk (heap_alloc_new w (.cells (cells8 m) 23))
  clear hm hS hT
  go_enter Tryd.func18, Tryd.ntmps18
  go_wp2_with (with_reducible refine wpList_load_row rfl 23 (.tmp 2) rfl w.heap.size rfl 23 (cells8 m) (0, 0) _ HM0.out Tryd.underlying23 rfl HSm.out ?_)
  refine (Digits_calls m HM.out _).mono ?_
  rintro e w1 ⟨b1, rfl, hC1, hb1⟩
  have HB1 : Aside0 (Below w.heap.size w w1) := ⟨below_step (below_alloc (Below.refl _ _) _) hb1⟩
  have HC1 := Aside0.mk hC1
  clear hC1 hb1 HM0
  go_wp2_with fail
  go_loopw [4, 13] (fun v i wr => ∃ k : Nat, k ≤ 19 ∧ i = .int .i64 (k : Int) ∧ Aside0 (KdD.R 23 wr w1.heap.size (fun _ => True) v (endsD m s k)) ∧ Aside0 (Below w1.heap.size w1 wr)) (fun _ i _ => 19 - (intOf i).toNat)
  case atStart => exact ⟨0, by omega, rfl, ⟨Kd.R_nil _ _ _ _ _⟩, ⟨Below.refl _ _⟩⟩
  case round =>
    obtain ⟨k, hk, rfl, HR, HB⟩ := hrel
    have HBw : Aside0 (Below w.heap.size w wr) := ⟨HB1.out.trans (HB.out.mono HB1.out.size)⟩
    by_cases hlt : k < 19
    · have c14 : decide ((k : Int) < 19) = true := decide_eq_true (by omega)
      obtain ⟨ad, rfl, hl0, hx0⟩ := at_dig (Kd.C_below (Kd.C_below HS.out HB1.out) HB.out) k hlt
      have HX0 := Aside0.mk hx0
      have HL0 := Aside0.mk hl0
      have HSx := Aside0.mk (size32 (s.getD k []) hl0)
      have HN := Aside0.mk (heap_alloc_new wr (.cells #[.int .u8 0, .int .u8 0, .int .u8 0, .int .u8 0, .int .u8 0, .int .u8 0, .int .u8 0, .int .u8 0, .int .u8 0, .int .u8 0, .int .u8 0, .int .u8 0, .int .u8 0, .int .u8 0, .int .u8 0, .int .u8 0, .int .u8 0, .int .u8 0, .int .u8 0, .int .u8 0, .int .u8 0, .int .u8 0, .int .u8 0, .int .u8 0, .int .u8 0, .int .u8 0, .int .u8 0, .int .u8 0, .int .u8 0, .int .u8 0, .int .u8 0, .int .u8 0] 23))
      have HO : Aside0 ((#[.int .u8 0, .int .u8 0, .int .u8 0, .int .u8 0, .int .u8 0, .int .u8 0, .int .u8 0, .int .u8 0, .int .u8 0, .int .u8 0, .int .u8 0, .int .u8 0, .int .u8 0, .int .u8 0, .int .u8 0, .int .u8 0, .int .u8 0, .int .u8 0, .int .u8 0, .int .u8 0, .int .u8 0, .int .u8 0, .int .u8 0, .int .u8 0, .int .u8 0, .int .u8 0, .int .u8 0, .int .u8 0, .int .u8 0, .int .u8 0, .int .u8 0, .int .u8 0] : Array Value).size = (cells8 (s.getD k [])).size) := ⟨by rw [cells8_size, hl0]; rfl⟩
      have p1 := eq_true (show 0 ≤ (k : Int) by omega)
      have p2 := eq_true (show (k : Int) < 19 by omega)
      clear hx0 hl0
      have hdg := digits_range m k hlt
      obtain ⟨g, hg⟩ : ∃ g, g = rd (digits m) (k : Int) := ⟨_, rfl⟩
      rw [← hg] at hdg
      have HG := Aside0.mk hg
      have HEs : Aside0 (endsD m s (k + 1) = endsD m s k ++ [endD m s k]) := ⟨by rw [endsD, List.range_succ, List.map_append]; rfl⟩
      have HEl : Aside0 ((endsD m s k).length = k) := ⟨by simp [endsD]⟩
      obtain ⟨x, hx⟩ : ∃ x, x = s.getD k [] := ⟨_, rfl⟩
      have hend : endD m s k = stepsD x (3 - g).toNat := by rw [endD, hx, hg]
      rw [← hx] at HX0 HL0 HSx HO
      have HE := Aside0.mk hend
      obtain ⟨A3, c3, n3, e3, hC3, hc3⟩ := R_anyD HR.out
      subst e3
      have HC3 := Aside0.mk hC3
      obtain ⟨B, hB⟩ : ∃ B, B = wr.heap.size := ⟨_, rfl⟩
      rw [← hB] at HN
      have hw1B : w1.heap.size ≤ B := by rw [hB]; exact HB.out.size
      have HBB := Aside0.mk hB
      clear hg hx hend hC3 hB
      go_wp2_with (first
        | (with_reducible refine wpList_load_at rfl 23 (.tmp 16) rfl (ad.add (k * 32)) rfl (cells8 x) _ HX0.out Tryd.underlying23 rfl HSx.out ?_)
        | (rw [← HBB.out]; with_reducible refine wpList_store_row rfl 23 (.tmp 7) (.tmp 17) rfl B (cells8 x) rfl rfl 23 #[.int .u8 0, .int .u8 0, .int .u8 0, .int .u8 0, .int .u8 0, .int .u8 0, .int .u8 0, .int .u8 0, .int .u8 0, .int .u8 0, .int .u8 0, .int .u8 0, .int .u8 0, .int .u8 0, .int .u8 0, .int .u8 0, .int .u8 0, .int .u8 0, .int .u8 0, .int .u8 0, .int .u8 0, .int .u8 0, .int .u8 0, .int .u8 0, .int .u8 0, .int .u8 0, .int .u8 0, .int .u8 0, .int .u8 0, .int .u8 0, .int .u8 0, .int .u8 0] HN.out HSx.out HO.out (all_one8 _) ?_; obtain ⟨w3, hw3⟩ : ∃ z, z = (wr.alloc (.cells #[.int .u8 0, .int .u8 0, .int .u8 0, .int .u8 0, .int .u8 0, .int .u8 0, .int .u8 0, .int .u8 0, .int .u8 0, .int .u8 0, .int .u8 0, .int .u8 0, .int .u8 0, .int .u8 0, .int .u8 0, .int .u8 0, .int .u8 0, .int .u8 0, .int .u8 0, .int .u8 0, .int .u8 0, .int .u8 0, .int .u8 0, .int .u8 0, .int .u8 0, .int .u8 0, .int .u8 0, .int .u8 0, .int .u8 0, .int .u8 0, .int .u8 0, .int .u8 0] 23)).setRow B (cells8 x) := ⟨_, rfl⟩; rw [← hw3]; have HT3 : Aside0 (w3.heap[B]? = some (.cells (cells8 x) 23 (0, 0))) := ⟨by rw [hw3]; exact setRow_heap _ _ _ _ _ _ HN.out⟩; have hb3 : Below wr.heap.size wr w3 := (by rw [hw3]; exact below_setRow (below_alloc (Below.refl _ _) _) (by rw [HBB.out]; exact Nat.le_refl _) _); have HB3 : Aside0 (Below B wr w3) := ⟨by rw [HBB.out]; exact hb3⟩; have hdc := (blkdig (Kd.C_below HC1.out (HB.out.trans (hb3.mono HB.out.size))) k hlt); rw [← HG.out] at hdc; clear hw3 hb3))
      have HRw : Aside0 (∀ w' : World, Below B wr w' → KdD.R 23 w' w1.heap.size (fun _ => True) (.slice A3 n3 c3) (endsD m s k)) := ⟨fun w' h => Kd.R_below HR.out (by rw [HBB.out] at h; exact h)⟩
      have HBw1 : Aside0 (∀ w' : World, Below B wr w' → Below w1.heap.size w1 w') := ⟨fun w' h => HB.out.trans (h.mono hw1B)⟩
      go_loopw [8] (fun v w' => ∃ j : Nat, g + (j : Int) ≤ 3 ∧ v = .int .i64 (g + (j : Int)) ∧ Aside0 (w'.heap[B]? = some (.cells (cells8 (stepsD x j)) 23 (0, 0))) ∧ Aside0 (Below B wr w')) (fun v _ => 3 - (intOf v).toNat)
      case atStart => exact ⟨0, by omega, by simp, HT3, HB3⟩
      case round =>
        rename_i hrel
        obtain ⟨j, hj, rfl, HXj, HBj⟩ := hrel
        have HXl : Aside0 ((stepsD x j).length = 32) := ⟨stepsD_length x HL0.out j⟩
        have HSj := Aside0.mk (size32 _ HXl.out)
        have HBj1 := Aside0.mk (HBw1.out _ HBj.out)
        by_cases hlt3 : g + (j : Int) < 3
        · have c23 : decide (g + (j : Int) < 3) = true := decide_eq_true hlt3
          have hwr : wrap64 (g + (j : Int) + 1) = g + (j : Int) + 1 := by unfold wrap64; omega
          obtain ⟨y, hy⟩ : ∃ y, y = stepsD x j := ⟨_, rfl⟩
          rw [← hy] at HXj HXl HSj
          have HY := Aside0.mk hy
          clear hy
          go_wp2_with (with_reducible refine wpList_load_row rfl 23 (.tmp 7) rfl B rfl 23 (cells8 y) (0, 0) _ HXj.out Tryd.underlying23 rfl HSj.out ?_)
          refine (step_calls y HXl.out wr ((HT.out.below HB1.out).below HBj1.out)).mono ?_
          rintro e w4 ⟨rfl, hb4⟩
          have hst : stepD y = stepsD x (j + 1) := by rw [stepsD, HY.out]
          rw [hst]
          have HZl : Aside0 ((stepsD x (j + 1)).length = 32) := ⟨stepsD_length x HL0.out _⟩
          obtain ⟨z, hz⟩ : ∃ z, z = stepsD x (j + 1) := ⟨_, rfl⟩
          rw [← hz] at HZl ⊢
          have HZz := Aside0.mk hz
          have HSz := Aside0.mk (size32 z HZl.out)
          have HOz : Aside0 ((cells8 y).size = (cells8 z).size) := ⟨by rw [cells8_size, cells8_size, HZl.out, HXl.out]⟩
          have HX4 := Aside0.mk (blk_of_below HXj.out hb4)
          have HB4 := Aside0.mk (HBj.out.trans (hb4.mono (by have := blk_lt HXj.out; omega)))
          clear hz hst hb4
          go_wp2_with (with_reducible refine wpList_store_row rfl 23 (.tmp 7) (.tmp 27) rfl B (cells8 z) rfl rfl 23 (cells8 y) HX4.out HSz.out HOz.out (all_one8 _) ?_)
          go_roundw
          case rel => exact ⟨j + 1, by omega, by push_cast; rw [Int.add_assoc], ⟨by rw [← HZz.out]; exact setRow_heap _ _ _ _ _ _ HX4.out⟩, ⟨below_setRow HB4.out (Nat.le_refl _) _⟩⟩
          case measure => simp [intOf]; omega
        · have e3 : g + (j : Int) = 3 := by omega
          have c23 : decide (g + (j : Int) < 3) = false := decide_eq_false hlt3
          have hje : (3 - g).toNat = j := by omega
          have hex : endD m s k = stepsD x j := by rw [HE.out, hje]
          obtain ⟨y, hy⟩ : ∃ y, y = stepsD x j := ⟨_, rfl⟩
          rw [← hy] at HXj HXl HSj hex
          have HEs2 : Aside0 (endsD m s (k + 1) = endsD m s k ++ [y]) := ⟨by rw [HEs.out, hex]⟩
          have HR2 := Aside0.mk (HRw.out _ HBj.out)
          have hs2 : w1.heap.size ≤ wr.heap.size := HBj1.out.size
          clear hy hje hex
          go_wp2_with (first
            | (with_reducible refine wpList_load_row rfl 23 (.tmp 7) rfl B rfl 23 (cells8 y) (0, 0) _ HXj.out Tryd.underlying23 rfl HSj.out ?_)
            | (with_reducible refine wpList_build_one rfl (.tmp 29) rfl y HXl.out rfl ?_)
            | (at_builtin; (refine Kd.R_append KdD (w0 := w1) (W := wr) w1.heap.size rfl (.tmp 28) (.tmp 30) 24 23 (.agg #[.int .u8 0, .int .u8 0, .int .u8 0, .int .u8 0, .int .u8 0, .int .u8 0, .int .u8 0, .int .u8 0, .int .u8 0, .int .u8 0, .int .u8 0, .int .u8 0, .int .u8 0, .int .u8 0, .int .u8 0, .int .u8 0, .int .u8 0, .int .u8 0, .int .u8 0, .int .u8 0, .int .u8 0, .int .u8 0, .int .u8 0, .int .u8 0, .int .u8 0, .int .u8 0, .int .u8 0, .int .u8 0, .int .u8 0, .int .u8 0, .int .u8 0, .int .u8 0]) 32 rfl Tryd.underlying24 info23 rfl (by decide) (by decide) (.slice A3 n3 c3) (endsD m s k) y (nums .u8 y) (fun _ => True) (fun _ => False) rfl rfl (dig_M _ HXl.out) (fun _ h => h.elim) (fun _ _ => trivial) HR2.out HBj1.out hs2 (by rw [HEl.out]; omega) ?_); intro v4 w4 h4 hb4 hg4 _; have HR4 := Aside0.mk h4; have HB4 := Aside0.mk hb4; clear h4 hb4 hg4))
          go_roundw
          case rel => exact ⟨k + 1, by omega, by push_cast; rfl, ⟨by rw [HEs2.out]; exact HR4.out⟩, HB4⟩
          case measure => show 19 - ((k : Int) + 1).toNat < 19 - ((k : Int)).toNat; omega
    · obtain rfl : k = 19 := by omega
      go_wp2_with fail
      go_ret
      exact ⟨_, rfl, Kd.R_lower HR.out HB1.out.size, HB1.out.trans (HB.out.mono HB1.out.size)⟩
end Go.Proofs.YtkpfnbliideeeaaDoor.Q
