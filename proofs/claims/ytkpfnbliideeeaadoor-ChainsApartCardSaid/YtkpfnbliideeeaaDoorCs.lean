/- two lists of numbers, or of digests, compared -/
import Derived.Test.YtkpfnbliideeeaaDoorCg
namespace Go.Proofs.YtkpfnbliideeeaaDoor.Q
open Go.RowKit Go.Shelf Go.Proofs.YtkpfnbliideeeaaDoorW.PrintWords Go.Proofs.YtkpfnbliideeeaaDoorW.PrintLast Go.Proofs.YtkpfnbliideeeaaDoorW.PrintMore
set_option linter.unusedVariables false
set_option linter.unusedSimpArgs false
set_option maxHeartbeats 400000 in
theorem SameInts_calls (A B : Option Addr) (n m c d : Nat) (xs ys : List Int) (w : World) (hx : Kd.C (Kd.int .i64) w A n xs) (hy : Kd.C (Kd.int .i64) w B m ys) (hn : n ≤ 1000) (hm : m ≤ 1000) :
    Calls Tryd.prog 10 #[.slice A n c, .slice B m d] w fun e w' => e = .returned (.bool (xs == ys)) ∧ Below w.heap.size w w' := by
  have hlx := Kd.C_len hx
  have hly := Kd.C_len hy
  by_cases hnm : n = m
  · subst hnm
    have HX := Aside0.mk hx
    have HY := Aside0.mk hy
    have HLX := Aside0.mk hlx
    have HLY := Aside0.mk hly
    clear hx hy hlx hly
    go_enter Tryd.func10, Tryd.ntmps10
    go_wp2_with fail
    go_loopw [5] (fun i wr => ∃ k : Nat, k ≤ n ∧ i = .int .i64 (k : Int) ∧ Aside0 (Below w.heap.size w wr) ∧ Aside0 (xs.take k = ys.take k)) (fun i _ => n - (intOf i).toNat)
    case atStart => exact ⟨0, by omega, rfl, ⟨Below.refl _ _⟩, ⟨rfl⟩⟩
    case round =>
      obtain ⟨k, hk, rfl, HB, HT⟩ := hrel
      by_cases hlt : k < n
      · have c14 : decide ((k : Int) < (n : Int)) = true := decide_eq_true (by omega)
        obtain ⟨ad, rfl, hca⟩ := Kd.at_int (Kd.C_below HX.out HB.out) (k : Int) (by omega) (by omega)
        obtain ⟨bd, rfl, hcb⟩ := Kd.at_int (Kd.C_below HY.out HB.out) (k : Int) (by omega) (by omega)
        rw [Int.toNat_natCast] at hca hcb
        obtain ⟨x, hx⟩ : ∃ x, x = rd xs (k : Int) := ⟨_, rfl⟩
        obtain ⟨y, hy⟩ : ∃ y, y = rd ys (k : Int) := ⟨_, rfl⟩
        rw [← hx] at hca
        rw [← hy] at hcb
        have HXk := Aside0.mk hx
        have HYk := Aside0.mk hy
        clear hx hy
        have p1 := eq_true (show 0 ≤ (k : Int) by omega)
        have p2 := eq_true (show (k : Int) < (n : Int) by omega)
        go_wp2_with fail
        go_quiet (fail)
        have HBn : Aside0 (Below w.heap.size w (wr.drewN nq)) := ⟨pw_below_drewN HB.out nq⟩
        by_cases hxy : x = y
        · have cxy : (x != y) = false := by simp [hxy]
          rw [cxy]
          have HTn : Aside0 (xs.take (k + 1) = ys.take (k + 1)) := ⟨by
            have hk1 : k < xs.length := by rw [HLX.out]; exact hlt
            have hk2 : k < ys.length := by rw [HLY.out]; exact hlt
            have e1 : xs[k] = x := by rw [HXk.out]; simp [rd, List.getD, hk1]
            have e2 : ys[k] = y := by rw [HYk.out]; simp [rd, List.getD, hk2]
            rw [List.take_succ_eq_append_getElem hk1, List.take_succ_eq_append_getElem hk2, HT.out, e1, e2, hxy]⟩
          clear hxy cxy
          go_wp2_with fail
          go_roundw
          case rel => exact ⟨k + 1, by omega, by push_cast; rfl, HBn, HTn⟩
          case measure => show n - ((k : Int) + 1).toNat < n - ((k : Int)).toNat; omega
        · have cxy : (x != y) = true := by simp [hxy]
          rw [cxy]
          have hb : (xs == ys) = false := by
            rw [beq_eq_false_iff_ne]
            intro e
            exact hxy (by rw [HXk.out, HYk.out, e])
          clear cxy
          go_wp2_with fail
          go_ret
          refine ⟨?_, HBn.out⟩
          rw [hb]
          rfl
      · obtain rfl : k = n := by omega
        go_wp2_with fail
        go_ret
        refine ⟨?_, HB.out⟩
        have ht := HT.out
        rw [List.take_of_length_le (Nat.le_of_eq HLX.out), List.take_of_length_le (Nat.le_of_eq HLY.out)] at ht
        rw [ht]
        simp
  · have hne : ¬ (n : Int) = (m : Int) := by omega
    go_enter Tryd.func10, Tryd.ntmps10
    go_wp2_with fail
    go_ret
    refine ⟨?_, Below.refl _ _⟩
    have hb : (xs == ys) = false := by
      rw [beq_eq_false_iff_ne]
      rintro rfl
      omega
    rw [hb]
    rfl
end Go.Proofs.YtkpfnbliideeeaaDoor.Q
