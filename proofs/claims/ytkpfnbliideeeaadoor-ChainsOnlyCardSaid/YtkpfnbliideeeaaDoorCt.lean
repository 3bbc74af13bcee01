/- the reference: Earlier -/
import Derived.Test.YtkpfnbliideeeaaDoorCr
namespace Go.Proofs.YtkpfnbliideeeaaDoor.Q
open Go.RowKit Go.Shelf Go.Proofs.YtkpfnbliideeeaaDoorW.PrintWords Go.Proofs.YtkpfnbliideeeaaDoorW.PrintLast Go.Proofs.YtkpfnbliideeeaaDoorW.PrintMore
set_option linter.unusedVariables false
set_option linter.unusedSimpArgs false
set_option maxHeartbeats 400000 in
theorem rEarlier_calls (m o : List Int) (hm : m.length = 32) (ho : o.length = 32) (hmb : ∀ x ∈ m, 0 ≤ x ∧ x ≤ 255) (hob : ∀ x ∈ o, 0 ≤ x ∧ x ≤ 255) (A : Option Addr) (n c : Nat) (hn : n ≤ 1000) (w : World) :
    Calls Tryd.prog 9 #[.agg (cells8 m), .slice A n c, .agg (cells8 o)] w fun e w' => e = .returned (.tuple #[.int .i64 (earlierD m o n).1, .bool (earlierD m o n).2]) ∧ Below w.heap.size w w' := by
  have HM := Aside0.mk hm
  have HO := Aside0.mk ho
  have HMb := Aside0.mk hmb
  have HOb := Aside0.mk hob
  have HS8 := Aside0.mk (size32 m hm)
  have HS9 := Aside0.mk (size32 o ho)
  clear hm ho hmb hob
  have HM1 : Aside0 (((w.alloc (.cells (cells8 m) 23)).alloc (.cells (cells8 o) 23)).heap[w.heap.size]? = some (.cells (cells8 m) 23 (0, 0))) := ⟨heap_alloc2_old _ _ _⟩
  have HM2 : Aside0 (((w.alloc (.cells (cells8 m) 23)).alloc (.cells (cells8 o) 23)).heap[w.heap.size + 1]? = some (.cells (cells8 o) 23 (0, 0))) := ⟨heap_alloc2_new _ _ _⟩
  have HB0 : Aside0 (Below w.heap.size w ((w.alloc (.cells (cells8 m) 23)).alloc (.cells (cells8 o) 23))) := ⟨below_alloc (below_alloc (Below.refl _ _) _) _⟩
  by_cases h19 : n = 19
  · subst h19
    go_enter Tryd.func9, Tryd.ntmps9
    go_wp2_with (with_reducible refine wpList_load_row rfl 23 (.tmp 3) rfl w.heap.size rfl 23 (cells8 m) (0, 0) _ HM1.out Tryd.underlying23 rfl HS8.out ?_)
    refine (rDigits_calls m HM.out HMb.out _).mono ?_
    rintro e w1 ⟨A1, c1, rfl, hc1, hC1, hb1⟩
    have HB1 : Aside0 (Below w.heap.size w w1) := ⟨HB0.out.trans (hb1.mono HB0.out.size)⟩
    have HO1 := Aside0.mk (blk_of_below HM2.out hb1)
    have HC1 := Aside0.mk hC1
    clear hb1 hC1 HM1 HM2 HB0
    go_wp2_with (with_reducible refine wpList_load_row rfl 23 (.tmp 5) rfl (w.heap.size + 1) rfl 23 (cells8 o) (0, 0) _ HO1.out Tryd.underlying23 rfl HS9.out ?_)
    refine (rDigits_calls o HO.out HOb.out _).mono ?_
    rintro e w2 ⟨A2, c2, rfl, hc2, hC2, hb2⟩
    have HB2 : Aside0 (Below w.heap.size w w2) := ⟨HB1.out.trans (hb2.mono HB1.out.size)⟩
    have HA := Aside0.mk (Kd.C_below HC1.out hb2)
    have HBb := Aside0.mk hC2
    clear hb2 hC2 HC1 HO1 HB1
    go_wp2_with fail
    go_loopw [10] (fun i wr => ∃ k : Nat, k ≤ 19 ∧ i = .int .i64 (k : Int) ∧ Aside0 (Below w2.heap.size w2 wr) ∧ Aside0 (lessFrom (digits m) (digits o) (19 - k) k = lessFrom (digits m) (digits o) 19 0)) (fun i _ => 19 - (intOf i).toNat)
    case atStart => exact ⟨0, by omega, rfl, ⟨Below.refl _ _⟩, ⟨rfl⟩⟩
    case round =>
      obtain ⟨k, hk, rfl, HBr, HI⟩ := hrel
      have HBw : Aside0 (Below w.heap.size w wr) := ⟨HB2.out.trans (HBr.out.mono HB2.out.size)⟩
      by_cases hlt : k < 19
      · have c19 : decide ((k : Int) < 19) = true := decide_eq_true (by omega)
        obtain ⟨ad, rfl, hca⟩ := Kd.at_int (Kd.C_below HA.out HBr.out) (k : Int) (by omega) (by omega)
        obtain ⟨bd, rfl, hcb⟩ := Kd.at_int (Kd.C_below HBb.out HBr.out) (k : Int) (by omega) (by omega)
        rw [Int.toNat_natCast] at hca hcb
        have p1 := eq_true (show 0 ≤ (k : Int) by omega)
        have p2 := eq_true (show (k : Int) < 19 by omega)
        have hsucc : 19 - k = (19 - (k + 1)) + 1 := by omega
        have HI2 := HI.out
        rw [hsucc, lessFrom] at HI2
        obtain ⟨x, hx⟩ : ∃ x, x = rd (digits o) (k : Int) := ⟨_, rfl⟩
        obtain ⟨y, hy⟩ : ∃ y, y = rd (digits m) (k : Int) := ⟨_, rfl⟩
        rw [← hx] at hcb HI2
        rw [← hy] at hca HI2
        have HI3 := Aside0.mk HI2
        clear HI2 hx hy hsucc
        go_wp2_with fail
        go_quiet (fail)
        have HBn : Aside0 (Below w2.heap.size w2 (wr.drewN nq)) := ⟨pw_below_drewN HBr.out nq⟩
        have HBm : Aside0 (Below w.heap.size w (wr.drewN nq)) := ⟨pw_below_drewN HBw.out nq⟩
        by_cases hxy : x < y
        · have c30 : decide (x < y) = true := decide_eq_true hxy
          go_wp2_with fail
          go_ret2
          refine ⟨?_, HBm.out⟩
          have h3 := HI3.out
          rw [if_pos hxy] at h3
          rw [earlierD, if_pos rfl, ← h3]
          rfl
        · have c30 : decide (x < y) = false := decide_eq_false hxy
          go_wp2_with fail
          go_roundw
          case rel => exact ⟨k + 1, by omega, by push_cast; rfl, HBn, ⟨by have h3 := HI3.out; rwa [if_neg hxy] at h3⟩⟩
          case measure => show 19 - ((k : Int) + 1).toNat < 19 - ((k : Int)).toNat; omega
      · obtain rfl : k = 19 := by omega
        go_wp2_with fail
        go_ret2
        refine ⟨?_, HBw.out⟩
        have h3 := HI.out
        rw [earlierD, if_pos rfl, ← h3]
        rfl
  · have hne : ¬ (n : Int) = 19 := by omega
    go_enter Tryd.func9, Tryd.ntmps9
    go_wp2_with fail
    go_ret2
    exact ⟨by rw [earlierD, if_neg h19]; rfl, HB0.out⟩
end Go.Proofs.YtkpfnbliideeeaaDoor.Q
