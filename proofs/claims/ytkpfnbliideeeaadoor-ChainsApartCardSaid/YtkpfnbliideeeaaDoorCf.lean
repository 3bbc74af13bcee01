/- chains: Earlier -/
import Derived.Test.YtkpfnbliideeeaaDoorCe
namespace Go.Proofs.YtkpfnbliideeeaaDoor.Q
open Go.RowKit Go.Shelf Go.Proofs.YtkpfnbliideeeaaDoorW.PrintWords Go.Proofs.YtkpfnbliideeeaaDoorW.PrintLast Go.Proofs.YtkpfnbliideeeaaDoorW.PrintMore
set_option linter.unusedVariables false
set_option linter.unusedSimpArgs false
theorem index19 (L : List Int) (hL : L.length = 19) (k : Nat) (hk : k < 19) (W : World) : (Instr.index 45 (.agg (cellsI L)) (.int .i64 (k : Int))).run Tryd.prog W = .ok (.int .i64 (rd L (k : Int))) W := by
  match L, hL with
  | [a0, a1, a2, a3, a4, a5, a6, a7, a8, a9, a10, a11, a12, a13, a14, a15, a16, a17, a18], _ =>
    match k, hk with
    | 0, _ => rfl
    | 1, _ => rfl
    | 2, _ => rfl
    | 3, _ => rfl
    | 4, _ => rfl
    | 5, _ => rfl
    | 6, _ => rfl
    | 7, _ => rfl
    | 8, _ => rfl
    | 9, _ => rfl
    | 10, _ => rfl
    | 11, _ => rfl
    | 12, _ => rfl
    | 13, _ => rfl
    | 14, _ => rfl
    | 15, _ => rfl
    | 16, _ => rfl
    | 17, _ => rfl
    | 18, _ => rfl
    | n + 19, h => omega
/-- the first place from k on, n of them, at which b is less than a -/
def lessFrom (a b : List Int) : Nat → Nat → Int × Bool
  | 0, _ => (0, false)
  | n + 1, k => if rd b (k : Int) < rd a (k : Int) then ((k : Int), true) else lessFrom a b n (k + 1)
def earlierD (m o : List Int) (n : Nat) : Int × Bool := if n = 19 then lessFrom (digits m) (digits o) 19 0 else (0, false)
set_option maxHeartbeats 400000 in
theorem Earlier_calls (m o : List Int) (hm : m.length = 32) (ho : o.length = 32) (A : Option Addr) (n c : Nat) (hn : n ≤ 1000) (w : World) :
    Calls Tryd.prog 8 #[.agg (cells8 m), .slice A n c, .agg (cells8 o)] w fun e w' => e = .returned (.tuple #[.int .i64 (earlierD m o n).1, .bool (earlierD m o n).2]) ∧ Below w.heap.size w w' := by
  have HM := Aside0.mk hm
  have HO := Aside0.mk ho
  have HS8 := Aside0.mk (size32 m hm)
  have HS9 := Aside0.mk (size32 o ho)
  clear hm ho
  have HM1 : Aside0 (((w.alloc (.cells (cells8 m) 23)).alloc (.cells (cells8 o) 23)).heap[w.heap.size]? = some (.cells (cells8 m) 23 (0, 0))) := ⟨heap_alloc2_old _ _ _⟩
  have HM2 : Aside0 (((w.alloc (.cells (cells8 m) 23)).alloc (.cells (cells8 o) 23)).heap[w.heap.size + 1]? = some (.cells (cells8 o) 23 (0, 0))) := ⟨heap_alloc2_new _ _ _⟩
  have HB0 : Aside0 (Below w.heap.size w ((w.alloc (.cells (cells8 m) 23)).alloc (.cells (cells8 o) 23))) := ⟨below_alloc (below_alloc (Below.refl _ _) _) _⟩
  by_cases h19 : n = 19
  · subst h19
    go_enter Tryd.func8, Tryd.ntmps8
    go_wp2_with (with_reducible refine wpList_load_row rfl 23 (.tmp 3) rfl w.heap.size rfl 23 (cells8 m) (0, 0) _ HM1.out Tryd.underlying23 rfl HS8.out ?_)
    refine (of_calls m HM.out _).mono ?_
    rintro e w1 ⟨rfl, hb1⟩
    have HB1 : Aside0 (Below w.heap.size w w1) := ⟨HB0.out.trans (hb1.mono HB0.out.size)⟩
    have HO1 := Aside0.mk (blk_of_below HM2.out hb1)
    have HLA := Aside0.mk (digits_length m)
    obtain ⟨a, ha⟩ : ∃ a, a = digits m := ⟨_, rfl⟩
    rw [← ha] at HLA ⊢
    have HA := Aside0.mk ha
    have HSZ := Aside0.mk (size19 a HLA.out)
    have HOLD : Aside0 ((#[.int .i64 0, .int .i64 0, .int .i64 0, .int .i64 0, .int .i64 0, .int .i64 0, .int .i64 0, .int .i64 0, .int .i64 0, .int .i64 0, .int .i64 0, .int .i64 0, .int .i64 0, .int .i64 0, .int .i64 0, .int .i64 0, .int .i64 0, .int .i64 0, .int .i64 0] : Array Value).size = (cellsI a).size) := ⟨by rw [cellsI_size, HLA.out]; rfl⟩
    have HN1 := Aside0.mk (heap_alloc_new w1 (.cells #[.int .i64 0, .int .i64 0, .int .i64 0, .int .i64 0, .int .i64 0, .int .i64 0, .int .i64 0, .int .i64 0, .int .i64 0, .int .i64 0, .int .i64 0, .int .i64 0, .int .i64 0, .int .i64 0, .int .i64 0, .int .i64 0, .int .i64 0, .int .i64 0, .int .i64 0] 45))
    have hs1 : w.heap.size + 2 ≤ w1.heap.size := by have := hb1.size; simp at this; omega
    have HO2 : Aside0 (((w1.alloc (.cells #[.int .i64 0, .int .i64 0, .int .i64 0, .int .i64 0, .int .i64 0, .int .i64 0, .int .i64 0, .int .i64 0, .int .i64 0, .int .i64 0, .int .i64 0, .int .i64 0, .int .i64 0, .int .i64 0, .int .i64 0, .int .i64 0, .int .i64 0, .int .i64 0, .int .i64 0] 45)).setRow w1.heap.size (cellsI a)).heap[w.heap.size + 1]? = some (.cells (cells8 o) 23 (0, 0))) := ⟨(setRow_other _ _ _ _ (by omega)).trans (blk_alloc HO1.out _)⟩
    have HB2 : Aside0 (Below w.heap.size w ((w1.alloc (.cells #[.int .i64 0, .int .i64 0, .int .i64 0, .int .i64 0, .int .i64 0, .int .i64 0, .int .i64 0, .int .i64 0, .int .i64 0, .int .i64 0, .int .i64 0, .int .i64 0, .int .i64 0, .int .i64 0, .int .i64 0, .int .i64 0, .int .i64 0, .int .i64 0, .int .i64 0] 45)).setRow w1.heap.size (cellsI a))) := ⟨below_setRow (below_alloc HB1.out _) (by omega) _⟩
    have HD2 : Aside0 (((w1.alloc (.cells #[.int .i64 0, .int .i64 0, .int .i64 0, .int .i64 0, .int .i64 0, .int .i64 0, .int .i64 0, .int .i64 0, .int .i64 0, .int .i64 0, .int .i64 0, .int .i64 0, .int .i64 0, .int .i64 0, .int .i64 0, .int .i64 0, .int .i64 0, .int .i64 0, .int .i64 0] 45)).setRow w1.heap.size (cellsI a)).heap[w1.heap.size]? = some (.cells (cellsI a) 45 (0, 0))) := ⟨setRow_heap _ _ _ _ _ _ HN1.out⟩
    clear hb1 ha HM1 HM2 HB0
    go_wp2_with (first
      | (with_reducible refine wpList_store_row rfl 45 (.tmp 8) (.tmp 15) rfl w1.heap.size (cellsI a) rfl rfl 45 #[.int .i64 0, .int .i64 0, .int .i64 0, .int .i64 0, .int .i64 0, .int .i64 0, .int .i64 0, .int .i64 0, .int .i64 0, .int .i64 0, .int .i64 0, .int .i64 0, .int .i64 0, .int .i64 0, .int .i64 0, .int .i64 0, .int .i64 0, .int .i64 0, .int .i64 0] HN1.out HSZ.out HOLD.out (all_oneI _) ?_)
      | (with_reducible refine wpList_load_row rfl 23 (.tmp 5) rfl (w.heap.size + 1) rfl 23 (cells8 o) (0, 0) _ HO2.out Tryd.underlying23 rfl HS9.out ?_))
    refine (of_calls o HO.out _).mono ?_
    rintro e w2 ⟨rfl, hb2⟩
    have HB3 : Aside0 (Below w.heap.size w w2) := ⟨HB2.out.trans (hb2.mono HB2.out.size)⟩
    have HD3 := Aside0.mk (blk_of_below HD2.out hb2)
    have HLB := Aside0.mk (digits_length o)
    obtain ⟨b, hb⟩ : ∃ b, b = digits o := ⟨_, rfl⟩
    rw [← hb] at HLB ⊢
    have HBb := Aside0.mk hb
    obtain ⟨D, hD⟩ : ∃ D, D = w1.heap.size := ⟨_, rfl⟩
    rw [← hD] at HD3 ⊢
    clear hb2 hb hD HD2 HB2 HO2 HN1 HO1 HB1 hs1
    go_wp2_with fail
    go_loopw [18] (fun i wr => ∃ k : Nat, k ≤ 19 ∧ i = .int .i64 (k : Int) ∧ wr = w2 ∧ Aside0 (lessFrom a b (19 - k) k = lessFrom a b 19 0)) (fun i _ => 19 - (intOf i).toNat)
    case atStart => exact ⟨0, by omega, rfl, rfl, ⟨rfl⟩⟩
    case round =>
      obtain ⟨k, hk, rfl, rfl, HI⟩ := hrel
      by_cases hlt : k < 19
      · have c5 : decide ((k : Int) < 19) = true := decide_eq_true (by omega)
        have hidx := index19 b HLB.out k hlt
        have hcell := blkI HD3.out k (by rw [HLA.out]; exact hlt)
        have hki : (k : Int) < 19 := by omega
        have hsucc : 19 - k = (19 - (k + 1)) + 1 := by omega
        have HI2 := HI.out
        rw [hsucc, lessFrom] at HI2
        obtain ⟨x, hx⟩ : ∃ x, x = rd b (k : Int) := ⟨_, rfl⟩
        obtain ⟨y, hy⟩ : ∃ y, y = rd a (k : Int) := ⟨_, rfl⟩
        rw [← hx] at hidx HI2
        rw [← hy] at hcell HI2
        have HI3 := Aside0.mk HI2
        clear HI2 hx hy hsucc
        by_cases hxy : x < y
        · have c26 : decide (x < y) = true := decide_eq_true hxy
          go_wp2_with fail
          go_ret2
          refine ⟨?_, HB3.out⟩
          have h3 := HI3.out
          rw [if_pos hxy] at h3
          rw [earlierD, if_pos rfl, ← HA.out, ← HBb.out, ← h3]
          rfl
        · have c26 : decide (x < y) = false := decide_eq_false hxy
          go_wp2_with fail
          go_roundw
          case rel => exact ⟨k + 1, by omega, by push_cast; rfl, trivial, ⟨by have h3 := HI3.out; rwa [if_neg hxy] at h3⟩⟩
          case measure => show 19 - ((k : Int) + 1).toNat < 19 - ((k : Int)).toNat; omega
      · obtain rfl : k = 19 := by omega
        go_wp2_with fail
        go_ret2
        refine ⟨?_, HB3.out⟩
        have h3 := HI.out
        rw [earlierD, if_pos rfl, ← HA.out, ← HBb.out, ← h3]
        rfl
  · have hne : ¬ (n : Int) = 19 := by omega
    go_enter Tryd.func8, Tryd.ntmps8
    go_wp2_with fail
    go_ret2
    exact ⟨by rw [earlierD, if_neg h19]; rfl, HB0.out⟩
end Go.Proofs.YtkpfnbliideeeaaDoor.Q
