/- chains: of (digits), Digits, steps -/
import Derived.Test.YtkpfnbliideeeaaDoorDe
namespace Go.Proofs.YtkpfnbliideeeaaDoor.Q
open Go.RowKit Go.Proofs.YtkpfnbliideeeaaDoorW.PrintWords Go.Proofs.YtkpfnbliideeeaaDoorW.PrintLast Go.Proofs.YtkpfnbliideeeaaDoorW.PrintMore
set_option linter.unusedVariables false
set_option linter.unusedSimpArgs false
/-- cells of ints -/
def cellsI (l : List Int) : Array Value := (nums .i64 l).toArray
theorem cellsI_get (l : List Int) (i : Nat) (h : i < l.length) : (cellsI l)[i]? = some (.int .i64 (rd l (i : Int))) := by
  simp [cellsI, nums, rd, List.getD, h]
theorem cellsI_set (l : List Int) (i : Nat) (v : Int) : (cellsI l).setIfInBounds i (.int .i64 v) = cellsI (l.set i v) := by
  simp [cellsI, nums, List.map_set]
theorem cellsI_size (l : List Int) : (cellsI l).size = l.length := by simp [cellsI, nums]
theorem all_oneI (l : List Int) : (cellsI l).all (·.oneCell') = true := by simp [cellsI, nums, Value.oneCell']
theorem blkI {w : World} {b t : Nat} {l : List Int} (h : w.heap[b]? = some (.cells (cellsI l) t (0, 0))) (i : Nat) (hi : i < l.length) : w.cell? ⟨b, i, none⟩ = some (.int .i64 (rd l (i : Int))) := (blk_cell h i).trans (cellsI_get l i hi)
theorem blkI_set {w : World} {b t : Nat} {l : List Int} (h : w.heap[b]? = some (.cells (cellsI l) t (0, 0))) (i : Nat) (v : Int) : (w.setCell ⟨b, i, none⟩ (.int .i64 v)).heap[b]? = some (.cells (cellsI (l.set i v)) t (0, 0)) := by
  rw [← cellsI_set]; exact blk_set h i _
/-- digit k of a message -/
def dig (d : List Int) (k : Nat) : Int := bits BinOp.and IntKind.i64 (wrap64 (rd d ((k : Int) / 4) / 2 ^ (6 - k % 4 * 2))) 3
/-- the digits, k of them -/
def digs (d : List Int) (k : Nat) : List Int := (List.range k).map (dig d) ++ List.replicate (19 - k) 0
def digSum (d : List Int) : Nat → Int
  | 0 => 0
  | k + 1 => wrap64 (digSum d k + wrap64 (3 - dig d k))
theorem digs_length (d : List Int) (k : Nat) (h : k ≤ 19) : (digs d k).length = 19 := by simp [digs]; omega
theorem digs_succ (d : List Int) (k : Nat) (h : k < 19) : (digs d k).set k (dig d k) = digs d (k + 1) := by
  unfold digs
  rw [List.range_succ, List.map_append, List.set_append, if_neg (by simp), List.append_assoc]
  congr 1
  rw [List.length_map, List.length_range, Nat.sub_self]
  obtain ⟨m, hm⟩ : ∃ m, 19 - k = m + 1 := ⟨18 - k, by omega⟩
  rw [hm, show 19 - (k + 1) = m from by omega, List.replicate_succ]
  rfl
theorem digs_get (d : List Int) (k : Nat) (h : k < 19) : rd (digs d (k + 1)) (k : Int) = dig d k := by
  simp [rd, digs, List.getD, List.getElem?_append, h]
theorem and3_range (x : Int) : 0 ≤ bits BinOp.and IntKind.i64 x 3 ∧ bits BinOp.and IntKind.i64 x 3 ≤ 3 := by
  have h1 : (BitVec.ofInt 64 x &&& BitVec.ofInt 64 3).toNat ≤ 3 := by
    rw [BitVec.toNat_and]
    exact Nat.le_trans Nat.and_le_right (by decide)
  have e : bits BinOp.and IntKind.i64 x 3 = IntKind.i64.wrap ((BitVec.ofInt 64 x &&& BitVec.ofInt 64 3).toNat : Nat) := rfl
  rw [e]
  generalize (BitVec.ofInt 64 x &&& BitVec.ofInt 64 3).toNat = n at h1
  rw [IntWalk.i64_in _ (by omega)]
  omega
theorem dig_range (d : List Int) (k : Nat) : 0 ≤ dig d k ∧ dig d k ≤ 3 := and3_range _
theorem digSum_range (d : List Int) : ∀ k, k ≤ 16 → 0 ≤ digSum d k ∧ digSum d k ≤ 3 * k
  | 0, _ => by simp [digSum]
  | k + 1, h => by
    have h1 := digSum_range d k (by omega)
    have h2 := dig_range d k
    rw [digSum]
    unfold wrap64
    omega
/-- the digits of a message -/
def digits (d : List Int) : List Int := (((digs d 16).set 16 (digSum d 16 / 16)).set 17 (digSum d 16 / 4 % 4)).set 18 (digSum d 16 % 4)
theorem digits_length (d : List Int) : (digits d).length = 19 := by simp [digits, digs]
set_option maxHeartbeats 1000000 in
theorem of_calls (d : List Int) (hd : d.length = 32) (w : World) :
    Calls Tryd.prog 22 #[.agg (cells8 d)] w fun e w' => e = .returned (.agg (cellsI (digits d))) ∧ Below w.heap.size w w' := by
  have HD := Aside0.mk hd
  clear hd
  go_enter Tryd.func22, Tryd.ntmps22
  go_wp2_with fail
  go_loopw [3, 5] (fun s i w' => ∃ k : Nat, k ≤ 16 ∧ i = .int .i64 (k : Int) ∧ s = .int .i64 (digSum d k) ∧ Aside0 (w'.heap[w.heap.size]? = some (.cells (cells8 d) 23 (0, 0))) ∧ Aside0 (w'.heap[w.heap.size + 1]? = some (.cells (cellsI (digs d k)) 45 (0, 0))) ∧ Aside0 (Below w.heap.size w w')) (fun _ i _ => 16 - (intOf i).toNat)
  case atStart => exact ⟨0, by omega, rfl, rfl, ⟨heap_alloc2_old _ _ _⟩, ⟨heap_alloc2_new _ _ _⟩, ⟨below_alloc (below_alloc (Below.refl _ _) _) _⟩⟩
  case round =>
    obtain ⟨k, hk, rfl, rfl, HM, HR, HB⟩ := hrel
    by_cases hlt : k < 16
    · have hx := blk8 HM.out (k / 4) (by rw [HD.out]; omega)
      have hy := blkI HR.out k (by rw [digs_length _ _ (by omega)]; omega)
      have hf := blk_frozen HR.out k
      have c6 : decide ((k : Int) < 16) = true := decide_eq_true (by omega)
      have hds := digSum_range d k (by omega)
      have HRn : Aside0 ((wr.setCell ⟨w.heap.size + 1, k, none⟩ (.int .i64 (dig d k))).heap[w.heap.size + 1]? = some (.cells (cellsI (digs d (k + 1))) 45 (0, 0))) := ⟨by rw [← digs_succ d k (by omega)]; exact blkI_set HR.out k _⟩
      have HMn : Aside0 ((wr.setCell ⟨w.heap.size + 1, k, none⟩ (.int .i64 (dig d k))).heap[w.heap.size]? = some (.cells (cells8 d) 23 (0, 0))) := ⟨blk_far HM.out (p := ⟨w.heap.size + 1, k, none⟩) (by show w.heap.size ≠ w.heap.size + 1; omega) _⟩
      have HBn : Aside0 (Below w.heap.size w (wr.setCell ⟨w.heap.size + 1, k, none⟩ (.int .i64 (dig d k)))) := ⟨HB.out.setCell (p := ⟨w.heap.size + 1, k, none⟩) (by show w.heap.size ≤ w.heap.size + 1; omega) _⟩
      go_wp2_with fail
      go_roundw
      case rel => exact ⟨k + 1, by omega, by go_num, rfl, HMn, HRn, HBn⟩
      case measure => simp [intOf]; omega
    · obtain rfl : k = 16 := by omega
      have hds := digSum_range d 16 (by omega)
      have hx16 := blkI HR.out 16 (by rw [digs_length _ _ (by omega)]; omega)
      have hx17 := blkI HR.out 17 (by rw [digs_length _ _ (by omega)]; omega)
      have hx18 := blkI HR.out 18 (by rw [digs_length _ _ (by omega)]; omega)
      have hf16 := blk_frozen HR.out 16
      have hf17 := blk_frozen HR.out 17
      have hf18 := blk_frozen HR.out 18
      have HR1 := Aside0.mk (blkI_set (blkI_set (blkI_set HR.out 16 (digSum d 16 / 16)) 17 (digSum d 16 / 4 % 4)) 18 (digSum d 16 % 4))
      have hlt0 := blk_lt HR.out
      have HSZ : Aside0 ((Tryd.prog.info? 45).map (·.size) = some (cellsI (digits d)).size) := ⟨by rw [cellsI_size, digits_length]; kernel_rfl⟩
      have HDI : Aside0 ((((digs d 16).set 16 (digSum d 16 / 16)).set 17 (digSum d 16 / 4 % 4)).set 18 (digSum d 16 % 4) = digits d) := ⟨rfl⟩
      rw [HDI.out] at HR1
      go_wp2_with (first
        | (with_reducible refine wpList_load_row rfl 45 (.tmp 2) rfl (w.heap.size + 1) rfl 45 (cellsI (digits d)) (0, 0) _ HR1.out Tryd.underlying45 rfl HSZ.out ?_)
        | (with_reducible refine wpList_store_row rfl 45 (.tmp 2) (.tmp 38) rfl (w.heap.size + 1) (cellsI (digits d)) rfl rfl 45 (cellsI (digits d)) HR1.out HSZ.out rfl (all_oneI _) ?_))
      refine bodyPost_ret (v := .agg (cellsI (digits d))) (results_cell_row rfl _ _ (w.heap.size + 1) 45 (cellsI (digits d)) (0, 0) _ rfl (setRow_heap _ _ _ _ _ _ HR1.out) Tryd.underlying45 rfl HSZ.out) rfl ⟨rfl, ?_⟩
      exact below_setRow (((HB.out.setCell (p := ⟨w.heap.size + 1, 16, none⟩) (Nat.le_succ _) _).setCell (p := ⟨w.heap.size + 1, 17, none⟩) (Nat.le_succ _) _).setCell (p := ⟨w.heap.size + 1, 18, none⟩) (Nat.le_succ _) _) (Nat.le_succ _) _
theorem size19 (l : List Int) (h : l.length = 19) : (Tryd.prog.info? 45).map (·.size) = some (cellsI l).size := by rw [cellsI_size, h]; kernel_rfl
def zeros19 : List Int := List.replicate 19 0
/-- ints in a block, read as a slice -/
theorem C_ints {w : World} {b t : Nat} {l : List Int} (h : w.heap[b]? = some (.cells (cellsI l) t (0, 0))) (hl : l.length ≤ 1000) : Kd.C (Kd.int .i64) w (some ⟨b, 0, none⟩) l.length l :=
  C_of_cells (by omega) (fun j p hj => by
    rw [add_plain, blk_cell h]
    simp [cellsI, nums, hj])
set_option maxHeartbeats 1000000 in
theorem Digits_calls (d : List Int) (hd : d.length = 32) (w : World) :
    Calls Tryd.prog 11 #[.agg (cells8 d)] w fun e w' => ∃ b : Nat, e = .returned (.slice (some ⟨b, 0, none⟩) 19 19) ∧ Kd.C (Kd.int .i64) w' (some ⟨b, 0, none⟩) 19 (digits d) ∧ Below w.heap.size w w' := by
  have HD := Aside0.mk hd
  have HS8 := Aside0.mk (size32 d hd)
  clear hd
  have HM0 := Aside0.mk (heap_alloc_new w (.cells (cells8 d) 23))
  have HSZ := Aside0.mk (size19 (digits d) (digits_length d))
  go_enter Tryd.func11, Tryd.ntmps11
  go_wp2_with (with_reducible refine wpList_load_row rfl 23 (.tmp 1) rfl w.heap.size rfl 23 (cells8 d) (0, 0) _ HM0.out Tryd.underlying23 rfl HS8.out ?_)
  refine (of_calls d HD.out _).mono ?_
  rintro e w1 ⟨rfl, hb1⟩
  have HB1 : Aside0 (Below w.heap.size w w1) := ⟨below_step (below_alloc (Below.refl _ _) _) hb1⟩
  clear hb1 HM0
  have HLD := Aside0.mk (digits_length d)
  obtain ⟨L, hL⟩ : ∃ L, L = digits d := ⟨_, rfl⟩
  rw [← hL] at HSZ HLD ⊢
  have HLL := Aside0.mk hL
  clear hL
  have HN1 := Aside0.mk (heap_alloc_new w1 (.cells #[.int .i64 0, .int .i64 0, .int .i64 0, .int .i64 0, .int .i64 0, .int .i64 0, .int .i64 0, .int .i64 0, .int .i64 0, .int .i64 0, .int .i64 0, .int .i64 0, .int .i64 0, .int .i64 0, .int .i64 0, .int .i64 0, .int .i64 0, .int .i64 0, .int .i64 0] 45))
  have hold : (#[.int .i64 0, .int .i64 0, .int .i64 0, .int .i64 0, .int .i64 0, .int .i64 0, .int .i64 0, .int .i64 0, .int .i64 0, .int .i64 0, .int .i64 0, .int .i64 0, .int .i64 0, .int .i64 0, .int .i64 0, .int .i64 0, .int .i64 0, .int .i64 0, .int .i64 0] : Array Value).size = (cellsI L).size := by rw [cellsI_size, HLD.out]; rfl
  have HOLD := Aside0.mk hold
  clear hold
  go_wp2_with (with_reducible refine wpList_store_row rfl 45 (.tmp 3) (.tmp 5) rfl w1.heap.size (cellsI L) rfl rfl 45 #[.int .i64 0, .int .i64 0, .int .i64 0, .int .i64 0, .int .i64 0, .int .i64 0, .int .i64 0, .int .i64 0, .int .i64 0, .int .i64 0, .int .i64 0, .int .i64 0, .int .i64 0, .int .i64 0, .int .i64 0, .int .i64 0, .int .i64 0, .int .i64 0, .int .i64 0] HN1.out HSZ.out HOLD.out (all_oneI _) ?_)
  go_ret
  have h1 := setRow_heap (w1.alloc (.cells #[.int .i64 0, .int .i64 0, .int .i64 0, .int .i64 0, .int .i64 0, .int .i64 0, .int .i64 0, .int .i64 0, .int .i64 0, .int .i64 0, .int .i64 0, .int .i64 0, .int .i64 0, .int .i64 0, .int .i64 0, .int .i64 0, .int .i64 0, .int .i64 0, .int .i64 0] 45)) w1.heap.size _ (cellsI L) _ _ HN1.out
  have h2 := C_ints h1 (by rw [HLD.out]; omega)
  rw [HLD.out] at h2
  refine ⟨w1.heap.size, rfl, by rw [← HLL.out]; exact h2, below_setRow (below_alloc HB1.out _) HB1.out.size _⟩
/-- 'step' -/
def tagStep : ByteArray := { data := #[115, 116, 101, 112] }
/-- one step of a chain -/
def stepD (d : List Int) : List Int := tagged (bytesOf tagStep) d
def stepsD (d : List Int) : Nat → List Int
  | 0 => d
  | k + 1 => stepD (stepsD d k)
theorem stepsD_length (d : List Int) (h : d.length = 32) (k : Nat) : (stepsD d k).length = 32 := by
  cases k with
  | zero => exact h
  | succ k => rw [stepsD, stepD]; exact tagged_length _ _
set_option maxHeartbeats 1000000 in
theorem steps_calls (d : List Int) (hd : d.length = 32) (n : Int) (hn : n ≤ 1000000) (w : World) (hT : Tabs w) :
    Calls Tryd.prog 24 #[.agg (cells8 d), .int .i64 n] w fun e w' => e = .returned (.agg (cells8 (stepsD d n.toNat))) ∧ Below w.heap.size w w' := by
  have HD := Aside0.mk hd
  have HT := Aside0.mk hT
  clear hd hT
  go_enter Tryd.func24, Tryd.ntmps24
  go_wp2_with fail
  go_loopw [6] (fun i w' => ∃ k : Nat, k ≤ n.toNat ∧ i = .int .i64 (k : Int) ∧ Aside0 (w'.heap[w.heap.size]? = some (.cells (cells8 (stepsD d k)) 23 (0, 0))) ∧ Aside0 (w'.heap[w.heap.size + 1]? = some (.cells (cells8 zeros32) 23 (0, 0))) ∧ Aside0 (Below w.heap.size w w')) (fun i _ => n.toNat - (intOf i).toNat)
  case atStart => exact ⟨0, by omega, rfl, ⟨heap_alloc2_old _ _ _⟩, ⟨heap_alloc2_new _ _ _⟩, ⟨below_alloc (below_alloc (Below.refl _ _) _) _⟩⟩
  case round =>
    obtain ⟨k, hk, rfl, HX, HR, HB⟩ := hrel
    have HL := Aside0.mk (stepsD_length d HD.out k)
    obtain ⟨x, hx⟩ : ∃ x, x = stepsD d k := ⟨_, rfl⟩
    rw [← hx] at HX HL
    have HXX := Aside0.mk hx
    clear hx
    by_cases hlt : (k : Int) < n
    · have c7 : decide ((k : Int) < n) = true := decide_eq_true hlt
      have HC := Aside0.mk (C_dig HX.out HL.out)
      go_wp2_with fail
      refine (Tagged_any tagStep (some ⟨w.heap.size, 0, none⟩) 32 32 x wr (by decide) HC.out (by omega) (by omega) (HT.out.below HB.out)).mono ?_
      rintro e w1 ⟨rfl, hb1⟩
      have hstep : tagged (bytesOf tagStep) x = stepsD d (k + 1) := by rw [stepsD, stepD, HXX.out]
      rw [hstep]
      obtain ⟨y, hy⟩ : ∃ y, y = stepsD d (k + 1) := ⟨_, rfl⟩
      rw [← hy]
      have HYL : Aside0 (y.length = 32) := ⟨by rw [hy]; exact stepsD_length d HD.out _⟩
      have HY := Aside0.mk hy
      have HX1 : Aside0 (w1.heap[w.heap.size]? = some (.cells (cells8 x) 23 (0, 0))) := ⟨blk_below HX.out hb1⟩
      have HR1 : Aside0 (w1.heap[w.heap.size + 1]? = some (.cells (cells8 zeros32) 23 (0, 0))) := ⟨blk_below HR.out hb1⟩
      have HB1 : Aside0 (Below w.heap.size w w1) := ⟨below_step HB.out hb1⟩
      have HSY := Aside0.mk (size32 y HYL.out)
      have HOLD : Aside0 ((cells8 x).size = (cells8 y).size) := ⟨by rw [cells8_size, cells8_size, HL.out, HYL.out]⟩
      clear hy hstep hb1
      go_wp2_with (with_reducible refine wpList_store_row rfl 23 (.tmp 2) (.tmp 9) rfl w.heap.size (cells8 y) rfl rfl 23 (cells8 x) HX1.out HSY.out HOLD.out (all_one8 _) ?_)
      go_roundw
      case rel => exact ⟨k + 1, by omega, by go_num, ⟨by rw [← HY.out]; exact setRow_heap _ _ _ _ _ _ HX1.out⟩, ⟨by rw [setRow_other _ _ _ _ (by omega)]; exact HR1.out⟩, ⟨below_setRow HB1.out (Nat.le_refl _) _⟩⟩
      case measure => simp [intOf]; omega
    · have c7 : decide ((k : Int) < n) = false := decide_eq_false hlt
      have HS8 := Aside0.mk (size32 x HL.out)
      have hold : (cells8 zeros32).size = (cells8 x).size := by rw [cells8_size, cells8_size, HL.out, zeros32_length]
      have HOLD := Aside0.mk hold
      clear hold
      go_wp2_with (first
        | (with_reducible refine wpList_load_row rfl 23 (.tmp 2) rfl w.heap.size rfl 23 (cells8 x) (0, 0) _ HX.out Tryd.underlying23 rfl HS8.out ?_)
        | (with_reducible refine wpList_store_row rfl 23 (.tmp 4) (.tmp 11) rfl (w.heap.size + 1) (cells8 x) rfl rfl 23 (cells8 zeros32) HR.out HS8.out HOLD.out (all_one8 _) ?_))
      refine bodyPost_ret (v := .agg (cells8 x)) (results_cell_row rfl _ _ (w.heap.size + 1) 23 (cells8 x) (0, 0) _ rfl (setRow_heap _ _ _ _ _ _ HR.out) Tryd.underlying23 rfl HS8.out) rfl ⟨?_, below_setRow HB.out (Nat.le_succ _) _⟩
      rw [HXX.out, show k = n.toNat from by omega]
end Go.Proofs.YtkpfnbliideeeaaDoor.Q
