/- digest: put; bytes in a block -/
import Derived.Test.YtgiofinekmaceaaDoorDb
namespace Go.Proofs.YtgiofinekmaceaaDoor.Q
open Go.RowKit Go.Proofs.YtgiofinekmaceaaDoorW.PrintWords Go.Proofs.YtgiofinekmaceaaDoorW.PrintLast Go.Proofs.YtgiofinekmaceaaDoorW.PrintMore
set_option linter.unusedVariables false
set_option linter.unusedSimpArgs false
/-- cells of bytes -/
def cells8 (l : List Int) : Array Value := (nums .u8 l).toArray
theorem cells8_get (l : List Int) (i : Nat) (h : i < l.length) : (cells8 l)[i]? = some (.int .u8 (rd l (i : Int))) := by
  simp [cells8, nums, rd, List.getD, h]
theorem cells8_set (l : List Int) (i : Nat) (v : Int) : (cells8 l).setIfInBounds i (.int .u8 v) = cells8 (l.set i v) := by
  simp [cells8, nums, List.map_set]
theorem cells8_size (l : List Int) : (cells8 l).size = l.length := by simp [cells8, nums]
theorem blk8 {w : World} {b t : Nat} {l : List Int} (h : w.heap[b]? = some (.cells (cells8 l) t (0, 0))) (i : Nat) (hi : i < l.length) : w.cell? ⟨b, i, none⟩ = some (.int .u8 (rd l (i : Int))) := (blk_cell h i).trans (cells8_get l i hi)
theorem blk8_set {w : World} {b t : Nat} {l : List Int} (h : w.heap[b]? = some (.cells (cells8 l) t (0, 0))) (i : Nat) (v : Int) : (w.setCell ⟨b, i, none⟩ (.int .u8 v)).heap[b]? = some (.cells (cells8 (l.set i v)) t (0, 0)) := by
  rw [← cells8_set]; exact blk_set h i _
/-- numbers that lie one behind the other, read as a slice -/
theorem C_of_cells {w : World} {kd : IntKind} {ad : Addr} {xs : List Int} (hl : xs.length ≤ 9223372036854775807) (h : ∀ j p, xs[j]? = some p → w.cell? (ad.add j) = some (.int kd p)) : Kd.C (Kd.int kd) w (some ad) xs.length xs := by
  refine ⟨rfl, hl, fun _ => ⟨_, rfl, fun j p hj => ⟨[.int kd p], rfl, rfl, fun i u hu => ?_⟩⟩⟩
  match i, hu with
  | 0, hu =>
    injection hu with hu
    subst hu
    show w.cell? (ad.add (j * 1 + 0)) = _
    rw [Nat.mul_one, Nat.add_zero]
    exact h j p hj
  | i + 1, hu => simp at hu
/-- the bytes of a block, read as a slice -/
theorem C_blk8 {w : World} {b t : Nat} {l : List Int} (h : w.heap[b]? = some (.cells (cells8 l) t (0, 0))) (o n : Nat) (hn : o + n ≤ l.length) (hl : l.length ≤ 1000) : Kd.C (Kd.int .u8) w (some ⟨b, o, none⟩) n ((l.drop o).take n) := by
  have e : ((l.drop o).take n).length = n := by simp; omega
  have hC := C_of_cells (w := w) (kd := .u8) (ad := ⟨b, o, none⟩) (xs := (l.drop o).take n) (by omega) (fun j p hj => by
    have hj2 : j < n := by have := (List.getElem?_eq_some_iff.1 hj).1; omega
    rw [List.getElem?_take, if_pos hj2, List.getElem?_drop] at hj
    rw [add_at, blk_cell h]
    simp [cells8, nums, hj])
  rw [e] at hC
  exact hC
/-- bytes of n from place o on, m of them, the most significant one first; k of them are written, the last ones first -/
def putUpto (l : List Int) (o m : Nat) (n : Int) : Nat → List Int
  | 0 => l
  | k + 1 => (putUpto l o m n k).set (o + (m - 1 - k)) (n / 2 ^ (8 * k) % 256)
theorem putUpto_length (l : List Int) (o m : Nat) (n : Int) (k : Nat) : (putUpto l o m n k).length = l.length := by
  induction k with
  | zero => rfl
  | succ k ih => rw [putUpto, List.length_set, ih]
set_option maxHeartbeats 1000000 in
theorem put_calls (g o m c : Nat) (l : List Int) (t : Nat) (n : Int) (w : World) (hg : w.heap[g]? = some (.cells (cells8 l) t (0, 0))) (ho : o + m ≤ l.length) (hm : m ≤ 8) (hl : l.length ≤ 1000) (hn : 0 ≤ n) (hn2 : n < 18446744073709551616) :
    Calls Tryd.prog 39 #[.slice (some ⟨g, o, none⟩) m c, .int .u64 n] w fun e w' => e = .returned (.tuple #[]) ∧ w.grownBy w' (some g) ∧ w'.heap[g]? = some (.cells (cells8 (putUpto l o m n m)) t (0, 0)) := by
  have HG := Aside0.mk hg
  have HN := Aside0.mk hn2
  clear hg hn2
  go_enter Tryd.func39, Tryd.ntmps39
  go_wp2_with fail
  go_loopw [7] (fun i w' => ∃ k : Nat, k ≤ m ∧ i = .int .i64 (k : Int) ∧ Aside0 (w'.heap[g]? = some (.cells (cells8 (putUpto l o m n k)) t (0, 0))) ∧ Aside0 (w.grownBy w' (some g))) (fun i _ => m - (intOf i).toNat)
  case atStart => exact ⟨0, by omega, rfl, ⟨HG.out⟩, ⟨grown_of_below (Below.refl _ _) _⟩⟩
  case round =>
    obtain ⟨k, hk, rfl, HK, HB⟩ := hrel
    by_cases hlt : k < m
    · have hx := blk8 HK.out (o + (m - 1 - k)) (by rw [putUpto_length]; omega)
      have hf := blk_frozen HK.out (o + (m - 1 - k))
      have c8 : decide ((k : Int) < (m : Int)) = true := decide_eq_true (by omega)
      have HKn : Aside0 ((wr.setCell ⟨g, o + (m - 1 - k), none⟩ (.int .u8 (n / 2 ^ (8 * k) % 256))).heap[g]? = some (.cells (cells8 (putUpto l o m n (k + 1))) t (0, 0))) := ⟨by rw [putUpto]; exact blk8_set HK.out _ _⟩
      have HBn : Aside0 (w.grownBy (wr.setCell ⟨g, o + (m - 1 - k), none⟩ (.int .u8 (n / 2 ^ (8 * k) % 256))) (some g)) := ⟨grown_set HB.out _ _⟩
      go_wp2
      go_roundw
      case rel => exact ⟨k + 1, by omega, by go_num, HKn, HBn⟩
      case measure => simp [intOf]; omega
    · obtain rfl : k = m := by omega
      go_wp2
      go_end0
      exact ⟨rfl, HB.out, HK.out⟩
end Go.Proofs.YtgiofinekmaceaaDoor.Q
