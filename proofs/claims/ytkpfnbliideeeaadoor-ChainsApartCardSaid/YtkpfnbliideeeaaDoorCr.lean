/- the reference: Digits, Earlier -/
import Derived.Test.YtkpfnbliideeeaaDoorCh
namespace Go.Proofs.YtkpfnbliideeeaaDoor.Q
open Go.RowKit Go.Shelf Go.Proofs.YtkpfnbliideeeaaDoorW.PrintWords Go.Proofs.YtkpfnbliideeeaaDoorW.PrintLast Go.Proofs.YtkpfnbliideeeaaDoorW.PrintMore
set_option linter.unusedVariables false
set_option linter.unusedSimpArgs false
/-- what is left of a byte when k digits have been read -/
def left (n : Int) : Nat → Int
  | 0 => n
  | k + 1 => left n k % 64 * 4
/-- digit k of the reference -/
def rdig (d : List Int) (k : Nat) : Int := left (rd d ((k / 4 : Nat) : Int)) (k % 4) / 64
def rsum (d : List Int) : Nat → Int
  | 0 => 0
  | k + 1 => rsum d k + 3 - rdig d k
theorem left_range (n : Int) (h0 : 0 ≤ n) (h1 : n ≤ 255) : ∀ k, 0 ≤ left n k ∧ left n k ≤ 255
  | 0 => ⟨h0, h1⟩
  | k + 1 => by
    rw [left]
    omega
theorem rdig_range (d : List Int) (hd : ∀ x ∈ d, 0 ≤ x ∧ x ≤ 255) (k : Nat) : 0 ≤ rdig d k ∧ rdig d k ≤ 3 := by
  have h : 0 ≤ rd d ((k / 4 : Nat) : Int) ∧ rd d ((k / 4 : Nat) : Int) ≤ 255 := by
    rw [rd, Int.toNat_natCast, List.getD]
    cases e : d[k / 4]? with
    | none => simp
    | some x => exact hd x (List.mem_of_getElem? e)
  have := left_range _ h.1 h.2 (k % 4)
  rw [rdig]
  omega
theorem rsum_range (d : List Int) (hd : ∀ x ∈ d, 0 ≤ x ∧ x ≤ 255) : ∀ k, 0 ≤ rsum d k ∧ rsum d k ≤ 3 * k
  | 0 => by simp [rsum]
  | k + 1 => by
    have h1 := rsum_range d hd k
    have h2 := rdig_range d hd k
    rw [rsum]
    omega
def rdigits (d : List Int) : List Int := (List.range 16).map (rdig d) ++ [rsum d 16 / 16, rsum d 16 / 4 % 4, rsum d 16 % 4]
theorem dig_eq : ∀ n : Fin 256, ∀ j : Fin 4, bits BinOp.and IntKind.i64 (wrap64 ((n.val : Int) / 2 ^ (6 - j.val * 2))) 3 = left (n.val : Int) j.val / 64 := by decide +kernel
theorem rd_byte (d : List Int) (hd : ∀ x ∈ d, 0 ≤ x ∧ x ≤ 255) (i : Int) : 0 ≤ rd d i ∧ rd d i ≤ 255 := by
  rw [rd, List.getD]
  cases e : d[i.toNat]? with
  | none => simp
  | some x => exact hd x (List.mem_of_getElem? e)
theorem dig_rdig (d : List Int) (hd : ∀ x ∈ d, 0 ≤ x ∧ x ≤ 255) (k : Nat) : dig d k = rdig d k := by
  have hb := rd_byte d hd ((k / 4 : Nat) : Int)
  obtain ⟨n, hn⟩ := Int.eq_ofNat_of_zero_le hb.1
  have h := dig_eq ⟨n, by omega⟩ ⟨k % 4, Nat.mod_lt _ (by omega)⟩
  rw [dig, rdig, show (k : Int) / 4 = ((k / 4 : Nat) : Int) from by omega, hn]
  exact h
theorem digSum_rsum (d : List Int) (hd : ∀ x ∈ d, 0 ≤ x ∧ x ≤ 255) : ∀ k, k ≤ 16 → digSum d k = rsum d k
  | 0, _ => rfl
  | k + 1, hk => by
    have h1 := rsum_range d hd k
    have h2 := rdig_range d hd k
    rw [digSum, rsum, digSum_rsum d hd k (by omega), dig_rdig d hd k]
    unfold wrap64
    omega
theorem ext_rd (xs ys : List Int) (h : xs.length = ys.length) (hh : ∀ k, k < xs.length → rd xs (k : Int) = rd ys (k : Int)) : xs = ys := by
  have := all_rd xs ys h
  rw [List.all_eq_true.2 (fun i hi => by rw [hh i (by simpa using hi)]; simp)] at this
  simpa using this.symm
theorem digits_eq (d : List Int) (hd : ∀ x ∈ d, 0 ≤ x ∧ x ≤ 255) : digits d = rdigits d := by
  refine ext_rd _ _ (by rw [digits_length]; simp [rdigits]) (fun k hk => ?_)
  rw [digits_length] at hk
  have hs := digSum_rsum d hd 16 (by omega)
  by_cases h16 : k < 16
  · rw [digits_rd d k h16, dig_rdig d hd k]
    simp [rd, rdigits, List.getD, List.getElem?_append, h16]
  · by_cases e16 : k = 16
    · subst e16
      rw [show ((16 : Nat) : Int) = 16 from rfl, digits_rd16, hs]
      simp [rd, rdigits]
    · by_cases e17 : k = 17
      · subst e17
        rw [show ((17 : Nat) : Int) = 17 from rfl, digits_rd17, hs]
        simp [rd, rdigits]
      · obtain rfl : k = 18 := by omega
        rw [show ((18 : Nat) : Int) = 18 from rfl, digits_rd18, hs]
        simp [rd, rdigits]
def rpart (d : List Int) (k : Nat) : List Int := (List.range k).map (rdig d)
theorem rpart_succ (d : List Int) (k : Nat) : rpart d (k + 1) = rpart d k ++ [rdig d k] := by simp [rpart, List.range_succ]
theorem rpart_length (d : List Int) (k : Nat) : (rpart d k).length = k := by simp [rpart]
set_option maxHeartbeats 400000 in
theorem rDigits_calls (d : List Int) (hl : d.length = 32) (hd : ∀ x ∈ d, 0 ≤ x ∧ x ≤ 255) (w : World) :
    Calls Tryd.prog 12 #[.agg (cells8 d)] w fun e w' => ∃ A c, e = .returned (.slice A 19 c) ∧ 19 ≤ c ∧ Kd.C (Kd.int .i64) w' A 19 (digits d) ∧ Below w.heap.size w w' := by
  have HL := Aside0.mk hl
  have HD := Aside0.mk hd
  clear hl hd
  go_enter Tryd.func12, Tryd.ntmps12
  have HR0 : Aside0 (Kd.R (Kd.int .i64) 3 ((w.alloc (.cells (cells8 d) 23)).alloc (.cells #[] 3)) (w.heap.size + 1) (fun _ => True) (.slice (some ⟨w.heap.size + 1, 0, none⟩) 0 0) []) := ⟨by
    have h := World.ownsRow_lit (base := w.heap.size + 1) (e := 3) (size := 1) (w.alloc (.cells (cells8 d) 23)) #[] 0 (by simp) (by simp [maxLen]) (by simp)
    simp only [World.size_alloc] at h
    have h2 : ((w.alloc (.cells (cells8 d) 23)).alloc (.cells #[] 3)).ownsRow (w.heap.size + 1) 3 1 (.slice (some ⟨w.heap.size + 1, 0, none⟩) 0 0) ([] : List Int).length (encs (Value.int .i64) ([] : List Int)) := h
    exact Kd.R_of_own (h1 := fun _ => rfl) (xs := []) h2 (fun _ _ => trivial)⟩
  go_wp2_with fail
  go_loopw [3, 4, 5] (fun v s i wr => ∃ k : Nat, k ≤ 4 ∧ i = .int .i64 (k : Int) ∧ s = .int .i64 (rsum d (4 * k)) ∧ Aside0 (Kd.R (Kd.int .i64) 3 wr (w.heap.size + 1) (fun _ => True) v (rpart d (4 * k))) ∧ Aside0 (wr.heap[w.heap.size]? = some (.cells (cells8 d) 23 (0, 0))) ∧ Aside0 (Below w.heap.size w wr) ∧ w.heap.size + 1 ≤ wr.heap.size) (fun _ _ i _ => 4 - (intOf i).toNat)
  case atStart => exact ⟨0, by omega, rfl, rfl, HR0, ⟨heap_alloc2_old _ _ _⟩, ⟨below_alloc (below_alloc (Below.refl _ _) _) _⟩, by simp⟩
  case round =>
    obtain ⟨i, hi, rfl, rfl, HR, HX, HB, hsz⟩ := hrel
    by_cases hlt : i < 4
    · have c11 : decide ((i : Int) < 4) = true := decide_eq_true (by omega)
      have hx := blk8 HX.out i (by rw [HL.out]; omega)
      have hii : (i : Int) < 32 := by omega
      obtain ⟨n0, hn0⟩ : ∃ n0, n0 = rd d (i : Int) := ⟨_, rfl⟩
      have hnr := rd_byte d HD.out (i : Int)
      rw [← hn0] at hx hnr
      have HN0 := Aside0.mk hn0
      have hw : wrap64 n0 = n0 := by unfold wrap64; omega
      clear hn0
      go_wp2_with fail
      go_loopw [3, 4, 6, 7] (fun v s n k wr => ∃ j : Nat, j ≤ 4 ∧ k = .int .i64 (j : Int) ∧ n = .int .i64 (left n0 j) ∧ s = .int .i64 (rsum d (4 * i + j)) ∧ Aside0 (Kd.R (Kd.int .i64) 3 wr (w.heap.size + 1) (fun _ => True) v (rpart d (4 * i + j))) ∧ Aside0 (wr.heap[w.heap.size]? = some (.cells (cells8 d) 23 (0, 0))) ∧ Aside0 (Below w.heap.size w wr) ∧ w.heap.size + 1 ≤ wr.heap.size) (fun _ _ _ k _ => 4 - (intOf k).toNat)
      case atStart => exact ⟨0, by omega, rfl, rfl, rfl, HR, HX, HB, hsz⟩
      case round =>
        obtain ⟨j, hj, rfl, rfl, rfl, HR2, HX2, HB2, hsz2⟩ := hrel
        by_cases hjl : j < 4
        · have c19 : decide ((j : Int) < 4) = true := decide_eq_true (by omega)
          have hlr := left_range n0 hnr.1 hnr.2 j
          have hg : rdig d (4 * i + j) = left n0 j / 64 := by rw [rdig, show (4 * i + j) / 4 = i from by omega, show (4 * i + j) % 4 = j from by omega, HN0.out]
          have hsr := rsum_range d HD.out (4 * i + j)
          have hsS : rsum d (4 * i + j + 1) = rsum d (4 * i + j) + 3 - left n0 j / 64 := by rw [rsum, hg]
          have hlS : left n0 (j + 1) = left n0 j % 64 * 4 := rfl
          have HPS : Aside0 (rpart d (4 * i + j + 1) = rpart d (4 * i + j) ++ [left n0 j / 64]) := ⟨by rw [rpart_succ, hg]⟩
          have HSS := Aside0.mk hsS
          have HLS := Aside0.mk hlS
          obtain ⟨s0, hs0⟩ : ∃ s0, s0 = rsum d (4 * i + j) := ⟨_, rfl⟩
          rw [← hs0] at hsr HSS ⊢
          obtain ⟨nj, hnj⟩ : ∃ nj, nj = left n0 j := ⟨_, rfl⟩
          rw [← hnj] at hlr HSS HPS HLS ⊢
          obtain ⟨A3, c3, n3, rfl, hC3, hc3⟩ := R_any HR2.out
          have HLR : Aside0 ((rpart d (4 * i + j)).length ≤ 16) := ⟨by rw [rpart_length]; omega⟩
          clear hg hsS hlS hs0 hnj hC3
          have q1 : 0 ≤ nj := hlr.1
          have w1 : wrap64 (nj % 64 * 4) = nj % 64 * 4 := by unfold wrap64; omega
          have w2 : wrap64 (s0 + 3) = s0 + 3 := by unfold wrap64; omega
          have w3 : wrap64 (s0 + 3 - nj / 64) = s0 + 3 - nj / 64 := by unfold wrap64; omega
          go_wp2_with (at_builtin; refine Kd.R_append (Kd.int .i64) (w0 := wr) (W := wr) (w.heap.size + 1) rfl (.tmp 27) (.tmp 29) 29 3 (.int .i64 0) 8 rfl Tryd.underlying29 info3 rfl (by decide) (by decide) (.slice A3 n3 c3) (rpart d (4 * i + j)) (nj / 64) [.int .i64 (nj / 64)] (fun _ => True) (fun _ => False) rfl rfl rfl (fun _ h => h.elim) (fun _ _ => trivial) HR2.out (Below.refl _ _) hsz2 (by have := HLR.out; omega) ?_; intro v4 w4 h4 hb4 hg4 _; have HR4 := Aside0.mk h4; have hown : ∀ k, (Value.slice A3 n3 c3).ownBlock = some k → w.heap.size + 1 ≤ k := fun k e => (by obtain ⟨inner, hin⟩ := Kd.R_own HR2.out; exact own_base hin k e); have HX4 : Aside0 (w4.heap[w.heap.size]? = some (.cells (cells8 d) 23 (0, 0))) := ⟨blk_grown HX2.out hg4 (fun e => by have := hown _ e.symm; omega)⟩; have HB4 : Aside0 (Below w.heap.size w w4) := ⟨HB2.out.grown hg4 HB2.out.size (fun k e => by have := hown k e; omega)⟩; have hsz4 : w.heap.size + 1 ≤ w4.heap.size := Nat.le_trans hsz2 hg4.size; clear h4 hb4 hg4 hown)
          go_roundw
          case rel => exact ⟨j + 1, by omega, by push_cast; rfl, by rw [HLS.out], by rw [show 4 * i + (j + 1) = 4 * i + j + 1 from by omega, HSS.out], ⟨by rw [show 4 * i + (j + 1) = 4 * i + j + 1 from by omega, HPS.out]; exact HR4.out⟩, HX4, HB4, hsz4⟩
          case measure => show 4 - ((j : Int) + 1).toNat < 4 - ((j : Int)).toNat; omega
        · obtain rfl : j = 4 := by omega
          go_wp2_with fail
          go_roundw
          case rel => exact ⟨i + 1, by omega, by push_cast; rfl, rfl, HR2, HX2, HB2, hsz2⟩
          case measure => show 4 - ((i : Int) + 1).toNat < 4 - ((i : Int)).toNat; omega
    · obtain rfl : i = 4 := by omega
      have hsr := rsum_range d HD.out 16
      have HDG : Aside0 (rpart d 16 ++ [rsum d 16 / 16, rsum d 16 / 4 % 4, rsum d 16 % 4] = digits d) := ⟨(digits_eq d HD.out).symm⟩
      rw [show 4 * 4 = 16 from rfl] at HR ⊢
      obtain ⟨s0, hs0⟩ : ∃ s0, s0 = rsum d 16 := ⟨_, rfl⟩
      rw [← hs0] at hsr HDG ⊢
      obtain ⟨A3, c3, n3, rfl, hC3, hc3⟩ := R_any HR.out
      have q1 : 0 ≤ s0 := hsr.1
      have w1 : wrap64 (s0 / 16) = s0 / 16 := by unfold wrap64; omega
      have w2 : wrap64 (s0 / 4) = s0 / 4 := by unfold wrap64; omega
      have HR1 := Aside0.mk (Kd.R_below HR.out (below_alloc (Below.refl _ _) (.cells #[.int .i64 (s0 / 16), .int .i64 (s0 / 4 % 4), .int .i64 (s0 % 4)] 3)))
      have HC1 : Aside0 (Kd.C (Kd.int .i64) (wr.alloc (.cells #[.int .i64 (s0 / 16), .int .i64 (s0 / 4 % 4), .int .i64 (s0 % 4)] 3)) (some ⟨wr.heap.size, 0, none⟩) 3 [s0 / 16, s0 / 4 % 4, s0 % 4]) := ⟨C_ints (t := 3) (heap_alloc_new _ _) (by simp)⟩
      have HB1 : Aside0 (Below w.heap.size w (wr.alloc (.cells #[.int .i64 (s0 / 16), .int .i64 (s0 / 4 % 4), .int .i64 (s0 % 4)] 3))) := ⟨below_alloc HB.out _⟩
      have hsz1 : w.heap.size + 1 ≤ (wr.alloc (.cells #[.int .i64 (s0 / 16), .int .i64 (s0 / 4 % 4), .int .i64 (s0 % 4)] 3)).heap.size := by simp; omega
      have HSZ1 := Aside0.mk hsz1
      clear hs0 hC3 hsz1
      go_wp2_with (at_builtin; refine Kd.R_append_rows (Kd.int .i64) (w0 := wr.alloc (.cells #[.int .i64 (s0 / 16), .int .i64 (s0 / 4 % 4), .int .i64 (s0 % 4)] 3)) (w.heap.size + 1) rfl (.tmp 35) (.tmp 43) 29 3 (.int .i64 0) 8 rfl Tryd.underlying29 info3 rfl (by decide) (by omega) (.slice A3 n3 c3) (rpart d 16) [s0 / 16, s0 / 4 % 4, s0 % 4] (some ⟨wr.heap.size, 0, none⟩) 3 3 (fun _ => True) (fun _ => False) rfl rfl HR1.out HC1.out (fun _ _ h => h) (fun _ h => h.elim) (fun _ _ => trivial) (Below.refl _ _) HSZ1.out (by rw [rpart_length]; omega) ?_; intro v4 w4 h4 hb4 hg4 _; obtain ⟨A5, c5, n5, rfl, hC5, hc5⟩ := R_any h4; have HC5 := Aside0.mk hC5; have HB5 : Aside0 (Below w.heap.size w w4) := ⟨HB1.out.grown hg4 HB1.out.size (fun k e => by obtain ⟨inner, hin⟩ := Kd.R_own HR1.out; have := own_base hin k e; omega)⟩; clear h4 hb4 hg4 hC5)
      have hC := HC5.out
      rw [HDG.out] at hC
      obtain rfl : n5 = 19 := by rw [← Kd.C_len hC, digits_length]
      go_ret
      exact ⟨A5, c5, rfl, hc5, hC, HB5.out⟩
end Go.Proofs.YtkpfnbliideeeaaDoor.Q
