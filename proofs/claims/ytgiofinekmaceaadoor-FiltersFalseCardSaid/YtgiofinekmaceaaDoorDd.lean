/- digest: Sum -/
import Derived.Test.YtgiofinekmaceaaDoorDc
namespace Go.Proofs.YtgiofinekmaceaaDoor.Q
open Go.RowKit Go.Proofs.YtgiofinekmaceaaDoorW.PrintWords Go.Proofs.YtgiofinekmaceaaDoorW.PrintLast Go.Proofs.YtgiofinekmaceaaDoorW.PrintMore
set_option linter.unusedVariables false
set_option linter.unusedSimpArgs false
/-- the state after k blocks of 64 bytes -/
def stateUpto (st xs : List Int) : Nat → List Int
  | 0 => st
  | k + 1 => compress (stateUpto st xs k) ((xs.drop (64 * k)).take 64)
theorem stateUpto_length (st xs : List Int) (k : Nat) : (stateUpto st xs k).length = st.length := by
  induction k with
  | zero => rfl
  | succ k ih => rw [stateUpto, compress_length, ih]
theorem absorb64 (bs : Nat) (st : List Int) (A : Option Addr) (c : Nat) (ys : List Int) (w : World) (hl : st.length = 8) (hs : w.heap[bs]? = some (.cells (cells32 st) 67 (0, 0)))
    (h : Kd.C (Kd.int .u8) w A 64 ys) (hc : 64 ≤ c) (hT : Tabs w) :
    Calls Tryd.prog 38 #[.pointer (some ⟨bs, 0, none⟩), .slice A 64 c] w fun e w' => e = .returned (.tuple #[]) ∧ w.grownBy w' (some bs) ∧ w'.heap[bs]? = some (.cells (cells32 (compress st ys)) 67 (0, 0)) := by
  have e := Kd.C_len h
  have hh := absorb_calls bs st A c ys w hl hs (by rw [e]; exact h) (by omega) (by omega) hT
  rw [e] at hh
  exact hh
/-- what came in is as it was, where only a block of the call's own has changed -/
theorem below_grown {w w1 w2 : World} {b : Nat} (h : Below w.heap.size w w1) (hg : w1.grownBy w2 (some b)) (hb : w.heap.size ≤ b) : Below w.heap.size w w2 := pw_below_grown h (some b) h.size hg (fun k e => by cases e; exact hb)
theorem C_at {w : World} {B : Option Addr} {m j cc : Nat} {xs : List Int} (h : Kd.C (Kd.int .u8) w B m xs) (hj : j ≤ m) (hc : m ≤ cc) : Kd.C (Kd.int .u8) w (if cc = j then B else B.map (·.add (j * 1))) (m - j) (xs.drop j) := by
  obtain rfl := Kd.C_len h
  have hh := Kd.C_drop h hj hc
  rw [List.length_drop] at hh
  exact hh
theorem C_first {w : World} {B : Option Addr} {m j : Nat} {xs : List Int} (h : Kd.C (Kd.int .u8) w B m xs) (hj : j ≤ m) : Kd.C (Kd.int .u8) w B j (xs.take j) := by
  obtain rfl := Kd.C_len h
  have hh := Kd.C_take (m := j) h hj
  rw [List.length_take, Nat.min_eq_left hj] at hh
  exact hh
theorem C_cells {w : World} {B : Option Addr} {m : Nat} {kd : IntKind} {xs : List Int} (h : Kd.C (Kd.int kd) w B m xs) (hm : 0 < m) : ∃ ad, B = some ad ∧ ∀ j v, (nums kd xs)[j]? = some v → w.cell? (ad.add j) = some v := by
  obtain ⟨ad, e, hc⟩ := h.2.2 hm
  refine ⟨ad, e, fun j v hj => ?_⟩
  simp only [nums, List.getElem?_map] at hj
  obtain ⟨p, hp, rfl⟩ := Option.map_eq_some_iff.1 hj
  obtain ⟨c, _, rfl, hc2⟩ := hc j p hp
  have := hc2 0 (.int kd p) rfl
  have e1 : (Kd.int kd).sz = 1 := rfl
  rw [e1, Nat.mul_one, Nat.add_zero] at this
  exact this
theorem nums_one (kd : IntKind) (xs : List Int) : ∀ v ∈ nums kd xs, v.oneCell' = true := by
  intro v hv
  obtain ⟨p, _, rfl⟩ := List.mem_map.1 hv
  rfl
/-- a list with another one laid over it from place o on -/
def spl (a : List Int) (o : Nat) (b : List Int) : List Int := a.take o ++ b ++ a.drop (o + b.length)
theorem spl_nums (kd : IntKind) (a : List Int) (o : Nat) (b : List Int) : splice (nums kd a) o (nums kd b) = nums kd (spl a o b) := by
  simp [splice, spl, nums, List.map_take, List.map_drop]
theorem spl_length (a : List Int) (o : Nat) (b : List Int) (h : o + b.length ≤ a.length) : (spl a o b).length = a.length := by simp [spl]; omega
def zeros128 : List Int := List.replicate 128 0
def zeros32 : List Int := List.replicate 32 0
theorem zeros128_length : zeros128.length = 128 := by simp [zeros128]
theorem zeros32_length : zeros32.length = 32 := by simp [zeros32]
theorem end_cell {w : World} {g t : Nat} {rest : List Int} {m : Nat} (h : w.heap[g]? = some (.cells (splice (nums .u8 zeros128) 0 (nums .u8 rest)).toArray t (0, 0))) (hl : rest.length = m) (hm : m < 64) : w.cell? ⟨g, m, none⟩ = some (.int .u8 0) := by
  rw [blk_cell h]
  subst hl
  rw [spl_nums, List.getElem?_toArray, nums, List.getElem?_map, spl, List.getElem?_append_right (by simp), List.getElem?_drop, zeros128, List.getElem?_replicate, if_pos (by simp; omega)]
  rfl
theorem end_frozen {w : World} {g t : Nat} {cs : List Value} (h : w.heap[g]? = some (.cells cs.toArray t (0, 0))) (i : Nat) : w.frozen? ⟨g, i, none⟩ = false := blk_frozen h i
/-- the end of the text: what is left, the bit, zeros, and how many bits there are -/
def endOf (rest : List Int) (bits_ : Int) : List Int :=
  putUpto ((spl zeros128 0 rest).set rest.length 128) ((if rest.length ≤ 55 then 64 else 128) - 8) 8 bits_ 8
theorem endOf_length (rest : List Int) (b : Int) (h : rest.length < 64) : (endOf rest b).length = 128 := by
  rw [endOf, putUpto_length, List.length_set, spl_length _ _ _ (by rw [zeros128_length]; omega), zeros128_length]
def bitsOf (xs : List Int) : Int := IntKind.u64.wrap ((xs.length : Int) * 8)
def restOf (xs : List Int) : List Int := xs.drop (64 * (xs.length / 64))
/-- the state at the end -/
def lastState (xs : List Int) : List Int :=
  stateUpto (stateUpto hTab xs (xs.length / 64)) (endOf (restOf xs) (bitsOf xs)) (if (restOf xs).length ≤ 55 then 1 else 2)
def dUpto (st : List Int) : Nat → List Int
  | 0 => zeros32
  | k + 1 => putUpto (dUpto st k) (4 * k) 4 (IntKind.u64.wrap (rd st (k : Int))) 4
theorem dUpto_length (st : List Int) (k : Nat) : (dUpto st k).length = 32 := by
  induction k with
  | zero => exact zeros32_length
  | succ k ih => rw [dUpto, putUpto_length, ih]
/-- the hash of bytes -/
def sha (xs : List Int) : List Int := dUpto (lastState xs) 8
theorem sha_length (xs : List Int) : (sha xs).length = 32 := dUpto_length _ _
theorem index8 (a b c d e f g h : Int) (k : Nat) (hk : k < 8) (W : World) : (Instr.index 67 (.agg #[.int .u32 a, .int .u32 b, .int .u32 c, .int .u32 d, .int .u32 e, .int .u32 f, .int .u32 g, .int .u32 h]) (.int .i64 (k : Int))).run Tryd.prog W = .ok (.int .u32 (rd [a, b, c, d, e, f, g, h] (k : Int))) W := by
  have h8 : k = 0 ∨ k = 1 ∨ k = 2 ∨ k = 3 ∨ k = 4 ∨ k = 5 ∨ k = 6 ∨ k = 7 := by omega
  rcases h8 with rfl | rfl | rfl | rfl | rfl | rfl | rfl | rfl <;> rfl
theorem sliceAt8 (g p : Nat) (hp : p < 8) (W : World) : (Instr.sliceAt 23 (.pointer (some ⟨g, 0, none⟩)) (some (.int .i64 (4 * (p : Int)))) (some (.int .i64 (4 * (p : Int) + 4))) none).run Tryd.prog W = .ok (.slice (some ⟨g, 4 * p, none⟩) 4 (32 - 4 * p)) W := by
  have h8 : p = 0 ∨ p = 1 ∨ p = 2 ∨ p = 3 ∨ p = 4 ∨ p = 5 ∨ p = 6 ∨ p = 7 := by omega
  rcases h8 with rfl | rfl | rfl | rfl | rfl | rfl | rfl | rfl <;> rfl
theorem u64_range (x : Int) : 0 ≤ IntKind.u64.wrap x ∧ IntKind.u64.wrap x < 18446744073709551616 := by
  simp [IntKind.wrap, IntKind.bits, IntKind.signed]
  omega
theorem all_one8 (l : List Int) : (cells8 l).all (·.oneCell') = true := by
  simp [cells8, nums, Value.oneCell']
theorem make128 : ∀ w, (Instr.makeSlice 24 (.int .i64 64) (.int .i64 128)).run Tryd.prog w = .ok (.slice (some ⟨w.heap.size, 0, none⟩) 64 128) (w.alloc (.cells (cells8 zeros128) 5)) := fun _ => by kernel_rfl
set_option maxHeartbeats 2000000 in
set_option maxRecDepth 100000 in
theorem Sum_calls (A : Option Addr) (c : Nat) (xs : List Int) (w : World) (h : Kd.C (Kd.int .u8) w A xs.length xs) (hc : xs.length ≤ c) (hT : Tabs w) :
    Calls Tryd.prog 33 #[.slice A xs.length c] w fun e w' => e = .returned (.agg (cells8 (sha xs))) ∧ Below w.heap.size w w' := by
  have h0 := hT.h 0 (by omega)
  have h1 := hT.h 1 (by omega)
  have h2 := hT.h 2 (by omega)
  have h3 := hT.h 3 (by omega)
  have h4 := hT.h 4 (by omega)
  have h5 := hT.h 5 (by omega)
  have h6 := hT.h 6 (by omega)
  have h7 := hT.h 7 (by omega)
  simp only [rd, hTab, List.getD_cons_zero, List.getD_cons_succ, Int.toNat_natCast] at h0 h1 h2 h3 h4 h5 h6 h7
  have hgz : 0 < w.heap.size := World.block_lt_of_cell? w _ h0
  have HT := Aside0.mk hT
  have H := Aside0.mk h
  clear hT h
  obtain ⟨i0, hi0, _, hsz0, _⟩ := info_parts info5
  have HI0 := Aside0.mk hi0
  have HSZ := Aside0.mk hsz0
  clear hi0 hsz0
  go_enter Tryd.func33, Tryd.ntmps33
  go_wp2_with fail
  have HD0 : Aside0 (((w.alloc (.cells (cells8 zeros32) 23)).alloc (.cells (cells32 hTab) 67)).heap[w.heap.size]? = some (.cells (cells8 zeros32) 23 (0, 0))) := ⟨heap_alloc2_old _ _ _⟩
  have HS0 : Aside0 (((w.alloc (.cells (cells8 zeros32) 23)).alloc (.cells (cells32 hTab) 67)).heap[w.heap.size + 1]? = some (.cells (cells32 (stateUpto hTab xs 0)) 67 (0, 0))) := ⟨heap_alloc2_new _ _ _⟩
  have HB0 : Aside0 (Below w.heap.size w ((w.alloc (.cells (cells8 zeros32) 23)).alloc (.cells (cells32 hTab) 67))) := ⟨below_alloc (below_alloc (Below.refl _ _) _) _⟩
  have hmax := Kd.C_max H.out
  clear h0 h1 h2 h3 h4 h5 h6 h7
  go_loopg [5] (xs.length / 64) (fun kq v5 w' => ∃ (k m cc : Nat) (B : Option Addr), v5 = .slice B m cc ∧ Aside0 (k + kq = xs.length / 64 ∧ m + 64 * k = xs.length ∧ m ≤ cc) ∧ Aside0 (∀ W, Below w.heap.size w W → Kd.C (Kd.int .u8) W B m (xs.drop (64 * k))) ∧ Aside0 (w'.heap[w.heap.size]? = some (.cells (cells8 zeros32) 23 (0, 0))) ∧ Aside0 (w'.heap[w.heap.size + 1]? = some (.cells (cells32 (stateUpto hTab xs k)) 67 (0, 0))) ∧ Aside0 (Below w.heap.size w w'))
  case atStart => exact ⟨0, xs.length, c, A, rfl, ⟨by omega, by omega, hc⟩, ⟨fun W hW => Kd.C_below H.out hW⟩, ⟨HD0.out⟩, ⟨HS0.out⟩, ⟨HB0.out⟩⟩
  case round =>
    clear HD0 HS0 HB0
    obtain ⟨k, m, cc, B, rfl, HX, HR, HD, HS, HB⟩ := hrel
    cases gk with
    | succ k2 =>
      have c14 : decide (64 ≤ (m : Int)) = true := decide_eq_true (by have := HX.out; omega)
      have q64 : 64 ≤ cc := by have := HX.out; omega
      have hcut := cut_from (P := Tryd.prog) 24 5 .i64 Tryd.underlying24 HI0.out 1 HSZ.out B m cc 64 (by omega) (by have := HX.out; omega)
      rw [show (64 : Int).toNat = 64 from rfl] at hcut
      have hq := C_first (HR.out wr HB.out) (j := 64) (by have := HX.out; omega)
      have HQ := Aside0.mk hq
      clear hq
      go_wp2_with fail
      refine (absorb64 (w.heap.size + 1) (stateUpto hTab xs k) B cc _ wr (by rw [stateUpto_length]; rfl) HS.out HQ.out q64 (HT.out.below HB.out)).mono ?_
      rintro e w1 ⟨rfl, hg1, hs1⟩
      have HG1 := Aside0.mk hg1
      have HS1 : Aside0 (w1.heap[w.heap.size + 1]? = some (.cells (cells32 (stateUpto hTab xs (k + 1))) 67 (0, 0))) := ⟨hs1⟩
      have HD1 : Aside0 (w1.heap[w.heap.size]? = some (.cells (cells8 zeros32) 23 (0, 0))) := ⟨blk_grown HD.out hg1 (by simp)⟩
      have HB1 : Aside0 (Below w.heap.size w w1) := ⟨below_grown HB.out hg1 (by omega)⟩
      have HR1 : Aside0 (∀ W, Below w.heap.size w W → Kd.C (Kd.int .u8) W (if cc = 64 then B else B.map (·.add (64 * 1))) (m - 64) (xs.drop (64 * (k + 1)))) := ⟨fun W hW => by
        have e := C_at (cc := cc) (HR.out W hW) (j := 64) (by have := HX.out; omega) (by have := HX.out; omega)
        rw [List.drop_drop, show 64 * k + 64 = 64 * (k + 1) from by omega] at e
        exact e⟩
      obtain ⟨B', hB'⟩ : ∃ B', B' = (if cc = 64 then B else B.map (·.add (64 * 1))) := ⟨_, rfl⟩
      rw [← hB'] at hcut HR1
      clear hB'
      clear hg1 hs1
      go_wp2_with fail
      go_roundg k2
      case measure => omega
      case rel => exact ⟨k + 1, m - 64, cc - 64, _, rfl, ⟨by have := HX.out; omega, by have := HX.out; omega, by have := HX.out; omega⟩, HR1, HD1, HS1, HB1⟩
    | zero =>
      obtain ⟨we, hwe⟩ : ∃ x, x = wr := ⟨_, rfl⟩
      subst hwe
      obtain ⟨q, hq⟩ : ∃ q, q = xs.length / 64 := ⟨_, rfl⟩
      have hk : k = q := by have := HX.out; omega
      have hm64 : m < 64 := by have := HX.out; omega
      have hmc : m ≤ cc := HX.out.2.2
      have HK := Aside0.mk hk
      have HQ := Aside0.mk hq
      clear hk hq
      have c14 : decide (64 ≤ (m : Int)) = false := decide_eq_false (by omega)
      have hmk := make128
      have hE0 : (we.alloc (.cells (cells8 zeros128) 5)).heap[we.heap.size]? = some (.cells (nums .u8 zeros128).toArray 5 (0, 0)) := heap_alloc_new _ _
      have hBE : Below w.heap.size w (we.alloc (.cells (cells8 zeros128) 5)) := below_alloc HB.out _
      have hrl : (xs.drop (64 * k)).length = m := by have := HX.out; rw [List.length_drop]; omega
      have hnl : (nums .u8 (xs.drop (64 * k))).length = Nat.min m 64 := by rw [nums_length, hrl]; show m = min m 64; omega
      have hpos : 0 < (nums .u8 (xs.drop (64 * k))).length → (some ⟨we.heap.size, 0, none⟩ : Option Addr) = some ⟨we.heap.size, 0, none⟩ ∧ ∃ ad, B = some ad ∧ ∀ j v, (nums .u8 (xs.drop (64 * k)))[j]? = some v → (we.alloc (.cells (cells8 zeros128) 5)).cell? (ad.add j) = some v := fun hp => ⟨rfl, C_cells (HR.out _ hBE) (by rw [nums_length, hrl] at hp; exact hp)⟩
      have hfit : 0 + (nums .u8 (xs.drop (64 * k))).length ≤ (nums .u8 zeros128).length := by rw [nums_length, nums_length, hrl, zeros128_length]; omega
      have hsz : w.heap.size + 1 < we.heap.size := blk_lt HS.out
      have HE0 := Aside0.mk hE0; have HBE := Aside0.mk hBE; have HNL := Aside0.mk hnl; have HPOS := Aside0.mk hpos; have HFIT := Aside0.mk hfit; have HRL := Aside0.mk hrl
      clear hE0 hBE hnl hpos hfit hrl
      go_upto_if 31 with (with_reducible refine wpList_copy_splice rfl (.tmp 22) (.tmp 23) 24 24 rfl 5 Tryd.underlying24 (by kernel_rfl) (some ⟨we.heap.size, 0, none⟩) B 64 128 m cc rfl rfl we.heap.size 0 (nums .u8 zeros128) 5 HE0.out (nums .u8 (xs.drop (64 * k))) HNL.out HPOS.out HFIT.out (nums_one _ _) we.heap.size (we.alloc (.cells (cells8 zeros128) 5)) (Below.refl _ _) (Nat.le_refl _) ?_; intro wf hwf hbf; have HWF := Aside0.mk hwf.out; have HBF := Aside0.mk hbf; have hxm : wf.cell? ⟨we.heap.size, m, none⟩ = some (.int .u8 0) := end_cell hwf.out HRL.out hm64; have hfm : wf.frozen? ⟨we.heap.size, m, none⟩ = false := end_frozen hwf.out m; clear hwf hbf)
      go_cut [6] (fun v6 wx => wx = wf.setCell ⟨we.heap.size, m, none⟩ (.int .u8 128) ∧ ∃ n : Nat, v6 = .slice (some ⟨we.heap.size, 0, none⟩) n 128 ∧ (n = 64 ∧ m ≤ 55 ∨ n = 128 ∧ 55 < m))
      case first =>
        go_wp2_with fail
        all_goals (go_meet; first | exact ⟨rfl, 64, rfl, .inl ⟨rfl, by omega⟩⟩ | exact ⟨rfl, 128, rfl, .inr ⟨rfl, by omega⟩⟩)
      case rest =>
        obtain ⟨hwc, n, rfl, hn⟩ := hcut
        have HE1 : Aside0 (wc.heap[we.heap.size]? = some (.cells (cells8 ((spl zeros128 0 (xs.drop (64 * k))).set m 128)) 5 (0, 0))) := ⟨by
          rw [hwc]
          have e := HWF.out
          rw [spl_nums] at e
          exact blk8_set e m 128⟩
        have HDc : Aside0 (wc.heap[w.heap.size]? = some (.cells (cells8 zeros32) 23 (0, 0))) := ⟨by
          rw [hwc]
          exact blk_far ((HBF.out.block _ (by omega)).trans (blk_alloc HD.out _)) (p := ⟨we.heap.size, m, none⟩) (by show w.heap.size ≠ we.heap.size; omega) _⟩
        have HSc : Aside0 (wc.heap[w.heap.size + 1]? = some (.cells (cells32 (stateUpto hTab xs k)) 67 (0, 0))) := ⟨by
          rw [hwc]
          exact blk_far ((HBF.out.block _ (by omega)).trans (blk_alloc HS.out _)) (p := ⟨we.heap.size, m, none⟩) (by show w.heap.size + 1 ≠ we.heap.size; omega) _⟩
        have HBc : Aside0 (Below w.heap.size w wc) := ⟨by
          rw [hwc]
          exact (HBE.out.trans (HBF.out.mono (by omega))).setCell (p := ⟨we.heap.size, m, none⟩) (by show w.heap.size ≤ we.heap.size; omega) _⟩
        have hn2 : 64 ≤ n ∧ n ≤ 128 := by omega
        have hcutA : ∀ W : World, (Instr.slice 24 (.slice (some ⟨we.heap.size, 0, none⟩) n 128) (some (.int .i64 ((n : Int) - 8))) none none).run Tryd.prog W = .ok (.slice (some ⟨we.heap.size, n - 8, none⟩) 8 (136 - n)) W := by
          intro W
          have e := cut_from (P := Tryd.prog) 24 5 .i64 Tryd.underlying24 HI0.out 1 HSZ.out (some ⟨we.heap.size, 0, none⟩) n 128 ((n : Int) - 8) (by omega) (by omega) W
          rw [show ((n : Int) - 8).toNat = n - 8 from by omega, if_neg (by omega), Option.map_some, add_at, show n - (n - 8) = 8 from by omega, show 128 - (n - 8) = 136 - n from by omega, Nat.mul_one, Nat.zero_add] at e
          exact e
        have HN := Aside0.mk hn
        have hbb : IntKind.u64.wrap ((xs.length : Int) * 8) = bitsOf xs := rfl
        clear hwc hn hxm hfm HWF HBF HE0 HBE HD HS HB HNL HPOS HFIT hmk
        go_wp2_with fail
        have hl1 : ((spl zeros128 0 (xs.drop (64 * k))).set m 128).length = 128 := by rw [List.length_set, spl_length _ _ _ (by rw [HRL.out, zeros128_length]; omega), zeros128_length]
        refine (put_calls we.heap.size (n - 8) 8 (136 - n) _ 5 (bitsOf xs) wc HE1.out (by rw [hl1]; omega) (by omega) (by rw [hl1]; omega) (u64_range _).1 (u64_range _).2).mono ?_
        rintro e w2 ⟨rfl, hg2, he2⟩
        obtain ⟨E, hE⟩ : ∃ E, E = putUpto ((spl zeros128 0 (xs.drop (64 * k))).set m 128) (n - 8) 8 (bitsOf xs) 8 := ⟨_, rfl⟩
        rw [← hE] at he2
        have hEl : E.length = 128 := by rw [hE, putUpto_length, hl1]
        have HEE := Aside0.mk hE; have HEL := Aside0.mk hEl
        have HE2 : Aside0 (w2.heap[we.heap.size]? = some (.cells (cells8 E) 5 (0, 0))) := ⟨he2⟩
        have HD2 : Aside0 (w2.heap[w.heap.size]? = some (.cells (cells8 zeros32) 23 (0, 0))) := ⟨blk_grown HDc.out hg2 (by simp; omega)⟩
        have HS2 : Aside0 (w2.heap[w.heap.size + 1]? = some (.cells (cells32 (stateUpto (stateUpto hTab xs k) E 0)) 67 (0, 0))) := ⟨blk_grown HSc.out hg2 (by simp; omega)⟩
        have HB2 : Aside0 (Below w.heap.size w w2) := ⟨below_grown HBc.out hg2 (by omega)⟩
        clear hg2 he2 hE hEl hl1 HE1 HDc HSc HBc hcutA
        go_wp2_with fail
        go_loopg [6] (n / 64) (fun kq v6 w' => ∃ (j m2 c2 : Nat) (B2 : Option Addr), v6 = .slice B2 m2 c2 ∧ Aside0 (j + kq = n / 64 ∧ m2 + 64 * j = n ∧ c2 + 64 * j = 128 ∧ (0 < m2 → B2 = some ⟨we.heap.size, 64 * j, none⟩)) ∧ Aside0 (w'.heap[we.heap.size]? = some (.cells (cells8 E) 5 (0, 0))) ∧ Aside0 (w'.heap[w.heap.size]? = some (.cells (cells8 zeros32) 23 (0, 0))) ∧ Aside0 (w'.heap[w.heap.size + 1]? = some (.cells (cells32 (stateUpto (stateUpto hTab xs k) E j)) 67 (0, 0))) ∧ Aside0 (Below w.heap.size w w'))
        case atStart => exact ⟨0, n, 128, _, rfl, ⟨by omega, by omega, by omega, fun _ => rfl⟩, ⟨HE2.out⟩, ⟨HD2.out⟩, ⟨HS2.out⟩, ⟨HB2.out⟩⟩
        case round =>
          clear HE2 HD2 HS2 HB2
          obtain ⟨j, m2, c2, B2, rfl, HX2, HE, HD, HS, HB⟩ := hrel
          have HN64 : Aside0 (n = 64 ∨ n = 128) := ⟨by have := HN.out; omega⟩
          cases gk with
          | succ k3 =>
            have c46 : decide (0 < (m2 : Int)) = true := decide_eq_true (by have := HX2.out; have := HN64.out; omega)
            have q64 : 64 ≤ c2 := by have := HX2.out; have := HN64.out; omega
            have q65 : 64 ≤ m2 := by have := HX2.out; have := HN64.out; omega
            obtain rfl := HX2.out.2.2.2 (by omega)
            have hcut := cut_from (P := Tryd.prog) 24 5 .i64 Tryd.underlying24 HI0.out 1 HSZ.out (some ⟨we.heap.size, 64 * j, none⟩) m2 c2 64 (by omega) (by omega)
            rw [show (64 : Int).toNat = 64 from rfl] at hcut
            obtain ⟨B3, hB3⟩ : ∃ B3, B3 = (if c2 = 64 then some (⟨we.heap.size, 64 * j, none⟩ : Addr) else (some (⟨we.heap.size, 64 * j, none⟩ : Addr)).map (·.add (64 * 1))) := ⟨_, rfl⟩
            rw [← hB3] at hcut
            have HB3 : Aside0 (0 < m2 - 64 → B3 = some ⟨we.heap.size, 64 * (j + 1), none⟩) := ⟨fun hp => by
              rw [hB3, if_neg (by have := HX2.out; have := HN64.out; omega), Option.map_some, add_at]
              congr 2⟩
            clear hB3
            have HQ2 := Aside0.mk (C_blk8 HE.out (64 * j) 64 (by rw [HEL.out]; have := HX2.out; omega) (by rw [HEL.out]; omega))
            go_wp2_with fail
            refine (absorb64 (w.heap.size + 1) (stateUpto (stateUpto hTab xs k) E j) (some ⟨we.heap.size, 64 * j, none⟩) c2 _ wr (by rw [stateUpto_length, stateUpto_length]; rfl) HS.out HQ2.out q64 (HT.out.below HB.out)).mono ?_
            rintro e w1 ⟨rfl, hg1, hs1⟩
            have HS1 : Aside0 (w1.heap[w.heap.size + 1]? = some (.cells (cells32 (stateUpto (stateUpto hTab xs k) E (j + 1))) 67 (0, 0))) := ⟨hs1⟩
            have HD1 : Aside0 (w1.heap[w.heap.size]? = some (.cells (cells8 zeros32) 23 (0, 0))) := ⟨blk_grown HD.out hg1 (by simp)⟩
            have HE1 : Aside0 (w1.heap[we.heap.size]? = some (.cells (cells8 E) 5 (0, 0))) := ⟨blk_grown HE.out hg1 (by simp; omega)⟩
            have HB1 : Aside0 (Below w.heap.size w w1) := ⟨below_grown HB.out hg1 (by omega)⟩
            clear hg1 hs1
            go_wp2_with fail
            go_roundg k3
            case measure => omega
            case rel => exact ⟨j + 1, m2 - 64, c2 - 64, _, rfl, ⟨by have := HX2.out; omega, by have := HX2.out; omega, by have := HX2.out; omega, HB3.out⟩, HE1, HD1, HS1, HB1⟩
          | zero =>
            have hj : j = n / 64 := by have := HX2.out; omega
            have HJ := Aside0.mk hj
            obtain rfl : m2 = 0 := by have := HX2.out; have := HN64.out; omega
            have c46 : decide (0 < ((0 : Nat) : Int)) = false := rfl
            clear hj
            obtain ⟨S, hS⟩ : ∃ S, S = stateUpto (stateUpto hTab xs k) E j := ⟨_, rfl⟩
            rw [← hS] at HS
            have hSl : S.length = 8 := by rw [hS, stateUpto_length, stateUpto_length]; rfl
            have HSS := Aside0.mk hS
            clear hS
            obtain ⟨s0, s1, s2, s3, s4, s5, s6, s7, rfl⟩ := eight S hSl
            have hs0 := blk32 HS.out 0 (by simp)
            have hs1 := blk32 HS.out 1 (by simp)
            have hs2 := blk32 HS.out 2 (by simp)
            have hs3 := blk32 HS.out 3 (by simp)
            have hs4 := blk32 HS.out 4 (by simp)
            have hs5 := blk32 HS.out 5 (by simp)
            have hs6 := blk32 HS.out 6 (by simp)
            have hs7 := blk32 HS.out 7 (by simp)
            simp only [rd, List.getD_cons_zero, List.getD_cons_succ, Int.toNat_natCast] at hs0 hs1 hs2 hs3 hs4 hs5 hs6 hs7
            go_wp2_with fail
            clear hs0 hs1 hs2 hs3 hs4 hs5 hs6 hs7
            go_loopw [54] (fun i w' => ∃ p : Nat, p ≤ 8 ∧ i = .int .i64 (p : Int) ∧ Aside0 (w'.heap[w.heap.size]? = some (.cells (cells8 (dUpto [s0, s1, s2, s3, s4, s5, s6, s7] p)) 23 (0, 0))) ∧ Aside0 (Below w.heap.size w w')) (fun i _ => 8 - (intOf i).toNat)
            case atStart => exact ⟨0, by omega, rfl, ⟨HD.out⟩, ⟨HB.out⟩⟩
            case round =>
              clear HD HB HE HS
              obtain ⟨p, hp, rfl, HD, HB⟩ := hrel
              by_cases hlt : p < 8
              · have hidx := index8 s0 s1 s2 s3 s4 s5 s6 s7 p hlt
                generalize hsv : rd [s0, s1, s2, s3, s4, s5, s6, s7] (p : Int) = sv at hidx
                have HSV := Aside0.mk hsv
                clear hsv
                have c55 : decide ((p : Int) < 8) = true := decide_eq_true (by omega)
                have hcutD := sliceAt8 w.heap.size p hlt
                go_wp2_with fail
                refine (put_calls w.heap.size (4 * p) 4 (32 - 4 * p) _ 23 (IntKind.u64.wrap sv) wr HD.out (by rw [dUpto_length]; omega) (by omega) (by rw [dUpto_length]; omega) (u64_range _).1 (u64_range _).2).mono ?_
                rintro e w3 ⟨rfl, hg3, hd3⟩
                have HD3 : Aside0 (w3.heap[w.heap.size]? = some (.cells (cells8 (dUpto [s0, s1, s2, s3, s4, s5, s6, s7] (p + 1))) 23 (0, 0))) := ⟨by rw [dUpto, HSV.out]; exact hd3⟩
                have HB3 : Aside0 (Below w.heap.size w w3) := ⟨below_grown HB.out hg3 (Nat.le_refl _)⟩
                clear hg3 hd3
                go_wp2_with fail
                go_roundw
                case rel => exact ⟨p + 1, by omega, by go_num, HD3, HB3⟩
                case measure => simp [intOf]; omega
              · obtain rfl : p = 8 := by omega
                have hsz32 : (Tryd.prog.info? 23).map (·.size) = some (cells8 (dUpto [s0, s1, s2, s3, s4, s5, s6, s7] 8)).size := by rw [cells8_size, dUpto_length]; kernel_rfl
                have HSZ32 := Aside0.mk hsz32
                obtain ⟨L, hL⟩ : ∃ L, L = dUpto [s0, s1, s2, s3, s4, s5, s6, s7] 8 := ⟨_, rfl⟩
                rw [← hL] at HD HSZ32
                have HLL := Aside0.mk hL
                clear hL hsz32
                go_wp2_with (first
                  | (with_reducible refine wpList_load_row rfl 23 (.tmp 2) rfl w.heap.size rfl 23 (cells8 L) (0, 0) _ HD.out Tryd.underlying23 rfl HSZ32.out ?_)
                  | (with_reducible refine wpList_store_row rfl 23 (.tmp 2) (.tmp 68) rfl w.heap.size (cells8 L) rfl rfl 23 (cells8 L) HD.out HSZ32.out rfl (all_one8 L) ?_))
                refine bodyPost_ret (v := .agg (cells8 L)) (results_cell_row rfl _ _ w.heap.size 23 (cells8 L) (0, 0) _ rfl (setRow_heap _ _ _ _ _ _ HD.out) Tryd.underlying23 rfl HSZ32.out) rfl ⟨?_, below_setRow HB.out (Nat.le_refl _) _⟩
                have e : L = sha xs := by
                  rw [HLL.out, HSS.out, HEE.out, sha, lastState, endOf, restOf, HJ.out]
                  have hk := HK.out
                  rw [HQ.out] at hk
                  rw [← hk, HRL.out]
                  rcases HN.out with ⟨rfl, h5⟩ | ⟨rfl, h5⟩
                  · rw [if_pos h5, if_pos h5]
                  · rw [if_neg (by omega), if_neg (by omega)]
                rw [e]
end Go.Proofs.YtgiofinekmaceaaDoor.Q
