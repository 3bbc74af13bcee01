/- digest: absorb -/
import Derived.Test.YtgiofinekmaceaaDoorDa
namespace Go.Proofs.YtgiofinekmaceaaDoor.Q
open Go.RowKit Go.Proofs.YtgiofinekmaceaaDoorW.PrintWords Go.Proofs.YtgiofinekmaceaaDoorW.PrintLast Go.Proofs.YtgiofinekmaceaaDoorW.PrintMore
set_option linter.unusedVariables false
set_option linter.unusedSimpArgs false
/-- the numbers K, and the state at the start -/
def kTab : List Int := [1116352408, 1899447441, 3049323471, 3921009573, 961987163, 1508970993, 2453635748, 2870763221, 3624381080, 310598401, 607225278, 1426881987, 1925078388, 2162078206, 2614888103, 3248222580, 3835390401, 4022224774, 264347078, 604807628, 770255983, 1249150122, 1555081692, 1996064986, 2554220882, 2821834349, 2952996808, 3210313671, 3336571891, 3584528711, 113926993, 338241895, 666307205, 773529912, 1294757372, 1396182291, 1695183700, 1986661051, 2177026350, 2456956037, 2730485921, 2820302411, 3259730800, 3345764771, 3516065817, 3600352804, 4094571909, 275423344, 430227734, 506948616, 659060556, 883997877, 958139571, 1322822218, 1537002063, 1747873779, 1955562222, 2024104815, 2227730452, 2361852424, 2428436474, 2756734187, 3204031479, 3329325298]
def hTab : List Int := [1779033703, 3144134277, 1013904242, 2773480762, 1359893119, 2600822924, 528734635, 1541459225]
/-- the tables lie in the variables -/
structure Tabs (w : World) : Prop where
  k : ∀ t : Nat, t < 64 → w.cell? ⟨1, t, none⟩ = some (.int .u32 (rd kTab (t : Int)))
  h : ∀ t : Nat, t < 8 → w.cell? ⟨0, t, none⟩ = some (.int .u32 (rd hTab (t : Int)))
theorem Tabs.below {w w' : World} (h : Tabs w) (hb : Below w.heap.size w w') : Tabs w' :=
  ⟨fun t ht => pw_cell_below hb (h.k t ht), fun t ht => pw_cell_below hb (h.h t ht)⟩
/-- cells of 32 bits -/
def cells32 (l : List Int) : Array Value := (nums .u32 l).toArray
theorem cells32_get (l : List Int) (i : Nat) (h : i < l.length) : (cells32 l)[i]? = some (.int .u32 (rd l (i : Int))) := by
  simp [cells32, nums, rd, List.getD, h]
theorem cells32_set (l : List Int) (i : Nat) (v : Int) : (cells32 l).setIfInBounds i (.int .u32 v) = cells32 (l.set i v) := by
  simp [cells32, nums, List.map_set]
theorem cells32_size (l : List Int) : (cells32 l).size = l.length := by simp [cells32, nums]
theorem blk32 {w : World} {b t : Nat} {l : List Int} (h : w.heap[b]? = some (.cells (cells32 l) t (0, 0))) (i : Nat) (hi : i < l.length) : w.cell? ⟨b, i, none⟩ = some (.int .u32 (rd l (i : Int))) := (blk_cell h i).trans (cells32_get l i hi)
theorem blk32_set {w : World} {b t : Nat} {l : List Int} (h : w.heap[b]? = some (.cells (cells32 l) t (0, 0))) (i : Nat) (v : Int) : (w.setCell ⟨b, i, none⟩ (.int .u32 v)).heap[b]? = some (.cells (cells32 (l.set i v)) t (0, 0)) := by
  rw [← cells32_set]; exact blk_set h i _
/-- the first sixteen words of a block, k of them -/
def w16 (xs : List Int) (k : Nat) : List Int := (List.range k).map (fun t => word4 (xs.drop (4 * t))) ++ List.replicate (64 - k) 0
theorem w16_length (xs : List Int) (k : Nat) (h : k ≤ 64) : (w16 xs k).length = 64 := by simp [w16]; omega
theorem w16_succ (xs : List Int) (k : Nat) (h : k < 64) : (w16 xs k).set k (word4 (xs.drop (4 * k))) = w16 xs (k + 1) := by
  unfold w16
  rw [List.range_succ, List.map_append, List.set_append, if_neg (by simp), List.append_assoc]
  congr 1
  rw [List.length_map, List.length_range, Nat.sub_self]
  obtain ⟨m, hm⟩ : ∃ m, 64 - k = m + 1 := ⟨63 - k, by omega⟩
  rw [hm, show 64 - (k + 1) = m from by omega, List.replicate_succ]
  rfl
/-- the next word of the schedule -/
def newWord (l : List Int) (t : Nat) : Int :=
  (rd l ((t : Int) - 16) + bits BinOp.xor IntKind.u32 (bits BinOp.xor IntKind.u32 (rotr 7 (rd l ((t : Int) - 15))) (rotr 18 (rd l ((t : Int) - 15)))) (rd l ((t : Int) - 15) / 8) + rd l ((t : Int) - 7)
    + bits BinOp.xor IntKind.u32 (bits BinOp.xor IntKind.u32 (rotr 17 (rd l ((t : Int) - 2))) (rotr 19 (rd l ((t : Int) - 2)))) (rd l ((t : Int) - 2) / 1024)) % 4294967296
/-- the schedule up to word 16 + k -/
def schedUpto (l : List Int) : Nat → List Int
  | 0 => l
  | k + 1 => (schedUpto l k).set (16 + k) (newWord (schedUpto l k) (16 + k))
theorem schedUpto_length (l : List Int) (k : Nat) : (schedUpto l k).length = l.length := by
  induction k with
  | zero => rfl
  | succ k ih => rw [schedUpto, List.length_set, ih]
def roundP (a b c d e f g h k w : Int) : Int := ((h + rot3 6 11 25 e + bits BinOp.xor IntKind.u32 g (bits BinOp.and IntKind.u32 e (bits BinOp.xor IntKind.u32 f g)) + k) % 4294967296 + w) % 4294967296
def roundQ (a b c : Int) : Int := (rot3 2 13 22 a + bits BinOp.or IntKind.u32 (bits BinOp.and IntKind.u32 a b) (bits BinOp.and IntKind.u32 c (bits BinOp.or IntKind.u32 a b))) % 4294967296
/-- one round of the state -/
def shaRound (k w : Int) : List Int → List Int
  | [a, b, c, d, e, f, g, h] => [(roundP a b c d e f g h k w + roundQ a b c) % 4294967296, a, b, c, (d + roundP a b c d e f g h k w) % 4294967296, e, f, g]
  | l => l
def roundsUpto (ws st : List Int) : Nat → List Int
  | 0 => st
  | t + 1 => shaRound (rd kTab (t : Int)) (rd ws (t : Int)) (roundsUpto ws st t)
theorem shaRound_length (k w : Int) (l : List Int) : (shaRound k w l).length = l.length := by
  unfold shaRound; split <;> rfl
theorem roundsUpto_length (ws st : List Int) (t : Nat) : (roundsUpto ws st t).length = st.length := by
  induction t with
  | zero => rfl
  | succ t ih => rw [roundsUpto, shaRound_length, ih]
/-- the schedule of a block -/
def schedule (xs : List Int) : List Int := schedUpto (w16 xs 16) 48
theorem eight (l : List Int) (h : l.length = 8) : ∃ a b c d e f g i : Int, l = [a, b, c, d, e, f, g, i] := by
  match l, h with
  | [a, b, c, d, e, f, g, i], _ => exact ⟨a, b, c, d, e, f, g, i, rfl⟩
theorem schedule_length (xs : List Int) : (schedule xs).length = 64 := by rw [schedule, schedUpto_length, w16_length _ _ (by omega)]
/-- the state, k of its numbers added to -/
def addUpto (st vs : List Int) : Nat → List Int
  | 0 => st
  | k + 1 => (addUpto st vs k).set k ((rd (addUpto st vs k) (k : Int) + rd vs (k : Int)) % 4294967296)
theorem addUpto_length (st vs : List Int) (k : Nat) : (addUpto st vs k).length = st.length := by
  induction k with
  | zero => rfl
  | succ k ih => rw [addUpto, List.length_set, ih]
/-- the state after a block -/
def compress (st xs : List Int) : List Int := addUpto st (roundsUpto (schedule xs) st 64) 8
theorem compress_length (st xs : List Int) : (compress st xs).length = st.length := addUpto_length _ _ _
theorem grown_set {w w1 : World} {g : Nat} (h : w.grownBy w1 (some g)) (i : Nat) (u : Value) : w.grownBy (w1.setCell ⟨g, i, none⟩ u) (some g) :=
  ⟨h.os, h.tape, h.output, by have := h.size; simp; exact this, fun k hk hne => (Below.heap_setCell w1 ⟨g, i, none⟩ u k (fun e => hne (by rw [e]))).trans (h.block k hk hne)⟩
theorem grown_drew {w w1 : World} {row : Option Nat} (h : w.grownBy w1 row) : w.grownBy w1.drew row := ⟨h.os, h.tape, h.output, h.size, h.block⟩
theorem grown_drewN {w w1 : World} {row : Option Nat} (h : w.grownBy w1 row) (n : Nat) : w.grownBy (w1.drewN n) row := ⟨h.os, h.tape, h.output, h.size, h.block⟩
theorem calls_same {P : Program} {f : FuncId} {args : Array Value} {w : World} {v : Value} (h : Calls P f args w fun e w' => e = .returned v ∧ w = w') : Calls P f args w fun e w' => e = .returned v ∧ w' = w := h.mono fun _ _ ⟨a, b⟩ => ⟨a, b.symm⟩
theorem info5 : (Tryd.prog.info? 5).map (fun i => (i.zero, i.size, i.bytes)) = some (some (.int .u8 0), 1, 1) := by kernel_rfl
set_option maxHeartbeats 2000000 in
set_option maxRecDepth 100000 in
theorem absorb_calls (bs : Nat) (st : List Int) (A : Option Addr) (c : Nat) (xs : List Int) (w : World) (hl : st.length = 8) (hs : w.heap[bs]? = some (.cells (cells32 st) 67 (0, 0)))
    (h : Kd.C (Kd.int .u8) w A xs.length xs) (hn : 64 ≤ xs.length) (hc : xs.length ≤ c) (hT : Tabs w) :
    Calls Tryd.prog 38 #[.pointer (some ⟨bs, 0, none⟩), .slice A xs.length c] w fun e w' => e = .returned (.tuple #[]) ∧ w.grownBy w' (some bs) ∧ w'.heap[bs]? = some (.cells (cells32 (compress st xs)) 67 (0, 0)) := by
  obtain ⟨s0, s1, s2, s3, s4, s5, s6, s7, rfl⟩ := eight st hl
  have HT := Aside0.mk hT
  clear hT
  have H := Aside0.mk h
  have HS := Aside0.mk hs
  have hbs := blk_lt hs
  clear h hl hs
  obtain ⟨i0, hi0, _, hsz0, _⟩ := info_parts info5
  have HI0 := Aside0.mk hi0
  have HSZ := Aside0.mk hsz0
  clear hi0 hsz0
  go_enter Tryd.func38, Tryd.ntmps38
  go_wp2
  have hB0 : Below w.heap.size w (w.alloc (.cells (cells32 (w16 xs 0)) 76)) := below_alloc (Below.refl _ _) _
  have hN0 := heap_alloc_new w (.cells (cells32 (w16 xs 0)) 76)
  have HB0 := Aside0.mk hB0
  have HN0 := Aside0.mk hN0
  clear hB0 hN0
  go_loopw [14] (fun i wr => ∃ k : Nat, k ≤ 16 ∧ i = .int .i64 (k : Int) ∧ Aside0 (wr.heap[w.heap.size]? = some (.cells (cells32 (w16 xs k)) 76 (0, 0))) ∧ Aside0 (Below w.heap.size w wr)) (fun i _ => 16 - (intOf i).toNat)
  case atStart => exact ⟨0, by omega, rfl, ⟨HN0.out⟩, ⟨HB0.out⟩⟩
  case round =>
    obtain ⟨k, hk, rfl, HW, HB⟩ := hrel
    by_cases hlt : k < 16
    ·
      have hcut := cut_from (P := Tryd.prog) 24 5 .i64 Tryd.underlying24 HI0.out 1 HSZ.out A xs.length c (4 * (k : Int)) (by omega) (by omega)
      have e4 : (4 * (k : Int)).toNat = 4 * k := by omega
      rw [e4, if_neg (by omega), Nat.mul_one] at hcut
      have hcr := Kd.C_drop (m := 4 * k) (Kd.C_below H.out HB.out) (by omega) hc
      rw [if_neg (by omega), List.length_drop, show (Kd.int IntKind.u8).sz = 1 from rfl, Nat.mul_one] at hcr
      have HCR := Aside0.mk hcr
      clear hcr e4
      have hx := blk32 HW.out k (by rw [w16_length _ _ (by omega)]; omega)
      have hf := blk_frozen HW.out k
      have HWn : Aside0 ((wr.setCell ⟨w.heap.size, k, none⟩ (.int .u32 (word4 (xs.drop (4 * k))))).heap[w.heap.size]? = some (.cells (cells32 (w16 xs (k + 1))) 76 (0, 0))) := ⟨by rw [← w16_succ xs k (by omega)]; exact blk32_set HW.out k _⟩
      have HBn : Aside0 (Below w.heap.size w (wr.setCell ⟨w.heap.size, k, none⟩ (.int .u32 (word4 (xs.drop (4 * k)))))) := ⟨HB.out.setCell (p := ⟨w.heap.size, k, none⟩) (Nat.le_refl _) _⟩
      go_wp2_with (go_at_call 43; with_reducible refine (word_calls _ _ _ _ _ HCR.out (by omega) (by omega)).mono ?_; rintro e w' ⟨rfl, rfl⟩)
      go_roundw
      case rel => exact ⟨k + 1, by omega, by go_num, HWn, HBn⟩
      case measure => simp [intOf]; omega
    · obtain rfl : k = 16 := by omega
      rw [show ((16 : Nat) : Int) = 16 from rfl]
      clear hlt hk
      obtain ⟨wa, hwa⟩ : ∃ x, x = wr := ⟨_, rfl⟩
      subst hwa
      go_wp2_with fail
      go_loopw [6] (fun i wr => ∃ t : Nat, 16 ≤ t ∧ t ≤ 64 ∧ i = .int .i64 (t : Int) ∧ Aside0 (wr.heap[w.heap.size]? = some (.cells (cells32 (schedUpto (w16 xs 16) (t - 16))) 76 (0, 0))) ∧ Aside0 (Below w.heap.size w wr)) (fun i _ => 64 - (intOf i).toNat)
      case atStart => exact ⟨16, by omega, by omega, rfl, ⟨HW.out⟩, ⟨HB.out⟩⟩
      case round =>
        clear HW HB
        obtain ⟨t, ht16, ht64, rfl, HW, HB⟩ := hrel
        by_cases hlt : t < 64
        ·
          obtain ⟨L, HL8⟩ : ∃ L, Aside0 (L = schedUpto (w16 xs 16) (t - 16)) := ⟨_, ⟨rfl⟩⟩
          rw [← HL8.out] at HW
          have hlen : L.length = 64 := by rw [HL8.out, schedUpto_length, w16_length _ _ (by omega)]
          have HLEN := Aside0.mk hlen
          have cell : ∀ j : Nat, j ≤ 16 → 1 ≤ j → wr.cell? ⟨w.heap.size, t - j, none⟩ = some (.int .u32 (rd L ((t : Int) - (j : Int)))) := by
            intro j h1 h2
            have e := blk32 HW.out (t - j) (by omega)
            rw [show ((t - j : Nat) : Int) = (t : Int) - (j : Int) from by omega] at e
            exact e
          have hx15 : wr.cell? ⟨w.heap.size, t - 15, none⟩ = some (.int .u32 (rd L ((t : Int) - 15))) := cell 15 (by omega) (by omega)
          have hx2 : wr.cell? ⟨w.heap.size, t - 2, none⟩ = some (.int .u32 (rd L ((t : Int) - 2))) := cell 2 (by omega) (by omega)
          have hx16 : wr.cell? ⟨w.heap.size, t - 16, none⟩ = some (.int .u32 (rd L ((t : Int) - 16))) := cell 16 (by omega) (by omega)
          have hx7 : wr.cell? ⟨w.heap.size, t - 7, none⟩ = some (.int .u32 (rd L ((t : Int) - 7))) := cell 7 (by omega) (by omega)
          have hxt := blk32 HW.out t (by omega)
          have c26 : decide ((t : Int) < 64) = true := decide_eq_true (by omega)
          have hft := blk_frozen HW.out t
          have HN : Aside0 (newWord L t = newWord (schedUpto (w16 xs 16) (t - 16)) (16 + (t - 16))) := ⟨by rw [HL8.out]; congr 1; omega⟩
          clear cell hlen
          go_wp2_with fail
          go_quiet (fail)
          go_wp2_with fail
          obtain ⟨wb, hwb⟩ : ∃ x, x = wr.drewN nq := ⟨_, rfl⟩
          rw [← hwb]
          have HWb : Aside0 (wb.heap[w.heap.size]? = some (.cells (cells32 L) 76 (0, 0))) := ⟨by rw [hwb]; exact blk_drewN HW.out nq⟩
          have HBb : Aside0 (Below w.heap.size w wb) := ⟨by rw [hwb]; exact pw_below_drewN HB.out nq⟩
          have hy16 : wb.cell? ⟨w.heap.size, t - 16, none⟩ = some (.int .u32 (rd L ((t : Int) - 16))) := by rw [hwb]; exact hx16
          have hy7 : wb.cell? ⟨w.heap.size, t - 7, none⟩ = some (.int .u32 (rd L ((t : Int) - 7))) := by rw [hwb]; exact hx7
          clear hwb HW HB hx15 hx2 hx16 hx7 hxt hft
          have hyt := blk32 HWb.out t (by have := HLEN.out; omega)
          have hft := blk_frozen HWb.out t
          have hw16 : IntKind.i64.wrap ((t : Int) - 16) = (t : Int) - 16 := IntWalk.i64_in _ (by omega)
          have hw7 : IntKind.i64.wrap ((t : Int) - 7) = (t : Int) - 7 := IntWalk.i64_in _ (by omega)
          have hn16 : ((t : Int) - 16).toNat = t - 16 := by omega
          have hn7 : ((t : Int) - 7).toNat = t - 7 := by omega
          have p16 : (16 ≤ (t : Int)) = True := eq_true (by omega)
          have p7 : (7 ≤ (t : Int)) = True := eq_true (by omega)
          have q16 : ((t : Int) - 16 < 64) = True := eq_true (by omega)
          have p0 : (0 ≤ (t : Int)) = True := eq_true (by omega)
          have q0 : ((t : Int) < 64) = True := eq_true (by omega)
          have q7 : ((t : Int) - 7 < 64) = True := eq_true (by omega)
          refine wp_region_still_tail 29 (by kernel_rfl) (by kernel_rfl) ?_
          simp only [List.take_succ_cons, List.take_zero, List.drop_succ_cons, List.drop_zero]
          rw [show ({ heap := wb.heap, tape := wb.tape, drawn := wb.drawn + 1, os := wb.os, output := wb.output } : World) = wb.drew from rfl]
          iterate 6 still_step
          still_call (calls_same (rot_7 _ _))
          still_step
          still_call (calls_same (rot_18 _ _))
          iterate 11 still_step
          still_call (calls_same (rot_17 _ _))
          still_step
          still_call (calls_same (rot_19 _ _))
          iterate 6 still_step
          refine wpStill_nil ?_
          clear hw16 hw7 hn16 hn7 p16 p7 q16 q7
          have HWn : Aside0 ((wb.setCell ⟨w.heap.size, t, none⟩ (.int .u32 (newWord L t))).heap[w.heap.size]? = some (.cells (cells32 (schedUpto (w16 xs 16) (t + 1 - 16))) 76 (0, 0))) := ⟨by
            have e : schedUpto (w16 xs 16) (t + 1 - 16) = L.set t (newWord L t) := by
              rw [show t + 1 - 16 = (t - 16) + 1 from by omega, schedUpto, ← HN.out, ← HL8.out]
              congr 1; omega
            rw [e]; exact blk32_set HWb.out t _⟩
          have HBn : Aside0 (Below w.heap.size w (wb.setCell ⟨w.heap.size, t, none⟩ (.int .u32 (newWord L t)))) := ⟨HBb.out.setCell (p := ⟨w.heap.size, t, none⟩) (Nat.le_refl _) _⟩
          go_wp2
          go_roundw
          case rel => exact ⟨t + 1, by omega, by omega, by go_num, ⟨HWn.out⟩, ⟨below_drew HBn.out⟩⟩
          case measure => simp [intOf]; omega
        · obtain rfl : t = 64 := by omega
          rw [show ((64 : Nat) : Int) = 64 from rfl]
          have HW64 : Aside0 (wr.heap[w.heap.size]? = some (.cells (cells32 (schedule xs)) 76 (0, 0))) := ⟨HW.out⟩
          clear HW hlt ht64 ht16
          have HSr := Aside0.mk (blk_below HS.out HB.out)
          have hs0 := blk32 HSr.out 0 (by simp)
          have hs1 := blk32 HSr.out 1 (by simp)
          have hs2 := blk32 HSr.out 2 (by simp)
          have hs3 := blk32 HSr.out 3 (by simp)
          have hs4 := blk32 HSr.out 4 (by simp)
          have hs5 := blk32 HSr.out 5 (by simp)
          have hs6 := blk32 HSr.out 6 (by simp)
          have hs7 := blk32 HSr.out 7 (by simp)
          simp only [rd, List.getD_cons_zero, List.getD_cons_succ, Int.toNat_natCast] at hs0 hs1 hs2 hs3 hs4 hs5 hs6 hs7
          go_wp2_with fail
          obtain ⟨wc, hwc⟩ : ∃ x, x = wr := ⟨_, rfl⟩
          subst hwc
          have HV0 : Aside0 ((wc.alloc (.cells (cells32 [s0, s1, s2, s3, s4, s5, s6, s7]) 67)).heap[wc.heap.size]? = some (.cells (cells32 [s0, s1, s2, s3, s4, s5, s6, s7]) 67 (0, 0))) := ⟨heap_alloc_new _ _⟩
          have HWv : Aside0 ((wc.alloc (.cells (cells32 [s0, s1, s2, s3, s4, s5, s6, s7]) 67)).heap[w.heap.size]? = some (.cells (cells32 (schedule xs)) 76 (0, 0))) := ⟨blk_alloc HW64.out _⟩
          have HBv : Aside0 (Below w.heap.size w (wc.alloc (.cells (cells32 [s0, s1, s2, s3, s4, s5, s6, s7]) 67))) := ⟨below_alloc HB.out _⟩
          have hsz : w.heap.size < wc.heap.size := blk_lt HW64.out
          clear hs0 hs1 hs2 hs3 hs4 hs5 hs6 hs7 HW64
          go_loopw [69] (fun i w' => ∃ t : Nat, t ≤ 64 ∧ i = .int .i64 (t : Int) ∧ Aside0 (w'.heap[wc.heap.size]? = some (.cells (cells32 (roundsUpto (schedule xs) [s0, s1, s2, s3, s4, s5, s6, s7] t)) 67 (0, 0))) ∧ Aside0 (w'.heap[w.heap.size]? = some (.cells (cells32 (schedule xs)) 76 (0, 0))) ∧ Aside0 (Below w.heap.size w w')) (fun i _ => 64 - (intOf i).toNat)
          case atStart => exact ⟨0, by omega, rfl, ⟨HV0.out⟩, ⟨HWv.out⟩, ⟨HBv.out⟩⟩
          case round =>
            obtain ⟨t, ht, rfl, HV, HW, HB2⟩ := hrel
            by_cases hlt : t < 64
            ·
              obtain ⟨v0, v1, v2, v3, v4, v5, v6, v7, hv⟩ := eight (roundsUpto (schedule xs) [s0, s1, s2, s3, s4, s5, s6, s7] t) (by rw [roundsUpto_length]; rfl)
              rw [hv] at HV
              have HVV := Aside0.mk hv
              clear hv
              have hk := (HT.out.below HB2.out).k t hlt
              have hwt := blk32 HW.out t (by rw [schedule_length]; omega)
              have hv0 := blk32 HV.out 0 (by simp)
              have hv1 := blk32 HV.out 1 (by simp)
              have hv2 := blk32 HV.out 2 (by simp)
              have hv3 := blk32 HV.out 3 (by simp)
              have hv4 := blk32 HV.out 4 (by simp)
              have hv5 := blk32 HV.out 5 (by simp)
              have hv6 := blk32 HV.out 6 (by simp)
              have hv7 := blk32 HV.out 7 (by simp)
              simp only [rd, List.getD_cons_zero, List.getD_cons_succ, Int.toNat_natCast] at hv0 hv1 hv2 hv3 hv4 hv5 hv6 hv7
              have c70 : decide ((t : Int) < 64) = true := decide_eq_true (by omega)
              have p0 : (0 ≤ (t : Int)) = True := eq_true (by omega)
              have q0 : ((t : Int) < 64) = True := eq_true (by omega)
              go_wp2_with fail
              go_quiet ((exact Calls.quiet_of_same (calls_same (rotated_e _ _))))
              go_wp2_with fail
              obtain ⟨wd, hwd⟩ : ∃ x, x = wr.drewN nq := ⟨_, rfl⟩
              rw [← hwd]
              have T : ∀ a, wd.cell? a = wr.cell? a := fun a => by rw [hwd]; rfl
              have HV1 : Aside0 (wd.heap[wc.heap.size]? = some (.cells (cells32 [v0, v1, v2, v3, v4, v5, v6, v7]) 67 (0, 0))) := ⟨by rw [hwd]; exact HV.out⟩
              have HW1 : Aside0 (wd.heap[w.heap.size]? = some (.cells (cells32 (schedule xs)) 76 (0, 0))) := ⟨by rw [hwd]; exact HW.out⟩
              have HB3 : Aside0 (Below w.heap.size w wd) := ⟨by rw [hwd]; exact pw_below_drewN HB2.out nq⟩
              rw [← T] at hk hwt hv0 hv1 hv2 hv3 hv4 hv5 hv6 hv7
              clear T hwd HV HW HB2
              go_quiet ((exact Calls.quiet_of_same (calls_same (rotated_a _ _))))
              go_wp2_with fail
              obtain ⟨we, hwe⟩ : ∃ x, x = wd.drewN nq := ⟨_, rfl⟩
              rw [← hwe]
              have HV2 : Aside0 (we.heap[wc.heap.size]? = some (.cells (cells32 [v0, v1, v2, v3, v4, v5, v6, v7]) 67 (0, 0))) := ⟨by rw [hwe]; exact HV1.out⟩
              have HW2 : Aside0 (we.heap[w.heap.size]? = some (.cells (cells32 (schedule xs)) 76 (0, 0))) := ⟨by rw [hwe]; exact HW1.out⟩
              have HB4 : Aside0 (Below w.heap.size w we) := ⟨by rw [hwe]; exact pw_below_drewN HB3.out nq⟩
              clear hwe HV1 HW1 HB3 hk hwt hv0 hv1 hv2 hv3 hv4 hv5 hv6 hv7
              generalize hp : ((v7 + rot3 6 11 25 v4 + bits BinOp.xor IntKind.u32 v6 (bits BinOp.and IntKind.u32 v4 (bits BinOp.xor IntKind.u32 v5 v6)) + rd kTab (t : Int)) % 4294967296 + rd (schedule xs) (t : Int)) % 4294967296 = p
              generalize hq : (rot3 2 13 22 v0 + bits BinOp.or IntKind.u32 (bits BinOp.and IntKind.u32 v0 v1) (bits BinOp.and IntKind.u32 v2 (bits BinOp.or IntKind.u32 v0 v1))) % 4294967296 = q
              have HP : Aside0 (roundP v0 v1 v2 v3 v4 v5 v6 v7 (rd kTab (t : Int)) (rd (schedule xs) (t : Int)) = p) := ⟨hp⟩
              have HQ : Aside0 (roundQ v0 v1 v2 = q) := ⟨hq⟩
              clear hp hq
              refine wp_region_still_tail 2 (by kernel_rfl) (by kernel_rfl) ?_
              simp only [List.take_succ_cons, List.take_zero, List.drop_succ_cons, List.drop_zero]
              rw [show ({ heap := we.heap, tape := we.tape, drawn := we.drawn + 1, os := we.os, output := we.output } : World) = we.drew from rfl]
              still_step
              still_step
              refine wpStill_nil ?_
              refine wpList_copy_splice rfl (.tmp 116) (.tmp 117) 80 80 rfl 65 Tryd.underlying80 (by kernel_rfl) (some ⟨wc.heap.size, 1, none⟩) (some ⟨wc.heap.size, 0, none⟩) 7 7 7 8 rfl rfl wc.heap.size 1 (nums .u32 [v0, v1, v2, v3, v4, v5, v6, v7]) 67 HV2.out (nums .u32 [v0, v1, v2, v3, v4, v5, v6]) rfl ?cpos ?cfit ?cone wc.heap.size we.drew (Below.refl _ _) (Nat.le_refl _) ?_
              case cpos =>
                intro _
                refine ⟨rfl, _, rfl, fun j v hj => ?_⟩
                rw [add_plain]
                have hb := blk_cell HV2.out j
                refine hb.trans ?_
                simp only [cells32, nums, List.map_cons, List.map_nil] at hj ⊢
                rw [List.getElem?_toArray]
                match j, hj with
                | 0, hj => exact hj
                | 1, hj => exact hj
                | 2, hj => exact hj
                | 3, hj => exact hj
                | 4, hj => exact hj
                | 5, hj => exact hj
                | 6, hj => exact hj
                | j + 7, hj => simp at hj
              case cfit => simp [nums]
              case cone => intro v hv; simp [nums] at hv; rcases hv with rfl | rfl | rfl | rfl | rfl | rfl | rfl <;> rfl
              intro wf hwf hbf
              have HV3 : Aside0 (wf.heap[wc.heap.size]? = some (.cells (cells32 [v0, v0, v1, v2, v3, v4, v5, v6]) 67 (0, 0))) := ⟨hwf⟩
              have HW3 : Aside0 (wf.heap[w.heap.size]? = some (.cells (cells32 (schedule xs)) 76 (0, 0))) := ⟨(hbf.block _ hsz).trans HW2.out⟩
              have HB5 : Aside0 (Below w.heap.size w wf) := ⟨(below_drew HB4.out).trans (hbf.mono (by omega))⟩
              clear hwf hbf HV2 HW2 HB4
              have hv4 := blk32 HV3.out 4 (by simp)
              have hv0 := blk32 HV3.out 0 (by simp)
              simp only [rd, List.getD_cons_zero, List.getD_cons_succ, Int.toNat_natCast] at hv0 hv4
              have hf4 := blk_frozen HV3.out 4
              have hf0 := blk_frozen HV3.out 0
              have HV4 : Aside0 (((wf.setCell ⟨wc.heap.size, 4, none⟩ (.int .u32 ((v3 + p) % 4294967296))).setCell ⟨wc.heap.size, 0, none⟩ (.int .u32 ((p + q) % 4294967296))).heap[wc.heap.size]? = some (.cells (cells32 (roundsUpto (schedule xs) [s0, s1, s2, s3, s4, s5, s6, s7] (t + 1))) 67 (0, 0))) := ⟨by
                have h := blk32_set (blk32_set HV3.out 4 ((v3 + p) % 4294967296)) 0 ((p + q) % 4294967296)
                rw [roundsUpto, HVV.out, shaRound, HP.out, HQ.out]
                exact h⟩
              have HW4 : Aside0 (((wf.setCell ⟨wc.heap.size, 4, none⟩ (.int .u32 ((v3 + p) % 4294967296))).setCell ⟨wc.heap.size, 0, none⟩ (.int .u32 ((p + q) % 4294967296))).heap[w.heap.size]? = some (.cells (cells32 (schedule xs)) 76 (0, 0))) := ⟨blk_far (blk_far HW3.out (p := ⟨wc.heap.size, 4, none⟩) (Nat.ne_of_lt hsz) _) (p := ⟨wc.heap.size, 0, none⟩) (Nat.ne_of_lt hsz) _⟩
              have HB6 : Aside0 (Below w.heap.size w ((wf.setCell ⟨wc.heap.size, 4, none⟩ (.int .u32 ((v3 + p) % 4294967296))).setCell ⟨wc.heap.size, 0, none⟩ (.int .u32 ((p + q) % 4294967296)))) := ⟨(HB5.out.setCell (p := ⟨wc.heap.size, 4, none⟩) (Nat.le_of_lt hsz) _).setCell (p := ⟨wc.heap.size, 0, none⟩) (Nat.le_of_lt hsz) _⟩
              go_wp2
              go_roundw
              case rel => exact ⟨t + 1, by omega, by go_num, HV4, HW4, HB6⟩
              case measure => simp [intOf]; omega
            · obtain rfl : t = 64 := by omega
              rw [show ((64 : Nat) : Int) = 64 from rfl]
              have HS1 : Aside0 (wr.heap[bs]? = some (.cells (cells32 (addUpto [s0, s1, s2, s3, s4, s5, s6, s7] (roundsUpto (schedule xs) [s0, s1, s2, s3, s4, s5, s6, s7] 64) 0)) 67 (0, 0))) := ⟨blk_below HS.out HB2.out⟩
              have HG1 : Aside0 (w.grownBy wr (some bs)) := ⟨grown_of_below HB2.out _⟩
              have hbs2 : wc.heap.size ≠ bs := by omega
              clear hlt ht HB2 HW
              obtain ⟨wg, hwg⟩ : ∃ x, x = wr := ⟨_, rfl⟩
              subst hwg
              go_wp2_with fail
              go_loopw [129] (fun i w' => ∃ k : Nat, k ≤ 8 ∧ i = .int .i64 (k : Int) ∧ Aside0 (w'.heap[bs]? = some (.cells (cells32 (addUpto [s0, s1, s2, s3, s4, s5, s6, s7] (roundsUpto (schedule xs) [s0, s1, s2, s3, s4, s5, s6, s7] 64) k)) 67 (0, 0))) ∧ Aside0 (w'.heap[wc.heap.size]? = some (.cells (cells32 (roundsUpto (schedule xs) [s0, s1, s2, s3, s4, s5, s6, s7] 64)) 67 (0, 0))) ∧ Aside0 (w.grownBy w' (some bs))) (fun i _ => 8 - (intOf i).toNat)
              case atStart => exact ⟨0, by omega, rfl, ⟨HS1.out⟩, ⟨HV.out⟩, ⟨HG1.out⟩⟩
              case round =>
                clear HS1 HV HG1
                obtain ⟨k, hk, rfl, HS1, HV, HG⟩ := hrel
                by_cases hlt : k < 8
                · have hx := blk32 HS1.out k (by rw [addUpto_length]; exact hlt)
                  have hy := blk32 HV.out k (by rw [roundsUpto_length]; exact hlt)
                  have hf := blk_frozen HS1.out k
                  have c130 : decide ((k : Int) < 8) = true := decide_eq_true (by omega)
                  have p0 : (0 ≤ (k : Int)) = True := eq_true (by omega)
                  have q0 : ((k : Int) < 8) = True := eq_true (by omega)
                  have HSn : Aside0 ((wr.setCell ⟨bs, k, none⟩ (.int .u32 ((rd (addUpto [s0, s1, s2, s3, s4, s5, s6, s7] (roundsUpto (schedule xs) [s0, s1, s2, s3, s4, s5, s6, s7] 64) k) (k : Int) + rd (roundsUpto (schedule xs) [s0, s1, s2, s3, s4, s5, s6, s7] 64) (k : Int)) % 4294967296))).heap[bs]? = some (.cells (cells32 (addUpto [s0, s1, s2, s3, s4, s5, s6, s7] (roundsUpto (schedule xs) [s0, s1, s2, s3, s4, s5, s6, s7] 64) (k + 1))) 67 (0, 0))) := ⟨by rw [addUpto]; exact blk32_set HS1.out k _⟩
                  have HVn : Aside0 ((wr.setCell ⟨bs, k, none⟩ (.int .u32 ((rd (addUpto [s0, s1, s2, s3, s4, s5, s6, s7] (roundsUpto (schedule xs) [s0, s1, s2, s3, s4, s5, s6, s7] 64) k) (k : Int) + rd (roundsUpto (schedule xs) [s0, s1, s2, s3, s4, s5, s6, s7] 64) (k : Int)) % 4294967296))).heap[wc.heap.size]? = some (.cells (cells32 (roundsUpto (schedule xs) [s0, s1, s2, s3, s4, s5, s6, s7] 64)) 67 (0, 0))) := ⟨blk_far HV.out (p := ⟨bs, k, none⟩) hbs2 _⟩
                  have HGn : Aside0 (w.grownBy (wr.setCell ⟨bs, k, none⟩ (.int .u32 ((rd (addUpto [s0, s1, s2, s3, s4, s5, s6, s7] (roundsUpto (schedule xs) [s0, s1, s2, s3, s4, s5, s6, s7] 64) k) (k : Int) + rd (roundsUpto (schedule xs) [s0, s1, s2, s3, s4, s5, s6, s7] 64) (k : Int)) % 4294967296))) (some bs)) := ⟨grown_set HG.out k _⟩
                  generalize rd (addUpto [s0, s1, s2, s3, s4, s5, s6, s7] (roundsUpto (schedule xs) [s0, s1, s2, s3, s4, s5, s6, s7] 64) k) (k : Int) = x at *
                  generalize rd (roundsUpto (schedule xs) [s0, s1, s2, s3, s4, s5, s6, s7] 64) (k : Int) = y at *
                  clear HS1 HV HG
                  go_wp2_with fail
                  refine wp_region_still_tail 11 (by kernel_rfl) (by kernel_rfl) ?_
                  simp only [List.take_succ_cons, List.take_zero, List.drop_succ_cons, List.drop_zero]
                  rw [show ({ heap := wr.heap, tape := wr.tape, drawn := wr.drawn + 1, os := wr.os, output := wr.output } : World) = wr.drew from rfl]
                  iterate 11 still_step
                  refine wpStill_nil ?_
                  go_wp2
                  go_roundw
                  case rel => exact ⟨k + 1, by omega, by go_num, ⟨HSn.out⟩, ⟨HVn.out⟩, ⟨grown_drew HGn.out⟩⟩
                  case measure => simp [intOf]; omega
                · obtain rfl : k = 8 := by omega
                  go_wp2
                  go_end0
                  exact ⟨rfl, HG.out, HS1.out⟩
end Go.Proofs.YtgiofinekmaceaaDoor.Q
