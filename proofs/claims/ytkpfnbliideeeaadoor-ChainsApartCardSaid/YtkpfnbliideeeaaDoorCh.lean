/- chains: the law's examples -/
import Derived.Test.YtkpfnbliideeeaaDoorCs
namespace Go.Proofs.YtkpfnbliideeeaaDoor.Q
open Go.RowKit Go.Shelf Go.Proofs.YtkpfnbliideeeaaDoorW.PrintWords Go.Proofs.YtkpfnbliideeeaaDoorW.PrintLast Go.Proofs.YtkpfnbliideeeaaDoorW.PrintMore
set_option linter.unusedVariables false
set_option linter.unusedSimpArgs false
/-- the digest whose bytes are all 255, k of them set -/
def fullTo (k : Nat) : List Int := List.replicate k 255 ++ List.replicate (32 - k) 0
def fullD : List Int := fullTo 32
theorem fullTo_length (k : Nat) (h : k ≤ 32) : (fullTo k).length = 32 := by simp [fullTo]; omega
theorem fullTo_succ (k : Nat) (h : k < 32) : (fullTo k).set k 255 = fullTo (k + 1) := by
  unfold fullTo
  rw [List.set_append, if_neg (by simp), List.length_replicate, Nat.sub_self]
  obtain ⟨m, hm⟩ : ∃ m, 32 - k = m + 1 := ⟨31 - k, by omega⟩
  rw [hm, show 32 - (k + 1) = m from by omega, List.replicate_succ, List.set_cons_zero, List.replicate_succ', List.append_assoc]
  rfl
set_option maxHeartbeats 400000 in
theorem full_calls (w : World) :
    Calls Tryd.prog 21 #[] w fun e w' => e = .returned (.agg (cells8 fullD)) ∧ Below w.heap.size w w' := by
  go_enter Tryd.func21, Tryd.ntmps21
  go_wp2_with fail
  go_loopw [2] (fun i wr => ∃ k : Nat, k ≤ 32 ∧ i = .int .i64 (k : Int) ∧ Aside0 (wr.heap[w.heap.size]? = some (.cells (cells8 (fullTo k)) 23 (0, 0))) ∧ Aside0 (Below w.heap.size w wr)) (fun i _ => 32 - (intOf i).toNat)
  case atStart => exact ⟨0, by omega, rfl, ⟨heap_alloc_new _ _⟩, ⟨below_alloc (Below.refl _ _) _⟩⟩
  case round =>
    obtain ⟨k, hk, rfl, HX, HB⟩ := hrel
    by_cases hlt : k < 32
    · have c3 : decide ((k : Int) < 32) = true := decide_eq_true (by omega)
      have hki : (k : Int) < 32 := by omega
      have hx := blk8 HX.out k (by rw [fullTo_length k hk]; exact hlt)
      have hf := blk_frozen HX.out k
      have HX2 : Aside0 ((wr.setCell ⟨w.heap.size, k, none⟩ (.int .u8 255)).heap[w.heap.size]? = some (.cells (cells8 (fullTo (k + 1))) 23 (0, 0))) := ⟨by rw [← fullTo_succ k hlt, ← cells8_set]; exact blk_set HX.out k _⟩
      have HB2 : Aside0 (Below w.heap.size w (wr.setCell ⟨w.heap.size, k, none⟩ (.int .u8 255))) := ⟨HB.out.setCell (p := ⟨w.heap.size, k, none⟩) (Nat.le_refl _) _⟩
      go_wp2_with fail
      go_roundw
      case rel => exact ⟨k + 1, by omega, by push_cast; rfl, HX2, HB2⟩
      case measure => show 32 - ((k : Int) + 1).toNat < 32 - ((k : Int)).toNat; omega
    · obtain rfl : k = 32 := by omega
      have HS := Aside0.mk (size32 (fullTo 32) (fullTo_length 32 (by omega)))
      go_wp2_with (first
        | (with_reducible refine wpList_load_row rfl 23 (.tmp 0) rfl w.heap.size rfl 23 (cells8 (fullTo 32)) (0, 0) _ HX.out Tryd.underlying23 rfl HS.out ?_)
        | (with_reducible refine wpList_store_row rfl 23 (.tmp 0) (.tmp 8) rfl w.heap.size (cells8 (fullTo 32)) rfl rfl 23 (cells8 (fullTo 32)) HX.out HS.out rfl (all_one8 _) ?_))
      exact bodyPost_ret (results_cell_row rfl _ _ w.heap.size 23 (cells8 (fullTo 32)) (0, 0) _ rfl (setRow_heap _ _ _ _ _ _ HX.out) Tryd.underlying23 rfl HS.out) rfl ⟨rfl, below_setRow HB.out (Nat.le_refl _) _⟩
def threes : List Int := [3, 3, 3, 3, 3, 3, 3, 3, 3, 3, 3, 3, 3, 3, 3, 3, 0, 0, 0]
def wants : List Int := [0, 0, 0, 0, 0, 0, 0, 0, 0, 0, 0, 0, 0, 0, 0, 0, 3, 0, 0]
theorem digits_full : digits fullD = threes := by decide +kernel
theorem digits_zero : digits zeros32 = wants := by decide +kernel
theorem stepsD_add (x : List Int) (a : Nat) : ∀ b, stepsD (stepsD x a) b = stepsD x (a + b)
  | 0 => rfl
  | b + 1 => by rw [stepsD, stepsD_add x a b, ← Nat.add_assoc, stepsD]
theorem signD_length (d m : List Int) : (signD d m).length = 19 := by simp [signD]
theorem recover_sign (d m : List Int) : recoverD m (signD d m) = publicD d := by
  have hh : endsD m (signD d m) 19 = (List.range 19).map (lastD d) := by
    rw [endsD]
    refine List.map_congr_left (fun k hk => ?_)
    have hk : k < 19 := by simpa using hk
    have hr := digits_range m k hk
    have e : (signD d m).getD k [] = sigD d m k := by simp [signD, List.getD, hk]
    have e2 : (rd (digits m) (k : Int)).toNat + (3 - rd (digits m) (k : Int)).toNat = 3 := by omega
    rw [endD, e, sigD, stepsD_add, e2, lastD]
  rw [recoverD, if_pos (signD_length d m), publicD, hh]
theorem verify_sign (d m p : List Int) : verifyD p m (signD d m) = (publicD d == p) := by
  rw [verifyD, recover_sign, recoverE, if_pos (signD_length d m)]
  simp
theorem earlier_a : earlierD fullD zeros32 19 = (0, true) := by rw [earlierD, if_pos rfl, digits_full, digits_zero]; rfl
theorem earlier_b : earlierD fullD fullD 19 = (0, false) := by rw [earlierD, if_pos rfl, digits_full]; rfl
theorem C_nilD {w : World} : Kd.C KdD w none 0 [] := by
  obtain ⟨A, c, e, _, h⟩ := Kd.R_reads (Kd.R_nil KdD 0 w 0 (fun _ => True))
  cases e
  exact h
theorem rec_nil : recoverD zeros32 [] = zeros32 := by rw [recoverD, if_neg (by simp)]
theorem rec_nilE : recoverE [] = 50 := by rw [recoverE, if_neg (by simp)]
theorem publicD_length (d : List Int) : (publicD d).length = 32 := by rw [publicD, keyD]; exact tagged_length _ _
theorem verify_nil (p m : List Int) : verifyD p m [] = false := by rw [verifyD, recoverE, if_neg (by simp)]; rfl
/-- the example's seed -/
def sevenD : List Int := 7 :: List.replicate 31 0
theorem sevenD_length : sevenD.length = 32 := by simp [sevenD]
theorem info3 : (Tryd.prog.info? 3).map (fun i => (i.zero, i.size, i.bytes)) = some (some (.int .i64 0), 1, 8) := by kernel_rfl
set_option maxHeartbeats 400000 in
theorem sane_calls (w : World) (hT : Tabs w) :
    Calls Tryd.prog 7 #[] w fun e w' => e = .returned (.bool true) ∧ Below w.heap.size w w' := by
  have HT := Aside0.mk hT
  clear hT
  have HA1 : Aside0 (((w.alloc (.cells #[.int .u8 0, .int .u8 0, .int .u8 0, .int .u8 0, .int .u8 0, .int .u8 0, .int .u8 0, .int .u8 0, .int .u8 0, .int .u8 0, .int .u8 0, .int .u8 0, .int .u8 0, .int .u8 0, .int .u8 0, .int .u8 0, .int .u8 0, .int .u8 0, .int .u8 0, .int .u8 0, .int .u8 0, .int .u8 0, .int .u8 0, .int .u8 0, .int .u8 0, .int .u8 0, .int .u8 0, .int .u8 0, .int .u8 0, .int .u8 0, .int .u8 0, .int .u8 0] 23)).alloc (.cells #[.int .u8 0, .int .u8 0, .int .u8 0, .int .u8 0, .int .u8 0, .int .u8 0, .int .u8 0, .int .u8 0, .int .u8 0, .int .u8 0, .int .u8 0, .int .u8 0, .int .u8 0, .int .u8 0, .int .u8 0, .int .u8 0, .int .u8 0, .int .u8 0, .int .u8 0, .int .u8 0, .int .u8 0, .int .u8 0, .int .u8 0, .int .u8 0, .int .u8 0, .int .u8 0, .int .u8 0, .int .u8 0, .int .u8 0, .int .u8 0, .int .u8 0, .int .u8 0] 23)).heap[w.heap.size]? = some (.cells #[.int .u8 0, .int .u8 0, .int .u8 0, .int .u8 0, .int .u8 0, .int .u8 0, .int .u8 0, .int .u8 0, .int .u8 0, .int .u8 0, .int .u8 0, .int .u8 0, .int .u8 0, .int .u8 0, .int .u8 0, .int .u8 0, .int .u8 0, .int .u8 0, .int .u8 0, .int .u8 0, .int .u8 0, .int .u8 0, .int .u8 0, .int .u8 0, .int .u8 0, .int .u8 0, .int .u8 0, .int .u8 0, .int .u8 0, .int .u8 0, .int .u8 0, .int .u8 0] 23 (0, 0))) := ⟨heap_alloc2_old _ _ _⟩
  have HA2 : Aside0 ((((w.alloc (.cells #[.int .u8 0, .int .u8 0, .int .u8 0, .int .u8 0, .int .u8 0, .int .u8 0, .int .u8 0, .int .u8 0, .int .u8 0, .int .u8 0, .int .u8 0, .int .u8 0, .int .u8 0, .int .u8 0, .int .u8 0, .int .u8 0, .int .u8 0, .int .u8 0, .int .u8 0, .int .u8 0, .int .u8 0, .int .u8 0, .int .u8 0, .int .u8 0, .int .u8 0, .int .u8 0, .int .u8 0, .int .u8 0, .int .u8 0, .int .u8 0, .int .u8 0, .int .u8 0] 23)).alloc (.cells #[.int .u8 0, .int .u8 0, .int .u8 0, .int .u8 0, .int .u8 0, .int .u8 0, .int .u8 0, .int .u8 0, .int .u8 0, .int .u8 0, .int .u8 0, .int .u8 0, .int .u8 0, .int .u8 0, .int .u8 0, .int .u8 0, .int .u8 0, .int .u8 0, .int .u8 0, .int .u8 0, .int .u8 0, .int .u8 0, .int .u8 0, .int .u8 0, .int .u8 0, .int .u8 0, .int .u8 0, .int .u8 0, .int .u8 0, .int .u8 0, .int .u8 0, .int .u8 0] 23)).setRow w.heap.size (cells8 zeros32)).heap[w.heap.size + 1]? = some (.cells #[.int .u8 0, .int .u8 0, .int .u8 0, .int .u8 0, .int .u8 0, .int .u8 0, .int .u8 0, .int .u8 0, .int .u8 0, .int .u8 0, .int .u8 0, .int .u8 0, .int .u8 0, .int .u8 0, .int .u8 0, .int .u8 0, .int .u8 0, .int .u8 0, .int .u8 0, .int .u8 0, .int .u8 0, .int .u8 0, .int .u8 0, .int .u8 0, .int .u8 0, .int .u8 0, .int .u8 0, .int .u8 0, .int .u8 0, .int .u8 0, .int .u8 0, .int .u8 0] 23 (0, 0))) := ⟨(setRow_other _ _ _ _ (by omega)).trans (heap_alloc2_new _ _ _)⟩
  have HS1 := Aside0.mk (size32 zeros32 zeros32_length)
  have HS2 := Aside0.mk (size32 sevenD sevenD_length)
  have hmk := print_make (P := Tryd.prog) 29 3 .i64 8 Tryd.underlying29 info3 (by omega) 16 (by omega)
  rw [show ((16 : Nat) : Int) = 16 from rfl] at hmk
  go_enter Tryd.func7, Tryd.ntmps7
  go_wp2_with (first
    | (with_reducible refine wpList_buildTo rfl 23 #[] rfl (some 12) rfl (cells8 zeros32) (by kernel_rfl) ?_)
    | (with_reducible refine wpList_buildTo rfl 23 #[(0, .const (.int .u8 7))] rfl (some 13) rfl (cells8 sevenD) (by kernel_rfl) ?_)
    | (with_reducible refine wpList_store_row rfl 23 (.tmp 1) (.tmp 12) rfl w.heap.size (cells8 zeros32) rfl rfl 23 #[.int .u8 0, .int .u8 0, .int .u8 0, .int .u8 0, .int .u8 0, .int .u8 0, .int .u8 0, .int .u8 0, .int .u8 0, .int .u8 0, .int .u8 0, .int .u8 0, .int .u8 0, .int .u8 0, .int .u8 0, .int .u8 0, .int .u8 0, .int .u8 0, .int .u8 0, .int .u8 0, .int .u8 0, .int .u8 0, .int .u8 0, .int .u8 0, .int .u8 0, .int .u8 0, .int .u8 0, .int .u8 0, .int .u8 0, .int .u8 0, .int .u8 0, .int .u8 0] HA1.out HS1.out rfl (all_one8 _) ?_)
    | (with_reducible refine wpList_store_row rfl 23 (.tmp 2) (.tmp 13) rfl (w.heap.size + 1) (cells8 sevenD) rfl rfl 23 #[.int .u8 0, .int .u8 0, .int .u8 0, .int .u8 0, .int .u8 0, .int .u8 0, .int .u8 0, .int .u8 0, .int .u8 0, .int .u8 0, .int .u8 0, .int .u8 0, .int .u8 0, .int .u8 0, .int .u8 0, .int .u8 0, .int .u8 0, .int .u8 0, .int .u8 0, .int .u8 0, .int .u8 0, .int .u8 0, .int .u8 0, .int .u8 0, .int .u8 0, .int .u8 0, .int .u8 0, .int .u8 0, .int .u8 0, .int .u8 0, .int .u8 0, .int .u8 0] HA2.out HS2.out rfl (all_one8 _) ?_
       obtain ⟨wB, hwB⟩ : ∃ x, x = (((w.alloc (.cells #[.int .u8 0, .int .u8 0, .int .u8 0, .int .u8 0, .int .u8 0, .int .u8 0, .int .u8 0, .int .u8 0, .int .u8 0, .int .u8 0, .int .u8 0, .int .u8 0, .int .u8 0, .int .u8 0, .int .u8 0, .int .u8 0, .int .u8 0, .int .u8 0, .int .u8 0, .int .u8 0, .int .u8 0, .int .u8 0, .int .u8 0, .int .u8 0, .int .u8 0, .int .u8 0, .int .u8 0, .int .u8 0, .int .u8 0, .int .u8 0, .int .u8 0, .int .u8 0] 23)).alloc (.cells #[.int .u8 0, .int .u8 0, .int .u8 0, .int .u8 0, .int .u8 0, .int .u8 0, .int .u8 0, .int .u8 0, .int .u8 0, .int .u8 0, .int .u8 0, .int .u8 0, .int .u8 0, .int .u8 0, .int .u8 0, .int .u8 0, .int .u8 0, .int .u8 0, .int .u8 0, .int .u8 0, .int .u8 0, .int .u8 0, .int .u8 0, .int .u8 0, .int .u8 0, .int .u8 0, .int .u8 0, .int .u8 0, .int .u8 0, .int .u8 0, .int .u8 0, .int .u8 0] 23)).setRow w.heap.size (cells8 zeros32)).setRow (w.heap.size + 1) (cells8 sevenD) := ⟨_, rfl⟩
       rw [← hwB]
       have H1 : Aside0 (wB.heap[w.heap.size]? = some (.cells (cells8 zeros32) 23 (0, 0))) := ⟨by rw [hwB]; exact (setRow_other _ _ _ _ (by omega)).trans (setRow_heap _ _ _ _ _ _ HA1.out)⟩
       have H2 : Aside0 (wB.heap[w.heap.size + 1]? = some (.cells (cells8 sevenD) 23 (0, 0))) := ⟨by rw [hwB]; exact setRow_heap _ _ _ _ _ _ HA2.out⟩
       have HB : Aside0 (Below w.heap.size w wB) := ⟨by rw [hwB]; exact below_setRow (below_setRow (below_alloc (below_alloc (Below.refl _ _) _) _) (Nat.le_refl _) _) (by omega) _⟩
       have HR14 := Aside0.mk (Kd.R_below (Kd.R_of_own (h1 := fun _ => rfl) (ok := fun _ => True) (own_made' wB wB.heap.size 3 .i64 16 (Nat.le_refl _) (by omega)) (fun _ _ => trivial)) (below_alloc (Below.refl _ _) (.cells #[.int .i64 3, .int .i64 0, .int .i64 0] 3)))
       have HC15 : Aside0 (Kd.C (Kd.int .i64) ((wB.alloc (.cells (madeCells #[.int .i64 0] 16) 3)).alloc (.cells #[.int .i64 3, .int .i64 0, .int .i64 0] 3)) (some ⟨wB.heap.size + 1, 0, none⟩) 3 [3, 0, 0]) := ⟨C_ints (t := 3) (heap_alloc2_new _ _ _) (by simp)⟩
       have HB15 : Aside0 (Below w.heap.size w ((wB.alloc (.cells (madeCells #[.int .i64 0] 16) 3)).alloc (.cells #[.int .i64 3, .int .i64 0, .int .i64 0] 3))) := ⟨below_alloc (below_alloc HB.out _) _⟩
       have HB15' : Aside0 (Below wB.heap.size wB ((wB.alloc (.cells (madeCells #[.int .i64 0] 16) 3)).alloc (.cells #[.int .i64 3, .int .i64 0, .int .i64 0] 3))) := ⟨below_alloc (below_alloc (Below.refl _ _) _) _⟩
       clear hwB HA1 HA2 HS1 HS2)
    | (at_builtin; (refine Kd.R_append_rows (Kd.int .i64) (w0 := wB) wB.heap.size rfl (.tmp 14) (.tmp 15) 29 3 (.int .i64 0) 8 rfl Tryd.underlying29 info3 rfl (by decide) (by omega) (.slice (some ⟨wB.heap.size, 0, none⟩) 16 16) (List.replicate 16 0) [3, 0, 0] (some ⟨wB.heap.size + 1, 0, none⟩) 3 3 (fun _ => True) (fun _ => False) rfl rfl HR14.out HC15.out (fun _ _ h => h) (fun _ h => h.elim) (fun _ _ => trivial) HB15'.out HB15'.out.size (by simp) ?_)
       intro v3 w3 h3 hb3 hg3 _
       have HR3 : Aside0 (Kd.R (Kd.int .i64) 3 w3 wB.heap.size (fun _ => True) v3 wants) := ⟨h3⟩
       have HB3 : Aside0 (Below w.heap.size w w3) := ⟨HB.out.trans (hb3.mono HB.out.size)⟩
       have H13 := Aside0.mk (blk_of_below H1.out hb3)
       have H23 := Aside0.mk (blk_of_below H2.out hb3)
       obtain ⟨A3, c3, n3, rfl, hC3, hc3⟩ := R_any HR3.out
       clear h3 hb3 hg3 HR14 HC15 HB15 HB15')
    | (with_reducible refine wpList_buildFlatAt rfl 29 3 19 _ rfl .i64 threes _ rfl (some 17) rfl Tryd.underlying29 (by kernel_rfl) (by kernel_rfl) rfl (by omega) (by omega) rfl ?_))
  obtain ⟨wC, hwC⟩ : ∃ x, x = w3.alloc (.cells (threes.map (.int .i64)).toArray 3) := ⟨_, rfl⟩
  have hs3 : w3.heap.size = wC.heap.size - 1 := by rw [hwC]; simp
  have HTH : Aside0 (Kd.C (Kd.int .i64) wC (some ⟨w3.heap.size, 0, none⟩) 19 threes) := ⟨by rw [hwC]; exact C_ints (t := 3) (heap_alloc_new _ _) (by simp [threes])⟩
  have HWA : Aside0 (Kd.C (Kd.int .i64) wC A3 n3 wants) := ⟨by rw [hwC]; exact Kd.C_below hC3 (below_alloc (Below.refl _ _) _)⟩
  have H1C : Aside0 (wC.heap[w.heap.size]? = some (.cells (cells8 zeros32) 23 (0, 0))) := ⟨by rw [hwC]; exact blk_alloc H13.out _⟩
  have H2C : Aside0 (wC.heap[w.heap.size + 1]? = some (.cells (cells8 sevenD) 23 (0, 0))) := ⟨by rw [hwC]; exact blk_alloc H23.out _⟩
  have HBC : Aside0 (Below w.heap.size w wC) := ⟨by rw [hwC]; exact below_alloc HB3.out _⟩
  have HTC : Aside0 (Tabs wC) := ⟨HT.out.below HBC.out⟩
  rw [← hwC]
  obtain ⟨t4, ht4⟩ : ∃ x, x = w3.heap.size := ⟨_, rfl⟩
  rw [← ht4] at HTH ⊢
  clear hwC hs3 ht4 hC3 H13 H23 HB3 HR3 H1 H2 HB hmk
  refine start_ (n := 4) (S := fun W => W.heap[w.heap.size + 1]? = some (.cells (cells8 sevenD) 23 (0, 0)) ∧ Below wC.heap.size wC W) (ds := []) #[false, false, false, false] (by kernel_rfl) rfl rfl (⟨H2C.out, below_drew (Below.refl _ _)⟩) (fun hHeld => ?_)
  refine take_ (i := 0) (N := some 18) (v := .agg (cells8 sevenD)) (a' := ?_) #[true, false, false, false] rfl rfl (by kernel_rfl) (fun _ _ _ h => h) (Or.inl ⟨by rfl, fun w' s0 => load_run 23 (.tmp 2) rfl (w.heap.size + 1) rfl 23 _ (0, 0) _ s0.1 Tryd.underlying23 rfl (size32 _ sevenD_length)⟩) hHeld ?_ ?_
  rotate_left
  · simp only [Act.put, List.setIfInBounds_toArray, List.set_cons_zero, List.set_cons_succ, i64_w, i32_w]
    rfl
  refine one_ (i := 1) (N := some 19) #[true, true, false, false] rfl rfl (by kernel_rfl) (by decide) (fun K hK => ?_)
  refine goes_ Tryd.func21 (by kernel_rfl) rfl #[] (by rfl) rfl rfl (by (try simp only [List.map_toArray, List.map_cons, List.map_nil]); first | done | rfl) ?_
  refine (full_calls _).mono ?_
  rintro e wD ⟨rfl, hbD⟩
  refine ⟨_, rfl, ?_⟩
  refine hK.out _ _ (⟨blk_of_below hHeld.1 hbD, hHeld.2.trans (hbD.mono hHeld.2.size)⟩) (fun hNew => ?_)
  clear hHeld hK K
  have hHeld := hNew
  clear hNew
  refine norm_ (a' := ?_) ?_ ?_
  rotate_left
  · show Act.put _ (some 19) _ = _
    simp only [Act.put, List.setIfInBounds_toArray, List.set_cons_zero, List.set_cons_succ, i64_w, i32_w]
    rfl
  refine one_ (i := 2) (N := some 20) #[true, true, true, false] rfl rfl (by kernel_rfl) (by decide) (fun K hK => ?_)
  refine goes_ Tryd.func13 (by kernel_rfl) rfl #[.agg (cells8 sevenD), .agg (cells8 fullD)] (by rfl) rfl rfl (by (try simp only [List.map_toArray, List.map_cons, List.map_nil]); first | done | rfl) ?_
  refine (Sign_calls sevenD fullD sevenD_length (fullTo_length 32 (by omega)) _ (HTC.out.below hHeld.2)).mono ?_
  rintro e wE ⟨vE, rfl, hRE, hbE⟩
  obtain ⟨A5, c5, rfl, hc5, hC5⟩ := Kd.R_reads hRE
  rw [signD_length] at hc5 hC5
  rw [signD_length]
  refine ⟨_, rfl, ?_⟩
  refine hK.out _ _ (⟨blk_of_below hHeld.1 hbE, hHeld.2.trans (hbE.mono hHeld.2.size)⟩) (fun hNew => ?_)
  clear hHeld hK K
  have hHeld := hNew
  clear hNew
  refine norm_ (a' := ?_) ?_ ?_
  rotate_left
  · show Act.put _ (some 20) _ = _
    simp only [Act.put, List.setIfInBounds_toArray, List.set_cons_zero, List.set_cons_succ, i64_w, i32_w]
    rfl
  refine pure_ (i := 3) (N := some 5) (v := ?_) (a' := ?_) #[true, true, true, true] rfl rfl (by kernel_rfl) (fun _ _ _ h => h) (Or.inl ⟨by rfl, ?_⟩) ?_ ?_
  rotate_left
  · intro w'
    go_simp
    with_reducible rfl
  rotate_left
  · simp only [Act.put, List.setIfInBounds_toArray, List.set_cons_zero, List.set_cons_succ, i64_w, i32_w]
    rfl
  refine done_ (by kernel_rfl) ?_
  have hBE := hHeld.2
  have H1E : Aside0 (wE.heap[w.heap.size]? = some (.cells (cells8 zeros32) 23 (0, 0))) := ⟨blk_of_below H1C.out hBE⟩
  have H2E := Aside0.mk hHeld.1
  have HBE : Aside0 (Below w.heap.size w wE) := ⟨HBC.out.trans (hBE.mono HBC.out.size)⟩
  have HTHE := Aside0.mk (Kd.C_below HTH.out hBE)
  have HWAE := Aside0.mk (Kd.C_below HWA.out hBE)
  have HC5 := Aside0.mk hC5
  clear hHeld hBE hbD hbE hRE hC5 HTC HBC H2C H1C HWA HTH
  have HS1 := Aside0.mk (size32 zeros32 zeros32_length)
  go_wp2_with (with_reducible refine wpList_load_row rfl 23 (.tmp 1) rfl w.heap.size rfl 23 (cells8 zeros32) (0, 0) _ H1E.out Tryd.underlying23 rfl HS1.out ?_)
  refine (Recover_calls zeros32 zeros32_length none 0 0 [] (by omega) (by omega) wE C_nilD (HT.out.below HBE.out)).mono ?_
  rintro e wF ⟨rfl, hbF⟩
  rw [rec_nil, rec_nilE]
  have HN := Aside0.mk (heap_alloc_new wF (.cells #[.int .u8 0, .int .u8 0, .int .u8 0, .int .u8 0, .int .u8 0, .int .u8 0, .int .u8 0, .int .u8 0, .int .u8 0, .int .u8 0, .int .u8 0, .int .u8 0, .int .u8 0, .int .u8 0, .int .u8 0, .int .u8 0, .int .u8 0, .int .u8 0, .int .u8 0, .int .u8 0, .int .u8 0, .int .u8 0, .int .u8 0, .int .u8 0, .int .u8 0, .int .u8 0, .int .u8 0, .int .u8 0, .int .u8 0, .int .u8 0, .int .u8 0, .int .u8 0] 23))
  have hbG : Below wE.heap.size wE ((wF.alloc (.cells #[.int .u8 0, .int .u8 0, .int .u8 0, .int .u8 0, .int .u8 0, .int .u8 0, .int .u8 0, .int .u8 0, .int .u8 0, .int .u8 0, .int .u8 0, .int .u8 0, .int .u8 0, .int .u8 0, .int .u8 0, .int .u8 0, .int .u8 0, .int .u8 0, .int .u8 0, .int .u8 0, .int .u8 0, .int .u8 0, .int .u8 0, .int .u8 0, .int .u8 0, .int .u8 0, .int .u8 0, .int .u8 0, .int .u8 0, .int .u8 0, .int .u8 0, .int .u8 0] 23)).setRow wF.heap.size (cells8 zeros32)) := below_setRow (below_alloc hbF _) hbF.size _
  go_wp2_with (with_reducible refine wpList_store_row rfl 23 (.tmp 6) (.tmp 24) rfl wF.heap.size (cells8 zeros32) rfl rfl 23 #[.int .u8 0, .int .u8 0, .int .u8 0, .int .u8 0, .int .u8 0, .int .u8 0, .int .u8 0, .int .u8 0, .int .u8 0, .int .u8 0, .int .u8 0, .int .u8 0, .int .u8 0, .int .u8 0, .int .u8 0, .int .u8 0, .int .u8 0, .int .u8 0, .int .u8 0, .int .u8 0, .int .u8 0, .int .u8 0, .int .u8 0, .int .u8 0, .int .u8 0, .int .u8 0, .int .u8 0, .int .u8 0, .int .u8 0, .int .u8 0, .int .u8 0, .int .u8 0] HN.out HS1.out rfl (all_one8 _) ?_)
  obtain ⟨wG, hwG⟩ : ∃ x, x = (wF.alloc (.cells #[.int .u8 0, .int .u8 0, .int .u8 0, .int .u8 0, .int .u8 0, .int .u8 0, .int .u8 0, .int .u8 0, .int .u8 0, .int .u8 0, .int .u8 0, .int .u8 0, .int .u8 0, .int .u8 0, .int .u8 0, .int .u8 0, .int .u8 0, .int .u8 0, .int .u8 0, .int .u8 0, .int .u8 0, .int .u8 0, .int .u8 0, .int .u8 0, .int .u8 0, .int .u8 0, .int .u8 0, .int .u8 0, .int .u8 0, .int .u8 0, .int .u8 0, .int .u8 0] 23)).setRow wF.heap.size (cells8 zeros32) := ⟨_, rfl⟩
  rw [← hwG] at hbG ⊢
  have H1G := Aside0.mk (blk_of_below H1E.out hbG)
  have HBGE := Aside0.mk hbG
  clear hwG hbG hbF HN
  refine start_ (n := 9) (S := fun W => W.heap[w.heap.size]? = some (.cells (cells8 zeros32) 23 (0, 0)) ∧ Below wG.heap.size wG W) (ds := []) #[false, false, false, false, false, false, false, false, false] (by kernel_rfl) rfl rfl (⟨H1G.out, below_drew (Below.refl _ _)⟩) (fun hHeld => ?_)
  refine pure_ (i := 1) (N := some 28) (v := ?_) (a' := ?_) #[false, true, false, false, false, false, false, false, false] rfl rfl (by kernel_rfl) (fun _ _ _ h => h) (Or.inl ⟨by rfl, ?_⟩) ?_ ?_
  rotate_left
  · intro w'
    go_simp
    with_reducible rfl
  rotate_left
  · simp only [Act.put, List.setIfInBounds_toArray, List.set_cons_zero, List.set_cons_succ, i64_w, i32_w]
    rfl
  refine take_ (i := 2) (N := some 29) (v := .agg (cells8 zeros32)) (a' := ?_) #[false, true, true, false, false, false, false, false, false] rfl rfl (by kernel_rfl) (fun _ _ _ h => h) (Or.inl ⟨by rfl, fun w' s0 => load_run 23 (.tmp 1) rfl w.heap.size rfl 23 _ (0, 0) _ s0.1 Tryd.underlying23 rfl (size32 _ zeros32_length)⟩) hHeld ?_ ?_
  rotate_left
  · simp only [Act.put, List.setIfInBounds_toArray, List.set_cons_zero, List.set_cons_succ, i64_w, i32_w]
    rfl
  refine one_ (i := 0) (N := some 27) #[true, true, true, false, false, false, false, false, false] rfl rfl (by kernel_rfl) (by decide) (fun K hK => ?_)
  refine goes_ Tryd.func21 (by kernel_rfl) rfl #[] (by rfl) rfl rfl (by (try simp only [List.map_toArray, List.map_cons, List.map_nil]); first | done | rfl) ?_
  refine (full_calls _).mono ?_
  rintro e wH0 ⟨rfl, hbH⟩
  refine ⟨_, rfl, ?_⟩
  refine hK.out _ _ (⟨blk_of_below hHeld.1 hbH, hHeld.2.trans (hbH.mono hHeld.2.size)⟩) (fun hNew => ?_)
  clear hHeld hK K
  have hHeld := hNew
  clear hNew
  refine norm_ (a' := ?_) ?_ ?_
  rotate_left
  · show Act.put _ (some 27) _ = _
    simp only [Act.put, List.setIfInBounds_toArray, List.set_cons_zero, List.set_cons_succ, i64_w, i32_w]
    rfl
  refine one_ (i := 3) (N := some 30) #[true, true, true, true, false, false, false, false, false] rfl rfl (by kernel_rfl) (by decide) (fun K hK => ?_)
  refine goes_ Tryd.func8 (by kernel_rfl) rfl #[.agg (cells8 fullD), .slice A5 19 c5, .agg (cells8 zeros32)] (by rfl) rfl rfl (by (try simp only [List.map_toArray, List.map_cons, List.map_nil]); first | done | rfl) ?_
  refine (Earlier_calls fullD zeros32 (fullTo_length 32 (by omega)) zeros32_length A5 19 c5 (by omega) _).mono ?_
  rintro e wH ⟨rfl, hbH⟩
  rw [earlier_a]
  refine ⟨_, rfl, ?_⟩
  refine hK.out _ _ (⟨blk_of_below hHeld.1 hbH, hHeld.2.trans (hbH.mono hHeld.2.size)⟩) (fun hNew => ?_)
  clear hHeld hK K
  have hHeld := hNew
  clear hNew
  refine norm_ (a' := ?_) ?_ ?_
  rotate_left
  · show Act.put _ (some 30) _ = _
    simp only [Act.put, List.setIfInBounds_toArray, List.set_cons_zero, List.set_cons_succ, i64_w, i32_w]
    rfl
  refine pure_ (i := 4) (N := some 26) (v := ?_) (a' := ?_) #[true, true, true, true, true, false, false, false, false] rfl rfl (by kernel_rfl) (fun _ _ _ h => h) (Or.inl ⟨by rfl, ?_⟩) ?_ ?_
  rotate_left
  · intro w'
    go_simp
    with_reducible rfl
  rotate_left
  · simp only [Act.put, List.setIfInBounds_toArray, List.set_cons_zero, List.set_cons_succ, i64_w, i32_w]
    rfl
  refine pure_ (i := 5) (N := some 31) (v := ?_) (a' := ?_) #[true, true, true, true, true, true, false, false, false] rfl rfl (by kernel_rfl) (fun _ _ _ h => h) (Or.inl ⟨by rfl, ?_⟩) ?_ ?_
  rotate_left
  · intro w'
    go_simp
    with_reducible rfl
  rotate_left
  · simp only [Act.put, List.setIfInBounds_toArray, List.set_cons_zero, List.set_cons_succ, i64_w, i32_w]
    rfl
  refine pure_ (i := 6) (N := some 32) (v := ?_) (a' := ?_) #[true, true, true, true, true, true, true, false, false] rfl rfl (by kernel_rfl) (fun _ _ _ h => h) (Or.inl ⟨by rfl, ?_⟩) ?_ ?_
  rotate_left
  · intro w'
    go_simp
    with_reducible rfl
  rotate_left
  · simp only [Act.put, List.setIfInBounds_toArray, List.set_cons_zero, List.set_cons_succ, i64_w, i32_w]
    rfl
  refine pure_ (i := 7) (N := some 8) (v := ?_) (a' := ?_) #[true, true, true, true, true, true, true, true, false] rfl rfl (by kernel_rfl) (fun _ _ _ h => h) (Or.inl ⟨by rfl, ?_⟩) ?_ ?_
  rotate_left
  · intro w'
    go_simp
    with_reducible rfl
  rotate_left
  · simp only [Act.put, List.setIfInBounds_toArray, List.set_cons_zero, List.set_cons_succ, i64_w, i32_w]
    rfl
  refine pure_ (i := 8) (N := some 9) (v := ?_) (a' := ?_) #[true, true, true, true, true, true, true, true, true] rfl rfl (by kernel_rfl) (fun _ _ _ h => h) (Or.inl ⟨by rfl, ?_⟩) ?_ ?_
  rotate_left
  · intro w'
    go_simp
    with_reducible rfl
  rotate_left
  · simp only [Act.put, List.setIfInBounds_toArray, List.set_cons_zero, List.set_cons_succ, i64_w, i32_w]
    rfl
  refine done_ (by kernel_rfl) ?_
  have HBHE : Aside0 (Below wE.heap.size wE wH) := ⟨HBGE.out.trans (hHeld.2.mono HBGE.out.size)⟩
  have H1H := Aside0.mk hHeld.1
  clear hHeld hbH HBGE H1G
  obtain ⟨wI, hwI⟩ : ∃ x, x = wH := ⟨_, rfl⟩
  rw [← hwI] at HBHE H1H ⊢
  have H1I := H1H
  clear hwI
  go_wp2_with fail
  refine (full_calls _).mono ?_
  rintro e wJ ⟨rfl, hbJ⟩
  go_wp2_with fail
  refine (full_calls _).mono ?_
  rintro e wK ⟨rfl, hbK⟩
  go_wp2_with fail
  refine (Earlier_calls fullD fullD (fullTo_length 32 (by omega)) (fullTo_length 32 (by omega)) A5 19 c5 (by omega) _).mono ?_
  rintro e wL ⟨rfl, hbL⟩
  rw [earlier_b]
  have hbIL : Below wI.heap.size wI wL := hbJ.trans ((hbK.mono hbJ.size).trans (hbL.mono (Nat.le_trans hbJ.size hbK.size)))
  have HBL : Aside0 (Below wE.heap.size wE wL) := ⟨HBHE.out.trans (hbIL.mono HBHE.out.size)⟩
  have H1L := Aside0.mk (blk_of_below H1I.out hbIL)
  have H2L := Aside0.mk (blk_of_below H2E.out HBL.out)
  clear hbJ hbK hbL hbIL H1I H1H HBHE
  go_wp2_with (with_reducible refine wpList_load_row rfl 23 (.tmp 1) rfl w.heap.size rfl 23 (cells8 zeros32) (0, 0) _ H1L.out Tryd.underlying23 rfl HS1.out ?_)
  refine (Digits_calls zeros32 zeros32_length _).mono ?_
  rintro e wM ⟨bM, rfl, hCM, hbM⟩
  rw [digits_zero] at hCM
  have HWM := Aside0.mk (Kd.C_below HWAE.out (HBL.out.trans (hbM.mono HBL.out.size)))
  have H2M := Aside0.mk (blk_of_below H2L.out hbM)
  have HTHM := Aside0.mk (Kd.C_below HTHE.out (HBL.out.trans (hbM.mono HBL.out.size)))
  have HC5M := Aside0.mk (Kd.C_below HC5.out (HBL.out.trans (hbM.mono HBL.out.size)))
  have HBM : Aside0 (Below w.heap.size w wM) := ⟨HBE.out.trans ((HBL.out.trans (hbM.mono HBL.out.size)).mono HBE.out.size)⟩
  have hn3 : n3 ≤ 1000 := by rw [← Kd.C_len HWM.out]; simp [wants]
  have HCM := Aside0.mk hCM
  clear hCM hbM HBL H1L H2L HC5 HWAE HTHE HBE H2E H1E
  go_wp2_with fail
  refine (SameInts_calls _ A3 19 n3 19 c3 wants wants wM HCM.out HWM.out (by omega) hn3).mono ?_
  rintro e wN ⟨rfl, hbN⟩
  rw [show (wants == wants) = true from by simp]
  go_wp2_with fail
  refine (full_calls wN).mono ?_
  rintro e wO ⟨rfl, hbO⟩
  go_wp2_with fail
  refine (Digits_calls fullD (fullTo_length 32 (by omega)) _).mono ?_
  rintro e wP ⟨bP, rfl, hCP, hbP⟩
  rw [digits_full] at hCP
  have hbMP : Below wM.heap.size wM wP := hbN.trans ((hbO.mono hbN.size).trans (hbP.mono (Nat.le_trans hbN.size hbO.size)))
  have HTHP := Aside0.mk (Kd.C_below HTHM.out hbMP)
  have HCP := Aside0.mk hCP
  have HBMP := Aside0.mk hbMP
  clear hCP hbP hbO hbN hbMP HTHM HWM HCM hn3
  go_wp2_with fail
  refine (SameInts_calls _ _ 19 19 19 19 threes threes wP HCP.out HTHP.out (by omega) (by omega)).mono ?_
  rintro e wQ ⟨rfl, hbQ⟩
  rw [show (threes == threes) = true from by simp]
  have hbMQ : Below wM.heap.size wM wQ := HBMP.out.trans (hbQ.mono HBMP.out.size)
  have H2Q := Aside0.mk (blk_of_below H2M.out hbMQ)
  have HC5Q := Aside0.mk (Kd.C_below HC5M.out hbMQ)
  have HBQ : Aside0 (Below w.heap.size w wQ) := ⟨HBM.out.trans (hbMQ.mono HBM.out.size)⟩
  have HS2 := Aside0.mk (size32 sevenD sevenD_length)
  clear hbQ hbMQ HBMP HTHP HCP HC5M HBM H2M
  go_wp2_with (refine wpList_on (by rfl) (load_run 23 (.tmp 2) rfl (w.heap.size + 1) rfl 23 (cells8 sevenD) (0, 0) _ H2Q.out Tryd.underlying23 rfl HS2.out) ?_)
  have hpl := publicD_length sevenD
  have hv1 := verify_sign sevenD fullD (publicD sevenD)
  rw [beq_self_eq_true] at hv1
  have HPC := fun w' h => Public_calls sevenD sevenD_length w' h
  obtain ⟨p, hp⟩ : ∃ p, p = publicD sevenD := ⟨_, rfl⟩
  rw [← hp] at hpl hv1 HPC
  have HV1 := Aside0.mk hv1
  have HPC2 := Aside0.mk HPC
  clear hp hv1 HPC
  refine (HPC2.out wQ (HT.out.below HBQ.out)).mono ?_
  rintro e wR ⟨rfl, hbR⟩
  go_wp2_with fail
  refine (full_calls wR).mono ?_
  rintro e wS ⟨rfl, hbS⟩
  have hbQS : Below wQ.heap.size wQ wS := hbR.trans (hbS.mono hbR.size)
  have HBS : Aside0 (Below w.heap.size w wS) := ⟨HBQ.out.trans (hbQS.mono HBQ.out.size)⟩
  have HC5S := Aside0.mk (Kd.C_below HC5Q.out hbQS)
  have H2S := Aside0.mk (blk_of_below H2Q.out hbQS)
  clear hbR hbS hbQS HC5Q H2Q HBQ
  go_wp2_with fail
  refine (Verify_calls p fullD hpl (fullTo_length 32 (by omega)) A5 19 c5 _ (by omega) hc5 wS HC5S.out (HT.out.below HBS.out)).mono ?_
  rintro e wT ⟨rfl, hbT⟩
  rw [HV1.out]
  have H2T := Aside0.mk (blk_of_below H2S.out hbT)
  have HBT : Aside0 (Below w.heap.size w wT) := ⟨HBS.out.trans (hbT.mono HBS.out.size)⟩
  clear hbT H2S HBS HC5S HV1
  go_wp2_with (refine wpList_on (by rfl) (load_run 23 (.tmp 2) rfl (w.heap.size + 1) rfl 23 (cells8 sevenD) (0, 0) _ H2T.out Tryd.underlying23 rfl HS2.out) ?_)
  refine (HPC2.out wT (HT.out.below HBT.out)).mono ?_
  rintro e wU ⟨rfl, hbU⟩
  have HBU : Aside0 (Below w.heap.size w wU) := ⟨HBT.out.trans (hbU.mono HBT.out.size)⟩
  clear hbU HBT H2T
  go_wp2_with fail
  refine (full_calls wU).mono ?_
  rintro e wV ⟨rfl, hbV⟩
  have HBV : Aside0 (Below w.heap.size w wV) := ⟨HBU.out.trans (hbV.mono HBU.out.size)⟩
  clear hbV HBU
  go_wp2_with fail
  refine (Verify_calls p fullD hpl (fullTo_length 32 (by omega)) none 0 0 [] (by omega) (by omega) wV C_nilD (HT.out.below HBV.out)).mono ?_
  rintro e wW ⟨rfl, hbW⟩
  rw [verify_nil]
  have HBW : Aside0 (Below w.heap.size w wW) := ⟨HBV.out.trans (hbW.mono HBV.out.size)⟩
  clear hbW HBV
  go_wp2_with fail
  go_ret
  exact ⟨rfl, HBW.out⟩
end Go.Proofs.YtkpfnbliideeeaaDoor.Q
