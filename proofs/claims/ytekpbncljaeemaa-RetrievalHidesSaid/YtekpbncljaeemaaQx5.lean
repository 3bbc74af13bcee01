-- printed by wip/prt.py (the kit's printer with given functions)
import Derived.Test.YtekpbncljaeemaaQx0
import Derived.Test.YtekpbncljaeemaaQx1
import Derived.Test.YtekpbncljaeemaaQx2
import Derived.Test.YtekpbncljaeemaaQx3
import Derived.Test.YtekpbncljaeemaaQx4
namespace Go.Proofs.Ytekpbncljaeemaa.Q
open Go.RowKit Go.Proofs.YtekpbncljaeemaaW.PrintWords Go.Proofs.YtekpbncljaeemaaW.PrintLast Go.Proofs.YtekpbncljaeemaaW.PrintMore
attribute [local go_sem] max2_int min2_int max_two min_two max_three min_three max_four min_four   -- for this text's walks alone
set_option linter.unusedVariables false
set_option linter.unusedSimpArgs false


theorem C_lit (W : World) (k : IntKind) (e : TypeId) (xs : List Int) (hx : xs.length ≤ 1000) : Kd.C (Kd.int k) (W.alloc (.cells (nums k xs).toArray e)) (some ⟨W.heap.size, 0, none⟩) xs.length xs := by
  refine ⟨rfl, by omega, fun _ => ⟨_, rfl, fun j p hj => ⟨[.int k p], rfl, rfl, fun i u hu => ?_⟩⟩⟩
  have hj2 : j < xs.length := (List.getElem?_eq_some_iff.1 hj).1
  match i, hu with
  | 0, hu =>
    injection hu with hu
    subst hu
    have hb := heap_alloc_new W (.cells (nums k xs).toArray e)
    show (W.alloc (.cells (nums k xs).toArray e)).cell? ((⟨W.heap.size, 0, none⟩ : Addr).add (j * 1 + 0)) = _
    rw [add_plain, blk_cell hb]
    simp [nums, hj]
  | i + 1, hu => simp at hu
theorem C_rows (W : World) (rows : List (Option Addr × Nat × List Int)) (hx : rows.length ≤ 1000) (h : ∀ r ∈ rows, Kd.C (Kd.int .u8) W r.1 r.2.2.length r.2.2 ∧ r.2.2.length ≤ r.2.1) :
    Kd.C (Kd.slice 5 (Kd.int .u8)) (W.alloc (.cells (rows.map fun r => Value.slice r.1 r.2.2.length r.2.1).toArray 22)) (some ⟨W.heap.size, 0, none⟩) rows.length (rows.map (·.2.2)) := by
  refine ⟨by simp, by omega, fun _ => ⟨_, rfl, fun j p hj => ?_⟩⟩
  rw [List.getElem?_map] at hj
  obtain ⟨r, hr, rfl⟩ := Option.map_eq_some_iff.1 hj
  obtain ⟨h1, h2⟩ := h r (List.mem_of_getElem? hr)
  refine ⟨[.slice r.1 r.2.2.length r.2.1], rfl, ⟨r.1, r.2.1, rfl, h2, Kd.C_alloc h1 _⟩, fun i u hu => ?_⟩
  match i, hu with
  | 0, hu =>
    injection hu with hu
    subst hu
    have hb := heap_alloc_new W (.cells (rows.map fun r => Value.slice r.1 r.2.2.length r.2.1).toArray 22)
    show (W.alloc (.cells (rows.map fun r => Value.slice r.1 r.2.2.length r.2.1).toArray 22)).cell? ((⟨W.heap.size, 0, none⟩ : Addr).add (j * 1 + 0)) = _
    rw [add_plain, blk_cell hb]
    simp [hr]
  | i + 1, hu => simp at hu

def testamurlaw36_sane.f : Option Bool := some true
theorem cell_add0 (W : World) (a : Addr) : W.cell? (a.add 0) = W.cell? a := by simp [Addr.add]
theorem R_C {w : World} {base n c e : Nat} {A : Option Addr} {ok : Nat → Prop} {xs : List Int} (h : Kd.R (Kd.int .u8) e w base ok (.slice A n c) xs) : Kd.C (Kd.int .u8) w A xs.length xs ∧ xs.length ≤ c := by
  obtain ⟨A2, c2, e, hl, hr⟩ := Kd.R_reads h
  injection e with e1 e2 e3
  subst e1 e3
  exact ⟨hr, hl⟩
theorem S_C {w : World} {base n c e : Nat} {A : Option Addr} {ok : Nat → Prop} {xs : List (List Int)} (h : Kd.S (Kd.slice 5 (Kd.int .u8)) e w base ok (.slice A n c) xs) : Kd.C (Kd.slice 5 (Kd.int .u8)) w A xs.length xs ∧ xs.length ≤ c := by
  obtain ⟨A2, c2, e, hl, hr⟩ := Kd.R_reads (Kd.S_R h)
  injection e with e1 e2 e3
  subst e1 e3
  exact ⟨hr, hl⟩
theorem sane_T14 : rtab .any (opsOf Try.f9 14) = (true, [([], []), ([0], [0]), ([1], [1]), ([2], [2]), ([], []), ([4], [4]), ([5], [5]), ([6], [6]), ([3, 7], [3, 7]), ([8], [8]), ([9], [9]), ([9], [9]), ([10, 8, 0, 1, 2, 3, 4, 5, 6, 7, 8, 9, 10], [10]), ([11, 12, 0, 1, 2, 3, 4, 5, 6, 7, 8, 9, 10, 11, 12], [11])]) := by kernel_rfl
theorem sane_T15 : rtab .any (opsOf Try.f9 15) = (true, [([], []), ([0], [0]), ([1], [1]), ([2], [2]), ([3], [3]), ([4, 3], [3, 4]), ([5, 3], [3, 5]), ([3, 6], [3, 6]), ([7, 3], [7]), ([8], [8]), ([9, 8], [8, 9]), ([8], [8]), ([8], [8]), ([11, 12, 8], [8, 11, 12]), ([10, 13, 8, 8], [8, 10, 13]), ([8, 14], [8, 14]), ([15, 14], [15]), ([16], [16]), ([17, 16], [16, 17]), ([16], [16]), ([16], [16]), ([19, 20, 16], [16, 19, 20]), ([18, 21, 16, 16], [16, 18, 21]), ([16, 22], [16, 22]), ([23, 22], [23]), ([24], [24]), ([25, 24], [24, 25]), ([26, 24], [24, 26]), ([27, 24], [24, 27]), ([28, 24], [24, 28]), ([24, 24], [24]), ([30, 24], [24, 30]), ([29, 31, 24], [24, 29, 31]), ([24, 32], [24, 32]), ([33, 30], [33]), ([34], [34]), ([35, 34], [34, 35]), ([36, 34], [34, 36]), ([37, 34], [34, 37]), ([38, 34], [34, 38]), ([34, 34], [34]), ([40, 34], [34, 40]), ([39, 41, 34], [34, 39, 41]), ([34, 42], [34, 42]), ([43, 40], [43]), ([44], [44]), ([45, 44], [44, 45]), ([44, 46], [44, 46]), ([47, 44], [47]), ([48], [48]), ([49, 48], [48, 49]), ([48, 48], [48]), ([51, 48], [48, 51]), ([50, 52, 48], [48, 50, 52]), ([48, 53], [48, 53]), ([54, 51], [54]), ([55], [55]), ([56, 55], [55, 56]), ([57, 55], [55, 57]), ([55, 58], [55, 58]), ([59, 55, 0, 1, 2, 3, 4, 5, 6, 7, 8, 9, 10, 11, 12, 13, 14, 15, 16, 17, 18, 19, 20, 21, 22, 23, 24, 25, 26, 27, 28, 29, 30, 31, 32, 33, 34, 35, 36, 37, 38, 39, 40, 41, 42, 43, 44, 45, 46, 47, 48, 49, 50, 51, 52, 53, 54, 55, 56, 57, 58, 59], [59])]) := by kernel_rfl
set_option maxHeartbeats 4000000 in
set_option maxRecDepth 100000 in
theorem sane_calls (w : World) : Calls Try.prog 9 #[] w fun e w' => e = .returned (.bool true) ∧ Below w.heap.size w w' := by
  go_enter Try.func9, Try.ntmps9
  go_wp2_with fail
  refine (retrieval_Masks.calls 2 0 0 none 0 [] [] [] 360 _ (Kd.C_nil _ _) (Nat.le_refl _) (by rw [masks_of 0]; rfl)).mono ?_
  rintro e w1 ⟨vA1, vB1, rfl, ha, hb, hbel⟩
  have B_ := Aside0.mk (below_step (Below.refl _ _) hbel)
  have B := B_
  clear B_
  clear hbel
  go_wp2_with fail
  refine (retrieval_Masks.calls 2 9 0 (some ⟨w1.heap.size, 0, none⟩) 1 [1] [] [] 360 _ (C_lit w1 .u8 5 [1] (by simp)) (Nat.le_refl _) (by rw [masks_of 0]; rfl)).mono ?_
  rintro e w2 ⟨vA2, vB2, rfl, ha, hb, hbel⟩
  have B_ := Aside0.mk (below_step (below_alloc (B.out) _) hbel)
  clear B
  have B := B_
  clear B_
  clear hbel
  go_wp2_with fail
  refine (retrieval_Masks.calls 2 1 0 (some ⟨w2.heap.size, 0, none⟩) 1 [255] [1] [0] 0 _ (C_lit w2 .u8 5 [255] (by simp)) (Nat.le_refl _) (by rw [masks_of 0]; decide)).mono ?_
  rintro e w3 ⟨vA3, vB3, rfl, ha, hb, hbel⟩
  have B_ := Aside0.mk (below_step (below_alloc (B.out) _) hbel)
  clear B
  have B := B_
  clear B_
  have HMa := Aside0.mk ha
  clear ha
  have HMb := Aside0.mk hb
  clear hb
  clear hbel
  go_wp2_with fail
  refine (retrieval_Masks.calls 2 8 8 (some ⟨w3.heap.size, 0, none⟩) 1 [1] [] [] 1 _ (C_lit w3 .u8 5 [1] (by simp)) (Nat.le_refl _) (by rw [masks_of 0]; rfl)).mono ?_
  rintro e w4 ⟨vA4, vB4, rfl, ha, hb, hbel⟩
  have B_ := Aside0.mk (below_step (below_alloc (B.out) _) hbel)
  have HMa_ := Aside0.mk (Kd.R_below (Kd.R_alloc (HMa.out) _) hbel)
  clear HMa
  have HMa := HMa_
  clear HMa_
  have HMb_ := Aside0.mk (Kd.R_below (Kd.R_alloc (HMb.out) _) hbel)
  clear HMb
  have HMb := HMb_
  clear HMb_
  clear B
  have B := B_
  clear B_
  clear hbel
  go_wp2_with fail
  refine (retrieval_Answer.calls none 0 [] none 0 [] [] 360 _ (Kd.C_nil _ _) (Nat.le_refl _) (Kd.C_nil _ _) (Nat.le_refl _) (by decide)).mono ?_
  rintro e w5 ⟨v5, rfl, hs, hbel⟩
  have B_ := Aside0.mk (below_step (B.out) hbel)
  have HMa_ := Aside0.mk (Kd.R_below (HMa.out) hbel)
  clear HMa
  have HMa := HMa_
  clear HMa_
  have HMb_ := Aside0.mk (Kd.R_below (HMb.out) hbel)
  clear HMb
  have HMb := HMb_
  clear HMb_
  clear B
  have B := B_
  clear B_
  clear hbel
  obtain ⟨A5, c5, e5⟩ := Kd.S_slice hs
  subst e5
  clear hs
  go_wp2_with fail
  refine (testamurlaw36_block.calls 3 _ _ rfl).mono ?_
  rintro e w6 ⟨v6, rfl, hr, hbel⟩
  have B_ := Aside0.mk (below_step (below_alloc (B.out) _) hbel)
  have HMa_ := Aside0.mk (Kd.R_below (Kd.R_alloc (HMa.out) _) hbel)
  clear HMa
  have HMa := HMa_
  clear HMa_
  have HMb_ := Aside0.mk (Kd.R_below (Kd.R_alloc (HMb.out) _) hbel)
  clear HMb
  have HMb := HMb_
  clear HMb_
  clear B
  have B := B_
  clear B_
  have HK6 := Aside0.mk hr
  clear hr
  clear hbel
  go_wp2_with fail
  refine (testamurlaw36_block.calls 5 _ _ rfl).mono ?_
  rintro e w7 ⟨v7, rfl, hr, hbel⟩
  have B_ := Aside0.mk (below_step (B.out) hbel)
  have HMa_ := Aside0.mk (Kd.R_below (HMa.out) hbel)
  clear HMa
  have HMa := HMa_
  clear HMa_
  have HMb_ := Aside0.mk (Kd.R_below (HMb.out) hbel)
  clear HMb
  have HMb := HMb_
  clear HMb_
  have HK6_ := Aside0.mk (Kd.R_below (HK6.out) hbel)
  clear HK6
  have HK6 := HK6_
  clear HK6_
  clear B
  have B := B_
  clear B_
  have HK7 := Aside0.mk hr
  clear hr
  clear hbel
  go_wp2_with fail
  refine (testamurlaw36_block.calls 16 _ _ rfl).mono ?_
  rintro e w8 ⟨v8, rfl, hr, hbel⟩
  have B_ := Aside0.mk (below_step (B.out) hbel)
  have HMa_ := Aside0.mk (Kd.R_below (HMa.out) hbel)
  clear HMa
  have HMa := HMa_
  clear HMa_
  have HMb_ := Aside0.mk (Kd.R_below (HMb.out) hbel)
  clear HMb
  have HMb := HMb_
  clear HMb_
  have HK6_ := Aside0.mk (Kd.R_below (HK6.out) hbel)
  clear HK6
  have HK6 := HK6_
  clear HK6_
  have HK7_ := Aside0.mk (Kd.R_below (HK7.out) hbel)
  clear HK7
  have HK7 := HK7_
  clear HK7_
  clear B
  have B := B_
  clear B_
  have HK8 := Aside0.mk hr
  clear hr
  clear hbel
  obtain ⟨A6, c6, e6⟩ := Kd.R_slice HK6.out
  simp only [List.length_cons, List.length_replicate, Nat.reduceAdd] at e6
  subst e6
  obtain ⟨A7, c7, e7⟩ := Kd.R_slice HK7.out
  simp only [List.length_cons, List.length_replicate, Nat.reduceAdd] at e7
  subst e7
  obtain ⟨A8, c8, e8⟩ := Kd.R_slice HK8.out
  simp only [List.length_cons, List.length_replicate, Nat.reduceAdd] at e8
  subst e8
  have HDB : Aside0 (Kd.C (Kd.slice 5 (Kd.int .u8)) (w8.alloc (.cells #[.slice A6 16 c6, .slice A7 16 c7, .slice A8 16 c8] 22)) (some ⟨w8.heap.size, 0, none⟩) 3 [[3, 0, 0, 0, 0, 0, 0, 0, 0, 0, 0, 0, 0, 0, 0, 0], [5, 0, 0, 0, 0, 0, 0, 0, 0, 0, 0, 0, 0, 0, 0, 0], [16, 0, 0, 0, 0, 0, 0, 0, 0, 0, 0, 0, 0, 0, 0, 0]]) := ⟨C_rows w8 [(A6, c6, [3, 0, 0, 0, 0, 0, 0, 0, 0, 0, 0, 0, 0, 0, 0, 0]), (A7, c7, [5, 0, 0, 0, 0, 0, 0, 0, 0, 0, 0, 0, 0, 0, 0, 0]), (A8, c8, [16, 0, 0, 0, 0, 0, 0, 0, 0, 0, 0, 0, 0, 0, 0, 0])] (by simp) (by intro r hr; simp only [List.mem_cons, List.not_mem_nil, or_false] at hr; rcases hr with rfl | rfl | rfl; exact R_C HK6.out; exact R_C HK7.out; exact R_C HK8.out)⟩
  have HI1 : Aside0 (Kd.C (Kd.int .i64) ((w8.alloc (.cells #[.slice A6 16 c6, .slice A7 16 c7, .slice A8 16 c8] 22)).alloc (.cells #[.int .i64 1] 3)) (some ⟨w8.heap.size + 1, 0, none⟩) 1 [1]) := ⟨by have q := C_lit (w8.alloc (.cells #[.slice A6 16 c6, .slice A7 16 c7, .slice A8 16 c8] 22)) .i64 3 [1] (by simp); simp only [World.size_alloc] at q; exact q⟩
  have HI2 : Aside0 (Kd.C (Kd.int .u8) (((w8.alloc (.cells #[.slice A6 16 c6, .slice A7 16 c7, .slice A8 16 c8] 22)).alloc (.cells #[.int .i64 1] 3)).alloc (.cells #[.int .u8 5] 5)) (some ⟨w8.heap.size + 1 + 1, 0, none⟩) 1 [5]) := ⟨by have q := C_lit ((w8.alloc (.cells #[.slice A6 16 c6, .slice A7 16 c7, .slice A8 16 c8] 22)).alloc (.cells #[.int .i64 1] 3)) .u8 5 [5] (by simp); simp only [World.size_alloc] at q; exact q⟩
  have HI3 : Aside0 (Kd.C (Kd.int .u8) ((((w8.alloc (.cells #[.slice A6 16 c6, .slice A7 16 c7, .slice A8 16 c8] 22)).alloc (.cells #[.int .i64 1] 3)).alloc (.cells #[.int .u8 5] 5)).alloc (.cells #[.int .u8 250] 5)) (some ⟨w8.heap.size + 1 + 1 + 1, 0, none⟩) 1 [250]) := ⟨by have q := C_lit (((w8.alloc (.cells #[.slice A6 16 c6, .slice A7 16 c7, .slice A8 16 c8] 22)).alloc (.cells #[.int .i64 1] 3)).alloc (.cells #[.int .u8 5] 5)) .u8 5 [250] (by simp); simp only [World.size_alloc] at q; exact q⟩
  have HI4 : Aside0 (Kd.C (Kd.slice 5 (Kd.int .u8)) (((((w8.alloc (.cells #[.slice A6 16 c6, .slice A7 16 c7, .slice A8 16 c8] 22)).alloc (.cells #[.int .i64 1] 3)).alloc (.cells #[.int .u8 5] 5)).alloc (.cells #[.int .u8 250] 5)).alloc (.cells #[.slice (some ⟨w8.heap.size + 1 + 1, 0, none⟩) 1 1, .slice (some ⟨w8.heap.size + 1 + 1 + 1, 0, none⟩) 1 1] 22)) (some ⟨w8.heap.size + 1 + 1 + 1 + 1, 0, none⟩) 2 [[5], [250]]) := ⟨by have q := C_rows ((((w8.alloc (.cells #[.slice A6 16 c6, .slice A7 16 c7, .slice A8 16 c8] 22)).alloc (.cells #[.int .i64 1] 3)).alloc (.cells #[.int .u8 5] 5)).alloc (.cells #[.int .u8 250] 5)) [(some ⟨w8.heap.size + 1 + 1, 0, none⟩, 1, [5]), (some ⟨w8.heap.size + 1 + 1 + 1, 0, none⟩, 1, [250])] (by simp) (by intro r hr; simp only [List.mem_cons, List.not_mem_nil, or_false] at hr; rcases hr with rfl | rfl; exact ⟨Kd.C_alloc HI2.out _, Nat.le_refl _⟩; exact ⟨HI3.out, Nat.le_refl _⟩); simp only [World.size_alloc] at q; exact q⟩
  have HASK := retrieval_Ask.calls 3 (some ⟨w8.heap.size + 1, 0, none⟩) 1 [1] 2 (some ⟨w8.heap.size + 1 + 1 + 1 + 1, 0, none⟩) 2 [[5], [250]] [[5], [2]] [[7], [3]] 0 (((((w8.alloc (.cells #[.slice A6 16 c6, .slice A7 16 c7, .slice A8 16 c8] 22)).alloc (.cells #[.int .i64 1] 3)).alloc (.cells #[.int .u8 5] 5)).alloc (.cells #[.int .u8 250] 5)).alloc (.cells #[.slice (some ⟨w8.heap.size + 1 + 1, 0, none⟩) 1 1, .slice (some ⟨w8.heap.size + 1 + 1 + 1, 0, none⟩) 1 1] 22)) (Kd.C_alloc (Kd.C_alloc (Kd.C_alloc HI1.out _) _) _) (Nat.le_refl _) HI4.out (Nat.le_refl _) (by kernel_rfl)
  go_wp2_with fail
  refine HASK.mono ?_
  clear HASK
  rintro e w9 ⟨vp, vq, rfl, hp, hq, hbel⟩
  have B_ := Aside0.mk (below_step (below_alloc (below_alloc (below_alloc (below_alloc (below_alloc (B.out) _) _) _) _) _) hbel)
  have HMa_ := Aside0.mk (Kd.R_below (Kd.R_alloc (Kd.R_alloc (Kd.R_alloc (Kd.R_alloc (Kd.R_alloc (HMa.out) _) _) _) _) _) hbel)
  clear HMa
  have HMa := HMa_
  clear HMa_
  have HMb_ := Aside0.mk (Kd.R_below (Kd.R_alloc (Kd.R_alloc (Kd.R_alloc (Kd.R_alloc (Kd.R_alloc (HMb.out) _) _) _) _) _) hbel)
  clear HMb
  have HMb := HMb_
  clear HMb_
  have HK6_ := Aside0.mk (Kd.R_below (Kd.R_alloc (Kd.R_alloc (Kd.R_alloc (Kd.R_alloc (Kd.R_alloc (HK6.out) _) _) _) _) _) hbel)
  clear HK6
  have HK6 := HK6_
  clear HK6_
  have HK7_ := Aside0.mk (Kd.R_below (Kd.R_alloc (Kd.R_alloc (Kd.R_alloc (Kd.R_alloc (Kd.R_alloc (HK7.out) _) _) _) _) _) hbel)
  clear HK7
  have HK7 := HK7_
  clear HK7_
  have HK8_ := Aside0.mk (Kd.R_below (Kd.R_alloc (Kd.R_alloc (Kd.R_alloc (Kd.R_alloc (Kd.R_alloc (HK8.out) _) _) _) _) _) hbel)
  clear HK8
  have HK8 := HK8_
  clear HK8_
  have HDB_ := Aside0.mk (Kd.C_below (Kd.C_alloc (Kd.C_alloc (Kd.C_alloc (Kd.C_alloc (HDB.out) _) _) _) _) hbel)
  clear HDB
  have HDB := HDB_
  clear HDB_
  clear B
  have B := B_
  clear B_
  have HP := Aside0.mk hp
  clear hp
  have HQ := Aside0.mk hq
  clear hq
  clear hbel
  clear HI1 HI2 HI3 HI4
  obtain ⟨Ap, cp, ep⟩ := Kd.S_slice HP.out
  obtain ⟨Aq, cq, eq⟩ := Kd.S_slice HQ.out
  simp only [List.length_cons, List.length_nil, Nat.reduceAdd] at ep eq
  subst ep eq
  have HBP : Aside0 (((w9.alloc (.cells #[.slice Ap 2 cp] 32)).alloc (.cells #[.slice Aq 2 cq] 32)).heap[w9.heap.size]? = some (.cells #[.slice Ap 2 cp] 32 (0, 0))) := ⟨(heap_two w9 _ _).1⟩
  have HBQ : Aside0 (((w9.alloc (.cells #[.slice Ap 2 cp] 32)).alloc (.cells #[.slice Aq 2 cq] 32)).heap[w9.heap.size + 1]? = some (.cells #[.slice Aq 2 cq] 32 (0, 0))) := ⟨(heap_two w9 _ _).2⟩
  go_wp2_with fail
  refine (retrieval_Answer.calls (some ⟨w8.heap.size, 0, none⟩) 3 [[3, 0, 0, 0, 0, 0, 0, 0, 0, 0, 0, 0, 0, 0, 0, 0], [5, 0, 0, 0, 0, 0, 0, 0, 0, 0, 0, 0, 0, 0, 0, 0], [16, 0, 0, 0, 0, 0, 0, 0, 0, 0, 0, 0, 0, 0, 0, 0]] Ap cp [[5], [2]] [[19, 0, 0, 0, 0, 0, 0, 0, 0, 0, 0, 0, 0, 0, 0, 0], [5, 0, 0, 0, 0, 0, 0, 0, 0, 0, 0, 0, 0, 0, 0, 0]] 0 _ (Kd.C_alloc (Kd.C_alloc (HDB.out) _) _) (Nat.le_refl _) (Kd.C_alloc (Kd.C_alloc (S_C HP.out).1 _) _) (S_C HP.out).2 (by kernel_rfl)).mono ?_
  rintro e w10 ⟨vr, rfl, hs, hbel⟩
  have B_ := Aside0.mk (below_step (below_alloc (below_alloc (B.out) _) _) hbel)
  have HMa_ := Aside0.mk (Kd.R_below (Kd.R_alloc (Kd.R_alloc (HMa.out) _) _) hbel)
  clear HMa
  have HMa := HMa_
  clear HMa_
  have HMb_ := Aside0.mk (Kd.R_below (Kd.R_alloc (Kd.R_alloc (HMb.out) _) _) hbel)
  clear HMb
  have HMb := HMb_
  clear HMb_
  have HK6_ := Aside0.mk (Kd.R_below (Kd.R_alloc (Kd.R_alloc (HK6.out) _) _) hbel)
  clear HK6
  have HK6 := HK6_
  clear HK6_
  have HK7_ := Aside0.mk (Kd.R_below (Kd.R_alloc (Kd.R_alloc (HK7.out) _) _) hbel)
  clear HK7
  have HK7 := HK7_
  clear HK7_
  have HK8_ := Aside0.mk (Kd.R_below (Kd.R_alloc (Kd.R_alloc (HK8.out) _) _) hbel)
  clear HK8
  have HK8 := HK8_
  clear HK8_
  have HDB_ := Aside0.mk (Kd.C_below (Kd.C_alloc (Kd.C_alloc (HDB.out) _) _) hbel)
  clear HDB
  have HDB := HDB_
  clear HDB_
  have HP_ := Aside0.mk (Kd.S_below (Kd.S_alloc (Kd.S_alloc (HP.out) _) _) hbel)
  clear HP
  have HP := HP_
  clear HP_
  have HQ_ := Aside0.mk (Kd.S_below (Kd.S_alloc (Kd.S_alloc (HQ.out) _) _) hbel)
  clear HQ
  have HQ := HQ_
  clear HQ_
  have HBP_ := Aside0.mk (blk_below (HBP.out) hbel)
  clear HBP
  have HBP := HBP_
  clear HBP_
  have HBQ_ := Aside0.mk (blk_below (HBQ.out) hbel)
  clear HBQ
  have HBQ := HBQ_
  clear HBQ_
  clear B
  have B := B_
  clear B_
  have HRr := Aside0.mk hs
  clear hs
  clear hbel
  obtain ⟨Ar, cr, er⟩ := Kd.S_slice HRr.out
  simp only [List.length_cons, List.length_nil, Nat.reduceAdd] at er
  subst er
  have HXr : Aside0 ((w10.alloc (.cells #[.slice Ar 2 cr] 35)).heap[w10.heap.size]? = some (.cells #[.slice Ar 2 cr] 35 (0, 0))) := ⟨heap_alloc_new _ _⟩
  have hcq : w10.cell? ⟨w9.heap.size + 1, 0, none⟩ = some (.slice Aq 2 cq) := (blk_cell HBQ.out 0).trans rfl
  have hlt9 : w9.heap.size + 1 < w10.heap.size := blk_lt HBQ.out
  go_wp2_with fail
  refine (retrieval_Answer.calls (some ⟨w8.heap.size, 0, none⟩) 3 [[3, 0, 0, 0, 0, 0, 0, 0, 0, 0, 0, 0, 0, 0, 0, 0], [5, 0, 0, 0, 0, 0, 0, 0, 0, 0, 0, 0, 0, 0, 0, 0], [16, 0, 0, 0, 0, 0, 0, 0, 0, 0, 0, 0, 0, 0, 0, 0]] Aq cq [[7], [3]] [[22, 0, 0, 0, 0, 0, 0, 0, 0, 0, 0, 0, 0, 0, 0, 0], [6, 0, 0, 0, 0, 0, 0, 0, 0, 0, 0, 0, 0, 0, 0, 0]] 0 _ (Kd.C_alloc (HDB.out) _) (Nat.le_refl _) (Kd.C_alloc (S_C HQ.out).1 _) (S_C HQ.out).2 (by kernel_rfl)).mono ?_
  rintro e w11 ⟨vs, rfl, hs, hbel⟩
  have B_ := Aside0.mk (below_step (below_alloc (B.out) _) hbel)
  have HMa_ := Aside0.mk (Kd.R_below (Kd.R_alloc (HMa.out) _) hbel)
  clear HMa
  have HMa := HMa_
  clear HMa_
  have HMb_ := Aside0.mk (Kd.R_below (Kd.R_alloc (HMb.out) _) hbel)
  clear HMb
  have HMb := HMb_
  clear HMb_
  have HK6_ := Aside0.mk (Kd.R_below (Kd.R_alloc (HK6.out) _) hbel)
  clear HK6
  have HK6 := HK6_
  clear HK6_
  have HK7_ := Aside0.mk (Kd.R_below (Kd.R_alloc (HK7.out) _) hbel)
  clear HK7
  have HK7 := HK7_
  clear HK7_
  have HK8_ := Aside0.mk (Kd.R_below (Kd.R_alloc (HK8.out) _) hbel)
  clear HK8
  have HK8 := HK8_
  clear HK8_
  have HDB_ := Aside0.mk (Kd.C_below (Kd.C_alloc (HDB.out) _) hbel)
  clear HDB
  have HDB := HDB_
  clear HDB_
  have HP_ := Aside0.mk (Kd.S_below (Kd.S_alloc (HP.out) _) hbel)
  clear HP
  have HP := HP_
  clear HP_
  have HQ_ := Aside0.mk (Kd.S_below (Kd.S_alloc (HQ.out) _) hbel)
  clear HQ
  have HQ := HQ_
  clear HQ_
  have HBP_ := Aside0.mk (blk_below (blk_alloc (HBP.out) _) hbel)
  clear HBP
  have HBP := HBP_
  clear HBP_
  have HBQ_ := Aside0.mk (blk_below (blk_alloc (HBQ.out) _) hbel)
  clear HBQ
  have HBQ := HBQ_
  clear HBQ_
  have HRr_ := Aside0.mk (Kd.S_below (Kd.S_alloc (HRr.out) _) hbel)
  clear HRr
  have HRr := HRr_
  clear HRr_
  have HXr_ := Aside0.mk (blk_below (HXr.out) hbel)
  clear HXr
  have HXr := HXr_
  clear HXr_
  clear B
  have B := B_
  clear B_
  have HRs := Aside0.mk hs
  clear hs
  clear hbel
  obtain ⟨As, cs, es⟩ := Kd.S_slice HRs.out
  simp only [List.length_cons, List.length_nil, Nat.reduceAdd] at es
  subst es
  clear hcq
  have HXs : Aside0 ((w11.alloc (.cells #[.slice As 2 cs] 35)).heap[w11.heap.size]? = some (.cells #[.slice As 2 cs] 35 (0, 0))) := ⟨heap_alloc_new _ _⟩
  have HT6 : Aside0 (Kd.C (Kd.int .u8) ((w11.alloc (.cells #[.slice As 2 cs] 35)).alloc (.cells #[.int .u8 6] 5)) (some ⟨w11.heap.size + 1, 0, none⟩) 1 [6]) := ⟨by have q := C_lit (w11.alloc (.cells #[.slice As 2 cs] 35)) .u8 5 [6] (by simp); simp only [World.size_alloc] at q; exact q⟩
  go_wp2_with fail
  refine (retrieval_Twin.calls 2 3 0 2 (some ⟨w11.heap.size + 1, 0, none⟩) 1 [6] [3] 0 _ HT6.out (Nat.le_refl _) (by kernel_rfl)).mono ?_
  rintro e w12 ⟨vx, rfl, hr, hbel⟩
  have B_ := Aside0.mk (below_step (below_alloc (below_alloc (B.out) _) _) hbel)
  have HMa_ := Aside0.mk (Kd.R_below (Kd.R_alloc (Kd.R_alloc (HMa.out) _) _) hbel)
  clear HMa
  have HMa := HMa_
  clear HMa_
  have HMb_ := Aside0.mk (Kd.R_below (Kd.R_alloc (Kd.R_alloc (HMb.out) _) _) hbel)
  clear HMb
  have HMb := HMb_
  clear HMb_
  have HK6_ := Aside0.mk (Kd.R_below (Kd.R_alloc (Kd.R_alloc (HK6.out) _) _) hbel)
  clear HK6
  have HK6 := HK6_
  clear HK6_
  have HK7_ := Aside0.mk (Kd.R_below (Kd.R_alloc (Kd.R_alloc (HK7.out) _) _) hbel)
  clear HK7
  have HK7 := HK7_
  clear HK7_
  have HK8_ := Aside0.mk (Kd.R_below (Kd.R_alloc (Kd.R_alloc (HK8.out) _) _) hbel)
  clear HK8
  have HK8 := HK8_
  clear HK8_
  have HDB_ := Aside0.mk (Kd.C_below (Kd.C_alloc (Kd.C_alloc (HDB.out) _) _) hbel)
  clear HDB
  have HDB := HDB_
  clear HDB_
  have HP_ := Aside0.mk (Kd.S_below (Kd.S_alloc (Kd.S_alloc (HP.out) _) _) hbel)
  clear HP
  have HP := HP_
  clear HP_
  have HQ_ := Aside0.mk (Kd.S_below (Kd.S_alloc (Kd.S_alloc (HQ.out) _) _) hbel)
  clear HQ
  have HQ := HQ_
  clear HQ_
  have HBP_ := Aside0.mk (blk_below (blk_alloc (blk_alloc (HBP.out) _) _) hbel)
  clear HBP
  have HBP := HBP_
  clear HBP_
  have HBQ_ := Aside0.mk (blk_below (blk_alloc (blk_alloc (HBQ.out) _) _) hbel)
  clear HBQ
  have HBQ := HBQ_
  clear HBQ_
  have HRr_ := Aside0.mk (Kd.S_below (Kd.S_alloc (Kd.S_alloc (HRr.out) _) _) hbel)
  clear HRr
  have HRr := HRr_
  clear HRr_
  have HXr_ := Aside0.mk (blk_below (blk_alloc (blk_alloc (HXr.out) _) _) hbel)
  clear HXr
  have HXr := HXr_
  clear HXr_
  have HRs_ := Aside0.mk (Kd.S_below (Kd.S_alloc (Kd.S_alloc (HRs.out) _) _) hbel)
  clear HRs
  have HRs := HRs_
  clear HRs_
  have HXs_ := Aside0.mk (blk_below (blk_alloc (HXs.out) _) hbel)
  clear HXs
  have HXs := HXs_
  clear HXs_
  clear B
  have B := B_
  clear B_
  have HTW := Aside0.mk hr
  clear hr
  clear hbel
  clear HT6
  have HT8 : Aside0 (Kd.C (Kd.slice 5 (Kd.int .u8)) ((w12.alloc (.cells #[.int .u8 8] 5)).alloc (.cells #[.slice (some ⟨w12.heap.size, 0, none⟩) 1 1] 22)) (some ⟨w12.heap.size + 1, 0, none⟩) 1 [[8]]) := ⟨by have q := C_rows (w12.alloc (.cells #[.int .u8 8] 5)) [(some ⟨w12.heap.size, 0, none⟩, 1, [8])] (by simp) (by intro r hr; simp only [List.mem_cons, List.not_mem_nil, or_false] at hr; subst hr; exact ⟨C_lit w12 .u8 5 [8] (by simp), Nat.le_refl _⟩); simp only [World.size_alloc] at q; exact q⟩
  go_wp2_with fail
  refine (retrieval_Answer.calls (some ⟨w8.heap.size, 0, none⟩) 3 [[3, 0, 0, 0, 0, 0, 0, 0, 0, 0, 0, 0, 0, 0, 0, 0], [5, 0, 0, 0, 0, 0, 0, 0, 0, 0, 0, 0, 0, 0, 0, 0], [16, 0, 0, 0, 0, 0, 0, 0, 0, 0, 0, 0, 0, 0, 0, 0]] (some ⟨w12.heap.size + 1, 0, none⟩) 1 [[8]] [] 360 _ (Kd.C_alloc (Kd.C_alloc (HDB.out) _) _) (Nat.le_refl _) (HT8.out) (Nat.le_refl _) (by kernel_rfl)).mono ?_
  rintro e w13 ⟨vt, rfl, hs, hbel⟩
  have B_ := Aside0.mk (below_step (below_alloc (below_alloc (B.out) _) _) hbel)
  have HMa_ := Aside0.mk (Kd.R_below (Kd.R_alloc (Kd.R_alloc (HMa.out) _) _) hbel)
  clear HMa
  have HMa := HMa_
  clear HMa_
  have HMb_ := Aside0.mk (Kd.R_below (Kd.R_alloc (Kd.R_alloc (HMb.out) _) _) hbel)
  clear HMb
  have HMb := HMb_
  clear HMb_
  have HK6_ := Aside0.mk (Kd.R_below (Kd.R_alloc (Kd.R_alloc (HK6.out) _) _) hbel)
  clear HK6
  have HK6 := HK6_
  clear HK6_
  have HK7_ := Aside0.mk (Kd.R_below (Kd.R_alloc (Kd.R_alloc (HK7.out) _) _) hbel)
  clear HK7
  have HK7 := HK7_
  clear HK7_
  have HK8_ := Aside0.mk (Kd.R_below (Kd.R_alloc (Kd.R_alloc (HK8.out) _) _) hbel)
  clear HK8
  have HK8 := HK8_
  clear HK8_
  have HDB_ := Aside0.mk (Kd.C_below (Kd.C_alloc (Kd.C_alloc (HDB.out) _) _) hbel)
  clear HDB
  have HDB := HDB_
  clear HDB_
  have HP_ := Aside0.mk (Kd.S_below (Kd.S_alloc (Kd.S_alloc (HP.out) _) _) hbel)
  clear HP
  have HP := HP_
  clear HP_
  have HQ_ := Aside0.mk (Kd.S_below (Kd.S_alloc (Kd.S_alloc (HQ.out) _) _) hbel)
  clear HQ
  have HQ := HQ_
  clear HQ_
  have HBP_ := Aside0.mk (blk_below (blk_alloc (blk_alloc (HBP.out) _) _) hbel)
  clear HBP
  have HBP := HBP_
  clear HBP_
  have HBQ_ := Aside0.mk (blk_below (blk_alloc (blk_alloc (HBQ.out) _) _) hbel)
  clear HBQ
  have HBQ := HBQ_
  clear HBQ_
  have HRr_ := Aside0.mk (Kd.S_below (Kd.S_alloc (Kd.S_alloc (HRr.out) _) _) hbel)
  clear HRr
  have HRr := HRr_
  clear HRr_
  have HXr_ := Aside0.mk (blk_below (blk_alloc (blk_alloc (HXr.out) _) _) hbel)
  clear HXr
  have HXr := HXr_
  clear HXr_
  have HRs_ := Aside0.mk (Kd.S_below (Kd.S_alloc (Kd.S_alloc (HRs.out) _) _) hbel)
  clear HRs
  have HRs := HRs_
  clear HRs_
  have HXs_ := Aside0.mk (blk_below (blk_alloc (blk_alloc (HXs.out) _) _) hbel)
  clear HXs
  have HXs := HXs_
  clear HXs_
  have HTW_ := Aside0.mk (Kd.R_below (Kd.R_alloc (Kd.R_alloc (HTW.out) _) _) hbel)
  clear HTW
  have HTW := HTW_
  clear HTW_
  clear B
  have B := B_
  clear B_
  have HRt := Aside0.mk hs
  clear hs
  clear hbel
  obtain ⟨At, ct, et⟩ := Kd.S_slice HRt.out
  simp only [List.length_nil] at et
  subst et
  clear HT8
  have hcr : w13.cell? ⟨w10.heap.size, 0, none⟩ = some (.slice Ar 2 cr) := (blk_cell HXr.out 0).trans rfl
  have hcs : w13.cell? ⟨w11.heap.size, 0, none⟩ = some (.slice As 2 cs) := (blk_cell HXs.out 0).trans rfl
  have hlr : w10.heap.size < w13.heap.size := blk_lt HXr.out
  have hls : w11.heap.size < w13.heap.size := blk_lt HXs.out
  go_wp2_with fail
  obtain ⟨W, hW⟩ : ∃ W, W = (w13.alloc (.cells #[.slice At 0 ct] 35)).drew := ⟨_, rfl⟩
  have BX : Below w13.heap.size w13 W := by rw [hW]; exact below_drew (below_alloc (Below.refl _ _) _)
  have HMa_ := Aside0.mk (Kd.R_below HMa.out BX)
  clear HMa
  have HMa := HMa_
  clear HMa_
  have HMb_ := Aside0.mk (Kd.R_below HMb.out BX)
  clear HMb
  have HMb := HMb_
  clear HMb_
  have HP_ := Aside0.mk (Kd.S_below HP.out BX)
  clear HP
  have HP := HP_
  clear HP_
  have HQ_ := Aside0.mk (Kd.S_below HQ.out BX)
  clear HQ
  have HQ := HQ_
  clear HQ_
  have HRr_ := Aside0.mk (Kd.S_below HRr.out BX)
  clear HRr
  have HRr := HRr_
  clear HRr_
  have HRs_ := Aside0.mk (Kd.S_below HRs.out BX)
  clear HRs
  have HRs := HRs_
  clear HRs_
  have HTW_ := Aside0.mk (Kd.R_below HTW.out BX)
  clear HTW
  have HTW := HTW_
  clear HTW_
  have HBP_ := Aside0.mk (blk_below HBP.out BX)
  clear HBP
  have HBP := HBP_
  clear HBP_
  have HBQ_ := Aside0.mk (blk_below HBQ.out BX)
  clear HBQ
  have HBQ := HBQ_
  clear HBQ_
  have HXr_ := Aside0.mk (blk_below HXr.out BX)
  clear HXr
  have HXr := HXr_
  clear HXr_
  have HXs_ := Aside0.mk (blk_below HXs.out BX)
  clear HXs
  have HXs := HXs_
  clear HXs_
  have BW : Aside0 (Below w.heap.size w W) := ⟨below_step B.out BX⟩
  clear B BX HDB HK6 HK7 HK8 hlt9 hlr hls hcr hcs
  obtain ⟨adr, Ar0, cr0, er, hr0, hlr0, hCr0⟩ := at_L1 (S_C HRr.out).1 0 (by omega) (by simp)
  subst er
  obtain ⟨ads, As0, cs0, es, hs0, hls0, hCs0⟩ := at_L1 (S_C HRs.out).1 0 (by omega) (by simp)
  subst es
  have hr0' : W.cell? adr = some (.slice Ar0 16 cr0) := (cell_add0 W adr).symm.trans hr0
  have hs0' : W.cell? ads = some (.slice As0 16 cs0) := (cell_add0 W ads).symm.trans hs0
  clear hr0 hs0
  have HCr0 : Aside0 (Kd.C (Kd.int .u8) W Ar0 16 [19, 0, 0, 0, 0, 0, 0, 0, 0, 0, 0, 0, 0, 0, 0, 0]) := ⟨hCr0⟩
  have HCs0 : Aside0 (Kd.C (Kd.int .u8) W As0 16 [22, 0, 0, 0, 0, 0, 0, 0, 0, 0, 0, 0, 0, 0, 0, 0]) := ⟨hCs0⟩
  clear hCr0 hCs0
  have hlr0' : 16 ≤ cr0 := hlr0
  have hls0' : 16 ≤ cs0 := hls0
  clear hlr0 hls0
  refine start_ (n := 14) (S := fun W' => Below W.heap.size W W') (ds := []) #[false, false, false, false, false, false, false, false, false, false, false, false, false, false] (by kernel_rfl) rfl rfl (by rw [hW]; exact Below.refl _ _) (fun hHeld => ?_)
  refine with_tab sane_T14 (fun HT_ => ?_)
  rw [← hW] at hHeld ⊢
  refine pure_ (i := 0) (N := some 146) (v := ?_) (a' := ?_) #[true, false, false, false, false, false, false, false, false, false, false, false, false, false] rfl rfl (any_of HT_.out (by kernel_rfl)) (fun _ _ _ h => h) (Or.inl ⟨by rfl, ?_⟩) ?_ ?_
  rotate_left
  · intro w'
    go_simp
    with_reducible rfl
  rotate_left
  · simp only [Act.put, List.setIfInBounds_toArray, List.set_cons_zero, List.set_cons_succ, i64_w, i32_w]
    rfl
  refine take_ (i := 1) (N := some 147) (v := ?_) (a' := ?_) #[true, true, false, false, false, false, false, false, false, false, false, false, false, false] rfl rfl (take_of HT_.out (by kernel_rfl)) (fun _ _ _ h => h) (Or.inl ⟨by rfl, ?_⟩) hHeld ?_ ?_
  rotate_left
  · intro w' s0
    have hx : w'.cell? ⟨w10.heap.size, 0, none⟩ = some (.slice (some adr) 2 cr) := (blk_cell (blk_below HXr.out s0) 0).trans rfl
    go_simp
    with_reducible rfl
  rotate_left
  · simp only [Act.put, List.setIfInBounds_toArray, List.set_cons_zero, List.set_cons_succ, i64_w, i32_w]
    rfl
  refine pure_ (i := 2) (N := some 148) (v := ?_) (a' := ?_) #[true, true, true, false, false, false, false, false, false, false, false, false, false, false] rfl rfl (any_of HT_.out (by kernel_rfl)) (fun _ _ _ h => h) (Or.inl ⟨by rfl, ?_⟩) ?_ ?_
  rotate_left
  · intro w'
    go_simp
    with_reducible rfl
  rotate_left
  · simp only [Act.put, List.setIfInBounds_toArray, List.set_cons_zero, List.set_cons_succ, i64_w, i32_w]
    rfl
  refine take_ (i := 3) (N := some 149) (v := ?_) (a' := ?_) #[true, true, true, true, false, false, false, false, false, false, false, false, false, false] rfl rfl (take_of HT_.out (by kernel_rfl)) (fun _ _ _ h => h) (Or.inl ⟨by rfl, ?_⟩) hHeld ?_ ?_
  rotate_left
  · intro w' s0
    have hx : w'.cell? adr = some (.slice Ar0 16 cr0) := (s0.cell (World.block_lt_of_cell? W _ hr0')).trans hr0'
    go_simp
    with_reducible rfl
  rotate_left
  · simp only [Act.put, List.setIfInBounds_toArray, List.set_cons_zero, List.set_cons_succ, i64_w, i32_w]
    rfl
  refine pure_ (i := 4) (N := some 150) (v := ?_) (a' := ?_) #[true, true, true, true, true, false, false, false, false, false, false, false, false, false] rfl rfl (any_of HT_.out (by kernel_rfl)) (fun _ _ _ h => h) (Or.inl ⟨by rfl, ?_⟩) ?_ ?_
  rotate_left
  · intro w'
    go_simp
    with_reducible rfl
  rotate_left
  · simp only [Act.put, List.setIfInBounds_toArray, List.set_cons_zero, List.set_cons_succ, i64_w, i32_w]
    rfl
  refine take_ (i := 5) (N := some 151) (v := ?_) (a' := ?_) #[true, true, true, true, true, true, false, false, false, false, false, false, false, false] rfl rfl (take_of HT_.out (by kernel_rfl)) (fun _ _ _ h => h) (Or.inl ⟨by rfl, ?_⟩) hHeld ?_ ?_
  rotate_left
  · intro w' s0
    have hx : w'.cell? ⟨w11.heap.size, 0, none⟩ = some (.slice (some ads) 2 cs) := (blk_cell (blk_below HXs.out s0) 0).trans rfl
    go_simp
    with_reducible rfl
  rotate_left
  · simp only [Act.put, List.setIfInBounds_toArray, List.set_cons_zero, List.set_cons_succ, i64_w, i32_w]
    rfl
  refine pure_ (i := 6) (N := some 152) (v := ?_) (a' := ?_) #[true, true, true, true, true, true, true, false, false, false, false, false, false, false] rfl rfl (any_of HT_.out (by kernel_rfl)) (fun _ _ _ h => h) (Or.inl ⟨by rfl, ?_⟩) ?_ ?_
  rotate_left
  · intro w'
    go_simp
    with_reducible rfl
  rotate_left
  · simp only [Act.put, List.setIfInBounds_toArray, List.set_cons_zero, List.set_cons_succ, i64_w, i32_w]
    rfl
  refine take_ (i := 7) (N := some 153) (v := ?_) (a' := ?_) #[true, true, true, true, true, true, true, true, false, false, false, false, false, false] rfl rfl (take_of HT_.out (by kernel_rfl)) (fun _ _ _ h => h) (Or.inl ⟨by rfl, ?_⟩) hHeld ?_ ?_
  rotate_left
  · intro w' s0
    have hx : w'.cell? ads = some (.slice As0 16 cs0) := (s0.cell (World.block_lt_of_cell? W _ hs0')).trans hs0'
    go_simp
    with_reducible rfl
  rotate_left
  · simp only [Act.put, List.setIfInBounds_toArray, List.set_cons_zero, List.set_cons_succ, i64_w, i32_w]
    rfl
  refine one_ (i := 8) (N := some 154) #[true, true, true, true, true, true, true, true, true, false, false, false, false, false] rfl rfl (one_of HT_.out (by kernel_rfl)) (by decide) (fun K hK => ?_)
  refine goes_ Try.func17 (by kernel_rfl) rfl #[.slice Ar0 16 cr0, .slice As0 16 cs0] (by rfl) rfl rfl (by (try simp only [List.map_toArray, List.map_cons, List.map_nil]); first | done | rfl) ?_
  refine (retrieval_Join.calls Ar0 cr0 [19, 0, 0, 0, 0, 0, 0, 0, 0, 0, 0, 0, 0, 0, 0, 0] As0 cs0 [22, 0, 0, 0, 0, 0, 0, 0, 0, 0, 0, 0, 0, 0, 0, 0] [5, 0, 0, 0, 0, 0, 0, 0, 0, 0, 0, 0, 0, 0, 0, 0] 0 W HCr0.out hlr0' HCs0.out hls0' (by kernel_rfl)).mono ?_
  rintro e W2 ⟨vy, rfl, hy, hbel⟩
  refine ⟨_, rfl, ?_⟩
  have HY := Aside0.mk hy
  have B2 := Aside0.mk hbel
  clear hy hbel
  refine hK.out _ _ (B2.out) (fun hHeld => ?_)
  clear hK K
  refine norm_ (a' := ?_) ?_ ?_
  rotate_left
  · show Act.put _ (some 154) _ = _
    simp only [Act.put, List.setIfInBounds_toArray, List.set_cons_zero, List.set_cons_succ, i64_w, i32_w]
    rfl
  refine pure_ (i := 9) (N := some 145) (v := ?_) (a' := ?_) #[true, true, true, true, true, true, true, true, true, true, false, false, false, false] rfl rfl (any_of HT_.out (by kernel_rfl)) (fun _ _ _ h => h) (Or.inl ⟨by rfl, ?_⟩) ?_ ?_
  rotate_left
  · intro w'
    go_simp
    with_reducible rfl
  rotate_left
  · simp only [Act.put, List.setIfInBounds_toArray, List.set_cons_zero, List.set_cons_succ, i64_w, i32_w]
    rfl
  refine pure_ (i := 10) (N := some 155) (v := ?_) (a' := ?_) #[true, true, true, true, true, true, true, true, true, true, true, false, false, false] rfl rfl (any_of HT_.out (by kernel_rfl)) (fun _ _ _ h => h) (Or.inl ⟨by rfl, ?_⟩) ?_ ?_
  rotate_left
  · intro w'
    go_simp
    with_reducible rfl
  rotate_left
  · simp only [Act.put, List.setIfInBounds_toArray, List.set_cons_zero, List.set_cons_succ, i64_w, i32_w]
    rfl
  refine pure_ (i := 11) (N := some 156) (v := ?_) (a' := ?_) #[true, true, true, true, true, true, true, true, true, true, true, true, false, false] rfl rfl (any_of HT_.out (by kernel_rfl)) (fun _ _ _ h => h) (Or.inl ⟨by rfl, ?_⟩) ?_ ?_
  rotate_left
  · intro w'
    go_simp
    with_reducible rfl
  rotate_left
  · simp only [Act.put, List.setIfInBounds_toArray, List.set_cons_zero, List.set_cons_succ, i64_w, i32_w]
    rfl
  refine pure_ (i := 12) (N := some 27) (v := ?_) (a' := ?_) #[true, true, true, true, true, true, true, true, true, true, true, true, true, false] rfl rfl (any_of HT_.out (by kernel_rfl)) (fun _ _ _ h => h) (Or.inl ⟨by rfl, ?_⟩) ?_ ?_
  rotate_left
  · intro w'
    go_simp
    with_reducible rfl
  rotate_left
  · simp only [Act.put, List.setIfInBounds_toArray, List.set_cons_zero, List.set_cons_succ, i64_w, i32_w]
    rfl
  refine pure_ (i := 13) (N := some 28) (v := ?_) (a' := ?_) #[true, true, true, true, true, true, true, true, true, true, true, true, true, true] rfl rfl (any_of HT_.out (by kernel_rfl)) (fun _ _ _ h => h) (Or.inl ⟨by rfl, ?_⟩) ?_ ?_
  rotate_left
  · intro w'
    go_simp
    with_reducible rfl
  rotate_left
  · simp only [Act.put, List.setIfInBounds_toArray, List.set_cons_zero, List.set_cons_succ, i64_w, i32_w]
    rfl
  refine done_ (done_of HT_.out (by kernel_rfl)) ?_
  go_wp2_with fail
  obtain ⟨Ama, cma, ema⟩ := Kd.R_slice HMa.out
  obtain ⟨Amb, cmb, emb⟩ := Kd.R_slice HMb.out
  obtain ⟨Ax, cx, ex⟩ := Kd.R_slice HTW.out
  obtain ⟨Ay, cy, ey⟩ := Kd.R_slice HY.out
  simp only [List.length_cons, List.length_nil, Nat.reduceAdd] at ema emb ex ey
  subst ema emb ex ey
  obtain ⟨V, hV⟩ : ∃ V, V = W2.drew := ⟨_, rfl⟩
  have BV : Below W.heap.size W V := by rw [hV]; exact below_drew B2.out
  have BV2 : Below W2.heap.size W2 V := by rw [hV]; exact below_drew (Below.refl _ _)
  have HCa := Aside0.mk (Kd.C_below (R_C HMa.out).1 BV)
  have HCb := Aside0.mk (Kd.C_below (R_C HMb.out).1 BV)
  have HCx := Aside0.mk (Kd.C_below (R_C HTW.out).1 BV)
  have HCy : Aside0 (Kd.C (Kd.int .u8) V Ay 16 [5, 0, 0, 0, 0, 0, 0, 0, 0, 0, 0, 0, 0, 0, 0, 0]) := ⟨Kd.C_below (R_C HY.out).1 BV2⟩
  have HCr := Aside0.mk (Kd.C_below HCr0.out BV)
  have HCs := Aside0.mk (Kd.C_below HCs0.out BV)
  have HCp := Aside0.mk (Kd.C_below (S_C HP.out).1 BV)
  have HCq := Aside0.mk (Kd.C_below (S_C HQ.out).1 BV)
  have hlp := (S_C HP.out).2
  have hlq := (S_C HQ.out).2
  have HVp := Aside0.mk (blk_below HBP.out BV)
  have HVq := Aside0.mk (blk_below HBQ.out BV)
  have HVr := Aside0.mk (blk_below HXr.out BV)
  have HVs := Aside0.mk (blk_below HXs.out BV)
  have hr1 : V.cell? adr = some (.slice Ar0 16 cr0) := (BV.cell (World.block_lt_of_cell? W _ hr0')).trans hr0'
  have hs1 : V.cell? ads = some (.slice As0 16 cs0) := (BV.cell (World.block_lt_of_cell? W _ hs0')).trans hs0'
  have BB : Aside0 (Below w.heap.size w V) := ⟨below_step BW.out BV⟩
  clear hr0' hs0' HXr HXs HBP HBQ HMa HMb HTW HY BV BV2 BW B2 hW HCr0 HCs0 HRr HRs HP HQ
  refine start_ (n := 61) (S := fun W' => Below V.heap.size V W') (ds := []) #[false, false, false, false, false, false, false, false, false, false, false, false, false, false, false, false, false, false, false, false, false, false, false, false, false, false, false, false, false, false, false, false, false, false, false, false, false, false, false, false, false, false, false, false, false, false, false, false, false, false, false, false, false, false, false, false, false, false, false, false, false] (by kernel_rfl) rfl rfl (by rw [hV]; exact Below.refl _ _) (fun hHeld => ?_)
  refine with_tab sane_T15 (fun HT_ => ?_)
  rw [← hV] at hHeld ⊢
  clear hV
  refine pure_ (i := 0) (N := some 157) (v := ?_) (a' := ?_) #[true, false, false, false, false, false, false, false, false, false, false, false, false, false, false, false, false, false, false, false, false, false, false, false, false, false, false, false, false, false, false, false, false, false, false, false, false, false, false, false, false, false, false, false, false, false, false, false, false, false, false, false, false, false, false, false, false, false, false, false, false] rfl rfl (any_of HT_.out (by kernel_rfl)) (fun _ _ _ h => h) (Or.inl ⟨by rfl, ?_⟩) ?_ ?_
  rotate_left
  · intro w'
    go_simp
    with_reducible rfl
  rotate_left
  · simp only [Act.put, List.setIfInBounds_toArray, List.set_cons_zero, List.set_cons_succ, i64_w, i32_w]
    rfl
  refine take_ (i := 1) (N := some 158) (v := ?_) (a' := ?_) #[true, true, false, false, false, false, false, false, false, false, false, false, false, false, false, false, false, false, false, false, false, false, false, false, false, false, false, false, false, false, false, false, false, false, false, false, false, false, false, false, false, false, false, false, false, false, false, false, false, false, false, false, false, false, false, false, false, false, false, false, false] rfl rfl (take_of HT_.out (by kernel_rfl)) (fun _ _ _ h => h) (Or.inl ⟨by rfl, ?_⟩) hHeld ?_ ?_
  rotate_left
  · intro w' s0
    have hcv : (convert 22 9 (.slice Ama 1 cma)).run Try.prog w' = .ok (.string ⟨#[1]⟩) w' := Kd.C_string Try.underlying22 Try.underlying5 Try.underlying9 (Kd.C_below HCa.out s0)
    go_simp
    with_reducible rfl
  rotate_left
  · simp only [Act.put, List.setIfInBounds_toArray, List.set_cons_zero, List.set_cons_succ, i64_w, i32_w]
    rfl
  refine pure_ (i := 2) (N := some 159) (v := ?_) (a' := ?_) #[true, true, true, false, false, false, false, false, false, false, false, false, false, false, false, false, false, false, false, false, false, false, false, false, false, false, false, false, false, false, false, false, false, false, false, false, false, false, false, false, false, false, false, false, false, false, false, false, false, false, false, false, false, false, false, false, false, false, false, false, false] rfl rfl (any_of HT_.out (by kernel_rfl)) (fun _ _ _ h => h) (Or.inl ⟨by rfl, ?_⟩) ?_ ?_
  rotate_left
  · intro w'
    go_simp
    with_reducible rfl
  rotate_left
  · simp only [Act.put, List.setIfInBounds_toArray, List.set_cons_zero, List.set_cons_succ, i64_w, i32_w]
    rfl
  refine pure_ (i := 3) (N := some 160) (v := ?_) (a' := ?_) #[true, true, true, true, false, false, false, false, false, false, false, false, false, false, false, false, false, false, false, false, false, false, false, false, false, false, false, false, false, false, false, false, false, false, false, false, false, false, false, false, false, false, false, false, false, false, false, false, false, false, false, false, false, false, false, false, false, false, false, false, false] rfl rfl (any_of HT_.out (by kernel_rfl)) (fun _ _ _ h => h) (Or.inl ⟨by rfl, ?_⟩) ?_ ?_
  rotate_left
  · intro w'
    go_simp
    with_reducible rfl
  rotate_left
  · simp only [Act.put, List.setIfInBounds_toArray, List.set_cons_zero, List.set_cons_succ, i64_w, i32_w]
    rfl
  refine pure_ (i := 4) (N := some 161) (v := ?_) (a' := ?_) #[true, true, true, true, true, false, false, false, false, false, false, false, false, false, false, false, false, false, false, false, false, false, false, false, false, false, false, false, false, false, false, false, false, false, false, false, false, false, false, false, false, false, false, false, false, false, false, false, false, false, false, false, false, false, false, false, false, false, false, false, false] rfl rfl (any_of HT_.out (by kernel_rfl)) (fun _ _ _ h => h) (Or.inl ⟨by rfl, ?_⟩) ?_ ?_
  rotate_left
  · intro w'
    go_simp
    with_reducible rfl
  rotate_left
  · simp only [Act.put, List.setIfInBounds_toArray, List.set_cons_zero, List.set_cons_succ, i64_w, i32_w]
    rfl
  refine take_ (i := 5) (N := some 162) (v := ?_) (a' := ?_) #[true, true, true, true, true, true, false, false, false, false, false, false, false, false, false, false, false, false, false, false, false, false, false, false, false, false, false, false, false, false, false, false, false, false, false, false, false, false, false, false, false, false, false, false, false, false, false, false, false, false, false, false, false, false, false, false, false, false, false, false, false] rfl rfl (take_of HT_.out (by kernel_rfl)) (fun _ _ _ h => h) (Or.inl ⟨by rfl, ?_⟩) hHeld ?_ ?_
  rotate_left
  · intro w' s0
    have hcv : (convert 22 9 (.slice Amb 1 cmb)).run Try.prog w' = .ok (.string ⟨#[0]⟩) w' := Kd.C_string Try.underlying22 Try.underlying5 Try.underlying9 (Kd.C_below HCb.out s0)
    go_simp
    with_reducible rfl
  rotate_left
  · simp only [Act.put, List.setIfInBounds_toArray, List.set_cons_zero, List.set_cons_succ, i64_w, i32_w]
    rfl
  refine pure_ (i := 6) (N := some 163) (v := ?_) (a' := ?_) #[true, true, true, true, true, true, true, false, false, false, false, false, false, false, false, false, false, false, false, false, false, false, false, false, false, false, false, false, false, false, false, false, false, false, false, false, false, false, false, false, false, false, false, false, false, false, false, false, false, false, false, false, false, false, false, false, false, false, false, false, false] rfl rfl (any_of HT_.out (by kernel_rfl)) (fun _ _ _ h => h) (Or.inl ⟨by rfl, ?_⟩) ?_ ?_
  rotate_left
  · intro w'
    go_simp
    with_reducible rfl
  rotate_left
  · simp only [Act.put, List.setIfInBounds_toArray, List.set_cons_zero, List.set_cons_succ, i64_w, i32_w]
    rfl
  refine pure_ (i := 7) (N := some 164) (v := ?_) (a' := ?_) #[true, true, true, true, true, true, true, true, false, false, false, false, false, false, false, false, false, false, false, false, false, false, false, false, false, false, false, false, false, false, false, false, false, false, false, false, false, false, false, false, false, false, false, false, false, false, false, false, false, false, false, false, false, false, false, false, false, false, false, false, false] rfl rfl (any_of HT_.out (by kernel_rfl)) (fun _ _ _ h => h) (Or.inl ⟨by rfl, ?_⟩) ?_ ?_
  rotate_left
  · intro w'
    go_simp
    with_reducible rfl
  rotate_left
  · simp only [Act.put, List.setIfInBounds_toArray, List.set_cons_zero, List.set_cons_succ, i64_w, i32_w]
    rfl
  refine pure_ (i := 8) (N := some 165) (v := ?_) (a' := ?_) #[true, true, true, true, true, true, true, true, true, false, false, false, false, false, false, false, false, false, false, false, false, false, false, false, false, false, false, false, false, false, false, false, false, false, false, false, false, false, false, false, false, false, false, false, false, false, false, false, false, false, false, false, false, false, false, false, false, false, false, false, false] rfl rfl (any_of HT_.out (by kernel_rfl)) (fun _ _ _ h => h) (Or.inl ⟨by rfl, ?_⟩) ?_ ?_
  rotate_left
  · intro w'
    go_simp
    with_reducible rfl
  rotate_left
  · simp only [Act.put, List.setIfInBounds_toArray, List.set_cons_zero, List.set_cons_succ, i64_w, i32_w]
    rfl
  refine pure_ (i := 9) (N := some 166) (v := ?_) (a' := ?_) #[true, true, true, true, true, true, true, true, true, true, false, false, false, false, false, false, false, false, false, false, false, false, false, false, false, false, false, false, false, false, false, false, false, false, false, false, false, false, false, false, false, false, false, false, false, false, false, false, false, false, false, false, false, false, false, false, false, false, false, false, false] rfl rfl (any_of HT_.out (by kernel_rfl)) (fun _ _ _ h => h) (Or.inl ⟨by rfl, ?_⟩) ?_ ?_
  rotate_left
  · intro w'
    go_simp
    with_reducible rfl
  rotate_left
  · simp only [Act.put, List.setIfInBounds_toArray, List.set_cons_zero, List.set_cons_succ, i64_w, i32_w]
    rfl
  refine take_ (i := 10) (N := some 167) (v := ?_) (a' := ?_) #[true, true, true, true, true, true, true, true, true, true, true, false, false, false, false, false, false, false, false, false, false, false, false, false, false, false, false, false, false, false, false, false, false, false, false, false, false, false, false, false, false, false, false, false, false, false, false, false, false, false, false, false, false, false, false, false, false, false, false, false, false] rfl rfl (take_of HT_.out (by kernel_rfl)) (fun _ _ _ h => h) (Or.inl ⟨by rfl, ?_⟩) hHeld ?_ ?_
  rotate_left
  · intro w' s0
    have hx : w'.cell? ⟨w9.heap.size, 0, none⟩ = some (.slice Ap 2 cp) := (blk_cell (blk_below HVp.out s0) 0).trans rfl
    go_simp
    with_reducible rfl
  rotate_left
  · simp only [Act.put, List.setIfInBounds_toArray, List.set_cons_zero, List.set_cons_succ, i64_w, i32_w]
    rfl
  have HZ := Aside0.mk hHeld
  refine join_ (σ := Nat × Nat) 48 #[true, true, true, true, true, true, true, true, true, true, true, true, true, false, false, false, false, false, false, false, false, false, false, false, false, false, false, false, false, false, false, false, false, false, false, false, false, false, false, false, false, false, false, false, false, false, false, false, false, false, false, false, false, false, false, false, false, false, false, false, false] (fun s => [(168, .slice (some ⟨s.1, 0, none⟩) 1 1), (169, .slice (some ⟨s.2, 0, none⟩) 1 1)]) (fun s W' => Below V.heap.size V W' ∧ Kd.C (Kd.int .u8) W' (some ⟨s.1, 0, none⟩) 1 [5] ∧ Kd.C (Kd.int .u8) W' (some ⟨s.2, 0, none⟩) 1 [2]) ?_ ?_
  rotate_left
  · intro hj
    refine two_ (i := 11) (j := 12) (Ni := some 168) (Nj := some 169) #[true, true, true, true, true, true, true, true, true, true, true, true, false, false, false, false, false, false, false, false, false, false, false, false, false, false, false, false, false, false, false, false, false, false, false, false, false, false, false, false, false, false, false, false, false, false, false, false, false, false, false, false, false, false, false, false, false, false, false, false, false] #[true, true, true, true, true, true, true, true, true, true, true, false, true, false, false, false, false, false, false, false, false, false, false, false, false, false, false, false, false, false, false, false, false, false, false, false, false, false, false, false, false, false, false, false, false, false, false, false, false, false, false, false, false, false, false, false, false, false, false, false, false] rfl rfl rfl rfl (two_of HT_.out (by kernel_rfl)) (by decide) (by decide) (fun K hK => ?_) (fun K hK => ?_)
    · refine value_ (w1 := ?_) (v := ?_) (by rfl) rfl ?_ ?_
      rotate_left 2
      · go_simp
        constructor
        · rfl
        · rfl
      refine hK.out _ _ (below_step HZ.out (below_alloc (Below.refl _ _) _)) (fun hHeld => ?_)
      clear hK K
      refine norm_ (a' := ?_) ?_ ?_
      rotate_left
      · show Act.put _ (some 168) _ = _
        simp only [Act.put, List.setIfInBounds_toArray, List.set_cons_zero, List.set_cons_succ, i64_w, i32_w]
        rfl
      refine one_ (i := 12) (N := some 169) #[true, true, true, true, true, true, true, true, true, true, true, true, true, false, false, false, false, false, false, false, false, false, false, false, false, false, false, false, false, false, false, false, false, false, false, false, false, false, false, false, false, false, false, false, false, false, false, false, false, false, false, false, false, false, false, false, false, false, false, false, false] rfl rfl (one_of HT_.out (by kernel_rfl)) (by decide) (fun K hK => ?_)
      refine value_ (w1 := ?_) (v := ?_) (by rfl) rfl ?_ ?_
      rotate_left 2
      · go_simp
        constructor
        · rfl
        · rfl
      refine hK.out _ _ (below_step HZ.out (below_alloc (below_alloc (Below.refl _ _) _) _)) (fun hHeld => ?_)
      clear hK K
      refine norm_ (a' := ?_) ?_ ?_
      rotate_left
      · show Act.put _ (some 169) _ = _
        simp only [Act.put, List.setIfInBounds_toArray, List.set_cons_zero, List.set_cons_succ, i64_w, i32_w]
        rfl
      exact norm_ (by rfl) (hj (V.heap.size, V.heap.size + 1) _ ⟨below_alloc (below_alloc (Below.refl _ _) _) _, Kd.C_alloc (C_lit V .u8 5 [5] (by simp)) _, by have z := C_lit (V.alloc (.cells #[.int .u8 5] 5)) .u8 5 [2] (by simp); simp only [World.size_alloc] at z; exact z⟩)
    · refine value_ (w1 := ?_) (v := ?_) (by rfl) rfl ?_ ?_
      rotate_left 2
      · go_simp
        constructor
        · rfl
        · rfl
      refine hK.out _ _ (below_step HZ.out (below_alloc (Below.refl _ _) _)) (fun hHeld => ?_)
      clear hK K
      refine norm_ (a' := ?_) ?_ ?_
      rotate_left
      · show Act.put _ (some 169) _ = _
        simp only [Act.put, List.setIfInBounds_toArray, List.set_cons_zero, List.set_cons_succ, i64_w, i32_w]
        rfl
      refine one_ (i := 11) (N := some 168) #[true, true, true, true, true, true, true, true, true, true, true, true, true, false, false, false, false, false, false, false, false, false, false, false, false, false, false, false, false, false, false, false, false, false, false, false, false, false, false, false, false, false, false, false, false, false, false, false, false, false, false, false, false, false, false, false, false, false, false, false, false] rfl rfl (one_of HT_.out (by kernel_rfl)) (by decide) (fun K hK => ?_)
      refine value_ (w1 := ?_) (v := ?_) (by rfl) rfl ?_ ?_
      rotate_left 2
      · go_simp
        constructor
        · rfl
        · rfl
      refine hK.out _ _ (below_step HZ.out (below_alloc (below_alloc (Below.refl _ _) _) _)) (fun hHeld => ?_)
      clear hK K
      refine norm_ (a' := ?_) ?_ ?_
      rotate_left
      · show Act.put _ (some 168) _ = _
        simp only [Act.put, List.setIfInBounds_toArray, List.set_cons_zero, List.set_cons_succ, i64_w, i32_w]
        rfl
      exact norm_ (by rfl) (hj (V.heap.size + 1, V.heap.size) _ ⟨below_alloc (below_alloc (Below.refl _ _) _) _, by have z := C_lit (V.alloc (.cells #[.int .u8 2] 5)) .u8 5 [5] (by simp); simp only [World.size_alloc] at z; exact z, Kd.C_alloc (C_lit V .u8 5 [2] (by simp)) _⟩)
  rintro ⟨g10, g10'⟩ V10 ⟨hz10, hza10, hzb10⟩
  have HZ10 := Aside0.mk (below_step HZ.out hz10)
  have HZa := Aside0.mk hza10
  have HZb := Aside0.mk hzb10
  clear hz10 hza10 hzb10 HZ hHeld
  refine norm_ (a' := ?_) ?_ ?_
  rotate_left
  · simp only [putAll, Act.put, List.setIfInBounds_toArray, List.set_cons_zero, List.set_cons_succ]
    rfl
  refine one_ (i := 13) (N := some 170) #[true, true, true, true, true, true, true, true, true, true, true, true, true, true, false, false, false, false, false, false, false, false, false, false, false, false, false, false, false, false, false, false, false, false, false, false, false, false, false, false, false, false, false, false, false, false, false, false, false, false, false, false, false, false, false, false, false, false, false, false, false] rfl rfl (one_of HT_.out (by kernel_rfl)) (by decide) (fun K hK => ?_)
  refine value_ (w1 := ?_) (v := ?_) (by rfl) rfl ?_ ?_
  rotate_left 2
  · go_simp
    constructor
    · rfl
    · rfl
  have HZr : Aside0 (Kd.C (Kd.slice 5 (Kd.int .u8)) (V10.alloc (.cells #[.slice (some ⟨g10, 0, none⟩) 1 1, .slice (some ⟨g10', 0, none⟩) 1 1] 22)) (some ⟨V10.heap.size, 0, none⟩) 2 [[5], [2]]) := ⟨C_rows V10 [(some ⟨g10, 0, none⟩, 1, [5]), (some ⟨g10', 0, none⟩, 1, [2])] (by simp) (by intro r hr; simp only [List.mem_cons, List.not_mem_nil, or_false] at hr; rcases hr with rfl | rfl; exact ⟨HZa.out, Nat.le_refl _⟩; exact ⟨HZb.out, Nat.le_refl _⟩)⟩
  refine hK.out _ _ (below_step HZ10.out (below_alloc (Below.refl _ _) _)) (fun hHeld => ?_)
  clear hK K
  refine norm_ (a' := ?_) ?_ ?_
  rotate_left
  · show Act.put _ (some 170) _ = _
    simp only [Act.put, List.setIfInBounds_toArray, List.set_cons_zero, List.set_cons_succ, i64_w, i32_w]
    rfl
  clear HZa HZb hHeld
  refine one_ (i := 14) (N := some 171) #[true, true, true, true, true, true, true, true, true, true, true, true, true, true, true, false, false, false, false, false, false, false, false, false, false, false, false, false, false, false, false, false, false, false, false, false, false, false, false, false, false, false, false, false, false, false, false, false, false, false, false, false, false, false, false, false, false, false, false, false, false] rfl rfl (one_of HT_.out (by kernel_rfl)) (by decide) (fun K hK => ?_)
  refine goes_ Try.func19 (by kernel_rfl) rfl #[.slice Ap 2 cp, .slice (some ⟨V10.heap.size, 0, none⟩) 2 2] (by rfl) rfl rfl (by (try simp only [List.map_toArray, List.map_cons, List.map_nil]); first | done | rfl) ?_
  refine (testamurref36_Same.calls 5 Ap cp [[5], [2]] (some ⟨V10.heap.size, 0, none⟩) 2 [[5], [2]] true _ (Kd.C_below HCp.out (below_step HZ10.out (below_alloc (Below.refl _ _) _))) hlp HZr.out (Nat.le_refl _) (by kernel_rfl)).mono ?_
  rintro e V_ ⟨rfl, hd⟩
  obtain ⟨nd, rfl⟩ := hd.out
  refine ⟨_, rfl, ?_⟩
  have HZ10' := Aside0.mk (pw_below_drewN (below_step HZ10.out (below_alloc (Below.refl _ _) (.cells #[.slice (some ⟨g10, 0, none⟩) 1 1, .slice (some ⟨g10', 0, none⟩) 1 1] 22))) nd)
  clear HZ10 HZr
  refine hK.out _ _ (HZ10'.out) (fun hHeld => ?_)
  clear hK K
  refine norm_ (a' := ?_) ?_ ?_
  rotate_left
  · show Act.put _ (some 171) _ = _
    simp only [Act.put, List.setIfInBounds_toArray, List.set_cons_zero, List.set_cons_succ, i64_w, i32_w]
    rfl
  clear HZ10' hd
  generalize ((V10.alloc (.cells #[.slice (some ⟨g10, 0, none⟩) 1 1, .slice (some ⟨g10', 0, none⟩) 1 1] 22)).drewN nd) = U10 at hHeld ⊢
  refine pure_ (i := 15) (N := some 172) (v := ?_) (a' := ?_) #[true, true, true, true, true, true, true, true, true, true, true, true, true, true, true, true, false, false, false, false, false, false, false, false, false, false, false, false, false, false, false, false, false, false, false, false, false, false, false, false, false, false, false, false, false, false, false, false, false, false, false, false, false, false, false, false, false, false, false, false, false] rfl rfl (any_of HT_.out (by kernel_rfl)) (fun _ _ _ h => h) (Or.inl ⟨by rfl, ?_⟩) ?_ ?_
  rotate_left
  · intro w'
    go_simp
    with_reducible rfl
  rotate_left
  · simp only [Act.put, List.setIfInBounds_toArray, List.set_cons_zero, List.set_cons_succ, i64_w, i32_w]
    rfl
  refine pure_ (i := 16) (N := some 173) (v := ?_) (a' := ?_) #[true, true, true, true, true, true, true, true, true, true, true, true, true, true, true, true, true, false, false, false, false, false, false, false, false, false, false, false, false, false, false, false, false, false, false, false, false, false, false, false, false, false, false, false, false, false, false, false, false, false, false, false, false, false, false, false, false, false, false, false, false] rfl rfl (any_of HT_.out (by kernel_rfl)) (fun _ _ _ h => h) (Or.inl ⟨by rfl, ?_⟩) ?_ ?_
  rotate_left
  · intro w'
    go_simp
    with_reducible rfl
  rotate_left
  · simp only [Act.put, List.setIfInBounds_toArray, List.set_cons_zero, List.set_cons_succ, i64_w, i32_w]
    rfl
  refine pure_ (i := 17) (N := some 174) (v := ?_) (a' := ?_) #[true, true, true, true, true, true, true, true, true, true, true, true, true, true, true, true, true, true, false, false, false, false, false, false, false, false, false, false, false, false, false, false, false, false, false, false, false, false, false, false, false, false, false, false, false, false, false, false, false, false, false, false, false, false, false, false, false, false, false, false, false] rfl rfl (any_of HT_.out (by kernel_rfl)) (fun _ _ _ h => h) (Or.inl ⟨by rfl, ?_⟩) ?_ ?_
  rotate_left
  · intro w'
    go_simp
    with_reducible rfl
  rotate_left
  · simp only [Act.put, List.setIfInBounds_toArray, List.set_cons_zero, List.set_cons_succ, i64_w, i32_w]
    rfl
  refine take_ (i := 18) (N := some 175) (v := ?_) (a' := ?_) #[true, true, true, true, true, true, true, true, true, true, true, true, true, true, true, true, true, true, true, false, false, false, false, false, false, false, false, false, false, false, false, false, false, false, false, false, false, false, false, false, false, false, false, false, false, false, false, false, false, false, false, false, false, false, false, false, false, false, false, false, false] rfl rfl (take_of HT_.out (by kernel_rfl)) (fun _ _ _ h => h) (Or.inl ⟨by rfl, ?_⟩) hHeld ?_ ?_
  rotate_left
  · intro w' s0
    have hx : w'.cell? ⟨w9.heap.size + 1, 0, none⟩ = some (.slice Aq 2 cq) := (blk_cell (blk_below HVq.out s0) 0).trans rfl
    go_simp
    with_reducible rfl
  rotate_left
  · simp only [Act.put, List.setIfInBounds_toArray, List.set_cons_zero, List.set_cons_succ, i64_w, i32_w]
    rfl
  have HZ := Aside0.mk hHeld
  refine join_ (σ := Nat × Nat) 40 #[true, true, true, true, true, true, true, true, true, true, true, true, true, true, true, true, true, true, true, true, true, false, false, false, false, false, false, false, false, false, false, false, false, false, false, false, false, false, false, false, false, false, false, false, false, false, false, false, false, false, false, false, false, false, false, false, false, false, false, false, false] (fun s => [(176, .slice (some ⟨s.1, 0, none⟩) 1 1), (177, .slice (some ⟨s.2, 0, none⟩) 1 1)]) (fun s W' => Below U10.heap.size U10 W' ∧ Kd.C (Kd.int .u8) W' (some ⟨s.1, 0, none⟩) 1 [7] ∧ Kd.C (Kd.int .u8) W' (some ⟨s.2, 0, none⟩) 1 [3]) ?_ ?_
  rotate_left
  · intro hj
    refine two_ (i := 19) (j := 20) (Ni := some 176) (Nj := some 177) #[true, true, true, true, true, true, true, true, true, true, true, true, true, true, true, true, true, true, true, true, false, false, false, false, false, false, false, false, false, false, false, false, false, false, false, false, false, false, false, false, false, false, false, false, false, false, false, false, false, false, false, false, false, false, false, false, false, false, false, false, false] #[true, true, true, true, true, true, true, true, true, true, true, true, true, true, true, true, true, true, true, false, true, false, false, false, false, false, false, false, false, false, false, false, false, false, false, false, false, false, false, false, false, false, false, false, false, false, false, false, false, false, false, false, false, false, false, false, false, false, false, false, false] rfl rfl rfl rfl (two_of HT_.out (by kernel_rfl)) (by decide) (by decide) (fun K hK => ?_) (fun K hK => ?_)
    · refine value_ (w1 := ?_) (v := ?_) (by rfl) rfl ?_ ?_
      rotate_left 2
      · go_simp
        constructor
        · rfl
        · rfl
      refine hK.out _ _ (below_step HZ.out (below_alloc (Below.refl _ _) _)) (fun hHeld => ?_)
      clear hK K
      refine norm_ (a' := ?_) ?_ ?_
      rotate_left
      · show Act.put _ (some 176) _ = _
        simp only [Act.put, List.setIfInBounds_toArray, List.set_cons_zero, List.set_cons_succ, i64_w, i32_w]
        rfl
      refine one_ (i := 20) (N := some 177) #[true, true, true, true, true, true, true, true, true, true, true, true, true, true, true, true, true, true, true, true, true, false, false, false, false, false, false, false, false, false, false, false, false, false, false, false, false, false, false, false, false, false, false, false, false, false, false, false, false, false, false, false, false, false, false, false, false, false, false, false, false] rfl rfl (one_of HT_.out (by kernel_rfl)) (by decide) (fun K hK => ?_)
      refine value_ (w1 := ?_) (v := ?_) (by rfl) rfl ?_ ?_
      rotate_left 2
      · go_simp
        constructor
        · rfl
        · rfl
      refine hK.out _ _ (below_step HZ.out (below_alloc (below_alloc (Below.refl _ _) _) _)) (fun hHeld => ?_)
      clear hK K
      refine norm_ (a' := ?_) ?_ ?_
      rotate_left
      · show Act.put _ (some 177) _ = _
        simp only [Act.put, List.setIfInBounds_toArray, List.set_cons_zero, List.set_cons_succ, i64_w, i32_w]
        rfl
      exact norm_ (by rfl) (hj (U10.heap.size, U10.heap.size + 1) _ ⟨below_alloc (below_alloc (Below.refl _ _) _) _, Kd.C_alloc (C_lit U10 .u8 5 [7] (by simp)) _, by have z := C_lit (U10.alloc (.cells #[.int .u8 7] 5)) .u8 5 [3] (by simp); simp only [World.size_alloc] at z; exact z⟩)
    · refine value_ (w1 := ?_) (v := ?_) (by rfl) rfl ?_ ?_
      rotate_left 2
      · go_simp
        constructor
        · rfl
        · rfl
      refine hK.out _ _ (below_step HZ.out (below_alloc (Below.refl _ _) _)) (fun hHeld => ?_)
      clear hK K
      refine norm_ (a' := ?_) ?_ ?_
      rotate_left
      · show Act.put _ (some 177) _ = _
        simp only [Act.put, List.setIfInBounds_toArray, List.set_cons_zero, List.set_cons_succ, i64_w, i32_w]
        rfl
      refine one_ (i := 19) (N := some 176) #[true, true, true, true, true, true, true, true, true, true, true, true, true, true, true, true, true, true, true, true, true, false, false, false, false, false, false, false, false, false, false, false, false, false, false, false, false, false, false, false, false, false, false, false, false, false, false, false, false, false, false, false, false, false, false, false, false, false, false, false, false] rfl rfl (one_of HT_.out (by kernel_rfl)) (by decide) (fun K hK => ?_)
      refine value_ (w1 := ?_) (v := ?_) (by rfl) rfl ?_ ?_
      rotate_left 2
      · go_simp
        constructor
        · rfl
        · rfl
      refine hK.out _ _ (below_step HZ.out (below_alloc (below_alloc (Below.refl _ _) _) _)) (fun hHeld => ?_)
      clear hK K
      refine norm_ (a' := ?_) ?_ ?_
      rotate_left
      · show Act.put _ (some 176) _ = _
        simp only [Act.put, List.setIfInBounds_toArray, List.set_cons_zero, List.set_cons_succ, i64_w, i32_w]
        rfl
      exact norm_ (by rfl) (hj (U10.heap.size + 1, U10.heap.size) _ ⟨below_alloc (below_alloc (Below.refl _ _) _) _, by have z := C_lit (U10.alloc (.cells #[.int .u8 3] 5)) .u8 5 [7] (by simp); simp only [World.size_alloc] at z; exact z, Kd.C_alloc (C_lit U10 .u8 5 [3] (by simp)) _⟩)
  rintro ⟨g18, g18'⟩ V18 ⟨hz18, hza18, hzb18⟩
  have HZ18 := Aside0.mk (below_step HZ.out hz18)
  have HZa := Aside0.mk hza18
  have HZb := Aside0.mk hzb18
  clear hz18 hza18 hzb18 HZ hHeld
  refine norm_ (a' := ?_) ?_ ?_
  rotate_left
  · simp only [putAll, Act.put, List.setIfInBounds_toArray, List.set_cons_zero, List.set_cons_succ]
    rfl
  refine one_ (i := 21) (N := some 178) #[true, true, true, true, true, true, true, true, true, true, true, true, true, true, true, true, true, true, true, true, true, true, false, false, false, false, false, false, false, false, false, false, false, false, false, false, false, false, false, false, false, false, false, false, false, false, false, false, false, false, false, false, false, false, false, false, false, false, false, false, false] rfl rfl (one_of HT_.out (by kernel_rfl)) (by decide) (fun K hK => ?_)
  refine value_ (w1 := ?_) (v := ?_) (by rfl) rfl ?_ ?_
  rotate_left 2
  · go_simp
    constructor
    · rfl
    · rfl
  have HZr : Aside0 (Kd.C (Kd.slice 5 (Kd.int .u8)) (V18.alloc (.cells #[.slice (some ⟨g18, 0, none⟩) 1 1, .slice (some ⟨g18', 0, none⟩) 1 1] 22)) (some ⟨V18.heap.size, 0, none⟩) 2 [[7], [3]]) := ⟨C_rows V18 [(some ⟨g18, 0, none⟩, 1, [7]), (some ⟨g18', 0, none⟩, 1, [3])] (by simp) (by intro r hr; simp only [List.mem_cons, List.not_mem_nil, or_false] at hr; rcases hr with rfl | rfl; exact ⟨HZa.out, Nat.le_refl _⟩; exact ⟨HZb.out, Nat.le_refl _⟩)⟩
  refine hK.out _ _ (below_step HZ18.out (below_alloc (Below.refl _ _) _)) (fun hHeld => ?_)
  clear hK K
  refine norm_ (a' := ?_) ?_ ?_
  rotate_left
  · show Act.put _ (some 178) _ = _
    simp only [Act.put, List.setIfInBounds_toArray, List.set_cons_zero, List.set_cons_succ, i64_w, i32_w]
    rfl
  clear HZa HZb hHeld
  refine one_ (i := 22) (N := some 179) #[true, true, true, true, true, true, true, true, true, true, true, true, true, true, true, true, true, true, true, true, true, true, true, false, false, false, false, false, false, false, false, false, false, false, false, false, false, false, false, false, false, false, false, false, false, false, false, false, false, false, false, false, false, false, false, false, false, false, false, false, false] rfl rfl (one_of HT_.out (by kernel_rfl)) (by decide) (fun K hK => ?_)
  refine goes_ Try.func19 (by kernel_rfl) rfl #[.slice Aq 2 cq, .slice (some ⟨V18.heap.size, 0, none⟩) 2 2] (by rfl) rfl rfl (by (try simp only [List.map_toArray, List.map_cons, List.map_nil]); first | done | rfl) ?_
  refine (testamurref36_Same.calls 5 Aq cq [[7], [3]] (some ⟨V18.heap.size, 0, none⟩) 2 [[7], [3]] true _ (Kd.C_below HCq.out (below_step HZ18.out (below_alloc (Below.refl _ _) _))) hlq HZr.out (Nat.le_refl _) (by kernel_rfl)).mono ?_
  rintro e V_ ⟨rfl, hd⟩
  obtain ⟨nd, rfl⟩ := hd.out
  refine ⟨_, rfl, ?_⟩
  have HZ18' := Aside0.mk (pw_below_drewN (below_step HZ18.out (below_alloc (Below.refl _ _) (.cells #[.slice (some ⟨g18, 0, none⟩) 1 1, .slice (some ⟨g18', 0, none⟩) 1 1] 22))) nd)
  clear HZ18 HZr
  refine hK.out _ _ (HZ18'.out) (fun hHeld => ?_)
  clear hK K
  refine norm_ (a' := ?_) ?_ ?_
  rotate_left
  · show Act.put _ (some 179) _ = _
    simp only [Act.put, List.setIfInBounds_toArray, List.set_cons_zero, List.set_cons_succ, i64_w, i32_w]
    rfl
  clear HZ18' hd
  generalize ((V18.alloc (.cells #[.slice (some ⟨g18, 0, none⟩) 1 1, .slice (some ⟨g18', 0, none⟩) 1 1] 22)).drewN nd) = U18 at hHeld ⊢
  refine pure_ (i := 23) (N := some 180) (v := ?_) (a' := ?_) #[true, true, true, true, true, true, true, true, true, true, true, true, true, true, true, true, true, true, true, true, true, true, true, true, false, false, false, false, false, false, false, false, false, false, false, false, false, false, false, false, false, false, false, false, false, false, false, false, false, false, false, false, false, false, false, false, false, false, false, false, false] rfl rfl (any_of HT_.out (by kernel_rfl)) (fun _ _ _ h => h) (Or.inl ⟨by rfl, ?_⟩) ?_ ?_
  rotate_left
  · intro w'
    go_simp
    with_reducible rfl
  rotate_left
  · simp only [Act.put, List.setIfInBounds_toArray, List.set_cons_zero, List.set_cons_succ, i64_w, i32_w]
    rfl
  refine pure_ (i := 24) (N := some 181) (v := ?_) (a' := ?_) #[true, true, true, true, true, true, true, true, true, true, true, true, true, true, true, true, true, true, true, true, true, true, true, true, true, false, false, false, false, false, false, false, false, false, false, false, false, false, false, false, false, false, false, false, false, false, false, false, false, false, false, false, false, false, false, false, false, false, false, false, false] rfl rfl (any_of HT_.out (by kernel_rfl)) (fun _ _ _ h => h) (Or.inl ⟨by rfl, ?_⟩) ?_ ?_
  rotate_left
  · intro w'
    go_simp
    with_reducible rfl
  rotate_left
  · simp only [Act.put, List.setIfInBounds_toArray, List.set_cons_zero, List.set_cons_succ, i64_w, i32_w]
    rfl
  refine pure_ (i := 25) (N := some 182) (v := ?_) (a' := ?_) #[true, true, true, true, true, true, true, true, true, true, true, true, true, true, true, true, true, true, true, true, true, true, true, true, true, true, false, false, false, false, false, false, false, false, false, false, false, false, false, false, false, false, false, false, false, false, false, false, false, false, false, false, false, false, false, false, false, false, false, false, false] rfl rfl (any_of HT_.out (by kernel_rfl)) (fun _ _ _ h => h) (Or.inl ⟨by rfl, ?_⟩) ?_ ?_
  rotate_left
  · intro w'
    go_simp
    with_reducible rfl
  rotate_left
  · simp only [Act.put, List.setIfInBounds_toArray, List.set_cons_zero, List.set_cons_succ, i64_w, i32_w]
    rfl
  refine take_ (i := 26) (N := some 183) (v := ?_) (a' := ?_) #[true, true, true, true, true, true, true, true, true, true, true, true, true, true, true, true, true, true, true, true, true, true, true, true, true, true, true, false, false, false, false, false, false, false, false, false, false, false, false, false, false, false, false, false, false, false, false, false, false, false, false, false, false, false, false, false, false, false, false, false, false] rfl rfl (take_of HT_.out (by kernel_rfl)) (fun _ _ _ h => h) (Or.inl ⟨by rfl, ?_⟩) hHeld ?_ ?_
  rotate_left
  · intro w' s0
    have hx : w'.cell? ⟨w10.heap.size, 0, none⟩ = some (.slice (some adr) 2 cr) := (blk_cell (blk_below HVr.out s0) 0).trans rfl
    go_simp
    with_reducible rfl
  rotate_left
  · simp only [Act.put, List.setIfInBounds_toArray, List.set_cons_zero, List.set_cons_succ, i64_w, i32_w]
    rfl
  refine pure_ (i := 27) (N := some 184) (v := ?_) (a' := ?_) #[true, true, true, true, true, true, true, true, true, true, true, true, true, true, true, true, true, true, true, true, true, true, true, true, true, true, true, true, false, false, false, false, false, false, false, false, false, false, false, false, false, false, false, false, false, false, false, false, false, false, false, false, false, false, false, false, false, false, false, false, false] rfl rfl (any_of HT_.out (by kernel_rfl)) (fun _ _ _ h => h) (Or.inl ⟨by rfl, ?_⟩) ?_ ?_
  rotate_left
  · intro w'
    go_simp
    with_reducible rfl
  rotate_left
  · simp only [Act.put, List.setIfInBounds_toArray, List.set_cons_zero, List.set_cons_succ, i64_w, i32_w]
    rfl
  refine take_ (i := 28) (N := some 185) (v := ?_) (a' := ?_) #[true, true, true, true, true, true, true, true, true, true, true, true, true, true, true, true, true, true, true, true, true, true, true, true, true, true, true, true, true, false, false, false, false, false, false, false, false, false, false, false, false, false, false, false, false, false, false, false, false, false, false, false, false, false, false, false, false, false, false, false, false] rfl rfl (take_of HT_.out (by kernel_rfl)) (fun _ _ _ h => h) (Or.inl ⟨by rfl, ?_⟩) hHeld ?_ ?_
  rotate_left
  · intro w' s0
    have hx : w'.cell? adr = some (.slice Ar0 16 cr0) := (s0.cell (World.block_lt_of_cell? V _ hr1)).trans hr1
    go_simp
    with_reducible rfl
  rotate_left
  · simp only [Act.put, List.setIfInBounds_toArray, List.set_cons_zero, List.set_cons_succ, i64_w, i32_w]
    rfl
  refine take_ (i := 29) (N := some 186) (v := ?_) (a' := ?_) #[true, true, true, true, true, true, true, true, true, true, true, true, true, true, true, true, true, true, true, true, true, true, true, true, true, true, true, true, true, true, false, false, false, false, false, false, false, false, false, false, false, false, false, false, false, false, false, false, false, false, false, false, false, false, false, false, false, false, false, false, false] rfl rfl (take_of HT_.out (by kernel_rfl)) (fun _ _ _ h => h) (Or.inl ⟨by rfl, ?_⟩) hHeld ?_ ?_
  rotate_left
  · intro w' s0
    have hcv : (convert 22 9 (.slice Ar0 16 cr0)).run Try.prog w' = .ok (.string ⟨#[19, 0, 0, 0, 0, 0, 0, 0, 0, 0, 0, 0, 0, 0, 0, 0]⟩) w' := Kd.C_string Try.underlying22 Try.underlying5 Try.underlying9 (Kd.C_below HCr.out s0)
    go_simp
    with_reducible rfl
  rotate_left
  · simp only [Act.put, List.setIfInBounds_toArray, List.set_cons_zero, List.set_cons_succ, i64_w, i32_w]
    rfl
  refine one_ (i := 30) (N := some 187) #[true, true, true, true, true, true, true, true, true, true, true, true, true, true, true, true, true, true, true, true, true, true, true, true, true, true, true, true, true, true, true, false, false, false, false, false, false, false, false, false, false, false, false, false, false, false, false, false, false, false, false, false, false, false, false, false, false, false, false, false, false] rfl rfl (one_of HT_.out (by kernel_rfl)) (by decide) (fun K hK => ?_)
  refine goes_ Try.func23 (by kernel_rfl) rfl #[.int .u8 19] (by rfl) rfl rfl (by (try simp only [List.map_toArray, List.map_cons, List.map_nil]); first | done | rfl) ?_
  refine (testamurlaw36_block.calls 19 _ _ rfl).mono ?_
  rintro e U30 ⟨vb, rfl, hb, hbel⟩
  obtain ⟨Ab, cb, eb⟩ := Kd.R_slice hb
  simp only [List.length_cons, List.length_replicate, Nat.reduceAdd] at eb
  subst eb
  refine ⟨_, rfl, ?_⟩
  have HZ := Aside0.mk (below_step hHeld hbel)
  have HN := Aside0.mk (R_C hb).1
  clear hb hbel hHeld
  refine hK.out _ _ (HZ.out) (fun hHeld => ?_)
  clear hK K
  refine norm_ (a' := ?_) ?_ ?_
  rotate_left
  · show Act.put _ (some 187) _ = _
    simp only [Act.put, List.setIfInBounds_toArray, List.set_cons_zero, List.set_cons_succ, i64_w, i32_w]
    rfl
  clear HZ
  refine one_ (i := 31) (N := some 188) #[true, true, true, true, true, true, true, true, true, true, true, true, true, true, true, true, true, true, true, true, true, true, true, true, true, true, true, true, true, true, true, true, false, false, false, false, false, false, false, false, false, false, false, false, false, false, false, false, false, false, false, false, false, false, false, false, false, false, false, false, false] rfl rfl (one_of HT_.out (by kernel_rfl)) (by decide) (fun K hK => ?_)
  have hcv : (convert 22 9 (.slice Ab 16 cb)).run Try.prog U30 = .ok (.string ⟨#[19, 0, 0, 0, 0, 0, 0, 0, 0, 0, 0, 0, 0, 0, 0, 0]⟩) U30 := Kd.C_string Try.underlying22 Try.underlying5 Try.underlying9 HN.out
  refine value_ (w1 := ?_) (v := ?_) (by rfl) rfl ?_ ?_
  rotate_left 2
  · go_simp
    constructor
    · rfl
    · rfl
  have HZ := Aside0.mk hHeld
  clear hHeld
  refine hK.out _ _ (HZ.out) (fun hHeld => ?_)
  clear hK K
  refine norm_ (a' := ?_) ?_ ?_
  rotate_left
  · show Act.put _ (some 188) _ = _
    simp only [Act.put, List.setIfInBounds_toArray, List.set_cons_zero, List.set_cons_succ, i64_w, i32_w]
    rfl
  clear HZ HN
  refine pure_ (i := 32) (N := some 189) (v := ?_) (a' := ?_) #[true, true, true, true, true, true, true, true, true, true, true, true, true, true, true, true, true, true, true, true, true, true, true, true, true, true, true, true, true, true, true, true, true, false, false, false, false, false, false, false, false, false, false, false, false, false, false, false, false, false, false, false, false, false, false, false, false, false, false, false, false] rfl rfl (any_of HT_.out (by kernel_rfl)) (fun _ _ _ h => h) (Or.inl ⟨by rfl, ?_⟩) ?_ ?_
  rotate_left
  · intro w'
    go_simp
    with_reducible rfl
  rotate_left
  · simp only [Act.put, List.setIfInBounds_toArray, List.set_cons_zero, List.set_cons_succ, i64_w, i32_w]
    rfl
  refine pure_ (i := 33) (N := some 190) (v := ?_) (a' := ?_) #[true, true, true, true, true, true, true, true, true, true, true, true, true, true, true, true, true, true, true, true, true, true, true, true, true, true, true, true, true, true, true, true, true, true, false, false, false, false, false, false, false, false, false, false, false, false, false, false, false, false, false, false, false, false, false, false, false, false, false, false, false] rfl rfl (any_of HT_.out (by kernel_rfl)) (fun _ _ _ h => h) (Or.inl ⟨by rfl, ?_⟩) ?_ ?_
  rotate_left
  · intro w'
    go_simp
    with_reducible rfl
  rotate_left
  · simp only [Act.put, List.setIfInBounds_toArray, List.set_cons_zero, List.set_cons_succ, i64_w, i32_w]
    rfl
  refine pure_ (i := 34) (N := some 191) (v := ?_) (a' := ?_) #[true, true, true, true, true, true, true, true, true, true, true, true, true, true, true, true, true, true, true, true, true, true, true, true, true, true, true, true, true, true, true, true, true, true, true, false, false, false, false, false, false, false, false, false, false, false, false, false, false, false, false, false, false, false, false, false, false, false, false, false, false] rfl rfl (any_of HT_.out (by kernel_rfl)) (fun _ _ _ h => h) (Or.inl ⟨by rfl, ?_⟩) ?_ ?_
  rotate_left
  · intro w'
    go_simp
    with_reducible rfl
  rotate_left
  · simp only [Act.put, List.setIfInBounds_toArray, List.set_cons_zero, List.set_cons_succ, i64_w, i32_w]
    rfl
  refine pure_ (i := 35) (N := some 192) (v := ?_) (a' := ?_) #[true, true, true, true, true, true, true, true, true, true, true, true, true, true, true, true, true, true, true, true, true, true, true, true, true, true, true, true, true, true, true, true, true, true, true, true, false, false, false, false, false, false, false, false, false, false, false, false, false, false, false, false, false, false, false, false, false, false, false, false, false] rfl rfl (any_of HT_.out (by kernel_rfl)) (fun _ _ _ h => h) (Or.inl ⟨by rfl, ?_⟩) ?_ ?_
  rotate_left
  · intro w'
    go_simp
    with_reducible rfl
  rotate_left
  · simp only [Act.put, List.setIfInBounds_toArray, List.set_cons_zero, List.set_cons_succ, i64_w, i32_w]
    rfl
  refine take_ (i := 36) (N := some 193) (v := ?_) (a' := ?_) #[true, true, true, true, true, true, true, true, true, true, true, true, true, true, true, true, true, true, true, true, true, true, true, true, true, true, true, true, true, true, true, true, true, true, true, true, true, false, false, false, false, false, false, false, false, false, false, false, false, false, false, false, false, false, false, false, false, false, false, false, false] rfl rfl (take_of HT_.out (by kernel_rfl)) (fun _ _ _ h => h) (Or.inl ⟨by rfl, ?_⟩) hHeld ?_ ?_
  rotate_left
  · intro w' s0
    have hx : w'.cell? ⟨w11.heap.size, 0, none⟩ = some (.slice (some ads) 2 cs) := (blk_cell (blk_below HVs.out s0) 0).trans rfl
    go_simp
    with_reducible rfl
  rotate_left
  · simp only [Act.put, List.setIfInBounds_toArray, List.set_cons_zero, List.set_cons_succ, i64_w, i32_w]
    rfl
  refine pure_ (i := 37) (N := some 194) (v := ?_) (a' := ?_) #[true, true, true, true, true, true, true, true, true, true, true, true, true, true, true, true, true, true, true, true, true, true, true, true, true, true, true, true, true, true, true, true, true, true, true, true, true, true, false, false, false, false, false, false, false, false, false, false, false, false, false, false, false, false, false, false, false, false, false, false, false] rfl rfl (any_of HT_.out (by kernel_rfl)) (fun _ _ _ h => h) (Or.inl ⟨by rfl, ?_⟩) ?_ ?_
  rotate_left
  · intro w'
    go_simp
    with_reducible rfl
  rotate_left
  · simp only [Act.put, List.setIfInBounds_toArray, List.set_cons_zero, List.set_cons_succ, i64_w, i32_w]
    rfl
  refine take_ (i := 38) (N := some 195) (v := ?_) (a' := ?_) #[true, true, true, true, true, true, true, true, true, true, true, true, true, true, true, true, true, true, true, true, true, true, true, true, true, true, true, true, true, true, true, true, true, true, true, true, true, true, true, false, false, false, false, false, false, false, false, false, false, false, false, false, false, false, false, false, false, false, false, false, false] rfl rfl (take_of HT_.out (by kernel_rfl)) (fun _ _ _ h => h) (Or.inl ⟨by rfl, ?_⟩) hHeld ?_ ?_
  rotate_left
  · intro w' s0
    have hx : w'.cell? ads = some (.slice As0 16 cs0) := (s0.cell (World.block_lt_of_cell? V _ hs1)).trans hs1
    go_simp
    with_reducible rfl
  rotate_left
  · simp only [Act.put, List.setIfInBounds_toArray, List.set_cons_zero, List.set_cons_succ, i64_w, i32_w]
    rfl
  refine take_ (i := 39) (N := some 196) (v := ?_) (a' := ?_) #[true, true, true, true, true, true, true, true, true, true, true, true, true, true, true, true, true, true, true, true, true, true, true, true, true, true, true, true, true, true, true, true, true, true, true, true, true, true, true, true, false, false, false, false, false, false, false, false, false, false, false, false, false, false, false, false, false, false, false, false, false] rfl rfl (take_of HT_.out (by kernel_rfl)) (fun _ _ _ h => h) (Or.inl ⟨by rfl, ?_⟩) hHeld ?_ ?_
  rotate_left
  · intro w' s0
    have hcv : (convert 22 9 (.slice As0 16 cs0)).run Try.prog w' = .ok (.string ⟨#[22, 0, 0, 0, 0, 0, 0, 0, 0, 0, 0, 0, 0, 0, 0, 0]⟩) w' := Kd.C_string Try.underlying22 Try.underlying5 Try.underlying9 (Kd.C_below HCs.out s0)
    go_simp
    with_reducible rfl
  rotate_left
  · simp only [Act.put, List.setIfInBounds_toArray, List.set_cons_zero, List.set_cons_succ, i64_w, i32_w]
    rfl
  refine one_ (i := 40) (N := some 197) #[true, true, true, true, true, true, true, true, true, true, true, true, true, true, true, true, true, true, true, true, true, true, true, true, true, true, true, true, true, true, true, true, true, true, true, true, true, true, true, true, true, false, false, false, false, false, false, false, false, false, false, false, false, false, false, false, false, false, false, false, false] rfl rfl (one_of HT_.out (by kernel_rfl)) (by decide) (fun K hK => ?_)
  refine goes_ Try.func23 (by kernel_rfl) rfl #[.int .u8 22] (by rfl) rfl rfl (by (try simp only [List.map_toArray, List.map_cons, List.map_nil]); first | done | rfl) ?_
  refine (testamurlaw36_block.calls 22 _ _ rfl).mono ?_
  rintro e U40 ⟨vb, rfl, hb, hbel⟩
  obtain ⟨Ab, cb, eb⟩ := Kd.R_slice hb
  simp only [List.length_cons, List.length_replicate, Nat.reduceAdd] at eb
  subst eb
  refine ⟨_, rfl, ?_⟩
  have HZ := Aside0.mk (below_step hHeld hbel)
  have HN := Aside0.mk (R_C hb).1
  clear hb hbel hHeld
  refine hK.out _ _ (HZ.out) (fun hHeld => ?_)
  clear hK K
  refine norm_ (a' := ?_) ?_ ?_
  rotate_left
  · show Act.put _ (some 197) _ = _
    simp only [Act.put, List.setIfInBounds_toArray, List.set_cons_zero, List.set_cons_succ, i64_w, i32_w]
    rfl
  clear HZ
  refine one_ (i := 41) (N := some 198) #[true, true, true, true, true, true, true, true, true, true, true, true, true, true, true, true, true, true, true, true, true, true, true, true, true, true, true, true, true, true, true, true, true, true, true, true, true, true, true, true, true, true, false, false, false, false, false, false, false, false, false, false, false, false, false, false, false, false, false, false, false] rfl rfl (one_of HT_.out (by kernel_rfl)) (by decide) (fun K hK => ?_)
  have hcv : (convert 22 9 (.slice Ab 16 cb)).run Try.prog U40 = .ok (.string ⟨#[22, 0, 0, 0, 0, 0, 0, 0, 0, 0, 0, 0, 0, 0, 0, 0]⟩) U40 := Kd.C_string Try.underlying22 Try.underlying5 Try.underlying9 HN.out
  refine value_ (w1 := ?_) (v := ?_) (by rfl) rfl ?_ ?_
  rotate_left 2
  · go_simp
    constructor
    · rfl
    · rfl
  have HZ := Aside0.mk hHeld
  clear hHeld
  refine hK.out _ _ (HZ.out) (fun hHeld => ?_)
  clear hK K
  refine norm_ (a' := ?_) ?_ ?_
  rotate_left
  · show Act.put _ (some 198) _ = _
    simp only [Act.put, List.setIfInBounds_toArray, List.set_cons_zero, List.set_cons_succ, i64_w, i32_w]
    rfl
  clear HZ HN
  refine pure_ (i := 42) (N := some 199) (v := ?_) (a' := ?_) #[true, true, true, true, true, true, true, true, true, true, true, true, true, true, true, true, true, true, true, true, true, true, true, true, true, true, true, true, true, true, true, true, true, true, true, true, true, true, true, true, true, true, true, false, false, false, false, false, false, false, false, false, false, false, false, false, false, false, false, false, false] rfl rfl (any_of HT_.out (by kernel_rfl)) (fun _ _ _ h => h) (Or.inl ⟨by rfl, ?_⟩) ?_ ?_
  rotate_left
  · intro w'
    go_simp
    with_reducible rfl
  rotate_left
  · simp only [Act.put, List.setIfInBounds_toArray, List.set_cons_zero, List.set_cons_succ, i64_w, i32_w]
    rfl
  refine pure_ (i := 43) (N := some 200) (v := ?_) (a' := ?_) #[true, true, true, true, true, true, true, true, true, true, true, true, true, true, true, true, true, true, true, true, true, true, true, true, true, true, true, true, true, true, true, true, true, true, true, true, true, true, true, true, true, true, true, true, false, false, false, false, false, false, false, false, false, false, false, false, false, false, false, false, false] rfl rfl (any_of HT_.out (by kernel_rfl)) (fun _ _ _ h => h) (Or.inl ⟨by rfl, ?_⟩) ?_ ?_
  rotate_left
  · intro w'
    go_simp
    with_reducible rfl
  rotate_left
  · simp only [Act.put, List.setIfInBounds_toArray, List.set_cons_zero, List.set_cons_succ, i64_w, i32_w]
    rfl
  refine pure_ (i := 44) (N := some 201) (v := ?_) (a' := ?_) #[true, true, true, true, true, true, true, true, true, true, true, true, true, true, true, true, true, true, true, true, true, true, true, true, true, true, true, true, true, true, true, true, true, true, true, true, true, true, true, true, true, true, true, true, true, false, false, false, false, false, false, false, false, false, false, false, false, false, false, false, false] rfl rfl (any_of HT_.out (by kernel_rfl)) (fun _ _ _ h => h) (Or.inl ⟨by rfl, ?_⟩) ?_ ?_
  rotate_left
  · intro w'
    go_simp
    with_reducible rfl
  rotate_left
  · simp only [Act.put, List.setIfInBounds_toArray, List.set_cons_zero, List.set_cons_succ, i64_w, i32_w]
    rfl
  refine pure_ (i := 45) (N := some 202) (v := ?_) (a' := ?_) #[true, true, true, true, true, true, true, true, true, true, true, true, true, true, true, true, true, true, true, true, true, true, true, true, true, true, true, true, true, true, true, true, true, true, true, true, true, true, true, true, true, true, true, true, true, true, false, false, false, false, false, false, false, false, false, false, false, false, false, false, false] rfl rfl (any_of HT_.out (by kernel_rfl)) (fun _ _ _ h => h) (Or.inl ⟨by rfl, ?_⟩) ?_ ?_
  rotate_left
  · intro w'
    go_simp
    with_reducible rfl
  rotate_left
  · simp only [Act.put, List.setIfInBounds_toArray, List.set_cons_zero, List.set_cons_succ, i64_w, i32_w]
    rfl
  refine pure_ (i := 46) (N := some 203) (v := ?_) (a' := ?_) #[true, true, true, true, true, true, true, true, true, true, true, true, true, true, true, true, true, true, true, true, true, true, true, true, true, true, true, true, true, true, true, true, true, true, true, true, true, true, true, true, true, true, true, true, true, true, true, false, false, false, false, false, false, false, false, false, false, false, false, false, false] rfl rfl (any_of HT_.out (by kernel_rfl)) (fun _ _ _ h => h) (Or.inl ⟨by rfl, ?_⟩) ?_ ?_
  rotate_left
  · intro w'
    go_simp
    with_reducible rfl
  rotate_left
  · simp only [Act.put, List.setIfInBounds_toArray, List.set_cons_zero, List.set_cons_succ, i64_w, i32_w]
    rfl
  refine pure_ (i := 47) (N := some 204) (v := ?_) (a' := ?_) #[true, true, true, true, true, true, true, true, true, true, true, true, true, true, true, true, true, true, true, true, true, true, true, true, true, true, true, true, true, true, true, true, true, true, true, true, true, true, true, true, true, true, true, true, true, true, true, true, false, false, false, false, false, false, false, false, false, false, false, false, false] rfl rfl (any_of HT_.out (by kernel_rfl)) (fun _ _ _ h => h) (Or.inl ⟨by rfl, ?_⟩) ?_ ?_
  rotate_left
  · intro w'
    go_simp
    with_reducible rfl
  rotate_left
  · simp only [Act.put, List.setIfInBounds_toArray, List.set_cons_zero, List.set_cons_succ, i64_w, i32_w]
    rfl
  refine pure_ (i := 48) (N := some 205) (v := ?_) (a' := ?_) #[true, true, true, true, true, true, true, true, true, true, true, true, true, true, true, true, true, true, true, true, true, true, true, true, true, true, true, true, true, true, true, true, true, true, true, true, true, true, true, true, true, true, true, true, true, true, true, true, true, false, false, false, false, false, false, false, false, false, false, false, false] rfl rfl (any_of HT_.out (by kernel_rfl)) (fun _ _ _ h => h) (Or.inl ⟨by rfl, ?_⟩) ?_ ?_
  rotate_left
  · intro w'
    go_simp
    with_reducible rfl
  rotate_left
  · simp only [Act.put, List.setIfInBounds_toArray, List.set_cons_zero, List.set_cons_succ, i64_w, i32_w]
    rfl
  refine pure_ (i := 49) (N := some 206) (v := ?_) (a' := ?_) #[true, true, true, true, true, true, true, true, true, true, true, true, true, true, true, true, true, true, true, true, true, true, true, true, true, true, true, true, true, true, true, true, true, true, true, true, true, true, true, true, true, true, true, true, true, true, true, true, true, true, false, false, false, false, false, false, false, false, false, false, false] rfl rfl (any_of HT_.out (by kernel_rfl)) (fun _ _ _ h => h) (Or.inl ⟨by rfl, ?_⟩) ?_ ?_
  rotate_left
  · intro w'
    go_simp
    with_reducible rfl
  rotate_left
  · simp only [Act.put, List.setIfInBounds_toArray, List.set_cons_zero, List.set_cons_succ, i64_w, i32_w]
    rfl
  refine take_ (i := 50) (N := some 207) (v := ?_) (a' := ?_) #[true, true, true, true, true, true, true, true, true, true, true, true, true, true, true, true, true, true, true, true, true, true, true, true, true, true, true, true, true, true, true, true, true, true, true, true, true, true, true, true, true, true, true, true, true, true, true, true, true, true, true, false, false, false, false, false, false, false, false, false, false] rfl rfl (take_of HT_.out (by kernel_rfl)) (fun _ _ _ h => h) (Or.inl ⟨by rfl, ?_⟩) hHeld ?_ ?_
  rotate_left
  · intro w' s0
    have hcv : (convert 22 9 (.slice Ay 16 cy)).run Try.prog w' = .ok (.string ⟨#[5, 0, 0, 0, 0, 0, 0, 0, 0, 0, 0, 0, 0, 0, 0, 0]⟩) w' := Kd.C_string Try.underlying22 Try.underlying5 Try.underlying9 (Kd.C_below HCy.out s0)
    go_simp
    with_reducible rfl
  rotate_left
  · simp only [Act.put, List.setIfInBounds_toArray, List.set_cons_zero, List.set_cons_succ, i64_w, i32_w]
    rfl
  refine one_ (i := 51) (N := some 208) #[true, true, true, true, true, true, true, true, true, true, true, true, true, true, true, true, true, true, true, true, true, true, true, true, true, true, true, true, true, true, true, true, true, true, true, true, true, true, true, true, true, true, true, true, true, true, true, true, true, true, true, true, false, false, false, false, false, false, false, false, false] rfl rfl (one_of HT_.out (by kernel_rfl)) (by decide) (fun K hK => ?_)
  refine goes_ Try.func23 (by kernel_rfl) rfl #[.int .u8 5] (by rfl) rfl rfl (by (try simp only [List.map_toArray, List.map_cons, List.map_nil]); first | done | rfl) ?_
  refine (testamurlaw36_block.calls 5 _ _ rfl).mono ?_
  rintro e U51 ⟨vb, rfl, hb, hbel⟩
  obtain ⟨Ab, cb, eb⟩ := Kd.R_slice hb
  simp only [List.length_cons, List.length_replicate, Nat.reduceAdd] at eb
  subst eb
  refine ⟨_, rfl, ?_⟩
  have HZ := Aside0.mk (below_step hHeld hbel)
  have HN := Aside0.mk (R_C hb).1
  clear hb hbel hHeld
  refine hK.out _ _ (HZ.out) (fun hHeld => ?_)
  clear hK K
  refine norm_ (a' := ?_) ?_ ?_
  rotate_left
  · show Act.put _ (some 208) _ = _
    simp only [Act.put, List.setIfInBounds_toArray, List.set_cons_zero, List.set_cons_succ, i64_w, i32_w]
    rfl
  clear HZ
  refine one_ (i := 52) (N := some 209) #[true, true, true, true, true, true, true, true, true, true, true, true, true, true, true, true, true, true, true, true, true, true, true, true, true, true, true, true, true, true, true, true, true, true, true, true, true, true, true, true, true, true, true, true, true, true, true, true, true, true, true, true, true, false, false, false, false, false, false, false, false] rfl rfl (one_of HT_.out (by kernel_rfl)) (by decide) (fun K hK => ?_)
  have hcv : (convert 22 9 (.slice Ab 16 cb)).run Try.prog U51 = .ok (.string ⟨#[5, 0, 0, 0, 0, 0, 0, 0, 0, 0, 0, 0, 0, 0, 0, 0]⟩) U51 := Kd.C_string Try.underlying22 Try.underlying5 Try.underlying9 HN.out
  refine value_ (w1 := ?_) (v := ?_) (by rfl) rfl ?_ ?_
  rotate_left 2
  · go_simp
    constructor
    · rfl
    · rfl
  have HZ := Aside0.mk hHeld
  clear hHeld
  refine hK.out _ _ (HZ.out) (fun hHeld => ?_)
  clear hK K
  refine norm_ (a' := ?_) ?_ ?_
  rotate_left
  · show Act.put _ (some 209) _ = _
    simp only [Act.put, List.setIfInBounds_toArray, List.set_cons_zero, List.set_cons_succ, i64_w, i32_w]
    rfl
  clear HZ HN
  refine pure_ (i := 53) (N := some 210) (v := ?_) (a' := ?_) #[true, true, true, true, true, true, true, true, true, true, true, true, true, true, true, true, true, true, true, true, true, true, true, true, true, true, true, true, true, true, true, true, true, true, true, true, true, true, true, true, true, true, true, true, true, true, true, true, true, true, true, true, true, true, false, false, false, false, false, false, false] rfl rfl (any_of HT_.out (by kernel_rfl)) (fun _ _ _ h => h) (Or.inl ⟨by rfl, ?_⟩) ?_ ?_
  rotate_left
  · intro w'
    go_simp
    with_reducible rfl
  rotate_left
  · simp only [Act.put, List.setIfInBounds_toArray, List.set_cons_zero, List.set_cons_succ, i64_w, i32_w]
    rfl
  refine pure_ (i := 54) (N := some 211) (v := ?_) (a' := ?_) #[true, true, true, true, true, true, true, true, true, true, true, true, true, true, true, true, true, true, true, true, true, true, true, true, true, true, true, true, true, true, true, true, true, true, true, true, true, true, true, true, true, true, true, true, true, true, true, true, true, true, true, true, true, true, true, false, false, false, false, false, false] rfl rfl (any_of HT_.out (by kernel_rfl)) (fun _ _ _ h => h) (Or.inl ⟨by rfl, ?_⟩) ?_ ?_
  rotate_left
  · intro w'
    go_simp
    with_reducible rfl
  rotate_left
  · simp only [Act.put, List.setIfInBounds_toArray, List.set_cons_zero, List.set_cons_succ, i64_w, i32_w]
    rfl
  refine pure_ (i := 55) (N := some 212) (v := ?_) (a' := ?_) #[true, true, true, true, true, true, true, true, true, true, true, true, true, true, true, true, true, true, true, true, true, true, true, true, true, true, true, true, true, true, true, true, true, true, true, true, true, true, true, true, true, true, true, true, true, true, true, true, true, true, true, true, true, true, true, true, false, false, false, false, false] rfl rfl (any_of HT_.out (by kernel_rfl)) (fun _ _ _ h => h) (Or.inl ⟨by rfl, ?_⟩) ?_ ?_
  rotate_left
  · intro w'
    go_simp
    with_reducible rfl
  rotate_left
  · simp only [Act.put, List.setIfInBounds_toArray, List.set_cons_zero, List.set_cons_succ, i64_w, i32_w]
    rfl
  refine pure_ (i := 56) (N := some 213) (v := ?_) (a' := ?_) #[true, true, true, true, true, true, true, true, true, true, true, true, true, true, true, true, true, true, true, true, true, true, true, true, true, true, true, true, true, true, true, true, true, true, true, true, true, true, true, true, true, true, true, true, true, true, true, true, true, true, true, true, true, true, true, true, true, false, false, false, false] rfl rfl (any_of HT_.out (by kernel_rfl)) (fun _ _ _ h => h) (Or.inl ⟨by rfl, ?_⟩) ?_ ?_
  rotate_left
  · intro w'
    go_simp
    with_reducible rfl
  rotate_left
  · simp only [Act.put, List.setIfInBounds_toArray, List.set_cons_zero, List.set_cons_succ, i64_w, i32_w]
    rfl
  refine take_ (i := 57) (N := some 214) (v := ?_) (a' := ?_) #[true, true, true, true, true, true, true, true, true, true, true, true, true, true, true, true, true, true, true, true, true, true, true, true, true, true, true, true, true, true, true, true, true, true, true, true, true, true, true, true, true, true, true, true, true, true, true, true, true, true, true, true, true, true, true, true, true, true, false, false, false] rfl rfl (take_of HT_.out (by kernel_rfl)) (fun _ _ _ h => h) (Or.inl ⟨by rfl, ?_⟩) hHeld ?_ ?_
  rotate_left
  · intro w' s0
    have hcv : (convert 22 9 (.slice Ax 1 cx)).run Try.prog w' = .ok (.string ⟨#[3]⟩) w' := Kd.C_string Try.underlying22 Try.underlying5 Try.underlying9 (Kd.C_below HCx.out s0)
    go_simp
    with_reducible rfl
  rotate_left
  · simp only [Act.put, List.setIfInBounds_toArray, List.set_cons_zero, List.set_cons_succ, i64_w, i32_w]
    rfl
  refine pure_ (i := 58) (N := some 215) (v := ?_) (a' := ?_) #[true, true, true, true, true, true, true, true, true, true, true, true, true, true, true, true, true, true, true, true, true, true, true, true, true, true, true, true, true, true, true, true, true, true, true, true, true, true, true, true, true, true, true, true, true, true, true, true, true, true, true, true, true, true, true, true, true, true, true, false, false] rfl rfl (any_of HT_.out (by kernel_rfl)) (fun _ _ _ h => h) (Or.inl ⟨by rfl, ?_⟩) ?_ ?_
  rotate_left
  · intro w'
    go_simp
    with_reducible rfl
  rotate_left
  · simp only [Act.put, List.setIfInBounds_toArray, List.set_cons_zero, List.set_cons_succ, i64_w, i32_w]
    rfl
  refine pure_ (i := 59) (N := some 216) (v := ?_) (a' := ?_) #[true, true, true, true, true, true, true, true, true, true, true, true, true, true, true, true, true, true, true, true, true, true, true, true, true, true, true, true, true, true, true, true, true, true, true, true, true, true, true, true, true, true, true, true, true, true, true, true, true, true, true, true, true, true, true, true, true, true, true, true, false] rfl rfl (any_of HT_.out (by kernel_rfl)) (fun _ _ _ h => h) (Or.inl ⟨by rfl, ?_⟩) ?_ ?_
  rotate_left
  · intro w'
    go_simp
    with_reducible rfl
  rotate_left
  · simp only [Act.put, List.setIfInBounds_toArray, List.set_cons_zero, List.set_cons_succ, i64_w, i32_w]
    rfl
  refine pure_ (i := 60) (N := some 0) (v := ?_) (a' := ?_) #[true, true, true, true, true, true, true, true, true, true, true, true, true, true, true, true, true, true, true, true, true, true, true, true, true, true, true, true, true, true, true, true, true, true, true, true, true, true, true, true, true, true, true, true, true, true, true, true, true, true, true, true, true, true, true, true, true, true, true, true, true] rfl rfl (any_of HT_.out (by kernel_rfl)) (fun _ _ _ h => h) (Or.inl ⟨by rfl, ?_⟩) ?_ ?_
  rotate_left
  · intro w'
    go_simp
    with_reducible rfl
  rotate_left
  · simp only [Act.put, List.setIfInBounds_toArray, List.set_cons_zero, List.set_cons_succ, i64_w, i32_w]
    rfl
  refine done_ (done_of HT_.out (by kernel_rfl)) ?_
  have HE := Aside0.mk (below_step BB.out hHeld)
  clear hHeld
  go_wp2
  go_ret
  exact ⟨rfl, HE.out⟩

theorem testamurlaw36_sane.calls (r : Bool) (w : World) (h : testamurlaw36_sane.f = some r) :
    Calls Try.prog 9 #[] w fun e w' => e = .returned (.bool r) ∧ Below w.heap.size w w' := by
  obtain rfl : true = r := Option.some.inj h
  exact sane_calls w


end Go.Proofs.Ytekpbncljaeemaa.Q
