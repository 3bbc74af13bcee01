import Derived.Test.YtekpbncljaeemaaLb
import Derived.Test.YtekpbncljaeemaaPe
namespace Go.Proofs.Ytekpbncljaeemaa.Q
open Go.RowKit Go.Proofs.YtekpbncljaeemaaW.PrintWords Go.Proofs.YtekpbncljaeemaaW.PrintLast Go.Proofs.YtekpbncljaeemaaW.PrintMore
attribute [local go_sem] max2_int min2_int max_two min_two max_three min_three max_four min_four
set_option linter.unusedVariables false
set_option linter.unusedSimpArgs false

def sum_B9 : List Nat := [0, 0, 0, 0, 12, 28, 0, 0, 192, 448, 1020, 2047, 4095]
theorem sum_T9 : rtab .any (opsOf Try.f8 9) = (true, [([], []), ([], []), ([], []), ([], []), ([2, 3], [2, 3]), ([4], [4]), ([], []), ([], []), ([6, 7], [6, 7]), ([8], [8]), ([5, 9], [5, 9]), ([0, 1, 0, 1, 2, 3, 4, 5, 6, 7, 8, 9, 10], [0, 1]), ([11, 10, 0, 1, 2, 3, 4, 5, 6, 7, 8, 9, 10], [10, 11])]) := by kernel_rfl
theorem sum_T17 : rtab .any (opsOf Try.f8 17) = (true, [([], []), ([0], [0]), ([1], [1]), ([2], [2]), ([], []), ([4], [4]), ([5], [5]), ([6], [6]), ([3, 7], [3, 7]), ([8], [8]), ([9], [9]), ([9], [9]), ([10, 8, 0, 1, 2, 3, 4, 5, 6, 7, 8, 9, 10], [10]), ([11, 12, 0, 1, 2, 3, 4, 5, 6, 7, 8, 9, 10, 11, 12], [11])]) := by kernel_rfl
theorem sum_T18 : rtab .any (opsOf Try.f8 18) = (true, [([], []), ([0], [0]), ([1], [1]), ([2], [2]), ([], []), ([4], [4]), ([5], [5]), ([6], [6]), ([3, 7], [3, 7]), ([8], [8]), ([9], [9]), ([9], [9]), ([10, 8, 0, 1, 2, 3, 4, 5, 6, 7, 8, 9, 10], [10]), ([11, 12, 0, 1, 2, 3, 4, 5, 6, 7, 8, 9, 10, 11, 12], [11])]) := by kernel_rfl
theorem sum_T19 : rtab .any (opsOf Try.f8 19) = (true, [([], []), ([0], [0]), ([1], [1]), ([2], [2]), ([3, 2], [2, 3]), ([2, 4], [2, 4]), ([5, 2], [5]), ([6], [6]), ([7, 6], [6, 7]), ([6], [6]), ([9, 6], [6, 9]), ([10, 6], [6, 10]), ([11, 6], [6, 11]), ([12, 6], [6, 12]), ([8, 13, 6], [6, 8, 13]), ([6, 14], [6, 14]), ([15, 6], [15]), ([16], [16]), ([17, 16], [16, 17]), ([16], [16]), ([19, 16], [16, 19]), ([18, 20, 16], [16, 18, 20]), ([16, 21], [16, 21]), ([22, 16, 0, 1, 2, 3, 4, 5, 6, 7, 8, 9, 10, 11, 12, 13, 14, 15, 16, 17, 18, 19, 20, 21, 22], [22])]) := by kernel_rfl
theorem sum_bits9 : waitsOk ((true, [([], []), ([], []), ([], []), ([], []), ([2, 3], [2, 3]), ([4], [4]), ([], []), ([], []), ([6, 7], [6, 7]), ([8], [8]), ([5, 9], [5, 9]), ([0, 1, 0, 1, 2, 3, 4, 5, 6, 7, 8, 9, 10], [0, 1]), ([11, 10, 0, 1, 2, 3, 4, 5, 6, 7, 8, 9, 10], [10, 11])])).2 sum_B9 = true := by kernel_rfl

set_option maxHeartbeats 16000000 in
set_option maxRecDepth 100000 in
theorem sumSpec_walk (A0 : Option Addr) (c0 : Nat) (l0 : List (List Int)) (A1 : Option Addr) (c1 : Nat) (p : List Int) (A2 : Option Addr) (c2 : Nat) (q : List Int) (W : World)
    (C0 : Kd.C (Kd.slice 5 (Kd.int .u8)) W A0 l0.length l0) (le0 : l0.length ≤ c0) (b0 : ∀ m ∈ l0, ∀ x ∈ m, 0 ≤ x ∧ x ≤ 255)
    (C1 : Kd.C (Kd.int .u8) W A1 p.length p) (le1 : p.length ≤ c1) (wf1 : ∀ x ∈ p, (Lit.int .u8 x).wf = true) (y1 : p.length * 1 ≤ 140737488351232)
    (C2 : Kd.C (Kd.int .u8) W A2 q.length q) (le2 : q.length ≤ c2) (wf2 : ∀ x ∈ q, (Lit.int .u8 x).wf = true) (y2 : q.length * 1 ≤ 140737488351232) :
    Calls Try.prog 8 #[.slice A0 l0.length c0, .slice A1 p.length c1, .slice A2 q.length c2] W fun e W' => e = .returned (.bool true) ∧ Below W.heap.size W W' := by
  obtain ⟨f0, hf0, hs0⟩ := few_of 0 l0 100 C0.2.1
  have hlaw := fun h => sum_law l0 p q h (bytes_wf wf1) (bytes_wf wf2)
  have HF0 := Aside0.mk hf0; have HLAW := Aside0.mk hlaw
  clear hf0 hs0 b0 wf1 wf2 y1 y2 hlaw
  have H0 := Aside0.mk C0; have H1 := Aside0.mk C1; have H2 := Aside0.mk C2
  have L0 := Aside0.mk le0; have L1 := Aside0.mk le1; have L2 := Aside0.mk le2
  clear C0 C1 C2 le0 le1 le2
  have hu32 := Try.underlying32
  have hu35 := Try.underlying35
  go_enter Try.func8, Try.ntmps8
  go_wp2_with fail
  refine (sane_calls _).mono ?_
  rintro e w1 ⟨rfl, hbel⟩
  have B_ := Aside0.mk (below_step (Below.refl _ _) hbel)
  have B := B_
  clear B_
  clear hbel
  go_wp2_with fail
  refine (testamurref36_Few.calls _ A0 c0 l0 100 f0 _ (Kd.C_below H0.out B.out) L0.out HF0.out).mono ?_
  rintro e w2 ⟨rfl, hd⟩
  have B_ := Aside0.mk (below_step B.out hd.below)
  clear B
  have B := B_
  clear B_
  clear hd
  cases f0 with
  | false =>
      go_wp2
      go_ret
      exact ⟨rfl, B.out⟩
  | true =>
    by_cases h20 : (p.length : Int) > 20
    ·
      go_wp2
      go_ret
      exact ⟨rfl, B.out⟩
    ·
      by_cases hl : q.length = p.length
      rotate_left
      ·
        have hne : ((q.length : Int) != (p.length : Int)) = true := by rw [bne_iff_ne]; omega
        go_wp2
        go_ret
        exact ⟨rfl, B.out⟩
      ·
        have hne : ((q.length : Int) != (p.length : Int)) = false := by rw [bne_eq_false_iff_eq]; omega
        have HL := Aside0.mk hl
        clear hl
        go_wp2_with (first | ((with_reducible refine gate_dst (N := 36) rfl ?_); (try (refine gate_guard (by rfl) ?_; dsimp only)); refine Kd.R_make (Kd.int .u8) _ 5 rfl (N := 36) rfl 22 _ _ rfl (p.length : Int) rfl rfl Try.underlying22 (.int .u8 0) 1 info5 rfl (by decide) (by omega) 0 (ok := fun _ => True) (okp := fun _ => True) rfl (fun _ hk => hk) trivial (by omega) (by omega) (Below.refl _ _) (Nat.le_refl _) ?_; intro v1 w3 ho8 hb hg_ hnew_; clear hg_ hnew_; have n0_ := Aside0.mk (Kd.R_lower ho8 (below_size B.out)); have n1_ := Aside0.mk (below_step B.out hb); clear B; have HO := n0_; have B := n1_; clear n0_ n1_ hb ho8))
        have HO_ : Aside0 (Kd.R (Kd.int .u8) 5 w3 W.heap.size (fun _ => True) v1 (sumIter p q 0)) := ⟨by have z := HO.out; rw [Int.toNat_natCast] at z; exact z⟩
        clear HO
        have HO := HO_
        clear HO_
        go_loopg [39] p.length (fun kq v39 w' => ∃ (xs : List Int) (x7 : Int), v39 = .int .i64 x7 ∧ Aside0 (xs = sumIter p q x7.toNat) ∧ Aside0 (0 ≤ x7 ∧ x7 + (kq : Int) = (p.length : Int)) ∧ Aside0 (Kd.R (Kd.int .u8) 5 w' W.heap.size (fun _ => True) v1 xs) ∧ Aside0 (Below W.heap.size W w'))
        case atStart => exact ⟨_, 0, rfl, ⟨rfl⟩, ⟨by omega, by omega⟩, HO, B⟩
        case round =>
          clear B HO
          obtain ⟨xs, x7, rfl, HX, HI, HO, HB⟩ := hrel
          have hxl : xs.length = p.length := by rw [HX.out, sumIter_length]
          have hi0 := HI.out.1
          have hi1 := HI.out.2
          cases gk with
          | succ k2 =>
            have hql := HL.out
            have c9b0 : decide (x7 < (p.length : Int)) = true := decide_eq_true (by omega)
            have c10b0 : decide (0 ≤ x7) = true := decide_eq_true (by omega)
            have c12b0 : decide (x7 < (q.length : Int)) = true := decide_eq_true (by omega)
            have c13b0 : decide (x7 < (xs.length : Int)) = true := decide_eq_true (by omega)
            have HXL := Aside0.mk hxl
            clear hi0 hi1 hxl hql
            obtain ⟨y195, hy195⟩ : ∃ y_ : List Int, y_ = (xs.set (x7 : Int).toNat (Go.bits .xor .u8 (rd p x7) (rd q x7))) := ⟨_, rfl⟩
            have Ny195 := Aside0.mk hy195
            clear hy195
            try go_wp2
            have n0_ := Aside0.mk (Kd.R_drew HO.out)
            have n1_ := Aside0.mk (below_drew1 HB.out)
            clear HO
            clear HB
            have HO := n0_
            have HB := n1_
            clear n0_ n1_
            have p193 : 0 ≤ (x7 : Int) := of_decide_eq_true (by first | (with_reducible assumption) | assumption)
            have q193 : x7 < (p.length : Int) := of_decide_eq_true (by first | (with_reducible assumption) | assumption)
            obtain ⟨ad193, e193, hx193_0⟩ := Kd.at_int H1.out x7 p193 q193
            have hw193_0 := hx193_0
            cases e193
            replace hx193_0 := (HB.out.cell (World.block_lt_of_cell? W _ hx193_0)).trans hx193_0
            replace p193 := eq_true p193
            replace q193 := eq_true q193
            have p194 : 0 ≤ (x7 : Int) := of_decide_eq_true (by first | (with_reducible assumption) | assumption)
            have q194 : x7 < (q.length : Int) := of_decide_eq_true (by first | (with_reducible assumption) | assumption)
            obtain ⟨ad194, e194, hx194_0⟩ := Kd.at_int H2.out x7 p194 q194
            have hw194_0 := hx194_0
            cases e194
            replace hx194_0 := (HB.out.cell (World.block_lt_of_cell? W _ hx194_0)).trans hx194_0
            replace p194 := eq_true p194
            replace q194 := eq_true q194
            have p14 : 0 ≤ (x7 : Int) := of_decide_eq_true (by first | (with_reducible assumption) | assumption)
            have q14 : (x7 : Int) < ((xs.length : Int) : Int) := of_decide_eq_true (by first | (with_reducible assumption) | assumption)
            obtain ⟨go14, co14, eo14, gb14, gl14, cl14, HG14⟩ := Kd.R_form HO.out (by omega)
            (first | cases eo14 | (injection eo14 with ea_ en_ ec_; (first | subst ea_ | (injection ea_ with ea_; subst ea_)); subst ec_; clear en_))
            have GB14 := Aside0.mk gb14
            have GG14 := Aside0.mk HG14
            clear gb14 gl14 HG14
            obtain ⟨hx14_0, hf14_0⟩ := Kd.R_celln 0 HO.out (x7 : Int) p14 q14
            replace p14 := eq_true p14
            replace q14 := eq_true q14
            have HP16 := Kd.R_putn HO.out (x7 : Int) (Go.bits .xor .u8 (rd p x7) (rd q x7))
            rw [← Ny195.out] at HP16
            have HQ16 := Aside0.mk HP16
            clear HP16
            refine start_ (n := 13) (S := fun w' => w'.cell? (ad193.add (x7).toNat) = some (.int .u8 (rd p x7)) ∧ w'.cell? (ad194.add (x7).toNat) = some (.int .u8 (rd q x7))) (ds := [12]) #[false, false, false, false, false, false, false, false, false, false, false, false, false] (by kernel_rfl) rfl rfl ⟨((HB.out.cell (World.block_lt_of_cell? W _ hw193_0)).trans hw193_0), ((HB.out.cell (World.block_lt_of_cell? W _ hw194_0)).trans hw194_0)⟩ (fun hHeld => ?_); refine with_tabW sum_T9 sum_bits9 (fun HT_ HW_ => ?_)
            generalize wr.drew = w15 at HO HB GG14 HQ16 hf14_0 hx14_0 hx193_0 hx194_0 hHeld ⊢
            refine pure_ (i := 0) (N := some 42) (v := ?_) (a' := ?_) #[true, false, false, false, false, false, false, false, false, false, false, false, false] rfl rfl (any_of HT_.out (by kernel_rfl)) (fun _ _ _ h => h) (Or.inl ⟨by rfl, ?_⟩) ?_ ?_
            rotate_left
            · intro w'
              go_simp
              with_reducible rfl
            rotate_left
            · simp only [Act.put, List.setIfInBounds_toArray, List.set_cons_zero, List.set_cons_succ, i64_w, i32_w]
              rfl
            refine pure_ (i := 1) (N := some 43) (v := ?_) (a' := ?_) #[true, true, false, false, false, false, false, false, false, false, false, false, false] rfl rfl (any_of HT_.out (by kernel_rfl)) (fun _ _ _ h => h) (Or.inl ⟨by rfl, ?_⟩) ?_ ?_
            rotate_left
            · intro w'
              go_simp
              with_reducible rfl
            rotate_left
            · simp only [Act.put, List.setIfInBounds_toArray, List.set_cons_zero, List.set_cons_succ, i64_w, i32_w]
              rfl
            refine pure_ (i := 2) (N := some 44) (v := ?_) (a' := ?_) #[true, true, true, false, false, false, false, false, false, false, false, false, false] rfl rfl (any_of HT_.out (by kernel_rfl)) (fun _ _ _ h => h) (Or.inl ⟨by rfl, ?_⟩) ?_ ?_
            rotate_left
            · intro w'
              go_simp
              with_reducible rfl
            rotate_left
            · simp only [Act.put, List.setIfInBounds_toArray, List.set_cons_zero, List.set_cons_succ, i64_w, i32_w]
              rfl
            refine pure_ (i := 3) (N := some 45) (v := ?_) (a' := ?_) #[true, true, true, true, false, false, false, false, false, false, false, false, false] rfl rfl (any_of HT_.out (by kernel_rfl)) (fun _ _ _ h => h) (Or.inl ⟨by rfl, ?_⟩) ?_ ?_
            rotate_left
            · intro w'
              go_simp
              with_reducible rfl
            rotate_left
            · simp only [Act.put, List.setIfInBounds_toArray, List.set_cons_zero, List.set_cons_succ, i64_w, i32_w]
              rfl
            refine pure_ (i := 4) (N := some 46) (v := ?_) (a' := ?_) #[true, true, true, true, true, false, false, false, false, false, false, false, false] rfl rfl (any_of HT_.out (by kernel_rfl)) (fun _ _ _ h => h) (Or.inl ⟨by rfl, ?_⟩) ?_ ?_
            rotate_left
            · intro w'
              go_simp
              with_reducible rfl
            rotate_left
            · simp only [Act.put, List.setIfInBounds_toArray, List.set_cons_zero, List.set_cons_succ, i64_w, i32_w]
              rfl
            refine pure_ (i := 6) (N := some 48) (v := ?_) (a' := ?_) #[true, true, true, true, true, false, true, false, false, false, false, false, false] rfl rfl (any_of HT_.out (by kernel_rfl)) (fun _ _ _ h => h) (Or.inl ⟨by rfl, ?_⟩) ?_ ?_
            rotate_left
            · intro w'
              go_simp
              with_reducible rfl
            rotate_left
            · simp only [Act.put, List.setIfInBounds_toArray, List.set_cons_zero, List.set_cons_succ, i64_w, i32_w]
              rfl
            refine pure_ (i := 7) (N := some 49) (v := ?_) (a' := ?_) #[true, true, true, true, true, false, true, true, false, false, false, false, false] rfl rfl (any_of HT_.out (by kernel_rfl)) (fun _ _ _ h => h) (Or.inl ⟨by rfl, ?_⟩) ?_ ?_
            rotate_left
            · intro w'
              go_simp
              with_reducible rfl
            rotate_left
            · simp only [Act.put, List.setIfInBounds_toArray, List.set_cons_zero, List.set_cons_succ, i64_w, i32_w]
              rfl
            refine pure_ (i := 8) (N := some 50) (v := ?_) (a' := ?_) #[true, true, true, true, true, false, true, true, true, false, false, false, false] rfl rfl (any_of HT_.out (by kernel_rfl)) (fun _ _ _ h => h) (Or.inl ⟨by rfl, ?_⟩) ?_ ?_
            rotate_left
            · intro w'
              go_simp
              with_reducible rfl
            rotate_left
            · simp only [Act.put, List.setIfInBounds_toArray, List.set_cons_zero, List.set_cons_succ, i64_w, i32_w]
              rfl
            refine take_ (i := 5) (N := some 47) (v := ?_) (a' := ?_) #[true, true, true, true, true, true, true, true, true, false, false, false, false] rfl rfl (take_ofW HT_.out HW_.out (by kernel_rfl)) (fun _ _ _ h => h) (Or.inl ⟨by rfl, ?_⟩) hHeld ?_ ?_
            rotate_left
            · rintro w' ⟨s0, s1⟩
              go_simp
              with_reducible rfl
            rotate_left
            · simp only [Act.put, List.setIfInBounds_toArray, List.set_cons_zero, List.set_cons_succ, i64_w, i32_w]
              rfl
            refine take_ (i := 9) (N := some 51) (v := ?_) (a' := ?_) #[true, true, true, true, true, true, true, true, true, true, false, false, false] rfl rfl (take_ofW HT_.out HW_.out (by kernel_rfl)) (fun _ _ _ h => h) (Or.inl ⟨by rfl, ?_⟩) hHeld ?_ ?_
            rotate_left
            · rintro w' ⟨s0, s1⟩
              go_simp
              with_reducible rfl
            rotate_left
            · simp only [Act.put, List.setIfInBounds_toArray, List.set_cons_zero, List.set_cons_succ, i64_w, i32_w]
              rfl
            refine pure_ (i := 10) (N := some 52) (v := ?_) (a' := ?_) #[true, true, true, true, true, true, true, true, true, true, true, false, false] rfl rfl (any_of HT_.out (by kernel_rfl)) (fun _ _ _ h => h) (Or.inl ⟨by rfl, ?_⟩) ?_ ?_
            rotate_left
            · intro w'
              go_simp
              with_reducible rfl
            rotate_left
            · simp only [Act.put, List.setIfInBounds_toArray, List.set_cons_zero, List.set_cons_succ, i64_w, i32_w]
              rfl
            refine pure_ (i := 11) (N := some 53) (v := ?_) (a' := ?_) #[true, true, true, true, true, true, true, true, true, true, true, true, false] rfl rfl (any_of HT_.out (by kernel_rfl)) (fun _ _ _ h => h) (Or.inl ⟨by rfl, ?_⟩) ?_ ?_
            rotate_left
            · intro w'
              go_simp
              with_reducible rfl
            rotate_left
            · simp only [Act.put, List.setIfInBounds_toArray, List.set_cons_zero, List.set_cons_succ, i64_w, i32_w]
              rfl
            refine last_ (i := 12) (N := none) #[true, true, true, true, true, true, true, true, true, true, true, true, true] rfl rfl (one_of HT_.out (by kernel_rfl)) (by decide) (fun K hK => ?_)
            refine skip_ (w1 := ?_) (by rfl) rfl ?_ ?_
            rotate_left
            · go_simp
              rfl
            refine hK.out _ _ ?_
            clear hK K
            refine done_ (done_of HT_.out (by kernel_rfl)) ?_
            try go_wp2
            go_roundg k2
            case measure => omega
            case rel => exact ⟨y195, x7 + 1, (by first | rfl | (have q := HI.out; simp only [Value.int.injEq, true_and]; unfold wrap64; omega) | (have q := HI.out; congr 1; unfold wrap64; omega)), ⟨by rw [Ny195.out, HX.out]; have q := HI.out; rw [show (x7 + 1).toNat = x7.toNat + 1 from by omega, sumIter, show ((x7.toNat : Nat) : Int) = x7 from by omega]⟩, ⟨by have q := HI.out; omega, by have q := HI.out; omega⟩, ⟨HQ16.out⟩, ⟨by repeat (first | (with_reducible first | exact HB.out | apply below_alloc | apply pw_below_drewN | apply below_drew1 | refine below_set ?_ GB14.out) | exact HB.out)⟩⟩
          | zero =>
            have hx7 : x7 = (p.length : Int) := by omega
            subst hx7
            have hxs : xs = xorL p q := by rw [HX.out, Int.toNat_natCast, sumIter_all]
            subst hxs
            have c9b0 : decide ((p.length : Int) < (p.length : Int)) = false := decide_eq_false (by omega)
            clear hi0 hi1 HI HX hxl
            have B := HB
            clear HB
            obtain ⟨Ab, cb, eb⟩ := Kd.R_slice HO.out
            subst eb
            have HPQ : Aside0 (Kd.C (Kd.slice 5 (Kd.int .u8)) (wr.alloc (.cells #[.slice A1 p.length c1, .slice A2 q.length c2] 22)) (some ⟨wr.heap.size, 0, none⟩) 2 [p, q]) := ⟨C_rows wr [(A1, c1, p), (A2, c2, q)] (by simp) (by intro r hr; simp only [List.mem_cons, List.not_mem_nil, or_false] at hr; rcases hr with rfl | rfl; exact ⟨Kd.C_below H1.out B.out, L1.out⟩; exact ⟨Kd.C_below H2.out B.out, L2.out⟩)⟩
            rcases HLAW.out HL.out with hA | ⟨u, v, t, hu, hv, ht, hA, hS, hJ, hK⟩
            ·
              have HA := Aside0.mk hA
              clear hA
              obtain ⟨s1, s2, hS⟩ := answer_some l0 [xorL p q]
              have HS := Aside0.mk hS
              clear hS
              go_wp2_with fail
              refine (retrieval_Answer.calls A0 c0 l0 (some ⟨wr.heap.size, 0, none⟩) 2 [p, q] [] 360 _ (Kd.C_below H0.out (below_alloc B.out _)) L0.out HPQ.out (Nat.le_refl _) HA.out).mono ?_
              rintro e w4 ⟨va, rfl, hs, hbel⟩
              have B_ := Aside0.mk (below_step (below_alloc B.out _) hbel)
              have HO_ := Aside0.mk (Kd.R_below (Kd.R_alloc (HO.out) _) hbel)
              clear B HO
              have B := B_
              have HO := HO_
              clear B_ HO_
              have SR := Aside0.mk hs
              clear hs
              clear hbel
              clear HPQ
              obtain ⟨Ar, cr, er⟩ := Kd.S_slice SR.out
              simp only [List.length_cons, List.length_nil, Nat.reduceAdd] at er
              subst er
              have HX1 : Aside0 (Kd.C (Kd.slice 5 (Kd.int .u8)) ((w4.alloc (.cells #[.slice Ar 0 cr] 35)).alloc (.cells #[.slice Ab (xorL p q).length cb] 22)) (some ⟨w4.heap.size + 1, 0, none⟩) 1 [xorL p q]) := ⟨by have z := C_rows (w4.alloc (.cells #[.slice Ar 0 cr] 35)) [(Ab, cb, xorL p q)] (by simp) (by intro r hr; simp only [List.mem_cons, List.not_mem_nil, or_false] at hr; subst hr; exact ⟨Kd.C_alloc (R_C HO.out).1 _, (R_C HO.out).2⟩); simp only [World.size_alloc] at z; exact z⟩
              go_wp2_with fail
              refine (retrieval_Answer.calls A0 c0 l0 (some ⟨w4.heap.size + 1, 0, none⟩) 1 [xorL p q] s1 s2 _ (Kd.C_below H0.out (below_alloc (below_alloc B.out _) _)) L0.out HX1.out (Nat.le_refl _) HS.out).mono ?_
              rintro e w5 ⟨vs, rfl, hs, hbel⟩
              have B_ := Aside0.mk (below_step (below_alloc (below_alloc B.out _) _) hbel)
              have HO_ := Aside0.mk (Kd.R_below (Kd.R_alloc (Kd.R_alloc (HO.out) _) _) hbel)
              have SR_ := Aside0.mk (Kd.S_below (Kd.S_alloc (Kd.S_alloc (SR.out) _) _) hbel)
              have BR_ := Aside0.mk (blk_step ((heap_two w4 (.cells #[.slice Ar 0 cr] 35) (.cells #[.slice Ab (xorL p q).length cb] 22)).1) hbel)
              clear B HO SR
              have B := B_
              have HO := HO_
              have SR := SR_
              have BR := BR_
              clear B_ HO_ SR_ BR_
              have SS := Aside0.mk hs
              clear hs
              clear hbel
              clear HX1
              obtain ⟨As, cs, es⟩ := Kd.S_slice SS.out
              subst es
              have hczBR : w5.cell? ⟨w4.heap.size, 0, none⟩ = some (.slice Ar 0 cr) := (blk_cell BR.out 0).trans rfl
              have hfzBR := blk_frozen BR.out 0
              have hltBR : w4.heap.size < w5.heap.size := blk_lt BR.out
              go_wp2
              go_ret
              exact ⟨rfl, by first | exact B.out | exact below_alloc B.out _⟩
            ·
              have HA := Aside0.mk hA
              clear hA
              have HS := Aside0.mk hS; have HJ := Aside0.mk hJ; have HK := Aside0.mk hK; have Hu := Aside0.mk hu; have Hv := Aside0.mk hv; have Ht := Aside0.mk ht
              clear hS hJ hK hu hv ht
              go_wp2_with fail
              refine (retrieval_Answer.calls A0 c0 l0 (some ⟨wr.heap.size, 0, none⟩) 2 [p, q] [u, v] 0 _ (Kd.C_below H0.out (below_alloc B.out _)) L0.out HPQ.out (Nat.le_refl _) HA.out).mono ?_
              rintro e w4 ⟨va, rfl, hs, hbel⟩
              have B_ := Aside0.mk (below_step (below_alloc B.out _) hbel)
              have HO_ := Aside0.mk (Kd.R_below (Kd.R_alloc (HO.out) _) hbel)
              clear B HO
              have B := B_
              have HO := HO_
              clear B_ HO_
              have SR := Aside0.mk hs
              clear hs
              clear hbel
              clear HPQ
              obtain ⟨Ar, cr, er⟩ := Kd.S_slice SR.out
              simp only [List.length_cons, List.length_nil, Nat.reduceAdd] at er
              subst er
              have HX1 : Aside0 (Kd.C (Kd.slice 5 (Kd.int .u8)) ((w4.alloc (.cells #[.slice Ar 2 cr] 35)).alloc (.cells #[.slice Ab (xorL p q).length cb] 22)) (some ⟨w4.heap.size + 1, 0, none⟩) 1 [xorL p q]) := ⟨by have z := C_rows (w4.alloc (.cells #[.slice Ar 2 cr] 35)) [(Ab, cb, xorL p q)] (by simp) (by intro r hr; simp only [List.mem_cons, List.not_mem_nil, or_false] at hr; subst hr; exact ⟨Kd.C_alloc (R_C HO.out).1 _, (R_C HO.out).2⟩); simp only [World.size_alloc] at z; exact z⟩
              go_wp2_with fail
              refine (retrieval_Answer.calls A0 c0 l0 (some ⟨w4.heap.size + 1, 0, none⟩) 1 [xorL p q] [t] 0 _ (Kd.C_below H0.out (below_alloc (below_alloc B.out _) _)) L0.out HX1.out (Nat.le_refl _) HS.out).mono ?_
              rintro e w5 ⟨vs, rfl, hs, hbel⟩
              have B_ := Aside0.mk (below_step (below_alloc (below_alloc B.out _) _) hbel)
              have HO_ := Aside0.mk (Kd.R_below (Kd.R_alloc (Kd.R_alloc (HO.out) _) _) hbel)
              have SR_ := Aside0.mk (Kd.S_below (Kd.S_alloc (Kd.S_alloc (SR.out) _) _) hbel)
              have BR_ := Aside0.mk (blk_step ((heap_two w4 (.cells #[.slice Ar 2 cr] 35) (.cells #[.slice Ab (xorL p q).length cb] 22)).1) hbel)
              clear B HO SR
              have B := B_
              have HO := HO_
              have SR := SR_
              have BR := BR_
              clear B_ HO_ SR_ BR_
              have SS := Aside0.mk hs
              clear hs
              clear hbel
              clear HX1
              obtain ⟨As, cs, es⟩ := Kd.S_slice SS.out
              simp only [List.length_cons, List.length_nil, Nat.reduceAdd] at es
              subst es
              have hczBR : w5.cell? ⟨w4.heap.size, 0, none⟩ = some (.slice Ar 2 cr) := (blk_cell BR.out 0).trans rfl
              have hfzBR := blk_frozen BR.out 0
              have hltBR : w4.heap.size < w5.heap.size := blk_lt BR.out
              go_wp2_with fail
              obtain ⟨V, hV⟩ : ∃ V, V = (w5.alloc (.cells #[.slice As 1 cs] 35)).drew := ⟨_, rfl⟩
              have BX : Below w5.heap.size w5 V := by rw [hV]; exact below_drew (below_alloc (Below.refl _ _) _)
              have SR_ := Aside0.mk (Kd.S_below SR.out BX)
              have SS_ := Aside0.mk (Kd.S_below SS.out BX)
              have BR_ := Aside0.mk (blk_below BR.out BX)
              have BS : Aside0 (V.heap[w5.heap.size]? = some (.cells #[.slice As 1 cs] 35 (0, 0))) := ⟨by rw [hV]; exact blk_drew (heap_alloc_new _ _)⟩
              have BV : Aside0 (Below W.heap.size W V) := ⟨below_step B.out BX⟩
              clear SR SS BR B BX HO hczBR hfzBR hltBR
              have SR := SR_
              have SS := SS_
              have BR := BR_
              clear SR_ SS_ BR_
              obtain ⟨adr, Au, cu, er, hr0, hlu, hCu⟩ := at_L1 (S_C SR.out).1 0 (by omega) (by simp)
              subst er
              obtain ⟨adr2, Av, cv, er2, hr1, hlv, hCv⟩ := at_L1 (S_C SR.out).1 1 (by omega) (by simp)
              injection er2 with er2
              subst er2
              obtain ⟨ads, At, ct, es, ht0, hlt, hCt⟩ := at_L1 (S_C SS.out).1 0 (by omega) (by simp)
              subst es
              have cu0 : V.cell? adr = some (.slice Au u.length cu) := (cell_add0 V adr).symm.trans hr0
              have cv0 : V.cell? (adr.add 1) = some (.slice Av v.length cv) := hr1
              have ct0 : V.cell? ads = some (.slice At t.length ct) := (cell_add0 V ads).symm.trans ht0
              have HCu : Aside0 (Kd.C (Kd.int .u8) V Au u.length u) := ⟨hCu⟩
              have HCv : Aside0 (Kd.C (Kd.int .u8) V Av v.length v) := ⟨hCv⟩
              have HCt : Aside0 (Kd.C (Kd.int .u8) V At t.length t) := ⟨hCt⟩
              have LU : Aside0 (u.length ≤ cu) := ⟨hlu⟩
              have LV : Aside0 (v.length ≤ cv) := ⟨hlv⟩
              clear hr0 hr1 ht0 hCu hCv hCt hlu hlv hlt
              refine start_ (n := 14) (S := fun W' => Below V.heap.size V W') (ds := []) #[false, false, false, false, false, false, false, false, false, false, false, false, false, false] (by kernel_rfl) rfl rfl (by rw [hV]; exact Below.refl _ _) (fun hHeld => ?_)
              refine with_tab sum_T17 (fun HT_ => ?_)
              rw [← hV] at hHeld ⊢
              refine pure_ (i := 0) (N := some 93) (v := ?_) (a' := ?_) #[true, false, false, false, false, false, false, false, false, false, false, false, false, false] rfl rfl (any_of HT_.out (by kernel_rfl)) (fun _ _ _ h => h) (Or.inl ⟨by rfl, ?_⟩) ?_ ?_
              rotate_left
              · intro w'
                go_simp
                with_reducible rfl
              rotate_left
              · simp only [Act.put, List.setIfInBounds_toArray, List.set_cons_zero, List.set_cons_succ, i64_w, i32_w]
                rfl
              refine take_ (i := 1) (N := some 94) (v := ?_) (a' := ?_) #[true, true, false, false, false, false, false, false, false, false, false, false, false, false] rfl rfl (take_of HT_.out (by kernel_rfl)) (fun _ _ _ h => h) (Or.inl ⟨by rfl, ?_⟩) hHeld ?_ ?_
              rotate_left
              · intro w' s0
                have hx : w'.cell? ⟨w4.heap.size, 0, none⟩ = some (.slice (some adr) 2 cr) := (blk_cell (blk_below BR.out s0) 0).trans rfl
                go_simp
                with_reducible rfl
              rotate_left
              · simp only [Act.put, List.setIfInBounds_toArray, List.set_cons_zero, List.set_cons_succ, i64_w, i32_w]
                rfl
              refine pure_ (i := 2) (N := some 95) (v := ?_) (a' := ?_) #[true, true, true, false, false, false, false, false, false, false, false, false, false, false] rfl rfl (any_of HT_.out (by kernel_rfl)) (fun _ _ _ h => h) (Or.inl ⟨by rfl, ?_⟩) ?_ ?_
              rotate_left
              · intro w'
                go_simp
                with_reducible rfl
              rotate_left
              · simp only [Act.put, List.setIfInBounds_toArray, List.set_cons_zero, List.set_cons_succ, i64_w, i32_w]
                rfl
              refine take_ (i := 3) (N := some 96) (v := ?_) (a' := ?_) #[true, true, true, true, false, false, false, false, false, false, false, false, false, false] rfl rfl (take_of HT_.out (by kernel_rfl)) (fun _ _ _ h => h) (Or.inl ⟨by rfl, ?_⟩) hHeld ?_ ?_
              rotate_left
              · intro w' s0
                have hx : w'.cell? adr = some (.slice Au u.length cu) := (s0.cell (World.block_lt_of_cell? V _ cu0)).trans cu0
                go_simp
                with_reducible rfl
              rotate_left
              · simp only [Act.put, List.setIfInBounds_toArray, List.set_cons_zero, List.set_cons_succ, i64_w, i32_w]
                rfl
              refine pure_ (i := 4) (N := some 97) (v := ?_) (a' := ?_) #[true, true, true, true, true, false, false, false, false, false, false, false, false, false] rfl rfl (any_of HT_.out (by kernel_rfl)) (fun _ _ _ h => h) (Or.inl ⟨by rfl, ?_⟩) ?_ ?_
              rotate_left
              · intro w'
                go_simp
                with_reducible rfl
              rotate_left
              · simp only [Act.put, List.setIfInBounds_toArray, List.set_cons_zero, List.set_cons_succ, i64_w, i32_w]
                rfl
              refine take_ (i := 5) (N := some 98) (v := ?_) (a' := ?_) #[true, true, true, true, true, true, false, false, false, false, false, false, false, false] rfl rfl (take_of HT_.out (by kernel_rfl)) (fun _ _ _ h => h) (Or.inl ⟨by rfl, ?_⟩) hHeld ?_ ?_
              rotate_left
              · intro w' s0
                have hx : w'.cell? ⟨w4.heap.size, 0, none⟩ = some (.slice (some adr) 2 cr) := (blk_cell (blk_below BR.out s0) 0).trans rfl
                go_simp
                with_reducible rfl
              rotate_left
              · simp only [Act.put, List.setIfInBounds_toArray, List.set_cons_zero, List.set_cons_succ, i64_w, i32_w]
                rfl
              refine pure_ (i := 6) (N := some 99) (v := ?_) (a' := ?_) #[true, true, true, true, true, true, true, false, false, false, false, false, false, false] rfl rfl (any_of HT_.out (by kernel_rfl)) (fun _ _ _ h => h) (Or.inl ⟨by rfl, ?_⟩) ?_ ?_
              rotate_left
              · intro w'
                go_simp
                with_reducible rfl
              rotate_left
              · simp only [Act.put, List.setIfInBounds_toArray, List.set_cons_zero, List.set_cons_succ, i64_w, i32_w]
                rfl
              refine take_ (i := 7) (N := some 100) (v := ?_) (a' := ?_) #[true, true, true, true, true, true, true, true, false, false, false, false, false, false] rfl rfl (take_of HT_.out (by kernel_rfl)) (fun _ _ _ h => h) (Or.inl ⟨by rfl, ?_⟩) hHeld ?_ ?_
              rotate_left
              · intro w' s0
                have hx : w'.cell? ⟨adr.block, adr.off + 1, none⟩ = some (.slice Av v.length cv) := (s0.cell (World.block_lt_of_cell? V _ cv0)).trans cv0
                go_simp
                with_reducible rfl
              rotate_left
              · simp only [Act.put, List.setIfInBounds_toArray, List.set_cons_zero, List.set_cons_succ, i64_w, i32_w]
                rfl
              refine one_ (i := 8) (N := some 101) #[true, true, true, true, true, true, true, true, true, false, false, false, false, false] rfl rfl (one_of HT_.out (by kernel_rfl)) (by decide) (fun K hK => ?_)
              refine goes_ Try.func17 (by kernel_rfl) rfl #[.slice Au u.length cu, .slice Av v.length cv] (by rfl) rfl rfl (by (try simp only [List.map_toArray, List.map_cons, List.map_nil]); first | done | rfl) ?_
              refine (retrieval_Join.calls Au cu u Av cv v t 0 V HCu.out LU.out HCv.out LV.out HJ.out).mono ?_
              rintro e V2 ⟨vy, rfl, hy, hbel⟩
              refine ⟨_, rfl, ?_⟩
              have HY := Aside0.mk hy
              have B2 := Aside0.mk hbel
              clear hy hbel
              refine hK.out _ _ (B2.out) (fun hHeld => ?_)
              clear hK K
              refine norm_ (a' := ?_) ?_ ?_
              rotate_left
              · show Act.put _ (some 101) _ = _
                simp only [Act.put, List.setIfInBounds_toArray, List.set_cons_zero, List.set_cons_succ, i64_w, i32_w]
                rfl
              refine pure_ (i := 9) (N := some 92) (v := ?_) (a' := ?_) #[true, true, true, true, true, true, true, true, true, true, false, false, false, false] rfl rfl (any_of HT_.out (by kernel_rfl)) (fun _ _ _ h => h) (Or.inl ⟨by rfl, ?_⟩) ?_ ?_
              rotate_left
              · intro w'
                go_simp
                with_reducible rfl
              rotate_left
              · simp only [Act.put, List.setIfInBounds_toArray, List.set_cons_zero, List.set_cons_succ, i64_w, i32_w]
                rfl
              refine pure_ (i := 10) (N := some 102) (v := ?_) (a' := ?_) #[true, true, true, true, true, true, true, true, true, true, true, false, false, false] rfl rfl (any_of HT_.out (by kernel_rfl)) (fun _ _ _ h => h) (Or.inl ⟨by rfl, ?_⟩) ?_ ?_
              rotate_left
              · intro w'
                go_simp
                with_reducible rfl
              rotate_left
              · simp only [Act.put, List.setIfInBounds_toArray, List.set_cons_zero, List.set_cons_succ, i64_w, i32_w]
                rfl
              refine pure_ (i := 11) (N := some 103) (v := ?_) (a' := ?_) #[true, true, true, true, true, true, true, true, true, true, true, true, false, false] rfl rfl (any_of HT_.out (by kernel_rfl)) (fun _ _ _ h => h) (Or.inl ⟨by rfl, ?_⟩) ?_ ?_
              rotate_left
              · intro w'
                go_simp
                with_reducible rfl
              rotate_left
              · simp only [Act.put, List.setIfInBounds_toArray, List.set_cons_zero, List.set_cons_succ, i64_w, i32_w]
                rfl
              refine pure_ (i := 12) (N := some 13) (v := ?_) (a' := ?_) #[true, true, true, true, true, true, true, true, true, true, true, true, true, false] rfl rfl (any_of HT_.out (by kernel_rfl)) (fun _ _ _ h => h) (Or.inl ⟨by rfl, ?_⟩) ?_ ?_
              rotate_left
              · intro w'
                go_simp
                with_reducible rfl
              rotate_left
              · simp only [Act.put, List.setIfInBounds_toArray, List.set_cons_zero, List.set_cons_succ, i64_w, i32_w]
                rfl
              refine pure_ (i := 13) (N := some 14) (v := ?_) (a' := ?_) #[true, true, true, true, true, true, true, true, true, true, true, true, true, true] rfl rfl (any_of HT_.out (by kernel_rfl)) (fun _ _ _ h => h) (Or.inl ⟨by rfl, ?_⟩) ?_ ?_
              rotate_left
              · intro w'
                go_simp
                with_reducible rfl
              rotate_left
              · simp only [Act.put, List.setIfInBounds_toArray, List.set_cons_zero, List.set_cons_succ, i64_w, i32_w]
                rfl
              refine done_ (done_of HT_.out (by kernel_rfl)) ?_
              go_wp2_with fail
              obtain ⟨Ax, cx, ex⟩ := Kd.R_slice HY.out
              subst ex
              clear hV
              obtain ⟨U, hU⟩ : ∃ V, V = V2.drew := ⟨_, rfl⟩
              have BU : Below V.heap.size V U := by rw [hU]; exact below_drew B2.out
              have BU2 : Below V2.heap.size V2 U := by rw [hU]; exact below_drew (Below.refl _ _)
              have BV_ := Aside0.mk (below_step BV.out BU)
              clear BV
              have BV := BV_
              clear BV_
              have BR_ := Aside0.mk (blk_below BR.out BU)
              clear BR
              have BR := BR_
              clear BR_
              have BS_ := Aside0.mk (blk_below BS.out BU)
              clear BS
              have BS := BS_
              clear BS_
              have HCu_ := Aside0.mk (Kd.C_below HCu.out BU)
              clear HCu
              have HCu := HCu_
              clear HCu_
              have HCv_ := Aside0.mk (Kd.C_below HCv.out BU)
              clear HCv
              have HCv := HCv_
              clear HCv_
              have HCt_ := Aside0.mk (Kd.C_below HCt.out BU)
              clear HCt
              have HCt := HCt_
              clear HCt_
              replace cu0 := (BU.cell (World.block_lt_of_cell? V _ cu0)).trans cu0
              replace cv0 := (BU.cell (World.block_lt_of_cell? V _ cv0)).trans cv0
              replace ct0 := (BU.cell (World.block_lt_of_cell? V _ ct0)).trans ct0
              have HCx : Aside0 (Kd.C (Kd.int .u8) U Ax t.length t) := ⟨Kd.C_below (R_C HY.out).1 BU2⟩
              clear HY B2 BU BU2 SR SS
              refine start_ (n := 14) (S := fun W' => Below U.heap.size U W') (ds := []) #[false, false, false, false, false, false, false, false, false, false, false, false, false, false] (by kernel_rfl) rfl rfl (by rw [hU]; exact Below.refl _ _) (fun hHeld => ?_)
              refine with_tab sum_T18 (fun HT_ => ?_)
              rw [← hU] at hHeld ⊢
              refine pure_ (i := 0) (N := some 105) (v := ?_) (a' := ?_) #[true, false, false, false, false, false, false, false, false, false, false, false, false, false] rfl rfl (any_of HT_.out (by kernel_rfl)) (fun _ _ _ h => h) (Or.inl ⟨by rfl, ?_⟩) ?_ ?_
              rotate_left
              · intro w'
                go_simp
                with_reducible rfl
              rotate_left
              · simp only [Act.put, List.setIfInBounds_toArray, List.set_cons_zero, List.set_cons_succ, i64_w, i32_w]
                rfl
              refine take_ (i := 1) (N := some 106) (v := ?_) (a' := ?_) #[true, true, false, false, false, false, false, false, false, false, false, false, false, false] rfl rfl (take_of HT_.out (by kernel_rfl)) (fun _ _ _ h => h) (Or.inl ⟨by rfl, ?_⟩) hHeld ?_ ?_
              rotate_left
              · intro w' s0
                have hx : w'.cell? ⟨w4.heap.size, 0, none⟩ = some (.slice (some adr) 2 cr) := (blk_cell (blk_below BR.out s0) 0).trans rfl
                go_simp
                with_reducible rfl
              rotate_left
              · simp only [Act.put, List.setIfInBounds_toArray, List.set_cons_zero, List.set_cons_succ, i64_w, i32_w]
                rfl
              refine pure_ (i := 2) (N := some 107) (v := ?_) (a' := ?_) #[true, true, true, false, false, false, false, false, false, false, false, false, false, false] rfl rfl (any_of HT_.out (by kernel_rfl)) (fun _ _ _ h => h) (Or.inl ⟨by rfl, ?_⟩) ?_ ?_
              rotate_left
              · intro w'
                go_simp
                with_reducible rfl
              rotate_left
              · simp only [Act.put, List.setIfInBounds_toArray, List.set_cons_zero, List.set_cons_succ, i64_w, i32_w]
                rfl
              refine take_ (i := 3) (N := some 108) (v := ?_) (a' := ?_) #[true, true, true, true, false, false, false, false, false, false, false, false, false, false] rfl rfl (take_of HT_.out (by kernel_rfl)) (fun _ _ _ h => h) (Or.inl ⟨by rfl, ?_⟩) hHeld ?_ ?_
              rotate_left
              · intro w' s0
                have hx : w'.cell? ⟨adr.block, adr.off + 1, none⟩ = some (.slice Av v.length cv) := (s0.cell (World.block_lt_of_cell? U _ cv0)).trans cv0
                go_simp
                with_reducible rfl
              rotate_left
              · simp only [Act.put, List.setIfInBounds_toArray, List.set_cons_zero, List.set_cons_succ, i64_w, i32_w]
                rfl
              refine pure_ (i := 4) (N := some 109) (v := ?_) (a' := ?_) #[true, true, true, true, true, false, false, false, false, false, false, false, false, false] rfl rfl (any_of HT_.out (by kernel_rfl)) (fun _ _ _ h => h) (Or.inl ⟨by rfl, ?_⟩) ?_ ?_
              rotate_left
              · intro w'
                go_simp
                with_reducible rfl
              rotate_left
              · simp only [Act.put, List.setIfInBounds_toArray, List.set_cons_zero, List.set_cons_succ, i64_w, i32_w]
                rfl
              refine take_ (i := 5) (N := some 110) (v := ?_) (a' := ?_) #[true, true, true, true, true, true, false, false, false, false, false, false, false, false] rfl rfl (take_of HT_.out (by kernel_rfl)) (fun _ _ _ h => h) (Or.inl ⟨by rfl, ?_⟩) hHeld ?_ ?_
              rotate_left
              · intro w' s0
                have hx : w'.cell? ⟨w4.heap.size, 0, none⟩ = some (.slice (some adr) 2 cr) := (blk_cell (blk_below BR.out s0) 0).trans rfl
                go_simp
                with_reducible rfl
              rotate_left
              · simp only [Act.put, List.setIfInBounds_toArray, List.set_cons_zero, List.set_cons_succ, i64_w, i32_w]
                rfl
              refine pure_ (i := 6) (N := some 111) (v := ?_) (a' := ?_) #[true, true, true, true, true, true, true, false, false, false, false, false, false, false] rfl rfl (any_of HT_.out (by kernel_rfl)) (fun _ _ _ h => h) (Or.inl ⟨by rfl, ?_⟩) ?_ ?_
              rotate_left
              · intro w'
                go_simp
                with_reducible rfl
              rotate_left
              · simp only [Act.put, List.setIfInBounds_toArray, List.set_cons_zero, List.set_cons_succ, i64_w, i32_w]
                rfl
              refine take_ (i := 7) (N := some 112) (v := ?_) (a' := ?_) #[true, true, true, true, true, true, true, true, false, false, false, false, false, false] rfl rfl (take_of HT_.out (by kernel_rfl)) (fun _ _ _ h => h) (Or.inl ⟨by rfl, ?_⟩) hHeld ?_ ?_
              rotate_left
              · intro w' s0
                have hx : w'.cell? adr = some (.slice Au u.length cu) := (s0.cell (World.block_lt_of_cell? U _ cu0)).trans cu0
                go_simp
                with_reducible rfl
              rotate_left
              · simp only [Act.put, List.setIfInBounds_toArray, List.set_cons_zero, List.set_cons_succ, i64_w, i32_w]
                rfl
              refine one_ (i := 8) (N := some 113) #[true, true, true, true, true, true, true, true, true, false, false, false, false, false] rfl rfl (one_of HT_.out (by kernel_rfl)) (by decide) (fun K hK => ?_)
              refine goes_ Try.func17 (by kernel_rfl) rfl #[.slice Av v.length cv, .slice Au u.length cu] (by rfl) rfl rfl (by (try simp only [List.map_toArray, List.map_cons, List.map_nil]); first | done | rfl) ?_
              refine (retrieval_Join.calls Av cv v Au cu u t 0 U HCv.out LV.out HCu.out LU.out HK.out).mono ?_
              rintro e V2 ⟨vy, rfl, hy, hbel⟩
              refine ⟨_, rfl, ?_⟩
              have HY := Aside0.mk hy
              have B2 := Aside0.mk hbel
              clear hy hbel
              refine hK.out _ _ (B2.out) (fun hHeld => ?_)
              clear hK K
              refine norm_ (a' := ?_) ?_ ?_
              rotate_left
              · show Act.put _ (some 113) _ = _
                simp only [Act.put, List.setIfInBounds_toArray, List.set_cons_zero, List.set_cons_succ, i64_w, i32_w]
                rfl
              refine pure_ (i := 9) (N := some 104) (v := ?_) (a' := ?_) #[true, true, true, true, true, true, true, true, true, true, false, false, false, false] rfl rfl (any_of HT_.out (by kernel_rfl)) (fun _ _ _ h => h) (Or.inl ⟨by rfl, ?_⟩) ?_ ?_
              rotate_left
              · intro w'
                go_simp
                with_reducible rfl
              rotate_left
              · simp only [Act.put, List.setIfInBounds_toArray, List.set_cons_zero, List.set_cons_succ, i64_w, i32_w]
                rfl
              refine pure_ (i := 10) (N := some 114) (v := ?_) (a' := ?_) #[true, true, true, true, true, true, true, true, true, true, true, false, false, false] rfl rfl (any_of HT_.out (by kernel_rfl)) (fun _ _ _ h => h) (Or.inl ⟨by rfl, ?_⟩) ?_ ?_
              rotate_left
              · intro w'
                go_simp
                with_reducible rfl
              rotate_left
              · simp only [Act.put, List.setIfInBounds_toArray, List.set_cons_zero, List.set_cons_succ, i64_w, i32_w]
                rfl
              refine pure_ (i := 11) (N := some 115) (v := ?_) (a' := ?_) #[true, true, true, true, true, true, true, true, true, true, true, true, false, false] rfl rfl (any_of HT_.out (by kernel_rfl)) (fun _ _ _ h => h) (Or.inl ⟨by rfl, ?_⟩) ?_ ?_
              rotate_left
              · intro w'
                go_simp
                with_reducible rfl
              rotate_left
              · simp only [Act.put, List.setIfInBounds_toArray, List.set_cons_zero, List.set_cons_succ, i64_w, i32_w]
                rfl
              refine pure_ (i := 12) (N := some 15) (v := ?_) (a' := ?_) #[true, true, true, true, true, true, true, true, true, true, true, true, true, false] rfl rfl (any_of HT_.out (by kernel_rfl)) (fun _ _ _ h => h) (Or.inl ⟨by rfl, ?_⟩) ?_ ?_
              rotate_left
              · intro w'
                go_simp
                with_reducible rfl
              rotate_left
              · simp only [Act.put, List.setIfInBounds_toArray, List.set_cons_zero, List.set_cons_succ, i64_w, i32_w]
                rfl
              refine pure_ (i := 13) (N := some 16) (v := ?_) (a' := ?_) #[true, true, true, true, true, true, true, true, true, true, true, true, true, true] rfl rfl (any_of HT_.out (by kernel_rfl)) (fun _ _ _ h => h) (Or.inl ⟨by rfl, ?_⟩) ?_ ?_
              rotate_left
              · intro w'
                go_simp
                with_reducible rfl
              rotate_left
              · simp only [Act.put, List.setIfInBounds_toArray, List.set_cons_zero, List.set_cons_succ, i64_w, i32_w]
                rfl
              refine done_ (done_of HT_.out (by kernel_rfl)) ?_
              go_wp2_with fail
              obtain ⟨Ay, cy, ey⟩ := Kd.R_slice HY.out
              subst ey
              clear hU
              obtain ⟨Z, hZ⟩ : ∃ V, V = V2.drew := ⟨_, rfl⟩
              have BU : Below U.heap.size U Z := by rw [hZ]; exact below_drew B2.out
              have BU2 : Below V2.heap.size V2 Z := by rw [hZ]; exact below_drew (Below.refl _ _)
              have BV_ := Aside0.mk (below_step BV.out BU)
              clear BV
              have BV := BV_
              clear BV_
              have BR_ := Aside0.mk (blk_below BR.out BU)
              clear BR
              have BR := BR_
              clear BR_
              have BS_ := Aside0.mk (blk_below BS.out BU)
              clear BS
              have BS := BS_
              clear BS_
              have HCu_ := Aside0.mk (Kd.C_below HCu.out BU)
              clear HCu
              have HCu := HCu_
              clear HCu_
              have HCv_ := Aside0.mk (Kd.C_below HCv.out BU)
              clear HCv
              have HCv := HCv_
              clear HCv_
              have HCt_ := Aside0.mk (Kd.C_below HCt.out BU)
              clear HCt
              have HCt := HCt_
              clear HCt_
              replace cu0 := (BU.cell (World.block_lt_of_cell? U _ cu0)).trans cu0
              replace cv0 := (BU.cell (World.block_lt_of_cell? U _ cv0)).trans cv0
              replace ct0 := (BU.cell (World.block_lt_of_cell? U _ ct0)).trans ct0
              have HCx_ := Aside0.mk (Kd.C_below HCx.out BU)
              clear HCx
              have HCx := HCx_
              clear HCx_
              have HCy : Aside0 (Kd.C (Kd.int .u8) Z Ay t.length t) := ⟨Kd.C_below (R_C HY.out).1 BU2⟩
              clear HY B2 BU BU2
              refine start_ (n := 24) (S := fun W' => Below Z.heap.size Z W') (ds := []) #[false, false, false, false, false, false, false, false, false, false, false, false, false, false, false, false, false, false, false, false, false, false, false, false] (by kernel_rfl) rfl rfl (by rw [hZ]; exact Below.refl _ _) (fun hHeld => ?_)
              refine with_tab sum_T19 (fun HT_ => ?_)
              rw [← hZ] at hHeld ⊢
              clear hZ
              refine pure_ (i := 0) (N := some 116) (v := ?_) (a' := ?_) #[true, false, false, false, false, false, false, false, false, false, false, false, false, false, false, false, false, false, false, false, false, false, false, false] rfl rfl (any_of HT_.out (by kernel_rfl)) (fun _ _ _ h => h) (Or.inl ⟨by rfl, ?_⟩) ?_ ?_
              rotate_left
              · intro w'
                go_simp
                with_reducible rfl
              rotate_left
              · simp only [Act.put, List.setIfInBounds_toArray, List.set_cons_zero, List.set_cons_succ, i64_w, i32_w]
                rfl
              refine pure_ (i := 1) (N := some 117) (v := ?_) (a' := ?_) #[true, true, false, false, false, false, false, false, false, false, false, false, false, false, false, false, false, false, false, false, false, false, false, false] rfl rfl (any_of HT_.out (by kernel_rfl)) (fun _ _ _ h => h) (Or.inl ⟨by rfl, ?_⟩) ?_ ?_
              rotate_left
              · intro w'
                go_simp
                with_reducible rfl
              rotate_left
              · simp only [Act.put, List.setIfInBounds_toArray, List.set_cons_zero, List.set_cons_succ, i64_w, i32_w]
                rfl
              refine pure_ (i := 2) (N := some 118) (v := ?_) (a' := ?_) #[true, true, true, false, false, false, false, false, false, false, false, false, false, false, false, false, false, false, false, false, false, false, false, false] rfl rfl (any_of HT_.out (by kernel_rfl)) (fun _ _ _ h => h) (Or.inl ⟨by rfl, ?_⟩) ?_ ?_
              rotate_left
              · intro w'
                go_simp
                with_reducible rfl
              rotate_left
              · simp only [Act.put, List.setIfInBounds_toArray, List.set_cons_zero, List.set_cons_succ, i64_w, i32_w]
                rfl
              refine pure_ (i := 3) (N := some 119) (v := ?_) (a' := ?_) #[true, true, true, true, false, false, false, false, false, false, false, false, false, false, false, false, false, false, false, false, false, false, false, false] rfl rfl (any_of HT_.out (by kernel_rfl)) (fun _ _ _ h => h) (Or.inl ⟨by rfl, ?_⟩) ?_ ?_
              rotate_left
              · intro w'
                go_simp
                with_reducible rfl
              rotate_left
              · simp only [Act.put, List.setIfInBounds_toArray, List.set_cons_zero, List.set_cons_succ, i64_w, i32_w]
                rfl
              refine pure_ (i := 4) (N := some 120) (v := ?_) (a' := ?_) #[true, true, true, true, true, false, false, false, false, false, false, false, false, false, false, false, false, false, false, false, false, false, false, false] rfl rfl (any_of HT_.out (by kernel_rfl)) (fun _ _ _ h => h) (Or.inl ⟨by rfl, ?_⟩) ?_ ?_
              rotate_left
              · intro w'
                go_simp
                with_reducible rfl
              rotate_left
              · simp only [Act.put, List.setIfInBounds_toArray, List.set_cons_zero, List.set_cons_succ, i64_w, i32_w]
                rfl
              refine pure_ (i := 5) (N := some 121) (v := ?_) (a' := ?_) #[true, true, true, true, true, true, false, false, false, false, false, false, false, false, false, false, false, false, false, false, false, false, false, false] rfl rfl (any_of HT_.out (by kernel_rfl)) (fun _ _ _ h => h) (Or.inl ⟨by rfl, ?_⟩) ?_ ?_
              rotate_left
              · intro w'
                go_simp
                with_reducible rfl
              rotate_left
              · simp only [Act.put, List.setIfInBounds_toArray, List.set_cons_zero, List.set_cons_succ, i64_w, i32_w]
                rfl
              refine pure_ (i := 6) (N := some 122) (v := ?_) (a' := ?_) #[true, true, true, true, true, true, true, false, false, false, false, false, false, false, false, false, false, false, false, false, false, false, false, false] rfl rfl (any_of HT_.out (by kernel_rfl)) (fun _ _ _ h => h) (Or.inl ⟨by rfl, ?_⟩) ?_ ?_
              rotate_left
              · intro w'
                go_simp
                with_reducible rfl
              rotate_left
              · simp only [Act.put, List.setIfInBounds_toArray, List.set_cons_zero, List.set_cons_succ, i64_w, i32_w]
                rfl
              refine pure_ (i := 7) (N := some 123) (v := ?_) (a' := ?_) #[true, true, true, true, true, true, true, true, false, false, false, false, false, false, false, false, false, false, false, false, false, false, false, false] rfl rfl (any_of HT_.out (by kernel_rfl)) (fun _ _ _ h => h) (Or.inl ⟨by rfl, ?_⟩) ?_ ?_
              rotate_left
              · intro w'
                go_simp
                with_reducible rfl
              rotate_left
              · simp only [Act.put, List.setIfInBounds_toArray, List.set_cons_zero, List.set_cons_succ, i64_w, i32_w]
                rfl
              refine take_ (i := 8) (N := some 124) (v := ?_) (a' := ?_) #[true, true, true, true, true, true, true, true, true, false, false, false, false, false, false, false, false, false, false, false, false, false, false, false] rfl rfl (take_of HT_.out (by kernel_rfl)) (fun _ _ _ h => h) (Or.inl ⟨by rfl, ?_⟩) hHeld ?_ ?_
              rotate_left
              · intro w' s0
                have hcv : (convert 22 9 (.slice Ax t.length cx)).run Try.prog w' = .ok (.string (strOfNums t)) w' := Kd.C_string Try.underlying22 Try.underlying5 Try.underlying9 (Kd.C_below HCx.out s0)
                go_simp
                with_reducible rfl
              rotate_left
              · simp only [Act.put, List.setIfInBounds_toArray, List.set_cons_zero, List.set_cons_succ, i64_w, i32_w]
                rfl
              refine pure_ (i := 9) (N := some 125) (v := ?_) (a' := ?_) #[true, true, true, true, true, true, true, true, true, true, false, false, false, false, false, false, false, false, false, false, false, false, false, false] rfl rfl (any_of HT_.out (by kernel_rfl)) (fun _ _ _ h => h) (Or.inl ⟨by rfl, ?_⟩) ?_ ?_
              rotate_left
              · intro w'
                go_simp
                with_reducible rfl
              rotate_left
              · simp only [Act.put, List.setIfInBounds_toArray, List.set_cons_zero, List.set_cons_succ, i64_w, i32_w]
                rfl
              refine take_ (i := 10) (N := some 126) (v := ?_) (a' := ?_) #[true, true, true, true, true, true, true, true, true, true, true, false, false, false, false, false, false, false, false, false, false, false, false, false] rfl rfl (take_of HT_.out (by kernel_rfl)) (fun _ _ _ h => h) (Or.inl ⟨by rfl, ?_⟩) hHeld ?_ ?_
              rotate_left
              · intro w' s0
                have hx : w'.cell? ⟨w5.heap.size, 0, none⟩ = some (.slice (some ads) 1 cs) := (blk_cell (blk_below BS.out s0) 0).trans rfl
                go_simp
                with_reducible rfl
              rotate_left
              · simp only [Act.put, List.setIfInBounds_toArray, List.set_cons_zero, List.set_cons_succ, i64_w, i32_w]
                rfl
              refine pure_ (i := 11) (N := some 127) (v := ?_) (a' := ?_) #[true, true, true, true, true, true, true, true, true, true, true, true, false, false, false, false, false, false, false, false, false, false, false, false] rfl rfl (any_of HT_.out (by kernel_rfl)) (fun _ _ _ h => h) (Or.inl ⟨by rfl, ?_⟩) ?_ ?_
              rotate_left
              · intro w'
                go_simp
                with_reducible rfl
              rotate_left
              · simp only [Act.put, List.setIfInBounds_toArray, List.set_cons_zero, List.set_cons_succ, i64_w, i32_w]
                rfl
              refine take_ (i := 12) (N := some 128) (v := ?_) (a' := ?_) #[true, true, true, true, true, true, true, true, true, true, true, true, true, false, false, false, false, false, false, false, false, false, false, false] rfl rfl (take_of HT_.out (by kernel_rfl)) (fun _ _ _ h => h) (Or.inl ⟨by rfl, ?_⟩) hHeld ?_ ?_
              rotate_left
              · intro w' s0
                have hx : w'.cell? ads = some (.slice At t.length ct) := (s0.cell (World.block_lt_of_cell? Z _ ct0)).trans ct0
                go_simp
                with_reducible rfl
              rotate_left
              · simp only [Act.put, List.setIfInBounds_toArray, List.set_cons_zero, List.set_cons_succ, i64_w, i32_w]
                rfl
              refine take_ (i := 13) (N := some 129) (v := ?_) (a' := ?_) #[true, true, true, true, true, true, true, true, true, true, true, true, true, true, false, false, false, false, false, false, false, false, false, false] rfl rfl (take_of HT_.out (by kernel_rfl)) (fun _ _ _ h => h) (Or.inl ⟨by rfl, ?_⟩) hHeld ?_ ?_
              rotate_left
              · intro w' s0
                have hcv : (convert 22 9 (.slice At t.length ct)).run Try.prog w' = .ok (.string (strOfNums t)) w' := Kd.C_string Try.underlying22 Try.underlying5 Try.underlying9 (Kd.C_below HCt.out s0)
                go_simp
                with_reducible rfl
              rotate_left
              · simp only [Act.put, List.setIfInBounds_toArray, List.set_cons_zero, List.set_cons_succ, i64_w, i32_w]
                rfl
              refine pure_ (i := 14) (N := some 130) (v := ?_) (a' := ?_) #[true, true, true, true, true, true, true, true, true, true, true, true, true, true, true, false, false, false, false, false, false, false, false, false] rfl rfl (any_of HT_.out (by kernel_rfl)) (fun _ _ _ h => h) (Or.inl ⟨by rfl, ?_⟩) ?_ ?_
              rotate_left
              · intro w'
                go_simp
                with_reducible rfl
              rotate_left
              · simp only [Act.put, List.setIfInBounds_toArray, List.set_cons_zero, List.set_cons_succ, i64_w, i32_w]
                rfl
              refine pure_ (i := 15) (N := some 131) (v := ?_) (a' := ?_) #[true, true, true, true, true, true, true, true, true, true, true, true, true, true, true, true, false, false, false, false, false, false, false, false] rfl rfl (any_of HT_.out (by kernel_rfl)) (fun _ _ _ h => h) (Or.inl ⟨by rfl, ?_⟩) ?_ ?_
              rotate_left
              · intro w'
                go_simp
                with_reducible rfl
              rotate_left
              · simp only [Act.put, List.setIfInBounds_toArray, List.set_cons_zero, List.set_cons_succ, i64_w, i32_w]
                rfl
              refine pure_ (i := 16) (N := some 132) (v := ?_) (a' := ?_) #[true, true, true, true, true, true, true, true, true, true, true, true, true, true, true, true, true, false, false, false, false, false, false, false] rfl rfl (any_of HT_.out (by kernel_rfl)) (fun _ _ _ h => h) (Or.inl ⟨by rfl, ?_⟩) ?_ ?_
              rotate_left
              · intro w'
                go_simp
                with_reducible rfl
              rotate_left
              · simp only [Act.put, List.setIfInBounds_toArray, List.set_cons_zero, List.set_cons_succ, i64_w, i32_w]
                rfl
              refine pure_ (i := 17) (N := some 133) (v := ?_) (a' := ?_) #[true, true, true, true, true, true, true, true, true, true, true, true, true, true, true, true, true, true, false, false, false, false, false, false] rfl rfl (any_of HT_.out (by kernel_rfl)) (fun _ _ _ h => h) (Or.inl ⟨by rfl, ?_⟩) ?_ ?_
              rotate_left
              · intro w'
                go_simp
                with_reducible rfl
              rotate_left
              · simp only [Act.put, List.setIfInBounds_toArray, List.set_cons_zero, List.set_cons_succ, i64_w, i32_w]
                rfl
              refine take_ (i := 18) (N := some 134) (v := ?_) (a' := ?_) #[true, true, true, true, true, true, true, true, true, true, true, true, true, true, true, true, true, true, true, false, false, false, false, false] rfl rfl (take_of HT_.out (by kernel_rfl)) (fun _ _ _ h => h) (Or.inl ⟨by rfl, ?_⟩) hHeld ?_ ?_
              rotate_left
              · intro w' s0
                have hcv : (convert 22 9 (.slice Ay t.length cy)).run Try.prog w' = .ok (.string (strOfNums t)) w' := Kd.C_string Try.underlying22 Try.underlying5 Try.underlying9 (Kd.C_below HCy.out s0)
                go_simp
                with_reducible rfl
              rotate_left
              · simp only [Act.put, List.setIfInBounds_toArray, List.set_cons_zero, List.set_cons_succ, i64_w, i32_w]
                rfl
              refine pure_ (i := 19) (N := some 135) (v := ?_) (a' := ?_) #[true, true, true, true, true, true, true, true, true, true, true, true, true, true, true, true, true, true, true, true, false, false, false, false] rfl rfl (any_of HT_.out (by kernel_rfl)) (fun _ _ _ h => h) (Or.inl ⟨by rfl, ?_⟩) ?_ ?_
              rotate_left
              · intro w'
                go_simp
                with_reducible rfl
              rotate_left
              · simp only [Act.put, List.setIfInBounds_toArray, List.set_cons_zero, List.set_cons_succ, i64_w, i32_w]
                rfl
              refine take_ (i := 20) (N := some 136) (v := ?_) (a' := ?_) #[true, true, true, true, true, true, true, true, true, true, true, true, true, true, true, true, true, true, true, true, true, false, false, false] rfl rfl (take_of HT_.out (by kernel_rfl)) (fun _ _ _ h => h) (Or.inl ⟨by rfl, ?_⟩) hHeld ?_ ?_
              rotate_left
              · intro w' s0
                have hcv : (convert 22 9 (.slice Ax t.length cx)).run Try.prog w' = .ok (.string (strOfNums t)) w' := Kd.C_string Try.underlying22 Try.underlying5 Try.underlying9 (Kd.C_below HCx.out s0)
                go_simp
                with_reducible rfl
              rotate_left
              · simp only [Act.put, List.setIfInBounds_toArray, List.set_cons_zero, List.set_cons_succ, i64_w, i32_w]
                rfl
              refine pure_ (i := 21) (N := some 137) (v := ?_) (a' := ?_) #[true, true, true, true, true, true, true, true, true, true, true, true, true, true, true, true, true, true, true, true, true, true, false, false] rfl rfl (any_of HT_.out (by kernel_rfl)) (fun _ _ _ h => h) (Or.inl ⟨by rfl, ?_⟩) ?_ ?_
              rotate_left
              · intro w'
                go_simp
                with_reducible rfl
              rotate_left
              · simp only [Act.put, List.setIfInBounds_toArray, List.set_cons_zero, List.set_cons_succ, i64_w, i32_w]
                rfl
              refine pure_ (i := 22) (N := some 138) (v := ?_) (a' := ?_) #[true, true, true, true, true, true, true, true, true, true, true, true, true, true, true, true, true, true, true, true, true, true, true, false] rfl rfl (any_of HT_.out (by kernel_rfl)) (fun _ _ _ h => h) (Or.inl ⟨by rfl, ?_⟩) ?_ ?_
              rotate_left
              · intro w'
                go_simp
                with_reducible rfl
              rotate_left
              · simp only [Act.put, List.setIfInBounds_toArray, List.set_cons_zero, List.set_cons_succ, i64_w, i32_w]
                rfl
              refine pure_ (i := 23) (N := some 6) (v := ?_) (a' := ?_) #[true, true, true, true, true, true, true, true, true, true, true, true, true, true, true, true, true, true, true, true, true, true, true, true] rfl rfl (any_of HT_.out (by kernel_rfl)) (fun _ _ _ h => h) (Or.inl ⟨by rfl, ?_⟩) ?_ ?_
              rotate_left
              · intro w'
                go_simp
                with_reducible rfl
              rotate_left
              · simp only [Act.put, List.setIfInBounds_toArray, List.set_cons_zero, List.set_cons_succ, i64_w, i32_w]
                rfl
              refine done_ (done_of HT_.out (by kernel_rfl)) ?_
              go_wp2
              go_ret
              exact ⟨rfl, BV.out⟩
end Go.Proofs.Ytekpbncljaeemaa.Q
