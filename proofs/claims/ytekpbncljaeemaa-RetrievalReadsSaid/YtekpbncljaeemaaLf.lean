import Derived.Test.YtekpbncljaeemaaLb
import Derived.Test.YtekpbncljaeemaaPf
namespace Go.Proofs.Ytekpbncljaeemaa.Q
open Go.RowKit Go.Proofs.YtekpbncljaeemaaW.PrintWords Go.Proofs.YtekpbncljaeemaaW.PrintLast Go.Proofs.YtekpbncljaeemaaW.PrintMore
attribute [local go_sem] max2_int min2_int max_two min_two max_three min_three max_four min_four
set_option linter.unusedVariables false
set_option linter.unusedSimpArgs false

theorem reads_T26 : rtab .any (opsOf Try.f6 26) = (true, [([], []), ([0], [0]), ([], []), ([1, 2], [1, 2]), ([3], [3]), ([], []), ([5], [5]), ([], []), ([6, 7], [6, 7]), ([8], [8]), ([4, 9], [4, 9]), ([10], [10]), ([11], [11]), ([11], [11]), ([12, 10, 0, 1, 2, 3, 4, 5, 6, 7, 8, 9, 10, 11, 12], [12]), ([13, 14, 0, 1, 2, 3, 4, 5, 6, 7, 8, 9, 10, 11, 12, 13, 14], [13])]) := by kernel_rfl
theorem reads_T27 : rtab .any (opsOf Try.f6 27) = (true, [([], []), ([0], [0]), ([1], [1]), ([2], [2]), ([3, 2], [2, 3]), ([2, 4], [2, 4]), ([5, 2], [5]), ([6], [6]), ([6], [6]), ([8, 6], [6, 8]), ([7, 9, 6], [6, 7, 9]), ([6, 10], [6, 10]), ([11, 6], [11]), ([12], [12]), ([13, 12], [12, 13]), ([12], [12]), ([12], [12]), ([15, 16, 12], [12, 15, 16]), ([17, 12], [12, 17]), ([18, 12], [12, 18]), ([14, 19, 12], [12, 14, 19]), ([12, 20], [12, 20])]) := by kernel_rfl

set_option maxHeartbeats 16000000 in
set_option maxRecDepth 100000 in
theorem reads_walk (A0 : Option Addr) (c0 : Nat) (db : List (List Int)) (A1 : Option Addr) (c1 : Nat) (l1 : List Int) (a2 : Int) (A3 : Option Addr) (c3 : Nat) (l3 : List (List Int)) (W : World)
    (C0 : Kd.C (Kd.slice 5 (Kd.int .u8)) W A0 db.length db) (le0 : db.length ≤ c0) (b0 : ∀ m ∈ db, ∀ x ∈ m, 0 ≤ x ∧ x ≤ 255)
    (C1 : Kd.C (Kd.int .i64) W A1 l1.length l1) (le1 : l1.length ≤ c1) (wf1 : ∀ x ∈ l1, (Lit.int .i64 x).wf = true) (y1 : l1.length * 8 ≤ 140737488351232) (w2 : (Lit.int .i64 a2).wf = true)
    (C3 : Kd.C (Kd.slice 5 (Kd.int .u8)) W A3 l3.length l3) (le3 : l3.length ≤ c3) (b3 : ∀ m ∈ l3, ∀ x ∈ m, 0 ≤ x ∧ x ≤ 255) :
    Calls Try.prog 6 #[.slice A0 db.length c0, .slice A1 l1.length c1, .int .i64 a2, .slice A3 l3.length c3] W fun e W' => e = .returned (.bool true) ∧ Below W.heap.size W W' := by
  obtain ⟨f0, hf0, hs0⟩ := few_of 0 db 100 C0.2.1
  obtain ⟨f3, hf3, hs3⟩ := few_of 0 l3 20 C3.2.1
  obtain ⟨r1, r2, r3, hA, _, _⟩ := ask_some (db.length : Int) l1 a2 l3
  have hlaw := reads_law db l1 a2 l3 b0 b3 hA
  have HBD := Aside0.mk C0.2.1
  have HF0 := Aside0.mk hf0; have HF3 := Aside0.mk hf3; have HA := Aside0.mk hA; have HLAW := Aside0.mk hlaw
  clear hf0 hf3 hs0 hs3 b0 b3 wf1 y1 w2 hlaw hA
  have H0 := Aside0.mk C0; have H1 := Aside0.mk C1; have H3 := Aside0.mk C3
  have L0 := Aside0.mk le0; have L1 := Aside0.mk le1; have L3 := Aside0.mk le3
  clear C0 C1 C3 le0 le1 le3
  have hu32 := Try.underlying32
  have hu35 := Try.underlying35
  go_enter Try.func6, Try.ntmps6
  go_wp2_with fail
  refine (sane_calls _).mono ?_
  rintro e w1 ⟨rfl, hbel⟩
  have B_ := Aside0.mk (below_step (Below.refl _ _) hbel)
  have B := B_
  clear B_
  clear hbel
  go_wp2_with fail
  refine (testamurref36_Few.calls _ A0 c0 db 100 f0 _ (Kd.C_below H0.out B.out) L0.out HF0.out).mono ?_
  rintro e w2 ⟨rfl, hd⟩
  have B_ := Aside0.mk (below_step B.out hd.below)
  clear B
  have B := B_
  clear B_
  clear hd
  cases f0 with
  | false =>
      go_wp2
      go_ret
      exact ⟨rfl, B.out⟩
  | true =>
    go_wp2_with fail
    refine (testamurref36_Few.calls _ A3 c3 l3 20 f3 _ (Kd.C_below H3.out B.out) L3.out HF3.out).mono ?_
    rintro e w3 ⟨rfl, hd⟩
    have B_ := Aside0.mk (below_step B.out hd.below)
    clear B
    have B := B_
    clear B_
    clear hd
    cases f3 with
    | false =>
      go_wp2
      go_ret
      exact ⟨rfl, B.out⟩
    | true =>
      by_cases h20 : (l1.length : Int) > 20
      ·
        go_wp2
        go_ret
        exact ⟨rfl, B.out⟩
      ·
        go_wp2_with fail
        refine (retrieval_Ask.calls (db.length : Int) A1 c1 l1 a2 A3 c3 l3 r1 r2 r3 _ (Kd.C_below H1.out B.out) L1.out (Kd.C_below H3.out B.out) L3.out HA.out).mono ?_
        rintro e w4 ⟨va, vb, rfl, ha, hb, hbel⟩
        have B_ := Aside0.mk (below_step B.out hbel)
        clear B
        have B := B_
        clear B_
        have SA := Aside0.mk ha
        clear ha
        have SB := Aside0.mk hb
        clear hb
        clear hbel
        clear h20
        obtain ⟨Aa, ca, ea⟩ := Kd.S_slice SA.out
        obtain ⟨Ab, cb, eb⟩ := Kd.S_slice SB.out
        subst ea eb
        rcases HLAW.out with ⟨hr3, hr1, hr2⟩ | ⟨hr3, hP, hQ, hbad⟩ | ⟨hr3, RR, SS, hP, hQ, hR, hS, hle, hall⟩
        ·
          subst hr1 hr2
          clear HLAW
          have hne : (r3 != 0) = true := bne_iff_ne.mpr hr3
          go_wp2
          go_ret
          exact ⟨rfl, by first | exact B.out | exact below_alloc (below_alloc B.out _) _⟩
        ·
          subst hr3
          clear HLAW
          have HP := Aside0.mk hP; have HQ := Aside0.mk hQ
          clear hP hQ
          go_wp2_with fail
          refine (retrieval_Answer.calls A0 c0 db Aa ca r1 [] 360 _ (Kd.C_below H0.out (below_alloc (below_alloc B.out _) _)) L0.out (S_C (Kd.S_alloc (Kd.S_alloc (SA.out) _) _)).1 (S_C SA.out).2 HP.out).mono ?_
          rintro e w5 ⟨vr, rfl, hs, hbel⟩
          have B_ := Aside0.mk (below_step (below_alloc (below_alloc B.out _) _) hbel)
          have SA_ := Aside0.mk (Kd.S_below (Kd.S_alloc (Kd.S_alloc (SA.out) _) _) hbel)
          have SB_ := Aside0.mk (Kd.S_below (Kd.S_alloc (Kd.S_alloc (SB.out) _) _) hbel)
          have BA_ := Aside0.mk (blk_step ((heap_two w4 (.cells #[.slice Aa r1.length ca] 32) (.cells #[.slice Ab r2.length cb] 32)).1) hbel)
          have BB_ := Aside0.mk (blk_step ((heap_two w4 (.cells #[.slice Aa r1.length ca] 32) (.cells #[.slice Ab r2.length cb] 32)).2) hbel)
          clear B SA SB
          have B := B_
          have SA := SA_
          have SB := SB_
          have BA := BA_
          have BB := BB_
          clear B_ SA_ SB_ BA_ BB_
          have SR := Aside0.mk hs
          clear hs
          clear hbel
          obtain ⟨Ar, cr, er⟩ := Kd.S_slice SR.out
          simp only [List.length_nil] at er
          subst er
          have hczBB : w5.cell? ⟨w4.heap.size + 1, 0, none⟩ = some (.slice Ab r2.length cb) := (blk_cell BB.out 0).trans rfl
          have hfzBB := blk_frozen BB.out 0
          have hltBB : w4.heap.size + 1 < w5.heap.size := blk_lt BB.out
          go_wp2_with fail
          refine (retrieval_Answer.calls A0 c0 db Ab cb r2 [] 360 _ (Kd.C_below H0.out (below_alloc B.out _)) L0.out (S_C (Kd.S_alloc (SB.out) _)).1 (S_C SB.out).2 HQ.out).mono ?_
          rintro e w6 ⟨vs, rfl, hs, hbel⟩
          have B_ := Aside0.mk (below_step (below_alloc B.out _) hbel)
          have SA_ := Aside0.mk (Kd.S_below (Kd.S_alloc (SA.out) _) hbel)
          have SB_ := Aside0.mk (Kd.S_below (Kd.S_alloc (SB.out) _) hbel)
          have BA_ := Aside0.mk (blk_step (blk_alloc (BA.out) _) hbel)
          have BB_ := Aside0.mk (blk_step (blk_alloc (BB.out) _) hbel)
          have SR_ := Aside0.mk (Kd.S_below (Kd.S_alloc (SR.out) _) hbel)
          have BR_ := Aside0.mk (blk_step (heap_alloc_new w5 (.cells #[.slice Ar 0 cr] 35)) hbel)
          clear B SA SB BA BB SR hczBB hfzBB hltBB
          have B := B_
          have SA := SA_
          have SB := SB_
          have BA := BA_
          have BB := BB_
          have SR := SR_
          have BR := BR_
          clear B_ SA_ SB_ BA_ BB_ SR_ BR_
          have SQ := Aside0.mk hs
          clear hs
          clear hbel
          obtain ⟨As, cs, es⟩ := Kd.S_slice SQ.out
          simp only [List.length_nil] at es
          subst es
          have B_ := Aside0.mk (below_alloc B.out (.cells #[.slice As 0 cs] 35))
          clear B
          have B := B_
          clear B_
          go_wp2
          go_loopg [77] db.length (fun kq v77 w' => ∃ x : Int, v77 = .int .i64 x ∧ Aside0 (0 ≤ x ∧ x + (kq : Int) = (db.length : Int) ∧ ∀ j, j < x.toNat → (db.getD j []).length = 16) ∧ Aside0 (Below W.heap.size W w'))
          case atStart => exact ⟨0, rfl, ⟨by omega, by omega, fun j hj => absurd hj (by simp)⟩, B⟩
          case round =>
            clear B
            obtain ⟨x, rfl, HX, B⟩ := hrel
            obtain ⟨i, rfl⟩ := Int.eq_ofNat_of_zero_le HX.out.1
            have hi : i < db.length := by
              obtain ⟨j, hj1, hj2⟩ := hbad
              rcases Nat.lt_or_ge j i with q | q
              · exact absurd (HX.out.2.2 j (by omega)) hj2
              · omega
            have c9b0 : decide ((i : Int) < (db.length : Int)) = true := decide_eq_true (by omega)
            obtain ⟨ad, Ai, ci, eA, hx, hl, hC⟩ := at_L1 (Kd.C_below H0.out B.out) (i : Int) (by omega) (by omega)
            subst eA
            rw [Int.toNat_natCast] at hx
            have HH := Aside0.mk hi
            have p1 := eq_true (show 0 ≤ (i : Int) by omega)
            have p2 := eq_true (show (i : Int) < (db.length : Int) by omega)
            clear hi hl hC
            by_cases h16 : ((rd_L1 db (i : Int)).length : Int) = 16
            ·
              have hb16 : (((rd_L1 db (i : Int)).length : Int) != 16) = false := bne_eq_false_iff_eq.mpr h16
              have H16 := Aside0.mk h16
              clear h16
              go_wp2
              cases gk with
              | zero => exact absurd HX.out.2.1 (by have := HH.out; omega)
              | succ k2 =>
                go_roundg k2
                case measure => omega
                case rel => exact ⟨(i : Int) + 1, (by have q := HH.out; have q2 := HBD.out; congr 1; unfold wrap64; omega), ⟨by omega, by have q := HX.out; omega, fun j hj => by
                    rcases Nat.lt_or_ge j i with q | q
                    · exact HX.out.2.2 j (by omega)
                    · have e : j = i := by omega
                      subst e
                      have q2 := H16.out
                      rw [rd_L1_nat] at q2
                      omega⟩, B⟩
            ·
              have hb16 : (((rd_L1 db (i : Int)).length : Int) != 16) = true := bne_iff_ne.mpr h16
              clear h16
              go_wp2
              go_ret
              exact ⟨rfl, B.out⟩
        ·
          subst hr3
          clear HLAW
          have HP := Aside0.mk hP; have HQ := Aside0.mk hQ
          clear hP hQ
          go_wp2_with fail
          refine (retrieval_Answer.calls A0 c0 db Aa ca r1 RR 0 _ (Kd.C_below H0.out (below_alloc (below_alloc B.out _) _)) L0.out (S_C (Kd.S_alloc (Kd.S_alloc (SA.out) _) _)).1 (S_C SA.out).2 HP.out).mono ?_
          rintro e w5 ⟨vr, rfl, hs, hbel⟩
          have B_ := Aside0.mk (below_step (below_alloc (below_alloc B.out _) _) hbel)
          have SA_ := Aside0.mk (Kd.S_below (Kd.S_alloc (Kd.S_alloc (SA.out) _) _) hbel)
          have SB_ := Aside0.mk (Kd.S_below (Kd.S_alloc (Kd.S_alloc (SB.out) _) _) hbel)
          have BA_ := Aside0.mk (blk_step ((heap_two w4 (.cells #[.slice Aa r1.length ca] 32) (.cells #[.slice Ab r2.length cb] 32)).1) hbel)
          have BB_ := Aside0.mk (blk_step ((heap_two w4 (.cells #[.slice Aa r1.length ca] 32) (.cells #[.slice Ab r2.length cb] 32)).2) hbel)
          clear B SA SB
          have B := B_
          have SA := SA_
          have SB := SB_
          have BA := BA_
          have BB := BB_
          clear B_ SA_ SB_ BA_ BB_
          have SR := Aside0.mk hs
          clear hs
          clear hbel
          obtain ⟨Ar, cr, er⟩ := Kd.S_slice SR.out
          subst er
          have hczBB : w5.cell? ⟨w4.heap.size + 1, 0, none⟩ = some (.slice Ab r2.length cb) := (blk_cell BB.out 0).trans rfl
          have hfzBB := blk_frozen BB.out 0
          have hltBB : w4.heap.size + 1 < w5.heap.size := blk_lt BB.out
          go_wp2_with fail
          refine (retrieval_Answer.calls A0 c0 db Ab cb r2 SS 0 _ (Kd.C_below H0.out (below_alloc B.out _)) L0.out (S_C (Kd.S_alloc (SB.out) _)).1 (S_C SB.out).2 HQ.out).mono ?_
          rintro e w6 ⟨vs, rfl, hs, hbel⟩
          have B_ := Aside0.mk (below_step (below_alloc B.out _) hbel)
          have SA_ := Aside0.mk (Kd.S_below (Kd.S_alloc (SA.out) _) hbel)
          have SB_ := Aside0.mk (Kd.S_below (Kd.S_alloc (SB.out) _) hbel)
          have BA_ := Aside0.mk (blk_step (blk_alloc (BA.out) _) hbel)
          have BB_ := Aside0.mk (blk_step (blk_alloc (BB.out) _) hbel)
          have SR_ := Aside0.mk (Kd.S_below (Kd.S_alloc (SR.out) _) hbel)
          have BR_ := Aside0.mk (blk_step (heap_alloc_new w5 (.cells #[.slice Ar RR.length cr] 35)) hbel)
          clear B SA SB BA BB SR hczBB hfzBB hltBB
          have B := B_
          have SA := SA_
          have SB := SB_
          have BA := BA_
          have BB := BB_
          have SR := SR_
          have BR := BR_
          clear B_ SA_ SB_ BA_ BB_ SR_ BR_
          have SQ := Aside0.mk hs
          clear hs
          clear hbel
          obtain ⟨As, cs, es⟩ := Kd.S_slice SQ.out
          subst es
          have HR0_ := (S_C SR.out).1
          have hne1 : ((RR.length : Int) != a2) = false := bne_eq_false_iff_eq.mpr hR
          have hne2 : ((SS.length : Int) != a2) = false := bne_eq_false_iff_eq.mpr hS
          have hczBR : w6.cell? ⟨w5.heap.size, 0, none⟩ = some (.slice Ar RR.length cr) := (blk_cell BR.out 0).trans rfl
          have hfzBR := blk_frozen BR.out 0
          have hltBR : w5.heap.size < w6.heap.size := blk_lt BR.out
          have HBR := Aside0.mk HR0_.2.1
          clear HR0_
          have HR' := Aside0.mk hR
          have HS' := Aside0.mk hS
          have HALL := Aside0.mk hall
          have HLE := Aside0.mk hle
          clear hR hS hall hle
          go_wp2
          obtain ⟨wL, hwL⟩ : ∃ wL, wL = (w6.alloc (.cells #[.slice As SS.length cs] 35)) := ⟨_, rfl⟩
          have BX : Below w6.heap.size w6 wL := by rw [hwL]; exact below_alloc (Below.refl _ _) _
          have SR_ := Aside0.mk (S_C (Kd.S_below SR.out BX)).1
          have SQ_ := Aside0.mk (S_C (Kd.S_below SQ.out BX)).1
          have BR_ := Aside0.mk (blk_below BR.out BX)
          have BS : Aside0 (wL.heap[w6.heap.size]? = some (.cells #[.slice As SS.length cs] 35 (0, 0))) := ⟨by rw [hwL]; exact heap_alloc_new _ _⟩
          have BL : Aside0 (Below W.heap.size W wL) := ⟨below_step B.out BX⟩
          clear SR SQ BR B BX SA SB BA BB
          have HR := SR_
          have HS := SQ_
          have BR := BR_
          clear SR_ SQ_ BR_
          have hcr : wL.cell? ⟨w5.heap.size, 0, none⟩ = some (.slice Ar RR.length cr) := (blk_cell BR.out 0).trans rfl
          have hcs : wL.cell? ⟨w6.heap.size, 0, none⟩ = some (.slice As SS.length cs) := (blk_cell BS.out 0).trans rfl
          have hfr := blk_frozen BR.out 0
          have hfs := blk_frozen BS.out 0
          rw [← hwL]
          clear hwL hczBR hfzBR hltBR
          go_loopg [105] a2.toNat (fun kq v105 w' => ∃ x : Int, v105 = .int .i64 x ∧ Aside0 (0 ≤ x ∧ x + (kq : Int) = a2) ∧ Aside0 (Below wL.heap.size wL w'))
          case atStart => exact ⟨0, rfl, ⟨by omega, by have q := HR'.out; omega⟩, ⟨Below.refl _ _⟩⟩
          case round =>
            clear hcr hcs hfr hfs
            obtain ⟨x, rfl, HX, B⟩ := hrel
            obtain ⟨i, rfl⟩ := Int.eq_ofNat_of_zero_le HX.out.1
            cases gk with
            | zero =>
              have c9b0 : decide ((i : Int) < a2) = false := decide_eq_false (by have q := HX.out.2; omega)
              go_wp2
              go_ret
              exact ⟨rfl, below_step BL.out B.out⟩
            | succ k2 =>
              have HI : Aside0 ((i : Int) < a2) := ⟨by have q := HX.out.2; omega⟩
              have c9b0 : decide ((i : Int) < a2) = true := decide_eq_true HI.out
              obtain ⟨hn0, hn1, hn16, hJ⟩ := HALL.out i HI.out
              obtain ⟨n, hn⟩ : ∃ n, askN l1 i = n := ⟨_, rfl⟩
              rw [hn] at hn0 hn1 hn16 hJ
              have HN0 := Aside0.mk hn0; have HN1 := Aside0.mk hn1; have HN16 := Aside0.mk hn16; have HJ := Aside0.mk hJ; have HN := Aside0.mk hn
              clear hn0 hn1 hn16 hJ hn
              by_cases hx : (i : Int) < (l1.length : Int)
              ·
                have hN := HN.out
                unfold askN at hN
                rw [if_pos (show i < l1.length by omega)] at hN
                have c8b0 : decide ((i : Int) < (l1.length : Int)) = true := decide_eq_true hx
                have HXL := Aside0.mk hx
                clear hx
                obtain ⟨ad1, e1, hx1⟩ := Kd.at_int (Kd.C_below H1.out (below_step BL.out B.out)) (i : Int) (by omega) HXL.out
                subst e1
                rw [Int.toNat_natCast, hN] at hx1
                have p1 := eq_true (show 0 ≤ (i : Int) by omega)
                have p2 := eq_true HXL.out
                clear hN
                go_wp2_with fail
                obtain ⟨V, hV⟩ : ∃ V, V = wr.drew := ⟨_, rfl⟩
                have BX : Below wL.heap.size wL V := by rw [hV]; exact below_drew B.out
                have BW : Aside0 (Below W.heap.size W V) := ⟨below_step BL.out BX⟩
                have BRv := Aside0.mk (blk_below BR.out BX)
                have BSv := Aside0.mk (blk_below BS.out BX)
                have qr := HR'.out
                have qs := HS'.out
                have qi := HI.out
                obtain ⟨adr, Au, cu, er, hr0, hlu, hCu⟩ := at_L1 (Kd.C_below HR.out BX) (i : Int) (by omega) (by omega)
                subst er
                obtain ⟨ads, Av, cv, es, hs0, hlv, hCv⟩ := at_L1 (Kd.C_below HS.out BX) (i : Int) (by omega) (by omega)
                subst es
                rw [Int.toNat_natCast] at hr0 hs0
                have p1 := eq_true (show 0 ≤ (i : Int) by omega)
                have p2 := eq_true (show (i : Int) < (RR.length : Int) by omega)
                have p3 := eq_true (show (i : Int) < (SS.length : Int) by omega)
                have HCu := Aside0.mk hCu
                have HCv := Aside0.mk hCv
                have LU := Aside0.mk hlu
                have LV := Aside0.mk hlv
                have BXX := Aside0.mk BX
                clear hCu hCv hlu hlv qr qs qi BX
                refine start_ (n := 16) (S := fun W' => Below V.heap.size V W') (ds := []) #[false, false, false, false, false, false, false, false, false, false, false, false, false, false, false, false] (by kernel_rfl) rfl rfl (by rw [hV]; exact Below.refl _ _) (fun hHeld => ?_)
                refine with_tab reads_T26 (fun HT_ => ?_)
                rw [← hV] at hHeld ⊢
                refine pure_ (i := 0) (N := some 117) (v := ?_) (a' := ?_) #[true, false, false, false, false, false, false, false, false, false, false, false, false, false, false, false] rfl rfl (any_of HT_.out (by kernel_rfl)) (fun _ _ _ h => h) (Or.inl ⟨by rfl, ?_⟩) ?_ ?_
                rotate_left
                · intro w'
                  go_simp
                  with_reducible rfl
                rotate_left
                · simp only [Act.put, List.setIfInBounds_toArray, List.set_cons_zero, List.set_cons_succ, i64_w, i32_w]
                  rfl
                refine take_ (i := 1) (N := some 118) (v := ?_) (a' := ?_) #[true, true, false, false, false, false, false, false, false, false, false, false, false, false, false, false] rfl rfl (take_of HT_.out (by kernel_rfl)) (fun _ _ _ h => h) (Or.inl ⟨by rfl, ?_⟩) hHeld ?_ ?_
                rotate_left
                · intro w' s0
                  have hx : w'.cell? ⟨w5.heap.size, 0, none⟩ = some (.slice (some adr) RR.length cr) := (blk_cell (blk_below BRv.out s0) 0).trans rfl
                  go_simp
                  with_reducible rfl
                rotate_left
                · simp only [Act.put, List.setIfInBounds_toArray, List.set_cons_zero, List.set_cons_succ, i64_w, i32_w]
                  rfl
                refine pure_ (i := 2) (N := some 119) (v := ?_) (a' := ?_) #[true, true, true, false, false, false, false, false, false, false, false, false, false, false, false, false] rfl rfl (any_of HT_.out (by kernel_rfl)) (fun _ _ _ h => h) (Or.inl ⟨by rfl, ?_⟩) ?_ ?_
                rotate_left
                · intro w'
                  go_simp
                  with_reducible rfl
                rotate_left
                · simp only [Act.put, List.setIfInBounds_toArray, List.set_cons_zero, List.set_cons_succ, i64_w, i32_w]
                  rfl
                refine pure_ (i := 3) (N := some 120) (v := ?_) (a' := ?_) #[true, true, true, true, false, false, false, false, false, false, false, false, false, false, false, false] rfl rfl (any_of HT_.out (by kernel_rfl)) (fun _ _ _ h => h) (Or.inl ⟨by rfl, ?_⟩) ?_ ?_
                rotate_left
                · intro w'
                  go_simp
                  with_reducible rfl
                rotate_left
                · simp only [Act.put, List.setIfInBounds_toArray, List.set_cons_zero, List.set_cons_succ, i64_w, i32_w]
                  rfl
                refine take_ (i := 4) (N := some 121) (v := ?_) (a' := ?_) #[true, true, true, true, true, false, false, false, false, false, false, false, false, false, false, false] rfl rfl (take_of HT_.out (by kernel_rfl)) (fun _ _ _ h => h) (Or.inl ⟨by rfl, ?_⟩) hHeld ?_ ?_
                rotate_left
                · intro w' s0
                  have hx : w'.cell? (adr.add i) = some (.slice Au (rd_L1 RR (i : Int)).length cu) := (s0.cell (World.block_lt_of_cell? V _ hr0)).trans hr0
                  go_simp
                  with_reducible rfl
                rotate_left
                · simp only [Act.put, List.setIfInBounds_toArray, List.set_cons_zero, List.set_cons_succ, i64_w, i32_w]
                  rfl
                refine pure_ (i := 5) (N := some 122) (v := ?_) (a' := ?_) #[true, true, true, true, true, true, false, false, false, false, false, false, false, false, false, false] rfl rfl (any_of HT_.out (by kernel_rfl)) (fun _ _ _ h => h) (Or.inl ⟨by rfl, ?_⟩) ?_ ?_
                rotate_left
                · intro w'
                  go_simp
                  with_reducible rfl
                rotate_left
                · simp only [Act.put, List.setIfInBounds_toArray, List.set_cons_zero, List.set_cons_succ, i64_w, i32_w]
                  rfl
                refine take_ (i := 6) (N := some 123) (v := ?_) (a' := ?_) #[true, true, true, true, true, true, true, false, false, false, false, false, false, false, false, false] rfl rfl (take_of HT_.out (by kernel_rfl)) (fun _ _ _ h => h) (Or.inl ⟨by rfl, ?_⟩) hHeld ?_ ?_
                rotate_left
                · intro w' s0
                  have hx : w'.cell? ⟨w6.heap.size, 0, none⟩ = some (.slice (some ads) SS.length cs) := (blk_cell (blk_below BSv.out s0) 0).trans rfl
                  go_simp
                  with_reducible rfl
                rotate_left
                · simp only [Act.put, List.setIfInBounds_toArray, List.set_cons_zero, List.set_cons_succ, i64_w, i32_w]
                  rfl
                refine pure_ (i := 7) (N := some 124) (v := ?_) (a' := ?_) #[true, true, true, true, true, true, true, true, false, false, false, false, false, false, false, false] rfl rfl (any_of HT_.out (by kernel_rfl)) (fun _ _ _ h => h) (Or.inl ⟨by rfl, ?_⟩) ?_ ?_
                rotate_left
                · intro w'
                  go_simp
                  with_reducible rfl
                rotate_left
                · simp only [Act.put, List.setIfInBounds_toArray, List.set_cons_zero, List.set_cons_succ, i64_w, i32_w]
                  rfl
                refine pure_ (i := 8) (N := some 125) (v := ?_) (a' := ?_) #[true, true, true, true, true, true, true, true, true, false, false, false, false, false, false, false] rfl rfl (any_of HT_.out (by kernel_rfl)) (fun _ _ _ h => h) (Or.inl ⟨by rfl, ?_⟩) ?_ ?_
                rotate_left
                · intro w'
                  go_simp
                  with_reducible rfl
                rotate_left
                · simp only [Act.put, List.setIfInBounds_toArray, List.set_cons_zero, List.set_cons_succ, i64_w, i32_w]
                  rfl
                refine take_ (i := 9) (N := some 126) (v := ?_) (a' := ?_) #[true, true, true, true, true, true, true, true, true, true, false, false, false, false, false, false] rfl rfl (take_of HT_.out (by kernel_rfl)) (fun _ _ _ h => h) (Or.inl ⟨by rfl, ?_⟩) hHeld ?_ ?_
                rotate_left
                · intro w' s0
                  have hx : w'.cell? (ads.add i) = some (.slice Av (rd_L1 SS (i : Int)).length cv) := (s0.cell (World.block_lt_of_cell? V _ hs0)).trans hs0
                  go_simp
                  with_reducible rfl
                rotate_left
                · simp only [Act.put, List.setIfInBounds_toArray, List.set_cons_zero, List.set_cons_succ, i64_w, i32_w]
                  rfl
                refine one_ (i := 10) (N := some 127) #[true, true, true, true, true, true, true, true, true, true, true, false, false, false, false, false] rfl rfl (one_of HT_.out (by kernel_rfl)) (by decide) (fun K hK => ?_)
                refine goes_ Try.func17 (by kernel_rfl) rfl #[.slice Au (rd_L1 RR (i : Int)).length cu, .slice Av (rd_L1 SS (i : Int)).length cv] (by rfl) rfl rfl (by (try simp only [List.map_toArray, List.map_cons, List.map_nil]); first | done | rfl) ?_
                refine (retrieval_Join.calls Au cu (rd_L1 RR (i : Int)) Av cv (rd_L1 SS (i : Int)) (rd_L1 db n) 0 V HCu.out LU.out HCv.out LV.out HJ.out).mono ?_
                rintro e V2 ⟨vy, rfl, hy, hbel⟩
                refine ⟨_, rfl, ?_⟩
                have HY := Aside0.mk hy
                have B2 := Aside0.mk hbel
                clear hy hbel
                refine hK.out _ _ (B2.out) (fun hHeld => ?_)
                clear hK K
                refine norm_ (a' := ?_) ?_ ?_
                rotate_left
                · show Act.put _ (some 127) _ = _
                  simp only [Act.put, List.setIfInBounds_toArray, List.set_cons_zero, List.set_cons_succ, i64_w, i32_w]
                  rfl
                refine pure_ (i := 11) (N := some 116) (v := ?_) (a' := ?_) #[true, true, true, true, true, true, true, true, true, true, true, true, false, false, false, false] rfl rfl (any_of HT_.out (by kernel_rfl)) (fun _ _ _ h => h) (Or.inl ⟨by rfl, ?_⟩) ?_ ?_
                rotate_left
                · intro w'
                  go_simp
                  with_reducible rfl
                rotate_left
                · simp only [Act.put, List.setIfInBounds_toArray, List.set_cons_zero, List.set_cons_succ, i64_w, i32_w]
                  rfl
                refine pure_ (i := 12) (N := some 128) (v := ?_) (a' := ?_) #[true, true, true, true, true, true, true, true, true, true, true, true, true, false, false, false] rfl rfl (any_of HT_.out (by kernel_rfl)) (fun _ _ _ h => h) (Or.inl ⟨by rfl, ?_⟩) ?_ ?_
                rotate_left
                · intro w'
                  go_simp
                  with_reducible rfl
                rotate_left
                · simp only [Act.put, List.setIfInBounds_toArray, List.set_cons_zero, List.set_cons_succ, i64_w, i32_w]
                  rfl
                refine pure_ (i := 13) (N := some 129) (v := ?_) (a' := ?_) #[true, true, true, true, true, true, true, true, true, true, true, true, true, true, false, false] rfl rfl (any_of HT_.out (by kernel_rfl)) (fun _ _ _ h => h) (Or.inl ⟨by rfl, ?_⟩) ?_ ?_
                rotate_left
                · intro w'
                  go_simp
                  with_reducible rfl
                rotate_left
                · simp only [Act.put, List.setIfInBounds_toArray, List.set_cons_zero, List.set_cons_succ, i64_w, i32_w]
                  rfl
                refine pure_ (i := 14) (N := some 20) (v := ?_) (a' := ?_) #[true, true, true, true, true, true, true, true, true, true, true, true, true, true, true, false] rfl rfl (any_of HT_.out (by kernel_rfl)) (fun _ _ _ h => h) (Or.inl ⟨by rfl, ?_⟩) ?_ ?_
                rotate_left
                · intro w'
                  go_simp
                  with_reducible rfl
                rotate_left
                · simp only [Act.put, List.setIfInBounds_toArray, List.set_cons_zero, List.set_cons_succ, i64_w, i32_w]
                  rfl
                refine pure_ (i := 15) (N := some 21) (v := ?_) (a' := ?_) #[true, true, true, true, true, true, true, true, true, true, true, true, true, true, true, true] rfl rfl (any_of HT_.out (by kernel_rfl)) (fun _ _ _ h => h) (Or.inl ⟨by rfl, ?_⟩) ?_ ?_
                rotate_left
                · intro w'
                  go_simp
                  with_reducible rfl
                rotate_left
                · simp only [Act.put, List.setIfInBounds_toArray, List.set_cons_zero, List.set_cons_succ, i64_w, i32_w]
                  rfl
                refine done_ (done_of HT_.out (by kernel_rfl)) ?_
                go_wp2_with fail
                obtain ⟨Ay, cy, ey⟩ := Kd.R_slice HY.out
                subst ey
                clear hV
                obtain ⟨U, hU⟩ : ∃ U, U = V2.drew := ⟨_, rfl⟩
                have BU : Below V.heap.size V U := by rw [hU]; exact below_drew B2.out
                have BU2 : Below V2.heap.size V2 U := by rw [hU]; exact below_drew (Below.refl _ _)
                have HCy : Aside0 (Kd.C (Kd.int .u8) U Ay (rd_L1 db n).length (rd_L1 db n)) := ⟨Kd.C_below (R_C HY.out).1 BU2⟩
                have BY : Aside0 (Below wL.heap.size wL U) := ⟨below_step BXX.out BU⟩
                have BW_ := Aside0.mk (below_step BW.out BU)
                clear BW
                have BW := BW_
                clear BW_
                obtain ⟨add, Ad, cd, ed, hd0, hld, hCd⟩ := at_L1 (Kd.C_below H0.out BW.out) n HN0.out HN1.out
                subst ed
                have HCd := Aside0.mk hCd
                have p4 := eq_true HN0.out
                have p5 := eq_true HN1.out
                have p6 : (n < 0) = False := eq_false (by have q := HN0.out; omega)
                have p6b : decide (n < 0) = false := decide_eq_false (by have q := HN0.out; omega)
                have p7 : (n ≥ (db.length : Int)) = False := eq_false (by have q := HN1.out; omega)
                have p7b : decide (n ≥ (db.length : Int)) = false := decide_eq_false (by have q := HN1.out; omega)
                clear hCd hld HY B2 BU BU2 hr0 hs0 BRv BSv HCu HCv LU LV p1 p2 p3 BXX
                refine start_ (n := 22) (S := fun W' => Below U.heap.size U W') (ds := []) #[false, false, false, false, false, false, false, false, false, false, false, false, false, false, false, false, false, false, false, false, false, false] (by kernel_rfl) rfl rfl (by rw [hU]; exact Below.refl _ _) (fun hHeld => ?_)
                refine with_tab reads_T27 (fun HT_ => ?_)
                rw [← hU] at hHeld ⊢
                clear hU
                refine pure_ (i := 0) (N := some 130) (v := ?_) (a' := ?_) #[true, false, false, false, false, false, false, false, false, false, false, false, false, false, false, false, false, false, false, false, false, false] rfl rfl (any_of HT_.out (by kernel_rfl)) (fun _ _ _ h => h) (Or.inl ⟨by rfl, ?_⟩) ?_ ?_
                rotate_left
                · intro w'
                  go_simp
                  with_reducible rfl
                rotate_left
                · simp only [Act.put, List.setIfInBounds_toArray, List.set_cons_zero, List.set_cons_succ, i64_w, i32_w]
                  rfl
                refine pure_ (i := 1) (N := some 131) (v := ?_) (a' := ?_) #[true, true, false, false, false, false, false, false, false, false, false, false, false, false, false, false, false, false, false, false, false, false] rfl rfl (any_of HT_.out (by kernel_rfl)) (fun _ _ _ h => h) (Or.inl ⟨by rfl, ?_⟩) ?_ ?_
                rotate_left
                · intro w'
                  go_simp
                  with_reducible rfl
                rotate_left
                · simp only [Act.put, List.setIfInBounds_toArray, List.set_cons_zero, List.set_cons_succ, i64_w, i32_w]
                  rfl
                refine pure_ (i := 2) (N := some 132) (v := ?_) (a' := ?_) #[true, true, true, false, false, false, false, false, false, false, false, false, false, false, false, false, false, false, false, false, false, false] rfl rfl (any_of HT_.out (by kernel_rfl)) (fun _ _ _ h => h) (Or.inl ⟨by rfl, ?_⟩) ?_ ?_
                rotate_left
                · intro w'
                  go_simp
                  with_reducible rfl
                rotate_left
                · simp only [Act.put, List.setIfInBounds_toArray, List.set_cons_zero, List.set_cons_succ, i64_w, i32_w]
                  rfl
                refine pure_ (i := 3) (N := some 133) (v := ?_) (a' := ?_) #[true, true, true, true, false, false, false, false, false, false, false, false, false, false, false, false, false, false, false, false, false, false] rfl rfl (any_of HT_.out (by kernel_rfl)) (fun _ _ _ h => h) (Or.inl ⟨by rfl, ?_⟩) ?_ ?_
                rotate_left
                · intro w'
                  go_simp
                  with_reducible rfl
                rotate_left
                · simp only [Act.put, List.setIfInBounds_toArray, List.set_cons_zero, List.set_cons_succ, i64_w, i32_w]
                  rfl
                refine pure_ (i := 4) (N := some 134) (v := ?_) (a' := ?_) #[true, true, true, true, true, false, false, false, false, false, false, false, false, false, false, false, false, false, false, false, false, false] rfl rfl (any_of HT_.out (by kernel_rfl)) (fun _ _ _ h => h) (Or.inl ⟨by rfl, ?_⟩) ?_ ?_
                rotate_left
                · intro w'
                  go_simp
                  with_reducible rfl
                rotate_left
                · simp only [Act.put, List.setIfInBounds_toArray, List.set_cons_zero, List.set_cons_succ, i64_w, i32_w]
                  rfl
                refine pure_ (i := 5) (N := some 135) (v := ?_) (a' := ?_) #[true, true, true, true, true, true, false, false, false, false, false, false, false, false, false, false, false, false, false, false, false, false] rfl rfl (any_of HT_.out (by kernel_rfl)) (fun _ _ _ h => h) (Or.inl ⟨by rfl, ?_⟩) ?_ ?_
                rotate_left
                · intro w'
                  go_simp
                  with_reducible rfl
                rotate_left
                · simp only [Act.put, List.setIfInBounds_toArray, List.set_cons_zero, List.set_cons_succ, i64_w, i32_w]
                  rfl
                refine pure_ (i := 6) (N := some 136) (v := ?_) (a' := ?_) #[true, true, true, true, true, true, true, false, false, false, false, false, false, false, false, false, false, false, false, false, false, false] rfl rfl (any_of HT_.out (by kernel_rfl)) (fun _ _ _ h => h) (Or.inl ⟨by rfl, ?_⟩) ?_ ?_
                rotate_left
                · intro w'
                  go_simp
                  with_reducible rfl
                rotate_left
                · simp only [Act.put, List.setIfInBounds_toArray, List.set_cons_zero, List.set_cons_succ, i64_w, i32_w]
                  rfl
                refine pure_ (i := 7) (N := some 137) (v := ?_) (a' := ?_) #[true, true, true, true, true, true, true, true, false, false, false, false, false, false, false, false, false, false, false, false, false, false] rfl rfl (any_of HT_.out (by kernel_rfl)) (fun _ _ _ h => h) (Or.inl ⟨by rfl, ?_⟩) ?_ ?_
                rotate_left
                · intro w'
                  go_simp
                  with_reducible rfl
                rotate_left
                · simp only [Act.put, List.setIfInBounds_toArray, List.set_cons_zero, List.set_cons_succ, i64_w, i32_w]
                  rfl
                refine pure_ (i := 8) (N := some 138) (v := ?_) (a' := ?_) #[true, true, true, true, true, true, true, true, true, false, false, false, false, false, false, false, false, false, false, false, false, false] rfl rfl (any_of HT_.out (by kernel_rfl)) (fun _ _ _ h => h) (Or.inl ⟨by rfl, ?_⟩) ?_ ?_
                rotate_left
                · intro w'
                  go_simp
                  with_reducible rfl
                rotate_left
                · simp only [Act.put, List.setIfInBounds_toArray, List.set_cons_zero, List.set_cons_succ, i64_w, i32_w]
                  rfl
                refine pure_ (i := 9) (N := some 139) (v := ?_) (a' := ?_) #[true, true, true, true, true, true, true, true, true, true, false, false, false, false, false, false, false, false, false, false, false, false] rfl rfl (any_of HT_.out (by kernel_rfl)) (fun _ _ _ h => h) (Or.inl ⟨by rfl, ?_⟩) ?_ ?_
                rotate_left
                · intro w'
                  go_simp
                  with_reducible rfl
                rotate_left
                · simp only [Act.put, List.setIfInBounds_toArray, List.set_cons_zero, List.set_cons_succ, i64_w, i32_w]
                  rfl
                refine pure_ (i := 10) (N := some 140) (v := ?_) (a' := ?_) #[true, true, true, true, true, true, true, true, true, true, true, false, false, false, false, false, false, false, false, false, false, false] rfl rfl (any_of HT_.out (by kernel_rfl)) (fun _ _ _ h => h) (Or.inl ⟨by rfl, ?_⟩) ?_ ?_
                rotate_left
                · intro w'
                  go_simp
                  with_reducible rfl
                rotate_left
                · simp only [Act.put, List.setIfInBounds_toArray, List.set_cons_zero, List.set_cons_succ, i64_w, i32_w]
                  rfl
                refine pure_ (i := 11) (N := some 141) (v := ?_) (a' := ?_) #[true, true, true, true, true, true, true, true, true, true, true, true, false, false, false, false, false, false, false, false, false, false] rfl rfl (any_of HT_.out (by kernel_rfl)) (fun _ _ _ h => h) (Or.inl ⟨by rfl, ?_⟩) ?_ ?_
                rotate_left
                · intro w'
                  go_simp
                  with_reducible rfl
                rotate_left
                · simp only [Act.put, List.setIfInBounds_toArray, List.set_cons_zero, List.set_cons_succ, i64_w, i32_w]
                  rfl
                refine pure_ (i := 12) (N := some 142) (v := ?_) (a' := ?_) #[true, true, true, true, true, true, true, true, true, true, true, true, true, false, false, false, false, false, false, false, false, false] rfl rfl (any_of HT_.out (by kernel_rfl)) (fun _ _ _ h => h) (Or.inl ⟨by rfl, ?_⟩) ?_ ?_
                rotate_left
                · intro w'
                  go_simp
                  with_reducible rfl
                rotate_left
                · simp only [Act.put, List.setIfInBounds_toArray, List.set_cons_zero, List.set_cons_succ, i64_w, i32_w]
                  rfl
                refine pure_ (i := 13) (N := some 143) (v := ?_) (a' := ?_) #[true, true, true, true, true, true, true, true, true, true, true, true, true, true, false, false, false, false, false, false, false, false] rfl rfl (any_of HT_.out (by kernel_rfl)) (fun _ _ _ h => h) (Or.inl ⟨by rfl, ?_⟩) ?_ ?_
                rotate_left
                · intro w'
                  go_simp
                  with_reducible rfl
                rotate_left
                · simp only [Act.put, List.setIfInBounds_toArray, List.set_cons_zero, List.set_cons_succ, i64_w, i32_w]
                  rfl
                refine take_ (i := 14) (N := some 144) (v := ?_) (a' := ?_) #[true, true, true, true, true, true, true, true, true, true, true, true, true, true, true, false, false, false, false, false, false, false] rfl rfl (take_of HT_.out (by kernel_rfl)) (fun _ _ _ h => h) (Or.inl ⟨by rfl, ?_⟩) hHeld ?_ ?_
                rotate_left
                · intro w' s0
                  have hcv : (convert 22 9 (.slice Ay (rd_L1 db n).length cy)).run Try.prog w' = .ok (.string (strOfNums (rd_L1 db n))) w' := Kd.C_string Try.underlying22 Try.underlying5 Try.underlying9 (Kd.C_below HCy.out s0)
                  go_simp
                  with_reducible rfl
                rotate_left
                · simp only [Act.put, List.setIfInBounds_toArray, List.set_cons_zero, List.set_cons_succ, i64_w, i32_w]
                  rfl
                refine pure_ (i := 15) (N := some 145) (v := ?_) (a' := ?_) #[true, true, true, true, true, true, true, true, true, true, true, true, true, true, true, true, false, false, false, false, false, false] rfl rfl (any_of HT_.out (by kernel_rfl)) (fun _ _ _ h => h) (Or.inl ⟨by rfl, ?_⟩) ?_ ?_
                rotate_left
                · intro w'
                  go_simp
                  with_reducible rfl
                rotate_left
                · simp only [Act.put, List.setIfInBounds_toArray, List.set_cons_zero, List.set_cons_succ, i64_w, i32_w]
                  rfl
                refine pure_ (i := 16) (N := some 146) (v := ?_) (a' := ?_) #[true, true, true, true, true, true, true, true, true, true, true, true, true, true, true, true, true, false, false, false, false, false] rfl rfl (any_of HT_.out (by kernel_rfl)) (fun _ _ _ h => h) (Or.inl ⟨by rfl, ?_⟩) ?_ ?_
                rotate_left
                · intro w'
                  go_simp
                  with_reducible rfl
                rotate_left
                · simp only [Act.put, List.setIfInBounds_toArray, List.set_cons_zero, List.set_cons_succ, i64_w, i32_w]
                  rfl
                refine pure_ (i := 17) (N := some 147) (v := ?_) (a' := ?_) #[true, true, true, true, true, true, true, true, true, true, true, true, true, true, true, true, true, true, false, false, false, false] rfl rfl (any_of HT_.out (by kernel_rfl)) (fun _ _ _ h => h) (Or.inl ⟨by rfl, ?_⟩) ?_ ?_
                rotate_left
                · intro w'
                  go_simp
                  with_reducible rfl
                rotate_left
                · simp only [Act.put, List.setIfInBounds_toArray, List.set_cons_zero, List.set_cons_succ, i64_w, i32_w]
                  rfl
                refine take_ (i := 18) (N := some 148) (v := ?_) (a' := ?_) #[true, true, true, true, true, true, true, true, true, true, true, true, true, true, true, true, true, true, true, false, false, false] rfl rfl (take_of HT_.out (by kernel_rfl)) (fun _ _ _ h => h) (Or.inl ⟨by rfl, ?_⟩) hHeld ?_ ?_
                rotate_left
                · intro w' s0
                  have hx : w'.cell? (add.add n.toNat) = some (.slice Ad (rd_L1 db n).length cd) := (s0.cell (World.block_lt_of_cell? U _ hd0)).trans hd0
                  go_simp
                  with_reducible rfl
                rotate_left
                · simp only [Act.put, List.setIfInBounds_toArray, List.set_cons_zero, List.set_cons_succ, i64_w, i32_w]
                  rfl
                refine take_ (i := 19) (N := some 149) (v := ?_) (a' := ?_) #[true, true, true, true, true, true, true, true, true, true, true, true, true, true, true, true, true, true, true, true, false, false] rfl rfl (take_of HT_.out (by kernel_rfl)) (fun _ _ _ h => h) (Or.inl ⟨by rfl, ?_⟩) hHeld ?_ ?_
                rotate_left
                · intro w' s0
                  have hcv : (convert 22 9 (.slice Ad (rd_L1 db n).length cd)).run Try.prog w' = .ok (.string (strOfNums (rd_L1 db n))) w' := Kd.C_string Try.underlying22 Try.underlying5 Try.underlying9 (Kd.C_below HCd.out s0)
                  go_simp
                  with_reducible rfl
                rotate_left
                · simp only [Act.put, List.setIfInBounds_toArray, List.set_cons_zero, List.set_cons_succ, i64_w, i32_w]
                  rfl
                refine pure_ (i := 20) (N := some 150) (v := ?_) (a' := ?_) #[true, true, true, true, true, true, true, true, true, true, true, true, true, true, true, true, true, true, true, true, true, false] rfl rfl (any_of HT_.out (by kernel_rfl)) (fun _ _ _ h => h) (Or.inl ⟨by rfl, ?_⟩) ?_ ?_
                rotate_left
                · intro w'
                  go_simp
                  with_reducible rfl
                rotate_left
                · simp only [Act.put, List.setIfInBounds_toArray, List.set_cons_zero, List.set_cons_succ, i64_w, i32_w]
                  rfl
                refine pure_ (i := 21) (N := some 151) (v := ?_) (a' := ?_) #[true, true, true, true, true, true, true, true, true, true, true, true, true, true, true, true, true, true, true, true, true, true] rfl rfl (any_of HT_.out (by kernel_rfl)) (fun _ _ _ h => h) (Or.inl ⟨by rfl, ?_⟩) ?_ ?_
                rotate_left
                · intro w'
                  go_simp
                  with_reducible rfl
                rotate_left
                · simp only [Act.put, List.setIfInBounds_toArray, List.set_cons_zero, List.set_cons_succ, i64_w, i32_w]
                  rfl
                refine done_ (done_of HT_.out (by kernel_rfl)) ?_
                go_wp2
                go_roundg k2
                case measure => omega
                case rel => exact ⟨(i : Int) + 1, (by have q := HI.out; have q2 := HLE.out; have q3 := HR'.out; have q4 := HBR.out; congr 1; unfold wrap64; omega), ⟨by omega, by have q := HX.out.2; omega⟩, BY⟩
              ·
                have hN := HN.out
                unfold askN at hN
                rw [if_neg (show ¬ i < l1.length by omega)] at hN
                have c8b0 : decide ((i : Int) < (l1.length : Int)) = false := decide_eq_false hx
                have c8n : (i < l1.length) = False := eq_false (by omega)
                have c8m : decide (i < l1.length) = false := decide_eq_false (by omega)
                clear hx
                subst hN
                go_wp2_with fail
                obtain ⟨V, hV⟩ : ∃ V, V = wr.drew := ⟨_, rfl⟩
                have BX : Below wL.heap.size wL V := by rw [hV]; exact below_drew B.out
                have BW : Aside0 (Below W.heap.size W V) := ⟨below_step BL.out BX⟩
                have BRv := Aside0.mk (blk_below BR.out BX)
                have BSv := Aside0.mk (blk_below BS.out BX)
                have qr := HR'.out
                have qs := HS'.out
                have qi := HI.out
                obtain ⟨adr, Au, cu, er, hr0, hlu, hCu⟩ := at_L1 (Kd.C_below HR.out BX) (i : Int) (by omega) (by omega)
                subst er
                obtain ⟨ads, Av, cv, es, hs0, hlv, hCv⟩ := at_L1 (Kd.C_below HS.out BX) (i : Int) (by omega) (by omega)
                subst es
                rw [Int.toNat_natCast] at hr0 hs0
                have p1 := eq_true (show 0 ≤ (i : Int) by omega)
                have p2 := eq_true (show (i : Int) < (RR.length : Int) by omega)
                have p3 := eq_true (show (i : Int) < (SS.length : Int) by omega)
                have HCu := Aside0.mk hCu
                have HCv := Aside0.mk hCv
                have LU := Aside0.mk hlu
                have LV := Aside0.mk hlv
                have BXX := Aside0.mk BX
                clear hCu hCv hlu hlv qr qs qi BX
                refine start_ (n := 16) (S := fun W' => Below V.heap.size V W') (ds := []) #[false, false, false, false, false, false, false, false, false, false, false, false, false, false, false, false] (by kernel_rfl) rfl rfl (by rw [hV]; exact Below.refl _ _) (fun hHeld => ?_)
                refine with_tab reads_T26 (fun HT_ => ?_)
                rw [← hV] at hHeld ⊢
                refine pure_ (i := 0) (N := some 117) (v := ?_) (a' := ?_) #[true, false, false, false, false, false, false, false, false, false, false, false, false, false, false, false] rfl rfl (any_of HT_.out (by kernel_rfl)) (fun _ _ _ h => h) (Or.inl ⟨by rfl, ?_⟩) ?_ ?_
                rotate_left
                · intro w'
                  go_simp
                  with_reducible rfl
                rotate_left
                · simp only [Act.put, List.setIfInBounds_toArray, List.set_cons_zero, List.set_cons_succ, i64_w, i32_w]
                  rfl
                refine take_ (i := 1) (N := some 118) (v := ?_) (a' := ?_) #[true, true, false, false, false, false, false, false, false, false, false, false, false, false, false, false] rfl rfl (take_of HT_.out (by kernel_rfl)) (fun _ _ _ h => h) (Or.inl ⟨by rfl, ?_⟩) hHeld ?_ ?_
                rotate_left
                · intro w' s0
                  have hx : w'.cell? ⟨w5.heap.size, 0, none⟩ = some (.slice (some adr) RR.length cr) := (blk_cell (blk_below BRv.out s0) 0).trans rfl
                  go_simp
                  with_reducible rfl
                rotate_left
                · simp only [Act.put, List.setIfInBounds_toArray, List.set_cons_zero, List.set_cons_succ, i64_w, i32_w]
                  rfl
                refine pure_ (i := 2) (N := some 119) (v := ?_) (a' := ?_) #[true, true, true, false, false, false, false, false, false, false, false, false, false, false, false, false] rfl rfl (any_of HT_.out (by kernel_rfl)) (fun _ _ _ h => h) (Or.inl ⟨by rfl, ?_⟩) ?_ ?_
                rotate_left
                · intro w'
                  go_simp
                  with_reducible rfl
                rotate_left
                · simp only [Act.put, List.setIfInBounds_toArray, List.set_cons_zero, List.set_cons_succ, i64_w, i32_w]
                  rfl
                refine pure_ (i := 3) (N := some 120) (v := ?_) (a' := ?_) #[true, true, true, true, false, false, false, false, false, false, false, false, false, false, false, false] rfl rfl (any_of HT_.out (by kernel_rfl)) (fun _ _ _ h => h) (Or.inl ⟨by rfl, ?_⟩) ?_ ?_
                rotate_left
                · intro w'
                  go_simp
                  with_reducible rfl
                rotate_left
                · simp only [Act.put, List.setIfInBounds_toArray, List.set_cons_zero, List.set_cons_succ, i64_w, i32_w]
                  rfl
                refine take_ (i := 4) (N := some 121) (v := ?_) (a' := ?_) #[true, true, true, true, true, false, false, false, false, false, false, false, false, false, false, false] rfl rfl (take_of HT_.out (by kernel_rfl)) (fun _ _ _ h => h) (Or.inl ⟨by rfl, ?_⟩) hHeld ?_ ?_
                rotate_left
                · intro w' s0
                  have hx : w'.cell? (adr.add i) = some (.slice Au (rd_L1 RR (i : Int)).length cu) := (s0.cell (World.block_lt_of_cell? V _ hr0)).trans hr0
                  go_simp
                  with_reducible rfl
                rotate_left
                · simp only [Act.put, List.setIfInBounds_toArray, List.set_cons_zero, List.set_cons_succ, i64_w, i32_w]
                  rfl
                refine pure_ (i := 5) (N := some 122) (v := ?_) (a' := ?_) #[true, true, true, true, true, true, false, false, false, false, false, false, false, false, false, false] rfl rfl (any_of HT_.out (by kernel_rfl)) (fun _ _ _ h => h) (Or.inl ⟨by rfl, ?_⟩) ?_ ?_
                rotate_left
                · intro w'
                  go_simp
                  with_reducible rfl
                rotate_left
                · simp only [Act.put, List.setIfInBounds_toArray, List.set_cons_zero, List.set_cons_succ, i64_w, i32_w]
                  rfl
                refine take_ (i := 6) (N := some 123) (v := ?_) (a' := ?_) #[true, true, true, true, true, true, true, false, false, false, false, false, false, false, false, false] rfl rfl (take_of HT_.out (by kernel_rfl)) (fun _ _ _ h => h) (Or.inl ⟨by rfl, ?_⟩) hHeld ?_ ?_
                rotate_left
                · intro w' s0
                  have hx : w'.cell? ⟨w6.heap.size, 0, none⟩ = some (.slice (some ads) SS.length cs) := (blk_cell (blk_below BSv.out s0) 0).trans rfl
                  go_simp
                  with_reducible rfl
                rotate_left
                · simp only [Act.put, List.setIfInBounds_toArray, List.set_cons_zero, List.set_cons_succ, i64_w, i32_w]
                  rfl
                refine pure_ (i := 7) (N := some 124) (v := ?_) (a' := ?_) #[true, true, true, true, true, true, true, true, false, false, false, false, false, false, false, false] rfl rfl (any_of HT_.out (by kernel_rfl)) (fun _ _ _ h => h) (Or.inl ⟨by rfl, ?_⟩) ?_ ?_
                rotate_left
                · intro w'
                  go_simp
                  with_reducible rfl
                rotate_left
                · simp only [Act.put, List.setIfInBounds_toArray, List.set_cons_zero, List.set_cons_succ, i64_w, i32_w]
                  rfl
                refine pure_ (i := 8) (N := some 125) (v := ?_) (a' := ?_) #[true, true, true, true, true, true, true, true, true, false, false, false, false, false, false, false] rfl rfl (any_of HT_.out (by kernel_rfl)) (fun _ _ _ h => h) (Or.inl ⟨by rfl, ?_⟩) ?_ ?_
                rotate_left
                · intro w'
                  go_simp
                  with_reducible rfl
                rotate_left
                · simp only [Act.put, List.setIfInBounds_toArray, List.set_cons_zero, List.set_cons_succ, i64_w, i32_w]
                  rfl
                refine take_ (i := 9) (N := some 126) (v := ?_) (a' := ?_) #[true, true, true, true, true, true, true, true, true, true, false, false, false, false, false, false] rfl rfl (take_of HT_.out (by kernel_rfl)) (fun _ _ _ h => h) (Or.inl ⟨by rfl, ?_⟩) hHeld ?_ ?_
                rotate_left
                · intro w' s0
                  have hx : w'.cell? (ads.add i) = some (.slice Av (rd_L1 SS (i : Int)).length cv) := (s0.cell (World.block_lt_of_cell? V _ hs0)).trans hs0
                  go_simp
                  with_reducible rfl
                rotate_left
                · simp only [Act.put, List.setIfInBounds_toArray, List.set_cons_zero, List.set_cons_succ, i64_w, i32_w]
                  rfl
                refine one_ (i := 10) (N := some 127) #[true, true, true, true, true, true, true, true, true, true, true, false, false, false, false, false] rfl rfl (one_of HT_.out (by kernel_rfl)) (by decide) (fun K hK => ?_)
                refine goes_ Try.func17 (by kernel_rfl) rfl #[.slice Au (rd_L1 RR (i : Int)).length cu, .slice Av (rd_L1 SS (i : Int)).length cv] (by rfl) rfl rfl (by (try simp only [List.map_toArray, List.map_cons, List.map_nil]); first | done | rfl) ?_
                refine (retrieval_Join.calls Au cu (rd_L1 RR (i : Int)) Av cv (rd_L1 SS (i : Int)) (rd_L1 db (0 : Int)) 0 V HCu.out LU.out HCv.out LV.out HJ.out).mono ?_
                rintro e V2 ⟨vy, rfl, hy, hbel⟩
                refine ⟨_, rfl, ?_⟩
                have HY := Aside0.mk hy
                have B2 := Aside0.mk hbel
                clear hy hbel
                refine hK.out _ _ (B2.out) (fun hHeld => ?_)
                clear hK K
                refine norm_ (a' := ?_) ?_ ?_
                rotate_left
                · show Act.put _ (some 127) _ = _
                  simp only [Act.put, List.setIfInBounds_toArray, List.set_cons_zero, List.set_cons_succ, i64_w, i32_w]
                  rfl
                refine pure_ (i := 11) (N := some 116) (v := ?_) (a' := ?_) #[true, true, true, true, true, true, true, true, true, true, true, true, false, false, false, false] rfl rfl (any_of HT_.out (by kernel_rfl)) (fun _ _ _ h => h) (Or.inl ⟨by rfl, ?_⟩) ?_ ?_
                rotate_left
                · intro w'
                  go_simp
                  with_reducible rfl
                rotate_left
                · simp only [Act.put, List.setIfInBounds_toArray, List.set_cons_zero, List.set_cons_succ, i64_w, i32_w]
                  rfl
                refine pure_ (i := 12) (N := some 128) (v := ?_) (a' := ?_) #[true, true, true, true, true, true, true, true, true, true, true, true, true, false, false, false] rfl rfl (any_of HT_.out (by kernel_rfl)) (fun _ _ _ h => h) (Or.inl ⟨by rfl, ?_⟩) ?_ ?_
                rotate_left
                · intro w'
                  go_simp
                  with_reducible rfl
                rotate_left
                · simp only [Act.put, List.setIfInBounds_toArray, List.set_cons_zero, List.set_cons_succ, i64_w, i32_w]
                  rfl
                refine pure_ (i := 13) (N := some 129) (v := ?_) (a' := ?_) #[true, true, true, true, true, true, true, true, true, true, true, true, true, true, false, false] rfl rfl (any_of HT_.out (by kernel_rfl)) (fun _ _ _ h => h) (Or.inl ⟨by rfl, ?_⟩) ?_ ?_
                rotate_left
                · intro w'
                  go_simp
                  with_reducible rfl
                rotate_left
                · simp only [Act.put, List.setIfInBounds_toArray, List.set_cons_zero, List.set_cons_succ, i64_w, i32_w]
                  rfl
                refine pure_ (i := 14) (N := some 20) (v := ?_) (a' := ?_) #[true, true, true, true, true, true, true, true, true, true, true, true, true, true, true, false] rfl rfl (any_of HT_.out (by kernel_rfl)) (fun _ _ _ h => h) (Or.inl ⟨by rfl, ?_⟩) ?_ ?_
                rotate_left
                · intro w'
                  go_simp
                  with_reducible rfl
                rotate_left
                · simp only [Act.put, List.setIfInBounds_toArray, List.set_cons_zero, List.set_cons_succ, i64_w, i32_w]
                  rfl
                refine pure_ (i := 15) (N := some 21) (v := ?_) (a' := ?_) #[true, true, true, true, true, true, true, true, true, true, true, true, true, true, true, true] rfl rfl (any_of HT_.out (by kernel_rfl)) (fun _ _ _ h => h) (Or.inl ⟨by rfl, ?_⟩) ?_ ?_
                rotate_left
                · intro w'
                  go_simp
                  with_reducible rfl
                rotate_left
                · simp only [Act.put, List.setIfInBounds_toArray, List.set_cons_zero, List.set_cons_succ, i64_w, i32_w]
                  rfl
                refine done_ (done_of HT_.out (by kernel_rfl)) ?_
                go_wp2_with fail
                obtain ⟨Ay, cy, ey⟩ := Kd.R_slice HY.out
                subst ey
                clear hV
                obtain ⟨U, hU⟩ : ∃ U, U = V2.drew := ⟨_, rfl⟩
                have BU : Below V.heap.size V U := by rw [hU]; exact below_drew B2.out
                have BU2 : Below V2.heap.size V2 U := by rw [hU]; exact below_drew (Below.refl _ _)
                have HCy : Aside0 (Kd.C (Kd.int .u8) U Ay (rd_L1 db (0 : Int)).length (rd_L1 db (0 : Int))) := ⟨Kd.C_below (R_C HY.out).1 BU2⟩
                have BY : Aside0 (Below wL.heap.size wL U) := ⟨below_step BXX.out BU⟩
                have BW_ := Aside0.mk (below_step BW.out BU)
                clear BW
                have BW := BW_
                clear BW_
                obtain ⟨add, Ad, cd, ed, hd0, hld, hCd⟩ := at_L1 (Kd.C_below H0.out BW.out) (0 : Int) HN0.out HN1.out
                subst ed
                replace hd0 := (cell_add0 U add).symm.trans hd0
                have p8 : (0 < db.length) = True := eq_true (by have q := HN1.out; omega)
                have p9 : (db.length = 0) = False := eq_false (by have q := HN1.out; omega)
                have p10 : (db = []) = False := eq_false (by intro e; have q := HN1.out; rw [e] at q; simp at q)
                have p11 : (db.length ≤ 0) = False := eq_false (by have q := HN1.out; omega)
                have p12 : ((db.length : Int) ≤ 0) = False := eq_false (by have q := HN1.out; omega)
                have p13 : db.isEmpty = false := by have q := HN1.out; cases hdb : db with | nil => rw [hdb] at q; simp at q | cons => rfl
                have HCd := Aside0.mk hCd
                have p4 := eq_true HN0.out
                have p5 := eq_true HN1.out
                have p6 : ((0 : Int) < 0) = False := eq_false (by have q := HN0.out; omega)
                have p6b : decide ((0 : Int) < 0) = false := decide_eq_false (by have q := HN0.out; omega)
                have p7 : ((0 : Int) ≥ (db.length : Int)) = False := eq_false (by have q := HN1.out; omega)
                have p7b : decide ((0 : Int) ≥ (db.length : Int)) = false := decide_eq_false (by have q := HN1.out; omega)
                clear hCd hld HY B2 BU BU2 hr0 hs0 BRv BSv HCu HCv LU LV p1 p2 p3 BXX
                refine start_ (n := 22) (S := fun W' => Below U.heap.size U W') (ds := []) #[false, false, false, false, false, false, false, false, false, false, false, false, false, false, false, false, false, false, false, false, false, false] (by kernel_rfl) rfl rfl (by rw [hU]; exact Below.refl _ _) (fun hHeld => ?_)
                refine with_tab reads_T27 (fun HT_ => ?_)
                rw [← hU] at hHeld ⊢
                clear hU
                refine pure_ (i := 0) (N := some 130) (v := ?_) (a' := ?_) #[true, false, false, false, false, false, false, false, false, false, false, false, false, false, false, false, false, false, false, false, false, false] rfl rfl (any_of HT_.out (by kernel_rfl)) (fun _ _ _ h => h) (Or.inl ⟨by rfl, ?_⟩) ?_ ?_
                rotate_left
                · intro w'
                  go_simp
                  with_reducible rfl
                rotate_left
                · simp only [Act.put, List.setIfInBounds_toArray, List.set_cons_zero, List.set_cons_succ, i64_w, i32_w]
                  rfl
                refine pure_ (i := 1) (N := some 131) (v := ?_) (a' := ?_) #[true, true, false, false, false, false, false, false, false, false, false, false, false, false, false, false, false, false, false, false, false, false] rfl rfl (any_of HT_.out (by kernel_rfl)) (fun _ _ _ h => h) (Or.inl ⟨by rfl, ?_⟩) ?_ ?_
                rotate_left
                · intro w'
                  go_simp
                  with_reducible rfl
                rotate_left
                · simp only [Act.put, List.setIfInBounds_toArray, List.set_cons_zero, List.set_cons_succ, i64_w, i32_w]
                  rfl
                refine pure_ (i := 2) (N := some 132) (v := ?_) (a' := ?_) #[true, true, true, false, false, false, false, false, false, false, false, false, false, false, false, false, false, false, false, false, false, false] rfl rfl (any_of HT_.out (by kernel_rfl)) (fun _ _ _ h => h) (Or.inl ⟨by rfl, ?_⟩) ?_ ?_
                rotate_left
                · intro w'
                  go_simp
                  with_reducible rfl
                rotate_left
                · simp only [Act.put, List.setIfInBounds_toArray, List.set_cons_zero, List.set_cons_succ, i64_w, i32_w]
                  rfl
                refine pure_ (i := 3) (N := some 133) (v := ?_) (a' := ?_) #[true, true, true, true, false, false, false, false, false, false, false, false, false, false, false, false, false, false, false, false, false, false] rfl rfl (any_of HT_.out (by kernel_rfl)) (fun _ _ _ h => h) (Or.inl ⟨by rfl, ?_⟩) ?_ ?_
                rotate_left
                · intro w'
                  go_simp
                  with_reducible rfl
                rotate_left
                · simp only [Act.put, List.setIfInBounds_toArray, List.set_cons_zero, List.set_cons_succ, i64_w, i32_w]
                  rfl
                refine pure_ (i := 4) (N := some 134) (v := ?_) (a' := ?_) #[true, true, true, true, true, false, false, false, false, false, false, false, false, false, false, false, false, false, false, false, false, false] rfl rfl (any_of HT_.out (by kernel_rfl)) (fun _ _ _ h => h) (Or.inl ⟨by rfl, ?_⟩) ?_ ?_
                rotate_left
                · intro w'
                  go_simp
                  with_reducible rfl
                rotate_left
                · simp only [Act.put, List.setIfInBounds_toArray, List.set_cons_zero, List.set_cons_succ, i64_w, i32_w]
                  rfl
                refine pure_ (i := 5) (N := some 135) (v := ?_) (a' := ?_) #[true, true, true, true, true, true, false, false, false, false, false, false, false, false, false, false, false, false, false, false, false, false] rfl rfl (any_of HT_.out (by kernel_rfl)) (fun _ _ _ h => h) (Or.inl ⟨by rfl, ?_⟩) ?_ ?_
                rotate_left
                · intro w'
                  go_simp
                  with_reducible rfl
                rotate_left
                · simp only [Act.put, List.setIfInBounds_toArray, List.set_cons_zero, List.set_cons_succ, i64_w, i32_w]
                  rfl
                refine pure_ (i := 6) (N := some 136) (v := ?_) (a' := ?_) #[true, true, true, true, true, true, true, false, false, false, false, false, false, false, false, false, false, false, false, false, false, false] rfl rfl (any_of HT_.out (by kernel_rfl)) (fun _ _ _ h => h) (Or.inl ⟨by rfl, ?_⟩) ?_ ?_
                rotate_left
                · intro w'
                  go_simp
                  with_reducible rfl
                rotate_left
                · simp only [Act.put, List.setIfInBounds_toArray, List.set_cons_zero, List.set_cons_succ, i64_w, i32_w]
                  rfl
                refine pure_ (i := 7) (N := some 137) (v := ?_) (a' := ?_) #[true, true, true, true, true, true, true, true, false, false, false, false, false, false, false, false, false, false, false, false, false, false] rfl rfl (any_of HT_.out (by kernel_rfl)) (fun _ _ _ h => h) (Or.inl ⟨by rfl, ?_⟩) ?_ ?_
                rotate_left
                · intro w'
                  go_simp
                  with_reducible rfl
                rotate_left
                · simp only [Act.put, List.setIfInBounds_toArray, List.set_cons_zero, List.set_cons_succ, i64_w, i32_w]
                  rfl
                refine pure_ (i := 8) (N := some 138) (v := ?_) (a' := ?_) #[true, true, true, true, true, true, true, true, true, false, false, false, false, false, false, false, false, false, false, false, false, false] rfl rfl (any_of HT_.out (by kernel_rfl)) (fun _ _ _ h => h) (Or.inl ⟨by rfl, ?_⟩) ?_ ?_
                rotate_left
                · intro w'
                  go_simp
                  with_reducible rfl
                rotate_left
                · simp only [Act.put, List.setIfInBounds_toArray, List.set_cons_zero, List.set_cons_succ, i64_w, i32_w]
                  rfl
                refine pure_ (i := 9) (N := some 139) (v := ?_) (a' := ?_) #[true, true, true, true, true, true, true, true, true, true, false, false, false, false, false, false, false, false, false, false, false, false] rfl rfl (any_of HT_.out (by kernel_rfl)) (fun _ _ _ h => h) (Or.inl ⟨by rfl, ?_⟩) ?_ ?_
                rotate_left
                · intro w'
                  go_simp
                  with_reducible rfl
                rotate_left
                · simp only [Act.put, List.setIfInBounds_toArray, List.set_cons_zero, List.set_cons_succ, i64_w, i32_w]
                  rfl
                refine pure_ (i := 10) (N := some 140) (v := ?_) (a' := ?_) #[true, true, true, true, true, true, true, true, true, true, true, false, false, false, false, false, false, false, false, false, false, false] rfl rfl (any_of HT_.out (by kernel_rfl)) (fun _ _ _ h => h) (Or.inl ⟨by rfl, ?_⟩) ?_ ?_
                rotate_left
                · intro w'
                  go_simp
                  with_reducible rfl
                rotate_left
                · simp only [Act.put, List.setIfInBounds_toArray, List.set_cons_zero, List.set_cons_succ, i64_w, i32_w]
                  rfl
                refine pure_ (i := 11) (N := some 141) (v := ?_) (a' := ?_) #[true, true, true, true, true, true, true, true, true, true, true, true, false, false, false, false, false, false, false, false, false, false] rfl rfl (any_of HT_.out (by kernel_rfl)) (fun _ _ _ h => h) (Or.inl ⟨by rfl, ?_⟩) ?_ ?_
                rotate_left
                · intro w'
                  go_simp
                  with_reducible rfl
                rotate_left
                · simp only [Act.put, List.setIfInBounds_toArray, List.set_cons_zero, List.set_cons_succ, i64_w, i32_w]
                  rfl
                refine pure_ (i := 12) (N := some 142) (v := ?_) (a' := ?_) #[true, true, true, true, true, true, true, true, true, true, true, true, true, false, false, false, false, false, false, false, false, false] rfl rfl (any_of HT_.out (by kernel_rfl)) (fun _ _ _ h => h) (Or.inl ⟨by rfl, ?_⟩) ?_ ?_
                rotate_left
                · intro w'
                  go_simp
                  with_reducible rfl
                rotate_left
                · simp only [Act.put, List.setIfInBounds_toArray, List.set_cons_zero, List.set_cons_succ, i64_w, i32_w]
                  rfl
                refine pure_ (i := 13) (N := some 143) (v := ?_) (a' := ?_) #[true, true, true, true, true, true, true, true, true, true, true, true, true, true, false, false, false, false, false, false, false, false] rfl rfl (any_of HT_.out (by kernel_rfl)) (fun _ _ _ h => h) (Or.inl ⟨by rfl, ?_⟩) ?_ ?_
                rotate_left
                · intro w'
                  go_simp
                  with_reducible rfl
                rotate_left
                · simp only [Act.put, List.setIfInBounds_toArray, List.set_cons_zero, List.set_cons_succ, i64_w, i32_w]
                  rfl
                refine take_ (i := 14) (N := some 144) (v := ?_) (a' := ?_) #[true, true, true, true, true, true, true, true, true, true, true, true, true, true, true, false, false, false, false, false, false, false] rfl rfl (take_of HT_.out (by kernel_rfl)) (fun _ _ _ h => h) (Or.inl ⟨by rfl, ?_⟩) hHeld ?_ ?_
                rotate_left
                · intro w' s0
                  have hcv : (convert 22 9 (.slice Ay (rd_L1 db (0 : Int)).length cy)).run Try.prog w' = .ok (.string (strOfNums (rd_L1 db (0 : Int)))) w' := Kd.C_string Try.underlying22 Try.underlying5 Try.underlying9 (Kd.C_below HCy.out s0)
                  go_simp
                  with_reducible rfl
                rotate_left
                · simp only [Act.put, List.setIfInBounds_toArray, List.set_cons_zero, List.set_cons_succ, i64_w, i32_w]
                  rfl
                refine pure_ (i := 15) (N := some 145) (v := ?_) (a' := ?_) #[true, true, true, true, true, true, true, true, true, true, true, true, true, true, true, true, false, false, false, false, false, false] rfl rfl (any_of HT_.out (by kernel_rfl)) (fun _ _ _ h => h) (Or.inl ⟨by rfl, ?_⟩) ?_ ?_
                rotate_left
                · intro w'
                  go_simp
                  with_reducible rfl
                rotate_left
                · simp only [Act.put, List.setIfInBounds_toArray, List.set_cons_zero, List.set_cons_succ, i64_w, i32_w]
                  rfl
                refine pure_ (i := 16) (N := some 146) (v := ?_) (a' := ?_) #[true, true, true, true, true, true, true, true, true, true, true, true, true, true, true, true, true, false, false, false, false, false] rfl rfl (any_of HT_.out (by kernel_rfl)) (fun _ _ _ h => h) (Or.inl ⟨by rfl, ?_⟩) ?_ ?_
                rotate_left
                · intro w'
                  go_simp
                  with_reducible rfl
                rotate_left
                · simp only [Act.put, List.setIfInBounds_toArray, List.set_cons_zero, List.set_cons_succ, i64_w, i32_w]
                  rfl
                refine pure_ (i := 17) (N := some 147) (v := ?_) (a' := ?_) #[true, true, true, true, true, true, true, true, true, true, true, true, true, true, true, true, true, true, false, false, false, false] rfl rfl (any_of HT_.out (by kernel_rfl)) (fun _ _ _ h => h) (Or.inl ⟨by rfl, ?_⟩) ?_ ?_
                rotate_left
                · intro w'
                  go_simp
                  with_reducible rfl
                rotate_left
                · simp only [Act.put, List.setIfInBounds_toArray, List.set_cons_zero, List.set_cons_succ, i64_w, i32_w]
                  rfl
                refine take_ (i := 18) (N := some 148) (v := ?_) (a' := ?_) #[true, true, true, true, true, true, true, true, true, true, true, true, true, true, true, true, true, true, true, false, false, false] rfl rfl (take_of HT_.out (by kernel_rfl)) (fun _ _ _ h => h) (Or.inl ⟨by rfl, ?_⟩) hHeld ?_ ?_
                rotate_left
                · intro w' s0
                  have hx : w'.cell? add = some (.slice Ad (rd_L1 db (0 : Int)).length cd) := (s0.cell (World.block_lt_of_cell? U _ hd0)).trans hd0
                  go_simp
                  with_reducible rfl
                rotate_left
                · simp only [Act.put, List.setIfInBounds_toArray, List.set_cons_zero, List.set_cons_succ, i64_w, i32_w]
                  rfl
                refine take_ (i := 19) (N := some 149) (v := ?_) (a' := ?_) #[true, true, true, true, true, true, true, true, true, true, true, true, true, true, true, true, true, true, true, true, false, false] rfl rfl (take_of HT_.out (by kernel_rfl)) (fun _ _ _ h => h) (Or.inl ⟨by rfl, ?_⟩) hHeld ?_ ?_
                rotate_left
                · intro w' s0
                  have hcv : (convert 22 9 (.slice Ad (rd_L1 db (0 : Int)).length cd)).run Try.prog w' = .ok (.string (strOfNums (rd_L1 db (0 : Int)))) w' := Kd.C_string Try.underlying22 Try.underlying5 Try.underlying9 (Kd.C_below HCd.out s0)
                  go_simp
                  with_reducible rfl
                rotate_left
                · simp only [Act.put, List.setIfInBounds_toArray, List.set_cons_zero, List.set_cons_succ, i64_w, i32_w]
                  rfl
                refine pure_ (i := 20) (N := some 150) (v := ?_) (a' := ?_) #[true, true, true, true, true, true, true, true, true, true, true, true, true, true, true, true, true, true, true, true, true, false] rfl rfl (any_of HT_.out (by kernel_rfl)) (fun _ _ _ h => h) (Or.inl ⟨by rfl, ?_⟩) ?_ ?_
                rotate_left
                · intro w'
                  go_simp
                  with_reducible rfl
                rotate_left
                · simp only [Act.put, List.setIfInBounds_toArray, List.set_cons_zero, List.set_cons_succ, i64_w, i32_w]
                  rfl
                refine pure_ (i := 21) (N := some 151) (v := ?_) (a' := ?_) #[true, true, true, true, true, true, true, true, true, true, true, true, true, true, true, true, true, true, true, true, true, true] rfl rfl (any_of HT_.out (by kernel_rfl)) (fun _ _ _ h => h) (Or.inl ⟨by rfl, ?_⟩) ?_ ?_
                rotate_left
                · intro w'
                  go_simp
                  with_reducible rfl
                rotate_left
                · simp only [Act.put, List.setIfInBounds_toArray, List.set_cons_zero, List.set_cons_succ, i64_w, i32_w]
                  rfl
                refine done_ (done_of HT_.out (by kernel_rfl)) ?_
                go_wp2
                go_roundg k2
                case measure => omega
                case rel => exact ⟨(i : Int) + 1, (by have q := HI.out; have q2 := HLE.out; have q3 := HR'.out; have q4 := HBR.out; congr 1; unfold wrap64; omega), ⟨by omega, by have q := HX.out.2; omega⟩, BY⟩
end Go.Proofs.Ytekpbncljaeemaa.Q
