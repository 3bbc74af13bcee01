import Derived.Test.YtekpbncljaeemaaPb
namespace Go.Proofs.Ytekpbncljaeemaa.Q
open Go.RowKit Go.Proofs.YtekpbncljaeemaaW.PrintWords Go.Proofs.YtekpbncljaeemaaW.PrintLast Go.Proofs.YtekpbncljaeemaaW.PrintMore
attribute [local go_sem] max2_int min2_int max_two min_two max_three min_three max_four min_four
set_option linter.unusedVariables false
set_option linter.unusedSimpArgs false

theorem blk_step {w w' : World} {k : Nat} {o : Obj} (h : w.heap[k]? = some o) (hb : Below w.heap.size w w') : w'.heap[k]? = some o :=
  (hb.block k (by rcases Nat.lt_or_ge k w.heap.size with q | q; exact q; rw [Array.getElem?_eq_none (by simpa using q)] at h; cases h)).trans h
theorem answer_some (l0 l1 : List (List Int)) : ∃ r1 r2, retrieval_Answer.f l0 l1 = some (r1, r2) := by
  unfold retrieval_Answer.f
  split
  · exact ⟨_, _, rfl⟩
  · split <;> exact ⟨_, _, rfl⟩
theorem join_some (l0 l1 : List Int) : ∃ r1 r2, retrieval_Join.f l0 l1 = some (r1, r2) := by
  unfold retrieval_Join.f
  split <;> exact ⟨_, _, rfl⟩

set_option maxHeartbeats 8000000 in
set_option maxRecDepth 100000 in
theorem answerSpec_walk (A0 : Option Addr) (c0 : Nat) (l0 : List (List Int)) (A1 : Option Addr) (c1 : Nat) (l1 : List (List Int)) (A2 : Option Addr) (c2 : Nat) (l2 : List Int) (A3 : Option Addr) (c3 : Nat) (l3 : List Int) (W : World)
    (C0 : Kd.C (Kd.slice 5 (Kd.int .u8)) W A0 l0.length l0) (le0 : l0.length ≤ c0) (b0 : ∀ m ∈ l0, ∀ x ∈ m, 0 ≤ x ∧ x ≤ 255)
    (C1 : Kd.C (Kd.slice 5 (Kd.int .u8)) W A1 l1.length l1) (le1 : l1.length ≤ c1) (b1 : ∀ m ∈ l1, ∀ x ∈ m, 0 ≤ x ∧ x ≤ 255)
    (C2 : Kd.C (Kd.int .u8) W A2 l2.length l2) (le2 : l2.length ≤ c2) (wf2 : ∀ x ∈ l2, (Lit.int .u8 x).wf = true) (y2 : l2.length * 1 ≤ 140737488351232)
    (C3 : Kd.C (Kd.int .u8) W A3 l3.length l3) (le3 : l3.length ≤ c3) (wf3 : ∀ x ∈ l3, (Lit.int .u8 x).wf = true) (y3 : l3.length * 1 ≤ 140737488351232) :
    Calls Try.prog 4 #[.slice A0 l0.length c0, .agg #[.slice A1 l1.length c1], .slice A2 l2.length c2, .slice A3 l3.length c3] W fun e W' => e = .returned (.bool true) ∧ Below W.heap.size W W' := by
  obtain ⟨f0, hf0, hs0⟩ := few_of 0 l0 100 C0.2.1
  obtain ⟨f1, hf1, hs1⟩ := few_of 0 l1 140 C1.2.1
  obtain ⟨r1, r2, hA⟩ := answer_some l0 l1
  obtain ⟨j1, j2, hJ⟩ := join_some l2 l3
  have hR := (ranswer_of l0 l1 C0.2.1 b1 _ (Nat.le_refl _)).trans hA
  have hK := (rjoin_of 0 l2 l3 (bytes_wf wf2)).trans hJ
  have hT : f0 = true → f1 = true → testamurref36_Same.f (r1.length + 1 + 0) r1 r1 = some true := fun h0 h1 => same_of 0 r1 (by
    have q1 := (hs1 h1).1
    have : r1.length ≤ l1.length := by
      unfold retrieval_Answer.f at hA
      split at hA
      · injection hA with hA; injection hA with hA; rw [← hA]; simp
      · split at hA
        · injection hA with hA; injection hA with hA; rw [← hA]; simp
        · injection hA with hA; injection hA with hA; rw [← hA]; simp
    omega)
  have HF0 := Aside0.mk hf0; have HF1 := Aside0.mk hf1; have HA := Aside0.mk hA; have HJ := Aside0.mk hJ; have HR := Aside0.mk hR; have HK := Aside0.mk hK; have HT := Aside0.mk hT
  clear hf0 hf1 hA hJ hR hK hT hs0 hs1 b0 b1 wf2 wf3 y2 y3
  have H0 := Aside0.mk C0; have H1 := Aside0.mk C1; have H2 := Aside0.mk C2; have H3 := Aside0.mk C3
  have L0 := Aside0.mk le0; have L1 := Aside0.mk le1; have L2 := Aside0.mk le2; have L3 := Aside0.mk le3
  clear C0 C1 C2 C3 le0 le1 le2 le3
  have hu32 := Try.underlying32
  have hu35 := Try.underlying35
  go_enter Try.func4, Try.ntmps4
  go_wp2_with fail
  refine (sane_calls _).mono ?_
  rintro e w1 ⟨rfl, hbel⟩
  have B_ := Aside0.mk (below_step (below_alloc (Below.refl _ _) _) hbel)
  have BK_ := Aside0.mk (blk_step (heap_alloc_new W (.cells #[.slice A1 l1.length c1] 32)) hbel)
  have B := B_
  have BK := BK_
  clear B_ BK_
  clear hbel
  go_wp2_with fail
  refine (testamurref36_Few.calls _ A0 c0 l0 100 f0 _ (Kd.C_below H0.out B.out) L0.out HF0.out).mono ?_
  rintro e w2 ⟨rfl, hd⟩
  have B_ := Aside0.mk (below_step B.out hd.below)
  have BK_ := Aside0.mk (blk_step (BK.out) hd.below)
  clear B BK
  have B := B_
  have BK := BK_
  clear B_ BK_
  clear hd
  cases f0 with
  | false =>
      go_wp2
      go_ret
      exact ⟨rfl, B.out⟩
  | true =>
    have hczBK : w2.cell? ⟨W.heap.size, 0, none⟩ = some (.slice A1 l1.length c1) := (blk_cell BK.out 0).trans rfl
    have hfzBK := blk_frozen BK.out 0
    have hltBK : W.heap.size < w2.heap.size := blk_lt BK.out
    go_wp2_with fail
    refine (testamurref36_Few.calls _ A1 c1 l1 140 f1 _ (Kd.C_below H1.out B.out) L1.out HF1.out).mono ?_
    rintro e w3 ⟨rfl, hd⟩
    have B_ := Aside0.mk (below_step B.out hd.below)
    have BK_ := Aside0.mk (blk_step (BK.out) hd.below)
    clear B BK hczBK hfzBK hltBK
    have B := B_
    have BK := BK_
    clear B_ BK_
    clear hd
    cases f1 with
    | false =>
      go_wp2
      go_ret
      exact ⟨rfl, B.out⟩
    | true =>
      have hczBK : w3.cell? ⟨W.heap.size, 0, none⟩ = some (.slice A1 l1.length c1) := (blk_cell BK.out 0).trans rfl
      have hfzBK := blk_frozen BK.out 0
      have hltBK : W.heap.size < w3.heap.size := blk_lt BK.out
      go_wp2_with fail
      refine (retrieval_Answer.calls A0 c0 l0 A1 c1 l1 r1 r2 _ (Kd.C_below H0.out B.out) L0.out (Kd.C_below H1.out B.out) L1.out HA.out).mono ?_
      rintro e w4 ⟨v1, rfl, hs, hbel⟩
      have B_ := Aside0.mk (below_step B.out hbel)
      have BK_ := Aside0.mk (blk_step (BK.out) hbel)
      clear B BK hczBK hfzBK hltBK
      have B := B_
      have BK := BK_
      clear B_ BK_
      have S1 := Aside0.mk hs
      clear hs
      clear hbel
      obtain ⟨Ar, cr, er⟩ := Kd.S_slice S1.out
      subst er
      have hczBK : w4.cell? ⟨W.heap.size, 0, none⟩ = some (.slice A1 l1.length c1) := (blk_cell BK.out 0).trans rfl
      have hfzBK := blk_frozen BK.out 0
      have hltBK : W.heap.size < w4.heap.size := blk_lt BK.out
      go_wp2_with fail
      refine (testamurref36_Answer.calls _ A0 c0 l0 A1 c1 l1 r1 r2 _ (Kd.C_below H0.out (below_alloc B.out _)) L0.out (Kd.C_below H1.out (below_alloc B.out _)) L1.out HR.out).mono ?_
      rintro e w5 ⟨v2, rfl, hs, hbel⟩
      have B_ := Aside0.mk (below_step (below_alloc B.out _) hbel)
      have BK_ := Aside0.mk (blk_step (blk_alloc (BK.out) _) hbel)
      have S1_ := Aside0.mk (Kd.S_below (Kd.S_alloc (S1.out) _) hbel)
      have BR_ := Aside0.mk (blk_step (heap_alloc_new w4 (.cells #[.slice Ar r1.length cr] 35)) hbel)
      clear B BK S1 hczBK hfzBK hltBK
      have B := B_
      have BK := BK_
      have S1 := S1_
      have BR := BR_
      clear B_ BK_ S1_ BR_
      have S2 := Aside0.mk hs
      clear hs
      clear hbel
      obtain ⟨As, cs, es⟩ := Kd.S_slice S2.out
      subst es
      go_wp2_with fail
      refine (retrieval_Join.calls A2 c2 l2 A3 c3 l3 j1 j2 _ (Kd.C_below H2.out (below_alloc B.out _)) L2.out (Kd.C_below H3.out (below_alloc B.out _)) L3.out HJ.out).mono ?_
      rintro e w6 ⟨v3, rfl, hr, hbel⟩
      have B_ := Aside0.mk (below_step (below_alloc B.out _) hbel)
      have BK_ := Aside0.mk (blk_step (blk_alloc (BK.out) _) hbel)
      have S1_ := Aside0.mk (Kd.S_below (Kd.S_alloc (S1.out) _) hbel)
      have BR_ := Aside0.mk (blk_step (blk_alloc (BR.out) _) hbel)
      have S2_ := Aside0.mk (Kd.S_below (Kd.S_alloc (S2.out) _) hbel)
      have BS_ := Aside0.mk (blk_step (heap_alloc_new w5 (.cells #[.slice As r1.length cs] 35)) hbel)
      clear B BK S1 BR S2
      have B := B_
      have BK := BK_
      have S1 := S1_
      have BR := BR_
      have S2 := S2_
      have BS := BS_
      clear B_ BK_ S1_ BR_ S2_ BS_
      have J1 := Aside0.mk hr
      clear hr
      clear hbel
      obtain ⟨Ax, cx, ex⟩ := Kd.R_slice J1.out
      subst ex
      go_wp2_with fail
      refine (testamurref36_Join.calls _ A2 c2 l2 A3 c3 l3 j1 j2 _ (Kd.C_below H2.out B.out) L2.out (Kd.C_below H3.out B.out) L3.out HK.out).mono ?_
      rintro e w7 ⟨v4, rfl, hr, hbel⟩
      have B_ := Aside0.mk (below_step B.out hbel)
      have BK_ := Aside0.mk (blk_step (BK.out) hbel)
      have S1_ := Aside0.mk (Kd.S_below (S1.out) hbel)
      have BR_ := Aside0.mk (blk_step (BR.out) hbel)
      have S2_ := Aside0.mk (Kd.S_below (S2.out) hbel)
      have BS_ := Aside0.mk (blk_step (BS.out) hbel)
      have J1_ := Aside0.mk (Kd.R_below (J1.out) hbel)
      clear B BK S1 BR S2 BS J1
      have B := B_
      have BK := BK_
      have S1 := S1_
      have BR := BR_
      have S2 := S2_
      have BS := BS_
      have J1 := J1_
      clear B_ BK_ S1_ BR_ S2_ BS_ J1_
      have J2 := Aside0.mk hr
      clear hr
      clear hbel
      obtain ⟨Ay, cy, ey⟩ := Kd.R_slice J2.out
      subst ey
      have hczBR : w7.cell? ⟨w4.heap.size, 0, none⟩ = some (.slice Ar r1.length cr) := (blk_cell BR.out 0).trans rfl
      have hfzBR := blk_frozen BR.out 0
      have hltBR : w4.heap.size < w7.heap.size := blk_lt BR.out
      have hczBS : w7.cell? ⟨w5.heap.size, 0, none⟩ = some (.slice As r1.length cs) := (blk_cell BS.out 0).trans rfl
      have hfzBS := blk_frozen BS.out 0
      have hltBS : w5.heap.size < w7.heap.size := blk_lt BS.out
      go_wp2_with fail
      refine (testamurref36_Same.calls _ Ar cr r1 As cs r1 true _ (S_C S1.out).1 (S_C S1.out).2 (S_C S2.out).1 (S_C S2.out).2 (by have z := HT.out; simpa using z)).mono ?_
      rintro e w8 ⟨rfl, hd⟩
      have B_ := Aside0.mk (below_step B.out hd.below)
      have BK_ := Aside0.mk (blk_step (BK.out) hd.below)
      have S1_ := Aside0.mk (Kd.S_below (S1.out) hd.below)
      have BR_ := Aside0.mk (blk_step (BR.out) hd.below)
      have S2_ := Aside0.mk (Kd.S_below (S2.out) hd.below)
      have BS_ := Aside0.mk (blk_step (BS.out) hd.below)
      have J1_ := Aside0.mk (Kd.R_below (J1.out) hd.below)
      have J2_ := Aside0.mk (Kd.R_below (J2.out) hd.below)
      clear B BK S1 BR S2 BS J1 J2 hczBR hfzBR hltBR hczBS hfzBS hltBS
      have B := B_
      have BK := BK_
      have S1 := S1_
      have BR := BR_
      have S2 := S2_
      have BS := BS_
      have J1 := J1_
      have J2 := J2_
      clear B_ BK_ S1_ BR_ S2_ BS_ J1_ J2_
      clear hd
      have hcv1 := Kd.C_string (P := Try.prog) (c := cx) Try.underlying22 Try.underlying5 Try.underlying9 (R_C J1.out).1
      have hcv2 := Kd.C_string (P := Try.prog) (c := cy) Try.underlying22 Try.underlying5 Try.underlying9 (R_C J2.out).1
      go_wp2
      go_ret
      exact ⟨rfl, B.out⟩
end Go.Proofs.Ytekpbncljaeemaa.Q
