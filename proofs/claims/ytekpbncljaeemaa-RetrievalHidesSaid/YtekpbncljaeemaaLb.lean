import Derived.Test.YtekpbncljaeemaaLa
import Derived.Test.YtekpbncljaeemaaPc
namespace Go.Proofs.Ytekpbncljaeemaa.Q
open Go.RowKit Go.Proofs.YtekpbncljaeemaaW.PrintWords Go.Proofs.YtekpbncljaeemaaW.PrintLast Go.Proofs.YtekpbncljaeemaaW.PrintMore
attribute [local go_sem] max2_int min2_int max_two min_two max_three min_three max_four min_four
set_option linter.unusedVariables false
set_option linter.unusedSimpArgs false

theorem ask_some (a0 : Int) (l1 : List Int) (a2 : Int) (l3 : List (List Int)) : ∃ r1 r2 r3, retrieval_Ask.f a0 l1 a2 l3 = some (r1, r2, r3) ∧ r1.length ≤ l3.length ∧ r2.length ≤ l3.length := by
  unfold retrieval_Ask.f
  split
  · exact ⟨_, _, _, rfl, by simp, by simp⟩
  · split
    · exact ⟨_, _, _, rfl, by simp, by simp⟩
    · exact ⟨_, _, _, rfl, by simp, by simp⟩

set_option maxHeartbeats 8000000 in
set_option maxRecDepth 100000 in
theorem askSpec_walk (a0 : Int) (A1 : Option Addr) (c1 : Nat) (l1 : List Int) (a2 : Int) (A3 : Option Addr) (c3 : Nat) (l3 : List (List Int)) (W : World) (w0 : (Lit.int .i64 a0).wf = true)
    (C1 : Kd.C (Kd.int .i64) W A1 l1.length l1) (le1 : l1.length ≤ c1) (wf1 : ∀ x ∈ l1, (Lit.int .i64 x).wf = true) (y1 : l1.length * 8 ≤ 140737488351232) (w2 : (Lit.int .i64 a2).wf = true)
    (C3 : Kd.C (Kd.slice 5 (Kd.int .u8)) W A3 l3.length l3) (le3 : l3.length ≤ c3) (b3 : ∀ m ∈ l3, ∀ x ∈ m, 0 ≤ x ∧ x ≤ 255) :
    Calls Try.prog 5 #[.int .i64 a0, .slice A1 l1.length c1, .int .i64 a2, .slice A3 l3.length c3] W fun e W' => e = .returned (.bool true) ∧ Below W.heap.size W W' := by
  obtain ⟨f0, hf0, hs0⟩ := few_of 0 l3 140 C3.2.1
  obtain ⟨r1, r2, r3, hA, hl1, hl2⟩ := ask_some a0 l1 a2 l3
  have hb : ∀ n, n < l3.length → ∀ x ∈ l3.getD n [], 0 ≤ x ∧ x ≤ 255 := fun n hn => b3 _ (by rw [List.getD_eq_getElem?_getD, List.getElem?_eq_getElem hn]; exact List.getElem_mem hn)
  have hR := (rask_of a0 l1 a2 l3 hb _ (Nat.le_refl _)).trans hA
  have hT : testamurref36_Same.f (r1.length + 1 + 0) r1 r1 = some true := same_of 0 r1 (by have := C3.2.1; omega)
  have hU : testamurref36_Same.f (r2.length + 1 + 0) r2 r2 = some true := same_of 0 r2 (by have := C3.2.1; omega)
  have HF0 := Aside0.mk hf0; have HA := Aside0.mk hA; have HR := Aside0.mk hR; have HT := Aside0.mk hT; have HU := Aside0.mk hU
  clear hf0 hA hR hT hU hs0 hb b3 wf1 y1 w0 w2 hl1 hl2
  have H1 := Aside0.mk C1; have H3 := Aside0.mk C3; have L1 := Aside0.mk le1; have L3 := Aside0.mk le3
  clear C1 C3 le1 le3
  have hu32 := Try.underlying32
  have hu35 := Try.underlying35
  go_enter Try.func5, Try.ntmps5
  go_wp2_with fail
  refine (sane_calls _).mono ?_
  rintro e w1 ⟨rfl, hbel⟩
  have B_ := Aside0.mk (below_step (Below.refl _ _) hbel)
  have B := B_
  clear B_
  clear hbel
  go_wp2_with fail
  refine (testamurref36_Few.calls _ A3 c3 l3 140 f0 _ (Kd.C_below H3.out B.out) L3.out HF0.out).mono ?_
  rintro e w2 ⟨rfl, hd⟩
  have B_ := Aside0.mk (below_step B.out hd.below)
  clear B
  have B := B_
  clear B_
  clear hd
  cases f0 with
  | false =>
      go_wp2
      go_ret
      exact ⟨rfl, B.out⟩
  | true =>
    by_cases hm : (l1.length : Int) > 140
    ·
      go_wp2
      go_ret
      exact ⟨rfl, B.out⟩
    ·
      go_wp2_with fail
      refine (retrieval_Ask.calls a0 A1 c1 l1 a2 A3 c3 l3 r1 r2 r3 _ (Kd.C_below H1.out B.out) L1.out (Kd.C_below H3.out B.out) L3.out HA.out).mono ?_
      rintro e w3 ⟨va, vb, rfl, ha, hb, hbel⟩
      have B_ := Aside0.mk (below_step B.out hbel)
      clear B
      have B := B_
      clear B_
      have SA := Aside0.mk ha
      clear ha
      have SB := Aside0.mk hb
      clear hb
      clear hbel
      obtain ⟨Aa, ca, ea⟩ := Kd.S_slice SA.out
      obtain ⟨Ab, cb, eb⟩ := Kd.S_slice SB.out
      subst ea eb
      go_wp2_with fail
      refine (testamurref36_Ask.calls _ a0 A1 c1 l1 a2 A3 c3 l3 r1 r2 r3 _ (Kd.C_below H1.out (below_alloc (below_alloc B.out _) _)) L1.out (Kd.C_below H3.out (below_alloc (below_alloc B.out _) _)) L3.out HR.out).mono ?_
      rintro e w4 ⟨vc, vd, rfl, ha, hb, hbel⟩
      have B_ := Aside0.mk (below_step (below_alloc (below_alloc B.out _) _) hbel)
      have SA_ := Aside0.mk (Kd.S_below (Kd.S_alloc (Kd.S_alloc (SA.out) _) _) hbel)
      have SB_ := Aside0.mk (Kd.S_below (Kd.S_alloc (Kd.S_alloc (SB.out) _) _) hbel)
      have BA_ := Aside0.mk (blk_step ((heap_two w3 (.cells #[.slice Aa r1.length ca] 32) (.cells #[.slice Ab r2.length cb] 32)).1) hbel)
      have BB_ := Aside0.mk (blk_step ((heap_two w3 (.cells #[.slice Aa r1.length ca] 32) (.cells #[.slice Ab r2.length cb] 32)).2) hbel)
      clear B SA SB
      have B := B_
      have SA := SA_
      have SB := SB_
      have BA := BA_
      have BB := BB_
      clear B_ SA_ SB_ BA_ BB_
      have SC := Aside0.mk ha
      clear ha
      have SD := Aside0.mk hb
      clear hb
      clear hbel
      obtain ⟨Ac, cc, ec⟩ := Kd.S_slice SC.out
      obtain ⟨Ad, cd, ed⟩ := Kd.S_slice SD.out
      subst ec ed
      have hczBA : w4.cell? ⟨w3.heap.size, 0, none⟩ = some (.slice Aa r1.length ca) := (blk_cell BA.out 0).trans rfl
      have hfzBA := blk_frozen BA.out 0
      have hltBA : w3.heap.size < w4.heap.size := blk_lt BA.out
      have hczBB : w4.cell? ⟨w3.heap.size + 1, 0, none⟩ = some (.slice Ab r2.length cb) := (blk_cell BB.out 0).trans rfl
      have hfzBB := blk_frozen BB.out 0
      have hltBB : w3.heap.size + 1 < w4.heap.size := blk_lt BB.out
      go_wp2_with fail
      refine (testamurref36_Same.calls _ Aa ca r1 Ac cc r1 true _ (S_C (Kd.S_alloc (Kd.S_alloc (SA.out) _) _)).1 (S_C SA.out).2 (S_C (Kd.S_alloc (Kd.S_alloc (SC.out) _) _)).1 (S_C SC.out).2 HT.out).mono ?_
      rintro e w5 ⟨rfl, hd⟩
      have B_ := Aside0.mk (below_step (below_alloc (below_alloc B.out _) _) hd.below)
      have SA_ := Aside0.mk (Kd.S_below (Kd.S_alloc (Kd.S_alloc (SA.out) _) _) hd.below)
      have SB_ := Aside0.mk (Kd.S_below (Kd.S_alloc (Kd.S_alloc (SB.out) _) _) hd.below)
      have BA_ := Aside0.mk (blk_step (blk_alloc (blk_alloc (BA.out) _) _) hd.below)
      have BB_ := Aside0.mk (blk_step (blk_alloc (blk_alloc (BB.out) _) _) hd.below)
      have SC_ := Aside0.mk (Kd.S_below (Kd.S_alloc (Kd.S_alloc (SC.out) _) _) hd.below)
      have SD_ := Aside0.mk (Kd.S_below (Kd.S_alloc (Kd.S_alloc (SD.out) _) _) hd.below)
      have BC_ := Aside0.mk (blk_step ((heap_two w4 (.cells #[.slice Ac r1.length cc] 32) (.cells #[.slice Ad r2.length cd] 32)).1) hd.below)
      have BD_ := Aside0.mk (blk_step ((heap_two w4 (.cells #[.slice Ac r1.length cc] 32) (.cells #[.slice Ad r2.length cd] 32)).2) hd.below)
      clear B SA SB BA BB SC SD hczBA hfzBA hltBA hczBB hfzBB hltBB
      have B := B_
      have SA := SA_
      have SB := SB_
      have BA := BA_
      have BB := BB_
      have SC := SC_
      have SD := SD_
      have BC := BC_
      have BD := BD_
      clear B_ SA_ SB_ BA_ BB_ SC_ SD_ BC_ BD_
      clear hd
      have hczBA : w5.cell? ⟨w3.heap.size, 0, none⟩ = some (.slice Aa r1.length ca) := (blk_cell BA.out 0).trans rfl
      have hfzBA := blk_frozen BA.out 0
      have hltBA : w3.heap.size < w5.heap.size := blk_lt BA.out
      have hczBB : w5.cell? ⟨w3.heap.size + 1, 0, none⟩ = some (.slice Ab r2.length cb) := (blk_cell BB.out 0).trans rfl
      have hfzBB := blk_frozen BB.out 0
      have hltBB : w3.heap.size + 1 < w5.heap.size := blk_lt BB.out
      have hczBC : w5.cell? ⟨w4.heap.size, 0, none⟩ = some (.slice Ac r1.length cc) := (blk_cell BC.out 0).trans rfl
      have hfzBC := blk_frozen BC.out 0
      have hltBC : w4.heap.size < w5.heap.size := blk_lt BC.out
      have hczBD : w5.cell? ⟨w4.heap.size + 1, 0, none⟩ = some (.slice Ad r2.length cd) := (blk_cell BD.out 0).trans rfl
      have hfzBD := blk_frozen BD.out 0
      have hltBD : w4.heap.size + 1 < w5.heap.size := blk_lt BD.out
      go_wp2_with fail
      refine (testamurref36_Same.calls _ Ab cb r2 Ad cd r2 true _ (S_C (SB.out)).1 (S_C SB.out).2 (S_C (SD.out)).1 (S_C SD.out).2 HU.out).mono ?_
      rintro e w6 ⟨rfl, hd⟩
      have B_ := Aside0.mk (below_step B.out hd.below)
      have SA_ := Aside0.mk (Kd.S_below (SA.out) hd.below)
      have SB_ := Aside0.mk (Kd.S_below (SB.out) hd.below)
      have BA_ := Aside0.mk (blk_step (BA.out) hd.below)
      have BB_ := Aside0.mk (blk_step (BB.out) hd.below)
      have SC_ := Aside0.mk (Kd.S_below (SC.out) hd.below)
      have SD_ := Aside0.mk (Kd.S_below (SD.out) hd.below)
      have BC_ := Aside0.mk (blk_step (BC.out) hd.below)
      have BD_ := Aside0.mk (blk_step (BD.out) hd.below)
      clear B SA SB BA BB SC SD BC BD hczBA hfzBA hltBA hczBB hfzBB hltBB hczBC hfzBC hltBC hczBD hfzBD hltBD
      have B := B_
      have SA := SA_
      have SB := SB_
      have BA := BA_
      have BB := BB_
      have SC := SC_
      have SD := SD_
      have BC := BC_
      have BD := BD_
      clear B_ SA_ SB_ BA_ BB_ SC_ SD_ BC_ BD_
      clear hd
      go_wp2
      go_ret
      exact ⟨rfl, B.out⟩
end Go.Proofs.Ytekpbncljaeemaa.Q
