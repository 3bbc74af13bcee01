/- chains: Sign -/
import Derived.Test.YtkpfnbliideeeaaDoorCd
namespace Go.Proofs.YtkpfnbliideeeaaDoor.Q
open Go.RowKit Go.Shelf Go.Proofs.YtkpfnbliideeeaaDoorW.PrintWords Go.Proofs.YtkpfnbliideeeaaDoorW.PrintLast Go.Proofs.YtkpfnbliideeeaaDoorW.PrintMore
set_option linter.unusedVariables false
set_option linter.unusedSimpArgs false
attribute [local go_sem] Oper.semAt_some
theorem digits_rd (d : List Int) (k : Nat) (h : k < 16) : rd (digits d) (k : Int) = dig d k := by
  have e : (digs d 16)[k]? = some (dig d k) := by simp [digs, List.getElem?_append, h]
  simp only [rd, Int.toNat_natCast, digits, List.getD]
  rw [List.getElem?_set_ne (by omega), List.getElem?_set_ne (by omega), List.getElem?_set_ne (by omega), e]
  rfl
theorem digits_rd16 (d : List Int) : rd (digits d) 16 = digSum d 16 / 16 := by simp [rd, digits, digs]
theorem digits_rd17 (d : List Int) : rd (digits d) 17 = digSum d 16 / 4 % 4 := by simp [rd, digits, digs]
theorem digits_rd18 (d : List Int) : rd (digits d) 18 = digSum d 16 % 4 := by simp [rd, digits, digs]
theorem digits_range (d : List Int) (k : Nat) (h : k < 19) : 0 ≤ rd (digits d) (k : Int) ∧ rd (digits d) (k : Int) ≤ 3 := by
  have hs := digSum_range d 16 (by omega)
  by_cases h16 : k < 16
  · rw [digits_rd d k h16]; exact dig_range d k
  · by_cases e16 : k = 16
    · subst e16; rw [show ((16 : Nat) : Int) = 16 from rfl, digits_rd16]; omega
    · by_cases e17 : k = 17
      · subst e17; rw [show ((17 : Nat) : Int) = 17 from rfl, digits_rd17]; omega
      · obtain rfl : k = 18 := by omega
        rw [show ((18 : Nat) : Int) = 18 from rfl, digits_rd18]; omega
theorem results_cell_slice {P : Program} {fn : Func} {p : Tmp} {ty e : TypeId} (h : fn.results = #[.cell p ty]) (tmps : Array Value) (w : World) (g : Nat) (v : Value)
    (hp : tmps.getD p undef = .pointer (some ⟨g, 0, none⟩)) (hc : w.cell? ⟨g, 0, none⟩ = some v) (hu : P.underlying ty = some (.slice e)) :
    (results fn tmps).run P w = .ok v w := by
  have hp' : tmps[p]?.getD undef = .pointer (some ⟨g, 0, none⟩) := by simpa using hp
  have hagg : (isAgg ty).run P w = .ok false w := by
    unfold isAgg
    rw [Sem.run_bind, run_underlying hu w]
    rfl
  simp [results, h, hp', asAddr, loadVar, Sem.run_bind, hagg]
  go_simp
/-- element k of the signature -/
def sigD (d m : List Int) (k : Nat) : List Int := stepsD (chainD d k) (rd (digits m) (k : Int)).toNat
def signD (d m : List Int) : List (List Int) := (List.range 19).map (sigD d m)
set_option maxHeartbeats 400000 in
theorem Sign_calls (d m : List Int) (hd : d.length = 32) (hm : m.length = 32) (w : World) (hT : Tabs w) :
    Calls Tryd.prog 13 #[.agg (cells8 d), .agg (cells8 m)] w fun e w' => ∃ v, e = .returned v ∧ KdD.R 23 w' w.heap.size (fun _ => True) v (signD d m) ∧ Below w.heap.size w w' := by
  have HD := Aside0.mk hd
  have HM := Aside0.mk hm
  have HT := Aside0.mk hT
  have HS8 := Aside0.mk (size32 d hd)
  have HS9 := Aside0.mk (size32 m hm)
  have HM1 : Aside0 ((((w.alloc (.cells (cells8 d) 23)).alloc (.cells (cells8 m) 23)).alloc (.cells #[.slice none 0 0] 24)).heap[w.heap.size + 1]? = some (.cells (cells8 m) 23 (0, 0))) := ⟨blk_alloc (heap_alloc2_new w (.cells (cells8 d) 23) (.cells (cells8 m) 23)) _⟩
  clear hd hm hT
  refine (callsIn_wide (n := 3)).1 ?_
  refine callsIn_of_wp_marks Tryd.func13 rfl trivial ?_ rfl
  simp only [Tryd.ntmps13, List.size_toArray, List.length_cons, List.length_nil, Nat.reduceAdd, Nat.reduceSub, Array.replicate_succ, Array.replicate_zero, List.push_toArray, List.append_toArray, List.nil_append, List.cons_append]
  refine wpIn_wide.2 ?_
  go_wp2_with (with_reducible refine wpList_load_row rfl 23 (.tmp 3) rfl (w.heap.size + 1) rfl 23 (cells8 m) (0, 0) _ HM1.out Tryd.underlying23 rfl HS9.out ?_)
  refine (of_calls m HM.out _).mono ?_
  rintro e w1 ⟨rfl, hb1⟩
  have H0 : Aside0 (w1.heap[w.heap.size]? = some (.cells (cells8 d) 23 (0, 0))) := ⟨blk_of_below (blk_alloc (blk_alloc (heap_alloc_new w (.cells (cells8 d) 23)) _) _) hb1⟩
  have H2 : Aside0 (Boxed w1 (w.heap.size + 1 + 1) 24 (.slice none 0 0)) := ⟨blk_of_below (by have h := Boxed.new ((w.alloc (.cells (cells8 d) 23)).alloc (.cells (cells8 m) 23)) 24 (.slice none 0 0); simp only [World.size_alloc] at h; exact h) hb1⟩
  have HB1 : Aside0 (Below w.heap.size w w1) := ⟨(below_alloc (below_alloc (below_alloc (Below.refl _ _) _) _) _).trans (hb1.mono (by simp; omega))⟩
  have hs1 : w.heap.size + 3 ≤ w1.heap.size := by have := hb1.size; simp at this; omega
  have HLD := Aside0.mk (digits_length m)
  obtain ⟨L, hL⟩ : ∃ L, L = digits m := ⟨_, rfl⟩
  rw [← hL] at HLD ⊢
  have HLL := Aside0.mk hL
  have HSZ := Aside0.mk (size19 L HLD.out)
  have HOLD : Aside0 ((#[.int .i64 0, .int .i64 0, .int .i64 0, .int .i64 0, .int .i64 0, .int .i64 0, .int .i64 0, .int .i64 0, .int .i64 0, .int .i64 0, .int .i64 0, .int .i64 0, .int .i64 0, .int .i64 0, .int .i64 0, .int .i64 0, .int .i64 0, .int .i64 0, .int .i64 0] : Array Value).size = (cellsI L).size) := ⟨by rw [cellsI_size, HLD.out]; rfl⟩
  have HN1 := Aside0.mk (heap_alloc_new w1 (.cells #[.int .i64 0, .int .i64 0, .int .i64 0, .int .i64 0, .int .i64 0, .int .i64 0, .int .i64 0, .int .i64 0, .int .i64 0, .int .i64 0, .int .i64 0, .int .i64 0, .int .i64 0, .int .i64 0, .int .i64 0, .int .i64 0, .int .i64 0, .int .i64 0, .int .i64 0] 45))
  have H02 : Aside0 (((w1.alloc (.cells #[.int .i64 0, .int .i64 0, .int .i64 0, .int .i64 0, .int .i64 0, .int .i64 0, .int .i64 0, .int .i64 0, .int .i64 0, .int .i64 0, .int .i64 0, .int .i64 0, .int .i64 0, .int .i64 0, .int .i64 0, .int .i64 0, .int .i64 0, .int .i64 0, .int .i64 0] 45)).setRow w1.heap.size (cellsI L)).heap[w.heap.size]? = some (.cells (cells8 d) 23 (0, 0))) := ⟨(setRow_other _ _ _ _ (by omega)).trans (blk_alloc H0.out _)⟩
  clear hb1 hL HM1
  go_wp2_with (first
    | (with_reducible refine wpList_store_row rfl 45 (.tmp 5) (.tmp 9) rfl w1.heap.size (cellsI L) rfl rfl 45 #[.int .i64 0, .int .i64 0, .int .i64 0, .int .i64 0, .int .i64 0, .int .i64 0, .int .i64 0, .int .i64 0, .int .i64 0, .int .i64 0, .int .i64 0, .int .i64 0, .int .i64 0, .int .i64 0, .int .i64 0, .int .i64 0, .int .i64 0, .int .i64 0, .int .i64 0] HN1.out HSZ.out HOLD.out (all_oneI _) ?_)
    | (with_reducible refine wpList_load_row rfl 23 (.tmp 2) rfl w.heap.size rfl 23 (cells8 d) (0, 0) _ H02.out Tryd.underlying23 rfl HS8.out ?_))
  refine (firsts_calls d _).mono ?_
  rintro e w0 ⟨rfl, hw0⟩
  have es : ((w1.alloc (.cells #[.int .i64 0, .int .i64 0, .int .i64 0, .int .i64 0, .int .i64 0, .int .i64 0, .int .i64 0, .int .i64 0, .int .i64 0, .int .i64 0, .int .i64 0, .int .i64 0, .int .i64 0, .int .i64 0, .int .i64 0, .int .i64 0, .int .i64 0, .int .i64 0, .int .i64 0] 45)).setRow w1.heap.size (cellsI L)).heap.size = w1.heap.size + 1 := by simp [World.setRow]
  rw [es]
  have hZs : w1.heap.size + 2 ≤ w0.heap.size := by rw [hw0, World.size_alloc, es]; omega
  have HZ : Aside0 (w0.heap[w1.heap.size]? = some (.cells (cellsI L) 45 (0, 0))) := ⟨by rw [hw0]; exact blk_alloc (setRow_heap _ _ _ _ _ _ HN1.out) _⟩
  have HL : Aside0 (Boxed w0 (w.heap.size + 1 + 1) 24 (.slice none 0 0)) := ⟨by rw [hw0]; exact blk_alloc ((setRow_other _ _ _ _ (by omega)).trans (blk_alloc H2.out _)) _⟩
  have HB : Aside0 (Below w.heap.size w w0) := ⟨by rw [hw0]; exact below_alloc (below_setRow (below_alloc HB1.out _) (by omega) _) _⟩
  have HX : Aside0 (w0.heap[w1.heap.size + 1]? = some (.cells (cells8 d) 23 (0, 0))) := ⟨by rw [hw0, ← es]; exact heap_alloc_new _ _⟩
  clear hw0 es
  go_wp2_with fail
  obtain ⟨kb, hkb⟩ : ∃ kb, kb = w1.heap.size := ⟨_, rfl⟩
  obtain ⟨b, hb⟩ : ∃ b, b = w.heap.size := ⟨_, rfl⟩
  have hle : w.heap.size ≤ b := Nat.le_of_eq hb.symm
  have hle2 : b ≤ w.heap.size := Nat.le_of_eq hb
  rw [← hb, ← hkb] at hs1
  rw [← hkb] at HZ HX hZs
  rw [← hb] at HL
  rw [← hb, ← hkb]
  clear hb hkb H02 HN1
  refine (wpIn_wide (n := 9)).1 ?_
  refine wpIn_rangeFunc_ownH (α := Fin 19) rfl (by omega) (gf := 28) (lb := #[.pointer (some ⟨kb + 1, 0, none⟩)]) rfl trivial (enters_of Tryd.func28 (by kernel_rfl) rfl)
    (firsts_stops 8 (kb + 1) d HD.out w w0 HT.out HB.out HX.out) KpF_t (KpF_b (by omega) (by omega)) (Below.refl _ _) (fun _ => rfl)
    (collects w w0.heap.size (b + 1 + 1) 24 kb 45 (cellsI L) (fun pre : List (Fin 19) => pre.map (fun x => sigD d m x.val))) (fun _ _ _ => False) (collects_own (by omega)) (fun _ _ _ _ _ hs _ _ => hs)
    ⟨⟨_, HL.out, Kd.R_nil _ _ _ _ _⟩, HZ.out, HB.out, Nat.le_refl _⟩
    (fun x a' W => ∃ Bx, W.heap[Bx]? = some (.cells (cells8 (chainD d x.val)) 23 (0, 0)) ∧ a' = { tmps := #[.agg (cells8 d), .agg (cells8 m), .pointer (some ⟨b, 0, none⟩), .pointer (some ⟨b + 1, 0, none⟩), .pointer (some ⟨b + 1 + 1, 0, none⟩), .pointer (some ⟨kb, 0, none⟩), .int .i64 (x.val : Int), .pointer (some ⟨Bx, 0, none⟩), .agg (cells8 m), .agg (cellsI L), .agg (cells8 d), .func (.func 28) #[] #[.pointer (some ⟨kb + 1, 0, none⟩)], .int .i64 (x.val : Int), .agg (cells8 (chainD d x.val)), undef, undef, undef, undef, undef, undef, undef, undef, undef], defers := [] })
    (fun x a' _ X Y row hs hg hr => by obtain ⟨Bx, h2, h3⟩ := hs; exact ⟨Bx, blk_kept h2 hg (fun r e => (hr r e).2), h3⟩)
    ?assign ?body ?done ?stop
  case assign =>
    rintro l pre x W K hI hK
    have HI := Aside0.mk hI
    have HCH := Aside0.mk (chainD_length d x.val)
    have HN := Aside0.mk (heap_alloc_new W (.cells #[.int .u8 0, .int .u8 0, .int .u8 0, .int .u8 0, .int .u8 0, .int .u8 0, .int .u8 0, .int .u8 0, .int .u8 0, .int .u8 0, .int .u8 0, .int .u8 0, .int .u8 0, .int .u8 0, .int .u8 0, .int .u8 0, .int .u8 0, .int .u8 0, .int .u8 0, .int .u8 0, .int .u8 0, .int .u8 0, .int .u8 0, .int .u8 0, .int .u8 0, .int .u8 0, .int .u8 0, .int .u8 0, .int .u8 0, .int .u8 0, .int .u8 0, .int .u8 0] 23))
    obtain ⟨y, hy⟩ : ∃ y, y = chainD d x.val := ⟨_, rfl⟩
    rw [← hy] at HCH hK ⊢
    have HS := Aside0.mk (size32 y HCH.out)
    have HO : Aside0 ((#[.int .u8 0, .int .u8 0, .int .u8 0, .int .u8 0, .int .u8 0, .int .u8 0, .int .u8 0, .int .u8 0, .int .u8 0, .int .u8 0, .int .u8 0, .int .u8 0, .int .u8 0, .int .u8 0, .int .u8 0, .int .u8 0, .int .u8 0, .int .u8 0, .int .u8 0, .int .u8 0, .int .u8 0, .int .u8 0, .int .u8 0, .int .u8 0, .int .u8 0, .int .u8 0, .int .u8 0, .int .u8 0, .int .u8 0, .int .u8 0, .int .u8 0, .int .u8 0] : Array Value).size = (cells8 y).size) := ⟨by have := HCH.out; simp [cells8, nums, this]⟩
    clear hI hy
    refine wpIn_seq ?_
    refine region_in (l₀ := l) (by decide) (fun ⟨_, _, h⟩ => h) ?_
    go_wp2_with fail
    refine region_in (l₀ := l) (by decide) (fun ⟨_, _, h⟩ => h) ?_
    go_wp2_with (with_reducible refine wpList_store_row rfl 23 (.tmp 7) (.tmp 13) rfl W.heap.size (cells8 y) rfl rfl 23 #[.int .u8 0, .int .u8 0, .int .u8 0, .int .u8 0, .int .u8 0, .int .u8 0, .int .u8 0, .int .u8 0, .int .u8 0, .int .u8 0, .int .u8 0, .int .u8 0, .int .u8 0, .int .u8 0, .int .u8 0, .int .u8 0, .int .u8 0, .int .u8 0, .int .u8 0, .int .u8 0, .int .u8 0, .int .u8 0, .int .u8 0, .int .u8 0, .int .u8 0, .int .u8 0, .int .u8 0, .int .u8 0, .int .u8 0, .int .u8 0, .int .u8 0, .int .u8 0] HN.out HS.out HO.out (all_one8 _) ?_)
    have hbl : Below W.heap.size W ((W.alloc (.cells #[.int .u8 0, .int .u8 0, .int .u8 0, .int .u8 0, .int .u8 0, .int .u8 0, .int .u8 0, .int .u8 0, .int .u8 0, .int .u8 0, .int .u8 0, .int .u8 0, .int .u8 0, .int .u8 0, .int .u8 0, .int .u8 0, .int .u8 0, .int .u8 0, .int .u8 0, .int .u8 0, .int .u8 0, .int .u8 0, .int .u8 0, .int .u8 0, .int .u8 0, .int .u8 0, .int .u8 0, .int .u8 0, .int .u8 0, .int .u8 0, .int .u8 0, .int .u8 0] 23)).setRow W.heap.size (cells8 y)) := below_setRow (below_alloc (Below.refl _ _) _) (Nat.le_refl _) _
    exact hK _ _ (((KeepsOthers.alloc _ _).trans (keeps_setRow _ _ _)).from _) (KpF_of HI.out.2.2.1.size hbl) (collects_below HI.out hbl) ⟨W.heap.size, setRow_heap _ _ _ _ _ _ HN.out, rfl⟩
  case body =>
    rintro l pre x a' W hl ⟨r, hr⟩ ⟨⟨v, hbox, hR⟩, hI⟩ ⟨Bx, bX, rfl⟩ hlt
    have hxl : x.val < 19 := x.isLt
    obtain ⟨c, hc⟩ : ∃ c, c = chainD d x.val := ⟨_, rfl⟩
    obtain ⟨g, hg0⟩ : ∃ g, g = rd L (x.val : Int) := ⟨_, rfl⟩
    have hgr : 0 ≤ g ∧ g ≤ 3 := by rw [hg0, HLL.out]; exact digits_range m _ hxl
    obtain ⟨y, hy⟩ : ∃ y, y = stepsD c g.toNat := ⟨_, rfl⟩
    obtain ⟨X, hX⟩ : ∃ X, X = pre.map (fun x => sigD d m x.val) := ⟨_, rfl⟩
    have hf : Aside0 ((pre ++ [x]).map (fun x => sigD d m x.val) = X ++ [y]) := ⟨by rw [hX, hy, hc, hg0, HLL.out, List.map_append]; rfl⟩
    have hcl : c.length = 32 := by rw [hc]; exact chainD_length _ _
    have hyl : y.length = 32 := by rw [hy]; exact stepsD_length _ hcl _
    have hLl : X.length < 19 := by rw [hX, List.length_map]; exact hlt
    rw [← hc] at bX ⊢
    replace hR : KdD.R 23 W w0.heap.size (fun _ => True) v X := by rw [hX]; exact hR
    replace hy := Aside0.mk hy
    replace hg0 := Aside0.mk hg0
    have hxi : (x.val : Int) < 19 := by omega
    clear hc hX
    refine wpIn_block ?_
    refine start_in (l₀ := l) (n := 9) (S := fun W => SP 24 (b + 1 + 1) v Bx (cells8 c) W ∧ W.heap[kb]? = some (.cells (cellsI L) 45 (0, 0))) (ds := [7, 8]) #[false, false, false, false, false, false, false, false, false] (by kernel_rfl) (fun ⟨_, _, h⟩ => h) (by kernel_rfl) rfl rfl ⟨⟨hbox, bX⟩, hI.1⟩ (fun hHeld => ?_)
    refine pure_ (i := 2) (N := some 16) (v := ?_) (a' := ?_) #[false, false, true, false, false, false, false, false, false] rfl rfl (by kernel_rfl) (fun _ _ _ h => h) (Or.inl ⟨by rfl, ?_⟩) ?_ ?_
    rotate_left
    · intro w'
      go_simp
      with_reducible rfl
    rotate_left
    · simp only [Act.put, List.setIfInBounds_toArray, List.set_cons_zero, List.set_cons_succ, i64_w, i32_w]
      rfl
    refine pure_ (i := 3) (N := some 17) (v := ?_) (a' := ?_) #[false, false, true, true, false, false, false, false, false] rfl rfl (by kernel_rfl) (fun _ _ _ h => h) (Or.inl ⟨by rfl, ?_⟩) ?_ ?_
    rotate_left
    · intro w'
      go_simp
      with_reducible rfl
    rotate_left
    · simp only [Act.put, List.setIfInBounds_toArray, List.set_cons_zero, List.set_cons_succ, i64_w, i32_w]
      rfl
    refine take_ (i := 0) (N := some 14) (v := v) (a' := ?_) #[true, false, true, true, false, false, false, false, false] rfl rfl (by kernel_rfl) (fun _ _ _ h => h) (Or.inl ⟨by rfl, fun w' s0 => ?_⟩) hHeld ?_ ?_
    · have hc := s0.1.1.cell
      go_simp
    rotate_left
    · simp only [Act.put, List.setIfInBounds_toArray, List.set_cons_zero, List.set_cons_succ, i64_w, i32_w]
      rfl
    refine take_ (i := 1) (N := some 15) (v := .agg (cells8 c)) (a' := ?_) #[true, true, true, true, false, false, false, false, false] rfl rfl (by kernel_rfl) (fun _ _ _ h => h) (Or.inl ⟨by rfl, fun w' s0 => load_run 23 (.tmp 7) rfl Bx rfl 23 _ (0, 0) _ s0.1.2 Tryd.underlying23 rfl (size32 c hcl)⟩) hHeld ?_ ?_
    rotate_left
    · simp only [Act.put, List.setIfInBounds_toArray, List.set_cons_zero, List.set_cons_succ, i64_w, i32_w]
      rfl
    refine take_ (i := 4) (N := some 18) (v := .int .i64 g) (a' := ?_) #[true, true, true, true, true, false, false, false, false] rfl rfl (by kernel_rfl) (fun _ _ _ h => h) (Or.inl ⟨by rfl, fun w' s0 => ?_⟩) hHeld ?_ ?_
    · have hc : w'.cell? ⟨kb, x.val, none⟩ = some (.int .i64 g) := by rw [hg0.out]; exact blkI s0.2 x.val (by rw [HLD.out]; exact hxl)
      go_simp
    rotate_left
    · simp only [Act.put, List.setIfInBounds_toArray, List.set_cons_zero, List.set_cons_succ, i64_w, i32_w]
      rfl
    refine one_ (i := 5) (N := some 19) #[true, true, true, true, true, true, false, false, false] rfl rfl (by kernel_rfl) (by decide) (fun K hK => ?_)
    refine goes_ Tryd.func24 (by kernel_rfl) rfl #[.agg (cells8 c), .int .i64 g] (by rfl) rfl rfl (by (try simp only [List.map_toArray, List.map_cons, List.map_nil]); first | done | rfl) ?_
    refine (steps_calls c hcl g (by omega) _ (HT.out.below (below_drew hI.2.1))).mono ?_
    rintro e w2 ⟨rfl, hb2⟩
    rw [show stepsD c g.toNat = y from hy.out.symm]
    have hWb : Below W.heap.size W w2 := (below_drew (Below.refl _ _)).trans hb2
    refine ⟨_, rfl, ?_⟩
    refine hK.out _ _ ⟨⟨blk_of_below hHeld.1.1 hb2, blk_of_below hHeld.1.2 hb2⟩, blk_of_below hHeld.2 hb2⟩ (fun hHeld2 => ?_)
    clear hK K
    refine norm_ (a' := ?_) ?_ ?_
    rotate_left
    · show Act.put _ (some 19) _ = _
      simp only [Act.put, List.setIfInBounds_toArray, List.set_cons_zero, List.set_cons_succ, i64_w, i32_w]
      rfl
    refine one_ (i := 6) (N := some 20) #[true, true, true, true, true, true, true, false, false] rfl rfl (by kernel_rfl) (by decide) (fun K hK => ?_)
    refine value_ (w1 := w2.alloc (.cells (cells8 y) 23)) (v := .slice (some ⟨w2.heap.size, 0, none⟩) 1 1) (by rfl) rfl (build_run (.tmp 19) rfl y hyl rfl w2) ?_
    refine hK.out _ _ ⟨⟨blk_alloc hHeld2.1.1 _, blk_alloc hHeld2.1.2 _⟩, blk_alloc hHeld2.2 _⟩ (fun hHeld3 => ?_)
    clear hK K
    refine norm_ (a' := ?_) ?_ ?_
    rotate_left
    · show Act.put _ (some 20) _ = _
      simp only [Act.put, List.setIfInBounds_toArray, List.set_cons_zero, List.set_cons_succ, i64_w, i32_w]
      rfl
    refine last_ (i := 7) (N := some 21) #[true, true, true, true, true, true, true, true, false] rfl rfl (by kernel_rfl) (by decide) (fun K hK => ?_)
    have hR2 := Kd.R_below hR hWb
    refine Kd.R_append_step KdD (w0 := w2) (W := w2) w0.heap.size (by rfl) (.tmp 14) (.tmp 20) 24 23 (.agg #[.int .u8 0, .int .u8 0, .int .u8 0, .int .u8 0, .int .u8 0, .int .u8 0, .int .u8 0, .int .u8 0, .int .u8 0, .int .u8 0, .int .u8 0, .int .u8 0, .int .u8 0, .int .u8 0, .int .u8 0, .int .u8 0, .int .u8 0, .int .u8 0, .int .u8 0, .int .u8 0, .int .u8 0, .int .u8 0, .int .u8 0, .int .u8 0, .int .u8 0, .int .u8 0, .int .u8 0, .int .u8 0, .int .u8 0, .int .u8 0, .int .u8 0, .int .u8 0]) 32 rfl Tryd.underlying24 info23 rfl (by decide) (by decide) v X y (nums .u8 y) (fun _ => True) (fun _ => False) rfl rfl (dig_M _ hyl) (fun _ h => h.elim) (fun _ _ => trivial) hR2 (Below.refl _ _) (Nat.le_trans hI.2.2 hWb.size) (by omega) ?_
    intro v1 w3 h3 _ hg _
    obtain ⟨hbx, hfin⟩ := collect_step (w := w) (B := kb + 1) (x := x) (by omega) (by omega) (by omega) (by omega) (by omega) (by omega) (by decide) hI hbox hR hWb h3 hg hf.out
    obtain ⟨A1, c1, rfl⟩ := Kd.R_slice h3
    refine hK.out _ _ ?_
    clear hK K
    refine norm_ (a' := ?_) ?_ ?_
    rotate_left
    · show Act.put _ (some 21) _ = _
      simp only [Act.put, List.setIfInBounds_toArray, List.set_cons_zero, List.set_cons_succ, i64_w, i32_w]
      rfl
    refine last_ (i := 8) (N := none) #[true, true, true, true, true, true, true, true, true] rfl rfl (by kernel_rfl) (by decide) (fun K hK => ?_)
    refine skip_ (w1 := w3.setCell ⟨b + 1 + 1, 0, none⟩ (.slice A1 (X ++ [y]).length c1)) (by rfl) rfl ?_ ?_
    · have hc := hbx.cell
      have hf := hbx.frozen
      go_simp
    refine hK.out _ _ ?_
    clear hK K
    refine done_ (by kernel_rfl) ?_
    exact hfin
  case done =>
    rintro D zs W hD rfl ⟨⟨v, hbox, hR⟩, hz, hB, hm⟩ hK
    obtain ⟨A1, c1, rfl⟩ := Kd.R_slice hR
    have e19 : ((List.finRange 19).map (fun x => sigD d m x.val)).length = 19 := by simp
    rw [e19] at hbox hR
    have hbc := hbox.cell
    have hbf := hbox.frozen
    have HBX := Aside0.mk hbox
    have HR := Aside0.mk hR
    have HB2 := Aside0.mk hB
    have HK := Aside0.mk hK
    clear hz hB hR hbox hK e19
    go_wp2_with fail
    have HBX4 := Aside0.mk (HBX.out.set (.slice A1 19 c1))
    have HR4 := Aside0.mk (Kd.R_set HR.out HBX.out (by decide) 0 (.slice A1 19 c1))
    have HK4 := Aside0.mk ((KeepsOthers.setCell W ⟨b + 1 + 1, 0, none⟩ (.slice A1 19 c1)).same D _ HK.out rfl)
    have HB4 : Aside0 (Below w.heap.size w (W.setCell ⟨b + 1 + 1, 0, none⟩ (.slice A1 19 c1))) := ⟨HB2.out.setCell (p := ⟨b + 1 + 1, 0, none⟩) (by show w.heap.size ≤ b + 1 + 1; omega) _⟩
    have hDw : w.heap.size ≤ D := by omega
    have hfr : (List.finRange 19).map (fun x => sigD d m x.val) = signD d m := by rw [fin_range, signD]
    refine ⟨by simp, .inl ⟨_, _, rfl, run_takeDeferred HK4.out, ?_⟩⟩
    have hgb := grownBy_putObj' (W.setCell ⟨b + 1 + 1, 0, none⟩ (.slice A1 19 c1)) D (.deferred none)
    refine ⟨.slice A1 19 c1, results_cell_slice rfl _ _ (b + 1 + 1) _ rfl (Boxed.cell (blk_grown HBX4.out hgb (fun e => by cases e; omega))) Tryd.underlying24, _, rfl, ?_, HB4.out.trans (belowK_b (w := w) (Nat.le_refl _) _ D _ _ hDw HK4.out rfl rfl)⟩
    rw [← hfr]
    exact Kd.R_lower (R_kept HR4.out hgb (fun r e => by cases e; exact ⟨_, HK4.out, rfl⟩)) (by omega)
  case stop =>
    rintro D c pre W _ _ h _
    exact h.elim
end Go.Proofs.YtkpfnbliideeeaaDoor.Q
