/- filters: Has refused; Add -/
import Derived.Test.YtgiofinekmaceaaDoorFe
namespace Go.Proofs.YtgiofinekmaceaaDoor.Q
open Go.RowKit Go.Shelf Go.Proofs.YtgiofinekmaceaaDoorW.PrintWords Go.Proofs.YtgiofinekmaceaaDoorW.PrintLast Go.Proofs.YtgiofinekmaceaaDoorW.PrintMore
set_option linter.unusedVariables false
set_option linter.unusedSimpArgs false
attribute [local go_sem] Oper.semAt_some
set_option maxRecDepth 20000 in
set_option maxHeartbeats 1000000 in
theorem Has_bad (s : List Int) (hs : s.length = 32) (l b : Int) (A : Option Addr) (n c : Nat) (data : List Int) (id : Int) (w : World) (hD : Kd.C (Kd.int .u8) w A n data) (hd : ∀ x ∈ data, 0 ≤ x ∧ x ≤ 255) (hok : okI l b data id = false) :
    Calls Tryd.prog 20 #[.agg (cells8 s), .agg (fcells l b A n c), .int .i64 id] w fun e w' => e = .returned (.tuple #[.bool false, .int .i64 330]) ∧ Below w.heap.size w w' := by
  have HSF := Aside0.mk (sizeF l b A n c)
  have HCK : Aside0 (∀ W : World, Below w.heap.size w W → Calls Tryd.prog 27 #[.agg (fcells l b A n c), .int .i64 id] W fun e w' => e = .returned (.int .i64 330) ∧ Below W.heap.size W w') := ⟨fun W h => by
    have := check_calls l b A n c data id W (Kd.C_below hD h) hd
    rwa [checkE, hok, if_neg (by simp)] at this⟩
  obtain ⟨wa, hwa⟩ : ∃ x, x = (((w.alloc (.cells (cells8 s) 23)).alloc (.cells (fcells l b A n c) 26)).alloc (.cells #[.bool false] 4)).alloc (.cells #[.int .i64 0] 28) := ⟨_, rfl⟩
  have HA1 : Aside0 (wa.heap[w.heap.size + 1]? = some (.cells (fcells l b A n c) 26 (0, 0))) := ⟨by rw [hwa]; exact blk_alloc (blk_alloc (heap_alloc2_new w (.cells (cells8 s) 23) (.cells (fcells l b A n c) 26)) _) _⟩
  have HA2 : Aside0 (Boxed wa (w.heap.size + 1 + 1) 4 (.bool false)) := ⟨by rw [hwa]; have h := Boxed.new ((w.alloc (.cells (cells8 s) 23)).alloc (.cells (fcells l b A n c) 26)) 4 (.bool false); simp only [World.size_alloc] at h; exact blk_alloc h _⟩
  have HA3 : Aside0 (Boxed wa (w.heap.size + 1 + 1 + 1) 28 (.int .i64 0)) := ⟨by rw [hwa]; have h := Boxed.new (((w.alloc (.cells (cells8 s) 23)).alloc (.cells (fcells l b A n c) 26)).alloc (.cells #[.bool false] 4)) 28 (.int .i64 0); simp only [World.size_alloc] at h; exact h⟩
  have HBa : Aside0 (Below w.heap.size w wa) := ⟨by rw [hwa]; exact below_alloc (below_alloc (below_alloc (below_alloc (Below.refl _ _) _) _) _) _⟩
  have HWA := Aside0.mk hwa
  obtain ⟨fc, hfc⟩ : ∃ z, z = fcells l b A n c := ⟨_, rfl⟩
  rw [← hfc] at HCK HA1 HSF ⊢
  rw [← hfc] at HWA
  clear hs hD hd hok hwa hfc
  go_enter Tryd.func20, Tryd.ntmps20
  go_wp2_with (first
    | (rw [← HWA.out]; (with_reducible refine wpList_load_row rfl 26 (.tmp 4) rfl (w.heap.size + 1) rfl 26 fc (0, 0) _ HA1.out Tryd.underlying26 rfl HSF.out ?_)))
  refine (HCK.out wa HBa.out).mono ?_
  rintro e w1 ⟨rfl, hb1⟩
  have HB1 : Aside0 (Below w.heap.size w w1) := ⟨HBa.out.trans (hb1.mono HBa.out.size)⟩
  have H12 : Aside0 (Boxed w1 (w.heap.size + 1 + 1) 4 (.bool false)) := ⟨blk_of_below HA2.out hb1⟩
  have H13 : Aside0 (Boxed w1 (w.heap.size + 1 + 1 + 1) 28 (.int .i64 0)) := ⟨blk_of_below HA3.out hb1⟩
  have hc := H12.out.cell
  have hf := H12.out.frozen
  have hc3 := H13.out.cell
  have hf3 := H13.out.frozen
  clear hb1 HA1 HA2 HA3 HBa HWA HCK
  go_wp2_with fail
  have hx2 : Boxed ((w1.setCell ⟨w.heap.size + 1 + 1, 0, none⟩ (.bool false)).setCell ⟨w.heap.size + 1 + 1 + 1, 0, none⟩ (.int .i64 330)) (w.heap.size + 1 + 1) 4 (.bool false) := blk_far (H12.out.set _) (p := ⟨w.heap.size + 1 + 1 + 1, 0, none⟩) (by show w.heap.size + 1 + 1 ≠ w.heap.size + 1 + 1 + 1; omega) _
  have hx3 : Boxed ((w1.setCell ⟨w.heap.size + 1 + 1, 0, none⟩ (.bool false)).setCell ⟨w.heap.size + 1 + 1 + 1, 0, none⟩ (.int .i64 330)) (w.heap.size + 1 + 1 + 1) 28 (.int .i64 330) := by
    have hz : Boxed (w1.setCell ⟨w.heap.size + 1 + 1, 0, none⟩ (.bool false)) (w.heap.size + 1 + 1 + 1) 28 (.int .i64 0) := blk_far H13.out (p := ⟨w.heap.size + 1 + 1, 0, none⟩) (by show w.heap.size + 1 + 1 + 1 ≠ w.heap.size + 1 + 1; omega) _
    exact hz.set _
  exact bodyPost_ret (results_two rfl _ _ (w.heap.size + 1 + 1) (w.heap.size + 1 + 1 + 1) _ _ rfl rfl hx2.cell hx3.cell Tryd.underlying4 Tryd.underlying28) rfl ⟨rfl, (HB1.out.setCell (p := ⟨w.heap.size + 1 + 1, 0, none⟩) (by show w.heap.size ≤ w.heap.size + 1 + 1; omega) _).setCell (p := ⟨w.heap.size + 1 + 1 + 1, 0, none⟩) (by show w.heap.size ≤ w.heap.size + 1 + 1 + 1; omega) _⟩
def zeroF : Array Value := fcells 0 0 none 0 0
theorem sizeZ : (Tryd.prog.info? 26).map (·.size) = some zeroF.size := by kernel_rfl
theorem oneZ : zeroF.all (·.oneCell') = true := oneF _ _ _ _ _
set_option maxRecDepth 20000 in
set_option maxHeartbeats 1000000 in
theorem Add_bad (s : List Int) (hs : s.length = 32) (l b : Int) (A : Option Addr) (n c : Nat) (data : List Int) (id : Int) (w : World) (hD : Kd.C (Kd.int .u8) w A n data) (hd : ∀ x ∈ data, 0 ≤ x ∧ x ≤ 255) (hok : okI l b data id = false) :
    Calls Tryd.prog 18 #[.agg (cells8 s), .agg (fcells l b A n c), .int .i64 id] w fun e w' => e = .returned (.tuple #[.agg zeroF, .int .i64 330]) ∧ Below w.heap.size w w' := by
  have HSF := Aside0.mk (sizeF l b A n c)
  have HCK : Aside0 (∀ W : World, Below w.heap.size w W → Calls Tryd.prog 27 #[.agg (fcells l b A n c), .int .i64 id] W fun e w' => e = .returned (.int .i64 330) ∧ Below W.heap.size W w') := ⟨fun W h => by
    have := check_calls l b A n c data id W (Kd.C_below hD h) hd
    rwa [checkE, hok, if_neg (by simp)] at this⟩
  obtain ⟨wa, hwa⟩ : ∃ x, x = ((w.alloc (.cells (cells8 s) 23)).alloc (.cells (fcells l b A n c) 26)).alloc (.cells zeroF 26) := ⟨_, rfl⟩
  have HA1 : Aside0 (wa.heap[w.heap.size + 1]? = some (.cells (fcells l b A n c) 26 (0, 0))) := ⟨by rw [hwa]; exact blk_alloc (heap_alloc2_new w (.cells (cells8 s) 23) (.cells (fcells l b A n c) 26)) _⟩
  have HA2 : Aside0 (wa.heap[w.heap.size + 1 + 1]? = some (.cells zeroF 26 (0, 0))) := ⟨by rw [hwa]; have h := heap_alloc_new ((w.alloc (.cells (cells8 s) 23)).alloc (.cells (fcells l b A n c) 26)) (.cells zeroF 26); simp only [World.size_alloc] at h; exact h⟩
  have HBa : Aside0 (Below w.heap.size w wa) := ⟨by rw [hwa]; exact below_alloc (below_alloc (below_alloc (Below.refl _ _) _) _) _⟩
  have HWA := Aside0.mk hwa
  obtain ⟨fc, hfc⟩ : ∃ z, z = fcells l b A n c := ⟨_, rfl⟩
  rw [← hfc] at HCK HA1 HSF ⊢
  rw [← hfc] at HWA
  clear hs hD hd hok hwa hfc
  go_enter Tryd.func18, Tryd.ntmps18
  go_wp2_with (first
    | (change wpList _ _ _ _ _ (((w.alloc (.cells (cells8 s) 23)).alloc (.cells fc 26)).alloc (.cells zeroF 26)); rw [← HWA.out]; (with_reducible refine wpList_load_row rfl 26 (.tmp 4) rfl (w.heap.size + 1) rfl 26 fc (0, 0) _ HA1.out Tryd.underlying26 rfl HSF.out ?_)))
  refine (HCK.out wa HBa.out).mono ?_
  rintro e w1 ⟨rfl, hb1⟩
  have HB1 : Aside0 (Below w.heap.size w w1) := ⟨HBa.out.trans (hb1.mono HBa.out.size)⟩
  have H12 := Aside0.mk (blk_of_below HA2.out hb1)
  clear hb1 HA1 HA2 HBa HWA HCK
  go_wp2_with (first
    | (with_reducible refine wpList_load_row rfl 26 (.tmp 6) rfl (w.heap.size + 1 + 1) rfl 26 zeroF (0, 0) _ H12.out Tryd.underlying26 rfl sizeZ ?_)
    | (with_reducible refine wpList_store_row rfl 26 (.tmp 6) (.tmp 15) rfl (w.heap.size + 1 + 1) zeroF rfl rfl 26 zeroF H12.out sizeZ rfl oneZ ?_))
  have hb9 := below_setRow HB1.out (show w.heap.size ≤ w.heap.size + 1 + 1 by omega) zeroF
  refine bodyPost_ret (results_ct rfl _ _ (w.heap.size + 1 + 1) 26 zeroF (0, 0) _ rfl (setRow_heap _ _ _ _ _ _ H12.out) Tryd.underlying26 rfl sizeZ) rfl ⟨rfl, hb9⟩
/-- bit k of data set -/
def setBit (data : List Int) (k : Int) : List Int := data.set (k / 8).toNat (bits BinOp.or IntKind.u8 (rd data (k / 8)) (IntKind.u8.wrap (2 ^ (k % 8).toNat)))
def setAll (s : List Int) (l b id : Int) (data : List Int) (pre : List (Fin 2)) : List Int := pre.foldl (fun d x => setBit d (bitD s l b id x.val)) data
def addD (s : List Int) (l b id : Int) (data : List Int) : List Int := setBit (setBit data (bitD s l b id 0)) (bitD s l b id 1)
theorem setBit_length (data : List Int) (k : Int) : (setBit data k).length = data.length := by simp [setBit]
theorem setAll_length (s : List Int) (l b id : Int) (pre : List (Fin 2)) : ∀ data, (setAll s l b id data pre).length = data.length := by
  induction pre with
  | nil => intro data; rfl
  | cons x pre ih => intro data; exact (ih _).trans (setBit_length _ _)
def keepsA (w : World) (m mB bx g n c4 : Nat) (xc : Array Value) (L : List Int) (W : World) : Prop := W.heap[bx]? = some (.cells xc 26 (0, 0)) ∧ Kd.R (Kd.int .u8) 5 W mB (fun _ => True) (.slice (some ⟨g, 0, none⟩) n c4) L ∧ Below w.heap.size w W ∧ m ≤ W.heap.size
theorem keepsA_own {w : World} {m mB bx g n c4 : Nat} {xc : Array Value} {f : List (Fin 2) → List Int} (hm : w.heap.size ≤ m) : OwnFrom m (fun pre W => keepsA w m mB bx g n c4 xc (f pre) W) := by
  rintro s W W' row ⟨h1, h2, h4, h5⟩ hg hr
  have hr' := fun r e => (hr r e).2
  exact ⟨blk_kept h1 hg hr', R_kept h2 hg hr', h4.grown hg h4.size (fun k e => by have := (hr k e).1; omega), Nat.le_trans h5 hg.size⟩
theorem R_cell_n {e base g n cap : Nat} {ok : Nat → Prop} {W : World} {xs : List Int} (h : Kd.R (Kd.int .u8) e W base ok (.slice (some ⟨g, 0, none⟩) n cap) xs) (hl : xs.length = n) (i : Int) (h0 : 0 ≤ i) (h1 : i < n) : W.cell? ⟨g, i.toNat, none⟩ = some (.int .u8 (rd xs i)) ∧ W.frozen? ⟨g, i.toNat, none⟩ = false := by
  subst hl
  exact Kd.R_cell (0 : Int) h i h0 h1
theorem R_put_n {e base g n cap : Nat} {ok : Nat → Prop} {W : World} {xs : List Int} (h : Kd.R (Kd.int .u8) e W base ok (.slice (some ⟨g, 0, none⟩) n cap) xs) (hl : xs.length = n) (i x : Int) (h0 : 0 ≤ i) (h1 : i < n) : Kd.R (Kd.int .u8) e (W.setCell ⟨g, i.toNat, none⟩ (.int .u8 x)) base ok (.slice (some ⟨g, 0, none⟩) n cap) (xs.set i.toNat x) ∧ W.grownBy (W.setCell ⟨g, i.toNat, none⟩ (.int .u8 x)) (some g) := by
  subst hl
  exact Kd.R_put (enc := Value.int .u8) h i x
theorem add_step {w W : World} {m mB bx g n c4 B : Nat} {xc : Array Value} {L : List Int} {i : Int} (v : Int) (hg : mB ≤ g) (hmw : w.heap.size ≤ mB) (hbx : bx ≠ g) (hBg : B ≠ g) (hbm : g < m)
    (hx : W.heap[bx]? = some (.cells xc 26 (0, 0))) (hR : Kd.R (Kd.int .u8) 5 W mB (fun _ => True) (.slice (some ⟨g, 0, none⟩) n c4) L) (hB : Below w.heap.size w W) (hm : m ≤ W.heap.size) (hl : L.length = n) (h0 : 0 ≤ i) (h1 : i < n) :
    KeepsFrom m W (W.drew.setCell ⟨g, i.toNat, none⟩ (.int .u8 v)) ∧ KpD w B W (W.drew.setCell ⟨g, i.toNat, none⟩ (.int .u8 v)) ∧ keepsA w m mB bx g n c4 xc (L.set i.toNat v) (W.drew.setCell ⟨g, i.toNat, none⟩ (.int .u8 v)) := by
  obtain ⟨inner, ho⟩ := Kd.R_own hR
  have hBl : Below w.heap.size W (W.drew.setCell ⟨g, i.toNat, none⟩ (.int .u8 v)) := (below_drew (Below.refl _ _)).setCell (p := ⟨g, i.toNat, none⟩) (by show w.heap.size ≤ g; omega) _
  refine ⟨((KeepsOthers.drew _).trans (KeepsOthers.setCell _ _ _)).from _, ⟨⟨hBl, fun o hBo => ?_⟩, fun k cs hk => ?_⟩, blk_far (p := ⟨g, i.toNat, none⟩) (show W.drew.heap[bx]? = some (.cells xc 26 (0, 0)) from hx) hbx _, (R_put_n (Kd.R_drew hR) hl i v h0 h1).1, hB.trans hBl, ?_⟩
  · exact (Below.heap_setCell W.drew ⟨g, i.toNat, none⟩ _ B hBg).trans hBo
  · have hkg : k ≠ g := fun e => by
      obtain ⟨cells, hc⟩ := own_typed ho g rfl
      rw [e, hc] at hk
      cases hk
    exact (Below.heap_setCell W.drew ⟨g, i.toNat, none⟩ _ k hkg).trans hk
  · simpa using hm
theorem R_setRow {α : Type} {d : Kd α} {e base bx t : Nat} {ok : Nat → Prop} {W : World} {v : Value} {xs : List α} {cs : Array Value} (h : d.R e W base ok v xs) (hx : W.heap[bx]? = some (.cells cs t (0, 0))) (ht : ∀ q, q ∈ e :: d.E → q ≠ t) (cs' : Array Value) : d.R e (W.setRow bx cs') base ok v xs :=
  Kd.R_mono (Kd.R_move (Kd.R_types h hx ht) (fun k hk => setRow_other _ _ _ _ hk.2)) (fun _ hk => hk.1)
set_option maxRecDepth 20000 in
set_option maxHeartbeats 1000000 in
theorem Add_ok (s : List Int) (hs : s.length = 32) (l b : Int) (A : Option Addr) (n c : Nat) (data : List Int) (id : Int) (w : World) (hD : Kd.C (Kd.int .u8) w A n data) (hc : n ≤ c) (hd : ∀ x ∈ data, 0 ≤ x ∧ x ≤ 255) (hok : okI l b data id = true) (hT : Tabs w) :
    Calls Tryd.prog 18 #[.agg (cells8 s), .agg (fcells l b A n c), .int .i64 id] w fun e w' => ∃ v, e = .returned (.tuple #[.agg #[.int .i64 l, .int .i64 b, v], .int .i64 0]) ∧ Kd.R (Kd.int .u8) 5 w' w.heap.size (fun _ => True) v (addD s l b id data) ∧ Below w.heap.size w w' := by
  obtain ⟨hokf, h0i, h1i⟩ := okI_spec hok
  have hokb := okF_okB hokf
  obtain ⟨l0, l1, b0, b1⟩ := okB_spec hokb
  have hdl := Kd.C_len hD
  have hlen : (n : Int) = (b + 7) / 8 := by
    have h := hokf
    rw [okF, hdl] at h
    simp only [Bool.and_eq_true, beq_iff_eq] at h
    exact h.1.2
  have HS := Aside0.mk hs
  have HT := Aside0.mk hT
  have HDt := Aside0.mk hD
  have HDL := Aside0.mk hdl
  have HLEN := Aside0.mk hlen
  have hn600 : n ≤ 600 := by omega
  have HSs := Aside0.mk (size32 s hs)
  have HSF := Aside0.mk (sizeF l b A n c)
  have HCK : Aside0 (∀ W : World, Below w.heap.size w W → Calls Tryd.prog 27 #[.agg (fcells l b A n c), .int .i64 id] W fun e w' => e = .returned (.int .i64 0) ∧ Below W.heap.size W w') := ⟨fun W h => by
    have := check_calls l b A n c data id W (Kd.C_below hD h) hd
    rwa [checkE, hok, if_pos rfl] at this⟩
  obtain ⟨wa, hwa⟩ : ∃ x, x = ((w.alloc (.cells (cells8 s) 23)).alloc (.cells (fcells l b A n c) 26)).alloc (.cells zeroF 26) := ⟨_, rfl⟩
  have HA0 : Aside0 (wa.heap[w.heap.size]? = some (.cells (cells8 s) 23 (0, 0))) := ⟨by rw [hwa]; exact blk_alloc (blk_alloc (heap_alloc_new _ _) _) _⟩
  have HA1 : Aside0 (wa.heap[w.heap.size + 1]? = some (.cells (fcells l b A n c) 26 (0, 0))) := ⟨by rw [hwa]; exact blk_alloc (heap_alloc2_new w (.cells (cells8 s) 23) (.cells (fcells l b A n c) 26)) _⟩
  have HA2 : Aside0 (wa.heap[w.heap.size + 1 + 1]? = some (.cells zeroF 26 (0, 0))) := ⟨by rw [hwa]; have h := heap_alloc_new ((w.alloc (.cells (cells8 s) 23)).alloc (.cells (fcells l b A n c) 26)) (.cells zeroF 26); simp only [World.size_alloc] at h; exact h⟩
  have HBa : Aside0 (Below w.heap.size w wa) := ⟨by rw [hwa]; exact below_alloc (below_alloc (below_alloc (Below.refl _ _) _) _) _⟩
  have hsa : w.heap.size + 3 ≤ wa.heap.size := by rw [hwa]; simp only [World.size_alloc]; omega
  have HWA := Aside0.mk hwa
  have HOKB := Aside0.mk hokb
  obtain ⟨fc, hfc⟩ : ∃ z, z = fcells l b A n c := ⟨_, rfl⟩
  have HFC := Aside0.mk hfc
  have HF1 : Aside0 (fc.all (·.oneCell') = true) := ⟨by rw [hfc]; exact oneF _ _ _ _ _⟩
  have HF2 : Aside0 (zeroF.size = fc.size) := ⟨by rw [hfc]; rfl⟩
  rw [← hfc] at HCK HA1 HSF ⊢
  rw [← hfc] at HWA
  clear hs hT hD hd hok hokf hwa hokb hfc hlen hdl
  refine (callsIn_wide (n := 3)).1 ?_
  refine callsIn_of_wp_marks Tryd.func18 rfl trivial ?_ rfl
  simp only [Tryd.ntmps18, List.size_toArray, List.length_cons, List.length_nil, Nat.reduceAdd, Nat.reduceSub, Array.replicate_succ, Array.replicate_zero, List.push_toArray, List.append_toArray, List.nil_append, List.cons_append]
  refine wpIn_wide.2 ?_
  go_wp2_with (first
    | (change wpList _ _ _ _ _ (((w.alloc (.cells (cells8 s) 23)).alloc (.cells fc 26)).alloc (.cells zeroF 26)); rw [← HWA.out]; (with_reducible refine wpList_load_row rfl 26 (.tmp 4) rfl (w.heap.size + 1) rfl 26 fc (0, 0) _ HA1.out Tryd.underlying26 rfl HSF.out ?_)))
  refine (HCK.out wa HBa.out).mono ?_
  rintro e w1 ⟨rfl, hb1⟩
  have HB1 : Aside0 (Below w.heap.size w w1) := ⟨HBa.out.trans (hb1.mono HBa.out.size)⟩
  have H10 := Aside0.mk (blk_of_below HA0.out hb1)
  have H11 := Aside0.mk (blk_of_below HA1.out hb1)
  have H12 := Aside0.mk (blk_of_below HA2.out hb1)
  have hs1 : w.heap.size + 3 ≤ w1.heap.size := Nat.le_trans hsa hb1.size
  have HD1 := Aside0.mk (Kd.C_below HDt.out HB1.out)
  clear hb1 HA0 HA1 HA2 HBa HWA HCK hsa
  -- x = f
  have h10 : ∀ j : Nat, j = w.heap.size + 1 + 1 → j < w1.heap.size := fun j hj => by omega
  obtain ⟨w2, hw2⟩ : ∃ z, z = w1.setRow (w.heap.size + 1 + 1) fc := ⟨_, rfl⟩
  have H20 : Aside0 (w2.heap[w.heap.size]? = some (.cells (cells8 s) 23 (0, 0))) := ⟨by rw [hw2]; exact (setRow_other _ _ _ _ (by omega)).trans H10.out⟩
  have H21 : Aside0 (w2.heap[w.heap.size + 1]? = some (.cells fc 26 (0, 0))) := ⟨by rw [hw2]; exact (setRow_other _ _ _ _ (by omega)).trans H11.out⟩
  have H22 : Aside0 (w2.heap[w.heap.size + 1 + 1]? = some (.cells fc 26 (0, 0))) := ⟨by rw [hw2]; exact setRow_heap _ _ _ _ _ _ H12.out⟩
  have HB2 : Aside0 (Below w.heap.size w w2) := ⟨by rw [hw2]; exact below_setRow HB1.out (by omega) _⟩
  have hs2 : w2.heap.size = w1.heap.size := by rw [hw2]; simp [World.setRow]
  have HW2 := Aside0.mk hw2
  have f2 : w2.cell? ⟨w.heap.size + 1, 2, none⟩ = some (.slice A n c) := (blk_cell H21.out 2).trans (by rw [HFC.out]; rfl)
  clear hw2
  go_wp2_with (first
    | (with_reducible refine wpList_load_row rfl 26 (.tmp 4) rfl (w.heap.size + 1) rfl 26 fc (0, 0) _ H11.out Tryd.underlying26 rfl HSF.out ?_)
    | (with_reducible refine wpList_store_row rfl 26 (.tmp 6) (.tmp 17) rfl (w.heap.size + 1 + 1) fc rfl rfl 26 zeroF H12.out HSF.out HF2.out HF1.out ?_; rw [← HW2.out])
    | ((with_reducible refine gate_dst (N := 18) rfl ?_); refine Kd.R_lit (Kd.int .u8) (w0 := w2) w2.heap.size 5 ?hg (N := 18) ?hd (xs := ([] : List Int)) (inner := []) (ok := fun _ => True) (okp := fun _ => True) ?hr ?hp (fun _ hk => hk) trivial (Below.refl _ _) (Nat.le_refl _) (by simp) ?_; (case hd => rfl); (case hg => rfl); (case hr => first | (go_simp; done) | (go_simp; rfl)); (case hp => exact (Reps.none _ _)); intro v3 w3 ho3 hb3 hg3 hn3; have HO3 := Aside0.mk ho3; have HB3 := Aside0.mk hb3; have f3 := pw_cell_below hb3 f2; clear hg3 hn3 ho3 hb3)
    | (at_builtin; refine Kd.R_append_rows (Kd.int .u8) (w0 := w2) (W := w3) w2.heap.size rfl (.tmp 18) (.tmp 20) 24 5 (.int .u8 0) 1 rfl Tryd.underlying24 info5 rfl (by decide) (by omega) v3 [] data A n c (fun _ => True) (fun _ => False) rfl rfl HO3.out (Kd.C_below HDt.out (HB2.out.trans (HB3.out.mono HB2.out.size))) (fun _ _ h => h) (fun _ h => h.elim) (fun _ _ => trivial) HB3.out HB3.out.size (by simp; omega) ?_; intro v4 w4 ho4 hb4 hg4 hat4; obtain ⟨A4, c4, n4, rfl, hC4, hc4⟩ := R_any ho4; have hn4 : n = n4 := (by rw [← Kd.C_len hC4, List.nil_append]; exact HDL.out.symm); subst hn4; obtain ⟨ad4, rfl, -⟩ := Kd.at_int hC4 0 (by omega) (by have := HLEN.out; omega); obtain ⟨g, rfl⟩ := Kd.R_head ho4; have hgb : w2.heap.size ≤ g := (by obtain ⟨inner, hin⟩ := Kd.R_own ho4; exact own_base hin g rfl); have hgl : g < w4.heap.size := own_lt ho4 rfl; obtain ⟨w5, hw5⟩ : ∃ z, z = w4.setCell ⟨w.heap.size + 1 + 1, 2, none⟩ (.slice (some ⟨g, 0, none⟩) n c4) := ⟨_, rfl⟩; have f4 := (blk_cell (blk_below H22.out hb4) 2).trans (show fc[2]? = some (.slice A n c) by rw [HFC.out]; rfl); have f4f := blk_frozen (blk_below H22.out hb4) 2; have H52 : Aside0 (w5.heap[w.heap.size + 1 + 1]? = some (.cells (fcells l b (some ⟨g, 0, none⟩) n c4) 26 (0, 0))) := ⟨(by rw [hw5, blk_set (blk_below H22.out hb4) 2 _, HFC.out]; rfl)⟩; have H50 : Aside0 (w5.heap[w.heap.size]? = some (.cells (cells8 s) 23 (0, 0))) := ⟨(by rw [hw5]; exact blk_far (blk_below H20.out hb4) (p := ⟨w.heap.size + 1 + 1, 2, none⟩) (by show w.heap.size ≠ w.heap.size + 1 + 1; omega) _)⟩; have H51 : Aside0 (w5.heap[w.heap.size + 1]? = some (.cells fc 26 (0, 0))) := ⟨(by rw [hw5]; exact blk_far (blk_below H21.out hb4) (p := ⟨w.heap.size + 1 + 1, 2, none⟩) (by show w.heap.size + 1 ≠ w.heap.size + 1 + 1; omega) _)⟩; have HB5 : Aside0 (Below w.heap.size w w5) := ⟨(by rw [hw5]; exact (HB2.out.trans (hb4.mono HB2.out.size)).setCell (p := ⟨w.heap.size + 1 + 1, 2, none⟩) (by show w.heap.size ≤ w.heap.size + 1 + 1; omega) _)⟩; have HR5 : Aside0 (Kd.R (Kd.int .u8) 5 w5 w2.heap.size (fun _ => True) (.slice (some ⟨g, 0, none⟩) n c4) data) := ⟨(by rw [hw5]; exact Kd.R_set ho4 (blk_below H22.out hb4) (fun q hq => by have : q = 5 := (by simpa [Kd.int, Kd.scalar] using hq); rw [this]; decide) 2 _)⟩; have hs5 : g < w5.heap.size := (by rw [hw5]; simpa using hgl); have hs25 : w2.heap.size ≤ w5.heap.size := Nat.le_trans hgb (Nat.le_of_lt hs5); have HW5 := Aside0.mk hw5; clear ho4 hb4 hg4 hat4 hC4 hc4 hw5 hgl)
    | (rw [← HW5.out]; (first
      | (with_reducible refine wpList_load_row rfl 23 (.tmp 3) rfl w.heap.size rfl 23 (cells8 s) (0, 0) _ H50.out Tryd.underlying23 rfl HSs.out ?_)))
    | (with_reducible refine wpList_load_row rfl 26 (.tmp 4) rfl (w.heap.size + 1) rfl 26 fc (0, 0) _ H51.out Tryd.underlying26 rfl HSF.out ?_))
  have HBC := Aside0.mk (bits_calls s l b A n c id w5)
  rw [← HFC.out] at HBC
  refine HBC.out.mono ?_
  rintro e w6 ⟨rfl, hw6⟩
  have HB6 : Aside0 (Below w.heap.size w w6) := ⟨by rw [hw6]; exact below_alloc (below_alloc (below_alloc HB5.out _) _) _⟩
  have H62 : Aside0 (w6.heap[w.heap.size + 1 + 1]? = some (.cells (fcells l b (some ⟨g, 0, none⟩) n c4) 26 (0, 0))) := ⟨by rw [hw6]; exact blk_alloc (blk_alloc (blk_alloc H52.out _) _) _⟩
  have HR6 : Aside0 (Kd.R (Kd.int .u8) 5 w6 w2.heap.size (fun _ => True) (.slice (some ⟨g, 0, none⟩) n c4) data) := ⟨by rw [hw6]; exact Kd.R_alloc (Kd.R_alloc (Kd.R_alloc HR5.out _) _) _⟩
  have G0 : Aside0 (w6.heap[w5.heap.size]? = some (.cells (cells8 s) 23 (0, 0))) := ⟨by rw [hw6]; exact blk_alloc (blk_alloc (heap_alloc_new _ _) _) _⟩
  have G1 : Aside0 (w6.heap[w5.heap.size + 1]? = some (.cells (fcells l b A n c) 26 (0, 0))) := ⟨by rw [hw6, ← HFC.out]; exact blk_alloc (heap_alloc2_new w5 (.cells (cells8 s) 23) (.cells fc 26)) _⟩
  have G2 : Aside0 (w6.heap[w5.heap.size + 1 + 1]? = some (.cells #[.int .i64 id] 3 (0, 0))) := ⟨by rw [hw6]; have h := heap_alloc_new ((w5.alloc (.cells (cells8 s) 23)).alloc (.cells (fcells l b A n c) 26)) (.cells #[.int .i64 id] 3); rw [← HFC.out] at h; simp only [World.size_alloc] at h; exact h⟩
  have hs6 : w5.heap.size + 3 ≤ w6.heap.size := by rw [hw6]; simp only [World.size_alloc]; omega
  obtain ⟨kb, hkb⟩ : ∃ kb, kb = w5.heap.size := ⟨_, rfl⟩
  rw [← hkb] at G0 G1 G2 hs6 hs5 hs25 ⊢
  obtain ⟨mB, hmB⟩ : ∃ z, z = w2.heap.size := ⟨_, rfl⟩
  rw [← hmB] at HR6 hs25 hgb hs2
  have hmw : w.heap.size + 3 ≤ mB := by omega
  have HSL := Aside0.mk (setAll_length s l b id)
  clear hw6 hkb hmB HBC H50 H51 H52 HR5 HB5 H10 H11 H12 HB1 HD1 H20 H21 H22 HB2 HW2 f2 f3 f4 f4f HB3 HO3 HW5 h10
  go_wp2_with fail
  refine (wpIn_wide (n := 9)).1 ?_
  refine wpIn_rangeFunc_ownH (α := Fin 2) rfl (by omega) (gf := 35) (lb := #[.pointer (some ⟨kb, 0, none⟩), .pointer (some ⟨kb + 1, 0, none⟩), .pointer (some ⟨kb + 1 + 1, 0, none⟩)]) rfl trivial (enters_of Tryd.func35 (by kernel_rfl) rfl)
    (bits_stops 8 kb (kb + 1) (kb + 1 + 1) s HS.out l b id HOKB.out h0i h1i A n c w w6 HT.out HB6.out G0.out G1.out G2.out) KpD_t (KpD_b (by omega) (by omega)) (Below.refl _ _) (fun _ => rfl)
    (fun pre W => keepsA w w6.heap.size mB (w.heap.size + 1 + 1) g n c4 (fcells l b (some ⟨g, 0, none⟩) n c4) (setAll s l b id data pre) W) (fun _ _ _ => False) (keepsA_own (by omega)) (fun _ _ _ _ _ hs _ _ => hs)
    ⟨H62.out, HR6.out, HB6.out, Nat.le_refl _⟩
    (fun x a' W => a' = { tmps := #[.agg (cells8 s), .agg fc, .int .i64 id, .pointer (some ⟨w.heap.size, 0, none⟩), .pointer (some ⟨w.heap.size + 1, 0, none⟩), undef, .pointer (some ⟨w.heap.size + 1 + 1, 0, none⟩), .int .i64 0, .int .i64 0, .int .i64 (bitD s l b id x.val), .agg fc, .int .i64 id, .int .i64 0, .int .i64 0, .bool false, undef, undef, .agg fc, v3, .pointer (some ⟨w.heap.size + 1, 2, none⟩), .slice A n c, .slice (some ⟨g, 0, none⟩) n c4, .pointer (some ⟨w.heap.size + 1 + 1, 2, none⟩), .agg (cells8 s), .agg fc, .int .i64 id, .func (.func 35) #[] #[.pointer (some ⟨kb, 0, none⟩), .pointer (some ⟨kb + 1, 0, none⟩), .pointer (some ⟨kb + 1 + 1, 0, none⟩)], .int .i64 (bitD s l b id x.val), undef, undef, undef, undef, undef, undef, undef, undef, undef, undef, undef, undef], defers := [] })
    (fun x a' _ X Y row hs hg hr => hs)
    ?assign ?body ?done ?stop
  case assign =>
    rintro l' pre x W K hI hK
    refine region_in (l₀ := l') (by decide) (fun ⟨_, _, h⟩ => h) ?_
    go_wp2_with fail
    exact hK _ _ ((keeps_below (Below.refl _ _)).from _) (KpD_of hI.2.2.1.size (Below.refl _ _)) hI rfl
  case body =>
    rintro l' pre x a' W hl ⟨r, hr⟩ ⟨hx, hR, hI⟩ rfl hlt
    have hrg := bitD_range s l b id x.val (by omega)
    obtain ⟨y, hy⟩ : ∃ y, y = bitD s l b id x.val := ⟨_, rfl⟩
    obtain ⟨L, hL⟩ : ∃ L, L = setAll s l b id data pre := ⟨_, rfl⟩
    have hLl : L.length = n := by rw [hL, HSL.out]; exact HDL.out
    have hf : Aside0 (setAll s l b id data (pre ++ [x]) = setBit L y) := ⟨by rw [hL, hy, setAll, List.foldl_append]; rfl⟩
    rw [← hy] at hrg ⊢
    rw [← hL] at hR
    have hyn : y / 8 < n := by have := HLEN.out; omega
    have hy0 : 0 ≤ y / 8 := by omega
    obtain ⟨hz, hzf⟩ := R_cell_n hR hLl (y / 8) hy0 hyn
    obtain ⟨z, hzz⟩ : ∃ z, z = rd L (y / 8) := ⟨_, rfl⟩
    rw [← hzz] at hz
    have HZZ := Aside0.mk hzz
    clear hy hL hzz
    have hq1 : wrap64 (y.tdiv 8) = y / 8 := by rw [Int.tdiv_eq_ediv_of_nonneg (by omega)]; unfold wrap64; omega
    have hq2 : y.tmod 8 = y % 8 := Int.tmod_eq_emod_of_nonneg (by omega)
    have hq3 := eq_true hy0
    have hq4 := eq_true hyn
    refine wpIn_block ?_
    refine start_in (l₀ := l') (n := 12) (S := fun W => W.heap[w.heap.size + 1 + 1]? = some (.cells (fcells l b (some ⟨g, 0, none⟩) n c4) 26 (0, 0)) ∧ W.cell? ⟨g, (y / 8).toNat, none⟩ = some (.int .u8 z)) (ds := [11]) #[false, false, false, false, false, false, false, false, false, false, false, false] (by kernel_rfl) (fun ⟨_, _, h⟩ => h) (by kernel_rfl) rfl rfl ⟨hx, hz⟩ (fun hHeld => ?_)
    refine pure_ (i := 0) (N := some 28) (v := ?_) (a' := ?_) #[true, false, false, false, false, false, false, false, false, false, false, false] rfl rfl (by kernel_rfl) (fun _ _ _ h => h) (Or.inl ⟨by rfl, ?_⟩) ?_ ?_
    rotate_left
    · intro w'
      go_simp
      with_reducible rfl
    rotate_left
    · simp only [Act.put, List.setIfInBounds_toArray, List.set_cons_zero, List.set_cons_succ, i64_w, i32_w]
      rfl
    refine take_ (i := 1) (N := some 29) (v := .slice (some ⟨g, 0, none⟩) n c4) (a' := ?_) #[true, true, false, false, false, false, false, false, false, false, false, false] rfl rfl (by kernel_rfl) (fun _ _ _ h => h) (Or.inl ⟨by rfl, fun w' s0 => ?_⟩) hHeld ?_ ?_
    · have hc : w'.cell? ⟨w.heap.size + 1 + 1, 2, none⟩ = some (.slice (some ⟨g, 0, none⟩) n c4) := blk_cell s0.1 2
      go_simp
    rotate_left
    · simp only [Act.put, List.setIfInBounds_toArray, List.set_cons_zero, List.set_cons_succ, i64_w, i32_w]
      rfl
    refine pure_ (i := 2) (N := some 30) (v := ?_) (a' := ?_) #[true, true, true, false, false, false, false, false, false, false, false, false] rfl rfl (by kernel_rfl) (fun _ _ _ h => h) (Or.inl ⟨by rfl, ?_⟩) ?_ ?_
    rotate_left
    · intro w'
      go_simp
      with_reducible rfl
    rotate_left
    · simp only [Act.put, List.setIfInBounds_toArray, List.set_cons_zero, List.set_cons_succ, i64_w, i32_w]
      rfl
    refine pure_ (i := 3) (N := some 31) (v := ?_) (a' := ?_) #[true, true, true, true, false, false, false, false, false, false, false, false] rfl rfl (by kernel_rfl) (fun _ _ _ h => h) (Or.inl ⟨by rfl, ?_⟩) ?_ ?_
    rotate_left
    · intro w'
      go_simp
      with_reducible rfl
    rotate_left
    · simp only [Act.put, List.setIfInBounds_toArray, List.set_cons_zero, List.set_cons_succ, i64_w, i32_w]
      rfl
    refine pure_ (i := 4) (N := some 32) (v := ?_) (a' := ?_) #[true, true, true, true, true, false, false, false, false, false, false, false] rfl rfl (by kernel_rfl) (fun _ _ _ h => h) (Or.inl ⟨by rfl, ?_⟩) ?_ ?_
    rotate_left
    · intro w'
      go_simp
      with_reducible rfl
    rotate_left
    · simp only [Act.put, List.setIfInBounds_toArray, List.set_cons_zero, List.set_cons_succ, i64_w, i32_w]
      rfl
    refine take_ (i := 5) (N := some 33) (v := .int .u8 z) (a' := ?_) #[true, true, true, true, true, true, false, false, false, false, false, false] rfl rfl (by kernel_rfl) (fun _ _ _ h => h) (Or.inl ⟨by rfl, fun w' s0 => ?_⟩) hHeld ?_ ?_
    · have hc := s0.2
      go_simp
    rotate_left
    · simp only [Act.put, List.setIfInBounds_toArray, List.set_cons_zero, List.set_cons_succ, i64_w, i32_w]
      rfl
    refine pure_ (i := 6) (N := some 34) (v := ?_) (a' := ?_) #[true, true, true, true, true, true, true, false, false, false, false, false] rfl rfl (by kernel_rfl) (fun _ _ _ h => h) (Or.inl ⟨by rfl, ?_⟩) ?_ ?_
    rotate_left
    · intro w'
      go_simp
      with_reducible rfl
    rotate_left
    · simp only [Act.put, List.setIfInBounds_toArray, List.set_cons_zero, List.set_cons_succ, i64_w, i32_w]
      rfl
    refine pure_ (i := 7) (N := some 35) (v := ?_) (a' := ?_) #[true, true, true, true, true, true, true, true, false, false, false, false] rfl rfl (by kernel_rfl) (fun _ _ _ h => h) (Or.inl ⟨by rfl, ?_⟩) ?_ ?_
    rotate_left
    · intro w'
      go_simp
      with_reducible rfl
    rotate_left
    · simp only [Act.put, List.setIfInBounds_toArray, List.set_cons_zero, List.set_cons_succ, i64_w, i32_w]
      rfl
    refine pure_ (i := 8) (N := some 36) (v := ?_) (a' := ?_) #[true, true, true, true, true, true, true, true, true, false, false, false] rfl rfl (by kernel_rfl) (fun _ _ _ h => h) (Or.inl ⟨by rfl, ?_⟩) ?_ ?_
    rotate_left
    · intro w'
      go_simp
      with_reducible rfl
    rotate_left
    · simp only [Act.put, List.setIfInBounds_toArray, List.set_cons_zero, List.set_cons_succ, i64_w, i32_w]
      rfl
    refine pure_ (i := 9) (N := some 37) (v := ?_) (a' := ?_) #[true, true, true, true, true, true, true, true, true, true, false, false] rfl rfl (by kernel_rfl) (fun _ _ _ h => h) (Or.inl ⟨by rfl, ?_⟩) ?_ ?_
    rotate_left
    · intro w'
      go_simp
      with_reducible rfl
    rotate_left
    · simp only [Act.put, List.setIfInBounds_toArray, List.set_cons_zero, List.set_cons_succ, i64_w, i32_w]
      rfl
    refine pure_ (i := 10) (N := some 38) (v := ?_) (a' := ?_) #[true, true, true, true, true, true, true, true, true, true, true, false] rfl rfl (by kernel_rfl) (fun _ _ _ h => h) (Or.inl ⟨by rfl, ?_⟩) ?_ ?_
    rotate_left
    · intro w'
      go_simp
      with_reducible rfl
    rotate_left
    · simp only [Act.put, List.setIfInBounds_toArray, List.set_cons_zero, List.set_cons_succ, i64_w, i32_w]
      rfl
    refine last_ (i := 11) (N := none) #[true, true, true, true, true, true, true, true, true, true, true, true] rfl rfl (by kernel_rfl) (by decide) (fun K hK => ?_)
    refine skip_ (w1 := W.drew.setCell ⟨g, (y / 8).toNat, none⟩ (.int .u8 (bits BinOp.or IntKind.u8 z (IntKind.u8.wrap (2 ^ (y % 8).toNat))))) (by rfl) rfl ?_ ?_
    · have hcc := hHeld.2
      have hff : W.drew.frozen? ⟨g, (y / 8).toNat, none⟩ = false := hzf
      go_simp
    refine hK.out _ _ ?_
    clear hK K
    refine done_ (by kernel_rfl) ?_
    have hfin := add_step (B := kb + 1) (m := w6.heap.size) (i := y / 8) (bits BinOp.or IntKind.u8 z (IntKind.u8.wrap (2 ^ (y % 8).toNat))) hgb (by omega) (by omega) (by omega) (by omega) hx hR hI.1 hI.2 hLl hy0 hyn
    rw [show L.set (y / 8).toNat (bits BinOp.or IntKind.u8 z (IntKind.u8.wrap (2 ^ (y % 8).toNat))) = setBit L y by rw [HZZ.out]; rfl, ← hf.out] at hfin
    exact hfin
  case done =>
    rintro D zs W hD rfl ⟨hx, hR, hB, hm⟩ hK
    have hsa2 : setAll s l b id data (List.finRange 2) = addD s l b id data := rfl
    rw [hsa2] at hR
    have HX := Aside0.mk hx
    have HR := Aside0.mk hR
    have HB2 := Aside0.mk hB
    have HK := Aside0.mk hK
    have HSX := Aside0.mk (sizeF l b (some ⟨g, 0, none⟩) n c4)
    have HOX := Aside0.mk (oneF l b (some ⟨g, 0, none⟩) n c4)
    obtain ⟨xc, hxc⟩ : ∃ z, z = fcells l b (some ⟨g, 0, none⟩) n c4 := ⟨_, rfl⟩
    rw [← hxc] at HX HSX HOX
    have HXC := Aside0.mk hxc
    clear hB hR hx hK hsa2 hxc
    go_wp2_with (first
      | (with_reducible refine wpList_load_row rfl 26 (.tmp 6) rfl (w.heap.size + 1 + 1) rfl 26 xc (0, 0) _ HX.out Tryd.underlying26 rfl HSX.out ?_)
      | (with_reducible refine wpList_store_row rfl 26 (.tmp 6) (.tmp 39) rfl (w.heap.size + 1 + 1) xc rfl rfl 26 xc HX.out HSX.out rfl HOX.out ?_))
    have hDw : w.heap.size ≤ D := by omega
    have HX4 := Aside0.mk (setRow_heap W (w.heap.size + 1 + 1) xc xc _ _ HX.out)
    have HK4 : Aside0 ((W.setRow (w.heap.size + 1 + 1) xc).heap[D]? = some (.deferred (some []))) := ⟨(setRow_other _ _ _ _ (by omega)).trans HK.out⟩
    have HB4 := Aside0.mk (below_setRow HB2.out (show w.heap.size ≤ w.heap.size + 1 + 1 by omega) xc)
    have HR4 : Aside0 (Kd.R (Kd.int .u8) 5 (W.setRow (w.heap.size + 1 + 1) xc) mB (fun _ => True) (.slice (some ⟨g, 0, none⟩) n c4) (addD s l b id data)) := ⟨R_setRow HR.out HX.out (by decide) xc⟩
    refine ⟨by simp, .inl ⟨_, _, rfl, run_takeDeferred HK4.out, ?_⟩⟩
    have hgq := grownBy_putObj' (W.setRow (w.heap.size + 1 + 1) xc) D (.deferred none)
    refine ⟨_, results_ct rfl _ _ (w.heap.size + 1 + 1) 26 xc (0, 0) _ rfl (blk_grown HX4.out hgq (fun e => by cases e; omega)) Tryd.underlying26 rfl HSX.out, .slice (some ⟨g, 0, none⟩) n c4, by rw [HXC.out]; rfl, ?_, HB4.out.trans (belowK_b (w := w) (Nat.le_refl _) _ D _ _ hDw HK4.out rfl rfl)⟩
    exact Kd.R_lower (R_kept HR4.out hgq (fun r e => by cases e; exact ⟨_, HK4.out, rfl⟩)) (by omega)
  case stop =>
    rintro D c pre W _ _ h _
    exact h.elim
end Go.Proofs.YtgiofinekmaceaaDoor.Q
