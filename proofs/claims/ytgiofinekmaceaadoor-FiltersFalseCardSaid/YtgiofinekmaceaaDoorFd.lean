/- filters: check, bits (the maker), Bits -/
import Derived.Test.YtgiofinekmaceaaDoorFc
import Derived.Shelf.Abstract
import Derived.Great.BuildSlice
namespace Go.Proofs.YtgiofinekmaceaaDoor.Q
open Go.RowKit Go.Shelf Go.Proofs.YtgiofinekmaceaaDoorW.PrintWords Go.Proofs.YtgiofinekmaceaaDoorW.PrintLast Go.Proofs.YtgiofinekmaceaaDoorW.PrintMore
set_option linter.unusedVariables false
set_option linter.unusedSimpArgs false
attribute [local go_sem] Oper.semAt_some
/-- filter and number are valid -/
def okI (l b : Int) (data : List Int) (id : Int) : Bool := okF l b data && decide (0 ≤ id ∧ id < 1024)
def checkE (l b : Int) (data : List Int) (id : Int) : Int := if okI l b data id then 0 else 330
theorem okI_spec {l b : Int} {data : List Int} {id : Int} (h : okI l b data id = true) : okF l b data = true ∧ 0 ≤ id ∧ id ≤ 1023 := by
  obtain ⟨h1, h2⟩ := Bool.and_eq_true_iff.1 h
  have := of_decide_eq_true h2
  exact ⟨h1, this.1, by omega⟩
theorem okF_okB {l b : Int} {data : List Int} (h : okF l b data = true) : okB l b = true := by
  rw [okF, Bool.and_assoc] at h
  exact (Bool.and_eq_true_iff.1 h).1
theorem sizeF (l b : Int) (A : Option Addr) (n c : Nat) : (Tryd.prog.info? 26).map (·.size) = some (fcells l b A n c).size := by kernel_rfl
theorem oneF (l b : Int) (A : Option Addr) (n c : Nat) : (fcells l b A n c).all (·.oneCell') = true := by simp [fcells, Value.oneCell']
theorem filterV_eq (l b : Int) (A : Option Addr) (n c : Nat) : filterV l b A n c = .agg (fcells l b A n c) := rfl
set_option maxHeartbeats 1000000 in
theorem check_calls (l b : Int) (A : Option Addr) (n c : Nat) (data : List Int) (id : Int) (w : World) (hD : Kd.C (Kd.int .u8) w A n data) (hd : ∀ x ∈ data, 0 ≤ x ∧ x ≤ 255) :
    Calls Tryd.prog 27 #[.agg (fcells l b A n c), .int .i64 id] w fun e w' => e = .returned (.int .i64 (checkE l b data id)) ∧ Below w.heap.size w w' := by
  have HN := Aside0.mk (heap_alloc_new w (.cells (fcells l b A n c) 26))
  have HB := Aside0.mk (below_alloc (Below.refl w.heap.size w) (.cells (fcells l b A n c) 26))
  have HC := Aside0.mk (fun W (h : Below w.heap.size w W) => Check_calls l b A n c data W (Kd.C_below hD h) hd)
  have HSF := Aside0.mk (sizeF l b A n c)
  clear hD hd
  obtain ⟨fc, hfc⟩ : ∃ z, z = fcells l b A n c := ⟨_, rfl⟩
  simp only [filterV_eq] at HC
  rw [← hfc] at HC HN HB HSF ⊢
  have H1 : Aside0 (fc.all (·.oneCell') = true) := ⟨by rw [hfc]; exact oneF _ _ _ _ _⟩
  clear hfc
  cases hok : okF l b data with
  | false =>
    have HE : Aside0 (filterE l b data = 330) := ⟨by rw [filterE, hok]; rfl⟩
    have HR : Aside0 (checkE l b data id = 330) := ⟨by rw [checkE, okI, hok]; rfl⟩
    rw [HE.out] at HC
    clear hok
    go_enter Tryd.func27, Tryd.ntmps27
    go_wp2_with (with_reducible refine wpList_load_row rfl 26 (.tmp 2) rfl w.heap.size rfl 26 fc (0, 0) _ HN.out Tryd.underlying26 rfl HSF.out ?_)
    refine (HC.out _ HB.out).mono ?_
    rintro e w1 ⟨rfl, hb1⟩
    have HB1 : Aside0 (Below w.heap.size w w1) := ⟨HB.out.trans (hb1.mono HB.out.size)⟩
    clear hb1
    go_wp2_with fail
    go_ret
    exact ⟨by rw [HR.out]; rfl, HB1.out⟩
  | true =>
    have HE : Aside0 (filterE l b data = 0) := ⟨by rw [filterE, hok]; rfl⟩
    rw [HE.out] at HC
    have HO := Aside0.mk hok
    clear hok
    by_cases h1 : id < 0
    · have HR : Aside0 (checkE l b data id = 330) := ⟨by rw [checkE, okI, decide_eq_false (show ¬ (0 ≤ id ∧ id < 1024) by omega)]; simp⟩
      have c1 := eq_true h1
      clear h1
      go_enter Tryd.func27, Tryd.ntmps27
      go_wp2_with (with_reducible refine wpList_load_row rfl 26 (.tmp 2) rfl w.heap.size rfl 26 fc (0, 0) _ HN.out Tryd.underlying26 rfl HSF.out ?_)
      refine (HC.out _ HB.out).mono ?_
      rintro e w1 ⟨rfl, hb1⟩
      have HB1 : Aside0 (Below w.heap.size w w1) := ⟨HB.out.trans (hb1.mono HB.out.size)⟩
      clear hb1
      go_wp2_with fail
      go_ret
      exact ⟨by rw [HR.out]; rfl, HB1.out⟩
    · by_cases h2 : 1024 ≤ id
      · have HR : Aside0 (checkE l b data id = 330) := ⟨by rw [checkE, okI, decide_eq_false (show ¬ (0 ≤ id ∧ id < 1024) by omega)]; simp⟩
        have c1 := eq_false h1
        have c2 := eq_true h2
        clear h1 h2
        go_enter Tryd.func27, Tryd.ntmps27
        go_wp2_with (with_reducible refine wpList_load_row rfl 26 (.tmp 2) rfl w.heap.size rfl 26 fc (0, 0) _ HN.out Tryd.underlying26 rfl HSF.out ?_)
        refine (HC.out _ HB.out).mono ?_
        rintro e w1 ⟨rfl, hb1⟩
        have HB1 : Aside0 (Below w.heap.size w w1) := ⟨HB.out.trans (hb1.mono HB.out.size)⟩
        clear hb1
        go_wp2_with fail
        go_ret
        exact ⟨by rw [HR.out]; rfl, HB1.out⟩
      · have HR : Aside0 (checkE l b data id = 0) := ⟨by rw [checkE, okI, HO.out, decide_eq_true (show (0 ≤ id ∧ id < 1024) by omega)]; rfl⟩
        have c1 := eq_false h1
        have c2 := eq_false h2
        clear h1 h2
        go_enter Tryd.func27, Tryd.ntmps27
        go_wp2_with (with_reducible refine wpList_load_row rfl 26 (.tmp 2) rfl w.heap.size rfl 26 fc (0, 0) _ HN.out Tryd.underlying26 rfl HSF.out ?_)
        refine (HC.out _ HB.out).mono ?_
        rintro e w1 ⟨rfl, hb1⟩
        have HB1 : Aside0 (Below w.heap.size w w1) := ⟨HB.out.trans (hb1.mono HB.out.size)⟩
        clear hb1
        go_wp2_with fail
        go_ret
        exact ⟨by rw [HR.out]; rfl, HB1.out⟩
theorem bits_calls (s : List Int) (l b : Int) (A : Option Addr) (n c : Nat) (id : Int) (w : World) :
    Calls Tryd.prog 28 #[.agg (cells8 s), .agg (fcells l b A n c), .int .i64 id] w fun e w' => e = .returned (.func (.func 35) #[] #[.pointer (some ⟨w.heap.size, 0, none⟩), .pointer (some ⟨w.heap.size + 1, 0, none⟩), .pointer (some ⟨w.heap.size + 1 + 1, 0, none⟩)]) ∧ w' = ((w.alloc (.cells (cells8 s) 23)).alloc (.cells (fcells l b A n c) 26)).alloc (.cells #[.int .i64 id] 3) := by
  go_enter Tryd.func28, Tryd.ntmps28
  go_wp2_with fail
  go_ret
  exact ⟨rfl, rfl⟩
theorem info3 : (Tryd.prog.info? 3).map (fun i => (i.zero, i.size, i.bytes)) = some (some (.int .i64 0), 1, 8) := by kernel_rfl
theorem results_cell_slice_t {P : Program} {fn : Func} {p u : Tmp} {ty e : TypeId} (h : fn.results = #[.cell p ty, .tmp u]) (tmps : Array Value) (w : World) (g : Nat) (v : Value)
    (hp : tmps.getD p undef = .pointer (some ⟨g, 0, none⟩)) (hc : w.cell? ⟨g, 0, none⟩ = some v) (hu : P.underlying ty = some (.slice e)) :
    (results fn tmps).run P w = .ok (.tuple #[v, tmps.getD u undef]) w := by
  have hp' : tmps[p]?.getD undef = .pointer (some ⟨g, 0, none⟩) := by simpa using hp
  have hagg : (isAgg ty).run P w = .ok false w := by
    unfold isAgg
    rw [Sem.run_bind, run_underlying hu w]
    rfl
  simp [results, h, hp', asAddr, loadVar, Sem.run_bind, hagg]
  go_simp
/-- what the loop over the bits keeps: the collecting variable lies in block bl -/
def collectsI (w : World) (m bl : Nat) (L : List Int) (W : World) : Prop := (∃ v, Boxed W bl 31 v ∧ Kd.R (Kd.int .i64) 3 W m (fun _ => True) v L) ∧ Below w.heap.size w W ∧ m ≤ W.heap.size
theorem collectsI_own {w : World} {m bl : Nat} {f : List (Fin 2) → List Int} (hm : w.heap.size ≤ m) : OwnFrom m (fun pre W => collectsI w m bl (f pre) W) := by
  rintro s W W' row ⟨⟨v, h1, h2⟩, h4, h5⟩ hg hr
  have hr' := fun r e => (hr r e).2
  exact ⟨⟨v, blk_kept h1 hg hr', R_kept h2 hg hr'⟩, h4.grown hg h4.size (fun k e => by have := (hr k e).1; omega), Nat.le_trans h5 hg.size⟩
theorem bits_step {w W W3 : World} {m bl B : Nat} {L L' : List Int} {v v1 : Value} (hw : w.heap.size ≤ bl) (hbl : bl < m) (hBm : B < m) (hB : B ≠ bl)
    (hI : Below w.heap.size w W ∧ m ≤ W.heap.size) (hbox : Boxed W bl 31 v) (hR : Kd.R (Kd.int .i64) 3 W m (fun _ => True) v L) (h3 : Kd.R (Kd.int .i64) 3 W3 m (fun _ => True) v1 L') (hg : W.grownBy W3 v.ownBlock) :
    Boxed W3 bl 31 v ∧ KeepsFrom m W (W3.setCell ⟨bl, 0, none⟩ v1) ∧ KpD w B W (W3.setCell ⟨bl, 0, none⟩ v1) ∧ collectsI w m bl L' (W3.setCell ⟨bl, 0, none⟩ v1) := by
  obtain ⟨hI4, hI5⟩ := hI
  obtain ⟨inner, ho⟩ := Kd.R_own hR
  have hrow : ∀ k, v.ownBlock = some k → m ≤ k := fun k hk => own_base ho k hk
  have hall : ∀ i o, W.heap[i]? = some o → i < m → W3.heap[i]? = some o := fun i o hi hlt => blk_grown hi hg (fun e => by have := hrow i e.symm; omega)
  have hbox3 : Boxed W3 bl 31 v := hall _ _ hbox hbl
  have hgB : Below w.heap.size W W3 := (Below.refl _ _).grown hg hI4.size (fun k e => by have := hrow k e; omega)
  have hBl : Below w.heap.size W (W3.setCell ⟨bl, 0, none⟩ v1) := hgB.setCell (p := ⟨bl, 0, none⟩) hw _
  refine ⟨hbox3, ?_, ⟨⟨hBl, fun o hBo => ?_⟩, fun k cs hk => ?_⟩, ⟨v1, hbox3.set v1, ?_⟩, hI4.trans hBl, ?_⟩
  · refine KeepsOthers.from ((KeepsOthers.of_grownBy hg (fun j o e hj => ?_)).trans (KeepsOthers.setCell _ _ _)) _
    obtain ⟨cells, hc⟩ := own_typed ho j e
    rw [hc] at hj
    cases hj
    rfl
  · by_cases hBW : B < W.heap.size
    · exact (Below.heap_setCell W3 ⟨bl, 0, none⟩ v1 B hB).trans (hall _ _ hBo hBm)
    · omega
  · have hkb : k ≠ bl := fun e => by
      subst e
      have := hk.symm.trans hbox
      cases this
    exact (Below.heap_setCell W3 ⟨bl, 0, none⟩ v1 k hkb).trans (blk_grown hk hg (fun e => by
      obtain ⟨cells, hc⟩ := own_typed ho k e.symm
      rw [hk] at hc
      cases hc))
  · exact Kd.R_set h3 hbox3 (fun q hq => by
      have : q = 3 := by simpa [Kd.int, Kd.scalar] using hq
      rw [this]
      decide) 0 v1
  · exact Nat.le_trans hI5 hBl.size
/-- the bits of a number -/
def bitsD (s : List Int) (l b id : Int) : List Int := [bitD s l b id 0, bitD s l b id 1]
theorem bitsD_map (s : List Int) (l b id : Int) : (List.finRange 2).map (fun x => bitD s l b id x.val) = bitsD s l b id := rfl
set_option maxRecDepth 20000 in
set_option maxHeartbeats 1000000 in
theorem Bits_ok (s : List Int) (hs : s.length = 32) (l b : Int) (A : Option Addr) (n c : Nat) (data : List Int) (id : Int) (w : World) (hD : Kd.C (Kd.int .u8) w A n data) (hd : ∀ x ∈ data, 0 ≤ x ∧ x ≤ 255) (hok : okI l b data id = true) (hT : Tabs w) :
    Calls Tryd.prog 12 #[.agg (cells8 s), .agg (fcells l b A n c), .int .i64 id] w fun e w' => ∃ v, e = .returned (.tuple #[v, .int .i64 0]) ∧ Kd.R (Kd.int .i64) 3 w' w.heap.size (fun _ => True) v (bitsD s l b id) ∧ Below w.heap.size w w' := by
  obtain ⟨hokf, h0i, h1i⟩ := okI_spec hok
  have hokb := okF_okB hokf
  have HS := Aside0.mk hs
  have HT := Aside0.mk hT
  have HSs := Aside0.mk (size32 s hs)
  have HSF := Aside0.mk (sizeF l b A n c)
  have HCK : Aside0 (∀ W : World, Below w.heap.size w W → Calls Tryd.prog 27 #[.agg (fcells l b A n c), .int .i64 id] W fun e w' => e = .returned (.int .i64 0) ∧ Below W.heap.size W w') := ⟨fun W h => by
    have := check_calls l b A n c data id W (Kd.C_below hD h) hd
    rwa [checkE, hok, if_pos rfl] at this⟩
  obtain ⟨wa, hwa⟩ : ∃ x, x = ((w.alloc (.cells (cells8 s) 23)).alloc (.cells (fcells l b A n c) 26)).alloc (.cells #[.slice none 0 0] 31) := ⟨_, rfl⟩
  have HA0 : Aside0 (wa.heap[w.heap.size]? = some (.cells (cells8 s) 23 (0, 0))) := ⟨by rw [hwa]; exact blk_alloc (blk_alloc (heap_alloc_new _ _) _) _⟩
  have HA1 : Aside0 (wa.heap[w.heap.size + 1]? = some (.cells (fcells l b A n c) 26 (0, 0))) := ⟨by rw [hwa]; exact blk_alloc (heap_alloc2_new w (.cells (cells8 s) 23) (.cells (fcells l b A n c) 26)) _⟩
  have HA2 : Aside0 (Boxed wa (w.heap.size + 1 + 1) 31 (.slice none 0 0)) := ⟨by rw [hwa]; have h := Boxed.new ((w.alloc (.cells (cells8 s) 23)).alloc (.cells (fcells l b A n c) 26)) 31 (.slice none 0 0); simp only [World.size_alloc] at h; exact h⟩
  have HBa : Aside0 (Below w.heap.size w wa) := ⟨by rw [hwa]; exact below_alloc (below_alloc (below_alloc (Below.refl _ _) _) _) _⟩
  have hsa : w.heap.size + 3 ≤ wa.heap.size := by rw [hwa]; simp only [World.size_alloc]; omega
  have HWA := Aside0.mk hwa
  have HOKB := Aside0.mk hokb
  obtain ⟨fc, hfc⟩ : ∃ z, z = fcells l b A n c := ⟨_, rfl⟩
  have HFC := Aside0.mk hfc
  rw [← hfc] at HCK HA1 HSF ⊢
  rw [← hfc] at HWA
  clear hs hT hD hd hok hokf hwa hokb hfc
  refine (callsIn_wide (n := 3)).1 ?_
  refine callsIn_of_wp_marks Tryd.func12 rfl trivial ?_ rfl
  simp only [Tryd.ntmps12, List.size_toArray, List.length_cons, List.length_nil, Nat.reduceAdd, Nat.reduceSub, Array.replicate_succ, Array.replicate_zero, List.push_toArray, List.append_toArray, List.nil_append, List.cons_append]
  refine wpIn_wide.2 ?_
  go_wp2_with (first
    | (rw [← HWA.out]; (with_reducible refine wpList_load_row rfl 26 (.tmp 4) rfl (w.heap.size + 1) rfl 26 fc (0, 0) _ HA1.out Tryd.underlying26 rfl HSF.out ?_)))
  refine (HCK.out wa HBa.out).mono ?_
  rintro e w1 ⟨rfl, hb1⟩
  have HB1 : Aside0 (Below w.heap.size w w1) := ⟨HBa.out.trans (hb1.mono HBa.out.size)⟩
  have H10 := Aside0.mk (blk_of_below HA0.out hb1)
  have H11 := Aside0.mk (blk_of_below HA1.out hb1)
  have H12 : Aside0 (Boxed w1 (w.heap.size + 1 + 1) 31 (.slice none 0 0)) := ⟨blk_of_below HA2.out hb1⟩
  have hs1 : w.heap.size + 3 ≤ w1.heap.size := Nat.le_trans hsa hb1.size
  have HBC := Aside0.mk (bits_calls s l b A n c id w1)
  rw [← HFC.out] at HBC
  clear hb1 HA0 HA1 HA2 HBa HWA HCK hsa
  go_wp2_with (first
    | (with_reducible refine wpList_load_row rfl 26 (.tmp 4) rfl (w.heap.size + 1) rfl 26 fc (0, 0) _ H11.out Tryd.underlying26 rfl HSF.out ?_)
    | (with_reducible refine wpList_load_row rfl 23 (.tmp 3) rfl w.heap.size rfl 23 (cells8 s) (0, 0) _ H10.out Tryd.underlying23 rfl HSs.out ?_))
  refine HBC.out.mono ?_
  rintro e w5 ⟨rfl, hw5⟩
  have HB5 : Aside0 (Below w.heap.size w w5) := ⟨by rw [hw5]; exact below_alloc (below_alloc (below_alloc HB1.out _) _) _⟩
  have H52 : Aside0 (Boxed w5 (w.heap.size + 1 + 1) 31 (.slice none 0 0)) := ⟨by rw [hw5]; exact blk_alloc (blk_alloc (blk_alloc H12.out _) _) _⟩
  have G0 : Aside0 (w5.heap[w1.heap.size]? = some (.cells (cells8 s) 23 (0, 0))) := ⟨by rw [hw5]; exact blk_alloc (blk_alloc (heap_alloc_new _ _) _) _⟩
  have G1 : Aside0 (w5.heap[w1.heap.size + 1]? = some (.cells (fcells l b A n c) 26 (0, 0))) := ⟨by rw [hw5, ← HFC.out]; exact blk_alloc (heap_alloc2_new w1 (.cells (cells8 s) 23) (.cells fc 26)) _⟩
  have G2 : Aside0 (w5.heap[w1.heap.size + 1 + 1]? = some (.cells #[.int .i64 id] 3 (0, 0))) := ⟨by rw [hw5]; have h := heap_alloc_new ((w1.alloc (.cells (cells8 s) 23)).alloc (.cells (fcells l b A n c) 26)) (.cells #[.int .i64 id] 3); rw [← HFC.out] at h; simp only [World.size_alloc] at h; exact h⟩
  have hs5 : w1.heap.size + 3 ≤ w5.heap.size := by rw [hw5]; simp only [World.size_alloc]; omega
  obtain ⟨kb, hkb⟩ : ∃ kb, kb = w1.heap.size := ⟨_, rfl⟩
  obtain ⟨bl, hbl⟩ : ∃ bl, bl = w.heap.size + 1 + 1 := ⟨_, rfl⟩
  rw [← hkb] at G0 G1 G2 hs5 hs1 ⊢
  rw [← hbl] at H52 ⊢
  have hl1 : w.heap.size ≤ bl := by omega
  have hl2 : bl < kb := by omega
  clear hw5 hkb hbl HBC H10 H11 H12 HB1 hs1
  go_wp2_with fail
  refine (wpIn_wide (n := 9)).1 ?_
  refine wpIn_rangeFunc_ownH (α := Fin 2) rfl (by omega) (gf := 35) (lb := #[.pointer (some ⟨kb, 0, none⟩), .pointer (some ⟨kb + 1, 0, none⟩), .pointer (some ⟨kb + 1 + 1, 0, none⟩)]) rfl trivial (enters_of Tryd.func35 (by kernel_rfl) rfl)
    (bits_stops 8 kb (kb + 1) (kb + 1 + 1) s HS.out l b id HOKB.out h0i h1i A n c w w5 HT.out HB5.out G0.out G1.out G2.out) KpD_t (KpD_b (by omega) (by omega)) (Below.refl _ _) (fun _ => rfl)
    (fun pre W => collectsI w w5.heap.size bl (pre.map (fun x : Fin 2 => bitD s l b id x.val)) W) (fun _ _ _ => False) (collectsI_own (by omega)) (fun _ _ _ _ _ hs _ _ => hs)
    ⟨⟨_, H52.out, Kd.R_nil _ _ _ _ _⟩, HB5.out, Nat.le_refl _⟩
    (fun x a' W => a' = { tmps := #[.agg (cells8 s), .agg fc, .int .i64 id, (.pointer (some ⟨w.heap.size, 0, none⟩)), (.pointer (some ⟨w.heap.size + 1, 0, none⟩)), undef, .pointer (some ⟨bl, 0, none⟩), .int .i64 0, .int .i64 0, .int .i64 (bitD s l b id x.val), .agg fc, .int .i64 id, .int .i64 0, .int .i64 0, .bool false, undef, .agg (cells8 s), .agg fc, .int .i64 id, .func (.func 35) #[] #[.pointer (some ⟨kb, 0, none⟩), .pointer (some ⟨kb + 1, 0, none⟩), .pointer (some ⟨kb + 1 + 1, 0, none⟩)], .int .i64 (bitD s l b id x.val), undef, undef, undef, undef, undef], defers := [] })
    (fun x a' _ X Y row hs hg hr => hs)
    ?assign ?body ?done ?stop
  case assign =>
    rintro l' pre x W K hI hK
    refine region_in (l₀ := l') (by decide) (fun ⟨_, _, h⟩ => h) ?_
    go_wp2_with fail
    exact hK _ _ ((keeps_below (Below.refl _ _)).from _) (KpD_of hI.2.1.size (Below.refl _ _)) hI rfl
  case body =>
    rintro l' pre x a' W hl ⟨r, hr⟩ ⟨⟨v, hbox, hR⟩, hI⟩ rfl hlt
    have hbc := hbox.cell
    obtain ⟨y, hy⟩ : ∃ y, y = bitD s l b id x.val := ⟨_, rfl⟩
    obtain ⟨X, hX⟩ : ∃ X, X = pre.map (fun x : Fin 2 => bitD s l b id x.val) := ⟨_, rfl⟩
    have hf : Aside0 ((pre ++ [x]).map (fun x : Fin 2 => bitD s l b id x.val) = X ++ [y]) := ⟨by rw [hX, hy, List.map_append]; rfl⟩
    have hXl : X.length < 2 := by rw [hX, List.length_map]; exact hlt
    rw [← hX] at hR
    rw [← hy]
    clear hX hy
    refine wpIn_block ?_
    refine region_in (l₀ := l') (by decide) (fun ⟨_, _, h⟩ => h) ?_
    go_wp2_with (at_builtin; refine Kd.R_append (Kd.int .i64) (w0 := W) (W := W) w5.heap.size rfl (.tmp 21) (.tmp 23) 31 3 (.int .i64 0) 8 rfl Tryd.underlying31 info3 rfl (by decide) (by decide) v X y [.int .i64 y] (fun _ => True) (fun _ => False) rfl rfl rfl (fun _ h => h.elim) (fun _ _ => trivial) hR (Below.refl _ _) hI.2 (by omega) ?_; intro v1 w3 h3 hb3 hg3 _; obtain ⟨hbx, hfin⟩ := bits_step (w := w) (B := kb + 1) hl1 (by omega) (by omega) (by omega) hI hbox hR h3 hg3; obtain ⟨A1, c1, n1, rfl, -, -⟩ := R_any h3; have hc3 := hbx.cell; have hf3 := hbx.frozen)
    exact ⟨hfin.1, hfin.2.1, by show collectsI w w5.heap.size bl ((pre ++ [x]).map (fun x : Fin 2 => bitD s l b id x.val)) _; rw [hf.out]; exact hfin.2.2⟩
  case done =>
    rintro D zs W hD rfl ⟨⟨v, hbox, hR⟩, hB, hm⟩ hK
    rw [bitsD_map] at hR
    obtain ⟨A1, c1, rfl⟩ := Kd.R_slice hR
    have e2 : (bitsD s l b id).length = 2 := rfl
    rw [e2] at hbox hR
    have hbc := hbox.cell
    have hbf := hbox.frozen
    have HBX := Aside0.mk hbox
    have HR := Aside0.mk hR
    have HB2 := Aside0.mk hB
    have HK := Aside0.mk hK
    clear hB hR hbox hK e2
    go_wp2_with fail
    have HBX4 := Aside0.mk (HBX.out.set (.slice A1 2 c1))
    have HR4 := Aside0.mk (Kd.R_set HR.out HBX.out (by decide) 0 (.slice A1 2 c1))
    have HK4 := Aside0.mk ((KeepsOthers.setCell W ⟨bl, 0, none⟩ (.slice A1 2 c1)).same D _ HK.out rfl)
    have HB4 : Aside0 (Below w.heap.size w (W.setCell ⟨bl, 0, none⟩ (.slice A1 2 c1))) := ⟨HB2.out.setCell (p := ⟨bl, 0, none⟩) hl1 _⟩
    have hDw : w.heap.size ≤ D := by omega
    refine ⟨by simp, .inl ⟨_, _, rfl, run_takeDeferred HK4.out, ?_⟩⟩
    have hgb := grownBy_putObj' (W.setCell ⟨bl, 0, none⟩ (.slice A1 2 c1)) D (.deferred none)
    refine ⟨_, results_cell_slice_t rfl _ _ bl _ rfl (Boxed.cell (blk_grown HBX4.out hgb (fun e => by cases e; omega))) Tryd.underlying31, .slice A1 2 c1, rfl, ?_, HB4.out.trans (belowK_b (w := w) (Nat.le_refl _) _ D _ _ hDw HK4.out rfl rfl)⟩
    exact Kd.R_lower (R_kept HR4.out hgb (fun r e => by cases e; exact ⟨_, HK4.out, rfl⟩)) (by omega)
  case stop =>
    rintro D c pre W _ _ h _
    exact h.elim
end Go.Proofs.YtgiofinekmaceaaDoor.Q
