/- filters: Bits refused; Has -/
import Derived.Test.YtgiofinekmaceaaDoorFd
namespace Go.Proofs.YtgiofinekmaceaaDoor.Q
open Go.RowKit Go.Shelf Go.Proofs.YtgiofinekmaceaaDoorW.PrintWords Go.Proofs.YtgiofinekmaceaaDoorW.PrintLast Go.Proofs.YtgiofinekmaceaaDoorW.PrintMore
set_option linter.unusedVariables false
set_option linter.unusedSimpArgs false
attribute [local go_sem] Oper.semAt_some
set_option maxRecDepth 20000 in
set_option maxHeartbeats 1000000 in
theorem Bits_bad (s : List Int) (hs : s.length = 32) (l b : Int) (A : Option Addr) (n c : Nat) (data : List Int) (id : Int) (w : World) (hD : Kd.C (Kd.int .u8) w A n data) (hd : ∀ x ∈ data, 0 ≤ x ∧ x ≤ 255) (hok : okI l b data id = false) :
    Calls Tryd.prog 12 #[.agg (cells8 s), .agg (fcells l b A n c), .int .i64 id] w fun e w' => e = .returned (.tuple #[.slice none 0 0, .int .i64 330]) ∧ Below w.heap.size w w' := by
  have HS := Aside0.mk hs
  have HSF := Aside0.mk (sizeF l b A n c)
  have HCK : Aside0 (∀ W : World, Below w.heap.size w W → Calls Tryd.prog 27 #[.agg (fcells l b A n c), .int .i64 id] W fun e w' => e = .returned (.int .i64 330) ∧ Below W.heap.size W w') := ⟨fun W h => by
    have := check_calls l b A n c data id W (Kd.C_below hD h) hd
    rwa [checkE, hok, if_neg (by simp)] at this⟩
  obtain ⟨wa, hwa⟩ : ∃ x, x = ((w.alloc (.cells (cells8 s) 23)).alloc (.cells (fcells l b A n c) 26)).alloc (.cells #[.slice none 0 0] 31) := ⟨_, rfl⟩
  have HA1 : Aside0 (wa.heap[w.heap.size + 1]? = some (.cells (fcells l b A n c) 26 (0, 0))) := ⟨by rw [hwa]; exact blk_alloc (heap_alloc2_new w (.cells (cells8 s) 23) (.cells (fcells l b A n c) 26)) _⟩
  have HA2 : Aside0 (Boxed wa (w.heap.size + 1 + 1) 31 (.slice none 0 0)) := ⟨by rw [hwa]; have h := Boxed.new ((w.alloc (.cells (cells8 s) 23)).alloc (.cells (fcells l b A n c) 26)) 31 (.slice none 0 0); simp only [World.size_alloc] at h; exact h⟩
  have HBa : Aside0 (Below w.heap.size w wa) := ⟨by rw [hwa]; exact below_alloc (below_alloc (below_alloc (Below.refl _ _) _) _) _⟩
  have HWA := Aside0.mk hwa
  obtain ⟨fc, hfc⟩ : ∃ z, z = fcells l b A n c := ⟨_, rfl⟩
  rw [← hfc] at HCK HA1 HSF ⊢
  rw [← hfc] at HWA
  clear hs hD hd hok hwa hfc
  go_enter Tryd.func12, Tryd.ntmps12
  go_wp2_with (first
    | (rw [← HWA.out]; (with_reducible refine wpList_load_row rfl 26 (.tmp 4) rfl (w.heap.size + 1) rfl 26 fc (0, 0) _ HA1.out Tryd.underlying26 rfl HSF.out ?_)))
  refine (HCK.out wa HBa.out).mono ?_
  rintro e w1 ⟨rfl, hb1⟩
  have HB1 : Aside0 (Below w.heap.size w w1) := ⟨HBa.out.trans (hb1.mono HBa.out.size)⟩
  have H12 : Aside0 (Boxed w1 (w.heap.size + 1 + 1) 31 (.slice none 0 0)) := ⟨blk_of_below HA2.out hb1⟩
  have hc := H12.out.cell
  have hf := H12.out.frozen
  clear hb1 HA1 HA2 HBa HWA HCK
  go_wp2_with fail
  refine bodyPost_ret (results_cell_slice_t rfl _ _ (w.heap.size + 1 + 1) _ rfl (H12.out.set _).cell Tryd.underlying31) rfl ⟨rfl, HB1.out.setCell (p := ⟨w.heap.size + 1 + 1, 0, none⟩) (by show w.heap.size ≤ w.heap.size + 1 + 1; omega) _⟩
theorem results_two {P : Program} {fn : Func} {p q : Tmp} {ty ty' : TypeId} {k : IntKind} (h : fn.results = #[.cell p ty, .cell q ty']) (tmps : Array Value) (w : World) (g g' : Nat) (v u : Value)
    (hp : tmps.getD p undef = .pointer (some ⟨g, 0, none⟩)) (hq : tmps.getD q undef = .pointer (some ⟨g', 0, none⟩)) (hc : w.cell? ⟨g, 0, none⟩ = some v) (hc' : w.cell? ⟨g', 0, none⟩ = some u) (hu : P.underlying ty = some .bool) (hu' : P.underlying ty' = some (.int k)) :
    (results fn tmps).run P w = .ok (.tuple #[v, u]) w := by
  have hp' : tmps[p]?.getD undef = .pointer (some ⟨g, 0, none⟩) := by simpa using hp
  have hq' : tmps[q]?.getD undef = .pointer (some ⟨g', 0, none⟩) := by simpa using hq
  have hagg : (isAgg ty).run P w = .ok false w := by
    unfold isAgg
    rw [Sem.run_bind, run_underlying hu w]
    rfl
  have hagg' : (isAgg ty').run P w = .ok false w := by
    unfold isAgg
    rw [Sem.run_bind, run_underlying hu' w]
    rfl
  simp [results, h, hp', hq', asAddr, loadVar, Sem.run_bind, hagg, hagg']
  go_simp
/-- bit k of data -/
def bitAt (data : List Int) (k : Int) : Bool := !(bits BinOp.and IntKind.u8 (rd data (k / 8) / 2 ^ (k % 8).toNat) 1 == 0)
def hasD (s : List Int) (l b id : Int) (data : List Int) : Bool := bitAt data (bitD s l b id 0) && bitAt data (bitD s l b id 1)
theorem hasD_false {s : List Int} {l b id : Int} {data : List Int} (x : Fin 2) (h : bitAt data (bitD s l b id x.val) = false) : hasD s l b id data = false := by
  have hx : x.val = 0 ∨ x.val = 1 := by omega
  unfold hasD
  rcases hx with e | e <;> rw [e] at h <;> rw [h] <;> simp
def keepsH (w : World) (m b1 b2 b3 : Nat) (fc : Array Value) (W : World) : Prop := W.heap[b1]? = some (.cells fc 26 (0, 0)) ∧ Boxed W b2 4 (.bool false) ∧ Boxed W b3 28 (.int .i64 0) ∧ Below w.heap.size w W ∧ m ≤ W.heap.size
theorem keepsH_own {α : Type} {w : World} {m b1 b2 b3 : Nat} {fc : Array Value} {P : List α → Prop} (hm : w.heap.size ≤ m) : OwnFrom m (fun pre W => P pre ∧ keepsH w m b1 b2 b3 fc W) := by
  rintro s W W' row ⟨hp, h1, h2, h3, h4, h5⟩ hg hr
  have hr' := fun r e => (hr r e).2
  exact ⟨hp, blk_kept h1 hg hr', blk_kept h2 hg hr', blk_kept h3 hg hr', h4.grown hg h4.size (fun k e => by have := (hr k e).1; omega), Nat.le_trans h5 hg.size⟩
theorem bitD_range (s : List Int) (l b id : Int) (k : Nat) (hb : 0 < b) : 0 ≤ bitD s l b id k ∧ bitD s l b id k < b := ⟨Int.emod_nonneg _ (by omega), Int.emod_lt_of_pos _ hb⟩
set_option maxRecDepth 20000 in
set_option maxHeartbeats 1000000 in
theorem Has_ok (s : List Int) (hs : s.length = 32) (l b : Int) (A : Option Addr) (n c : Nat) (data : List Int) (id : Int) (w : World) (hD : Kd.C (Kd.int .u8) w A n data) (hd : ∀ x ∈ data, 0 ≤ x ∧ x ≤ 255) (hok : okI l b data id = true) (hT : Tabs w) :
    Calls Tryd.prog 20 #[.agg (cells8 s), .agg (fcells l b A n c), .int .i64 id] w fun e w' => e = .returned (.tuple #[.bool (hasD s l b id data), .int .i64 0]) ∧ Below w.heap.size w w' := by
  obtain ⟨hokf, h0i, h1i⟩ := okI_spec hok
  have hokb := okF_okB hokf
  obtain ⟨l0, l1, b0, b1⟩ := okB_spec hokb
  have hlen : (n : Int) = (b + 7) / 8 := by
    have h := hokf
    rw [okF, Kd.C_len hD] at h
    simp only [Bool.and_eq_true, beq_iff_eq] at h
    exact h.1.2
  have HS := Aside0.mk hs
  have HT := Aside0.mk hT
  have HDt := Aside0.mk hD
  have HLEN := Aside0.mk hlen
  have HSs := Aside0.mk (size32 s hs)
  have HSF := Aside0.mk (sizeF l b A n c)
  have HCK : Aside0 (∀ W : World, Below w.heap.size w W → Calls Tryd.prog 27 #[.agg (fcells l b A n c), .int .i64 id] W fun e w' => e = .returned (.int .i64 0) ∧ Below W.heap.size W w') := ⟨fun W h => by
    have := check_calls l b A n c data id W (Kd.C_below hD h) hd
    rwa [checkE, hok, if_pos rfl] at this⟩
  obtain ⟨wa, hwa⟩ : ∃ x, x = (((w.alloc (.cells (cells8 s) 23)).alloc (.cells (fcells l b A n c) 26)).alloc (.cells #[.bool false] 4)).alloc (.cells #[.int .i64 0] 28) := ⟨_, rfl⟩
  have HA0 : Aside0 (wa.heap[w.heap.size]? = some (.cells (cells8 s) 23 (0, 0))) := ⟨by rw [hwa]; exact blk_alloc (blk_alloc (blk_alloc (heap_alloc_new _ _) _) _) _⟩
  have HA1 : Aside0 (wa.heap[w.heap.size + 1]? = some (.cells (fcells l b A n c) 26 (0, 0))) := ⟨by rw [hwa]; exact blk_alloc (blk_alloc (heap_alloc2_new w (.cells (cells8 s) 23) (.cells (fcells l b A n c) 26)) _) _⟩
  have HA2 : Aside0 (Boxed wa (w.heap.size + 1 + 1) 4 (.bool false)) := ⟨by rw [hwa]; have h := Boxed.new ((w.alloc (.cells (cells8 s) 23)).alloc (.cells (fcells l b A n c) 26)) 4 (.bool false); simp only [World.size_alloc] at h; exact blk_alloc h _⟩
  have HA3 : Aside0 (Boxed wa (w.heap.size + 1 + 1 + 1) 28 (.int .i64 0)) := ⟨by rw [hwa]; have h := Boxed.new (((w.alloc (.cells (cells8 s) 23)).alloc (.cells (fcells l b A n c) 26)).alloc (.cells #[.bool false] 4)) 28 (.int .i64 0); simp only [World.size_alloc] at h; exact h⟩
  have HBa : Aside0 (Below w.heap.size w wa) := ⟨by rw [hwa]; exact below_alloc (below_alloc (below_alloc (below_alloc (Below.refl _ _) _) _) _) _⟩
  have hsa : w.heap.size + 4 ≤ wa.heap.size := by rw [hwa]; simp only [World.size_alloc]; omega
  have HWA := Aside0.mk hwa
  have HOKB := Aside0.mk hokb
  obtain ⟨fc, hfc⟩ : ∃ z, z = fcells l b A n c := ⟨_, rfl⟩
  have HFC := Aside0.mk hfc
  rw [← hfc] at HCK HA1 HSF ⊢
  rw [← hfc] at HWA
  clear hs hT hD hd hok hokf hwa hokb hfc hlen
  refine (callsIn_wide (n := 3)).1 ?_
  refine callsIn_of_wp_marks Tryd.func20 rfl trivial ?_ rfl
  simp only [Tryd.ntmps20, List.size_toArray, List.length_cons, List.length_nil, Nat.reduceAdd, Nat.reduceSub, Array.replicate_succ, Array.replicate_zero, List.push_toArray, List.append_toArray, List.nil_append, List.cons_append]
  refine wpIn_wide.2 ?_
  go_wp2_with (first
    | (rw [← HWA.out]; (with_reducible refine wpList_load_row rfl 26 (.tmp 4) rfl (w.heap.size + 1) rfl 26 fc (0, 0) _ HA1.out Tryd.underlying26 rfl HSF.out ?_)))
  refine (HCK.out wa HBa.out).mono ?_
  rintro e w1 ⟨rfl, hb1⟩
  have HB1 : Aside0 (Below w.heap.size w w1) := ⟨HBa.out.trans (hb1.mono HBa.out.size)⟩
  have H10 := Aside0.mk (blk_of_below HA0.out hb1)
  have H11 := Aside0.mk (blk_of_below HA1.out hb1)
  have H12 : Aside0 (Boxed w1 (w.heap.size + 1 + 1) 4 (.bool false)) := ⟨blk_of_below HA2.out hb1⟩
  have H13 : Aside0 (Boxed w1 (w.heap.size + 1 + 1 + 1) 28 (.int .i64 0)) := ⟨blk_of_below HA3.out hb1⟩
  have hs1 : w.heap.size + 4 ≤ w1.heap.size := Nat.le_trans hsa hb1.size
  have HBC := Aside0.mk (bits_calls s l b A n c id w1)
  rw [← HFC.out] at HBC
  clear hb1 HA0 HA1 HA2 HA3 HBa HWA HCK hsa
  go_wp2_with (first
    | (with_reducible refine wpList_load_row rfl 26 (.tmp 4) rfl (w.heap.size + 1) rfl 26 fc (0, 0) _ H11.out Tryd.underlying26 rfl HSF.out ?_)
    | (with_reducible refine wpList_load_row rfl 23 (.tmp 3) rfl w.heap.size rfl 23 (cells8 s) (0, 0) _ H10.out Tryd.underlying23 rfl HSs.out ?_))
  refine HBC.out.mono ?_
  rintro e w5 ⟨rfl, hw5⟩
  have HB5 : Aside0 (Below w.heap.size w w5) := ⟨by rw [hw5]; exact below_alloc (below_alloc (below_alloc HB1.out _) _) _⟩
  have H51 : Aside0 (w5.heap[w.heap.size + 1]? = some (.cells fc 26 (0, 0))) := ⟨by rw [hw5]; exact blk_alloc (blk_alloc (blk_alloc H11.out _) _) _⟩
  have H52 : Aside0 (Boxed w5 (w.heap.size + 1 + 1) 4 (.bool false)) := ⟨by rw [hw5]; exact blk_alloc (blk_alloc (blk_alloc H12.out _) _) _⟩
  have H53 : Aside0 (Boxed w5 (w.heap.size + 1 + 1 + 1) 28 (.int .i64 0)) := ⟨by rw [hw5]; exact blk_alloc (blk_alloc (blk_alloc H13.out _) _) _⟩
  have G0 : Aside0 (w5.heap[w1.heap.size]? = some (.cells (cells8 s) 23 (0, 0))) := ⟨by rw [hw5]; exact blk_alloc (blk_alloc (heap_alloc_new _ _) _) _⟩
  have G1 : Aside0 (w5.heap[w1.heap.size + 1]? = some (.cells (fcells l b A n c) 26 (0, 0))) := ⟨by rw [hw5, ← HFC.out]; exact blk_alloc (heap_alloc2_new w1 (.cells (cells8 s) 23) (.cells fc 26)) _⟩
  have G2 : Aside0 (w5.heap[w1.heap.size + 1 + 1]? = some (.cells #[.int .i64 id] 3 (0, 0))) := ⟨by rw [hw5]; have h := heap_alloc_new ((w1.alloc (.cells (cells8 s) 23)).alloc (.cells (fcells l b A n c) 26)) (.cells #[.int .i64 id] 3); rw [← HFC.out] at h; simp only [World.size_alloc] at h; exact h⟩
  have hs5 : w1.heap.size + 3 ≤ w5.heap.size := by rw [hw5]; simp only [World.size_alloc]; omega
  obtain ⟨kb, hkb⟩ : ∃ kb, kb = w1.heap.size := ⟨_, rfl⟩
  obtain ⟨bl, hbl⟩ : ∃ bl, bl = w.heap.size := ⟨_, rfl⟩
  rw [← hkb] at G0 G1 G2 hs5 hs1 ⊢
  rw [← hbl] at H51 H52 H53 hs1 ⊢
  have hl1 : w.heap.size ≤ bl := by omega
  have hl2 : bl + 4 ≤ kb := by omega
  clear hw5 hkb hbl HBC H10 H11 H12 H13 HB1 hs1
  go_wp2_with fail
  refine (wpIn_wide (n := 9)).1 ?_
  refine wpIn_rangeFunc_ownH (α := Fin 2) rfl (by omega) (gf := 35) (lb := #[.pointer (some ⟨kb, 0, none⟩), .pointer (some ⟨kb + 1, 0, none⟩), .pointer (some ⟨kb + 1 + 1, 0, none⟩)]) rfl trivial (enters_of Tryd.func35 (by kernel_rfl) rfl)
    (bits_stops 8 kb (kb + 1) (kb + 1 + 1) s HS.out l b id HOKB.out h0i h1i A n c w w5 HT.out HB5.out G0.out G1.out G2.out) KpD_t (KpD_b (by omega) (by omega)) (Below.refl _ _) (fun _ => rfl)
    (fun pre W => (pre.all (fun x : Fin 2 => bitAt data (bitD s l b id x.val)) = true) ∧ keepsH w w5.heap.size (bl + 1) (bl + 1 + 1) (bl + 1 + 1 + 1) fc W) (fun c _ W => (c = Code.ret ∧ hasD s l b id data = false) ∧ keepsH w w5.heap.size (bl + 1) (bl + 1 + 1) (bl + 1 + 1 + 1) fc W) (keepsH_own (by omega)) (fun _ => keepsH_own (by omega))
    ⟨rfl, H51.out, H52.out, H53.out, HB5.out, Nat.le_refl _⟩
    (fun x a' W => a' = { tmps := #[.agg (cells8 s), .agg fc, .int .i64 id, .pointer (some ⟨bl, 0, none⟩), .pointer (some ⟨bl + 1, 0, none⟩), undef, .pointer (some ⟨bl + 1 + 1, 0, none⟩), .pointer (some ⟨bl + 1 + 1 + 1, 0, none⟩), .int .i64 0, .int .i64 (bitD s l b id x.val), .agg fc, .int .i64 id, .int .i64 0, .int .i64 0, .bool false, undef, .agg (cells8 s), .agg fc, .int .i64 id, .func (.func 35) #[] #[.pointer (some ⟨kb, 0, none⟩), .pointer (some ⟨kb + 1, 0, none⟩), .pointer (some ⟨kb + 1 + 1, 0, none⟩)], .int .i64 (bitD s l b id x.val), undef, undef, undef, undef, undef, undef, undef, undef, undef, undef, undef], defers := [] })
    (fun x a' _ X Y row hs hg hr => hs)
    ?assign ?body ?done ?stop
  case assign =>
    rintro l' pre x W K hI hK
    refine region_in (l₀ := l') (by decide) (fun ⟨_, _, h⟩ => h) ?_
    go_wp2_with fail
    exact hK _ _ ((keeps_below (Below.refl _ _)).from _) (KpD_of hI.2.2.2.2.1.size (Below.refl _ _)) hI rfl
  case body =>
    rintro l' pre x a' W hl ⟨r, hr⟩ ⟨hall, hI⟩ rfl hlt
    have f2 : W.cell? ⟨bl + 1, 2, none⟩ = some (.slice A n c) := (blk_cell hI.1 2).trans (by rw [HFC.out]; rfl)
    have hrg := bitD_range s l b id x.val (by omega)
    obtain ⟨y, hy⟩ : ∃ y, y = bitD s l b id x.val := ⟨_, rfl⟩
    rw [← hy] at hrg ⊢
    have HYY := Aside0.mk hy
    have hyn : y / 8 < n := by have := HLEN.out; omega
    have hn600 : n ≤ 600 := by have := HLEN.out; omega
    obtain ⟨ad, rfl, hcell⟩ := Kd.at_int (Kd.C_below HDt.out hI.2.2.2.1) (y / 8) (by omega) hyn
    have hb2 := hI.2.1.cell
    have hb2f := hI.2.1.frozen
    have hb3 := hI.2.2.1.cell
    have hb3f := hI.2.2.1.frozen
    have HI := Aside0.mk hI
    have HALL := Aside0.mk hall
    clear hy hI hall
    refine wpIn_block ?_
    refine wpIn_seq ?_
    refine region_in (l₀ := l') (by decide) (fun ⟨_, _, h⟩ => h) ?_
    go_wp2_with fail
    have hbt : bitAt data y = !(bits BinOp.and IntKind.u8 (rd data (y / 8) / 2 ^ (y % 8).toNat) 1 == 0) := rfl
    cases ht : (bits BinOp.and IntKind.u8 (rd data (y / 8) / 2 ^ (y % 8).toNat) 1 == 0) with
    | true =>
      rw [ht] at hbt
      have HF : Aside0 (hasD s l b id data = false) := ⟨hasD_false x (by rw [← HYY.out]; exact hbt)⟩
      clear hbt ht
      gi_wp2
      obtain ⟨k1, k2, k3, k4, k5⟩ := HI.out
      refine ⟨((KeepsOthers.setCell _ _ _).trans (KeepsOthers.setCell _ _ _)).from _, ⟨rfl, HF.out⟩, blk_far (blk_far k1 (p := ⟨bl + 1 + 1, 0, none⟩) (by show bl + 1 ≠ bl + 1 + 1; omega) _) (p := ⟨bl + 1 + 1 + 1, 0, none⟩) (by show bl + 1 ≠ bl + 1 + 1 + 1; omega) _, blk_far (k2.set _) (p := ⟨bl + 1 + 1 + 1, 0, none⟩) (by show bl + 1 + 1 ≠ bl + 1 + 1 + 1; omega) _, ?_, ?_, ?_⟩
      · have hz : Boxed (W.setCell ⟨bl + 1 + 1, 0, none⟩ (.bool false)) (bl + 1 + 1 + 1) 28 (.int .i64 0) := blk_far k3 (p := ⟨bl + 1 + 1, 0, none⟩) (by show bl + 1 + 1 + 1 ≠ bl + 1 + 1; omega) _
        exact hz.set _
      · exact (k4.setCell (p := ⟨bl + 1 + 1, 0, none⟩) (by show w.heap.size ≤ bl + 1 + 1; omega) _).setCell (p := ⟨bl + 1 + 1 + 1, 0, none⟩) (by show w.heap.size ≤ bl + 1 + 1 + 1; omega) _
      · simpa using k5
    | false =>
      rw [ht] at hbt
      have HA : Aside0 (((pre ++ [x]).all (fun x : Fin 2 => bitAt data (bitD s l b id x.val))) = true) := ⟨by
        rw [List.all_append, HALL.out]
        simp only [List.all_cons, List.all_nil, Bool.and_true, Bool.true_and]
        rw [← HYY.out]
        exact hbt⟩
      clear hbt ht
      gi_wp2
      exact ⟨(keeps_below (Below.refl _ _)).from _, KpD_of HI.out.2.2.2.1.size (Below.refl _ _), HA.out, HI.out⟩
  case done =>
    rintro D zs W hD rfl ⟨hall, hI⟩ hK
    have hb2 := hI.2.1.cell
    have hb2f := hI.2.1.frozen
    have hb3 := hI.2.2.1.cell
    have hb3f := hI.2.2.1.frozen
    have HH : Aside0 (hasD s l b id data = true) := ⟨by have h := hall; simpa [hasD, List.finRange] using h⟩
    have HI := Aside0.mk hI
    have HK := Aside0.mk hK
    clear hI hK hall
    go_wp2_with fail
    obtain ⟨k1, k2, k3, k4, k5⟩ := HI.out
    have hx2 : Boxed ((W.setCell ⟨bl + 1 + 1, 0, none⟩ (.bool true)).setCell ⟨bl + 1 + 1 + 1, 0, none⟩ (.int .i64 0)) (bl + 1 + 1) 4 (.bool true) := blk_far (k2.set _) (p := ⟨bl + 1 + 1 + 1, 0, none⟩) (by show bl + 1 + 1 ≠ bl + 1 + 1 + 1; omega) _
    have hx3 : Boxed ((W.setCell ⟨bl + 1 + 1, 0, none⟩ (.bool true)).setCell ⟨bl + 1 + 1 + 1, 0, none⟩ (.int .i64 0)) (bl + 1 + 1 + 1) 28 (.int .i64 0) := by
      have hz : Boxed (W.setCell ⟨bl + 1 + 1, 0, none⟩ (.bool true)) (bl + 1 + 1 + 1) 28 (.int .i64 0) := blk_far k3 (p := ⟨bl + 1 + 1, 0, none⟩) (by show bl + 1 + 1 + 1 ≠ bl + 1 + 1; omega) _
      exact hz.set _
    have HX2 := Aside0.mk hx2
    have HX3 := Aside0.mk hx3
    have HK4 := Aside0.mk ((KeepsOthers.setCell (W.setCell ⟨bl + 1 + 1, 0, none⟩ (.bool true)) ⟨bl + 1 + 1 + 1, 0, none⟩ (.int .i64 0)).same D _ ((KeepsOthers.setCell W ⟨bl + 1 + 1, 0, none⟩ (.bool true)).same D _ HK.out rfl) rfl)
    have HB4 : Aside0 (Below w.heap.size w ((W.setCell ⟨bl + 1 + 1, 0, none⟩ (.bool true)).setCell ⟨bl + 1 + 1 + 1, 0, none⟩ (.int .i64 0))) := ⟨(k4.setCell (p := ⟨bl + 1 + 1, 0, none⟩) (by show w.heap.size ≤ bl + 1 + 1; omega) _).setCell (p := ⟨bl + 1 + 1 + 1, 0, none⟩) (by show w.heap.size ≤ bl + 1 + 1 + 1; omega) _⟩
    have hDw : w.heap.size ≤ D := by omega
    refine ⟨by simp, .inl ⟨_, _, rfl, run_takeDeferred HK4.out, ?_⟩⟩
    have hgb := grownBy_putObj' ((W.setCell ⟨bl + 1 + 1, 0, none⟩ (.bool true)).setCell ⟨bl + 1 + 1 + 1, 0, none⟩ (.int .i64 0)) D (.deferred none)
    refine ⟨_, results_two rfl _ _ (bl + 1 + 1) (bl + 1 + 1 + 1) _ _ rfl rfl (Boxed.cell (blk_grown HX2.out hgb (fun e => by cases e; omega))) (Boxed.cell (blk_grown HX3.out hgb (fun e => by cases e; omega))) Tryd.underlying4 Tryd.underlying28, by rw [HH.out], HB4.out.trans (belowK_b (w := w) (Nat.le_refl _) _ D _ _ hDw HK4.out rfl rfl)⟩
  case stop =>
    rintro D c pre W hD hp ⟨⟨rfl, hf⟩, hI⟩ hK
    have HH := Aside0.mk hf
    have HI := Aside0.mk hI
    have HK := Aside0.mk hK
    clear hI hK hf
    refine wpIn_wide.2 ?_
    go_wp2_with fail
    obtain ⟨k1, k2, k3, k4, k5⟩ := HI.out
    have hDw : w.heap.size ≤ D := by omega
    refine ⟨by simp, .inl ⟨_, _, rfl, run_takeDeferred HK.out, ?_⟩⟩
    have hgb := grownBy_putObj' W D (.deferred none)
    refine ⟨_, results_two rfl _ _ (bl + 1 + 1) (bl + 1 + 1 + 1) _ _ rfl rfl (Boxed.cell (blk_grown k2 hgb (fun e => by cases e; omega))) (Boxed.cell (blk_grown k3 hgb (fun e => by cases e; omega))) Tryd.underlying4 Tryd.underlying28, by rw [HH.out], k4.trans (belowK_b (w := w) (Nat.le_refl _) _ D _ _ hDw HK.out rfl rfl)⟩
end Go.Proofs.YtgiofinekmaceaaDoor.Q
