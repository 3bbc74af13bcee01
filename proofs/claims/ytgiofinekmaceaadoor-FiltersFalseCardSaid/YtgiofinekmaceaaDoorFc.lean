/- filters: the iterator over the bits of a number -/
import Derived.Test.YtgiofinekmaceaaDoorFb
import Derived.Test.YtgiofinekmaceaaDoorFt
namespace Go.Proofs.YtgiofinekmaceaaDoor.Q
open Go.RowKit Go.Proofs.YtgiofinekmaceaaDoorW.PrintWords Go.Proofs.YtgiofinekmaceaaDoorW.PrintLast Go.Proofs.YtgiofinekmaceaaDoorW.PrintMore
set_option linter.unusedVariables false
set_option linter.unusedSimpArgs false
attribute [local go_sem] Oper.semAt_some
def tagFilter : ByteArray := { data := #[102, 105, 108, 116, 101, 114] }
/-- the digest of a number in a filter -/
def filterD (s : List Int) (lv id : Int) : List Int := tagged (bytesOf tagFilter) (s ++ [lv] ++ be4 id)
theorem filterD_length (s : List Int) (lv id : Int) : (filterD s lv id).length = 32 := tagged_length _ _
theorem filterD_bytes (s : List Int) (lv id : Int) : Bytes (filterD s lv id) := tagged_bytes _ _
/-- bit k of a number in a filter -/
def bitD (s : List Int) (lv bt id : Int) (k : Nat) : Int := num4 (rd (filterD s lv id) ((4 * k : Nat) : Int)) (rd (filterD s lv id) ((4 * k + 1 : Nat) : Int)) (rd (filterD s lv id) ((4 * k + 2 : Nat) : Int)) (rd (filterD s lv id) ((4 * k + 3 : Nat) : Int)) % bt
theorem take_fin2 {k : Nat} (h : k < 2) : (List.finRange 2).take k ++ [⟨k, h⟩] = (List.finRange 2).take (k + 1) := by
  rw [List.take_add_one, List.getElem?_eq_getElem (by simpa using h)]
  simp
/-- what a round of a loop over the bits keeps: whatever lay below w0, block B, and every digest -/
def KpD (w0 : World) (B : Nat) (W W' : World) : Prop := KpF w0 B W W' ∧ ∀ (k : Nat) (cs : Array Value), W.heap[k]? = some (Obj.cells cs 23 (0, 0)) → W'.heap[k]? = some (Obj.cells cs 23 (0, 0))
theorem KpD_t {w0 : World} {B : Nat} {X Y Z : World} (h : KpD w0 B X Y) (k : KpD w0 B Y Z) : KpD w0 B X Z := ⟨KpF_t h.1 k.1, fun i cs hi => k.2 i cs (h.2 i cs hi)⟩
theorem KpD_b {w0 w : World} {B : Nat} (hn : w0.heap.size ≤ w.heap.size) (hB : B < w.heap.size) (W : World) (l : Nat) (o o' : Obj) (hl : w.heap.size ≤ l) (h : W.heap[l]? = some o) (hc : o.isCells = false) (hw : o.isWalk = false) : KpD w0 B W (W.putObj l o') :=
  ⟨KpF_b hn hB W l o o' hl h hc hw, fun k cs hk => ((grownBy_putObj' W l o').block k (blk_lt hk) (fun e => by
    cases e
    rw [h] at hk
    cases hk
    cases hc)).trans hk⟩
theorem KpD_of {w0 W W' : World} {B : Nat} (hn : w0.heap.size ≤ W.heap.size) (h : Below W.heap.size W W') : KpD w0 B W W' := ⟨KpF_of hn h, fun k cs hk => (h.block k (blk_lt hk)).trans hk⟩
theorem wide_none : Fence.wide = WF none := rfl
def fcells (lv bt : Int) (A : Option Addr) (m c : Nat) : Array Value := #[.int .i64 lv, .int .i64 bt, .slice A m c]
set_option maxHeartbeats 1000000 in
set_option maxRecDepth 100000 in
theorem bits_stops (n B0 B1 B2 : Nat) (s : List Int) (hs : s.length = 32) (lv bt id : Int) (hv : okB lv bt = true) (h0i : 0 ≤ id) (h1i : id ≤ 1023) (A : Option Addr) (m c : Nat) (w0 w : World) (hT : Tabs w0) (h00 : Below w0.heap.size w0 w)
    (hB0 : w.heap[B0]? = some (.cells (cells8 s) 23 (0, 0))) (hB1 : w.heap[B1]? = some (.cells (fcells lv bt A m c) 26 (0, 0))) (hB2 : w.heap[B2]? = some (.cells #[.int .i64 id] 3 (0, 0))) :
    SeqStopsK Fence.wide n Tryd.prog 35 #[.pointer (some ⟨B0, 0, none⟩), .pointer (some ⟨B1, 0, none⟩), .pointer (some ⟨B2, 0, none⟩)] (fun x : Fin 2 => #[Value.int .i64 (bitD s lv bt id x.val)]) (KpD w0 B1) (fun ys => ys = List.finRange 2) (fun pre => pre <+: List.finRange 2) 2 w := by
  intro l J Jx W hW hJ hJx hY h0
  have HB0 := Aside0.mk (blk_of_below hB0 hW)
  have HB1 := Aside0.mk (blk_of_below hB1 hW)
  have HB2 := Aside0.mk (blk_of_below hB2 hW)
  have H0 : Aside0 (Below w0.heap.size w0 W) := ⟨h00.trans (hW.mono h00.size)⟩
  have HT := Aside0.mk hT
  have HJ := Aside0.mk hJ
  have HY := Aside0.mk hY
  have HS := Aside0.mk hs
  have HSs := Aside0.mk (size32 s hs)
  obtain ⟨l0, l1, b0, b1⟩ := okB_spec hv
  have f0 : W.cell? ⟨B1, 0, none⟩ = some (.int .i64 lv) := blk_cell HB1.out 0
  have g0 : W.cell? ⟨B2, 0, none⟩ = some (.int .i64 id) := blk_cell HB2.out 0
  clear hB0 hB1 hB2 hT hJ hJx hY hs h00 hv
  refine callsIn_of_wp Tryd.func35 rfl trivial ?_ rfl
  simp only [Tryd.ntmps35, List.size_toArray, List.length_cons, List.length_nil, Nat.reduceAdd, Nat.reduceSub, Array.replicate_succ, Array.replicate_zero, List.push_toArray, List.append_toArray, List.nil_append, List.cons_append]
  rw [wide_none]
  refine wpIn_seq ?_
  refine region_WF (ro := none) (by decide) (fun ⟨_, _, h⟩ => by obtain ⟨⟨_, h⟩, _⟩ := h; cases h) ?_
  go_wp2_with (with_reducible refine wpList_load_row rfl 23 (.tmp 1) rfl B0 rfl 23 (cells8 s) (0, 0) _ HB0.out Tryd.underlying23 rfl HSs.out ?_)
  have hbl0 : Below W.heap.size W (W.alloc (.cells (partsV s lv id) 20)) := below_alloc (Below.refl _ _) _
  refine (collect_calls s HS.out lv id h0i h1i W.heap.size 3 _ (heap_alloc_new _ _)).mono ?_
  rintro e W1 ⟨v, rfl, hR, hb1⟩
  obtain ⟨A1, c1, n1, rfl, hC1, hc1⟩ := R_any hR
  have hn1 : n1 = 37 := by rw [← Kd.C_len hC1]; simp [be4, HS.out]
  have HBW1 : Aside0 (Below W.heap.size W W1) := ⟨hbl0.trans (hb1.mono hbl0.size)⟩
  have HB01 : Aside0 (Below w0.heap.size w0 W1) := ⟨H0.out.trans (HBW1.out.mono H0.out.size)⟩
  have HC1 := Aside0.mk hC1
  have HCC : Aside0 (n1 ≤ c1 ∧ n1 ≤ 100) := ⟨hc1, by omega⟩
  clear hbl0 hb1 hR hC1 hc1 hn1
  go_wp2_with fail
  refine (Tagged_any tagFilter A1 n1 c1 _ W1 (by decide) HC1.out HCC.out.1 (by have := HCC.out.2; omega) (HT.out.below HB01.out)).mono ?_
  rintro e W2 ⟨rfl, hb2⟩
  have hdd : tagged (bytesOf tagFilter) (s ++ [lv] ++ be4 id) = filterD s lv id := rfl
  rw [hdd]
  have hdl := filterD_length s lv id
  obtain ⟨d, hd⟩ : ∃ d, d = filterD s lv id := ⟨_, rfl⟩
  rw [← hd] at hdl ⊢
  have HDD := Aside0.mk hd
  have HDL := Aside0.mk hdl
  have HDB : Aside0 (Bytes d) := ⟨by rw [hd]; exact filterD_bytes _ _ _⟩
  have HSd := Aside0.mk (size32 d hdl)
  have HOd : Aside0 ((#[.int .u8 0, .int .u8 0, .int .u8 0, .int .u8 0, .int .u8 0, .int .u8 0, .int .u8 0, .int .u8 0, .int .u8 0, .int .u8 0, .int .u8 0, .int .u8 0, .int .u8 0, .int .u8 0, .int .u8 0, .int .u8 0, .int .u8 0, .int .u8 0, .int .u8 0, .int .u8 0, .int .u8 0, .int .u8 0, .int .u8 0, .int .u8 0, .int .u8 0, .int .u8 0, .int .u8 0, .int .u8 0, .int .u8 0, .int .u8 0, .int .u8 0, .int .u8 0] : Array Value).size = (cells8 d).size) := ⟨by rw [cells8_size, hdl]; rfl⟩
  have HBW2 : Aside0 (Below W.heap.size W W2) := ⟨HBW1.out.trans (hb2.mono HBW1.out.size)⟩
  have HN := Aside0.mk (heap_alloc_new W2 (.cells #[.int .u8 0, .int .u8 0, .int .u8 0, .int .u8 0, .int .u8 0, .int .u8 0, .int .u8 0, .int .u8 0, .int .u8 0, .int .u8 0, .int .u8 0, .int .u8 0, .int .u8 0, .int .u8 0, .int .u8 0, .int .u8 0, .int .u8 0, .int .u8 0, .int .u8 0, .int .u8 0, .int .u8 0, .int .u8 0, .int .u8 0, .int .u8 0, .int .u8 0, .int .u8 0, .int .u8 0, .int .u8 0, .int .u8 0, .int .u8 0, .int .u8 0, .int .u8 0] 23))
  clear hd hdl hdd hb2 HC1 HCC HB01
  go_wp2_with (with_reducible refine wpList_store_row rfl 23 (.tmp 5) (.tmp 18) rfl W2.heap.size (cells8 d) rfl rfl 23 #[.int .u8 0, .int .u8 0, .int .u8 0, .int .u8 0, .int .u8 0, .int .u8 0, .int .u8 0, .int .u8 0, .int .u8 0, .int .u8 0, .int .u8 0, .int .u8 0, .int .u8 0, .int .u8 0, .int .u8 0, .int .u8 0, .int .u8 0, .int .u8 0, .int .u8 0, .int .u8 0, .int .u8 0, .int .u8 0, .int .u8 0, .int .u8 0, .int .u8 0, .int .u8 0, .int .u8 0, .int .u8 0, .int .u8 0, .int .u8 0, .int .u8 0, .int .u8 0] HN.out HSd.out HOd.out (all_one8 _) ?_)
  obtain ⟨W3, hW3⟩ : ∃ z, z = (W2.alloc (.cells #[.int .u8 0, .int .u8 0, .int .u8 0, .int .u8 0, .int .u8 0, .int .u8 0, .int .u8 0, .int .u8 0, .int .u8 0, .int .u8 0, .int .u8 0, .int .u8 0, .int .u8 0, .int .u8 0, .int .u8 0, .int .u8 0, .int .u8 0, .int .u8 0, .int .u8 0, .int .u8 0, .int .u8 0, .int .u8 0, .int .u8 0, .int .u8 0, .int .u8 0, .int .u8 0, .int .u8 0, .int .u8 0, .int .u8 0, .int .u8 0, .int .u8 0, .int .u8 0] 23)).setRow W2.heap.size (cells8 d) := ⟨_, rfl⟩
  obtain ⟨Bd, hBd⟩ : ∃ z, z = W2.heap.size := ⟨_, rfl⟩
  have HX3 : Aside0 (W3.heap[Bd]? = some (.cells (cells8 d) 23 (0, 0))) := ⟨by rw [hW3, hBd]; exact setRow_heap _ _ _ _ _ _ HN.out⟩
  have HBW3 : Aside0 (Below W.heap.size W W3) := ⟨by rw [hW3]; exact below_setRow (below_alloc HBW2.out _) HBW2.out.size _⟩
  have HJ3 : Aside0 (J [] W3) := ⟨HJ.out _ W W3 none h0 (grown_of_below HBW3.out none) (fun r e => by cases e)⟩
  have HB3 : Aside0 (Below w0.heap.size w0 W3) := ⟨H0.out.trans (HBW3.out.mono H0.out.size)⟩
  have HF3 := Aside0.mk (blk_of_below HB1.out HBW3.out)
  rw [← hW3]
  rw [← hBd]
  clear hW3 hBd HN HOd HBW1 HBW2 HBW3 f0 g0 h0
  rw [← wide_none]
  gi_wp2
  gi_loopw [6] (fun i wr => ∃ k : Nat, k ≤ 2 ∧ i = .int .i64 (4 * (k : Int)) ∧ Aside0 (J ((List.finRange 2).take k) wr) ∧ Aside0 (Below w0.heap.size w0 wr) ∧ Aside0 (wr.heap[Bd]? = some (.cells (cells8 d) 23 (0, 0))) ∧ Aside0 (wr.heap[B1]? = some (.cells (fcells lv bt A m c) 26 (0, 0)))) (fun i _ => 8 - (intOf i).toNat)
  case atStart => exact ⟨0, by omega, rfl, HJ3, HB3, HX3, HF3⟩
  case round =>
    obtain ⟨k, hk, rfl, HJk, HBk, HX, HF⟩ := hrel
    by_cases hlt : k < 2
    · have hk01 : k = 0 ∨ k = 1 := by omega
      rcases hk01 with rfl | rfl
      · obtain ⟨y0, hy0⟩ : ∃ y, y = rd d 0 := ⟨_, rfl⟩
        obtain ⟨y1, hy1⟩ : ∃ y, y = rd d 1 := ⟨_, rfl⟩
        obtain ⟨y2, hy2⟩ : ∃ y, y = rd d 2 := ⟨_, rfl⟩
        obtain ⟨y3, hy3⟩ : ∃ y, y = rd d 3 := ⟨_, rfl⟩
        have r0 : 0 ≤ y0 ∧ y0 ≤ 255 := by rw [hy0]; exact HDB.out.rd _
        have r1 : 0 ≤ y1 ∧ y1 ≤ 255 := by rw [hy1]; exact HDB.out.rd _
        have r2 : 0 ≤ y2 ∧ y2 ≤ 255 := by rw [hy2]; exact HDB.out.rd _
        have r3 : 0 ≤ y3 ∧ y3 ≤ 255 := by rw [hy3]; exact HDB.out.rd _
        have HBD : Aside0 (bitD s lv bt id 0 = num4 y0 y1 y2 y3 % bt) := ⟨by rw [bitD, ← HDD.out, hy0, hy1, hy2, hy3]; rfl⟩
        have HY0 := Aside0.mk hy0
        have HY1 := Aside0.mk hy1
        have HY2 := Aside0.mk hy2
        have HY3 := Aside0.mk hy3
        clear hy0 hy1 hy2 hy3
        have hw1 : wrap64 1 = 1 := by unfold wrap64; omega
        have hw2 : wrap64 2 = 2 := by unfold wrap64; omega
        have hw3 : wrap64 3 = 3 := by unfold wrap64; omega
        rw [show 4 * ((0 : Nat) : Int) = 0 from rfl]
        gi_wp2
        rw [wide_none]
        refine start_WF (ro := none) (n := n) (m := 26) (S := fun W => W.heap[Bd]? = some (.cells (cells8 d) 23 (0, 0))) (ds := []) #[false, false, false, false, false, false, false, false, false, false, false, false, false, false, false, false, false, false, false, false, false, false, false, false, false, false] (by kernel_rfl) (fun ⟨_, _, h⟩ => by obtain ⟨⟨_, h⟩, _⟩ := h; cases h) (by kernel_rfl) rfl rfl HX.out (fun hHeld => ?_)
        refine pure_ (i := 0) (N := some 23) (v := ?_) (a' := ?_) #[true, false, false, false, false, false, false, false, false, false, false, false, false, false, false, false, false, false, false, false, false, false, false, false, false, false] rfl rfl (by kernel_rfl) (fun _ _ _ h => h) (Or.inl ⟨by rfl, ?_⟩) ?_ ?_
        rotate_left
        · intro w'
          go_simp
          with_reducible rfl
        rotate_left
        · simp only [Act.put, List.setIfInBounds_toArray, List.set_cons_zero, List.set_cons_succ, i64_w, i32_w]
          rfl
        refine pure_ (i := 1) (N := some 24) (v := ?_) (a' := ?_) #[true, true, false, false, false, false, false, false, false, false, false, false, false, false, false, false, false, false, false, false, false, false, false, false, false, false] rfl rfl (by kernel_rfl) (fun _ _ _ h => h) (Or.inl ⟨by rfl, ?_⟩) ?_ ?_
        rotate_left
        · intro w'
          go_simp
          with_reducible rfl
        rotate_left
        · simp only [Act.put, List.setIfInBounds_toArray, List.set_cons_zero, List.set_cons_succ, i64_w, i32_w]
          rfl
        refine take_ (i := 2) (N := some 25) (v := .int .u8 y0) (a' := ?_) #[true, true, true, false, false, false, false, false, false, false, false, false, false, false, false, false, false, false, false, false, false, false, false, false, false, false] rfl rfl (by kernel_rfl) (fun _ _ _ h => h) (Or.inl ⟨by rfl, fun w' s0 => ?_⟩) hHeld ?_ ?_
        · have hc : w'.cell? ⟨Bd, 0, none⟩ = some (.int .u8 y0) := by rw [HY0.out]; exact blk8 s0 0 (by rw [HDL.out]; omega)
          go_simp
        rotate_left
        · simp only [Act.put, List.setIfInBounds_toArray, List.set_cons_zero, List.set_cons_succ, i64_w, i32_w]
          rfl
        refine pure_ (i := 3) (N := some 26) (v := ?_) (a' := ?_) #[true, true, true, true, false, false, false, false, false, false, false, false, false, false, false, false, false, false, false, false, false, false, false, false, false, false] rfl rfl (by kernel_rfl) (fun _ _ _ h => h) (Or.inl ⟨by rfl, ?_⟩) ?_ ?_
        rotate_left
        · intro w'
          go_simp
          with_reducible rfl
        rotate_left
        · simp only [Act.put, List.setIfInBounds_toArray, List.set_cons_zero, List.set_cons_succ, i64_w, i32_w]
          rfl
        refine pure_ (i := 4) (N := some 27) (v := ?_) (a' := ?_) #[true, true, true, true, true, false, false, false, false, false, false, false, false, false, false, false, false, false, false, false, false, false, false, false, false, false] rfl rfl (by kernel_rfl) (fun _ _ _ h => h) (Or.inl ⟨by rfl, ?_⟩) ?_ ?_
        rotate_left
        · intro w'
          go_simp
          with_reducible rfl
        rotate_left
        · simp only [Act.put, List.setIfInBounds_toArray, List.set_cons_zero, List.set_cons_succ, i64_w, i32_w]
          rfl
        refine pure_ (i := 5) (N := some 28) (v := ?_) (a' := ?_) #[true, true, true, true, true, true, false, false, false, false, false, false, false, false, false, false, false, false, false, false, false, false, false, false, false, false] rfl rfl (by kernel_rfl) (fun _ _ _ h => h) (Or.inl ⟨by rfl, ?_⟩) ?_ ?_
        rotate_left
        · intro w'
          go_simp
          with_reducible rfl
        rotate_left
        · simp only [Act.put, List.setIfInBounds_toArray, List.set_cons_zero, List.set_cons_succ, i64_w, i32_w]
          rfl
        refine pure_ (i := 6) (N := some 29) (v := ?_) (a' := ?_) #[true, true, true, true, true, true, true, false, false, false, false, false, false, false, false, false, false, false, false, false, false, false, false, false, false, false] rfl rfl (by kernel_rfl) (fun _ _ _ h => h) (Or.inl ⟨by rfl, ?_⟩) ?_ ?_
        rotate_left
        · intro w'
          go_simp
          with_reducible rfl
        rotate_left
        · simp only [Act.put, List.setIfInBounds_toArray, List.set_cons_zero, List.set_cons_succ, i64_w, i32_w]
          rfl
        refine pure_ (i := 7) (N := some 30) (v := ?_) (a' := ?_) #[true, true, true, true, true, true, true, true, false, false, false, false, false, false, false, false, false, false, false, false, false, false, false, false, false, false] rfl rfl (by kernel_rfl) (fun _ _ _ h => h) (Or.inl ⟨by rfl, ?_⟩) ?_ ?_
        rotate_left
        · intro w'
          go_simp
          with_reducible rfl
        rotate_left
        · simp only [Act.put, List.setIfInBounds_toArray, List.set_cons_zero, List.set_cons_succ, i64_w, i32_w]
          rfl
        refine take_ (i := 8) (N := some 31) (v := .int .u8 y1) (a' := ?_) #[true, true, true, true, true, true, true, true, true, false, false, false, false, false, false, false, false, false, false, false, false, false, false, false, false, false] rfl rfl (by kernel_rfl) (fun _ _ _ h => h) (Or.inl ⟨by rfl, fun w' s0 => ?_⟩) hHeld ?_ ?_
        · have hc : w'.cell? ⟨Bd, 1, none⟩ = some (.int .u8 y1) := by rw [HY1.out]; exact blk8 s0 1 (by rw [HDL.out]; omega)
          go_simp
        rotate_left
        · simp only [Act.put, List.setIfInBounds_toArray, List.set_cons_zero, List.set_cons_succ, i64_w, i32_w]
          rfl
        refine pure_ (i := 9) (N := some 32) (v := ?_) (a' := ?_) #[true, true, true, true, true, true, true, true, true, true, false, false, false, false, false, false, false, false, false, false, false, false, false, false, false, false] rfl rfl (by kernel_rfl) (fun _ _ _ h => h) (Or.inl ⟨by rfl, ?_⟩) ?_ ?_
        rotate_left
        · intro w'
          go_simp
          with_reducible rfl
        rotate_left
        · simp only [Act.put, List.setIfInBounds_toArray, List.set_cons_zero, List.set_cons_succ, i64_w, i32_w]
          rfl
        refine pure_ (i := 10) (N := some 33) (v := ?_) (a' := ?_) #[true, true, true, true, true, true, true, true, true, true, true, false, false, false, false, false, false, false, false, false, false, false, false, false, false, false] rfl rfl (by kernel_rfl) (fun _ _ _ h => h) (Or.inl ⟨by rfl, ?_⟩) ?_ ?_
        rotate_left
        · intro w'
          go_simp
          with_reducible rfl
        rotate_left
        · simp only [Act.put, List.setIfInBounds_toArray, List.set_cons_zero, List.set_cons_succ, i64_w, i32_w]
          rfl
        refine pure_ (i := 11) (N := some 34) (v := ?_) (a' := ?_) #[true, true, true, true, true, true, true, true, true, true, true, true, false, false, false, false, false, false, false, false, false, false, false, false, false, false] rfl rfl (by kernel_rfl) (fun _ _ _ h => h) (Or.inl ⟨by rfl, ?_⟩) ?_ ?_
        rotate_left
        · intro w'
          go_simp
          with_reducible rfl
        rotate_left
        · simp only [Act.put, List.setIfInBounds_toArray, List.set_cons_zero, List.set_cons_succ, i64_w, i32_w]
          rfl
        refine pure_ (i := 12) (N := some 35) (v := ?_) (a' := ?_) #[true, true, true, true, true, true, true, true, true, true, true, true, true, false, false, false, false, false, false, false, false, false, false, false, false, false] rfl rfl (by kernel_rfl) (fun _ _ _ h => h) (Or.inl ⟨by rfl, ?_⟩) ?_ ?_
        rotate_left
        · intro w'
          go_simp
          with_reducible rfl
        rotate_left
        · simp only [Act.put, List.setIfInBounds_toArray, List.set_cons_zero, List.set_cons_succ, i64_w, i32_w]
          rfl
        refine pure_ (i := 13) (N := some 36) (v := ?_) (a' := ?_) #[true, true, true, true, true, true, true, true, true, true, true, true, true, true, false, false, false, false, false, false, false, false, false, false, false, false] rfl rfl (by kernel_rfl) (fun _ _ _ h => h) (Or.inl ⟨by rfl, ?_⟩) ?_ ?_
        rotate_left
        · intro w'
          go_simp
          with_reducible rfl
        rotate_left
        · simp only [Act.put, List.setIfInBounds_toArray, List.set_cons_zero, List.set_cons_succ, i64_w, i32_w]
          rfl
        refine pure_ (i := 14) (N := some 37) (v := ?_) (a' := ?_) #[true, true, true, true, true, true, true, true, true, true, true, true, true, true, true, false, false, false, false, false, false, false, false, false, false, false] rfl rfl (by kernel_rfl) (fun _ _ _ h => h) (Or.inl ⟨by rfl, ?_⟩) ?_ ?_
        rotate_left
        · intro w'
          go_simp
          with_reducible rfl
        rotate_left
        · simp only [Act.put, List.setIfInBounds_toArray, List.set_cons_zero, List.set_cons_succ, i64_w, i32_w]
          rfl
        refine take_ (i := 15) (N := some 38) (v := .int .u8 y2) (a' := ?_) #[true, true, true, true, true, true, true, true, true, true, true, true, true, true, true, true, false, false, false, false, false, false, false, false, false, false] rfl rfl (by kernel_rfl) (fun _ _ _ h => h) (Or.inl ⟨by rfl, fun w' s0 => ?_⟩) hHeld ?_ ?_
        · have hc : w'.cell? ⟨Bd, 2, none⟩ = some (.int .u8 y2) := by rw [HY2.out]; exact blk8 s0 2 (by rw [HDL.out]; omega)
          go_simp
        rotate_left
        · simp only [Act.put, List.setIfInBounds_toArray, List.set_cons_zero, List.set_cons_succ, i64_w, i32_w]
          rfl
        refine pure_ (i := 16) (N := some 39) (v := ?_) (a' := ?_) #[true, true, true, true, true, true, true, true, true, true, true, true, true, true, true, true, true, false, false, false, false, false, false, false, false, false] rfl rfl (by kernel_rfl) (fun _ _ _ h => h) (Or.inl ⟨by rfl, ?_⟩) ?_ ?_
        rotate_left
        · intro w'
          go_simp
          with_reducible rfl
        rotate_left
        · simp only [Act.put, List.setIfInBounds_toArray, List.set_cons_zero, List.set_cons_succ, i64_w, i32_w]
          rfl
        refine pure_ (i := 17) (N := some 40) (v := ?_) (a' := ?_) #[true, true, true, true, true, true, true, true, true, true, true, true, true, true, true, true, true, true, false, false, false, false, false, false, false, false] rfl rfl (by kernel_rfl) (fun _ _ _ h => h) (Or.inl ⟨by rfl, ?_⟩) ?_ ?_
        rotate_left
        · intro w'
          go_simp
          with_reducible rfl
        rotate_left
        · simp only [Act.put, List.setIfInBounds_toArray, List.set_cons_zero, List.set_cons_succ, i64_w, i32_w]
          rfl
        refine pure_ (i := 18) (N := some 41) (v := ?_) (a' := ?_) #[true, true, true, true, true, true, true, true, true, true, true, true, true, true, true, true, true, true, true, false, false, false, false, false, false, false] rfl rfl (by kernel_rfl) (fun _ _ _ h => h) (Or.inl ⟨by rfl, ?_⟩) ?_ ?_
        rotate_left
        · intro w'
          go_simp
          with_reducible rfl
        rotate_left
        · simp only [Act.put, List.setIfInBounds_toArray, List.set_cons_zero, List.set_cons_succ, i64_w, i32_w]
          rfl
        refine pure_ (i := 19) (N := some 42) (v := ?_) (a' := ?_) #[true, true, true, true, true, true, true, true, true, true, true, true, true, true, true, true, true, true, true, true, false, false, false, false, false, false] rfl rfl (by kernel_rfl) (fun _ _ _ h => h) (Or.inl ⟨by rfl, ?_⟩) ?_ ?_
        rotate_left
        · intro w'
          go_simp
          with_reducible rfl
        rotate_left
        · simp only [Act.put, List.setIfInBounds_toArray, List.set_cons_zero, List.set_cons_succ, i64_w, i32_w]
          rfl
        refine pure_ (i := 20) (N := some 43) (v := ?_) (a' := ?_) #[true, true, true, true, true, true, true, true, true, true, true, true, true, true, true, true, true, true, true, true, true, false, false, false, false, false] rfl rfl (by kernel_rfl) (fun _ _ _ h => h) (Or.inl ⟨by rfl, ?_⟩) ?_ ?_
        rotate_left
        · intro w'
          go_simp
          with_reducible rfl
        rotate_left
        · simp only [Act.put, List.setIfInBounds_toArray, List.set_cons_zero, List.set_cons_succ, i64_w, i32_w]
          rfl
        refine pure_ (i := 21) (N := some 44) (v := ?_) (a' := ?_) #[true, true, true, true, true, true, true, true, true, true, true, true, true, true, true, true, true, true, true, true, true, true, false, false, false, false] rfl rfl (by kernel_rfl) (fun _ _ _ h => h) (Or.inl ⟨by rfl, ?_⟩) ?_ ?_
        rotate_left
        · intro w'
          go_simp
          with_reducible rfl
        rotate_left
        · simp only [Act.put, List.setIfInBounds_toArray, List.set_cons_zero, List.set_cons_succ, i64_w, i32_w]
          rfl
        refine take_ (i := 22) (N := some 45) (v := .int .u8 y3) (a' := ?_) #[true, true, true, true, true, true, true, true, true, true, true, true, true, true, true, true, true, true, true, true, true, true, true, false, false, false] rfl rfl (by kernel_rfl) (fun _ _ _ h => h) (Or.inl ⟨by rfl, fun w' s0 => ?_⟩) hHeld ?_ ?_
        · have hc : w'.cell? ⟨Bd, 3, none⟩ = some (.int .u8 y3) := by rw [HY3.out]; exact blk8 s0 3 (by rw [HDL.out]; omega)
          go_simp
        rotate_left
        · simp only [Act.put, List.setIfInBounds_toArray, List.set_cons_zero, List.set_cons_succ, i64_w, i32_w]
          rfl
        refine pure_ (i := 23) (N := some 46) (v := ?_) (a' := ?_) #[true, true, true, true, true, true, true, true, true, true, true, true, true, true, true, true, true, true, true, true, true, true, true, true, false, false] rfl rfl (by kernel_rfl) (fun _ _ _ h => h) (Or.inl ⟨by rfl, ?_⟩) ?_ ?_
        rotate_left
        · intro w'
          go_simp
          with_reducible rfl
        rotate_left
        · simp only [Act.put, List.setIfInBounds_toArray, List.set_cons_zero, List.set_cons_succ, i64_w, i32_w]
          rfl
        refine pure_ (i := 24) (N := some 47) (v := ?_) (a' := ?_) #[true, true, true, true, true, true, true, true, true, true, true, true, true, true, true, true, true, true, true, true, true, true, true, true, true, false] rfl rfl (by kernel_rfl) (fun _ _ _ h => h) (Or.inl ⟨by rfl, ?_⟩) ?_ ?_
        rotate_left
        · intro w'
          go_simp
          with_reducible rfl
        rotate_left
        · simp only [Act.put, List.setIfInBounds_toArray, List.set_cons_zero, List.set_cons_succ, i64_w, i32_w]
          rfl
        refine pure_ (i := 25) (N := some 7) (v := ?_) (a' := ?_) #[true, true, true, true, true, true, true, true, true, true, true, true, true, true, true, true, true, true, true, true, true, true, true, true, true, true] rfl rfl (by kernel_rfl) (fun _ _ _ h => h) (Or.inl ⟨by rfl, ?_⟩) ?_ ?_
        rotate_left
        · intro w'
          go_simp
          with_reducible rfl
        rotate_left
        · simp only [Act.put, List.setIfInBounds_toArray, List.set_cons_zero, List.set_cons_succ, i64_w, i32_w]
          rfl
        refine done_ (by kernel_rfl) ?_
        have hno := num4_orw y0 y1 y2 y3 r0 r1 r2 r3
        have hnr := num4_range y0 y1 y2 y3 r0 r1 r2 r3
        rw [hno]
        obtain ⟨N, hN⟩ : ∃ z, z = num4 y0 y1 y2 y3 := ⟨_, rfl⟩
        rw [← hN] at hnr HBD ⊢
        have HJk2 : Aside0 (J ((List.finRange 2).take 0) wr.drew) := ⟨HJ.out _ wr wr.drew none HJk.out (grown_of_below (below_drew (Below.refl _ _)) none) (fun r e => by cases e)⟩
        have HBk2 := Aside0.mk (below_drew HBk.out)
        have f1 : wr.drew.cell? ⟨B1, 1, none⟩ = some (.int .i64 bt) := blk_cell HF.out 1
        have hr1 : 0 ≤ N % bt := Int.emod_nonneg _ (by omega)
        clear hno hN hHeld hw1 hw2 hw3
        obtain ⟨fn, tmps, assign, body, hy, hR⟩ := HY.out ((List.finRange 2).take 0) ⟨0, by omega⟩ wr.drew HJk2.out (by simp)
        dsimp only at hy
        rw [HBD.out] at hy
        gi_wp2
        refine ⟨(fun h => nomatch h), hR.mono ?_⟩
        rintro e W4 (⟨rfl, hJ4, hk4⟩ | ⟨rfl, hJx4⟩)
        · have HB4 : Aside0 (Below w0.heap.size w0 W4) := ⟨HBk2.out.trans hk4.1.1⟩
          have HX4 : Aside0 (W4.heap[Bd]? = some (.cells (cells8 d) 23 (0, 0))) := ⟨hk4.2 _ _ HX.out⟩
          have HF4 : Aside0 (W4.heap[B1]? = some (.cells (fcells lv bt A m c) 26 (0, 0))) := ⟨hk4.1.2 _ HF.out⟩
          rw [take_fin2] at hJ4
          have HJ4 := Aside0.mk hJ4
          clear hJ4 hk4
          gi_wp2
          exact ⟨⟨1, by omega, rfl, HJ4, HB4, HX4, HF4⟩, by decide⟩
        · gi_wp2
          refine bodyPost_ret (results_none rfl _ _ _) rfl ?_
          exact ⟨⟨_, rfl⟩, .inr ⟨_, by rw [take_fin2]; exact List.take_prefix _ _, hJx4⟩⟩
      · obtain ⟨y0, hy0⟩ : ∃ y, y = rd d 4 := ⟨_, rfl⟩
        obtain ⟨y1, hy1⟩ : ∃ y, y = rd d 5 := ⟨_, rfl⟩
        obtain ⟨y2, hy2⟩ : ∃ y, y = rd d 6 := ⟨_, rfl⟩
        obtain ⟨y3, hy3⟩ : ∃ y, y = rd d 7 := ⟨_, rfl⟩
        have r0 : 0 ≤ y0 ∧ y0 ≤ 255 := by rw [hy0]; exact HDB.out.rd _
        have r1 : 0 ≤ y1 ∧ y1 ≤ 255 := by rw [hy1]; exact HDB.out.rd _
        have r2 : 0 ≤ y2 ∧ y2 ≤ 255 := by rw [hy2]; exact HDB.out.rd _
        have r3 : 0 ≤ y3 ∧ y3 ≤ 255 := by rw [hy3]; exact HDB.out.rd _
        have HBD : Aside0 (bitD s lv bt id 1 = num4 y0 y1 y2 y3 % bt) := ⟨by rw [bitD, ← HDD.out, hy0, hy1, hy2, hy3]; rfl⟩
        have HY0 := Aside0.mk hy0
        have HY1 := Aside0.mk hy1
        have HY2 := Aside0.mk hy2
        have HY3 := Aside0.mk hy3
        clear hy0 hy1 hy2 hy3
        have hw1 : wrap64 5 = 5 := by unfold wrap64; omega
        have hw2 : wrap64 6 = 6 := by unfold wrap64; omega
        have hw3 : wrap64 7 = 7 := by unfold wrap64; omega
        rw [show 4 * ((1 : Nat) : Int) = 4 from rfl]
        gi_wp2
        rw [wide_none]
        refine start_WF (ro := none) (n := n) (m := 26) (S := fun W => W.heap[Bd]? = some (.cells (cells8 d) 23 (0, 0))) (ds := []) #[false, false, false, false, false, false, false, false, false, false, false, false, false, false, false, false, false, false, false, false, false, false, false, false, false, false] (by kernel_rfl) (fun ⟨_, _, h⟩ => by obtain ⟨⟨_, h⟩, _⟩ := h; cases h) (by kernel_rfl) rfl rfl HX.out (fun hHeld => ?_)
        refine pure_ (i := 0) (N := some 23) (v := ?_) (a' := ?_) #[true, false, false, false, false, false, false, false, false, false, false, false, false, false, false, false, false, false, false, false, false, false, false, false, false, false] rfl rfl (by kernel_rfl) (fun _ _ _ h => h) (Or.inl ⟨by rfl, ?_⟩) ?_ ?_
        rotate_left
        · intro w'
          go_simp
          with_reducible rfl
        rotate_left
        · simp only [Act.put, List.setIfInBounds_toArray, List.set_cons_zero, List.set_cons_succ, i64_w, i32_w]
          rfl
        refine pure_ (i := 1) (N := some 24) (v := ?_) (a' := ?_) #[true, true, false, false, false, false, false, false, false, false, false, false, false, false, false, false, false, false, false, false, false, false, false, false, false, false] rfl rfl (by kernel_rfl) (fun _ _ _ h => h) (Or.inl ⟨by rfl, ?_⟩) ?_ ?_
        rotate_left
        · intro w'
          go_simp
          with_reducible rfl
        rotate_left
        · simp only [Act.put, List.setIfInBounds_toArray, List.set_cons_zero, List.set_cons_succ, i64_w, i32_w]
          rfl
        refine take_ (i := 2) (N := some 25) (v := .int .u8 y0) (a' := ?_) #[true, true, true, false, false, false, false, false, false, false, false, false, false, false, false, false, false, false, false, false, false, false, false, false, false, false] rfl rfl (by kernel_rfl) (fun _ _ _ h => h) (Or.inl ⟨by rfl, fun w' s0 => ?_⟩) hHeld ?_ ?_
        · have hc : w'.cell? ⟨Bd, 4, none⟩ = some (.int .u8 y0) := by rw [HY0.out]; exact blk8 s0 4 (by rw [HDL.out]; omega)
          go_simp
        rotate_left
        · simp only [Act.put, List.setIfInBounds_toArray, List.set_cons_zero, List.set_cons_succ, i64_w, i32_w]
          rfl
        refine pure_ (i := 3) (N := some 26) (v := ?_) (a' := ?_) #[true, true, true, true, false, false, false, false, false, false, false, false, false, false, false, false, false, false, false, false, false, false, false, false, false, false] rfl rfl (by kernel_rfl) (fun _ _ _ h => h) (Or.inl ⟨by rfl, ?_⟩) ?_ ?_
        rotate_left
        · intro w'
          go_simp
          with_reducible rfl
        rotate_left
        · simp only [Act.put, List.setIfInBounds_toArray, List.set_cons_zero, List.set_cons_succ, i64_w, i32_w]
          rfl
        refine pure_ (i := 4) (N := some 27) (v := ?_) (a' := ?_) #[true, true, true, true, true, false, false, false, false, false, false, false, false, false, false, false, false, false, false, false, false, false, false, false, false, false] rfl rfl (by kernel_rfl) (fun _ _ _ h => h) (Or.inl ⟨by rfl, ?_⟩) ?_ ?_
        rotate_left
        · intro w'
          go_simp
          with_reducible rfl
        rotate_left
        · simp only [Act.put, List.setIfInBounds_toArray, List.set_cons_zero, List.set_cons_succ, i64_w, i32_w]
          rfl
        refine pure_ (i := 5) (N := some 28) (v := ?_) (a' := ?_) #[true, true, true, true, true, true, false, false, false, false, false, false, false, false, false, false, false, false, false, false, false, false, false, false, false, false] rfl rfl (by kernel_rfl) (fun _ _ _ h => h) (Or.inl ⟨by rfl, ?_⟩) ?_ ?_
        rotate_left
        · intro w'
          go_simp
          with_reducible rfl
        rotate_left
        · simp only [Act.put, List.setIfInBounds_toArray, List.set_cons_zero, List.set_cons_succ, i64_w, i32_w]
          rfl
        refine pure_ (i := 6) (N := some 29) (v := ?_) (a' := ?_) #[true, true, true, true, true, true, true, false, false, false, false, false, false, false, false, false, false, false, false, false, false, false, false, false, false, false] rfl rfl (by kernel_rfl) (fun _ _ _ h => h) (Or.inl ⟨by rfl, ?_⟩) ?_ ?_
        rotate_left
        · intro w'
          go_simp
          with_reducible rfl
        rotate_left
        · simp only [Act.put, List.setIfInBounds_toArray, List.set_cons_zero, List.set_cons_succ, i64_w, i32_w]
          rfl
        refine pure_ (i := 7) (N := some 30) (v := ?_) (a' := ?_) #[true, true, true, true, true, true, true, true, false, false, false, false, false, false, false, false, false, false, false, false, false, false, false, false, false, false] rfl rfl (by kernel_rfl) (fun _ _ _ h => h) (Or.inl ⟨by rfl, ?_⟩) ?_ ?_
        rotate_left
        · intro w'
          go_simp
          with_reducible rfl
        rotate_left
        · simp only [Act.put, List.setIfInBounds_toArray, List.set_cons_zero, List.set_cons_succ, i64_w, i32_w]
          rfl
        refine take_ (i := 8) (N := some 31) (v := .int .u8 y1) (a' := ?_) #[true, true, true, true, true, true, true, true, true, false, false, false, false, false, false, false, false, false, false, false, false, false, false, false, false, false] rfl rfl (by kernel_rfl) (fun _ _ _ h => h) (Or.inl ⟨by rfl, fun w' s0 => ?_⟩) hHeld ?_ ?_
        · have hc : w'.cell? ⟨Bd, 5, none⟩ = some (.int .u8 y1) := by rw [HY1.out]; exact blk8 s0 5 (by rw [HDL.out]; omega)
          go_simp
        rotate_left
        · simp only [Act.put, List.setIfInBounds_toArray, List.set_cons_zero, List.set_cons_succ, i64_w, i32_w]
          rfl
        refine pure_ (i := 9) (N := some 32) (v := ?_) (a' := ?_) #[true, true, true, true, true, true, true, true, true, true, false, false, false, false, false, false, false, false, false, false, false, false, false, false, false, false] rfl rfl (by kernel_rfl) (fun _ _ _ h => h) (Or.inl ⟨by rfl, ?_⟩) ?_ ?_
        rotate_left
        · intro w'
          go_simp
          with_reducible rfl
        rotate_left
        · simp only [Act.put, List.setIfInBounds_toArray, List.set_cons_zero, List.set_cons_succ, i64_w, i32_w]
          rfl
        refine pure_ (i := 10) (N := some 33) (v := ?_) (a' := ?_) #[true, true, true, true, true, true, true, true, true, true, true, false, false, false, false, false, false, false, false, false, false, false, false, false, false, false] rfl rfl (by kernel_rfl) (fun _ _ _ h => h) (Or.inl ⟨by rfl, ?_⟩) ?_ ?_
        rotate_left
        · intro w'
          go_simp
          with_reducible rfl
        rotate_left
        · simp only [Act.put, List.setIfInBounds_toArray, List.set_cons_zero, List.set_cons_succ, i64_w, i32_w]
          rfl
        refine pure_ (i := 11) (N := some 34) (v := ?_) (a' := ?_) #[true, true, true, true, true, true, true, true, true, true, true, true, false, false, false, false, false, false, false, false, false, false, false, false, false, false] rfl rfl (by kernel_rfl) (fun _ _ _ h => h) (Or.inl ⟨by rfl, ?_⟩) ?_ ?_
        rotate_left
        · intro w'
          go_simp
          with_reducible rfl
        rotate_left
        · simp only [Act.put, List.setIfInBounds_toArray, List.set_cons_zero, List.set_cons_succ, i64_w, i32_w]
          rfl
        refine pure_ (i := 12) (N := some 35) (v := ?_) (a' := ?_) #[true, true, true, true, true, true, true, true, true, true, true, true, true, false, false, false, false, false, false, false, false, false, false, false, false, false] rfl rfl (by kernel_rfl) (fun _ _ _ h => h) (Or.inl ⟨by rfl, ?_⟩) ?_ ?_
        rotate_left
        · intro w'
          go_simp
          with_reducible rfl
        rotate_left
        · simp only [Act.put, List.setIfInBounds_toArray, List.set_cons_zero, List.set_cons_succ, i64_w, i32_w]
          rfl
        refine pure_ (i := 13) (N := some 36) (v := ?_) (a' := ?_) #[true, true, true, true, true, true, true, true, true, true, true, true, true, true, false, false, false, false, false, false, false, false, false, false, false, false] rfl rfl (by kernel_rfl) (fun _ _ _ h => h) (Or.inl ⟨by rfl, ?_⟩) ?_ ?_
        rotate_left
        · intro w'
          go_simp
          with_reducible rfl
        rotate_left
        · simp only [Act.put, List.setIfInBounds_toArray, List.set_cons_zero, List.set_cons_succ, i64_w, i32_w]
          rfl
        refine pure_ (i := 14) (N := some 37) (v := ?_) (a' := ?_) #[true, true, true, true, true, true, true, true, true, true, true, true, true, true, true, false, false, false, false, false, false, false, false, false, false, false] rfl rfl (by kernel_rfl) (fun _ _ _ h => h) (Or.inl ⟨by rfl, ?_⟩) ?_ ?_
        rotate_left
        · intro w'
          go_simp
          with_reducible rfl
        rotate_left
        · simp only [Act.put, List.setIfInBounds_toArray, List.set_cons_zero, List.set_cons_succ, i64_w, i32_w]
          rfl
        refine take_ (i := 15) (N := some 38) (v := .int .u8 y2) (a' := ?_) #[true, true, true, true, true, true, true, true, true, true, true, true, true, true, true, true, false, false, false, false, false, false, false, false, false, false] rfl rfl (by kernel_rfl) (fun _ _ _ h => h) (Or.inl ⟨by rfl, fun w' s0 => ?_⟩) hHeld ?_ ?_
        · have hc : w'.cell? ⟨Bd, 6, none⟩ = some (.int .u8 y2) := by rw [HY2.out]; exact blk8 s0 6 (by rw [HDL.out]; omega)
          go_simp
        rotate_left
        · simp only [Act.put, List.setIfInBounds_toArray, List.set_cons_zero, List.set_cons_succ, i64_w, i32_w]
          rfl
        refine pure_ (i := 16) (N := some 39) (v := ?_) (a' := ?_) #[true, true, true, true, true, true, true, true, true, true, true, true, true, true, true, true, true, false, false, false, false, false, false, false, false, false] rfl rfl (by kernel_rfl) (fun _ _ _ h => h) (Or.inl ⟨by rfl, ?_⟩) ?_ ?_
        rotate_left
        · intro w'
          go_simp
          with_reducible rfl
        rotate_left
        · simp only [Act.put, List.setIfInBounds_toArray, List.set_cons_zero, List.set_cons_succ, i64_w, i32_w]
          rfl
        refine pure_ (i := 17) (N := some 40) (v := ?_) (a' := ?_) #[true, true, true, true, true, true, true, true, true, true, true, true, true, true, true, true, true, true, false, false, false, false, false, false, false, false] rfl rfl (by kernel_rfl) (fun _ _ _ h => h) (Or.inl ⟨by rfl, ?_⟩) ?_ ?_
        rotate_left
        · intro w'
          go_simp
          with_reducible rfl
        rotate_left
        · simp only [Act.put, List.setIfInBounds_toArray, List.set_cons_zero, List.set_cons_succ, i64_w, i32_w]
          rfl
        refine pure_ (i := 18) (N := some 41) (v := ?_) (a' := ?_) #[true, true, true, true, true, true, true, true, true, true, true, true, true, true, true, true, true, true, true, false, false, false, false, false, false, false] rfl rfl (by kernel_rfl) (fun _ _ _ h => h) (Or.inl ⟨by rfl, ?_⟩) ?_ ?_
        rotate_left
        · intro w'
          go_simp
          with_reducible rfl
        rotate_left
        · simp only [Act.put, List.setIfInBounds_toArray, List.set_cons_zero, List.set_cons_succ, i64_w, i32_w]
          rfl
        refine pure_ (i := 19) (N := some 42) (v := ?_) (a' := ?_) #[true, true, true, true, true, true, true, true, true, true, true, true, true, true, true, true, true, true, true, true, false, false, false, false, false, false] rfl rfl (by kernel_rfl) (fun _ _ _ h => h) (Or.inl ⟨by rfl, ?_⟩) ?_ ?_
        rotate_left
        · intro w'
          go_simp
          with_reducible rfl
        rotate_left
        · simp only [Act.put, List.setIfInBounds_toArray, List.set_cons_zero, List.set_cons_succ, i64_w, i32_w]
          rfl
        refine pure_ (i := 20) (N := some 43) (v := ?_) (a' := ?_) #[true, true, true, true, true, true, true, true, true, true, true, true, true, true, true, true, true, true, true, true, true, false, false, false, false, false] rfl rfl (by kernel_rfl) (fun _ _ _ h => h) (Or.inl ⟨by rfl, ?_⟩) ?_ ?_
        rotate_left
        · intro w'
          go_simp
          with_reducible rfl
        rotate_left
        · simp only [Act.put, List.setIfInBounds_toArray, List.set_cons_zero, List.set_cons_succ, i64_w, i32_w]
          rfl
        refine pure_ (i := 21) (N := some 44) (v := ?_) (a' := ?_) #[true, true, true, true, true, true, true, true, true, true, true, true, true, true, true, true, true, true, true, true, true, true, false, false, false, false] rfl rfl (by kernel_rfl) (fun _ _ _ h => h) (Or.inl ⟨by rfl, ?_⟩) ?_ ?_
        rotate_left
        · intro w'
          go_simp
          with_reducible rfl
        rotate_left
        · simp only [Act.put, List.setIfInBounds_toArray, List.set_cons_zero, List.set_cons_succ, i64_w, i32_w]
          rfl
        refine take_ (i := 22) (N := some 45) (v := .int .u8 y3) (a' := ?_) #[true, true, true, true, true, true, true, true, true, true, true, true, true, true, true, true, true, true, true, true, true, true, true, false, false, false] rfl rfl (by kernel_rfl) (fun _ _ _ h => h) (Or.inl ⟨by rfl, fun w' s0 => ?_⟩) hHeld ?_ ?_
        · have hc : w'.cell? ⟨Bd, 7, none⟩ = some (.int .u8 y3) := by rw [HY3.out]; exact blk8 s0 7 (by rw [HDL.out]; omega)
          go_simp
        rotate_left
        · simp only [Act.put, List.setIfInBounds_toArray, List.set_cons_zero, List.set_cons_succ, i64_w, i32_w]
          rfl
        refine pure_ (i := 23) (N := some 46) (v := ?_) (a' := ?_) #[true, true, true, true, true, true, true, true, true, true, true, true, true, true, true, true, true, true, true, true, true, true, true, true, false, false] rfl rfl (by kernel_rfl) (fun _ _ _ h => h) (Or.inl ⟨by rfl, ?_⟩) ?_ ?_
        rotate_left
        · intro w'
          go_simp
          with_reducible rfl
        rotate_left
        · simp only [Act.put, List.setIfInBounds_toArray, List.set_cons_zero, List.set_cons_succ, i64_w, i32_w]
          rfl
        refine pure_ (i := 24) (N := some 47) (v := ?_) (a' := ?_) #[true, true, true, true, true, true, true, true, true, true, true, true, true, true, true, true, true, true, true, true, true, true, true, true, true, false] rfl rfl (by kernel_rfl) (fun _ _ _ h => h) (Or.inl ⟨by rfl, ?_⟩) ?_ ?_
        rotate_left
        · intro w'
          go_simp
          with_reducible rfl
        rotate_left
        · simp only [Act.put, List.setIfInBounds_toArray, List.set_cons_zero, List.set_cons_succ, i64_w, i32_w]
          rfl
        refine pure_ (i := 25) (N := some 7) (v := ?_) (a' := ?_) #[true, true, true, true, true, true, true, true, true, true, true, true, true, true, true, true, true, true, true, true, true, true, true, true, true, true] rfl rfl (by kernel_rfl) (fun _ _ _ h => h) (Or.inl ⟨by rfl, ?_⟩) ?_ ?_
        rotate_left
        · intro w'
          go_simp
          with_reducible rfl
        rotate_left
        · simp only [Act.put, List.setIfInBounds_toArray, List.set_cons_zero, List.set_cons_succ, i64_w, i32_w]
          rfl
        refine done_ (by kernel_rfl) ?_
        have hno := num4_orw y0 y1 y2 y3 r0 r1 r2 r3
        have hnr := num4_range y0 y1 y2 y3 r0 r1 r2 r3
        rw [hno]
        obtain ⟨N, hN⟩ : ∃ z, z = num4 y0 y1 y2 y3 := ⟨_, rfl⟩
        rw [← hN] at hnr HBD ⊢
        have HJk2 : Aside0 (J ((List.finRange 2).take 1) wr.drew) := ⟨HJ.out _ wr wr.drew none HJk.out (grown_of_below (below_drew (Below.refl _ _)) none) (fun r e => by cases e)⟩
        have HBk2 := Aside0.mk (below_drew HBk.out)
        have f1 : wr.drew.cell? ⟨B1, 1, none⟩ = some (.int .i64 bt) := blk_cell HF.out 1
        have hr1 : 0 ≤ N % bt := Int.emod_nonneg _ (by omega)
        clear hno hN hHeld hw1 hw2 hw3
        obtain ⟨fn, tmps, assign, body, hy, hR⟩ := HY.out ((List.finRange 2).take 1) ⟨1, by omega⟩ wr.drew HJk2.out (by simp)
        dsimp only at hy
        rw [HBD.out] at hy
        gi_wp2
        refine ⟨(fun h => nomatch h), hR.mono ?_⟩
        rintro e W4 (⟨rfl, hJ4, hk4⟩ | ⟨rfl, hJx4⟩)
        · have HB4 : Aside0 (Below w0.heap.size w0 W4) := ⟨HBk2.out.trans hk4.1.1⟩
          have HX4 : Aside0 (W4.heap[Bd]? = some (.cells (cells8 d) 23 (0, 0))) := ⟨hk4.2 _ _ HX.out⟩
          have HF4 : Aside0 (W4.heap[B1]? = some (.cells (fcells lv bt A m c) 26 (0, 0))) := ⟨hk4.1.2 _ HF.out⟩
          rw [take_fin2] at hJ4
          have HJ4 := Aside0.mk hJ4
          clear hJ4 hk4
          gi_wp2
          exact ⟨⟨2, by omega, rfl, HJ4, HB4, HX4, HF4⟩, by decide⟩
        · gi_wp2
          refine bodyPost_ret (results_none rfl _ _ _) rfl ?_
          exact ⟨⟨_, rfl⟩, .inr ⟨_, by rw [take_fin2]; exact List.take_prefix _ _, hJx4⟩⟩
    · obtain rfl : k = 2 := by omega
      gi_wp2
      go_end0
      exact ⟨⟨_, rfl⟩, .inl ⟨_, rfl, (List.take_of_length_le (by simp) : (List.finRange 2).take 2 = List.finRange 2) ▸ HJk.out⟩⟩
end Go.Proofs.YtgiofinekmaceaaDoor.Q
