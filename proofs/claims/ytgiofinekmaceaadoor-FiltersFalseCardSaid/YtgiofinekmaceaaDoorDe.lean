/- digest: Concat, Tagged -/
import Derived.Test.YtgiofinekmaceaaDoorDd
namespace Go.Proofs.YtgiofinekmaceaaDoor.Q
open Go.RowKit Go.Proofs.YtgiofinekmaceaaDoorW.PrintWords Go.Proofs.YtgiofinekmaceaaDoorW.PrintLast Go.Proofs.YtgiofinekmaceaaDoorW.PrintMore
set_option linter.unusedVariables false
set_option linter.unusedSimpArgs false
theorem at_row {w : World} {e : TypeId} {A : Option Addr} {n : Nat} {xs : List (List Int)} (h : Kd.C (Kd.slice e (Kd.int .u8)) w A n xs) (i : Nat) (h1 : i < n) : ∃ ad A0 c0, A = some ad ∧ w.cell? (ad.add i) = some (.slice A0 (xs.getD i []).length c0) ∧ (xs.getD i []).length ≤ c0 ∧ (Kd.int .u8).C w A0 (xs.getD i []).length (xs.getD i []) := by
  obtain ⟨ad, c, e1, _, hK, hc0⟩ := Kd.C_get h ([] : List Int) (i : Int) (by omega) (by omega)
  rw [Int.toNat_natCast] at hK hc0
  have hc : ∀ j u, c[j]? = some u → w.cell? (ad.add (i * 1 + j)) = some u := hc0
  obtain ⟨A0, c0, rfl, l0, g0⟩ := hK
  exact ⟨ad, A0, c0, e1, by have hq := hc 0 _ rfl; rwa [Nat.mul_one, Nat.add_zero] at hq, l0, g0⟩
theorem R_C {w : World} {base n c e : Nat} {A : Option Addr} {ok : Nat → Prop} {kd : IntKind} {xs : List Int} (h : Kd.R (Kd.int kd) e w base ok (.slice A n c) xs) : Kd.C (Kd.int kd) w A xs.length xs ∧ xs.length ≤ c ∧ n = xs.length := by
  obtain ⟨A2, c2, e, hl, hr⟩ := Kd.R_reads h
  injection e with e1 e2 e3
  subst e1 e3
  exact ⟨hr, hl, e2⟩
/-- a row of the call's own, read as a slice whose length is a variable -/
theorem R_any {w : World} {base e : Nat} {v : Value} {ok : Nat → Prop} {kd : IntKind} {xs : List Int} (h : Kd.R (Kd.int kd) e w base ok v xs) : ∃ A c n, v = .slice A n c ∧ Kd.C (Kd.int kd) w A n xs ∧ n ≤ c := by
  obtain ⟨A2, c2, e, hl, hr⟩ := Kd.R_reads h
  exact ⟨A2, c2, _, e, hr, hl⟩
set_option maxHeartbeats 1000000 in
theorem Grow_calls (n : Nat) (w : World) (hn : n ≤ 70368744177664) :
    Calls Tryd.prog 40 #[.slice none 0 0, .int .i64 (n : Int)] w fun e w' => ∃ v, e = .returned v ∧ Kd.R (Kd.int .u8) 5 w' w.heap.size (fun _ => True) v [] ∧ Below w.heap.size w w' := by
  by_cases h0 : 0 < n
  · have c16 : decide (0 < (n : Int)) = true := decide_eq_true (by omega)
    have c6 : decide ((n : Int) < 0) = false := decide_eq_false (by omega)
    have HB0 := Aside0.mk (Below.refl w.heap.size w)
    have HO0 := Aside0.mk (Kd.R_nil (Kd.int .u8) 5 w w.heap.size (fun _ => True))
    go_enter Tryd.func40, Tryd.ntmps40
    go_wp2_with (at_builtin; refine Kd.R_append_zeros (Kd.int .u8) (w0 := w) w.heap.size rfl (.tmp 20) (.tmp 21) 24 3 5 (.int .u8 0) 1 rfl Tryd.underlying24 Tryd.underlying3 info5 rfl (by decide) (by omega) (.slice none 0 0) [] 0 (n : Int) (fun _ => True) rfl rfl rfl (fun _ _ => trivial) HO0.out (by omega) HB0.out (Nat.le_refl _) (by simp; omega) ?_; intro v2 w2 ho hb hg hat; obtain ⟨A2, c2, e2⟩ := Kd.R_slice ho; subst e2; have HO2 := Aside0.mk ho; have HB2 := Aside0.mk hb; clear ho hb hg hat)
    go_ret
    have hr := Kd.R_take (m := 0) HO2.out (Nat.zero_le _)
    exact ⟨_, rfl, hr, HB2.out⟩
  · obtain rfl : n = 0 := by omega
    go_enter Tryd.func40, Tryd.ntmps40
    go_wp2
    go_ret
    exact ⟨_, rfl, Kd.R_nil _ _ _ _ _, Below.refl _ _⟩
theorem take_getD {α : Type} (xss : List (List α)) (k : Nat) (h : k < xss.length) : xss.take (k + 1) = xss.take k ++ [xss.getD k []] := by
  rw [List.take_succ_eq_append_getElem h, List.getD_eq_getElem?_getD, List.getElem?_eq_getElem h]
  rfl
/-- how many bytes the first k slices have -/
def sumLen (xss : List (List Int)) (k : Nat) : Nat := ((xss.take k).map List.length).sum
theorem sumLen_succ (xss : List (List Int)) (k : Nat) (h : k < xss.length) : sumLen xss (k + 1) = sumLen xss k + (xss.getD k []).length := by
  rw [sumLen, take_getD xss k h, List.map_append, List.sum_append]
  simp only [List.map_cons, List.map_nil, List.sum_cons, List.sum_nil, Nat.add_zero]
  rfl
theorem sumLen_mono (xss : List (List Int)) (k : Nat) : ∀ j, sumLen xss k ≤ sumLen xss (k + j)
  | 0 => Nat.le_refl _
  | j + 1 => by
    refine Nat.le_trans (sumLen_mono xss k j) ?_
    by_cases h : k + j < xss.length
    · rw [← Nat.add_assoc, sumLen_succ xss (k + j) h]; omega
    · rw [sumLen, sumLen, List.take_of_length_le (by omega), List.take_of_length_le (by omega)]; exact Nat.le_refl _
theorem sumLen_le (xss : List (List Int)) (k : Nat) (h : k ≤ xss.length) : sumLen xss k ≤ sumLen xss xss.length := by
  have := sumLen_mono xss k (xss.length - k)
  rwa [show k + (xss.length - k) = xss.length from by omega] at this
theorem flat_succ (xss : List (List Int)) (k : Nat) (h : k < xss.length) : (xss.take (k + 1)).flatten = (xss.take k).flatten ++ xss.getD k [] := by
  rw [take_getD xss k h, List.flatten_append]
  simp only [List.flatten_cons, List.flatten_nil, List.append_nil]
theorem flat_length (xss : List (List Int)) (k : Nat) : ((xss.take k).flatten).length = sumLen xss k := by
  rw [List.length_flatten]; rfl
set_option maxHeartbeats 2000000 in
theorem Concat_calls (A : Option Addr) (c : Nat) (xss : List (List Int)) (w : World) (h : Kd.C (Kd.slice 5 (Kd.int .u8)) w A xss.length xss) (hc : xss.length ≤ c) (hx : xss.length ≤ 1000) (hs : sumLen xss xss.length ≤ 70368744177664) :
    Calls Tryd.prog 34 #[.slice A xss.length c] w fun e w' => ∃ v, e = .returned v ∧ Kd.R (Kd.int .u8) 5 w' w.heap.size (fun _ => True) v xss.flatten ∧ Below w.heap.size w w' := by
  have H := Aside0.mk h
  have HS := Aside0.mk hs
  clear h hs
  go_enter Tryd.func34, Tryd.ntmps34
  go_wp2_with fail
  go_loop [3, 11] (fun v i => ∃ k : Nat, k ≤ xss.length ∧ i = .int .i64 (k : Int) ∧ v = .int .i64 (sumLen xss k : Nat)) (fun _ i => xss.length - (intOf i).toNat)
  case atStart => exact ⟨0, by omega, rfl, rfl⟩
  case round =>
    obtain ⟨k, hk, rfl, rfl⟩ := hrel
    by_cases hlt : k < xss.length
    · obtain ⟨ad, A0, c0, rfl, hx1, hl0, hr0⟩ := at_row H.out k hlt
      have HSU := Aside0.mk (sumLen_succ xss k hlt)
      have hb1 : sumLen xss k + (xss.getD k []).length ≤ 70368744177664 := by rw [← HSU.out]; exact Nat.le_trans (sumLen_le xss (k + 1) (by omega)) HS.out
      have c12 : decide ((k : Int) < (xss.length : Int)) = true := decide_eq_true (by omega)
      have c20 : decide ((sumLen xss k : Int) + ((xss.getD k []).length : Int) < 0) = false := decide_eq_false (by omega)
      have p1 := eq_true (show 0 ≤ (k : Int) by omega)
      have p2 := eq_true (show (k : Int) < (xss.length : Int) by omega)
      have HR0 := Aside0.mk hr0
      clear hr0
      generalize hge : xss.getD k [] = row at *
      have HGE := Aside0.mk hge
      clear hge
      go_wp2
      go_round
      case rel => exact ⟨k + 1, by omega, by go_num, by rw [HSU.out]; go_num⟩
      case measure => simp [intOf]; omega
    · obtain rfl : k = xss.length := by omega
      go_wp2_with fail
      refine (Grow_calls (sumLen xss xss.length) w HS.out).mono ?_
      rintro e w1 ⟨v1, rfl, hr1, hb1⟩
      have HR1 := Aside0.mk hr1
      have HB1 := Aside0.mk hb1
      clear hr1 hb1 hlt hk
      go_wp2_with fail
      go_loopw [6, 27] (fun v i wr => ∃ k : Nat, k ≤ xss.length ∧ i = .int .i64 (k : Int) ∧ Aside0 (Kd.R (Kd.int .u8) 5 wr w.heap.size (fun _ => True) v (xss.take k).flatten) ∧ Aside0 (Below w.heap.size w wr)) (fun _ i _ => xss.length - (intOf i).toNat)
      case atStart => exact ⟨0, by omega, rfl, ⟨HR1.out⟩, ⟨HB1.out⟩⟩
      case round =>
        clear HR1 HB1
        rename_i v6 i27 _
        obtain ⟨k, hk, rfl, HR, HB⟩ := hrel
        obtain ⟨A6, c6, e6⟩ := Kd.R_slice HR.out
        subst e6
        by_cases hlt : k < xss.length
        · obtain ⟨ad, A0, c0, rfl, hx1, hl0, hr0⟩ := at_row (Kd.C_below H.out HB.out) k hlt
          have HF := Aside0.mk (flat_succ xss k hlt)
          have HFL := Aside0.mk (flat_length xss k)
          have hb1 : sumLen xss k + (xss.getD k []).length ≤ 70368744177664 := by rw [← sumLen_succ xss k hlt]; exact Nat.le_trans (sumLen_le xss (k + 1) (by omega)) HS.out
          have c28 : decide ((k : Int) < (xss.length : Int)) = true := decide_eq_true (by omega)
          have p1 := eq_true (show 0 ≤ (k : Int) by omega)
          have p2 := eq_true (show (k : Int) < (xss.length : Int) by omega)
          have HR0 := Aside0.mk hr0
          clear hr0
          generalize hge : xss.getD k [] = row at *
          have HGE := Aside0.mk hge
          clear hge
          generalize hfl : (xss.take k).flatten = flat at *
          have HFLT := Aside0.mk hfl
          clear hfl
          go_wp2_with (at_builtin; refine Kd.R_append_rows (Kd.int .u8) (w0 := w) w.heap.size rfl (.tmp 31) (.tmp 32) 24 5 (.int .u8 0) 1 rfl Tryd.underlying24 info5 rfl (by decide) (by omega) (.slice A6 flat.length c6) flat row A0 row.length c0 (fun _ => True) (fun _ => False) rfl rfl HR.out HR0.out (fun _ _ h => h) (fun _ h => h.elim) (fun _ _ => trivial) HB.out HB.out.size (by have := HFL.out; omega) ?_; intro v2 w2 ho hb hg hat; have HO2 := Aside0.mk ho; have HB2 := Aside0.mk hb; clear ho hb hg hat)
          go_roundw
          case rel => exact ⟨k + 1, by omega, by go_num, ⟨by rw [HF.out]; exact HO2.out⟩, HB2⟩
          case measure => simp [intOf]; omega
        · obtain rfl : k = xss.length := by omega
          go_wp2
          go_ret
          refine ⟨_, rfl, ?_, HB.out⟩
          have e := HR.out
          have t := List.take_of_length_le (l := xss) (Nat.le_refl _)
          rw [t] at e ⊢
          exact e
/-- the hash of bytes under a tag -/
def tagged (tag : List Int) (xs : List Int) : List Int := sha (sha tag ++ xs)
theorem tagged_length (tag xs : List Int) : (tagged tag xs).length = 32 := sha_length _
theorem C_of_reads {w : World} {A : Option Addr} {n : Nat} {xs : List Int} (h : ReadsInt w .u8 A n xs) : Kd.C (Kd.int .u8) w A n xs := by
  obtain ⟨h1, h2, h3⟩ := h
  refine ⟨h1, h2, fun hn => ?_⟩
  obtain ⟨ad, e, hc⟩ := h3 hn
  refine ⟨ad, e, fun j p hj => ⟨[.int .u8 p], rfl, rfl, fun i u hu => ?_⟩⟩
  have hjl := (List.getElem?_eq_some_iff.1 hj).1
  match i, hu with
  | 0, hu =>
    injection hu with hu
    subst hu
    show w.cell? (ad.add (j * 1 + 0)) = _
    rw [Nat.mul_one, Nat.add_zero, hc j (by omega), List.getD_eq_getElem?_getD, hj]
    rfl
  | i + 1, hu => simp at hu
theorem Sum_any (A : Option Addr) (n c : Nat) (xs : List Int) (w : World) (h : Kd.C (Kd.int .u8) w A n xs) (hc : n ≤ c) (hT : Tabs w) :
    Calls Tryd.prog 33 #[.slice A n c] w fun e w' => e = .returned (.agg (cells8 (sha xs))) ∧ Below w.heap.size w w' := by
  obtain rfl := Kd.C_len h
  exact Sum_calls A c xs w h hc hT
/-- slices in a new block, read as a slice of slices -/
theorem C_rows (W : World) (e t : TypeId) (rows : List (Option Addr × Nat × List Int)) (hx : rows.length ≤ 1000) (h : ∀ r ∈ rows, Kd.C (Kd.int .u8) W r.1 r.2.2.length r.2.2 ∧ r.2.2.length ≤ r.2.1) :
    Kd.C (Kd.slice e (Kd.int .u8)) (W.alloc (.cells (rows.map fun r => Value.slice r.1 r.2.2.length r.2.1).toArray t)) (some ⟨W.heap.size, 0, none⟩) rows.length (rows.map (·.2.2)) := by
  refine ⟨by simp, by omega, fun _ => ⟨_, rfl, fun j p hj => ?_⟩⟩
  rw [List.getElem?_map] at hj
  obtain ⟨r, hr, rfl⟩ := Option.map_eq_some_iff.1 hj
  obtain ⟨h1, h2⟩ := h r (List.mem_of_getElem? hr)
  refine ⟨[.slice r.1 r.2.2.length r.2.1], rfl, ⟨r.1, r.2.1, rfl, h2, Kd.C_alloc h1 _⟩, fun i u hu => ?_⟩
  match i, hu with
  | 0, hu =>
    injection hu with hu
    subst hu
    have hb := heap_alloc_new W (.cells (rows.map fun r => Value.slice r.1 r.2.2.length r.2.1).toArray t)
    show (W.alloc (.cells (rows.map fun r => Value.slice r.1 r.2.2.length r.2.1).toArray t)).cell? ((⟨W.heap.size, 0, none⟩ : Addr).add (j * 1 + 0)) = _
    rw [add_plain, blk_cell hb]
    simp [hr]
  | i + 1, hu => simp at hu
theorem C_two (W : World) (e t : TypeId) (A1 A2 : Option Addr) (c1 c2 : Nat) (x y : List Int) (h1 : Kd.C (Kd.int .u8) W A1 x.length x) (l1 : x.length ≤ c1) (h2 : Kd.C (Kd.int .u8) W A2 y.length y) (l2 : y.length ≤ c2) :
    Kd.C (Kd.slice e (Kd.int .u8)) (W.alloc (.cells #[.slice A1 x.length c1, .slice A2 y.length c2] t)) (some ⟨W.heap.size, 0, none⟩) 2 [x, y] :=
  C_rows W e t [(A1, c1, x), (A2, c2, y)] (by simp) (by
    intro r hr
    simp at hr
    rcases hr with rfl | rfl
    · exact ⟨h1, l1⟩
    · exact ⟨h2, l2⟩)
theorem size32 (l : List Int) (h : l.length = 32) : (Tryd.prog.info? 23).map (·.size) = some (cells8 l).size := by rw [cells8_size, h]; kernel_rfl
/-- a digest in a block, read as a slice -/
theorem C_dig {w : World} {b t : Nat} {l : List Int} (h : w.heap[b]? = some (.cells (cells8 l) t (0, 0))) (hl : l.length = 32) : Kd.C (Kd.int .u8) w (some ⟨b, 0, none⟩) 32 l := by
  have e := C_blk8 h 0 32 (by omega) (by omega)
  rw [List.drop_zero, List.take_of_length_le (by omega)] at e
  exact e
section
variable {P : Program} {ops : Array Oper} {rest : List Oper} {o : Oper} {a : Act} {Q : Exit → Act → World → Prop}
/-- a whole value goes into a variable that has just been made -/
theorem wpList_store_fresh {W : World} {T : TypeId} {old : Array Value} (hgd : o.guard = none) (ty : TypeId) (x y : Operand) (ho : o.op = .store ty x y) (cells : Array Value) (hx : a.eval x = .pointer (some ⟨W.heap.size, 0, none⟩)) (hy : a.eval y = .agg cells)
    (hi : (P.info? ty).map (·.size) = some cells.size) (hold : old.size = cells.size) (h1 : cells.all (·.oneCell') = true)
    (h : ∀ w3, w3.heap[W.heap.size]? = some (.cells cells T (0, 0)) → Below W.heap.size W w3 → w3.heap.size = W.heap.size + 1 → wpList P ops Q rest (a.put o.dst undef) w3) :
    wpList P ops Q (o :: rest) a (W.alloc (.cells old T)) := by
  refine wpList_store_row hgd ty x y ho W.heap.size cells hx hy T old (heap_alloc_new _ _) hi hold h1 (h _ ?_ ?_ ?_)
  · exact setRow_heap _ _ _ _ _ _ (heap_alloc_new _ _)
  · exact below_setRow (below_alloc (Below.refl _ _) _) (Nat.le_refl _) _
  · simp
/-- a whole value goes into a variable -/
theorem wpList_store_blk {w : World} (hgd : o.guard = none) (ty : TypeId) (x y : Operand) (ho : o.op = .store ty x y) (g : Nat) (T : TypeId) (old cells : Array Value) (hx : a.eval x = .pointer (some ⟨g, 0, none⟩)) (hy : a.eval y = .agg cells) (hg : w.heap[g]? = some (.cells old T (0, 0)))
    (hi : (P.info? ty).map (·.size) = some cells.size) (hold : old.size = cells.size) (h1 : cells.all (·.oneCell') = true)
    (h : ∀ w3, w3.heap[g]? = some (.cells cells T (0, 0)) → w.grownBy w3 (some g) → w3.heap.size = w.heap.size → wpList P ops Q rest (a.put o.dst undef) w3) :
    wpList P ops Q (o :: rest) a w := by
  refine wpList_store_row hgd ty x y ho g cells hx hy T old hg hi hold h1 (h _ ?_ ?_ ?_)
  · exact setRow_heap _ _ _ _ _ _ hg
  · exact ⟨rfl, rfl, rfl, by simp, fun k hk hne => setRow_other w g k cells (fun e => hne (by rw [e]))⟩
  · simp
end
theorem Concat_two (A : Option Addr) (c : Nat) (x y : List Int) (w : World) (h : Kd.C (Kd.slice 5 (Kd.int .u8)) w A 2 [x, y]) (hc : 2 ≤ c) (hs : x.length + y.length ≤ 70368744177664) :
    Calls Tryd.prog 34 #[.slice A 2 c] w fun e w' => ∃ v, e = .returned v ∧ Kd.R (Kd.int .u8) 5 w' w.heap.size (fun _ => True) v (x ++ y) ∧ Below w.heap.size w w' := by
  have e := Concat_calls A c [x, y] w h hc (by simp) (by simp [sumLen]; omega)
  rw [show [x, y].flatten = x ++ y from by simp] at e
  exact e
set_option maxHeartbeats 2000000 in
theorem Tagged_calls (s : ByteArray) (A : Option Addr) (c : Nat) (xs : List Int) (w : World) (hs : s.size ≤ 1000) (h : Kd.C (Kd.int .u8) w A xs.length xs) (hc : xs.length ≤ c) (hx : xs.length ≤ 35184372088832) (hT : Tabs w) :
    Calls Tryd.prog 24 #[.string s, .slice A xs.length c] w fun e w' => e = .returned (.agg (cells8 (tagged (bytesOf s) xs))) ∧ Below w.heap.size w w' := by
  have hgz : 0 < w.heap.size := World.block_lt_of_cell? w _ (hT.h 0 (by omega))
  have kb := fun W => print_bytes (P := Tryd.prog) 9 24 5 Tryd.underlying9 Tryd.underlying24 Tryd.underlying5 s W
  have HT := Aside0.mk hT
  have H := Aside0.mk h
  clear hT h
  go_enter Tryd.func24, Tryd.ntmps24
  go_wp2_with fail
  have hC : Kd.C (Kd.int .u8) (Lib.bytesWorld (w.alloc (.cells (cells8 zeros32) 23)) 5 s) (some ⟨w.heap.size + 1, 0, none⟩) s.size (bytesOf s) := by
    have h1 := C_of_reads (bytes_reads (w.alloc (.cells (cells8 zeros32) 23)) 5 s (by omega))
    rw [show (w.alloc (.cells (cells8 zeros32) 23)).heap.size = w.heap.size + 1 from by simp] at h1
    exact h1
  have hB1 : Below w.heap.size w (Lib.bytesWorld (w.alloc (.cells (cells8 zeros32) 23)) 5 s) := bytes_below (below_alloc (Below.refl _ _) _) (by simp) _ s
  have hD1 : (Lib.bytesWorld (w.alloc (.cells (cells8 zeros32) 23)) 5 s).heap[w.heap.size]? = some (.cells (cells8 zeros32) 23 (0, 0)) := (Lib.bytesWorld_at_old _ _ s _ (by simp)).trans (heap_alloc_new _ _)
  have HB1 := Aside0.mk hB1
  have HD1 := Aside0.mk hD1
  refine (Sum_any _ _ _ _ _ hC (grownCap_ge _ _ _ _) (HT.out.below hB1)).mono ?_
  rintro e w2 ⟨rfl, hb2⟩
  have HB2 : Aside0 (Below w.heap.size w w2) := ⟨below_step hB1 hb2⟩
  have HD2 : Aside0 (w2.heap[w.heap.size]? = some (.cells (cells8 zeros32) 23 (0, 0))) := ⟨blk_below hD1 hb2⟩
  clear hC hB1 hD1 hb2 HB1 HD1 kb
  have HTL := Aside0.mk (sha_length (bytesOf s))
  generalize hd : sha (bytesOf s) = d at *
  have HDD := Aside0.mk hd
  clear hd
  have HSZ := Aside0.mk (size32 d HTL.out)
  have hold : (#[.int .u8 0, .int .u8 0, .int .u8 0, .int .u8 0, .int .u8 0, .int .u8 0, .int .u8 0, .int .u8 0, .int .u8 0, .int .u8 0, .int .u8 0, .int .u8 0, .int .u8 0, .int .u8 0, .int .u8 0, .int .u8 0, .int .u8 0, .int .u8 0, .int .u8 0, .int .u8 0, .int .u8 0, .int .u8 0, .int .u8 0, .int .u8 0, .int .u8 0, .int .u8 0, .int .u8 0, .int .u8 0, .int .u8 0, .int .u8 0, .int .u8 0, .int .u8 0] : Array Value).size = (cells8 d).size := by rw [cells8_size, HTL.out]; rfl
  have HOLD := Aside0.mk hold
  clear hold
  have HN2 := Aside0.mk (heap_alloc_new w2 (.cells #[.int .u8 0, .int .u8 0, .int .u8 0, .int .u8 0, .int .u8 0, .int .u8 0, .int .u8 0, .int .u8 0, .int .u8 0, .int .u8 0, .int .u8 0, .int .u8 0, .int .u8 0, .int .u8 0, .int .u8 0, .int .u8 0, .int .u8 0, .int .u8 0, .int .u8 0, .int .u8 0, .int .u8 0, .int .u8 0, .int .u8 0, .int .u8 0, .int .u8 0, .int .u8 0, .int .u8 0, .int .u8 0, .int .u8 0, .int .u8 0, .int .u8 0, .int .u8 0] 23))
  go_wp2_with (with_reducible refine wpList_store_row rfl 23 (.tmp 5) (.tmp 8) rfl w2.heap.size (cells8 d) rfl rfl 23 #[.int .u8 0, .int .u8 0, .int .u8 0, .int .u8 0, .int .u8 0, .int .u8 0, .int .u8 0, .int .u8 0, .int .u8 0, .int .u8 0, .int .u8 0, .int .u8 0, .int .u8 0, .int .u8 0, .int .u8 0, .int .u8 0, .int .u8 0, .int .u8 0, .int .u8 0, .int .u8 0, .int .u8 0, .int .u8 0, .int .u8 0, .int .u8 0, .int .u8 0, .int .u8 0, .int .u8 0, .int .u8 0, .int .u8 0, .int .u8 0, .int .u8 0, .int .u8 0] HN2.out HSZ.out HOLD.out (all_one8 d) ?_; obtain ⟨w3, hw3⟩ : ∃ x, x = (w2.alloc (.cells #[.int .u8 0, .int .u8 0, .int .u8 0, .int .u8 0, .int .u8 0, .int .u8 0, .int .u8 0, .int .u8 0, .int .u8 0, .int .u8 0, .int .u8 0, .int .u8 0, .int .u8 0, .int .u8 0, .int .u8 0, .int .u8 0, .int .u8 0, .int .u8 0, .int .u8 0, .int .u8 0, .int .u8 0, .int .u8 0, .int .u8 0, .int .u8 0, .int .u8 0, .int .u8 0, .int .u8 0, .int .u8 0, .int .u8 0, .int .u8 0, .int .u8 0, .int .u8 0] 23)).setRow w2.heap.size (cells8 d) := ⟨_, rfl⟩; rw [← hw3]; have HW3 := Aside0.mk hw3; clear hw3)
  have hb3 : Below w2.heap.size w2 w3 := by rw [HW3.out]; exact below_setRow (below_alloc (Below.refl _ _) _) (Nat.le_refl _) _
  have hs3 : w3.heap.size = w2.heap.size + 1 := by rw [HW3.out]; simp
  have HT5 : Aside0 (w3.heap[w2.heap.size]? = some (.cells (cells8 d) 23 (0, 0))) := ⟨by rw [HW3.out]; exact setRow_heap _ _ _ _ _ _ HN2.out⟩
  have HB3 : Aside0 (Below w.heap.size w w3) := ⟨below_step HB2.out hb3⟩
  have HD3 : Aside0 (w3.heap[w.heap.size]? = some (.cells (cells8 zeros32) 23 (0, 0))) := ⟨blk_below HD2.out hb3⟩
  have hlt3 : w2.heap.size < w3.heap.size := by omega
  clear hb3 hs3 HW3 HN2
  have hC2 := C_two w3 5 24 (some ⟨w2.heap.size, 0, none⟩) A 32 c d xs (by rw [HTL.out]; exact C_dig HT5.out HTL.out) (by rw [HTL.out]; omega) (Kd.C_below H.out HB3.out) hc
  rw [HTL.out] at hC2
  refine (Concat_two (some ⟨w3.heap.size, 0, none⟩) 2 d xs _ hC2 (by omega) (by have := HTL.out; omega)).mono ?_
  rintro e w4 ⟨v4, rfl, hr4, hb4⟩
  obtain ⟨A4, c4, n4, e4, hC4, hc4⟩ := R_any hr4
  subst e4
  have HC4 := Aside0.mk hC4
  have HCC4 := Aside0.mk hc4
  clear hC4 hc4
  have HB4 : Aside0 (Below w.heap.size w w4) := ⟨below_step (below_alloc HB3.out _) hb4⟩
  have HD4 : Aside0 (w4.heap[w.heap.size]? = some (.cells (cells8 zeros32) 23 (0, 0))) := ⟨blk_below (blk_alloc HD3.out _) hb4⟩
  clear hr4 hb4 hC2 HB3 HD3 HT5
  go_wp2_with fail
  refine (Sum_any _ _ _ _ _ HC4.out HCC4.out (HT.out.below HB4.out)).mono ?_
  rintro e w5 ⟨rfl, hb5⟩
  have HB5 : Aside0 (Below w.heap.size w w5) := ⟨below_step HB4.out hb5⟩
  have HD5 : Aside0 (w5.heap[w.heap.size]? = some (.cells (cells8 zeros32) 23 (0, 0))) := ⟨blk_below HD4.out hb5⟩
  have hr : sha (d ++ xs) = tagged (bytesOf s) xs := by rw [tagged, HDD.out]
  rw [hr]
  clear hr hb5 HB4 HD4
  have HSR := Aside0.mk (size32 _ (tagged_length (bytesOf s) xs))
  have HLR := Aside0.mk (tagged_length (bytesOf s) xs)
  obtain ⟨r, hrr⟩ : ∃ r, r = tagged (bytesOf s) xs := ⟨_, rfl⟩
  rw [← hrr] at HSR HLR ⊢
  have HRR := Aside0.mk hrr
  clear hrr
  have hold5 : (cells8 zeros32).size = (cells8 r).size := by rw [cells8_size, cells8_size, HLR.out, zeros32_length]
  have HOLD5 := Aside0.mk hold5
  clear hold5
  go_wp2_with (with_reducible refine wpList_store_blk rfl 23 (.tmp 4) (.tmp 13) rfl w.heap.size 23 (cells8 zeros32) (cells8 r) rfl rfl HD5.out HSR.out HOLD5.out (all_one8 r) ?_; intro w6 h6 hg6 hs6)
  refine bodyPost_ret (v := .agg (cells8 r)) (results_cell_row rfl _ _ w.heap.size 23 (cells8 r) (0, 0) _ rfl h6 Tryd.underlying23 rfl HSR.out) rfl ⟨by rw [HRR.out], below_grown HB5.out hg6 (Nat.le_refl _)⟩
theorem Tagged_any (s : ByteArray) (A : Option Addr) (n c : Nat) (xs : List Int) (w : World) (hs : s.size ≤ 1000) (h : Kd.C (Kd.int .u8) w A n xs) (hc : n ≤ c) (hx : n ≤ 35184372088832) (hT : Tabs w) :
    Calls Tryd.prog 24 #[.string s, .slice A n c] w fun e w' => e = .returned (.agg (cells8 (tagged (bytesOf s) xs))) ∧ Below w.heap.size w w' := by
  obtain rfl := Kd.C_len h
  exact Tagged_calls s A c xs w hs h hc hx hT
end Go.Proofs.YtgiofinekmaceaaDoor.Q
