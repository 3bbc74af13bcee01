/- chains: key -/
import Derived.Test.YtkpfnbliideeeaaDoorCa
namespace Go.Proofs.YtkpfnbliideeeaaDoor.Q
open Go.RowKit Go.Proofs.YtkpfnbliideeeaaDoorW.PrintWords Go.Proofs.YtkpfnbliideeeaaDoorW.PrintLast Go.Proofs.YtkpfnbliideeeaaDoorW.PrintMore
set_option linter.unusedVariables false
set_option linter.unusedSimpArgs false
/-- a digest, as an element of a slice -/
def KdD : Kd (List Int) := Kd.arr 32 (Kd.int .u8) (by decide)
theorem add_add' (a : Addr) (i j : Nat) : (a.add i).add j = a.add (i + j) := by
  unfold Addr.add
  by_cases hi : i = 0 <;> by_cases hj : j = 0 <;> simp [hi, hj]
  omega
theorem KdD_cells {w : World} {x : List Int} {c : List Value} (h : KdD.K w x c) : x.length = 32 ∧ c = nums .u8 x := by
  have h2 := Kd.arr_cells h
  exact ⟨h2.1, h2.2.trans rfl⟩
/-- element i of a slice of digests -/
theorem at_dig {w : World} {A : Option Addr} {n : Nat} {ds : List (List Int)} (h : Kd.C KdD w A n ds) (i : Nat) (hi : i < n) : ∃ ad, A = some ad ∧ (ds.getD i []).length = 32 ∧ ∀ j v, (cells8 (ds.getD i [])).toList[j]? = some v → w.cell? ((ad.add (i * 32)).add j) = some v := by
  obtain ⟨ad, c, e1, _, hK, hc0⟩ := Kd.C_get h ([] : List Int) (i : Int) (by omega) (by omega)
  rw [Int.toNat_natCast] at hK hc0
  obtain ⟨h1, rfl⟩ := KdD_cells hK
  refine ⟨ad, e1, h1, fun j v hj => ?_⟩
  rw [add_add']
  exact hc0 j v hj
/-- digests all -/
def All32 (ds : List (List Int)) : Prop := ∀ i, i < ds.length → (ds.getD i []).length = 32
theorem C_all32 {w : World} {A : Option Addr} {n : Nat} {ds : List (List Int)} (h : Kd.C KdD w A n ds) : All32 ds := fun i hi => by
  obtain ⟨_, _, h1, _⟩ := at_dig h i (by rw [← Kd.C_len h]; exact hi)
  exact h1
theorem flat32 (ds : List (List Int)) (h : All32 ds) : ∀ k, k ≤ ds.length → ((ds.take k).flatten).length = 32 * k
  | 0, _ => by simp
  | k + 1, hk => by
    rw [flat_succ ds k (by omega), List.length_append, flat32 ds h k (by omega), h k (by omega)]
    omega
section
variable {P : Program} {ops : Array Oper} {rest : List Oper} {o : Oper} {a : Act} {Q : Exit → Act → World → Prop} {w : World}
theorem run_loadVar_at (ad : Addr) (ty : TypeId) (cs : Array Value) (d : TypeDesc) (hc : ∀ j v, cs.toList[j]? = some v → w.cell? (ad.add j) = some v)
    (hu : P.underlying ty = some d) (hd : (match d with | .struct _ | .array _ _ => true | _ => false) = true) (hi : (P.info? ty).map (·.size) = some cs.size) :
    (loadVar ty ad).run P w = .ok (.agg cs) w := by
  have hl : (loadCells ad cs.toList.length).run P w = .ok cs.toList.toArray w := run_loadCells_list (P := P) w ad cs.toList hc
  cases hq : P.info? ty with
  | none => simp [hq] at hi
  | some i =>
    have hs : i.size = cs.size := by simpa [hq] using hi
    have hagg : (isAgg ty).run P w = .ok true w := by
      unfold isAgg
      rw [Sem.run_bind, run_underlying hu w]
      cases d <;> simp_all
    simp only [Array.length_toList, Array.toArray_toList] at hl
    simp [loadVar, Sem.run_bind, hagg, sizeOf, typeInfo, hq, hs, hl]
theorem wpList_load_at (hgd : o.guard = none) (ty : TypeId) (x : Operand) (ho : o.op = .load ty x) (ad : Addr) (hx : a.eval x = .pointer (some ad)) (cs : Array Value) (d : TypeDesc)
    (hc : ∀ j v, cs.toList[j]? = some v → w.cell? (ad.add j) = some v) (hu : P.underlying ty = some d) (hd : (match d with | .struct _ | .array _ _ => true | _ => false) = true) (hi : (P.info? ty).map (·.size) = some cs.size)
    (h : wpList P ops Q rest (a.put o.dst (.agg cs)) w) : wpList P ops Q (o :: rest) a w :=
  wpList_plain hgd fun K hK => by
    unfold Oper.wp execOp
    simp only [ho, hx, Instr.loadAt, Instr.sureAddr, Sem.run_bind, Sem.run_pure, Result.andThen_ok, run_loadVar_at ad ty cs d hc hu hd hi]
    exact hK _ _ h
end
def tagPublic : ByteArray := { data := #[112, 117, 98, 108, 105, 99] }
/-- the public key of last elements -/
def keyD (ds : List (List Int)) : List Int := tagged (bytesOf tagPublic) ds.flatten
set_option maxHeartbeats 1000000 in
theorem key_calls (A : Option Addr) (n c : Nat) (ds : List (List Int)) (w : World) (h : Kd.C KdD w A n ds) (hc : n ≤ c) (hn : n ≤ 1000) (hT : Tabs w) :
    Calls Tryd.prog 25 #[.slice A n c] w fun e w' => e = .returned (.agg (cells8 (keyD ds))) ∧ Below w.heap.size w w' := by
  have hlen := Kd.C_len h
  have HLEN := Aside0.mk hlen
  have H := Aside0.mk h
  have HT := Aside0.mk hT
  clear h hT hlen
  go_enter Tryd.func25, Tryd.ntmps25
  go_wp2_with fail
  have HD0 := Aside0.mk (heap_alloc_new w (.cells (cells8 zeros32) 23))
  have HB0 := Aside0.mk (below_alloc (Below.refl w.heap.size w) (.cells (cells8 zeros32) 23))
  go_loopw [3, 8] (fun v i wr => ∃ k : Nat, k ≤ n ∧ i = .int .i64 (k : Int) ∧ Aside0 (Kd.R (Kd.int .u8) 5 wr w.heap.size (fun _ => True) v (ds.take k).flatten) ∧ Aside0 (wr.heap[w.heap.size]? = some (.cells (cells8 zeros32) 23 (0, 0))) ∧ Aside0 (Below w.heap.size w wr)) (fun _ i _ => n - (intOf i).toNat)
  case atStart => exact ⟨0, by omega, rfl, ⟨Kd.R_nil _ _ _ _ _⟩, ⟨HD0.out⟩, ⟨HB0.out⟩⟩
  case round =>
    obtain ⟨k, hk, rfl, HR, HD, HB⟩ := hrel
    obtain ⟨A3, c3, n3, e3, hC3, hc3⟩ := R_any HR.out
    subst e3
    have HC3 := Aside0.mk hC3
    clear hC3 HD0 HB0
    by_cases hlt : k < n
    · obtain ⟨ad, rfl, hl0, hx0⟩ := at_dig (Kd.C_below H.out HB.out) k hlt
      have HX0 := Aside0.mk hx0
      have HL0 := Aside0.mk hl0
      clear hx0 hl0
      have c9 : decide ((k : Int) < (n : Int)) = true := decide_eq_true (by omega)
      have p1 := eq_true (show 0 ≤ (k : Int) by omega)
      have p2 := eq_true (show (k : Int) < (n : Int) by omega)
      have HF := Aside0.mk (flat_succ ds k (by rw [HLEN.out]; exact hlt))
      have HS8 := Aside0.mk (size32 (ds.getD k []) HL0.out)
      have HN := Aside0.mk (heap_alloc_new wr (.cells #[.int .u8 0, .int .u8 0, .int .u8 0, .int .u8 0, .int .u8 0, .int .u8 0, .int .u8 0, .int .u8 0, .int .u8 0, .int .u8 0, .int .u8 0, .int .u8 0, .int .u8 0, .int .u8 0, .int .u8 0, .int .u8 0, .int .u8 0, .int .u8 0, .int .u8 0, .int .u8 0, .int .u8 0, .int .u8 0, .int .u8 0, .int .u8 0, .int .u8 0, .int .u8 0, .int .u8 0, .int .u8 0, .int .u8 0, .int .u8 0, .int .u8 0, .int .u8 0] 23))
      have HOLD : Aside0 ((#[.int .u8 0, .int .u8 0, .int .u8 0, .int .u8 0, .int .u8 0, .int .u8 0, .int .u8 0, .int .u8 0, .int .u8 0, .int .u8 0, .int .u8 0, .int .u8 0, .int .u8 0, .int .u8 0, .int .u8 0, .int .u8 0, .int .u8 0, .int .u8 0, .int .u8 0, .int .u8 0, .int .u8 0, .int .u8 0, .int .u8 0, .int .u8 0, .int .u8 0, .int .u8 0, .int .u8 0, .int .u8 0, .int .u8 0, .int .u8 0, .int .u8 0, .int .u8 0] : Array Value).size = (cells8 (ds.getD k [])).size) := ⟨by rw [cells8_size, HL0.out]; rfl⟩
      have HFL : Aside0 (((ds.take k).flatten).length ≤ 32 * 1000) := ⟨by rw [flat32 ds (C_all32 H.out) k (by rw [HLEN.out]; omega)]; omega⟩
      generalize hge : ds.getD k [] = row at *
      clear hge
      go_wp2_with (first
        | (with_reducible refine wpList_load_at rfl 23 (.tmp 10) rfl (ad.add (k * 32)) rfl (cells8 row) _ HX0.out Tryd.underlying23 rfl HS8.out ?_)
        | (with_reducible refine wpList_store_row rfl 23 (.tmp 5) (.tmp 11) rfl wr.heap.size (cells8 row) rfl rfl 23 #[.int .u8 0, .int .u8 0, .int .u8 0, .int .u8 0, .int .u8 0, .int .u8 0, .int .u8 0, .int .u8 0, .int .u8 0, .int .u8 0, .int .u8 0, .int .u8 0, .int .u8 0, .int .u8 0, .int .u8 0, .int .u8 0, .int .u8 0, .int .u8 0, .int .u8 0, .int .u8 0, .int .u8 0, .int .u8 0, .int .u8 0, .int .u8 0, .int .u8 0, .int .u8 0, .int .u8 0, .int .u8 0, .int .u8 0, .int .u8 0, .int .u8 0, .int .u8 0] HN.out HS8.out HOLD.out (all_one8 _) ?_; obtain ⟨w3, hw3⟩ : ∃ x, x = (wr.alloc (.cells #[.int .u8 0, .int .u8 0, .int .u8 0, .int .u8 0, .int .u8 0, .int .u8 0, .int .u8 0, .int .u8 0, .int .u8 0, .int .u8 0, .int .u8 0, .int .u8 0, .int .u8 0, .int .u8 0, .int .u8 0, .int .u8 0, .int .u8 0, .int .u8 0, .int .u8 0, .int .u8 0, .int .u8 0, .int .u8 0, .int .u8 0, .int .u8 0, .int .u8 0, .int .u8 0, .int .u8 0, .int .u8 0, .int .u8 0, .int .u8 0, .int .u8 0, .int .u8 0] 23)).setRow wr.heap.size (cells8 row) := ⟨_, rfl⟩; rw [← hw3]; have HT3 : Aside0 (w3.heap[wr.heap.size]? = some (.cells (cells8 row) 23 (0, 0))) := ⟨by rw [hw3]; exact setRow_heap _ _ _ _ _ _ HN.out⟩; have hb3 : Below wr.heap.size wr w3 := (by rw [hw3]; exact below_setRow (below_alloc (Below.refl _ _) _) (Nat.le_refl _) _); have HB3 : Aside0 (Below w.heap.size w w3) := ⟨below_step HB.out hb3⟩; have HD3 : Aside0 (w3.heap[w.heap.size]? = some (.cells (cells8 zeros32) 23 (0, 0))) := ⟨blk_below HD.out hb3⟩; have HR3 := Aside0.mk (Kd.R_below HR.out hb3); have HC3 : Aside0 (Kd.C (Kd.int .u8) w3 (some ⟨wr.heap.size, 0, none⟩) 32 row) := ⟨C_dig HT3.out HL0.out⟩; clear hw3 hb3)
        | (at_builtin; refine Kd.R_append_rows (Kd.int .u8) (w0 := w) w.heap.size rfl (.tmp 12) (.tmp 13) 40 5 (.int .u8 0) 1 rfl Tryd.underlying40 info5 rfl (by decide) (by omega) (.slice A3 n3 c3) (ds.take k).flatten row (some ⟨wr.heap.size, 0, none⟩) 32 32 (fun _ => True) (fun _ => False) rfl rfl HR3.out HC3.out (fun _ _ h => h) (fun _ h => h.elim) (fun _ _ => trivial) HB3.out HB3.out.size (by have := HFL.out; omega) ?_; intro v4 w4 ho hb hg hat; have HO4 := Aside0.mk ho; have HB4 := Aside0.mk hb; have HD4 : Aside0 (w4.heap[w.heap.size]? = some (.cells (cells8 zeros32) 23 (0, 0))) := ⟨blk_grown HD3.out hg (Kd.Q_ne (Kd.Q_of_R HR3.out) HD3.out (by decide))⟩; clear ho hb hg hat))
      go_roundw
      case rel => exact ⟨k + 1, by omega, by go_num, ⟨by rw [HF.out]; exact HO4.out⟩, HD4, HB4⟩
      case measure => simp [intOf]; omega
    · obtain rfl : k = n := by omega
      have c9 : decide ((k : Int) < (k : Int)) = false := decide_eq_false (by omega)
      have hfl : (ds.take k).flatten = ds.flatten := by rw [List.take_of_length_le (by rw [HLEN.out]; exact Nat.le_refl _)]
      have HFL := Aside0.mk hfl
      have hn3 : n3 ≤ 32000 := by
        have e : n3 = 32 * k := by rw [← Kd.C_len HC3.out, flat32 ds (C_all32 H.out) k (by rw [HLEN.out]; exact Nat.le_refl _)]
        omega
      clear hfl
      go_wp2_with fail
      refine (Tagged_any tagPublic A3 n3 c3 _ wr (by decide) HC3.out hc3 (by omega) (HT.out.below HB.out)).mono ?_
      rintro e w5 ⟨rfl, hb5⟩
      have HD5 : Aside0 (w5.heap[w.heap.size]? = some (.cells (cells8 zeros32) 23 (0, 0))) := ⟨blk_below HD.out hb5⟩
      have HB5 : Aside0 (Below w.heap.size w w5) := ⟨below_step HB.out hb5⟩
      have hr : tagged (bytesOf tagPublic) (ds.take k).flatten = keyD ds := by rw [keyD, HFL.out]
      rw [hr]
      obtain ⟨r, hrr⟩ : ∃ r, r = keyD ds := ⟨_, rfl⟩
      rw [← hrr]
      have HLR : Aside0 (r.length = 32) := ⟨by rw [hrr, keyD]; exact tagged_length _ _⟩
      have HRR := Aside0.mk hrr
      have HSR := Aside0.mk (size32 r HLR.out)
      have HOLD : Aside0 ((cells8 zeros32).size = (cells8 r).size) := ⟨by rw [cells8_size, cells8_size, HLR.out, zeros32_length]⟩
      clear hrr hr hb5 HD HB
      go_wp2_with (with_reducible refine wpList_store_row rfl 23 (.tmp 2) (.tmp 17) rfl w.heap.size (cells8 r) rfl rfl 23 (cells8 zeros32) HD5.out HSR.out HOLD.out (all_one8 _) ?_)
      refine bodyPost_ret (v := .agg (cells8 r)) (results_cell_row rfl _ _ w.heap.size 23 (cells8 r) (0, 0) _ rfl (setRow_heap _ _ _ _ _ _ HD5.out) Tryd.underlying23 rfl HSR.out) rfl ⟨by rw [HRR.out], below_setRow HB5.out (Nat.le_refl _) _⟩
end Go.Proofs.YtkpfnbliideeeaaDoor.Q
