/- filters: collect -/
import Derived.Test.YtgiofinekmaceaaDoorFa
import Derived.Test.YtgiofinekmaceaaDoorGa
namespace Go.Proofs.YtgiofinekmaceaaDoor.Q
open Go.RowKit Go.Proofs.YtgiofinekmaceaaDoorW.PrintWords Go.Proofs.YtgiofinekmaceaaDoorW.PrintLast Go.Proofs.YtgiofinekmaceaaDoorW.PrintMore
set_option linter.unusedVariables false
set_option linter.unusedSimpArgs false
theorem asD_yes (v : Value) (W : World) : (Instr.typeAssert (.iface 23 v) 20 23 true).run Tryd.prog W = .ok (.tuple #[v, .bool true]) W := by kernel_rfl
theorem asD_no5 (v : Value) (W : World) : (Instr.typeAssert (.iface 5 v) 20 23 true).run Tryd.prog W = .ok (.tuple #[.agg #[.int .u8 0, .int .u8 0, .int .u8 0, .int .u8 0, .int .u8 0, .int .u8 0, .int .u8 0, .int .u8 0, .int .u8 0, .int .u8 0, .int .u8 0, .int .u8 0, .int .u8 0, .int .u8 0, .int .u8 0, .int .u8 0, .int .u8 0, .int .u8 0, .int .u8 0, .int .u8 0, .int .u8 0, .int .u8 0, .int .u8 0, .int .u8 0, .int .u8 0, .int .u8 0, .int .u8 0, .int .u8 0, .int .u8 0, .int .u8 0, .int .u8 0, .int .u8 0], .bool false]) W := by kernel_rfl
theorem asD_no3 (v : Value) (W : World) : (Instr.typeAssert (.iface 3 v) 20 23 true).run Tryd.prog W = .ok (.tuple #[.agg #[.int .u8 0, .int .u8 0, .int .u8 0, .int .u8 0, .int .u8 0, .int .u8 0, .int .u8 0, .int .u8 0, .int .u8 0, .int .u8 0, .int .u8 0, .int .u8 0, .int .u8 0, .int .u8 0, .int .u8 0, .int .u8 0, .int .u8 0, .int .u8 0, .int .u8 0, .int .u8 0, .int .u8 0, .int .u8 0, .int .u8 0, .int .u8 0, .int .u8 0, .int .u8 0, .int .u8 0, .int .u8 0, .int .u8 0, .int .u8 0, .int .u8 0, .int .u8 0], .bool false]) W := by kernel_rfl
theorem as5_yes (v : Value) (W : World) : (Instr.typeAssert (.iface 5 v) 20 5 true).run Tryd.prog W = .ok (.tuple #[v, .bool true]) W := by kernel_rfl
theorem as5_no3 (v : Value) (W : World) : (Instr.typeAssert (.iface 3 v) 20 5 true).run Tryd.prog W = .ok (.tuple #[.int .u8 0, .bool false]) W := by kernel_rfl
theorem as3_yes (v : Value) (W : World) : (Instr.typeAssert (.iface 3 v) 20 3 true).run Tryd.prog W = .ok (.tuple #[v, .bool true]) W := by kernel_rfl
theorem C_fresh (w : World) (l : List Int) (hl : l.length ≤ 1000) : Kd.C (Kd.int .u8) (w.alloc (.cells (cells8 l) 5)) (some ⟨w.heap.size, 0, none⟩) l.length l :=
  C_of_cells (by omega) (fun j p hj => by
    rw [add_plain, blk_cell (heap_alloc_new _ _)]
    simp [cells8, nums, hj])
/-- four bytes of a number -/
def be4 (id : Int) : List Int := [id / 16777216, id / 65536, id / 256, id % 256]
def collected (s : List Int) (lv id : Int) : Nat → List Int
  | 0 => []
  | 1 => s
  | 2 => s ++ [lv]
  | _ => s ++ [lv] ++ be4 id
theorem collected_length (s : List Int) (hs : s.length = 32) (lv id : Int) (k : Nat) : (collected s lv id k).length ≤ 37 := by
  unfold collected
  split <;> simp [be4, hs]
def partsV (s : List Int) (lv id : Int) : Array Value := #[.iface 23 (.agg (cells8 s)), .iface 5 (.int .u8 lv), .iface 3 (.int .i64 id)]
set_option maxHeartbeats 1000000 in
theorem collect_calls (s : List Int) (hs : s.length = 32) (lv id : Int) (h0 : 0 ≤ id) (h1 : id ≤ 1023) (B c : Nat) (w : World) (hB : w.heap[B]? = some (.cells (partsV s lv id) 20 (0, 0))) :
    Calls Tryd.prog 36 #[.slice (some ⟨B, 0, none⟩) 3 c] w fun e w' => ∃ v, e = .returned v ∧ Kd.R (Kd.int .u8) 5 w' w.heap.size (fun _ => True) v (s ++ [lv] ++ be4 id) ∧ Below w.heap.size w w' := by
  have HS := Aside0.mk hs
  have HB := Aside0.mk hB
  have HSs := Aside0.mk (size32 s hs)
  clear hs hB
  go_enter Tryd.func36, Tryd.ntmps36
  go_wp2_with fail
  go_loopw [2, 10] (fun v i wr => ∃ k : Nat, k ≤ 3 ∧ i = .int .i64 (k : Int) ∧ Aside0 (Kd.R (Kd.int .u8) 5 wr w.heap.size (fun _ => True) v (collected s lv id k)) ∧ Aside0 (Below w.heap.size w wr)) (fun _ i _ => 3 - (intOf i).toNat)
  case atStart => exact ⟨0, by omega, rfl, ⟨Kd.R_nil _ _ _ _ _⟩, ⟨Below.refl _ _⟩⟩
  case round =>
    obtain ⟨k, hk, rfl, HR, HBr⟩ := hrel
    have HBk := Aside0.mk (blk_of_below HB.out HBr.out)
    obtain ⟨A3, c3, n3, e3, hC3, hc3⟩ := R_any HR.out
    subst e3
    have hn3 : n3 ≤ 1000 := by rw [← Kd.C_len hC3]; have := collected_length s HS.out lv id k; omega
    have HN3 := Aside0.mk (Kd.C_len hC3)
    clear hC3
    have HSZ : Aside0 (w.heap.size ≤ wr.heap.size) := ⟨HBr.out.size⟩
    match k, hk with
    | 0, _ =>
      have ta := fun W => asD_yes (.agg (cells8 s)) W
      have f0 : wr.cell? ⟨B, 0, none⟩ = some (.iface 23 (.agg (cells8 s))) := blk_cell HBk.out 0
      have HN := Aside0.mk (heap_alloc_new wr (.cells #[.int .u8 0, .int .u8 0, .int .u8 0, .int .u8 0, .int .u8 0, .int .u8 0, .int .u8 0, .int .u8 0, .int .u8 0, .int .u8 0, .int .u8 0, .int .u8 0, .int .u8 0, .int .u8 0, .int .u8 0, .int .u8 0, .int .u8 0, .int .u8 0, .int .u8 0, .int .u8 0, .int .u8 0, .int .u8 0, .int .u8 0, .int .u8 0, .int .u8 0, .int .u8 0, .int .u8 0, .int .u8 0, .int .u8 0, .int .u8 0, .int .u8 0, .int .u8 0] 23))
      have HO : Aside0 ((#[.int .u8 0, .int .u8 0, .int .u8 0, .int .u8 0, .int .u8 0, .int .u8 0, .int .u8 0, .int .u8 0, .int .u8 0, .int .u8 0, .int .u8 0, .int .u8 0, .int .u8 0, .int .u8 0, .int .u8 0, .int .u8 0, .int .u8 0, .int .u8 0, .int .u8 0, .int .u8 0, .int .u8 0, .int .u8 0, .int .u8 0, .int .u8 0, .int .u8 0, .int .u8 0, .int .u8 0, .int .u8 0, .int .u8 0, .int .u8 0, .int .u8 0, .int .u8 0] : Array Value).size = (cells8 s).size) := ⟨by rw [cells8_size, HS.out]; rfl⟩
      have HR0 : Aside0 (Kd.R (Kd.int .u8) 5 wr w.heap.size (fun _ => True) (.slice A3 n3 c3) []) := ⟨HR.out⟩
      go_wp2_with (first
        | (with_reducible refine wpList_store_row rfl 23 (.tmp 5) (.tmp 17) rfl wr.heap.size (cells8 s) rfl rfl 23 #[.int .u8 0, .int .u8 0, .int .u8 0, .int .u8 0, .int .u8 0, .int .u8 0, .int .u8 0, .int .u8 0, .int .u8 0, .int .u8 0, .int .u8 0, .int .u8 0, .int .u8 0, .int .u8 0, .int .u8 0, .int .u8 0, .int .u8 0, .int .u8 0, .int .u8 0, .int .u8 0, .int .u8 0, .int .u8 0, .int .u8 0, .int .u8 0, .int .u8 0, .int .u8 0, .int .u8 0, .int .u8 0, .int .u8 0, .int .u8 0, .int .u8 0, .int .u8 0] HN.out HSs.out HO.out (all_one8 _) ?_; obtain ⟨w3, hw3⟩ : ∃ x, x = (wr.alloc (.cells #[.int .u8 0, .int .u8 0, .int .u8 0, .int .u8 0, .int .u8 0, .int .u8 0, .int .u8 0, .int .u8 0, .int .u8 0, .int .u8 0, .int .u8 0, .int .u8 0, .int .u8 0, .int .u8 0, .int .u8 0, .int .u8 0, .int .u8 0, .int .u8 0, .int .u8 0, .int .u8 0, .int .u8 0, .int .u8 0, .int .u8 0, .int .u8 0, .int .u8 0, .int .u8 0, .int .u8 0, .int .u8 0, .int .u8 0, .int .u8 0, .int .u8 0, .int .u8 0] 23)).setRow wr.heap.size (cells8 s) := ⟨_, rfl⟩; rw [← hw3]; have HT3 : Aside0 (w3.heap[wr.heap.size]? = some (.cells (cells8 s) 23 (0, 0))) := ⟨by rw [hw3]; exact setRow_heap _ _ _ _ _ _ HN.out⟩; have hb3 : Below wr.heap.size wr w3 := (by rw [hw3]; exact below_setRow (below_alloc (Below.refl _ _) _) (Nat.le_refl _) _); have HB3 : Aside0 (Below w.heap.size w w3) := ⟨below_step HBr.out hb3⟩; have HR3 := Aside0.mk (Kd.R_below HR0.out hb3); have HC3 : Aside0 (Kd.C (Kd.int .u8) w3 (some ⟨wr.heap.size, 0, none⟩) 32 s) := ⟨C_dig HT3.out HS.out⟩; clear hw3 hb3)
        | (at_builtin; refine Kd.R_append_rows (Kd.int .u8) (w0 := w) w.heap.size rfl (.tmp 18) (.tmp 19) 24 5 (.int .u8 0) 1 rfl Tryd.underlying24 info5 rfl (by decide) (by omega) (.slice A3 n3 c3) [] s (some ⟨wr.heap.size, 0, none⟩) 32 32 (fun _ => True) (fun _ => False) rfl rfl HR3.out HC3.out (fun _ _ h => h) (fun _ h => h.elim) (fun _ _ => trivial) HB3.out HB3.out.size (by simp) ?_; intro v4 w4 ho hb hg hat; have HO4 := Aside0.mk ho; have HB4 := Aside0.mk hb; clear ho hb hg hat))
      go_roundw
      case rel => exact ⟨1, by omega, by push_cast; rfl, ⟨HO4.out⟩, HB4⟩
      case measure => decide
    | 1, _ =>
      have ta := fun W => asD_no5 (.int .u8 lv) W
      have tb := fun W => as5_yes (.int .u8 lv) W
      have f0 : wr.cell? ⟨B, 1, none⟩ = some (.iface 5 (.int .u8 lv)) := blk_cell HBk.out 1
      have HR0 : Aside0 (Kd.R (Kd.int .u8) 5 (wr.alloc (.cells #[.int .u8 lv] 5)) w.heap.size (fun _ => True) (.slice A3 n3 c3) s) := ⟨Kd.R_alloc HR.out _⟩
      have HCx : Aside0 (Kd.C (Kd.int .u8) (wr.alloc (.cells #[.int .u8 lv] 5)) (some ⟨wr.heap.size, 0, none⟩) 1 [lv]) := ⟨C_fresh wr [lv] (by simp)⟩
      have HBx := Aside0.mk (below_alloc HBr.out (.cells #[.int .u8 lv] 5))
      go_wp2_with (at_builtin; refine Kd.R_append_rows (Kd.int .u8) (w0 := w) w.heap.size rfl (.tmp 24) (.tmp 26) 24 5 (.int .u8 0) 1 rfl Tryd.underlying24 info5 rfl (by decide) (by omega) (.slice A3 n3 c3) s [lv] (some ⟨wr.heap.size, 0, none⟩) 1 1 (fun _ => True) (fun _ => False) rfl rfl HR0.out HCx.out (fun _ _ h => h) (fun _ h => h.elim) (fun _ _ => trivial) HBx.out HBx.out.size (by have := HS.out; omega) ?_; intro v4 w4 ho hb hg hat; have HO4 := Aside0.mk ho; have HB4 := Aside0.mk hb; clear ho hb hg hat)
      go_roundw
      case rel => exact ⟨2, by omega, by push_cast; rfl, ⟨HO4.out⟩, HB4⟩
      case measure => decide
    | 2, _ =>
      have ta := fun W => asD_no3 (.int .i64 id) W
      have tb := fun W => as5_no3 (.int .i64 id) W
      have tc := fun W => as3_yes (.int .i64 id) W
      have f0 : wr.cell? ⟨B, 2, none⟩ = some (.iface 3 (.int .i64 id)) := blk_cell HBk.out 2
      have HR0 : Aside0 (Kd.R (Kd.int .u8) 5 (wr.alloc (.cells (cells8 (be4 id)) 5)) w.heap.size (fun _ => True) (.slice A3 n3 c3) (s ++ [lv])) := ⟨Kd.R_alloc HR.out _⟩
      have HCx : Aside0 (Kd.C (Kd.int .u8) (wr.alloc (.cells (cells8 (be4 id)) 5)) (some ⟨wr.heap.size, 0, none⟩) 4 (be4 id)) := ⟨C_fresh wr (be4 id) (by simp [be4])⟩
      have HBx := Aside0.mk (below_alloc HBr.out (.cells (cells8 (be4 id)) 5))
      go_wp2_with (at_builtin; refine Kd.R_append_rows (Kd.int .u8) (w0 := w) w.heap.size rfl (.tmp 31) (.tmp 43) 24 5 (.int .u8 0) 1 rfl Tryd.underlying24 info5 rfl (by decide) (by omega) (.slice A3 n3 c3) (s ++ [lv]) (be4 id) (some ⟨wr.heap.size, 0, none⟩) 4 4 (fun _ => True) (fun _ => False) rfl rfl HR0.out HCx.out (fun _ _ h => h) (fun _ h => h.elim) (fun _ _ => trivial) HBx.out HBx.out.size (by simp [HS.out]) ?_; intro v4 w4 ho hb hg hat; have HO4 := Aside0.mk ho; have HB4 := Aside0.mk hb; clear ho hb hg hat)
      go_roundw
      case rel => exact ⟨3, by omega, by push_cast; rfl, ⟨HO4.out⟩, HB4⟩
      case measure => decide
    | 3, _ =>
      go_wp2_with fail
      go_ret
      exact ⟨_, rfl, HR.out, HBr.out⟩
end Go.Proofs.YtgiofinekmaceaaDoor.Q
