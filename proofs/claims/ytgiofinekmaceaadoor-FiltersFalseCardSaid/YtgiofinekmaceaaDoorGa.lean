/- words of mine, for all chapters: digests in blocks, loads, walks' steps -/
import Derived.Test.YtgiofinekmaceaaDoorDe
import Derived.Test.YtgiofinekmaceaaDoorBr
import Derived.ChangeKeysEq
namespace Go.Proofs.YtgiofinekmaceaaDoor.Q
open Go.RowKit Go.Proofs.YtgiofinekmaceaaDoorW.PrintWords Go.Proofs.YtgiofinekmaceaaDoorW.PrintLast Go.Proofs.YtgiofinekmaceaaDoorW.PrintMore
set_option linter.unusedVariables false
set_option linter.unusedSimpArgs false
/-- a digest, as an element of a slice -/
def KdD : Kd (List Int) := Kd.arr 32 (Kd.int .u8) (by decide)
theorem add_add' (a : Addr) (i j : Nat) : (a.add i).add j = a.add (i + j) := by
  unfold Addr.add
  by_cases hi : i = 0 <;> by_cases hj : j = 0 <;> simp [hi, hj]
  omega
theorem KdD_cells {w : World} {x : List Int} {c : List Value} (h : KdD.K w x c) : x.length = 32 ∧ c = nums .u8 x := by
  have h2 := Kd.arr_cells h
  exact ⟨h2.1, h2.2.trans rfl⟩
/-- element i of a slice of digests -/
theorem at_dig {w : World} {A : Option Addr} {n : Nat} {ds : List (List Int)} (h : Kd.C KdD w A n ds) (i : Nat) (hi : i < n) : ∃ ad, A = some ad ∧ (ds.getD i []).length = 32 ∧ ∀ j v, (cells8 (ds.getD i [])).toList[j]? = some v → w.cell? ((ad.add (i * 32)).add j) = some v := by
  obtain ⟨ad, c, e1, _, hK, hc0⟩ := Kd.C_get h ([] : List Int) (i : Int) (by omega) (by omega)
  rw [Int.toNat_natCast] at hK hc0
  obtain ⟨h1, rfl⟩ := KdD_cells hK
  refine ⟨ad, e1, h1, fun j v hj => ?_⟩
  rw [add_add']
  exact hc0 j v hj
/-- digests all -/
def All32 (ds : List (List Int)) : Prop := ∀ i, i < ds.length → (ds.getD i []).length = 32
theorem C_all32 {w : World} {A : Option Addr} {n : Nat} {ds : List (List Int)} (h : Kd.C KdD w A n ds) : All32 ds := fun i hi => by
  obtain ⟨_, _, h1, _⟩ := at_dig h i (by rw [← Kd.C_len h]; exact hi)
  exact h1
theorem flat32 (ds : List (List Int)) (h : All32 ds) : ∀ k, k ≤ ds.length → ((ds.take k).flatten).length = 32 * k
  | 0, _ => by simp
  | k + 1, hk => by
    rw [flat_succ ds k (by omega), List.length_append, flat32 ds h k (by omega), h k (by omega)]
    omega
section
variable {P : Program} {ops : Array Oper} {rest : List Oper} {o : Oper} {a : Act} {Q : Exit → Act → World → Prop} {w : World}
theorem run_loadVar_at (ad : Addr) (ty : TypeId) (cs : Array Value) (d : TypeDesc) (hc : ∀ j v, cs.toList[j]? = some v → w.cell? (ad.add j) = some v)
    (hu : P.underlying ty = some d) (hd : (match d with | .struct _ | .array _ _ => true | _ => false) = true) (hi : (P.info? ty).map (·.size) = some cs.size) :
    (loadVar ty ad).run P w = .ok (.agg cs) w := by
  have hl : (loadCells ad cs.toList.length).run P w = .ok cs.toList.toArray w := run_loadCells_list (P := P) w ad cs.toList hc
  cases hq : P.info? ty with
  | none => simp [hq] at hi
  | some i =>
    have hs : i.size = cs.size := by simpa [hq] using hi
    have hagg : (isAgg ty).run P w = .ok true w := by
      unfold isAgg
      rw [Sem.run_bind, run_underlying hu w]
      cases d <;> simp_all
    simp only [Array.length_toList, Array.toArray_toList] at hl
    simp [loadVar, Sem.run_bind, hagg, sizeOf, typeInfo, hq, hs, hl]
theorem wpList_load_at (hgd : o.guard = none) (ty : TypeId) (x : Operand) (ho : o.op = .load ty x) (ad : Addr) (hx : a.eval x = .pointer (some ad)) (cs : Array Value) (d : TypeDesc)
    (hc : ∀ j v, cs.toList[j]? = some v → w.cell? (ad.add j) = some v) (hu : P.underlying ty = some d) (hd : (match d with | .struct _ | .array _ _ => true | _ => false) = true) (hi : (P.info? ty).map (·.size) = some cs.size)
    (h : wpList P ops Q rest (a.put o.dst (.agg cs)) w) : wpList P ops Q (o :: rest) a w :=
  wpList_plain hgd fun K hK => by
    unfold Oper.wp execOp
    simp only [ho, hx, Instr.loadAt, Instr.sureAddr, Sem.run_bind, Sem.run_pure, Result.andThen_ok, run_loadVar_at ad ty cs d hc hu hd hi]
    exact hK _ _ h
end
theorem blk_of_below {w w' : World} {b : Nat} {o : Obj} (h : w.heap[b]? = some o) (hb : Below w.heap.size w w') : w'.heap[b]? = some o := (hb.block b (blk_lt h)).trans h
theorem D_cells {w : World} {b t : Nat} {l : List Int} (h : w.heap[b]? = some (.cells (cells8 l) t (0, 0))) : ∀ j u, (nums .u8 l)[j]? = some u → w.cell? ((⟨b, 0, none⟩ : Addr).add j) = some u := fun j u hj => by
  rw [add_plain, blk_cell h]
  simpa [cells8] using hj
theorem one_cell (w : World) (t : TypeId) (x : Int) : ∀ j u, (nums .u8 [x])[j]? = some u → (w.alloc (.cells #[.int .u8 x] t)).cell? ((⟨w.heap.size, 0, none⟩ : Addr).add j) = some u := fun j u hj => by
  rw [add_plain, blk_cell (heap_alloc_new _ _)]
  simpa [nums] using hj
def KpF (w0 : World) (B : Nat) (W W' : World) : Prop := Below w0.heap.size W W' ∧ ∀ o, W.heap[B]? = some o → W'.heap[B]? = some o
theorem KpF_t {w0 : World} {B : Nat} {X Y Z : World} (h : KpF w0 B X Y) (k : KpF w0 B Y Z) : KpF w0 B X Z := ⟨h.1.trans k.1, fun o ho => k.2 o (h.2 o ho)⟩
theorem KpF_b {w0 w : World} {B : Nat} (hn : w0.heap.size ≤ w.heap.size) (hB : B < w.heap.size) (W : World) (l : Nat) (o o' : Obj) (hl : w.heap.size ≤ l) (h : W.heap[l]? = some o) (hc : o.isCells = false) (hw : o.isWalk = false) : KpF w0 B W (W.putObj l o') :=
  ⟨belowK_b hn W l o o' hl h hc hw, fun u hu => ((grownBy_putObj' W l o').block B (blk_lt hu) (fun e => by cases e; omega)).trans hu⟩
theorem KpF_of {w0 W W' : World} {B : Nat} (hn : w0.heap.size ≤ W.heap.size) (h : Below W.heap.size W W') : KpF w0 B W W' := ⟨h.mono hn, fun o ho => (h.block B (blk_lt ho)).trans ho⟩
theorem info23 : (Tryd.prog.info? 23).map (fun i => (i.zero, i.size, i.bytes)) = some (some (.agg #[.int .u8 0, .int .u8 0, .int .u8 0, .int .u8 0, .int .u8 0, .int .u8 0, .int .u8 0, .int .u8 0, .int .u8 0, .int .u8 0, .int .u8 0, .int .u8 0, .int .u8 0, .int .u8 0, .int .u8 0, .int .u8 0, .int .u8 0, .int .u8 0, .int .u8 0, .int .u8 0, .int .u8 0, .int .u8 0, .int .u8 0, .int .u8 0, .int .u8 0, .int .u8 0, .int .u8 0, .int .u8 0, .int .u8 0, .int .u8 0, .int .u8 0, .int .u8 0]), 32, 32) := by kernel_rfl
theorem load_run {P : Program} {o : Oper} {a : Act} {w : World} (ty : TypeId) (x : Operand) (ho : o.op = .load ty x)
    (g : Nat) (hx : a.eval x = .pointer (some ⟨g, 0, none⟩)) (t : TypeId) (cs : Array Value) (fr : Nat × Nat) (d : TypeDesc) (hg : w.heap[g]? = some (.cells cs t fr))
    (hu : P.underlying ty = some d) (hd : (match d with | .struct _ | .array _ _ => true | _ => false) = true) (hi : (P.info? ty).map (·.size) = some cs.size) :
    (execOp a.eval o).run P w = .ok (.value (.agg cs)) w := by
  unfold execOp
  simp only [ho, hx, Instr.loadAt, Instr.sureAddr, Sem.run_bind, Sem.run_pure, Result.andThen_ok, run_loadVar_row w g t ty cs fr d hg hu hd hi]
theorem region_in {P : Program} {n l₀ : Nat} {Q : Exit → Act → World → Prop} {a : Act} {w : World} {id : Nat} {l : List Oper} (hd : l.all noDefer = true) (hQ : ¬ LetsOut Q) (h : wpList P l.toArray Q l a w) : (Code.region id l.toArray false).wpIn (Fence.wide.inRound l₀) n P Q a w :=
  region_WF (ro := some l₀) hd hQ h
theorem start_in {P : Program} {n N l₀ : Nat} {Q : Exit → Act → World → Prop} {a : Act} {w : World} {ops : Array Oper} {S : World → Prop} {ds : List Nat} {id : Nat} (l : Array Bool) (hd : ops.all noDefer = true) (hQ : ¬ LetsOut Q) (hm : P.follows .mixedOrders = true) (hn : ops.size = n) (hl : Array.replicate n false = l) (hS : S w.drew)
    (h : S w.drew → wpAnyLast P .any ops Q S ds n l a w.drew) : (Code.region id ops true).wpIn (Fence.wide.inRound l₀) N P Q a w :=
  start_WF (ro := some l₀) l hd hQ hm hn hl hS h
theorem keeps_setRow (W : World) (g : Nat) (cs : Array Value) : KeepsOthers W (W.setRow g cs) :=
  ⟨by simp [World.setRow], fun k o hk ho => by
    by_cases e : k = g
    · subst e
      simp only [World.setRow, Array.getElem?_modify, hk, if_true, Option.map_some]
      cases o <;> first | rfl | cases ho
    · exact (setRow_other W g k cs e).trans hk⟩
theorem keeps_below {W W' : World} (h : Below W.heap.size W W') : KeepsOthers W W' := ⟨h.size, fun k o hk _ => (h.block k (blk_lt hk)).trans hk⟩
theorem dig_M {w : World} {base : Nat} {ok : Nat → Prop} (y : List Int) (h : y.length = 32) : KdD.M w base ok y (nums .u8 y) := Kd.arr_of_cells h
theorem blk_kept {W W' : World} {row : Option Nat} {b t : Nat} {cs : Array Value} (h : W.heap[b]? = some (.cells cs t (0, 0))) (hg : W.grownBy W' row) (hr : ∀ r, row = some r → ∃ o : Obj, W.heap[r]? = some o ∧ o.isCells = false) : W'.heap[b]? = some (.cells cs t (0, 0)) :=
  blk_grown h hg (fun e => by
    obtain ⟨o, ho, hc⟩ := hr b e.symm
    rw [h] at ho
    cases ho
    cases hc)
theorem R_kept {α : Type} {d : Kd α} {e base : Nat} {ok : Nat → Prop} {v : Value} {xs : List α} {W W' : World} {row : Option Nat} (h : d.R e W base ok v xs) (hg : W.grownBy W' row) (hr : ∀ r, row = some r → ∃ o : Obj, W.heap[r]? = some o ∧ o.isCells = false) : d.R e W' base ok v xs :=
  Kd.R_mono (Kd.R_grown (Kd.R_bound h) hg (fun k hk e => by
    obtain ⟨_, _, _, q, _, cells, hc⟩ := hk
    obtain ⟨o, ho, hc'⟩ := hr k e.symm
    rw [hc] at ho
    cases ho
    cases hc')) (fun _ hk => hk.1)
theorem results_cell_slice {P : Program} {fn : Func} {p : Tmp} {ty e : TypeId} (h : fn.results = #[.cell p ty]) (tmps : Array Value) (w : World) (g : Nat) (v : Value)
    (hp : tmps.getD p undef = .pointer (some ⟨g, 0, none⟩)) (hc : w.cell? ⟨g, 0, none⟩ = some v) (hu : P.underlying ty = some (.slice e)) :
    (results fn tmps).run P w = .ok v w := by
  have hp' : tmps[p]?.getD undef = .pointer (some ⟨g, 0, none⟩) := by simpa using hp
  have hagg : (isAgg ty).run P w = .ok false w := by
    unfold isAgg
    rw [Sem.run_bind, run_underlying hu w]
    rfl
  simp [results, h, hp', asAddr, loadVar, Sem.run_bind, hagg]
  go_simp
theorem R_anyD {e base : Nat} {ok : Nat → Prop} {w : World} {v : Value} {xs : List (List Int)} (h : KdD.R e w base ok v xs) : ∃ A c n, v = .slice A n c ∧ KdD.C w A n xs ∧ n ≤ c := by
  obtain ⟨A, c, e1, h1, h2⟩ := Kd.R_reads h
  exact ⟨A, c, xs.length, e1, h2, h1⟩
theorem eqItems_nums (w : World) (d : Nat) (xs ys : List Int) : ∀ is : List Nat, (∀ i, i ∈ is → i < xs.length ∧ i < ys.length) → (Op.eqItems (d + 1) 5 1 (cells8 xs) (cells8 ys) is).run Tryd.prog w = .ok (is.all fun i => rd xs (i : Int) == rd ys (i : Int)) w
  | [], _ => by simp [Op.eqItems]
  | i :: is, h => by
    obtain ⟨h1, h2⟩ := h i List.mem_cons_self
    have px : (part 5 (cells8 xs) (i * 1)).run Tryd.prog w = .ok (.int .u8 (rd xs (i : Int))) w := by
      have := cells8_get xs i h1
      simp [part, isAgg, run_underlying Tryd.underlying5, this]
    have py : (part 5 (cells8 ys) (i * 1)).run Tryd.prog w = .ok (.int .u8 (rd ys (i : Int))) w := by
      have := cells8_get ys i h2
      simp [part, isAgg, run_underlying Tryd.underlying5, this]
    have ih := eqItems_nums w d xs ys is (fun j hj => h j (List.mem_cons_of_mem _ hj))
    simp only [Op.eqItems, Sem.run_bind, px, py, run_equalIn_int w d 5 .u8 .u8 _ _ Tryd.underlying5, Result.andThen_ok, List.all_cons]
    cases rd xs (i : Int) == rd ys (i : Int)
    · simp
    · simpa using ih
theorem all_rd : ∀ (xs ys : List Int), xs.length = ys.length → ((List.range xs.length).all fun i => rd xs (i : Int) == rd ys (i : Int)) = (xs == ys) := fun xs ys h => by
  rw [Bool.eq_iff_iff]
  simp only [List.all_eq_true, List.mem_range, beq_iff_eq, rd, Int.toNat_natCast]
  constructor
  · intro hh
    refine List.ext_getElem h (fun i h1 h2 => ?_)
    have := hh i h1
    simpa [List.getD, h1, h2] using this
  · rintro rfl i _
    rfl
theorem eq_dig (w : World) (xs ys : List Int) (hx : xs.length = 32) (hy : ys.length = 32) : (Op.equalIn 10000 23 (.agg (cells8 xs)) (.agg (cells8 ys))).run Tryd.prog w = .ok (xs == ys) w := by
  obtain ⟨i0, hi, _⟩ := info_parts info5
  rw [run_equalIn_array w 9999 _ _ Tryd.underlying23 hi, show Tryd.prog.cellsOf 5 = 1 from by kernel_rfl, eqItems_nums w 9998 xs ys _ (fun i hi => by rw [hx, hy]; simpa using hi), ← all_rd xs ys (hx.trans hy.symm), hx]
theorem wpList_on {P : Program} {ops : Array Oper} {rest : List Oper} {o : Oper} {a : Act} {Q : Exit → Act → World → Prop} {w w1 : World} {v : Value} (hw : Region.wanted o (yielded ops a.tmps) = true) (hrun : (execOp a.eval o).run P w = .ok (.value v) w1) (h : wpList P ops Q rest (a.put o.dst v) w1) : wpList P ops Q (o :: rest) a w := by
  unfold wpList
  rw [if_pos hw]
  exact Or.inl (by unfold Oper.wp; rw [hrun]; exact h)
theorem load_run_at {P : Program} {o : Oper} {a : Act} {w : World} (ty : TypeId) (x : Operand) (ho : o.op = .load ty x) (ad : Addr) (hx : a.eval x = .pointer (some ad)) (cs : Array Value) (d : TypeDesc)
    (hc : ∀ j v, cs.toList[j]? = some v → w.cell? (ad.add j) = some v) (hu : P.underlying ty = some d) (hd : (match d with | .struct _ | .array _ _ => true | _ => false) = true) (hi : (P.info? ty).map (·.size) = some cs.size) :
    (execOp a.eval o).run P w = .ok (.value (.agg cs)) w := by
  unfold execOp
  simp only [ho, hx, Instr.loadAt, Instr.sureAddr, Sem.run_bind, Sem.run_pure, Result.andThen_ok, run_loadVar_at ad ty cs d hc hu hd hi]
theorem alloc_run {o : Oper} {a : Act} (ho : o.op = .alloc 23) (w : World) : (execOp a.eval o).run Tryd.prog w = .ok (.value (.pointer (some ⟨w.heap.size, 0, none⟩))) (w.alloc (.cells #[.int .u8 0, .int .u8 0, .int .u8 0, .int .u8 0, .int .u8 0, .int .u8 0, .int .u8 0, .int .u8 0, .int .u8 0, .int .u8 0, .int .u8 0, .int .u8 0, .int .u8 0, .int .u8 0, .int .u8 0, .int .u8 0, .int .u8 0, .int .u8 0, .int .u8 0, .int .u8 0, .int .u8 0, .int .u8 0, .int .u8 0, .int .u8 0, .int .u8 0, .int .u8 0, .int .u8 0, .int .u8 0, .int .u8 0, .int .u8 0, .int .u8 0, .int .u8 0] 23)) := by
  unfold execOp
  simp only [ho]
  kernel_rfl
theorem store_row_ {P : Program} {ops : Array Oper} {oi : Oper} {a : Act} {w : World} {K : Act → World → Prop} {Q : Exit → Act → World → Prop} (hw : Region.wanted oi (yielded ops a.tmps) = true) (ty : TypeId) (x y : Operand) (ho : oi.op = .store ty x y) (hN : oi.dst = none)
    (g : Nat) (cells : Array Value) (hx : a.eval x = .pointer (some ⟨g, 0, none⟩)) (hy : a.eval y = .agg cells) (t : TypeId) (old : Array Value) (hg : w.heap[g]? = some (.cells old t (0, 0))) (hi : (P.info? ty).map (·.size) = some cells.size) (hold : old.size = cells.size) (h1 : cells.all (·.oneCell') = true)
    (h : K a (w.setRow g cells)) : if Region.wanted oi (yielded ops a.tmps) = true then Oper.wp P oi a w K Q else K (a.put none undef) w := by
  rw [if_pos hw]
  exact wp_store_row ty x y ho g cells hx hy t old hg hi hold h1 (by rw [hN]; exact h)
theorem own_lt {α : Type} {d : Kd α} {e base : Nat} {ok : Nat → Prop} {w : World} {v : Value} {xs : List α} (h : d.R e w base ok v xs) {k : Nat} (hk : v.ownBlock = some k) : k < w.heap.size := ((Kd.R_bound h).1 k hk).2.2.1
/-- u's block is not v's; v grew to v1 -/
theorem ne_after {α : Type} {d : Kd α} {e base : Nat} {ok : Nat → Prop} {W : World} {u v v1 : Value} {xs : List α} (h : d.R e W base ok u xs) (hne : ∀ q, v.ownBlock = some q → some q ≠ u.ownBlock) (hat : v1.ownBlock = v.ownBlock ∨ ∃ b, v1.ownBlock = some b ∧ W.heap.size ≤ b) : ∀ q, v1.ownBlock = some q → some q ≠ u.ownBlock := fun q hq hu => by
  rcases hat with hat | ⟨b, hb, hle⟩
  · exact hne q (hat ▸ hq) hu
  · have := own_lt h hu.symm
    rw [hb] at hq
    cases hq
    omega
theorem ne_turn {u v : Value} (h : ∀ q, v.ownBlock = some q → some q ≠ u.ownBlock) : ∀ q, u.ownBlock = some q → some q ≠ v.ownBlock := fun q hq hv => h q hv.symm hq.symm
theorem C_row32 {w : World} {ad : Addr} {x : List Int} (hl : x.length = 32) (h : ∀ j v, (cells8 x).toList[j]? = some v → w.cell? (ad.add j) = some v) : Kd.C (Kd.int .u8) w (some ad) 32 x := by
  have := C_of_cells (kd := .u8) (w := w) (ad := ad) (xs := x) (by omega) (fun j p hj => h j _ (by simp [cells8, nums, hj]))
  rwa [hl] at this
end Go.Proofs.YtgiofinekmaceaaDoor.Q
