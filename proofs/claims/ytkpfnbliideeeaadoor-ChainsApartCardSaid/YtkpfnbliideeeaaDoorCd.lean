/- chains: Public -/
import Derived.Test.YtkpfnbliideeeaaDoorCc
import Derived.Shelf.Abstract
import Derived.Great.BuildSlice
namespace Go.Proofs.YtkpfnbliideeeaaDoor.Q
open Go.RowKit Go.Shelf Go.Proofs.YtkpfnbliideeeaaDoorW.PrintWords Go.Proofs.YtkpfnbliideeeaaDoorW.PrintLast Go.Proofs.YtkpfnbliideeeaaDoorW.PrintMore
set_option linter.unusedVariables false
set_option linter.unusedSimpArgs false
attribute [local go_sem] Oper.semAt_some
theorem info23 : (Tryd.prog.info? 23).map (fun i => (i.zero, i.size, i.bytes)) = some (some (.agg #[.int .u8 0, .int .u8 0, .int .u8 0, .int .u8 0, .int .u8 0, .int .u8 0, .int .u8 0, .int .u8 0, .int .u8 0, .int .u8 0, .int .u8 0, .int .u8 0, .int .u8 0, .int .u8 0, .int .u8 0, .int .u8 0, .int .u8 0, .int .u8 0, .int .u8 0, .int .u8 0, .int .u8 0, .int .u8 0, .int .u8 0, .int .u8 0, .int .u8 0, .int .u8 0, .int .u8 0, .int .u8 0, .int .u8 0, .int .u8 0, .int .u8 0, .int .u8 0]), 32, 32) := by kernel_rfl
theorem load_run {P : Program} {o : Oper} {a : Act} {w : World} (ty : TypeId) (x : Operand) (ho : o.op = .load ty x)
    (g : Nat) (hx : a.eval x = .pointer (some ⟨g, 0, none⟩)) (t : TypeId) (cs : Array Value) (fr : Nat × Nat) (d : TypeDesc) (hg : w.heap[g]? = some (.cells cs t fr))
    (hu : P.underlying ty = some d) (hd : (match d with | .struct _ | .array _ _ => true | _ => false) = true) (hi : (P.info? ty).map (·.size) = some cs.size) :
    (execOp a.eval o).run P w = .ok (.value (.agg cs)) w := by
  unfold execOp
  simp only [ho, hx, Instr.loadAt, Instr.sureAddr, Sem.run_bind, Sem.run_pure, Result.andThen_ok, run_loadVar_row w g t ty cs fr d hg hu hd hi]
theorem region_in {P : Program} {n l₀ : Nat} {Q : Exit → Act → World → Prop} {a : Act} {w : World} {id : Nat} {l : List Oper} (hd : l.all noDefer = true) (hQ : ¬ LetsOut Q) (h : wpList P l.toArray Q l a w) : (Code.region id l.toArray false).wpIn (Fence.wide.inRound l₀) n P Q a w :=
  region_WF (ro := some l₀) hd hQ h
theorem start_in {P : Program} {n N l₀ : Nat} {Q : Exit → Act → World → Prop} {a : Act} {w : World} {ops : Array Oper} {S : World → Prop} {ds : List Nat} {id : Nat} (l : Array Bool) (hd : ops.all noDefer = true) (hQ : ¬ LetsOut Q) (hm : P.follows .mixedOrders = true) (hn : ops.size = n) (hl : Array.replicate n false = l) (hS : S w.drew)
    (h : S w.drew → wpAnyLast P .any ops Q S ds n l a w.drew) : (Code.region id ops true).wpIn (Fence.wide.inRound l₀) N P Q a w :=
  start_WF (ro := some l₀) l hd hQ hm hn hl hS h
theorem keeps_setRow (W : World) (g : Nat) (cs : Array Value) : KeepsOthers W (W.setRow g cs) :=
  ⟨by simp [World.setRow], fun k o hk ho => by
    by_cases e : k = g
    · subst e
      simp only [World.setRow, Array.getElem?_modify, hk, if_true, Option.map_some]
      cases o <;> first | rfl | cases ho
    · exact (setRow_other W g k cs e).trans hk⟩
theorem keeps_below {W W' : World} (h : Below W.heap.size W W') : KeepsOthers W W' := ⟨h.size, fun k o hk _ => (h.block k (blk_lt hk)).trans hk⟩
theorem dig_M {w : World} {base : Nat} {ok : Nat → Prop} (y : List Int) (h : y.length = 32) : KdD.M w base ok y (nums .u8 y) := Kd.arr_of_cells h
/-- what a region that appends to a variable reads -/
def SP (tl bl : Nat) (v : Value) (Bx : Nat) (cs : Array Value) (W : World) : Prop := Boxed W bl tl v ∧ W.heap[Bx]? = some (.cells cs 23 (0, 0))
theorem fold_from : ∀ (l : List Value) (k : Nat) (cs : Array Value), k + l.length = cs.size → (l.zipIdx k).foldl (fun cs x => cs.setIfInBounds x.2 x.1) cs = (cs.toList.take k ++ l).toArray
  | [], k, cs, h => by
    rw [List.append_nil, List.take_of_length_le (by simp at h ⊢; omega)]
    rfl
  | x :: l, k, cs, h => by
    rw [List.zipIdx_cons, List.foldl_cons, fold_from l (k + 1) _ (by simp at h ⊢; omega)]
    simp only [Array.toList_setIfInBounds, List.take_add_one, List.take_set_of_le (Nat.le_refl _), List.append_assoc]
    rw [List.getElem?_set_self (by simp at h ⊢; omega)]
    rfl
theorem fold_all (v cs : Array Value) (h : v.size = cs.size) : v.zipIdx.foldl (fun cs x => cs.setIfInBounds x.2 x.1) cs = v := by
  rw [← Array.foldl_toList, Array.toList_zipIdx, fold_from _ 0 cs (by simpa using h)]
  simp
/-- a slice of one digest -/
theorem build_one (y : List Int) (hy : y.length = 32) (w : World) : (Instr.buildSlice 24 1 #[(0, .agg (cells8 y))]).run Tryd.prog w = .ok (.slice (some ⟨w.heap.size, 0, none⟩) 1 1) (w.alloc (.cells (cells8 y) 23)) := by
  cases hie : Tryd.prog.info? 23 with
  | none => have := info23; rw [hie] at this; cases this
  | some ie =>
    have hh := info23
    rw [hie] at hh
    simp only [Option.map_some, Option.some.injEq, Prod.mk.injEq] at hh
    obtain ⟨hz, hs, _⟩ := hh
    refine run_buildSlice w 24 23 1 _ _ ie _ Tryd.underlying24 hie hz (by rw [hs]; decide) (by rw [hs]; decide) ?_
    rw [hs]
    have hy' : (cells8 y).size = 32 := by simp [cells8, nums, hy]
    generalize hg : Array.map _ (Array.range (1 * 32)) = cs
    have hcs : cs.size = 32 := by rw [← hg]; simp
    clear hg
    simp only [Instr.fill, Value.cells, hy', hcs, Nat.zero_mul, Nat.zero_add, ne_eq, not_true_eq_false, gt_iff_lt, Nat.lt_irrefl, decide_false, Bool.or_self, Bool.false_eq_true, if_false, or_self]
    rw [fold_all _ cs (by rw [hy', hcs])]
theorem build_run {a : Act} {o : Oper} (x : Operand) (ho : o.op = .buildSlice 24 1 #[(0, x)]) (y : List Int) (hy : y.length = 32) (hx : a.eval x = .agg (cells8 y)) (w : World) :
    (execOp a.eval o).run Tryd.prog w = .ok (.value (.slice (some ⟨w.heap.size, 0, none⟩) 1 1)) (w.alloc (.cells (cells8 y) 23)) := by
  unfold execOp
  simp only [ho, Sem.run_bind, Sem.run_pure, List.map_toArray, List.map_cons, List.map_nil, hx, build_one y hy w, Result.andThen_ok]
theorem firsts_calls (d : List Int) (w : World) :
    Calls Tryd.prog 23 #[.agg (cells8 d)] w fun e w' => e = .returned (.func (.func 28) #[] #[.pointer (some ⟨w.heap.size, 0, none⟩)]) ∧ w' = w.alloc (.cells (cells8 d) 23) := by
  go_enter Tryd.func23, Tryd.ntmps23
  go_wp2_with fail
  go_ret
  exact ⟨rfl, rfl⟩
theorem blk_kept {W W' : World} {row : Option Nat} {b t : Nat} {cs : Array Value} (h : W.heap[b]? = some (.cells cs t (0, 0))) (hg : W.grownBy W' row) (hr : ∀ r, row = some r → ∃ o : Obj, W.heap[r]? = some o ∧ o.isCells = false) : W'.heap[b]? = some (.cells cs t (0, 0)) :=
  blk_grown h hg (fun e => by
    obtain ⟨o, ho, hc⟩ := hr b e.symm
    rw [h] at ho
    cases ho
    cases hc)
theorem R_kept {α : Type} {d : Kd α} {e base : Nat} {ok : Nat → Prop} {v : Value} {xs : List α} {W W' : World} {row : Option Nat} (h : d.R e W base ok v xs) (hg : W.grownBy W' row) (hr : ∀ r, row = some r → ∃ o : Obj, W.heap[r]? = some o ∧ o.isCells = false) : d.R e W' base ok v xs :=
  Kd.R_mono (Kd.R_grown (Kd.R_bound h) hg (fun k hk e => by
    obtain ⟨_, _, _, q, _, cells, hc⟩ := hk
    obtain ⟨o, ho, hc'⟩ := hr k e.symm
    rw [hc] at ho
    cases ho
    cases hc')) (fun _ hk => hk.1)
/-- what a loop over the iterator that collects digests keeps: the collecting variable in block bl, another variable in block kb -/
def collects (w : World) (m bl tl kb kt : Nat) (kc : Array Value) (f : List (Fin 19) → List (List Int)) (pre : List (Fin 19)) (W : World) : Prop :=
  (∃ v, Boxed W bl tl v ∧ KdD.R 23 W m (fun _ => True) v (f pre)) ∧ W.heap[kb]? = some (.cells kc kt (0, 0)) ∧ Below w.heap.size w W ∧ m ≤ W.heap.size
theorem collects_own {w : World} {m bl tl kb kt : Nat} {kc : Array Value} {f : List (Fin 19) → List (List Int)} (hm : w.heap.size ≤ m) : OwnFrom m (collects w m bl tl kb kt kc f) := by
  rintro s W W' row ⟨⟨v, h1, h2⟩, h3, h4, h5⟩ hg hr
  have hr' := fun r e => (hr r e).2
  exact ⟨⟨v, blk_kept h1 hg hr', R_kept h2 hg hr'⟩, blk_kept h3 hg hr', h4.grown hg h4.size (fun k e => by have := (hr k e).1; omega), Nat.le_trans h5 hg.size⟩
theorem collects_below {w W W' : World} {m bl tl kb kt : Nat} {kc : Array Value} {f : List (Fin 19) → List (List Int)} {pre : List (Fin 19)} (h : collects w m bl tl kb kt kc f pre W) (hb : Below W.heap.size W W') : collects w m bl tl kb kt kc f pre W' := by
  obtain ⟨⟨v, h1, h2⟩, h3, h4, h5⟩ := h
  exact ⟨⟨v, blk_of_below h1 hb, Kd.R_below h2 hb⟩, blk_of_below h3 hb, h4.trans (hb.mono h4.size), Nat.le_trans h5 hb.size⟩
theorem collect_step {w W w2 w3 : World} {m bl tl kb kt B : Nat} {kc : Array Value} {f : List (Fin 19) → List (List Int)} {pre : List (Fin 19)} {x : Fin 19} {y : List Int} {L : List (List Int)} {v v1 : Value}
    (hw : w.heap.size ≤ bl) (hbl : bl < m) (hkm : kb < m) (hBm : B < m) (hkb : kb ≠ bl) (hB : B ≠ bl) (ht : 23 ≠ tl)
    (hI : W.heap[kb]? = some (.cells kc kt (0, 0)) ∧ Below w.heap.size w W ∧ m ≤ W.heap.size) (hbox : Boxed W bl tl v) (hR : KdD.R 23 W m (fun _ => True) v L)
    (hb2 : Below W.heap.size W w2) (h3 : KdD.R 23 w3 m (fun _ => True) v1 (L ++ [y])) (hg : w2.grownBy w3 v.ownBlock) (hf : f (pre ++ [x]) = L ++ [y]) :
    Boxed w3 bl tl v ∧ (KeepsFrom m W (w3.setCell ⟨bl, 0, none⟩ v1) ∧ KpF w B W (w3.setCell ⟨bl, 0, none⟩ v1) ∧ collects w m bl tl kb kt kc f (pre ++ [x]) (w3.setCell ⟨bl, 0, none⟩ v1)) := by
  obtain ⟨hI3, hI4, hI5⟩ := hI
  obtain ⟨inner, ho⟩ := Kd.R_own (Kd.R_below hR hb2)
  have hrow : ∀ k, v.ownBlock = some k → m ≤ k := fun k hk => own_base ho k hk
  have hall : ∀ i o, W.heap[i]? = some o → i < m → w3.heap[i]? = some o := fun i o hi hlt => blk_grown (blk_of_below hi hb2) hg (fun e => by have := hrow i e.symm; omega)
  have hbox3 : Boxed w3 bl tl v := hall _ _ hbox hbl
  have hgB : Below w.heap.size W w3 := (hb2.mono hI4.size).trans ((Below.refl _ _).grown hg (Nat.le_trans hI4.size hb2.size) (fun k e => by have := hrow k e; omega))
  have hBl : Below w.heap.size W (w3.setCell ⟨bl, 0, none⟩ v1) := hgB.setCell (p := ⟨bl, 0, none⟩) hw _
  refine ⟨hbox3, ?_, ⟨hBl, fun o hBo => ?_⟩, ⟨v1, hbox3.set v1, ?_⟩, blk_far (hall _ _ hI3 hkm) (p := ⟨bl, 0, none⟩) hkb _, hI4.trans hBl, ?_⟩
  · refine KeepsOthers.from (((keeps_below hb2).trans (KeepsOthers.of_grownBy hg (fun j o e hj => ?_))).trans (KeepsOthers.setCell _ _ _)) _
    obtain ⟨cells, hc⟩ := own_typed ho j e
    rw [hc] at hj
    cases hj
    rfl
  · by_cases hBW : B < W.heap.size
    · exact (Below.heap_setCell w3 ⟨bl, 0, none⟩ v1 B hB).trans (hall _ _ hBo hBm)
    · omega
  · rw [hf]
    exact Kd.R_set h3 hbox3 (fun q hq => by
      have : q = 23 := by simpa [KdD, Kd.arr, Kd.int, Kd.scalar] using hq
      rw [this]
      exact ht) 0 v1
  · exact Nat.le_trans hI5 hBl.size
theorem fin_range {β : Type} (f : Nat → β) : (List.finRange 19).map (fun x => f x.val) = (List.range 19).map f := List.ext_getElem (by simp) (fun i _ _ => by simp)
/-- the last element of chain k of a seed -/
def lastD (d : List Int) (k : Nat) : List Int := stepsD (chainD d k) 3
def publicD (d : List Int) : List Int := keyD ((List.range 19).map (lastD d))
set_option maxHeartbeats 400000 in
theorem Public_calls (d : List Int) (hd : d.length = 32) (w : World) (hT : Tabs w) :
    Calls Tryd.prog 15 #[.agg (cells8 d)] w fun e w' => e = .returned (.agg (cells8 (publicD d))) ∧ Below w.heap.size w w' := by
  have HD := Aside0.mk hd
  have HT := Aside0.mk hT
  have HS8 := Aside0.mk (size32 d hd)
  have HM0 := Aside0.mk (heap_alloc_new w (.cells (cells8 d) 23))
  clear hd hT
  refine (callsIn_wide (n := 3)).1 ?_
  refine callsIn_of_wp_marks Tryd.func15 rfl trivial ?_ rfl
  simp only [Tryd.ntmps15, List.size_toArray, List.length_cons, List.length_nil, Nat.reduceAdd, Nat.reduceSub, Array.replicate_succ, Array.replicate_zero, List.push_toArray, List.append_toArray, List.nil_append, List.cons_append]
  refine wpIn_wide.2 ?_
  have HM1 : Aside0 ((((w.alloc (.cells (cells8 d) 23)).alloc (.cells #[.int .u8 0, .int .u8 0, .int .u8 0, .int .u8 0, .int .u8 0, .int .u8 0, .int .u8 0, .int .u8 0, .int .u8 0, .int .u8 0, .int .u8 0, .int .u8 0, .int .u8 0, .int .u8 0, .int .u8 0, .int .u8 0, .int .u8 0, .int .u8 0, .int .u8 0, .int .u8 0, .int .u8 0, .int .u8 0, .int .u8 0, .int .u8 0, .int .u8 0, .int .u8 0, .int .u8 0, .int .u8 0, .int .u8 0, .int .u8 0, .int .u8 0, .int .u8 0] 23)).alloc (.cells #[.slice none 0 0] 24)).heap[w.heap.size]? = some (.cells (cells8 d) 23 (0, 0))) := ⟨blk_alloc (blk_alloc HM0.out _) _⟩
  go_wp2_with (with_reducible refine wpList_load_row rfl 23 (.tmp 1) rfl w.heap.size rfl 23 (cells8 d) (0, 0) _ HM1.out Tryd.underlying23 rfl HS8.out ?_)
  refine (firsts_calls d _).mono ?_
  rintro e w0 ⟨rfl, hw0⟩
  have e0 : w0.heap.size = w.heap.size + 4 := by rw [hw0]; simp
  have HZ : Aside0 (w0.heap[w.heap.size + 1]? = some (.cells #[.int .u8 0, .int .u8 0, .int .u8 0, .int .u8 0, .int .u8 0, .int .u8 0, .int .u8 0, .int .u8 0, .int .u8 0, .int .u8 0, .int .u8 0, .int .u8 0, .int .u8 0, .int .u8 0, .int .u8 0, .int .u8 0, .int .u8 0, .int .u8 0, .int .u8 0, .int .u8 0, .int .u8 0, .int .u8 0, .int .u8 0, .int .u8 0, .int .u8 0, .int .u8 0, .int .u8 0, .int .u8 0, .int .u8 0, .int .u8 0, .int .u8 0, .int .u8 0] 23 (0, 0))) := ⟨by rw [hw0]; exact blk_alloc (heap_alloc2_new w _ _ |> fun h => blk_alloc h _) _⟩
  have HL : Aside0 (Boxed w0 (w.heap.size + 1 + 1) 24 (.slice none 0 0)) := ⟨by rw [hw0]; have h := Boxed.new ((w.alloc (.cells (cells8 d) 23)).alloc (.cells #[.int .u8 0, .int .u8 0, .int .u8 0, .int .u8 0, .int .u8 0, .int .u8 0, .int .u8 0, .int .u8 0, .int .u8 0, .int .u8 0, .int .u8 0, .int .u8 0, .int .u8 0, .int .u8 0, .int .u8 0, .int .u8 0, .int .u8 0, .int .u8 0, .int .u8 0, .int .u8 0, .int .u8 0, .int .u8 0, .int .u8 0, .int .u8 0, .int .u8 0, .int .u8 0, .int .u8 0, .int .u8 0, .int .u8 0, .int .u8 0, .int .u8 0, .int .u8 0] 23)) 24 (.slice none 0 0); simp only [World.size_alloc] at h; exact h.alloc _⟩
  have HB : Aside0 (Below w.heap.size w w0) := ⟨by rw [hw0]; exact below_alloc (below_alloc (below_alloc (below_alloc (Below.refl _ _) _) _) _) _⟩
  have HX : Aside0 (w0.heap[w.heap.size + 3]? = some (.cells (cells8 d) 23 (0, 0))) := ⟨by rw [hw0]; have h := heap_alloc_new (((w.alloc (.cells (cells8 d) 23)).alloc (.cells #[.int .u8 0, .int .u8 0, .int .u8 0, .int .u8 0, .int .u8 0, .int .u8 0, .int .u8 0, .int .u8 0, .int .u8 0, .int .u8 0, .int .u8 0, .int .u8 0, .int .u8 0, .int .u8 0, .int .u8 0, .int .u8 0, .int .u8 0, .int .u8 0, .int .u8 0, .int .u8 0, .int .u8 0, .int .u8 0, .int .u8 0, .int .u8 0, .int .u8 0, .int .u8 0, .int .u8 0, .int .u8 0, .int .u8 0, .int .u8 0, .int .u8 0, .int .u8 0] 23)).alloc (.cells #[.slice none 0 0] 24)) (.cells (cells8 d) 23); simp only [World.size_alloc] at h; exact h⟩
  have ea : ((((w.alloc (.cells (cells8 d) 23)).alloc (.cells #[.int .u8 0, .int .u8 0, .int .u8 0, .int .u8 0, .int .u8 0, .int .u8 0, .int .u8 0, .int .u8 0, .int .u8 0, .int .u8 0, .int .u8 0, .int .u8 0, .int .u8 0, .int .u8 0, .int .u8 0, .int .u8 0, .int .u8 0, .int .u8 0, .int .u8 0, .int .u8 0, .int .u8 0, .int .u8 0, .int .u8 0, .int .u8 0, .int .u8 0, .int .u8 0, .int .u8 0, .int .u8 0, .int .u8 0, .int .u8 0, .int .u8 0, .int .u8 0] 23)).alloc (.cells #[.slice none 0 0] 24))).heap.size = w.heap.size + 3 := by simp
  rw [ea]
  clear hw0 ea HM1 HM0
  go_wp2_with fail
  obtain ⟨b, hb⟩ : ∃ b, b = w.heap.size := ⟨_, rfl⟩
  have hle : w.heap.size ≤ b := Nat.le_of_eq hb.symm
  rw [← hb] at HZ HL HX e0 ⊢
  have he0 : b + 4 ≤ w0.heap.size := Nat.le_of_eq e0.symm
  clear hb e0
  refine (wpIn_wide (n := 9)).1 ?_
  have hsz : b ≤ w0.heap.size := by omega
  refine wpIn_rangeFunc_ownH (α := Fin 19) rfl (by omega) (gf := 28) (lb := #[.pointer (some ⟨b + 3, 0, none⟩)]) rfl trivial (enters_of Tryd.func28 (by kernel_rfl) rfl)
    (firsts_stops 8 (b + 3) d HD.out w w0 HT.out HB.out HX.out) KpF_t (KpF_b (by omega) (by omega)) (Below.refl _ _) (fun _ => rfl)
    (collects w w0.heap.size (b + 1 + 1) 24 (b + 1) 23 #[.int .u8 0, .int .u8 0, .int .u8 0, .int .u8 0, .int .u8 0, .int .u8 0, .int .u8 0, .int .u8 0, .int .u8 0, .int .u8 0, .int .u8 0, .int .u8 0, .int .u8 0, .int .u8 0, .int .u8 0, .int .u8 0, .int .u8 0, .int .u8 0, .int .u8 0, .int .u8 0, .int .u8 0, .int .u8 0, .int .u8 0, .int .u8 0, .int .u8 0, .int .u8 0, .int .u8 0, .int .u8 0, .int .u8 0, .int .u8 0, .int .u8 0, .int .u8 0] (fun pre : List (Fin 19) => pre.map (fun x => lastD d x.val))) (fun _ _ _ => False) (collects_own (by omega)) (fun _ _ _ _ _ hs _ _ => hs)
    ⟨⟨_, HL.out, Kd.R_nil _ _ _ _ _⟩, HZ.out, HB.out, Nat.le_refl _⟩
    (fun x a' W => ∃ Bx, W.heap[Bx]? = some (.cells (cells8 (chainD d x.val)) 23 (0, 0)) ∧ a' = { tmps := #[.agg (cells8 d), .pointer (some ⟨b, 0, none⟩), .pointer (some ⟨b + 1, 0, none⟩), .pointer (some ⟨b + 1 + 1, 0, none⟩), undef, .pointer (some ⟨Bx, 0, none⟩), .agg (cells8 d), .func (.func 28) #[] #[.pointer (some ⟨b + 3, 0, none⟩)], .int .i64 (x.val : Int), .agg (cells8 (chainD d x.val)), undef, undef, undef, undef, undef, undef, undef], defers := [] })
    (fun x a' _ X Y row hs hg hr => by obtain ⟨Bx, h2, h3⟩ := hs; exact ⟨Bx, blk_kept h2 hg (fun r e => (hr r e).2), h3⟩)
    ?assign ?body ?done ?stop
  case assign =>
    rintro l pre x W K hI hK
    have HI := Aside0.mk hI
    have HCH := Aside0.mk (chainD_length d x.val)
    have HN := Aside0.mk (heap_alloc_new W (.cells #[.int .u8 0, .int .u8 0, .int .u8 0, .int .u8 0, .int .u8 0, .int .u8 0, .int .u8 0, .int .u8 0, .int .u8 0, .int .u8 0, .int .u8 0, .int .u8 0, .int .u8 0, .int .u8 0, .int .u8 0, .int .u8 0, .int .u8 0, .int .u8 0, .int .u8 0, .int .u8 0, .int .u8 0, .int .u8 0, .int .u8 0, .int .u8 0, .int .u8 0, .int .u8 0, .int .u8 0, .int .u8 0, .int .u8 0, .int .u8 0, .int .u8 0, .int .u8 0] 23))
    obtain ⟨y, hy⟩ : ∃ y, y = chainD d x.val := ⟨_, rfl⟩
    rw [← hy] at HCH hK ⊢
    have HS := Aside0.mk (size32 y HCH.out)
    have HO : Aside0 ((#[.int .u8 0, .int .u8 0, .int .u8 0, .int .u8 0, .int .u8 0, .int .u8 0, .int .u8 0, .int .u8 0, .int .u8 0, .int .u8 0, .int .u8 0, .int .u8 0, .int .u8 0, .int .u8 0, .int .u8 0, .int .u8 0, .int .u8 0, .int .u8 0, .int .u8 0, .int .u8 0, .int .u8 0, .int .u8 0, .int .u8 0, .int .u8 0, .int .u8 0, .int .u8 0, .int .u8 0, .int .u8 0, .int .u8 0, .int .u8 0, .int .u8 0, .int .u8 0] : Array Value).size = (cells8 y).size) := ⟨by have := HCH.out; simp [cells8, nums, this]⟩
    clear hI hy
    refine region_in (l₀ := l) (by decide) (fun ⟨_, _, h⟩ => h) ?_
    go_wp2_with (with_reducible refine wpList_store_row rfl 23 (.tmp 5) (.tmp 9) rfl W.heap.size (cells8 y) rfl rfl 23 #[.int .u8 0, .int .u8 0, .int .u8 0, .int .u8 0, .int .u8 0, .int .u8 0, .int .u8 0, .int .u8 0, .int .u8 0, .int .u8 0, .int .u8 0, .int .u8 0, .int .u8 0, .int .u8 0, .int .u8 0, .int .u8 0, .int .u8 0, .int .u8 0, .int .u8 0, .int .u8 0, .int .u8 0, .int .u8 0, .int .u8 0, .int .u8 0, .int .u8 0, .int .u8 0, .int .u8 0, .int .u8 0, .int .u8 0, .int .u8 0, .int .u8 0, .int .u8 0] HN.out HS.out HO.out (all_one8 _) ?_)
    have hbl : Below W.heap.size W ((W.alloc (.cells #[.int .u8 0, .int .u8 0, .int .u8 0, .int .u8 0, .int .u8 0, .int .u8 0, .int .u8 0, .int .u8 0, .int .u8 0, .int .u8 0, .int .u8 0, .int .u8 0, .int .u8 0, .int .u8 0, .int .u8 0, .int .u8 0, .int .u8 0, .int .u8 0, .int .u8 0, .int .u8 0, .int .u8 0, .int .u8 0, .int .u8 0, .int .u8 0, .int .u8 0, .int .u8 0, .int .u8 0, .int .u8 0, .int .u8 0, .int .u8 0, .int .u8 0, .int .u8 0] 23)).setRow W.heap.size (cells8 y)) := below_setRow (below_alloc (Below.refl _ _) _) (Nat.le_refl _) _
    exact hK _ _ (((KeepsOthers.alloc _ _).trans (keeps_setRow _ _ _)).from _) (KpF_of HI.out.2.2.1.size hbl) (collects_below HI.out hbl) ⟨W.heap.size, setRow_heap _ _ _ _ _ _ HN.out, rfl⟩
  case body =>
    rintro l pre x a' W hl ⟨r, hr⟩ ⟨⟨v, hbox, hR⟩, hI⟩ ⟨Bx, bX, rfl⟩ hlt
    obtain ⟨c, hc⟩ : ∃ c, c = chainD d x.val := ⟨_, rfl⟩
    obtain ⟨y, hy⟩ : ∃ y, y = stepsD c 3 := ⟨_, rfl⟩
    obtain ⟨L, hL⟩ : ∃ L, L = pre.map (fun x => lastD d x.val) := ⟨_, rfl⟩
    have hf : Aside0 ((pre ++ [x]).map (fun x => lastD d x.val) = L ++ [y]) := ⟨by rw [hL, hy, hc, List.map_append]; rfl⟩
    have hcl : c.length = 32 := by rw [hc]; exact chainD_length _ _
    have hyl : y.length = 32 := by rw [hy]; exact stepsD_length _ hcl _
    have hLl : L.length < 19 := by rw [hL, List.length_map]; exact hlt
    rw [← hc] at bX ⊢
    replace hR : KdD.R 23 W w0.heap.size (fun _ => True) v L := by rw [hL]; exact hR
    have hy := Aside0.mk hy
    clear hc hL
    refine wpIn_block ?_
    refine start_in (l₀ := l) (n := 6) (S := SP 24 (b + 1 + 1) v Bx (cells8 c)) (ds := [4, 5]) #[false, false, false, false, false, false] (by kernel_rfl) (fun ⟨_, _, h⟩ => h) (by kernel_rfl) rfl rfl ⟨hbox, bX⟩ (fun hHeld => ?_)
    refine take_ (i := 0) (N := some 10) (v := v) (a' := ?_) #[true, false, false, false, false, false] rfl rfl (by kernel_rfl) (fun _ _ _ h => h) (Or.inl ⟨by rfl, fun w' s0 => ?_⟩) hHeld ?_ ?_
    · have hc := s0.1.cell
      go_simp
    rotate_left
    · simp only [Act.put, List.setIfInBounds_toArray, List.set_cons_zero, List.set_cons_succ, i64_w, i32_w]
      rfl
    refine take_ (i := 1) (N := some 11) (v := .agg (cells8 c)) (a' := ?_) #[true, true, false, false, false, false] rfl rfl (by kernel_rfl) (fun _ _ _ h => h) (Or.inl ⟨by rfl, fun w' s0 => load_run 23 (.tmp 5) rfl Bx rfl 23 _ (0, 0) _ s0.2 Tryd.underlying23 rfl (size32 c hcl)⟩) hHeld ?_ ?_
    rotate_left
    · simp only [Act.put, List.setIfInBounds_toArray, List.set_cons_zero, List.set_cons_succ, i64_w, i32_w]
      rfl
    refine one_ (i := 2) (N := some 12) #[true, true, true, false, false, false] rfl rfl (by kernel_rfl) (by decide) (fun K hK => ?_)
    refine goes_ Tryd.func24 (by kernel_rfl) rfl #[.agg (cells8 c), .int .i64 3] (by rfl) rfl rfl (by (try simp only [List.map_toArray, List.map_cons, List.map_nil]); first | done | rfl) ?_
    refine (steps_calls (c) hcl 3 (by omega) _ (HT.out.below (below_drew hI.2.1))).mono ?_
    rintro e w2 ⟨rfl, hb2⟩
    rw [show stepsD c (3 : Int).toNat = y from hy.out.symm]
    have hWb : Below W.heap.size W w2 := (below_drew (Below.refl _ _)).trans hb2
    refine ⟨_, rfl, ?_⟩
    refine hK.out _ _ ⟨blk_of_below hHeld.1 hb2, blk_of_below hHeld.2 hb2⟩ (fun hHeld2 => ?_)
    clear hK K
    refine norm_ (a' := ?_) ?_ ?_
    rotate_left
    · show Act.put _ (some 12) _ = _
      simp only [Act.put, List.setIfInBounds_toArray, List.set_cons_zero, List.set_cons_succ, i64_w, i32_w]
      rfl
    refine one_ (i := 3) (N := some 13) #[true, true, true, true, false, false] rfl rfl (by kernel_rfl) (by decide) (fun K hK => ?_)
    refine value_ (w1 := w2.alloc (.cells (cells8 (y)) 23)) (v := .slice (some ⟨w2.heap.size, 0, none⟩) 1 1) (by rfl) rfl (build_run (.tmp 12) rfl (y) hyl rfl w2) ?_
    refine hK.out _ _ ⟨blk_alloc hHeld2.1 _, blk_alloc hHeld2.2 _⟩ (fun hHeld3 => ?_)
    clear hK K
    refine norm_ (a' := ?_) ?_ ?_
    rotate_left
    · show Act.put _ (some 13) _ = _
      simp only [Act.put, List.setIfInBounds_toArray, List.set_cons_zero, List.set_cons_succ, i64_w, i32_w]
      rfl
    refine last_ (i := 4) (N := some 14) #[true, true, true, true, true, false] rfl rfl (by kernel_rfl) (by decide) (fun K hK => ?_)
    have hR2 := Kd.R_below hR hWb
    refine Kd.R_append_step KdD (w0 := w2) (W := w2) w0.heap.size (by rfl) (.tmp 10) (.tmp 13) 24 23 (.agg #[.int .u8 0, .int .u8 0, .int .u8 0, .int .u8 0, .int .u8 0, .int .u8 0, .int .u8 0, .int .u8 0, .int .u8 0, .int .u8 0, .int .u8 0, .int .u8 0, .int .u8 0, .int .u8 0, .int .u8 0, .int .u8 0, .int .u8 0, .int .u8 0, .int .u8 0, .int .u8 0, .int .u8 0, .int .u8 0, .int .u8 0, .int .u8 0, .int .u8 0, .int .u8 0, .int .u8 0, .int .u8 0, .int .u8 0, .int .u8 0, .int .u8 0, .int .u8 0]) 32 rfl Tryd.underlying24 info23 rfl (by decide) (by decide) v L (y) (nums .u8 y) (fun _ => True) (fun _ => False) rfl rfl (dig_M _ hyl) (fun _ h => h.elim) (fun _ _ => trivial) hR2 (Below.refl _ _) (Nat.le_trans hI.2.2 hWb.size) (by omega) ?_
    intro v1 w3 h3 _ hg _
    obtain ⟨hbx, hfin⟩ := collect_step (w := w) (B := b + 3) (x := x) (by omega) (by omega) (by omega) (by omega) (by omega) (by omega) (by decide) hI hbox hR hWb h3 hg hf.out
    obtain ⟨A1, c1, rfl⟩ := Kd.R_slice h3
    refine hK.out _ _ ?_
    clear hK K
    refine norm_ (a' := ?_) ?_ ?_
    rotate_left
    · show Act.put _ (some 14) _ = _
      simp only [Act.put, List.setIfInBounds_toArray, List.set_cons_zero, List.set_cons_succ, i64_w, i32_w]
      rfl
    refine last_ (i := 5) (N := none) #[true, true, true, true, true, true] rfl rfl (by kernel_rfl) (by decide) (fun K hK => ?_)
    refine skip_ (w1 := w3.setCell ⟨b + 1 + 1, 0, none⟩ (.slice A1 (L ++ [y]).length c1)) (by rfl) rfl ?_ ?_
    · have hc := hbx.cell
      have hf := hbx.frozen
      go_simp
    refine hK.out _ _ ?_
    clear hK K
    refine done_ (by kernel_rfl) ?_
    exact hfin
  case done =>
    rintro D zs W hD rfl ⟨⟨v, hbox, hR⟩, hz, hB, hm⟩ hK
    have hbc := hbox.cell
    obtain ⟨A1, c1, rfl, hle1, hC⟩ := Kd.R_reads hR
    have e19 : ((List.finRange 19).map (fun x => lastD d x.val)).length = 19 := by simp
    rw [e19] at hbc hle1 hC
    have HZ2 := Aside0.mk hz
    have HB2 := Aside0.mk hB
    have HK := Aside0.mk hK
    have HT2 := Aside0.mk (HT.out.below hB)
    obtain ⟨L, hL⟩ : ∃ L, L = (List.finRange 19).map (fun x => lastD d x.val) := ⟨_, rfl⟩
    have HC : Aside0 (KdD.C W A1 19 L) := ⟨by rw [hL]; exact hC⟩
    have HL2 := Aside0.mk hL
    clear hC hz hB hR hbox hL hK
    go_wp2_with fail
    refine (key_calls A1 19 c1 L W HC.out (by omega) (by omega) HT2.out).mono ?_
    rintro e w3 ⟨rfl, hb3⟩
    have hkl : (keyD L).length = 32 := by rw [keyD]; exact tagged_length _ _
    obtain ⟨y, hy⟩ : ∃ y, y = keyD L := ⟨_, rfl⟩
    rw [← hy] at hkl ⊢
    have HY := Aside0.mk hy
    have HS := Aside0.mk (size32 y hkl)
    have HO : Aside0 ((#[.int .u8 0, .int .u8 0, .int .u8 0, .int .u8 0, .int .u8 0, .int .u8 0, .int .u8 0, .int .u8 0, .int .u8 0, .int .u8 0, .int .u8 0, .int .u8 0, .int .u8 0, .int .u8 0, .int .u8 0, .int .u8 0, .int .u8 0, .int .u8 0, .int .u8 0, .int .u8 0, .int .u8 0, .int .u8 0, .int .u8 0, .int .u8 0, .int .u8 0, .int .u8 0, .int .u8 0, .int .u8 0, .int .u8 0, .int .u8 0, .int .u8 0, .int .u8 0] : Array Value).size = (cells8 y).size) := ⟨by simp [cells8, nums, hkl]⟩
    have HZ3 := Aside0.mk (blk_of_below HZ2.out hb3)
    have HK3 := Aside0.mk (blk_of_below HK.out hb3)
    have HB3 : Aside0 (Below w.heap.size w w3) := ⟨HB2.out.trans (hb3.mono HB2.out.size)⟩
    clear hb3 hy
    go_wp2_with (with_reducible refine wpList_store_row rfl 23 (.tmp 2) (.tmp 16) rfl (b + 1) (cells8 y) rfl rfl 23 #[.int .u8 0, .int .u8 0, .int .u8 0, .int .u8 0, .int .u8 0, .int .u8 0, .int .u8 0, .int .u8 0, .int .u8 0, .int .u8 0, .int .u8 0, .int .u8 0, .int .u8 0, .int .u8 0, .int .u8 0, .int .u8 0, .int .u8 0, .int .u8 0, .int .u8 0, .int .u8 0, .int .u8 0, .int .u8 0, .int .u8 0, .int .u8 0, .int .u8 0, .int .u8 0, .int .u8 0, .int .u8 0, .int .u8 0, .int .u8 0, .int .u8 0, .int .u8 0] HZ3.out HS.out HO.out (all_one8 _) ?_)
    have HZ4 := Aside0.mk (setRow_heap _ _ _ (cells8 y) _ _ HZ3.out)
    have HK4 : Aside0 ((w3.setRow (b + 1) (cells8 y)).heap[D]? = some (.deferred (some []))) := ⟨(setRow_other _ _ _ _ (by omega)).trans HK3.out⟩
    have HB4 : Aside0 (Below w.heap.size w (w3.setRow (b + 1) (cells8 y))) := ⟨below_setRow HB3.out (by omega) _⟩
    have hDw : w.heap.size ≤ D := by omega
    have hrd : y = publicD d := by rw [HY.out, HL2.out, publicD, fin_range]
    refine ⟨by simp [Act.put], .inl ⟨_, _, rfl, run_takeDeferred HK4.out, ?_⟩⟩
    refine ⟨.agg (cells8 y), results_cell_row rfl _ _ (b + 1) 23 (cells8 y) (0, 0) _ rfl (blk_grown HZ4.out (grownBy_putObj' _ D (.deferred none)) (fun e => by cases e; omega)) Tryd.underlying23 rfl HS.out, by rw [hrd], HB4.out.trans (belowK_b (w := w) (Nat.le_refl _) _ D _ _ hDw HK4.out rfl rfl)⟩
  case stop =>
    rintro D c pre W _ _ h _
    exact h.elim
end Go.Proofs.YtkpfnbliideeeaaDoor.Q
