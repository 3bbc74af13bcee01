/- chains: the iterator over the first elements -/
import Derived.Test.YtkpfnbliideeeaaDoorCb
import Derived.Test.YtkpfnbliideeeaaDoorBr
namespace Go.Proofs.YtkpfnbliideeeaaDoor.Q
open Go.RowKit Go.Proofs.YtkpfnbliideeeaaDoorW.PrintWords Go.Proofs.YtkpfnbliideeeaaDoorW.PrintLast Go.Proofs.YtkpfnbliideeeaaDoorW.PrintMore
set_option linter.unusedVariables false
set_option linter.unusedSimpArgs false
attribute [local go_sem] Oper.semAt_some
def tagChain : ByteArray := { data := #[99, 104, 97, 105, 110] }
/-- the first element of chain k of a seed -/
def chainD (d : List Int) (k : Nat) : List Int := tagged (bytesOf tagChain) (d ++ [(k : Int)])
theorem chainD_length (d : List Int) (k : Nat) : (chainD d k).length = 32 := tagged_length _ _
theorem blk_of_below {w w' : World} {b : Nat} {o : Obj} (h : w.heap[b]? = some o) (hb : Below w.heap.size w w') : w'.heap[b]? = some o := (hb.block b (blk_lt h)).trans h
theorem D_cells {w : World} {b t : Nat} {l : List Int} (h : w.heap[b]? = some (.cells (cells8 l) t (0, 0))) : ∀ j u, (nums .u8 l)[j]? = some u → w.cell? ((⟨b, 0, none⟩ : Addr).add j) = some u := fun j u hj => by
  rw [add_plain, blk_cell h]
  simpa [cells8] using hj
theorem take_fin {k : Nat} (h : k < 19) : (List.finRange 19).take k ++ [⟨k, h⟩] = (List.finRange 19).take (k + 1) := by
  rw [List.take_add_one, List.getElem?_eq_getElem (by simpa using h)]
  simp
theorem one_cell (w : World) (t : TypeId) (x : Int) : ∀ j u, (nums .u8 [x])[j]? = some u → (w.alloc (.cells #[.int .u8 x] t)).cell? ((⟨w.heap.size, 0, none⟩ : Addr).add j) = some u := fun j u hj => by
  rw [add_plain, blk_cell (heap_alloc_new _ _)]
  simpa [nums] using hj
def KpF (w0 : World) (B : Nat) (W W' : World) : Prop := Below w0.heap.size W W' ∧ ∀ o, W.heap[B]? = some o → W'.heap[B]? = some o
theorem KpF_t {w0 : World} {B : Nat} {X Y Z : World} (h : KpF w0 B X Y) (k : KpF w0 B Y Z) : KpF w0 B X Z := ⟨h.1.trans k.1, fun o ho => k.2 o (h.2 o ho)⟩
theorem KpF_b {w0 w : World} {B : Nat} (hn : w0.heap.size ≤ w.heap.size) (hB : B < w.heap.size) (W : World) (l : Nat) (o o' : Obj) (hl : w.heap.size ≤ l) (h : W.heap[l]? = some o) (hc : o.isCells = false) (hw : o.isWalk = false) : KpF w0 B W (W.putObj l o') :=
  ⟨belowK_b hn W l o o' hl h hc hw, fun u hu => ((grownBy_putObj' W l o').block B (blk_lt hu) (fun e => by cases e; omega)).trans hu⟩
theorem KpF_of {w0 W W' : World} {B : Nat} (hn : w0.heap.size ≤ W.heap.size) (h : Below W.heap.size W W') : KpF w0 B W W' := ⟨h.mono hn, fun o ho => (h.block B (blk_lt ho)).trans ho⟩
set_option maxHeartbeats 1000000 in
set_option maxRecDepth 100000 in
theorem firsts_stops (n B : Nat) (d : List Int) (hd : d.length = 32) (w0 w : World) (hT : Tabs w0) (h00 : Below w0.heap.size w0 w) (hB : w.heap[B]? = some (.cells (cells8 d) 23 (0, 0))) :
    SeqStopsK Fence.wide n Tryd.prog 28 #[.pointer (some ⟨B, 0, none⟩)] (fun x : Fin 19 => #[Value.int .i64 (x.val : Int), .agg (cells8 (chainD d x.val))]) (KpF w0 B) (fun ys => ys = List.finRange 19) (fun pre => pre <+: List.finRange 19) 19 w := by
  intro l J Jx W hW hJ hJx hY h0
  have HB := Aside0.mk (blk_of_below hB hW)
  have H0 : Aside0 (Below w0.heap.size w0 W) := ⟨h00.trans (hW.mono h00.size)⟩
  have HT := Aside0.mk hT
  have HJ := Aside0.mk hJ
  have HY := Aside0.mk hY
  have HD := Aside0.mk hd
  clear hB hT hJ hJx hY hd h00
  refine callsIn_of_wp Tryd.func28 rfl trivial ?_ rfl
  simp only [Tryd.ntmps28, List.size_toArray, List.length_cons, List.length_nil, Nat.reduceAdd, Nat.reduceSub, Array.replicate_succ, Array.replicate_zero, List.push_toArray, List.append_toArray, List.nil_append, List.cons_append]
  gi_wp2
  gi_loopw [4] (fun i wr => ∃ k : Nat, k ≤ 19 ∧ i = .int .i64 (k : Int) ∧ Aside0 (J ((List.finRange 19).take k) wr) ∧ Aside0 (Below w0.heap.size w0 wr) ∧ Aside0 (wr.heap[B]? = some (.cells (cells8 d) 23 (0, 0)))) (fun i _ => 19 - (intOf i).toNat)
  case atStart => exact ⟨0, by omega, rfl, ⟨h0⟩, H0, HB⟩
  case round =>
    obtain ⟨k, hk, rfl, HJk, HBk, HBr⟩ := hrel
    by_cases hlt : k < 19
    · have c5 : decide ((k : Int) < 19) = true := decide_eq_true (by omega)
      have HX := Aside0.mk (D_cells HBr.out)
      have HYc := Aside0.mk (one_cell wr 5 (k : Int))
      have HX2 : Aside0 (∀ j u, (nums .u8 d)[j]? = some u → (wr.alloc (.cells #[.int .u8 (k : Int)] 5)).cell? ((⟨B, 0, none⟩ : Addr).add j) = some u) := ⟨D_cells (blk_alloc HBr.out _)⟩
      gi_wp2_with (gi_at_builtin; (refine wpListIn_append_wide rfl (.tmp 9) (.tmp 12) 40 5 rfl Tryd.underlying40 info5 ⟨B, 0, none⟩ ⟨wr.heap.size, 0, none⟩ 32 32 1 1 d [(k : Int)] rfl rfl HD.out rfl HX2.out HYc.out (by omega) (by omega) ?_); intro A13 c13 w2 h13 hc13 hb2; have H13 := Aside0.mk h13; have HBr2 : Aside0 (Below wr.heap.size wr w2) := ⟨(below_alloc (Below.refl _ _) _).trans (hb2.mono (by simp))⟩; clear h13 hb2)
      have HB2 : Aside0 (Below w0.heap.size w0 w2) := ⟨HBk.out.trans (HBr2.out.mono HBk.out.size)⟩
      gi_wp2_with fail
      refine ⟨trivial, (fun h => nomatch h), ?_⟩
      refine (callsIn_wide.2 (Tagged_any tagChain A13 33 c13 (d ++ [(k : Int)]) w2 (by decide) H13.out (by omega) (by omega) (HT.out.below HB2.out))).mono ?_
      rintro e w3 ⟨rfl, hb3⟩
      have hch : tagged (bytesOf tagChain) (d ++ [(k : Int)]) = chainD d k := by rw [chainD]
      rw [hch]
      have HBr3 : Aside0 (Below wr.heap.size wr w3) := ⟨(HBr2.out).trans (hb3.mono HBr2.out.size)⟩
      have HJ3 : Aside0 (J ((List.finRange 19).take k) w3) := ⟨HJ.out _ wr w3 none HJk.out (grown_of_below HBr3.out none) (fun r e => by cases e)⟩
      have HB3 : Aside0 (Below w0.heap.size w0 w3) := ⟨HBk.out.trans (HBr3.out.mono HBk.out.size)⟩
      have HX3 := Aside0.mk (blk_of_below HBr.out HBr3.out)
      clear hb3
      gi_wp2_with fail
      obtain ⟨fn, tmps, assign, body, hy, hR⟩ := HY.out ((List.finRange 19).take k) ⟨k, hlt⟩ w3 HJ3.out (by simp; omega)
      gi_wp2
      refine ⟨(fun h => nomatch h), hR.mono ?_⟩
      rintro e W4 (⟨rfl, hJ4, hk4⟩ | ⟨rfl, hJx4⟩)
      · have HB4 : Aside0 (Below w0.heap.size w0 W4) := ⟨HB3.out.trans hk4.1⟩
        have HX4 := Aside0.mk (hk4.2 _ HX3.out)
        rw [take_fin] at hJ4
        have HJ4 := Aside0.mk hJ4
        clear hJ4 hk4
        gi_wp2
        go_roundw
        case rel => exact ⟨k + 1, by omega, by push_cast; rfl, HJ4, HB4, HX4⟩
        case measure => show 19 - ((k : Int) + 1).toNat < 19 - ((k : Int)).toNat; omega
      · gi_wp2
        refine bodyPost_ret (results_none rfl _ _ _) rfl ?_
        exact ⟨⟨_, rfl⟩, .inr ⟨_, by rw [take_fin]; exact List.take_prefix _ _, hJx4⟩⟩
    · obtain rfl : k = 19 := by omega
      gi_wp2
      go_end0
      exact ⟨⟨_, rfl⟩, .inl ⟨_, rfl, (List.take_of_length_le (by simp) : (List.finRange 19).take 19 = List.finRange 19) ▸ HJk.out⟩⟩
end Go.Proofs.YtkpfnbliideeeaaDoor.Q
