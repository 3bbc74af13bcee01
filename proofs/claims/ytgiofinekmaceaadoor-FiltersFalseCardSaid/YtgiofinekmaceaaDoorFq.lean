/- what was added, bit by bit; the states of a drawn region that makes a list and calls -/
import Derived.Test.YtgiofinekmaceaaDoorFj
namespace Go.Proofs.YtgiofinekmaceaaDoor.Q
open Go.RowKit Go.Shelf Go.Proofs.YtgiofinekmaceaaDoorW.PrintWords Go.Proofs.YtgiofinekmaceaaDoorW.PrintLast Go.Proofs.YtgiofinekmaceaaDoorW.PrintMore
set_option linter.unusedVariables false
set_option linter.unusedSimpArgs false
def byteOf (f : Nat → Bool) : Int := (if f 0 then 1 else 0) + (if f 1 then 2 else 0) + (if f 2 then 4 else 0) + (if f 3 then 8 else 0) + (if f 4 then 16 else 0) + (if f 5 then 32 else 0) + (if f 6 then 64 else 0) + (if f 7 then 128 else 0)
theorem byte_bits : ∀ z : Fin 256, (z.val : Int) = byteOf (fun j => !(bits BinOp.and IntKind.u8 ((z.val : Int) / 2 ^ j) 1 == 0)) := by decide +kernel
theorem byteOf_congr {f g : Nat → Bool} (h : ∀ j : Nat, j < 8 → f j = g j) : byteOf f = byteOf g := by
  have h0 := h 0 (by omega)
  have h1 := h 1 (by omega)
  have h2 := h 2 (by omega)
  have h3 := h 3 (by omega)
  have h4 := h 4 (by omega)
  have h5 := h 5 (by omega)
  have h6 := h 6 (by omega)
  have h7 := h 7 (by omega)
  simp only [byteOf, h0, h1, h2, h3, h4, h5, h6, h7]
/-- a byte is known by its bits -/
theorem byte_ext {x y : Int} (hx : 0 ≤ x ∧ x ≤ 255) (hy : 0 ≤ y ∧ y ≤ 255) (h : ∀ j : Nat, j < 8 → (bits BinOp.and IntKind.u8 (x / 2 ^ j) 1 == 0) = (bits BinOp.and IntKind.u8 (y / 2 ^ j) 1 == 0)) : x = y := by
  obtain ⟨a, rfl⟩ := byte_fin hx
  obtain ⟨b, rfl⟩ := byte_fin hy
  rw [byte_bits a, byte_bits b]
  exact byteOf_congr (fun j hj => by rw [h j hj])
theorem data_ext {x y : List Int} (hx : Bytes x) (hy : Bytes y) (hl : x.length = y.length) (h : ∀ j : Int, 0 ≤ j → bitAt x j = bitAt y j) : x = y := by
  refine List.ext_getElem hl (fun i h1 h2 => ?_)
  have e1 : rd x (i : Int) = x[i] := by simp [rd, List.getD, h1]
  have e2 : rd y (i : Int) = y[i] := by simp [rd, List.getD, h2]
  rw [← e1, ← e2]
  refine byte_ext (hx.rd _) (hy.rd _) (fun j hj => ?_)
  have hh := h (8 * (i : Int) + (j : Int)) (by omega)
  unfold bitAt at hh
  rw [show (8 * (i : Int) + (j : Int)) / 8 = (i : Int) from by omega, show ((8 * (i : Int) + (j : Int)) % 8).toNat = j from by omega] at hh
  simpa using hh
def oneIn (s : List Int) (l b : Int) (j x : Int) : Bool := decide (0 ≤ x ∧ x < 1024) && (decide (j = bitD s l b x 0) || decide (j = bitD s l b x 1))
def inD (s : List Int) (l b : Int) (ids : List Int) (j : Int) : Bool := ids.any (oneIn s l b j)
theorem bitAt_addOne_eq {s : List Int} {l b : Int} {data : List Int} (hb : Bytes data) (h : okF l b data = true) (id : Int) (j : Int) (hj : 0 ≤ j) : bitAt (addOne s l b data id) j = (bitAt data j || oneIn s l b j id) := by
  unfold addOne oneIn
  by_cases hi : 0 ≤ id ∧ id < 1024
  · rw [if_pos (okI_of h hi.1 hi.2), bitAt_addD hb h j hj, decide_eq_true hi, Bool.true_and, Bool.or_assoc]
  · rw [if_neg (by rw [okI, h, decide_eq_false hi]; simp), decide_eq_false hi, Bool.false_and, Bool.or_false]
theorem bitAt_addedD_eq {s : List Int} {l b : Int} (ids : List Int) : ∀ {data : List Int}, Bytes data → okF l b data = true → ∀ j, 0 ≤ j → bitAt (addedD s l b data ids) j = (bitAt data j || inD s l b ids j) := by
  induction ids with
  | nil => intro data hb h j hj; simp [addedD, inD]
  | cons x ids ih =>
    intro data hb h j hj
    show bitAt (addedD s l b (addOne s l b data x) ids) j = _
    rw [ih (addOne_bytes hb x) (okF_addOne hb h x) j hj, bitAt_addOne_eq hb h x j hj]
    simp only [inD, List.any_cons, Bool.or_assoc]
theorem addedD_length {s : List Int} {l b : Int} (ids : List Int) : ∀ data : List Int, (addedD s l b data ids).length = data.length := by
  induction ids with
  | nil => exact fun _ => rfl
  | cons x ids ih =>
    intro data
    show (addedD s l b (addOne s l b data x) ids).length = _
    rw [ih, addOne_length]
/-- the order does not matter -/
theorem added_turn {s : List Int} {l b : Int} {data : List Int} (ids : List Int) (k : Nat) (hb : Bytes data) : addedD s l b data (ids.drop k ++ ids.take k) = addedD s l b data ids := by
  cases h : okF l b data with
  | false => rw [addedD_bad _ h, addedD_bad _ h]
  | true =>
    refine data_ext (addedD_bytes _ hb) (addedD_bytes _ hb) (by rw [addedD_length, addedD_length]) (fun j hj => ?_)
    rw [bitAt_addedD_eq _ hb h j hj, bitAt_addedD_eq _ hb h j hj]
    have : inD s l b (ids.drop k ++ ids.take k) j = inD s l b (ids.take k ++ ids.drop k) j := by
      unfold inD
      rw [List.any_append, List.any_append, Bool.or_comm]
    rw [this, List.take_append_drop]
/-- what is there is not added again -/
theorem added_again {s : List Int} {l b : Int} {data : List Int} (ids : List Int) (hb : Bytes data) : addedD s l b (addedD s l b data ids) ids = addedD s l b data ids := by
  cases h : okF l b data with
  | false => rw [addedD_bad _ h, addedD_bad _ h]
  | true =>
    refine data_ext (addedD_bytes _ (addedD_bytes _ hb)) (addedD_bytes _ hb) (by rw [addedD_length]) (fun j hj => ?_)
    rw [bitAt_addedD_eq _ (addedD_bytes _ hb) (okF_addedD ids hb h) j hj, bitAt_addedD_eq _ hb h j hj, Bool.or_assoc, Bool.or_self]
/-! ### states -/
def St0 (wB : World) (gs : Option Nat) (W : World) : Prop := Below wB.heap.size wB W ∧ ∀ g, gs = some g → wB.heap.size ≤ g ∧ W.heap[g]? = some (.cells zeroF 26 (0, 0))
def StR (wB : World) (gs : Option Nat) (v : Value) (xs : List Int) (W : World) : Prop := St0 wB gs W ∧ Kd.R (Kd.int .u16) 44 W wB.heap.size (fun _ => True) v xs ∧ ∀ g, gs = some g → v.ownBlock ≠ some g
def StC (wB : World) (gs : Option Nat) (A : Option Addr) (n c : Nat) (X : List Int) (W : World) : Prop := St0 wB gs W ∧ Kd.C (Kd.int .u8) W A n X ∧ n ≤ c
theorem St0.below {wB W W' : World} {gs : Option Nat} (h : St0 wB gs W) (hb : Below W.heap.size W W') : St0 wB gs W' :=
  ⟨h.1.trans (hb.mono h.1.size), fun g hg => ⟨(h.2 g hg).1, blk_below (h.2 g hg).2 hb⟩⟩
theorem St0.alloc {wB W : World} (h : St0 wB none W) : St0 wB (some W.heap.size) (W.alloc (.cells zeroF 26)) :=
  ⟨below_alloc h.1 _, fun g hg => by cases hg; exact ⟨h.1.size, heap_alloc_new _ _⟩⟩
theorem StR.alloc {wB W : World} {v : Value} {xs : List Int} (h : StR wB none v xs W) : StR wB (some W.heap.size) v xs (W.alloc (.cells zeroF 26)) :=
  ⟨h.1.alloc, Kd.R_alloc h.2.1 _, fun g hg e => by cases hg; have := own_lt h.2.1 e; omega⟩
theorem StC.alloc {wB W : World} {A : Option Addr} {n c : Nat} {X : List Int} (h : StC wB none A n c X W) : StC wB (some W.heap.size) A n c X (W.alloc (.cells zeroF 26)) :=
  ⟨h.1.alloc, Kd.C_below h.2.1 (below_alloc (Below.refl _ _) _), h.2.2⟩
theorem StR.lit {wB W W1 : World} {gs : Option Nat} {v : Value} {xs : List Int} (h : St0 wB gs W) (hR : Kd.R (Kd.int .u16) 44 W1 wB.heap.size (fun _ => True) v xs) (hb : Below wB.heap.size wB W1) (hg : W.grownBy W1 none) (hown : ∃ b, v.ownBlock = some b ∧ W.heap.size ≤ b) : StR wB gs v xs W1 :=
  ⟨⟨hb, fun g e => ⟨(h.2 g e).1, blk_grown (h.2 g e).2 hg (by simp)⟩⟩, hR, fun g e e2 => by
    obtain ⟨b, hb1, hb2⟩ := hown
    have := blk_lt (h.2 g e).2
    rw [hb1] at e2
    cases e2
    omega⟩
theorem StR.append {wB W W1 : World} {gs : Option Nat} {v v1 : Value} {xs zs : List Int} (h : StR wB gs v xs W) (hR : Kd.R (Kd.int .u16) 44 W1 wB.heap.size (fun _ => True) v1 zs) (hb : Below wB.heap.size wB W1) (hg : W.grownBy W1 v.ownBlock) (hat : v1.ownBlock = v.ownBlock ∨ ∃ b, v1.ownBlock = some b ∧ W.heap.size ≤ b) : StR wB gs v1 zs W1 :=
  ⟨⟨hb, fun g e => ⟨(h.1.2 g e).1, blk_grown (h.1.2 g e).2 hg (fun e2 => h.2.2 g e e2.symm)⟩⟩, hR, fun g e e2 => by
    rcases hat with hat | ⟨b, hb1, hb2⟩
    · exact h.2.2 g e (hat ▸ e2)
    · have := blk_lt (h.1.2 g e).2
      rw [hb1] at e2
      cases e2
      omega⟩
theorem alloc_runF {o : Oper} {a : Act} (ho : o.op = .alloc 26) (w : World) : (execOp a.eval o).run Tryd.prog w = .ok (.value (.pointer (some ⟨w.heap.size, 0, none⟩))) (w.alloc (.cells zeroF 26)) := by
  unfold execOp
  simp only [ho]
  kernel_rfl
theorem info44 : (Tryd.prog.info? 44).map (fun i => (i.zero, i.size, i.bytes)) = some (some (.int .u16 0), 1, 2) := by kernel_rfl
theorem C_atk {w : World} {kd : IntKind} {B : Option Addr} {m j cc : Nat} {xs : List Int} (h : Kd.C (Kd.int kd) w B m xs) (hj : j ≤ m) (hc : m ≤ cc) : Kd.C (Kd.int kd) w (if cc = j then B else B.map (·.add (j * 1))) (m - j) (xs.drop j) := by
  obtain rfl := Kd.C_len h
  have hh := Kd.C_drop h hj hc
  rw [List.length_drop] at hh
  exact hh
theorem C_firstk {w : World} {kd : IntKind} {B : Option Addr} {m j : Nat} {xs : List Int} (h : Kd.C (Kd.int kd) w B m xs) (hj : j ≤ m) : Kd.C (Kd.int kd) w B j (xs.take j) := by
  obtain rfl := Kd.C_len h
  have hh := Kd.C_take (m := j) h hj
  rw [List.length_take, Nat.min_eq_left hj] at hh
  exact hh
/-- bytes do not lie in a filter's row -/
theorem C_row_ne {W : World} {kd : IntKind} (hkd : kd ≠ .i64) {A : Option Addr} {n g : Nat} {xs : List Int} (h : Kd.C (Kd.int kd) W A n xs) {a b : Int} {B : Option Addr} {m c : Nat} {t : TypeId} {q : Nat × Nat} (hx : W.heap[g]? = some (.cells (fcells a b B m c) t q)) : ∀ ad, A = some ad → 0 < n → ad.block ≠ g := by
  intro ad e hn hbl
  subst e
  have hln := Kd.C_len h
  obtain ⟨ad', e', hcc⟩ := Kd.at_int h 0 (by omega) (by omega)
  cases e'
  unfold World.cell? at hcc
  have hb2 : (ad.add (0 : Int).toNat).block = g := by
    unfold Addr.add
    split <;> exact hbl
  rw [hb2, hx] at hcc
  simp only [] at hcc
  split at hcc
  · cases hcc
  · obtain ⟨k, hk⟩ : ∃ k, k = (ad.add (0 : Int).toNat).off := ⟨_, rfl⟩
    rw [← hk] at hcc
    have h3 : k < (fcells a b B m c).size := by
      rcases Nat.lt_or_ge k (fcells a b B m c).size with h | h
      · exact h
      · rw [Array.getElem?_eq_none h] at hcc; cases hcc
    have h3' : k < 3 := h3
    have : k = 0 ∨ k = 1 ∨ k = 2 := by omega
    rcases this with rfl | rfl | rfl
    · have := hcc.symm.trans (show (fcells a b B m c)[0]? = some (.int .i64 a) from rfl)
      injection this with this
      injection this with h1
      exact hkd h1
    · have := hcc.symm.trans (show (fcells a b B m c)[1]? = some (.int .i64 b) from rfl)
      injection this with this
      injection this with h1
      exact hkd h1
    · have := hcc.symm.trans (show (fcells a b B m c)[2]? = some (.slice B m c) from rfl)
      injection this with this
      cases this
end Go.Proofs.YtgiofinekmaceaaDoor.Q
