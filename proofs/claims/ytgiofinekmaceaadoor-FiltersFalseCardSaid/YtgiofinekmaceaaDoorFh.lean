/- the law's added and has -/
import Derived.Test.YtgiofinekmaceaaDoorFg
namespace Go.Proofs.YtgiofinekmaceaaDoor.Q
open Go.RowKit Go.Shelf Go.Proofs.YtgiofinekmaceaaDoorW.PrintWords Go.Proofs.YtgiofinekmaceaaDoorW.PrintLast Go.Proofs.YtgiofinekmaceaaDoorW.PrintMore
set_option linter.unusedVariables false
set_option linter.unusedSimpArgs false
def hasL (s : List Int) (l b id : Int) (data : List Int) : Bool := okI l b data id && hasD s l b id data
set_option maxHeartbeats 1000000 in
theorem has_calls (s : List Int) (hs : s.length = 32) (l b : Int) (A : Option Addr) (n c : Nat) (data : List Int) (id : Int) (w : World) (hD : Kd.C (Kd.int .u8) w A n data) (hd : ∀ x ∈ data, 0 ≤ x ∧ x ≤ 255) (hT : Tabs w) :
    Calls Tryd.prog 23 #[.agg (cells8 s), .agg (fcells l b A n c), .int .i64 id] w fun e w' => e = .returned (.bool (hasL s l b id data)) ∧ Below w.heap.size w w' := by
  have HSs := Aside0.mk (size32 s hs)
  have HSF := Aside0.mk (sizeF l b A n c)
  obtain ⟨wa, hwa⟩ : ∃ x, x = (w.alloc (.cells (cells8 s) 23)).alloc (.cells (fcells l b A n c) 26) := ⟨_, rfl⟩
  have HA0 : Aside0 (wa.heap[w.heap.size]? = some (.cells (cells8 s) 23 (0, 0))) := ⟨by rw [hwa]; exact heap_alloc2_old _ _ _⟩
  have HA1 : Aside0 (wa.heap[w.heap.size + 1]? = some (.cells (fcells l b A n c) 26 (0, 0))) := ⟨by rw [hwa]; exact heap_alloc2_new _ _ _⟩
  have HBa : Aside0 (Below w.heap.size w wa) := ⟨by rw [hwa]; exact below_alloc (below_alloc (Below.refl _ _) _) _⟩
  have HOK := Aside0.mk (fun h => Has_ok s hs l b A n c data id wa (Kd.C_below hD HBa.out) hd h (hT.below HBa.out))
  have HBD := Aside0.mk (fun h => Has_bad s hs l b A n c data id wa (Kd.C_below hD HBa.out) hd h)
  have HWA := Aside0.mk hwa
  obtain ⟨fc, hfc⟩ : ∃ z, z = fcells l b A n c := ⟨_, rfl⟩
  rw [← hfc] at HA1 HSF HOK HBD HWA ⊢
  clear hs hD hd hwa hfc hT
  cases hok : okI l b data id with
  | true =>
    have HR : Aside0 (hasL s l b id data = hasD s l b id data) := ⟨by rw [hasL, hok]; rfl⟩
    have HC := Aside0.mk (HOK.out hok)
    obtain ⟨q, hq⟩ : ∃ q, q = hasD s l b id data := ⟨_, rfl⟩
    rw [← hq] at HC HR
    clear hok hq HOK HBD
    go_enter Tryd.func23, Tryd.ntmps23
    go_wp2_with (first
      | (rw [← HWA.out]; (with_reducible refine wpList_load_row rfl 23 (.tmp 3) rfl w.heap.size rfl 23 (cells8 s) (0, 0) _ HA0.out Tryd.underlying23 rfl HSs.out ?_))
      | (with_reducible refine wpList_load_row rfl 26 (.tmp 4) rfl (w.heap.size + 1) rfl 26 fc (0, 0) _ HA1.out Tryd.underlying26 rfl HSF.out ?_))
    refine HC.out.mono ?_
    rintro e w1 ⟨rfl, hb1⟩
    have HB1 : Aside0 (Below w.heap.size w w1) := ⟨HBa.out.trans (hb1.mono HBa.out.size)⟩
    clear hb1
    go_wp2_with fail
    go_ret
    exact ⟨by rw [HR.out]; rfl, HB1.out⟩
  | false =>
    have HR : Aside0 (hasL s l b id data = false) := ⟨by rw [hasL, hok]; rfl⟩
    have HC := Aside0.mk (HBD.out hok)
    clear hok HOK HBD
    go_enter Tryd.func23, Tryd.ntmps23
    go_wp2_with (first
      | (rw [← HWA.out]; (with_reducible refine wpList_load_row rfl 23 (.tmp 3) rfl w.heap.size rfl 23 (cells8 s) (0, 0) _ HA0.out Tryd.underlying23 rfl HSs.out ?_))
      | (with_reducible refine wpList_load_row rfl 26 (.tmp 4) rfl (w.heap.size + 1) rfl 26 fc (0, 0) _ HA1.out Tryd.underlying26 rfl HSF.out ?_))
    refine HC.out.mono ?_
    rintro e w1 ⟨rfl, hb1⟩
    have HB1 : Aside0 (Below w.heap.size w w1) := ⟨HBa.out.trans (hb1.mono HBa.out.size)⟩
    clear hb1
    go_wp2_with fail
    go_ret
    exact ⟨by rw [HR.out]; rfl, HB1.out⟩
/-- one number added, if it may be -/
def addOne (s : List Int) (l b : Int) (data : List Int) (id : Int) : List Int := if okI l b data id then addD s l b id data else data
def addedD (s : List Int) (l b : Int) (data : List Int) (ids : List Int) : List Int := ids.foldl (addOne s l b) data
theorem u8_or_range (x y : Int) : 0 ≤ bits BinOp.or IntKind.u8 x y ∧ bits BinOp.or IntKind.u8 x y ≤ 255 := by
  have h1 : (BitVec.ofInt 8 x ||| BitVec.ofInt 8 y).toNat < 256 := (BitVec.ofInt 8 x ||| BitVec.ofInt 8 y).isLt
  have e : bits BinOp.or IntKind.u8 x y = IntKind.u8.wrap ((BitVec.ofInt 8 x ||| BitVec.ofInt 8 y).toNat : Nat) := rfl
  rw [e]
  generalize (BitVec.ofInt 8 x ||| BitVec.ofInt 8 y).toNat = n at h1
  have hw : IntKind.u8.wrap (n : Int) = (n : Int) % 256 := IntKind.wrap_u8 _
  rw [hw]
  omega
theorem setBit_bytes {data : List Int} (h : Bytes data) (k : Int) : Bytes (setBit data k) := h.set _ _ (u8_or_range _ _)
theorem addOne_bytes {s : List Int} {l b : Int} {data : List Int} (h : Bytes data) (id : Int) : Bytes (addOne s l b data id) := by
  unfold addOne
  split
  · exact setBit_bytes (setBit_bytes h _) _
  · exact h
theorem addedD_bytes {s : List Int} {l b : Int} (ids : List Int) : ∀ {data : List Int}, Bytes data → Bytes (addedD s l b data ids) := by
  induction ids with
  | nil => exact fun h => h
  | cons x ids ih => exact fun h => ih (addOne_bytes h x)
theorem addOne_length (s : List Int) (l b : Int) (data : List Int) (id : Int) : (addOne s l b data id).length = data.length := by
  unfold addOne
  split
  · rw [addD, setBit_length, setBit_length]
  · rfl
theorem addedD_take (s : List Int) (l b : Int) (data ids : List Int) (j : Nat) (h : j < ids.length) : addedD s l b data (ids.take (j + 1)) = addOne s l b (addedD s l b data (ids.take j)) (rd ids (j : Int)) := by
  rw [List.take_succ_eq_append_getElem h, addedD, List.foldl_append]
  simp [addedD, rd, List.getD, h]
theorem C_setRow {W : World} {A : Option Addr} {n : Nat} {xs : List Int} {bx : Nat} {cs : Array Value} (h : Kd.C (Kd.int .u8) W A n xs) (hne : ∀ ad, A = some ad → 0 < n → ad.block ≠ bx) : Kd.C (Kd.int .u8) (W.setRow bx cs) A n xs := by
  refine ⟨h.1, h.2.1, fun hn => ?_⟩
  obtain ⟨ad, e, hc⟩ := h.2.2 hn
  refine ⟨ad, e, fun j p hj => ?_⟩
  obtain ⟨c, h1, h2, h3⟩ := hc j p hj
  obtain rfl : c = [.int .u8 p] := h2
  refine ⟨_, rfl, rfl, fun i u hu => ?_⟩
  have := h3 i u hu
  rw [← this]
  have hb : (ad.add (j * 1 + i)).block ≠ bx := by
    have := hne ad e hn
    unfold Addr.add
    split <;> exact this
  unfold World.cell?
  rw [show (W.setRow bx cs).heap[(ad.add (j * (Kd.int .u8).sz + i)).block]? = W.heap[(ad.add (j * (Kd.int .u8).sz + i)).block]? from setRow_other _ _ _ _ hb]
end Go.Proofs.YtgiofinekmaceaaDoor.Q
