/- chains: Recover, Verify -/
import Derived.Test.YtkpfnbliideeeaaDoorCf
import Derived.ChangeKeysEq
namespace Go.Proofs.YtkpfnbliideeeaaDoor.Q
open Go.RowKit Go.Shelf Go.Proofs.YtkpfnbliideeeaaDoorW.PrintWords Go.Proofs.YtkpfnbliideeeaaDoorW.PrintLast Go.Proofs.YtkpfnbliideeeaaDoorW.PrintMore
set_option linter.unusedVariables false
set_option linter.unusedSimpArgs false
/-- the last element of chain k of a signature -/
def endD (m : List Int) (s : List (List Int)) (k : Nat) : List Int := stepsD (s.getD k []) (3 - rd (digits m) (k : Int)).toNat
def endsD (m : List Int) (s : List (List Int)) (k : Nat) : List (List Int) := (List.range k).map (endD m s)
def recoverD (m : List Int) (s : List (List Int)) : List Int := if s.length = 19 then keyD (endsD m s 19) else zeros32
def recoverE (s : List (List Int)) : Int := if s.length = 19 then 0 else 50
theorem R_anyD {e base : Nat} {ok : Nat → Prop} {w : World} {v : Value} {xs : List (List Int)} (h : KdD.R e w base ok v xs) : ∃ A c n, v = .slice A n c ∧ KdD.C w A n xs ∧ n ≤ c := by
  obtain ⟨A, c, e1, h1, h2⟩ := Kd.R_reads h
  exact ⟨A, c, xs.length, e1, h2, h1⟩
theorem wpList_build_one {ops : Array Oper} {rest : List Oper} {o : Oper} {a : Act} {Q : Exit → Act → World → Prop} {w : World} (hgd : o.guard = none) (x : Operand) (ho : o.op = .buildSlice 24 1 #[(0, x)]) (y : List Int) (hy : y.length = 32) (hx : a.eval x = .agg (cells8 y))
    (h : wpList Tryd.prog ops Q rest (a.put o.dst (.slice (some ⟨w.heap.size, 0, none⟩) 1 1)) (w.alloc (.cells (cells8 y) 23))) : wpList Tryd.prog ops Q (o :: rest) a w :=
  wpList_plain hgd fun K hK => by
    unfold Oper.wp
    rw [build_run x ho y hy hx w]
    exact hK _ _ h
set_option maxHeartbeats 400000 in
theorem Recover_calls (m : List Int) (hm : m.length = 32) (A : Option Addr) (n c : Nat) (s : List (List Int)) (hn : n ≤ 1000) (hc : n ≤ c) (w : World) (hS : Kd.C KdD w A n s) (hT : Tabs w) :
    Calls Tryd.prog 14 #[.agg (cells8 m), .slice A n c] w fun e w' => e = .returned (.tuple #[.agg (cells8 (recoverD m s)), .int .i64 (recoverE s)]) ∧ Below w.heap.size w w' := by
  have hlen := Kd.C_len hS
  have HLEN := Aside0.mk hlen
  have HM := Aside0.mk hm
  have HS := Aside0.mk hS
  have HT := Aside0.mk hT
  have HS8 := Aside0.mk (size32 m hm)
  have HSZ0 := Aside0.mk (size32 zeros32 zeros32_length)
  clear hm hS hT hlen
  have HM1 : Aside0 (((w.alloc (.cells (cells8 m) 23)).alloc (.cells #[.int .u8 0, .int .u8 0, .int .u8 0, .int .u8 0, .int .u8 0, .int .u8 0, .int .u8 0, .int .u8 0, .int .u8 0, .int .u8 0, .int .u8 0, .int .u8 0, .int .u8 0, .int .u8 0, .int .u8 0, .int .u8 0, .int .u8 0, .int .u8 0, .int .u8 0, .int .u8 0, .int .u8 0, .int .u8 0, .int .u8 0, .int .u8 0, .int .u8 0, .int .u8 0, .int .u8 0, .int .u8 0, .int .u8 0, .int .u8 0, .int .u8 0, .int .u8 0] 23)).heap[w.heap.size]? = some (.cells (cells8 m) 23 (0, 0))) := ⟨heap_alloc2_old _ _ _⟩
  have HM2 : Aside0 (((w.alloc (.cells (cells8 m) 23)).alloc (.cells #[.int .u8 0, .int .u8 0, .int .u8 0, .int .u8 0, .int .u8 0, .int .u8 0, .int .u8 0, .int .u8 0, .int .u8 0, .int .u8 0, .int .u8 0, .int .u8 0, .int .u8 0, .int .u8 0, .int .u8 0, .int .u8 0, .int .u8 0, .int .u8 0, .int .u8 0, .int .u8 0, .int .u8 0, .int .u8 0, .int .u8 0, .int .u8 0, .int .u8 0, .int .u8 0, .int .u8 0, .int .u8 0, .int .u8 0, .int .u8 0, .int .u8 0, .int .u8 0] 23)).heap[w.heap.size + 1]? = some (.cells (cells8 zeros32) 23 (0, 0))) := ⟨heap_alloc2_new _ _ _⟩
  have HB0 : Aside0 (Below w.heap.size w ((w.alloc (.cells (cells8 m) 23)).alloc (.cells #[.int .u8 0, .int .u8 0, .int .u8 0, .int .u8 0, .int .u8 0, .int .u8 0, .int .u8 0, .int .u8 0, .int .u8 0, .int .u8 0, .int .u8 0, .int .u8 0, .int .u8 0, .int .u8 0, .int .u8 0, .int .u8 0, .int .u8 0, .int .u8 0, .int .u8 0, .int .u8 0, .int .u8 0, .int .u8 0, .int .u8 0, .int .u8 0, .int .u8 0, .int .u8 0, .int .u8 0, .int .u8 0, .int .u8 0, .int .u8 0, .int .u8 0, .int .u8 0] 23))) := ⟨below_alloc (below_alloc (Below.refl _ _) _) _⟩
  by_cases h19 : n = 19
  · subst h19
    go_enter Tryd.func14, Tryd.ntmps14
    go_wp2_with (with_reducible refine wpList_load_row rfl 23 (.tmp 2) rfl w.heap.size rfl 23 (cells8 m) (0, 0) _ HM1.out Tryd.underlying23 rfl HS8.out ?_)
    refine (of_calls m HM.out _).mono ?_
    rintro e w1 ⟨rfl, hb1⟩
    have HB1 : Aside0 (Below w.heap.size w w1) := ⟨HB0.out.trans (hb1.mono HB0.out.size)⟩
    have HR1 := Aside0.mk (blk_of_below HM2.out hb1)
    have HLA := Aside0.mk (digits_length m)
    obtain ⟨a, ha⟩ : ∃ a, a = digits m := ⟨_, rfl⟩
    rw [← ha] at HLA ⊢
    have HA := Aside0.mk ha
    have hs1 : w.heap.size + 2 ≤ w1.heap.size := by have := hb1.size; simp at this; omega
    clear hb1 ha HM1 HM2 HB0
    go_wp2_with fail
    go_loopw [6, 15] (fun v i wr => ∃ k : Nat, k ≤ 19 ∧ i = .int .i64 (k : Int) ∧ Aside0 (KdD.R 23 wr w1.heap.size (fun _ => True) v (endsD m s k)) ∧ Aside0 (wr.heap[w.heap.size + 1]? = some (.cells (cells8 zeros32) 23 (0, 0))) ∧ Aside0 (Below w.heap.size w wr) ∧ w1.heap.size ≤ wr.heap.size) (fun _ i _ => 19 - (intOf i).toNat)
    case atStart => exact ⟨0, by omega, rfl, ⟨Kd.R_nil _ _ _ _ _⟩, HR1, HB1, Nat.le_refl _⟩
    case round =>
      obtain ⟨k, hk, rfl, HR, HZ, HB, hsz⟩ := hrel
      obtain ⟨A3, c3, n3, e3, hC3, hc3⟩ := R_anyD HR.out
      subst e3
      have HC3 := Aside0.mk hC3
      clear hC3
      by_cases hlt : k < 19
      · have c5 : decide ((k : Int) < 19) = true := decide_eq_true (by omega)
        obtain ⟨ad, rfl, hl0, hx0⟩ := at_dig (Kd.C_below HS.out HB.out) k hlt
        have hdg := digits_range m k hlt
        have hidx := index19 a HLA.out k hlt
        obtain ⟨g, hg⟩ : ∃ g, g = rd a (k : Int) := ⟨_, rfl⟩
        rw [← HA.out, ← hg] at hdg
        rw [← hg] at hidx
        obtain ⟨x, hx⟩ : ∃ x, x = s.getD k [] := ⟨_, rfl⟩
        rw [← hx] at hl0 hx0
        have HX0 := Aside0.mk hx0
        have HLx := Aside0.mk hl0
        have hend : endD m s k = stepsD x (3 - g).toNat := by rw [endD, hx, hg, HA.out]
        have HE := Aside0.mk hend
        have HEs : Aside0 (endsD m s (k + 1) = endsD m s k ++ [endD m s k]) := ⟨by rw [endsD, List.range_succ, List.map_append]; rfl⟩
        have HEl : Aside0 ((endsD m s k).length = k) := ⟨by simp [endsD]⟩
        have HSx := Aside0.mk (size32 x hl0)
        have p1 := eq_true (show 0 ≤ (k : Int) by omega)
        have p2 := eq_true (show (k : Int) < 19 by omega)
        have hw3 : wrap64 (3 - g) = 3 - g := by unfold wrap64; omega
        clear hx hx0 hl0 hg hend
        go_wp2_with (with_reducible refine wpList_load_at rfl 23 (.tmp 22) rfl (ad.add (k * 32)) rfl (cells8 x) _ HX0.out Tryd.underlying23 rfl HSx.out ?_)
        refine (steps_calls x HLx.out (3 - g) (by omega) wr (HT.out.below HB.out)).mono ?_
        rintro e w2 ⟨rfl, hb2⟩
        rw [← HE.out]
        have HYL : Aside0 ((endD m s k).length = 32) := ⟨by rw [HE.out]; exact stepsD_length _ HLx.out _⟩
        obtain ⟨y, hy⟩ : ∃ y, y = endD m s k := ⟨_, rfl⟩
        rw [← hy] at HYL HEs HE ⊢
        have HR2 := Aside0.mk (Kd.R_below HR.out hb2)
        have HZ2 := Aside0.mk (blk_of_below HZ.out hb2)
        have HB2 : Aside0 (Below w.heap.size w w2) := ⟨HB.out.trans (hb2.mono HB.out.size)⟩
        have hsz2 : w1.heap.size ≤ w2.heap.size := Nat.le_trans hsz hb2.size
        clear hb2 hy HE HR HZ HB
        go_wp2_with (first
          | (with_reducible refine wpList_build_one rfl (.tmp 26) rfl y HYL.out rfl ?_)
          | (at_builtin; (refine Kd.R_append KdD (w0 := w2) (W := w2) w1.heap.size rfl (.tmp 19) (.tmp 27) 24 23 (.agg #[.int .u8 0, .int .u8 0, .int .u8 0, .int .u8 0, .int .u8 0, .int .u8 0, .int .u8 0, .int .u8 0, .int .u8 0, .int .u8 0, .int .u8 0, .int .u8 0, .int .u8 0, .int .u8 0, .int .u8 0, .int .u8 0, .int .u8 0, .int .u8 0, .int .u8 0, .int .u8 0, .int .u8 0, .int .u8 0, .int .u8 0, .int .u8 0, .int .u8 0, .int .u8 0, .int .u8 0, .int .u8 0, .int .u8 0, .int .u8 0, .int .u8 0, .int .u8 0]) 32 rfl Tryd.underlying24 info23 rfl (by decide) (by decide) (.slice A3 n3 c3) (endsD m s k) y (nums .u8 y) (fun _ => True) (fun _ => False) rfl rfl (dig_M _ HYL.out) (fun _ h => h.elim) (fun _ _ => trivial) HR2.out (Below.refl _ _) hsz2 (by rw [HEl.out]; omega) ?_); intro v4 w4 h4 hb4 hg4 _; have HR4 := Aside0.mk h4; have HZ4 : Aside0 (w4.heap[w.heap.size + 1]? = some (.cells (cells8 zeros32) 23 (0, 0))) := ⟨blk_grown HZ2.out hg4 (fun e => by obtain ⟨inner, hin⟩ := Kd.R_own HR2.out; have := own_base hin _ e.symm; omega)⟩; have HB4 : Aside0 (Below w.heap.size w w4) := ⟨HB2.out.grown hg4 HB2.out.size (fun k e => by obtain ⟨inner, hin⟩ := Kd.R_own HR2.out; have := own_base hin _ e; omega)⟩; have hsz4 : w1.heap.size ≤ w4.heap.size := Nat.le_trans hsz2 hg4.size; clear h4 hb4 hg4))
        go_roundw
        case rel => exact ⟨k + 1, by omega, by push_cast; rfl, ⟨by rw [HEs.out]; exact HR4.out⟩, HZ4, HB4, hsz4⟩
        case measure => show 19 - ((k : Int) + 1).toNat < 19 - ((k : Int)).toNat; omega
      · obtain rfl : k = 19 := by omega
        have hn3 : n3 ≤ 19 := by rw [← Kd.C_len HC3.out]; simp [endsD]
        go_wp2_with fail
        refine (key_calls A3 n3 c3 _ wr HC3.out hc3 (by omega) (HT.out.below HB.out)).mono ?_
        rintro e w5 ⟨rfl, hb5⟩
        have hkey : keyD (endsD m s 19) = recoverD m s := by rw [recoverD, if_pos HLEN.out]
        have hkl : (keyD (endsD m s 19)).length = 32 := by rw [keyD]; exact tagged_length _ _
        rw [hkey] at hkl ⊢
        obtain ⟨y, hy⟩ : ∃ y, y = recoverD m s := ⟨_, rfl⟩
        rw [← hy] at hkl ⊢
        have HZ5 := Aside0.mk (blk_of_below HZ.out hb5)
        have HB5 : Aside0 (Below w.heap.size w w5) := ⟨HB.out.trans (hb5.mono HB.out.size)⟩
        have HSy := Aside0.mk (size32 y hkl)
        have HOy : Aside0 ((cells8 zeros32).size = (cells8 y).size) := ⟨by rw [cells8_size, cells8_size, hkl, zeros32_length]⟩
        have hre : recoverE s = 0 := by rw [recoverE, if_pos HLEN.out]
        have HYy := Aside0.mk hy
        clear hb5 hkey hy
        go_wp2_with (with_reducible refine wpList_store_row rfl 23 (.tmp 4) (.tmp 31) rfl (w.heap.size + 1) (cells8 y) rfl rfl 23 (cells8 zeros32) HZ5.out HSy.out HOy.out (all_one8 _) ?_)
        exact bodyPost_ret (results_ct rfl _ _ (w.heap.size + 1) 23 (cells8 y) (0, 0) _ rfl (setRow_heap _ _ _ _ _ _ HZ5.out) Tryd.underlying23 rfl HSy.out) rfl ⟨by rw [← HYy.out, hre]; rfl, below_setRow HB5.out (by omega) _⟩
  · have hne : ¬ (n : Int) = 19 := by omega
    go_enter Tryd.func14, Tryd.ntmps14
    go_wp2_with (first
      | (with_reducible refine wpList_load_row rfl 23 (.tmp 4) rfl (w.heap.size + 1) rfl 23 (cells8 zeros32) (0, 0) _ HM2.out Tryd.underlying23 rfl HSZ0.out ?_)
      | (with_reducible refine wpList_store_row rfl 23 (.tmp 4) (.tmp 12) rfl (w.heap.size + 1) (cells8 zeros32) rfl rfl 23 (cells8 zeros32) HM2.out HSZ0.out rfl (all_one8 _) ?_))
    have hn9 : ¬ s.length = 19 := by rw [HLEN.out]; exact h19
    have hre : recoverE s = 50 := by rw [recoverE, if_neg hn9]
    have hrd : recoverD m s = zeros32 := by rw [recoverD, if_neg hn9]
    refine bodyPost_ret (results_ct rfl _ _ (w.heap.size + 1) 23 (cells8 zeros32) (0, 0) _ rfl (setRow_heap _ _ _ _ _ _ HM2.out) Tryd.underlying23 rfl HSZ0.out) rfl ⟨by rw [hre, hrd]; rfl, below_setRow HB0.out (by omega) _⟩
theorem eqItems_nums (w : World) (d : Nat) (xs ys : List Int) : ∀ is : List Nat, (∀ i, i ∈ is → i < xs.length ∧ i < ys.length) → (Op.eqItems (d + 1) 5 1 (cells8 xs) (cells8 ys) is).run Tryd.prog w = .ok (is.all fun i => rd xs (i : Int) == rd ys (i : Int)) w
  | [], _ => by simp [Op.eqItems]
  | i :: is, h => by
    obtain ⟨h1, h2⟩ := h i List.mem_cons_self
    have px : (part 5 (cells8 xs) (i * 1)).run Tryd.prog w = .ok (.int .u8 (rd xs (i : Int))) w := by
      have := cells8_get xs i h1
      simp [part, isAgg, run_underlying Tryd.underlying5, this]
    have py : (part 5 (cells8 ys) (i * 1)).run Tryd.prog w = .ok (.int .u8 (rd ys (i : Int))) w := by
      have := cells8_get ys i h2
      simp [part, isAgg, run_underlying Tryd.underlying5, this]
    have ih := eqItems_nums w d xs ys is (fun j hj => h j (List.mem_cons_of_mem _ hj))
    simp only [Op.eqItems, Sem.run_bind, px, py, run_equalIn_int w d 5 .u8 .u8 _ _ Tryd.underlying5, Result.andThen_ok, List.all_cons]
    cases rd xs (i : Int) == rd ys (i : Int)
    · simp
    · simpa using ih
theorem all_rd : ∀ (xs ys : List Int), xs.length = ys.length → ((List.range xs.length).all fun i => rd xs (i : Int) == rd ys (i : Int)) = (xs == ys) := fun xs ys h => by
  rw [Bool.eq_iff_iff]
  simp only [List.all_eq_true, List.mem_range, beq_iff_eq, rd, Int.toNat_natCast]
  constructor
  · intro hh
    refine List.ext_getElem h (fun i h1 h2 => ?_)
    have := hh i h1
    simpa [List.getD, h1, h2] using this
  · rintro rfl i _
    rfl
theorem eq_dig (w : World) (xs ys : List Int) (hx : xs.length = 32) (hy : ys.length = 32) : (Op.equalIn 10000 23 (.agg (cells8 xs)) (.agg (cells8 ys))).run Tryd.prog w = .ok (xs == ys) w := by
  obtain ⟨i0, hi, _⟩ := info_parts info5
  rw [run_equalIn_array w 9999 _ _ Tryd.underlying23 hi, show Tryd.prog.cellsOf 5 = 1 from by kernel_rfl, eqItems_nums w 9998 xs ys _ (fun i hi => by rw [hx, hy]; simpa using hi), ← all_rd xs ys (hx.trans hy.symm), hx]
theorem wpList_on {P : Program} {ops : Array Oper} {rest : List Oper} {o : Oper} {a : Act} {Q : Exit → Act → World → Prop} {w w1 : World} {v : Value} (hw : Region.wanted o (yielded ops a.tmps) = true) (hrun : (execOp a.eval o).run P w = .ok (.value v) w1) (h : wpList P ops Q rest (a.put o.dst v) w1) : wpList P ops Q (o :: rest) a w := by
  unfold wpList
  rw [if_pos hw]
  exact Or.inl (by unfold Oper.wp; rw [hrun]; exact h)
def verifyD (p m : List Int) (s : List (List Int)) : Bool := recoverE s == 0 && recoverD m s == p
set_option maxHeartbeats 400000 in
theorem Verify_calls (p m : List Int) (hp : p.length = 32) (hm : m.length = 32) (A : Option Addr) (n c : Nat) (s : List (List Int)) (hn : n ≤ 1000) (hc : n ≤ c) (w : World) (hS : Kd.C KdD w A n s) (hT : Tabs w) :
    Calls Tryd.prog 16 #[.agg (cells8 p), .agg (cells8 m), .slice A n c] w fun e w' => e = .returned (.bool (verifyD p m s)) ∧ Below w.heap.size w w' := by
  have HP := Aside0.mk hp
  have HM := Aside0.mk hm
  have HS := Aside0.mk hS
  have HT := Aside0.mk hT
  have HS8 := Aside0.mk (size32 m hm)
  have HS9 := Aside0.mk (size32 p hp)
  clear hp hm hS hT
  have HM1 : Aside0 (((w.alloc (.cells (cells8 p) 23)).alloc (.cells (cells8 m) 23)).heap[w.heap.size]? = some (.cells (cells8 p) 23 (0, 0))) := ⟨heap_alloc2_old _ _ _⟩
  have HM2 : Aside0 (((w.alloc (.cells (cells8 p) 23)).alloc (.cells (cells8 m) 23)).heap[w.heap.size + 1]? = some (.cells (cells8 m) 23 (0, 0))) := ⟨heap_alloc2_new _ _ _⟩
  have HB0 : Aside0 (Below w.heap.size w ((w.alloc (.cells (cells8 p) 23)).alloc (.cells (cells8 m) 23))) := ⟨below_alloc (below_alloc (Below.refl _ _) _) _⟩
  go_enter Tryd.func16, Tryd.ntmps16
  go_wp2_with (with_reducible refine wpList_load_row rfl 23 (.tmp 4) rfl (w.heap.size + 1) rfl 23 (cells8 m) (0, 0) _ HM2.out Tryd.underlying23 rfl HS8.out ?_)
  refine (Recover_calls m HM.out A n c s hn hc _ (Kd.C_below HS.out HB0.out) (HT.out.below HB0.out)).mono ?_
  rintro e w1 ⟨rfl, hb1⟩
  have HB1 : Aside0 (Below w.heap.size w w1) := ⟨HB0.out.trans (hb1.mono HB0.out.size)⟩
  have HP1 := Aside0.mk (blk_of_below HM1.out hb1)
  have hs1 : w.heap.size < w1.heap.size := by have := hb1.size; simp at this; omega
  have hrl : (recoverD m s).length = 32 := by
    unfold recoverD
    split
    · rw [keyD]; exact tagged_length _ _
    · exact zeros32_length
  have HV : Aside0 (verifyD p m s = (recoverE s == 0 && recoverD m s == p)) := ⟨rfl⟩
  obtain ⟨y, hy⟩ : ∃ y, y = recoverD m s := ⟨_, rfl⟩
  rw [← hy] at hrl HV ⊢
  have HYL := Aside0.mk hrl
  have HSy := Aside0.mk (size32 y hrl)
  have HOLD : Aside0 ((#[.int .u8 0, .int .u8 0, .int .u8 0, .int .u8 0, .int .u8 0, .int .u8 0, .int .u8 0, .int .u8 0, .int .u8 0, .int .u8 0, .int .u8 0, .int .u8 0, .int .u8 0, .int .u8 0, .int .u8 0, .int .u8 0, .int .u8 0, .int .u8 0, .int .u8 0, .int .u8 0, .int .u8 0, .int .u8 0, .int .u8 0, .int .u8 0, .int .u8 0, .int .u8 0, .int .u8 0, .int .u8 0, .int .u8 0, .int .u8 0, .int .u8 0, .int .u8 0] : Array Value).size = (cells8 y).size) := ⟨by rw [cells8_size, hrl]; rfl⟩
  have HN1 := Aside0.mk (heap_alloc_new w1 (.cells #[.int .u8 0, .int .u8 0, .int .u8 0, .int .u8 0, .int .u8 0, .int .u8 0, .int .u8 0, .int .u8 0, .int .u8 0, .int .u8 0, .int .u8 0, .int .u8 0, .int .u8 0, .int .u8 0, .int .u8 0, .int .u8 0, .int .u8 0, .int .u8 0, .int .u8 0, .int .u8 0, .int .u8 0, .int .u8 0, .int .u8 0, .int .u8 0, .int .u8 0, .int .u8 0, .int .u8 0, .int .u8 0, .int .u8 0, .int .u8 0, .int .u8 0, .int .u8 0] 23))
  have HW2 := Aside0.mk (setRow_heap (w1.alloc (.cells #[.int .u8 0, .int .u8 0, .int .u8 0, .int .u8 0, .int .u8 0, .int .u8 0, .int .u8 0, .int .u8 0, .int .u8 0, .int .u8 0, .int .u8 0, .int .u8 0, .int .u8 0, .int .u8 0, .int .u8 0, .int .u8 0, .int .u8 0, .int .u8 0, .int .u8 0, .int .u8 0, .int .u8 0, .int .u8 0, .int .u8 0, .int .u8 0, .int .u8 0, .int .u8 0, .int .u8 0, .int .u8 0, .int .u8 0, .int .u8 0, .int .u8 0, .int .u8 0] 23)) w1.heap.size _ (cells8 y) _ _ HN1.out)
  have HP2 : Aside0 (((w1.alloc (.cells #[.int .u8 0, .int .u8 0, .int .u8 0, .int .u8 0, .int .u8 0, .int .u8 0, .int .u8 0, .int .u8 0, .int .u8 0, .int .u8 0, .int .u8 0, .int .u8 0, .int .u8 0, .int .u8 0, .int .u8 0, .int .u8 0, .int .u8 0, .int .u8 0, .int .u8 0, .int .u8 0, .int .u8 0, .int .u8 0, .int .u8 0, .int .u8 0, .int .u8 0, .int .u8 0, .int .u8 0, .int .u8 0, .int .u8 0, .int .u8 0, .int .u8 0, .int .u8 0] 23)).setRow w1.heap.size (cells8 y)).heap[w.heap.size]? = some (.cells (cells8 p) 23 (0, 0))) := ⟨(setRow_other _ _ _ _ (by omega)).trans (blk_alloc HP1.out _)⟩
  have HB2 : Aside0 (Below w.heap.size w ((w1.alloc (.cells #[.int .u8 0, .int .u8 0, .int .u8 0, .int .u8 0, .int .u8 0, .int .u8 0, .int .u8 0, .int .u8 0, .int .u8 0, .int .u8 0, .int .u8 0, .int .u8 0, .int .u8 0, .int .u8 0, .int .u8 0, .int .u8 0, .int .u8 0, .int .u8 0, .int .u8 0, .int .u8 0, .int .u8 0, .int .u8 0, .int .u8 0, .int .u8 0, .int .u8 0, .int .u8 0, .int .u8 0, .int .u8 0, .int .u8 0, .int .u8 0, .int .u8 0, .int .u8 0] 23)).setRow w1.heap.size (cells8 y))) := ⟨below_setRow (below_alloc HB1.out _) (by omega) _⟩
  have hEq := fun w' => eq_dig w' y p hrl HP.out
  clear hb1 hy hrl HB0 HM1 HM2
  by_cases h19 : s.length = 19
  · have hre : recoverE s = 0 := by rw [recoverE, if_pos h19]
    rw [hre] at HV ⊢
    clear hre h19
    go_wp2_with (first
      | (with_reducible refine wpList_store_row rfl 23 (.tmp 7) (.tmp 13) rfl w1.heap.size (cells8 y) rfl rfl 23 #[.int .u8 0, .int .u8 0, .int .u8 0, .int .u8 0, .int .u8 0, .int .u8 0, .int .u8 0, .int .u8 0, .int .u8 0, .int .u8 0, .int .u8 0, .int .u8 0, .int .u8 0, .int .u8 0, .int .u8 0, .int .u8 0, .int .u8 0, .int .u8 0, .int .u8 0, .int .u8 0, .int .u8 0, .int .u8 0, .int .u8 0, .int .u8 0, .int .u8 0, .int .u8 0, .int .u8 0, .int .u8 0, .int .u8 0, .int .u8 0, .int .u8 0, .int .u8 0] HN1.out HSy.out HOLD.out (all_one8 _) ?_)
      | (refine wpList_on (by rfl) (load_run 23 (.tmp 7) rfl w1.heap.size rfl 23 (cells8 y) (0, 0) _ HW2.out Tryd.underlying23 rfl HSy.out) ?_)
      | (refine wpList_on (by rfl) (load_run 23 (.tmp 3) rfl w.heap.size rfl 23 (cells8 p) (0, 0) _ HP2.out Tryd.underlying23 rfl HS9.out) ?_))
    go_ret
    exact ⟨by rw [HV.out]; simp, HB2.out⟩
  · have hre : recoverE s = 50 := by rw [recoverE, if_neg h19]
    rw [hre] at HV ⊢
    clear hre h19
    go_wp2_with (first
      | (with_reducible refine wpList_store_row rfl 23 (.tmp 7) (.tmp 13) rfl w1.heap.size (cells8 y) rfl rfl 23 #[.int .u8 0, .int .u8 0, .int .u8 0, .int .u8 0, .int .u8 0, .int .u8 0, .int .u8 0, .int .u8 0, .int .u8 0, .int .u8 0, .int .u8 0, .int .u8 0, .int .u8 0, .int .u8 0, .int .u8 0, .int .u8 0, .int .u8 0, .int .u8 0, .int .u8 0, .int .u8 0, .int .u8 0, .int .u8 0, .int .u8 0, .int .u8 0, .int .u8 0, .int .u8 0, .int .u8 0, .int .u8 0, .int .u8 0, .int .u8 0, .int .u8 0, .int .u8 0] HN1.out HSy.out HOLD.out (all_one8 _) ?_))
    go_ret
    exact ⟨by rw [HV.out]; simp, HB2.out⟩
end Go.Proofs.YtkpfnbliideeeaaDoor.Q
