/- two signatures compared -/
import Derived.Test.YtkpfnbliideeeaaDoorCu
namespace Go.Proofs.YtkpfnbliideeeaaDoor.Q
open Go.RowKit Go.Shelf Go.Proofs.YtkpfnbliideeeaaDoorW.PrintWords Go.Proofs.YtkpfnbliideeeaaDoorW.PrintLast Go.Proofs.YtkpfnbliideeeaaDoorW.PrintMore
set_option linter.unusedVariables false
set_option linter.unusedSimpArgs false
theorem load_run_at {P : Program} {o : Oper} {a : Act} {w : World} (ty : TypeId) (x : Operand) (ho : o.op = .load ty x) (ad : Addr) (hx : a.eval x = .pointer (some ad)) (cs : Array Value) (d : TypeDesc)
    (hc : ∀ j v, cs.toList[j]? = some v → w.cell? (ad.add j) = some v) (hu : P.underlying ty = some d) (hd : (match d with | .struct _ | .array _ _ => true | _ => false) = true) (hi : (P.info? ty).map (·.size) = some cs.size) :
    (execOp a.eval o).run P w = .ok (.value (.agg cs)) w := by
  unfold execOp
  simp only [ho, hx, Instr.loadAt, Instr.sureAddr, Sem.run_bind, Sem.run_pure, Result.andThen_ok, run_loadVar_at ad ty cs d hc hu hd hi]
set_option maxHeartbeats 400000 in
theorem Same_calls (A B : Option Addr) (n m c d : Nat) (xs ys : List (List Int)) (w : World) (hx : Kd.C KdD w A n xs) (hy : Kd.C KdD w B m ys) (hn : n ≤ 1000) (hm : m ≤ 1000) :
    Calls Tryd.prog 17 #[.slice A n c, .slice B m d] w fun e w' => e = .returned (.bool (xs == ys)) ∧ Below w.heap.size w w' := by
  have hlx := Kd.C_len hx
  have hly := Kd.C_len hy
  by_cases hnm : n = m
  · subst hnm
    have HX := Aside0.mk hx
    have HY := Aside0.mk hy
    have HLX := Aside0.mk hlx
    have HLY := Aside0.mk hly
    clear hx hy hlx hly
    go_enter Tryd.func17, Tryd.ntmps17
    go_wp2_with fail
    go_loopw [5] (fun i wr => ∃ k : Nat, k ≤ n ∧ i = .int .i64 (k : Int) ∧ Aside0 (Below w.heap.size w wr) ∧ Aside0 (xs.take k = ys.take k)) (fun i _ => n - (intOf i).toNat)
    case atStart => exact ⟨0, by omega, rfl, ⟨Below.refl _ _⟩, ⟨rfl⟩⟩
    case round =>
      obtain ⟨k, hk, rfl, HB, HT⟩ := hrel
      by_cases hlt : k < n
      · have c14 : decide ((k : Int) < (n : Int)) = true := decide_eq_true (by omega)
        obtain ⟨ad, rfl, hla, hca⟩ := at_dig (Kd.C_below HX.out HB.out) k hlt
        obtain ⟨bd, rfl, hlb, hcb⟩ := at_dig (Kd.C_below HY.out HB.out) k hlt
        obtain ⟨x, hx⟩ : ∃ x, x = xs.getD k [] := ⟨_, rfl⟩
        obtain ⟨y, hy⟩ : ∃ y, y = ys.getD k [] := ⟨_, rfl⟩
        rw [← hx] at hla hca
        rw [← hy] at hlb hcb
        have HXk := Aside0.mk hx
        have HYk := Aside0.mk hy
        have HXa := Aside0.mk hca
        have HYa := Aside0.mk hcb
        have HLx := Aside0.mk hla
        have HLy := Aside0.mk hlb
        have hEq := fun w' => eq_dig w' x y hla hlb
        have p1 := eq_true (show 0 ≤ (k : Int) by omega)
        have p2 := eq_true (show (k : Int) < (n : Int) by omega)
        clear hx hy hla hlb hca hcb
        go_wp2_with fail
        refine start_ (n := 9) (S := fun W => (∀ j v, (cells8 x).toList[j]? = some v → W.cell? ((ad.add (k * 32)).add j) = some v) ∧ (∀ j v, (cells8 y).toList[j]? = some v → W.cell? ((bd.add (k * 32)).add j) = some v)) (ds := []) #[false, false, false, false, false, false, false, false, false] (by kernel_rfl) rfl rfl (⟨HXa.out, HYa.out⟩) (fun hHeld => ?_)
        refine pure_ (i := 0) (N := some 17) (v := ?_) (a' := ?_) #[true, false, false, false, false, false, false, false, false] rfl rfl (by kernel_rfl) (fun _ _ _ h => h) (Or.inl ⟨by rfl, ?_⟩) ?_ ?_
        rotate_left
        · intro w'
          go_simp
          with_reducible rfl
        rotate_left
        · simp only [Act.put, List.setIfInBounds_toArray, List.set_cons_zero, List.set_cons_succ, i64_w, i32_w]
          rfl
        refine pure_ (i := 1) (N := some 18) (v := ?_) (a' := ?_) #[true, true, false, false, false, false, false, false, false] rfl rfl (by kernel_rfl) (fun _ _ _ h => h) (Or.inl ⟨by rfl, ?_⟩) ?_ ?_
        rotate_left
        · intro w'
          go_simp
          with_reducible rfl
        rotate_left
        · simp only [Act.put, List.setIfInBounds_toArray, List.set_cons_zero, List.set_cons_succ, i64_w, i32_w]
          rfl
        refine pure_ (i := 2) (N := some 19) (v := ?_) (a' := ?_) #[true, true, true, false, false, false, false, false, false] rfl rfl (by kernel_rfl) (fun _ _ _ h => h) (Or.inl ⟨by rfl, ?_⟩) ?_ ?_
        rotate_left
        · intro w'
          go_simp
          with_reducible rfl
        rotate_left
        · simp only [Act.put, List.setIfInBounds_toArray, List.set_cons_zero, List.set_cons_succ, i64_w, i32_w]
          rfl
        refine take_ (i := 3) (N := some 20) (v := .agg (cells8 x)) (a' := ?_) #[true, true, true, true, false, false, false, false, false] rfl rfl (by kernel_rfl) (fun _ _ _ h => h) (Or.inl ⟨by rfl, fun w' s0 => load_run_at 23 (.tmp 19) rfl (ad.add (k * 32)) rfl _ _ s0.1 Tryd.underlying23 rfl (size32 x HLx.out)⟩) hHeld ?_ ?_
        rotate_left
        · simp only [Act.put, List.setIfInBounds_toArray, List.set_cons_zero, List.set_cons_succ, i64_w, i32_w]
          rfl
        refine pure_ (i := 4) (N := some 21) (v := ?_) (a' := ?_) #[true, true, true, true, true, false, false, false, false] rfl rfl (by kernel_rfl) (fun _ _ _ h => h) (Or.inl ⟨by rfl, ?_⟩) ?_ ?_
        rotate_left
        · intro w'
          go_simp
          with_reducible rfl
        rotate_left
        · simp only [Act.put, List.setIfInBounds_toArray, List.set_cons_zero, List.set_cons_succ, i64_w, i32_w]
          rfl
        refine pure_ (i := 5) (N := some 22) (v := ?_) (a' := ?_) #[true, true, true, true, true, true, false, false, false] rfl rfl (by kernel_rfl) (fun _ _ _ h => h) (Or.inl ⟨by rfl, ?_⟩) ?_ ?_
        rotate_left
        · intro w'
          go_simp
          with_reducible rfl
        rotate_left
        · simp only [Act.put, List.setIfInBounds_toArray, List.set_cons_zero, List.set_cons_succ, i64_w, i32_w]
          rfl
        refine pure_ (i := 6) (N := some 23) (v := ?_) (a' := ?_) #[true, true, true, true, true, true, true, false, false] rfl rfl (by kernel_rfl) (fun _ _ _ h => h) (Or.inl ⟨by rfl, ?_⟩) ?_ ?_
        rotate_left
        · intro w'
          go_simp
          with_reducible rfl
        rotate_left
        · simp only [Act.put, List.setIfInBounds_toArray, List.set_cons_zero, List.set_cons_succ, i64_w, i32_w]
          rfl
        refine take_ (i := 7) (N := some 24) (v := .agg (cells8 y)) (a' := ?_) #[true, true, true, true, true, true, true, true, false] rfl rfl (by kernel_rfl) (fun _ _ _ h => h) (Or.inl ⟨by rfl, fun w' s0 => load_run_at 23 (.tmp 23) rfl (bd.add (k * 32)) rfl _ _ s0.2 Tryd.underlying23 rfl (size32 y HLy.out)⟩) hHeld ?_ ?_
        rotate_left
        · simp only [Act.put, List.setIfInBounds_toArray, List.set_cons_zero, List.set_cons_succ, i64_w, i32_w]
          rfl
        refine pure_ (i := 8) (N := some 25) (v := ?_) (a' := ?_) #[true, true, true, true, true, true, true, true, true] rfl rfl (by kernel_rfl) (fun _ _ _ h => h) (Or.inl ⟨by rfl, ?_⟩) ?_ ?_
        rotate_left
        · intro w'
          go_simp
          with_reducible rfl
        rotate_left
        · simp only [Act.put, List.setIfInBounds_toArray, List.set_cons_zero, List.set_cons_succ, i64_w, i32_w]
          rfl
        refine done_ (by kernel_rfl) ?_
        have HBn : Aside0 (Below w.heap.size w wr.drew) := ⟨below_drew HB.out⟩
        clear hHeld hEq
        by_cases hxy : x = y
        · have cxy : (x == y) = true := by simp [hxy]
          rw [cxy]
          have HTn : Aside0 (xs.take (k + 1) = ys.take (k + 1)) := ⟨by
            have hk1 : k < xs.length := by rw [HLX.out]; exact hlt
            have hk2 : k < ys.length := by rw [HLY.out]; exact hlt
            have e1 : xs[k] = x := by rw [HXk.out]; simp [List.getD, hk1]
            have e2 : ys[k] = y := by rw [HYk.out]; simp [List.getD, hk2]
            rw [List.take_succ_eq_append_getElem hk1, List.take_succ_eq_append_getElem hk2, HT.out, e1, e2, hxy]⟩
          clear hxy cxy
          go_wp2_with fail
          go_roundw
          case rel => exact ⟨k + 1, by omega, by push_cast; rfl, HBn, HTn⟩
          case measure => show n - ((k : Int) + 1).toNat < n - ((k : Int)).toNat; omega
        · have cxy : (x == y) = false := by simp [hxy]
          rw [cxy]
          have hb : (xs == ys) = false := by
            rw [beq_eq_false_iff_ne]
            intro e
            exact hxy (by rw [HXk.out, HYk.out, e])
          clear cxy
          go_wp2_with fail
          go_ret
          refine ⟨?_, HBn.out⟩
          rw [hb]
          rfl
      · obtain rfl : k = n := by omega
        go_wp2_with fail
        go_ret
        refine ⟨?_, HB.out⟩
        have ht := HT.out
        rw [List.take_of_length_le (Nat.le_of_eq HLX.out), List.take_of_length_le (Nat.le_of_eq HLY.out)] at ht
        rw [ht]
        simp
  · have hne : ¬ (n : Int) = (m : Int) := by omega
    go_enter Tryd.func17, Tryd.ntmps17
    go_wp2_with fail
    go_ret
    refine ⟨?_, Below.refl _ _⟩
    have hb : (xs == ys) = false := by
      rw [beq_eq_false_iff_ne]
      rintro rfl
      omega
    rw [hb]
    rfl
end Go.Proofs.YtkpfnbliideeeaaDoor.Q
