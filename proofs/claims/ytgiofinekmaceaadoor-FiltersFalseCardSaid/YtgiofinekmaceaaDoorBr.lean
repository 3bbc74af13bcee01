/- A round of a range over a function, walked by the words of a plain call: at the fence that lets everything by, what holds of an operation in a call holds of it in a round. -/
import Derived.Test.YtgiofinekmaceaaDoorDz
import Derived.RangeFuncNested
import Derived.RangeFuncBound
import Derived.RangeFuncCalls
import Derived.RangeFuncLeaves
import Derived.RangeFuncBox
import Derived.OwnWalkIn
import Derived.TacticsInMore
import Derived.LoopNIn
import Derived.LoopIn
import Derived.OrdersIn
namespace Go.Proofs.YtgiofinekmaceaaDoor.Q
open Go.RowKit Go.Proofs.YtgiofinekmaceaaDoorW.PrintWords Go.Proofs.YtgiofinekmaceaaDoorW.PrintLast Go.Proofs.YtgiofinekmaceaaDoorW.PrintMore
set_option linter.unusedVariables false
set_option linter.unusedSimpArgs false
section
variable {P : Program} {n N : Nat} {ro : Option Nat} {Q : Exit → Act → World → Prop} {a : Act} {w : World}
/-- the fence that lets everything by, in a round or in none -/
def WF (ro : Option Nat) : Fence := { Fence.wide with round := ro }
theorem callsIn_WF {f : FuncId} {args : Array Value} {R : Ending → World → Prop} (h : Calls P f args w R) : CallsIn (WF ro) n P f args w R := (callsIn_wide (n := n)).2 h
theorem rowsIn_WF {row : String} {args : Array Value} {R : Value → World → Prop} (h : Rows P row args w R) : RowsIn (WF ro) n P row args w R :=
  fun c cs _ => let ⟨v, w', r, s⟩ := h c cs; ⟨v, w', r, stepsIn_wide.2 s⟩
def noDefer (o : Oper) : Bool := match o.op with | .defer _ => false | _ => true
theorem noDefer_spec {o : Oper} (h : noDefer o = true) : ∀ c, o.op ≠ .defer c := fun c e => by rw [noDefer, e] at h; cases h
theorem oper_WF {o : Oper} {K : Act → World → Prop} (hd : noDefer o = true) (h : o.wp P a w K Q) : o.wpIn (WF ro) n P a w K Q := by
  refine ⟨fun _ _ => trivial, ?_⟩
  have e : o.semAt (WF ro).round a.eval = execOp a.eval o := Oper.semAt_eq _ _ _ (noDefer_spec hd)
  rw [e]
  unfold Oper.wp at h
  generalize (execOp a.eval o).run P w = r at *
  cases r with
  | ok x w' =>
    cases x with
    | value v => exact h
    | skip => exact h
    | defer d => exact h
    | enter f args => exact ⟨fun hh => (by cases hh), callsIn_WF h⟩
    | row row args => exact ⟨fun hh => (by cases hh), rowsIn_WF h⟩
    | _ => exact h.elim
  | halt x w' =>
    cases x with
    | panic v => exact h
    | _ => exact h.elim
theorem wpOp_WF {ops : Array Oper} {i : Nat} {K : Act → World → Prop} (hd : ops.all noDefer = true) (hQ : ¬ LetsOut Q) (h : wpOp P ops Q i K a w) : wpOpIn (WF ro) n P ops Q i K a w := by
  unfold wpOp at h
  unfold wpOpIn
  cases ho : ops[i]? with
  | none => rw [ho] at h; exact h
  | some o =>
    rw [ho] at h
    simp only at h ⊢
    have hdo : noDefer o = true := (Array.all_eq_true_iff_forall_mem.1 hd) o (Array.mem_of_getElem? ho)
    by_cases hw : Region.wanted o (yielded ops a.tmps) = true
    · rw [if_pos hw] at h ⊢
      exact oper_WF hdo (h.resolve_right (fun hh => hQ hh.2))
    · rw [if_neg hw] at h ⊢
      exact ⟨fun _ _ => trivial, h⟩
theorem wpAny_WF {ops : Array Oper} {md : Region.Mode} (hd : ops.all noDefer = true) (hQ : ¬ LetsOut Q) : ∀ (fuel : Nat) (listed : Array Bool) (a : Act) (w : World), wpAny P md ops Q fuel listed a w → wpAnyIn (WF ro) n P md ops Q fuel listed a w
  | 0, _, _, _, h => h
  | fuel + 1, _, _, _, h => ⟨h.1, fun i hi => wpOp_WF hd hQ (wpOp_mono (fun a' w' h' => wpAny_WF hd hQ fuel _ a' w' h') (h.2 i hi))⟩
theorem wpList_WF {ops : Array Oper} (hQ : ¬ LetsOut Q) : ∀ (l : List Oper) (a : Act) (w : World), l.all noDefer = true → wpList P ops Q l a w → wpListIn (WF ro) n P ops Q l a w
  | [], _, _, _, h => h
  | o :: l, a, w, hd, h => by
    simp only [List.all_cons, Bool.and_eq_true] at hd
    unfold wpListIn
    unfold wpList at h
    by_cases hw : Region.wanted o (yielded ops a.tmps) = true
    · rw [if_pos hw] at h ⊢
      exact Oper.wpIn_mono (fun a' w' h' => wpList_WF hQ l a' w' hd.2 h') (oper_WF hd.1 (h.resolve_right (fun hh => hQ hh.2)))
    · rw [if_neg hw] at h ⊢
      exact ⟨fun _ _ => trivial, wpList_WF hQ l _ _ hd.2 h⟩
/-- a region in a round: its operations one behind the other -/
theorem region_WF {id : Nat} {l : List Oper} (hd : l.all noDefer = true) (hQ : ¬ LetsOut Q) (h : wpList P l.toArray Q l a w) : (Code.region id l.toArray false).wpIn (WF ro) n P Q a w :=
  wpIn_region_lit (wpList_WF hQ l a w hd h)
/-- a region in a round that draws its order -/
theorem start_WF {ops : Array Oper} {S : World → Prop} {ds : List Nat} {id m : Nat} (l : Array Bool) (hd : ops.all noDefer = true) (hQ : ¬ LetsOut Q) (hm : P.follows .mixedOrders = true) (hn : ops.size = m) (hl : Array.replicate m false = l) (hS : S w.drew)
    (h : S w.drew → wpAnyLast P .any ops Q S ds m l a w.drew) : (Code.region id ops true).wpIn (WF ro) n P Q a w := by
  subst hn
  subst hl
  exact wpIn_region_any hm (wpAny_WF hd hQ _ _ _ _ (wpAny_of_last _ _ _ _ (h hS)))
/-- bytes are appended to a full slice, in a round or in none -/
theorem wpListIn_append_full {ops : Array Oper} {rest : List Oper} {o : Oper} (hgd : o.guard = none) (s x : Operand) (t e : TypeId) (ho : o.op = .call { callee := .builtin .append, args := #[s, x], argTypes := #[t, t] })
    (ht : P.underlying t = some (.slice e)) (hinfo : (P.info? e).map (fun i => (i.zero, i.size, i.bytes)) = some (some (.int .u8 0), 1, 1))
    (ad ad2 : Addr) (n cap m c : Nat) (xs ys : List Int) (hs : a.eval s = .slice (some ad) n cap) (hx : a.eval x = .slice (some ad2) m c) (hxl : xs.length = n) (hyl : ys.length = m)
    (hxs : ∀ j u, (nums .u8 xs)[j]? = some u → w.cell? (ad.add j) = some u) (hys : ∀ j u, (nums .u8 ys)[j]? = some u → w.cell? (ad2.add j) = some u) (hfull : cap < n + m) (hl : n + m ≤ 140737488355328)
    (h : ∀ A c' w', Kd.C (Kd.int .u8) w' A (n + m) (xs ++ ys) → n + m ≤ c' → Below w.heap.size w w' → wpListIn (WF ro) N P ops Q rest (a.put o.dst (.slice A (n + m) c')) w') :
    wpListIn (WF ro) N P ops Q (o :: rest) a w := by
  obtain ⟨i0, hi, hz0, hz1, hz2⟩ := info_parts hinfo
  obtain ⟨v', w', hrun, hown, hg⟩ := run_append_arg_grows (P := P) w t o.type e i0 (.int .u8 0) 1 1 ht hi hz0 hz1 hz2 rfl (by omega) ad n cap (nums .u8 xs) (by rw [nums_length, hxl, Nat.mul_one]) hxs ad2 m c (nums .u8 ys) (by rw [nums_length, hyl, Nat.mul_one]) hys hfull (by unfold maxLen; omega) (by omega)
  rw [← nums_append] at hown
  have hlen : (xs ++ ys).length = n + m := by rw [List.length_append, hxl, hyl]
  have hR : Kd.R (Kd.int .u8) e w' w.heap.size (fun _ => True) v' (xs ++ ys) := Kd.R_of_own (enc := Value.int .u8) (h1 := fun _ => rfl) (by rw [hlen]; exact hown) (fun _ _ => trivial)
  obtain ⟨A, c', e1, hl1, hr1⟩ := Kd.R_reads hR
  rw [hlen] at e1 hl1 hr1
  subst e1
  refine wpListIn_plain hgd fun K hK => oper_WF (by unfold noDefer; rw [ho]) ?_
  unfold Oper.wp execOp
  simp only [ho, resolve, invoke, builtin, Sem.run_bind, Sem.run_pure, Result.andThen_ok, List.map_toArray, List.map_cons, List.map_nil, hs, hx, hrun]
  exact hK _ _ (h A c' w' hr1 hl1 ((Below.refl _ _).grown hg (Nat.le_refl _) (fun k e => by cases e)))
/-- the same at the fence of no round -/
theorem wpListIn_append_wide {ops : Array Oper} {rest : List Oper} {o : Oper} (hgd : o.guard = none) (s x : Operand) (t e : TypeId) (ho : o.op = .call { callee := .builtin .append, args := #[s, x], argTypes := #[t, t] })
    (ht : P.underlying t = some (.slice e)) (hinfo : (P.info? e).map (fun i => (i.zero, i.size, i.bytes)) = some (some (.int .u8 0), 1, 1))
    (ad ad2 : Addr) (n cap m c : Nat) (xs ys : List Int) (hs : a.eval s = .slice (some ad) n cap) (hx : a.eval x = .slice (some ad2) m c) (hxl : xs.length = n) (hyl : ys.length = m)
    (hxs : ∀ j u, (nums .u8 xs)[j]? = some u → w.cell? (ad.add j) = some u) (hys : ∀ j u, (nums .u8 ys)[j]? = some u → w.cell? (ad2.add j) = some u) (hfull : cap < n + m) (hl : n + m ≤ 140737488355328)
    (h : ∀ A c' w', Kd.C (Kd.int .u8) w' A (n + m) (xs ++ ys) → n + m ≤ c' → Below w.heap.size w w' → wpListIn Fence.wide N P ops Q rest (a.put o.dst (.slice A (n + m) c')) w') :
    wpListIn Fence.wide N P ops Q (o :: rest) a w :=
  wpListIn_append_full (ro := none) hgd s x t e ho ht hinfo ad ad2 n cap m c xs ys hs hx hxl hyl hxs hys hfull hl h
end
end Go.Proofs.YtgiofinekmaceaaDoor.Q
