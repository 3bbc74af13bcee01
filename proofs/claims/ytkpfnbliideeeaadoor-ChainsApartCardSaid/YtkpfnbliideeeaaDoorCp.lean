/- plain: digits of two messages -/
import Derived.Test.YtkpfnbliideeeaaDoorCr
namespace Go.Proofs.YtkpfnbliideeeaaDoor.Q
open Go.RowKit Go.Shelf Go.Proofs.YtkpfnbliideeeaaDoorW.PrintWords Go.Proofs.YtkpfnbliideeeaaDoorW.PrintLast Go.Proofs.YtkpfnbliideeeaaDoorW.PrintMore
set_option linter.unusedVariables false
set_option linter.unusedSimpArgs false
theorem byte_of : ∀ n : Fin 256, (n.val : Int) = 64 * bits BinOp.and IntKind.i64 (wrap64 ((n.val : Int) / 2 ^ (6 - 0 * 2))) 3 + 16 * bits BinOp.and IntKind.i64 (wrap64 ((n.val : Int) / 2 ^ (6 - 1 * 2))) 3 + 4 * bits BinOp.and IntKind.i64 (wrap64 ((n.val : Int) / 2 ^ (6 - 2 * 2))) 3 + bits BinOp.and IntKind.i64 (wrap64 ((n.val : Int) / 2 ^ (6 - 3 * 2))) 3 := by decide +kernel
theorem byte_digs (d : List Int) (hd : ∀ x ∈ d, 0 ≤ x ∧ x ≤ 255) (q : Nat) : rd d (q : Int) = 64 * dig d (4 * q) + 16 * dig d (4 * q + 1) + 4 * dig d (4 * q + 2) + dig d (4 * q + 3) := by
  have h := rd_byte d hd (q : Int)
  have hb := byte_of ⟨(rd d (q : Int)).toNat, by omega⟩
  simp only [Int.toNat_of_nonneg h.1] at hb
  unfold dig
  rw [show (((4 * q : Nat) : Int) / 4) = (q : Int) by omega, show (((4 * q + 1 : Nat) : Int) / 4) = (q : Int) by omega, show (((4 * q + 2 : Nat) : Int) / 4) = (q : Int) by omega, show (((4 * q + 3 : Nat) : Int) / 4) = (q : Int) by omega,
    show 4 * q % 4 = 0 by omega, show (4 * q + 1) % 4 = 1 by omega, show (4 * q + 2) % 4 = 2 by omega, show (4 * q + 3) % 4 = 3 by omega]
  exact hb
theorem digSum_congr (a b : List Int) : ∀ k, (∀ i, i < k → dig a i = dig b i) → digSum a k = digSum b k
  | 0, _ => rfl
  | k + 1, h => by rw [digSum, digSum, digSum_congr a b k (fun i hi => h i (by omega)), h k (by omega)]
theorem digits_of_dig (a b : List Int) (h : ∀ i, i < 16 → dig a i = dig b i) : digits a = digits b := by
  have h1 : digs a 16 = digs b 16 := by
    unfold digs
    congr 1
    exact List.map_congr_left fun i hi => h i (List.mem_range.1 hi)
  rw [digits, digits, h1, digSum_congr a b 16 h]
theorem digits_same (a b : List Int) (ha : ∀ x ∈ a, 0 ≤ x ∧ x ≤ 255) (hb : ∀ x ∈ b, 0 ≤ x ∧ x ≤ 255) : digits a = digits b ↔ rd a 0 = rd b 0 ∧ rd a 1 = rd b 1 ∧ rd a 2 = rd b 2 ∧ rd a 3 = rd b 3 := by
  constructor
  · intro h
    have hd : ∀ i, i < 16 → dig a i = dig b i := fun i hi => by rw [← digits_rd a i hi, ← digits_rd b i hi, h]
    have hq : ∀ q : Nat, q < 4 → rd a (q : Int) = rd b (q : Int) := fun q hq => by
      rw [byte_digs a ha q, byte_digs b hb q, hd _ (by omega), hd _ (by omega), hd _ (by omega), hd _ (by omega)]
    exact ⟨hq 0 (by omega), hq 1 (by omega), hq 2 (by omega), hq 3 (by omega)⟩
  · rintro ⟨h0, h1, h2, h3⟩
    refine digits_of_dig a b fun i hi => ?_
    have hq : rd a ((i : Int) / 4) = rd b ((i : Int) / 4) := by
      have : (i : Int) / 4 = 0 ∨ (i : Int) / 4 = 1 ∨ (i : Int) / 4 = 2 ∨ (i : Int) / 4 = 3 := by omega
      rcases this with e | e | e | e <;> rw [e] <;> assumption
    rw [dig, dig, hq]
theorem lessFrom_none (a b : List Int) : ∀ n k : Nat, (∀ i : Nat, k ≤ i → i < k + n → ¬ rd b (i : Int) < rd a (i : Int)) → lessFrom a b n k = (0, false)
  | 0, _, _ => rfl
  | n + 1, k, h => by
    rw [lessFrom, if_neg (h k (Nat.le_refl _) (by omega)), lessFrom_none a b n (k + 1) (fun i h1 h2 => h i (by omega) (by omega))]
theorem lessFrom_some (a b : List Int) : ∀ n k : Nat, (∃ i : Nat, k ≤ i ∧ i < k + n ∧ rd b (i : Int) < rd a (i : Int)) → ∃ i : Nat, lessFrom a b n k = ((i : Int), true) ∧ i < k + n ∧ rd b (i : Int) < rd a (i : Int)
  | 0, k, ⟨i, h1, h2, _⟩ => by omega
  | n + 1, k, ⟨i, h1, h2, h3⟩ => by
    by_cases hk : rd b (k : Int) < rd a (k : Int)
    · exact ⟨k, by rw [lessFrom, if_pos hk], by omega, hk⟩
    · have hne : i ≠ k := fun e => hk (e ▸ h3)
      obtain ⟨j, e1, e2, e3⟩ := lessFrom_some a b n (k + 1) ⟨i, by omega, by omega, h3⟩
      exact ⟨j, by rw [lessFrom, if_neg hk, e1], by omega, e3⟩
theorem digSum_step (d : List Int) (k : Nat) (h : k < 16) : digSum d (k + 1) = digSum d k + (3 - dig d k) := by
  have h1 := digSum_range d k (by omega)
  have h2 := dig_range d k
  rw [digSum]
  unfold wrap64
  omega
theorem digSum_le (a b : List Int) : ∀ k, k ≤ 16 → (∀ i, i < k → dig a i ≤ dig b i) → digSum b k ≤ digSum a k ∧ (digSum b k = digSum a k → ∀ i, i < k → dig a i = dig b i)
  | 0, _, _ => ⟨Int.le_refl _, fun _ i hi => by omega⟩
  | k + 1, hk, h => by
    obtain ⟨h1, h2⟩ := digSum_le a b k (by omega) (fun i hi => h i (by omega))
    have h3 := h k (by omega)
    rw [digSum_step a k (by omega), digSum_step b k (by omega)]
    refine ⟨by omega, fun e i hi => ?_⟩
    by_cases hik : i = k
    · subst hik; omega
    · exact h2 (by omega) i (by omega)
theorem digSum_parts (d : List Int) : digSum d 16 = 16 * rd (digits d) 16 + 4 * rd (digits d) 17 + rd (digits d) 18 := by
  have := digSum_range d 16 (by omega)
  rw [digits_rd16, digits_rd17, digits_rd18]
  omega
/-- if the digits differ, some digit of the second is less -/
theorem apart_less (a b : List Int) (h : digits a ≠ digits b) : ∃ i : Nat, 0 ≤ i ∧ i < 0 + 19 ∧ rd (digits b) (i : Int) < rd (digits a) (i : Int) := by
  apply Classical.byContradiction
  intro hn
  have hle : ∀ i : Nat, i < 19 → rd (digits a) (i : Int) ≤ rd (digits b) (i : Int) := fun i hi => by
    apply Classical.byContradiction
    intro hc
    exact hn ⟨i, Nat.zero_le _, by omega, by omega⟩
  have hd : ∀ i, i < 16 → dig a i ≤ dig b i := fun i hi => by rw [← digits_rd a i hi, ← digits_rd b i hi]; exact hle i (by omega)
  obtain ⟨h1, h2⟩ := digSum_le a b 16 (by omega) hd
  have pa := digSum_parts a
  have pb := digSum_parts b
  have g16 : rd (digits a) 16 ≤ rd (digits b) 16 := hle 16 (by omega)
  have g17 : rd (digits a) 17 ≤ rd (digits b) 17 := hle 17 (by omega)
  have g18 : rd (digits a) 18 ≤ rd (digits b) 18 := hle 18 (by omega)
  exact h (digits_of_dig a b (h2 (by omega)))
theorem earlier_apart (a b : List Int) (n : Nat) (hn : n = 19) (h : digits a ≠ digits b) : ∃ i : Nat, earlierD a b n = ((i : Int), true) ∧ i < 19 ∧ rd (digits b) (i : Int) < rd (digits a) (i : Int) := by
  obtain ⟨i, e1, e2, e3⟩ := lessFrom_some (digits a) (digits b) 19 0 (apart_less a b h)
  exact ⟨i, by rw [earlierD, if_pos hn, e1], by omega, e3⟩
theorem earlier_same (a b : List Int) (n : Nat) (h : n ≠ 19 ∨ digits a = digits b) : earlierD a b n = (0, false) := by
  rw [earlierD]
  split
  · rename_i hn
    rcases h with h | h
    · exact absurd hn h
    · rw [h]
      exact lessFrom_none _ _ _ _ (fun i _ _ => by omega)
  · rfl
end Go.Proofs.YtkpfnbliideeeaaDoor.Q
