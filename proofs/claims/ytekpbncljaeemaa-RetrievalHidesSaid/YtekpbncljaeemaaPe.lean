import Derived.Test.YtekpbncljaeemaaPd
import Derived.Lib.Bytes
namespace Go.Proofs.Ytekpbncljaeemaa.Q
open Go.RowKit Go.Proofs.YtekpbncljaeemaaW.PrintWords Go.Proofs.YtekpbncljaeemaaW.PrintLast Go.Proofs.YtekpbncljaeemaaW.PrintMore
set_option linter.unusedVariables false
set_option linter.unusedSimpArgs false

/-! ### equal strings, equal bytes -/
theorem byte_inj {x y : Int} (hx : 0 ≤ x ∧ x ≤ 255) (hy : 0 ≤ y ∧ y ≤ 255) (h : UInt8.ofNat x.toNat = UInt8.ofNat y.toNat) : x = y := by
  have := congrArg UInt8.toNat h
  simp at this
  omega
theorem nums_inj : ∀ (xs ys : List Int), (∀ x ∈ xs, 0 ≤ x ∧ x ≤ 255) → (∀ x ∈ ys, 0 ≤ x ∧ x ≤ 255) → Go.Lib.bytesOf xs = Go.Lib.bytesOf ys → xs = ys
  | [], [], _, _, _ => rfl
  | [], y :: ys, _, _, h => by simp [Go.Lib.bytesOf] at h
  | x :: xs, [], _, _, h => by simp [Go.Lib.bytesOf] at h
  | x :: xs, y :: ys, hx, hy, h => by
    have h2 : UInt8.ofNat x.toNat = UInt8.ofNat y.toNat ∧ Go.Lib.bytesOf xs = Go.Lib.bytesOf ys := by
      simp only [Go.Lib.bytesOf, List.map_cons] at h
      injection h with h1 h2
      exact ⟨h1, h2⟩
    rw [byte_inj (hx x (by simp)) (hy y (by simp)) h2.1, nums_inj xs ys (fun z hz => hx z (by simp [hz])) (fun z hz => hy z (by simp [hz])) h2.2]
theorem mask_eq {many : Nat} {m : List Int} (hb : ∀ x ∈ m, 0 ≤ x ∧ x ≤ 255) (h : maskOk many m = true) : m.length = (many + 7) / 8 ∧ ofMask many m = m := by
  unfold maskOk at h
  rw [Bool.and_eq_true] at h
  refine ⟨of_decide_eq_true h.1, nums_inj _ _ (ofMask_bytes many m hb) hb ?_⟩
  have := eq_of_beq h.2
  rwa [Go.Lib.strOfNums_toList, Go.Lib.strOfNums_toList] at this

/-! ### RetrievalSum -/
def sumIter (p q : List Int) : Nat → List Int
  | 0 => List.replicate p.length 0
  | i + 1 => (sumIter p q i).set i (Go.bits .xor .u8 (rd p (i : Int)) (rd q (i : Int)))
theorem sumIter_length (p q : List Int) : ∀ i, (sumIter p q i).length = p.length
  | 0 => by simp [sumIter]
  | i + 1 => by simp [sumIter, sumIter_length p q i]
theorem sumIter_get (p q : List Int) (j : Nat) : ∀ i, i ≤ p.length → (sumIter p q i)[j]? = if j < i then some (Go.bits .xor .u8 (rd p (j : Int)) (rd q (j : Int))) else (List.replicate p.length (0 : Int))[j]?
  | 0, _ => by rw [if_neg (by omega)]; rfl
  | i + 1, h => by
    rw [sumIter, List.getElem?_set, sumIter_length, sumIter_get p q j i (by omega)]
    by_cases e : i = j
    · subst e
      rw [if_pos rfl, if_pos (by omega), if_pos (by omega)]
    · rw [if_neg e]
      by_cases h1 : j < i
      · rw [if_pos h1, if_pos (by omega)]
      · rw [if_neg h1, if_neg (by omega)]
theorem sumIter_all (p q : List Int) : sumIter p q p.length = xorL p q := by
  apply List.ext_getElem?
  intro i
  rw [sumIter_get p q i _ (Nat.le_refl _), xorL_get]
  rcases Nat.lt_or_ge i p.length with h | h
  · rw [if_pos h, List.getElem?_eq_getElem h, Option.map_some, rd_getElem? (List.getElem?_eq_getElem h)]
  · rw [if_neg (by omega), List.getElem?_eq_none (by simpa using h), List.getElem?_eq_none h]; rfl
theorem sum_law (l0 : List (List Int)) (p q : List Int) (hl : q.length = p.length) (hp : ∀ x ∈ p, 0 ≤ x ∧ x ≤ 255) (hq : ∀ x ∈ q, 0 ≤ x ∧ x ≤ 255) :
    retrieval_Answer.f l0 [p, q] = some ([], 360) ∨
    ∃ u v t, u.length = 16 ∧ v.length = 16 ∧ t.length = 16 ∧ retrieval_Answer.f l0 [p, q] = some ([u, v], 0) ∧ retrieval_Answer.f l0 [xorL p q] = some ([t], 0) ∧ retrieval_Join.f u v = some (t, 0) ∧ retrieval_Join.f v u = some (t, 0) := by
  unfold retrieval_Answer.f
  cases hbad : ansBad l0 [p, q] with
  | true => left; rw [if_pos rfl]
  | false =>
    rw [if_neg (by simp)]
    have hbad1 : ansBad l0 [xorL p q] = false := by
      unfold ansBad at hbad ⊢
      simp only [List.length_cons, List.length_nil] at hbad ⊢
      simpa using hbad
    cases hok : [p, q].all (maskOk l0.length) with
    | false => left; rw [if_neg (by simp)]
    | true =>
      right
      simp only [List.all_cons, List.all_nil, Bool.and_true, Bool.and_eq_true] at hok
      obtain ⟨m1, m2⟩ := mask_eq hp hok.1
      obtain ⟨n1, n2⟩ := mask_eq hq hok.2
      have hx : maskOk l0.length (xorL p q) = true := maskOk_of _ _ (by rw [xorL_length]; exact m1) (ofMask_sum _ p q hl m1 m2 n2)
      have hs : ansUpto l0 (xorL p q) l0.length = xorL (ansUpto l0 p l0.length) (ansUpto l0 q l0.length) := ansUpto_sum l0 p q hl hp hq _ (by omega)
      have hlen : ∀ m, (ansUpto l0 m l0.length).length = 16 := fun m => ansUpto_length _ _ _
      have hby : ∀ m, ∀ x ∈ ansUpto l0 m l0.length, 0 ≤ x ∧ x ≤ 255 := fun m => ansUpto_bytes _ _ _
      refine ⟨_, _, _, hlen p, hlen q, hlen (xorL p q), by rw [if_pos rfl]; rfl, ?_, ?_, ?_⟩
      · rw [hbad1, if_neg (by simp)]
        have : [xorL p q].all (maskOk l0.length) = true := by simp [hx]
        rw [if_pos this]; rfl
      · unfold retrieval_Join.f
        rw [if_pos ⟨hlen p, hlen q⟩, xorL_zero _ (hlen p) (hby p), hs]
      · unfold retrieval_Join.f
        rw [if_pos ⟨hlen q, hlen p⟩, xorL_zero _ (hlen q) (hby q), hs, xorL_swap _ _ (by rw [hlen p, hlen q])]
end Go.Proofs.Ytekpbncljaeemaa.Q
