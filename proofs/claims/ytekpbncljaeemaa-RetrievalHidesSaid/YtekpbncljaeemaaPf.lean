import Derived.Test.YtekpbncljaeemaaPe
namespace Go.Proofs.Ytekpbncljaeemaa.Q
open Go.RowKit Go.Proofs.YtekpbncljaeemaaW.PrintWords Go.Proofs.YtekpbncljaeemaaW.PrintLast Go.Proofs.YtekpbncljaeemaaW.PrintMore
set_option linter.unusedVariables false
set_option linter.unusedSimpArgs false

theorem askErr_zero (a0 : Int) (l1 : List Int) (l3 : List (List Int)) : ∀ n, askErr a0 l1 l3 n = 0 → ∀ i, i < n → (askAt a0 l1 l3 i).2.2 = 0
  | 0, _, i, hi => absurd hi (Nat.not_lt_zero _)
  | n + 1, h, i, hi => by
    rw [askErr] at h
    by_cases h0 : askErr a0 l1 l3 n = 0
    · rw [if_pos h0] at h
      rcases Nat.lt_or_eq_of_le (Nat.lt_succ_iff.1 hi) with h1 | h1
      · exact askErr_zero a0 l1 l3 n h0 i h1
      · rw [h1]; exact h
    · rw [if_neg h0] at h; exact absurd h h0
/-- the block that query i asks for -/
def askN (l1 : List Int) (i : Nat) : Int := if i < l1.length then rd l1 (i : Int) else 0
theorem ask_law (a0 : Int) (l1 : List Int) (a2 : Int) (l3 : List (List Int)) {r1 r2 : List (List Int)} {r3 : Int} (h : retrieval_Ask.f a0 l1 a2 l3 = some (r1, r2, r3)) :
    (r3 ≠ 0 ∧ r1 = [] ∧ r2 = []) ∨
    (r3 = 0 ∧ (l3.length : Int) = a2 ∧ 1 ≤ l3.length ∧ l3.length ≤ 132 ∧ l1.length ≤ l3.length ∧ 1 ≤ a0 ∧ a0 ≤ 1024 ∧
      r1 = (List.range l3.length).map (fun i => ofMask a0.toNat (l3.getD i [])) ∧ r2 = (List.range l3.length).map (fun i => flipMask (ofMask a0.toNat (l3.getD i [])) (askN l1 i).toNat) ∧
      ∀ i, i < l3.length → (l3.getD i []).length = (a0.toNat + 7) / 8 ∧ 0 ≤ askN l1 i ∧ askN l1 i < a0) := by
  unfold retrieval_Ask.f at h
  cases hb : askBad l1 a2 l3 with
  | true =>
    rw [hb, if_pos rfl] at h
    injection h with h; injection h with h1 h; injection h with h2 h3
    exact .inl ⟨by rw [← h3]; decide, h1.symm, h2.symm⟩
  | false =>
    rw [hb, if_neg (by simp)] at h
    by_cases he : askErr a0 l1 l3 l3.length = 0
    · rw [if_pos he] at h
      injection h with h; injection h with h1 h; injection h with h2 h3
      right
      have hz := askErr_zero a0 l1 l3 _ he
      unfold askBad at hb
      simp only [Bool.or_eq_false_iff, decide_eq_false_iff_not, bne_eq_false_iff_eq] at hb
      obtain ⟨⟨⟨b1, b2⟩, b3⟩, b4⟩ := hb
      have each : ∀ i, i < l3.length → 1 ≤ a0 ∧ a0 ≤ 1024 ∧ (l3.getD i []).length = (a0.toNat + 7) / 8 ∧ 0 ≤ askN l1 i ∧ askN l1 i < a0 ∧ (askAt a0 l1 l3 i).1 = ofMask a0.toNat (l3.getD i []) ∧ (askAt a0 l1 l3 i).2.1 = flipMask (ofMask a0.toNat (l3.getD i [])) (askN l1 i).toNat := by
        intro i hi
        have q := hz i hi
        have e : masksOf a0 (askN l1 i) (l3.getD i []) = ((askAt a0 l1 l3 i).1, (askAt a0 l1 l3 i).2.1, 0) := by
          rw [← q]; rfl
        obtain ⟨q1, q2, q3, q4, q5, q6, q7⟩ := masksOf_ok e
        exact ⟨q1, q2, by omega, q4, q5, q6, by rw [q7]⟩
      obtain ⟨x1, x2, _⟩ := each 0 (by omega)
      refine ⟨h3.symm, by omega, by omega, by omega, by omega, x1, x2, ?_, ?_, fun i hi => ⟨(each i hi).2.2.1, (each i hi).2.2.2.1, (each i hi).2.2.2.2.1⟩⟩
      · rw [← h1]; exact List.map_congr_left fun i hi => (each i (List.mem_range.1 hi)).2.2.2.2.2.1
      · rw [← h2]; exact List.map_congr_left fun i hi => (each i (List.mem_range.1 hi)).2.2.2.2.2.2
    · rw [if_neg he] at h
      injection h with h; injection h with h1 h; injection h with h2 h3
      exact .inl ⟨by rw [← h3]; exact he, h1.symm, h2.symm⟩
theorem rd_L1_map {n : Nat} (f : Nat → List Int) (i : Nat) (h : i < n) : rd_L1 ((List.range n).map f) (i : Int) = f i := by
  simp [rd_L1, List.getD_eq_getElem?_getD, h]
theorem getD_mem {l : List (List Int)} {i : Nat} (h : i < l.length) : l.getD i [] ∈ l := by
  rw [List.getD_eq_getElem?_getD, List.getElem?_eq_getElem h]; exact List.getElem_mem h
theorem reads_law (db : List (List Int)) (l1 : List Int) (a2 : Int) (l3 : List (List Int)) (hdb : ∀ m ∈ db, ∀ x ∈ m, 0 ≤ x ∧ x ≤ 255) (hc : ∀ m ∈ l3, ∀ x ∈ m, 0 ≤ x ∧ x ≤ 255) {r1 r2 : List (List Int)} {r3 : Int} (h : retrieval_Ask.f (db.length : Int) l1 a2 l3 = some (r1, r2, r3)) :
    (r3 ≠ 0 ∧ r1 = [] ∧ r2 = []) ∨
    (r3 = 0 ∧ retrieval_Answer.f db r1 = some ([], 360) ∧ retrieval_Answer.f db r2 = some ([], 360) ∧ ∃ j, j < db.length ∧ (db.getD j []).length ≠ 16) ∨
    (r3 = 0 ∧ ∃ R S, retrieval_Answer.f db r1 = some (R, 0) ∧ retrieval_Answer.f db r2 = some (S, 0) ∧ (R.length : Int) = a2 ∧ (S.length : Int) = a2 ∧ (l1.length : Int) ≤ a2 ∧
      ∀ i : Nat, (i : Int) < a2 → 0 ≤ askN l1 i ∧ askN l1 i < (db.length : Int) ∧ (rd_L1 db (askN l1 i)).length = 16 ∧ retrieval_Join.f (rd_L1 R (i : Int)) (rd_L1 S (i : Int)) = some (rd_L1 db (askN l1 i), 0)) := by
  rcases ask_law _ l1 a2 l3 h with h1 | ⟨h3, ha2, g1, g2, g3, g4, g5, e1, e2, each⟩
  · exact .inl h1
  right
  rw [Int.toNat_natCast] at e1 e2
  have l_r1 : r1.length = l3.length := by rw [e1]; simp
  have l_r2 : r2.length = l3.length := by rw [e2]; simp
  have each' : ∀ i, i < l3.length → (l3.getD i []).length = (db.length + 7) / 8 ∧ 0 ≤ askN l1 i ∧ askN l1 i < (db.length : Int) := fun i hi => by
    have := each i hi; rwa [Int.toNat_natCast] at this
  cases hany : (db.any fun b => (b.length : Int) != 16) with
  | true =>
    left
    have hb : ∀ r : List (List Int), ansBad db r = true := fun r => by unfold ansBad; rw [hany, Bool.or_true]
    refine ⟨h3, by unfold retrieval_Answer.f; rw [hb, if_pos rfl], by unfold retrieval_Answer.f; rw [hb, if_pos rfl], ?_⟩
    obtain ⟨b, hb1, hb2⟩ := List.any_eq_true.1 hany
    obtain ⟨j, hj, hj2⟩ := List.mem_iff_getElem.1 hb1
    refine ⟨j, hj, ?_⟩
    rw [List.getD_eq_getElem?_getD, List.getElem?_eq_getElem hj, Option.getD_some, hj2]
    rw [bne_iff_ne] at hb2
    omega
  | false =>
    right
    have hb : ∀ r : List (List Int), r.length = l3.length → ansBad db r = false := fun r hr => by
      unfold ansBad
      rw [hany, hr, decide_eq_false (show ¬ db.length < 1 by omega), decide_eq_false (show ¬ 1024 < db.length by omega), decide_eq_false (show ¬ 132 < l3.length by omega)]; rfl
    have h16 : ∀ j, j < db.length → (db.getD j []).length = 16 := fun j hj => by
      have := List.any_eq_false.1 hany _ (getD_mem hj)
      rw [bne_iff_ne] at this
      omega
    have by3 : ∀ i, i < l3.length → ∀ x ∈ l3.getD i [], 0 ≤ x ∧ x ≤ 255 := fun i hi => hc _ (getD_mem hi)
    have ok1 : ∀ i, i < l3.length → maskOk db.length (ofMask db.length (l3.getD i [])) = true := fun i hi => maskOk_of _ _ (by rw [ofMask_length]; exact (each' i hi).1) (ofMask_idem _ _ (each' i hi).1)
    have ok2 : ∀ i, i < l3.length → maskOk db.length (flipMask (ofMask db.length (l3.getD i [])) (askN l1 i).toNat) = true := fun i hi => by
      obtain ⟨q1, q2, q3⟩ := each' i hi
      exact maskOk_of _ _ (by rw [flip_length, ofMask_length]; exact q1) (by rw [ofMask_flip _ _ _ (by rw [ofMask_length]; exact q1) (by omega), ofMask_idem _ _ q1])
    have A1 : r1.all (maskOk db.length) = true := by
      rw [e1, List.all_map, List.all_eq_true]
      exact fun i hi => ok1 i (List.mem_range.1 hi)
    have A2 : r2.all (maskOk db.length) = true := by
      rw [e2, List.all_map, List.all_eq_true]
      exact fun i hi => ok2 i (List.mem_range.1 hi)
    refine ⟨h3, r1.map fun m => ansUpto db m db.length, r2.map fun m => ansUpto db m db.length, ?_, ?_, by simp [l_r1]; omega, by simp [l_r2]; omega, by omega, fun i hi => ?_⟩
    · unfold retrieval_Answer.f; rw [hb r1 l_r1, if_neg (by simp), if_pos A1]
    · unfold retrieval_Answer.f; rw [hb r2 l_r2, if_neg (by simp), if_pos A2]
    · have hi' : i < l3.length := by omega
      obtain ⟨q1, q2, q3⟩ := each' i hi'
      obtain ⟨n, hn⟩ := Int.eq_ofNat_of_zero_le q2
      have d16 : (db.getD n []).length = 16 := h16 n (by omega)
      refine ⟨q2, q3, by rw [hn, rd_L1_nat]; exact d16, ?_⟩
      rw [e1, e2, List.map_map, List.map_map, rd_L1_map _ _ hi', rd_L1_map _ _ hi', hn, rd_L1_nat]
      simp only [Function.comp, hn, Int.toNat_natCast]
      unfold retrieval_Join.f
      rw [if_pos ⟨ansUpto_length _ _ _, ansUpto_length _ _ _⟩, ans_pair db _ n (by rw [ofMask_length]; exact q1) (by omega) (ofMask_bytes _ _ (by3 i hi')) d16 (hdb _ (getD_mem (by omega)))]
end Go.Proofs.Ytekpbncljaeemaa.Q
