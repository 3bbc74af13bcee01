import Derived.Test.YtekpbncljaeemaaPf
namespace Go.Proofs.Ytekpbncljaeemaa.Q
open Go.RowKit Go.Proofs.YtekpbncljaeemaaW.PrintWords Go.Proofs.YtekpbncljaeemaaW.PrintLast Go.Proofs.YtekpbncljaeemaaW.PrintMore
set_option linter.unusedVariables false
set_option linter.unusedSimpArgs false

/-- the coins that Twin gives for query i -/
def twinAt (many : Int) (at_ other : List Int) (coins : List (List Int)) (i : Nat) : List Int := flipMask (flipMask (ofMask many.toNat (coins.getD i [])) (askN at_ i).toNat) (askN other i).toNat
theorem masksOf_good {many at_ : Int} {c : List Int} (h1 : 1 ≤ many) (h2 : many ≤ 1024) (h3 : c.length = (many.toNat + 7) / 8) (h4 : 0 ≤ at_) (h5 : at_ < many) : masksOf many at_ c = (ofMask many.toNat c, flipMask (ofMask many.toNat c) at_.toNat, 0) := by
  unfold masksOf
  rw [if_neg (by omega), if_neg (by omega)]
theorem twinOf_good {many i j : Int} {c : List Int} (h1 : 1 ≤ many) (h2 : many ≤ 1024) (h3 : c.length = (many.toNat + 7) / 8) (h4 : 0 ≤ i) (h5 : i < many) (h6 : 0 ≤ j) (h7 : j < many) : twinOf many i j c = (flipMask (flipMask (ofMask many.toNat c) i.toNat) j.toNat, 0) := by
  unfold twinOf
  rw [masksOf_good h1 h2 h3 h4 h5, if_pos rfl, if_neg (by omega)]
theorem hides_law (many : Int) (at_ other : List Int) (batch : Int) (coins : List (List Int)) (hc : ∀ m ∈ coins, ∀ x ∈ m, 0 ≤ x ∧ x ≤ 255) {r1 r2 s1 s2 : List (List Int)} {r3 s3 : Int}
    (h : retrieval_Ask.f many at_ batch coins = some (r1, r2, r3)) (h' : retrieval_Ask.f many other batch coins = some (s1, s2, s3)) (hr : r3 = 0) (hs : s3 = 0) :
    s1 = r1 ∧ (r1.length : Int) = batch ∧ (r2.length : Int) = batch ∧ (coins.length : Int) = batch ∧ coins.length ≤ 132 ∧
    (∀ i : Nat, (i : Int) < batch → (twinAt many at_ other coins i).length ≤ 128 ∧ ∀ k, retrieval_Twin.f (k + 2) many (askN at_ i) (askN other i) (rd_L1 coins (i : Int)) = some (twinAt many at_ other coins i, 0) ∧
      retrieval_Twin.f (k + 2) many (askN other i) (askN at_ i) (twinAt many at_ other coins i) = some (rd_L1 r1 (i : Int), 0)) ∧
    ∃ t1, retrieval_Ask.f many other batch ((List.range coins.length).map (twinAt many at_ other coins)) = some (t1, r2, 0) := by
  rcases ask_law _ _ _ _ h with ⟨q, _, _⟩ | ⟨_, ha2, g1, g2, g3, g4, g5, e1, e2, each⟩
  · exact absurd hr q
  rcases ask_law _ _ _ _ h' with ⟨q, _, _⟩ | ⟨_, _, _, _, g3', _, _, e1', e2', each'⟩
  · exact absurd hs q
  have by3 : ∀ i, i < coins.length → ∀ x ∈ coins.getD i [], 0 ≤ x ∧ x ≤ 255 := fun i hi => hc _ (getD_mem hi)
  have tl : ∀ i, i < coins.length → (twinAt many at_ other coins i).length = (many.toNat + 7) / 8 := fun i hi => by
    unfold twinAt; rw [flip_length, flip_length, ofMask_length]; exact (each i hi).1
  have ml : ∀ i, i < coins.length → (ofMask many.toNat (coins.getD i [])).length = (many.toNat + 7) / 8 := fun i hi => by rw [ofMask_length]; exact (each i hi).1
  have tof : ∀ i, i < coins.length → ofMask many.toNat (twinAt many at_ other coins i) = twinAt many at_ other coins i := fun i hi => by
    obtain ⟨q1, q2, q3⟩ := each i hi
    obtain ⟨q1', q2', q3'⟩ := each' i hi
    unfold twinAt
    rw [ofMask_flip _ _ _ (by rw [flip_length]; exact ml i hi) (by omega), ofMask_flip _ _ _ (ml i hi) (by omega), ofMask_idem _ _ q1]
  have back : ∀ i, i < coins.length → flipMask (twinAt many at_ other coins i) (askN other i).toNat = flipMask (ofMask many.toNat (coins.getD i [])) (askN at_ i).toNat := fun i hi => by
    obtain ⟨q1, q2, q3⟩ := each i hi
    obtain ⟨q1', q2', q3'⟩ := each' i hi
    unfold twinAt
    have := ml i hi
    exact flip_flip _ _ (by rw [flip_length]; omega) (flip_bytes _ _ (ofMask_bytes _ _ (by3 i hi)))
  refine ⟨by rw [e1, e1'], by rw [e1]; simp; omega, by rw [e2]; simp; omega, ha2, g2, fun i hi => ?_, ?_⟩
  · have hi' : i < coins.length := by omega
    obtain ⟨q1, q2, q3⟩ := each i hi'
    obtain ⟨q1', q2', q3'⟩ := each' i hi'
    refine ⟨by rw [tl i hi']; omega, fun k => ⟨?_, ?_⟩⟩
    · rw [rd_L1_nat, twin_of k, twinOf_good g4 g5 q1 q2 q3 q2' q3']; rfl
    · rw [twin_of k, twinOf_good g4 g5 (tl i hi') q2' q3' q2 q3, tof i hi', back i hi', e1, rd_L1_map _ _ hi']
      have := ml i hi'
      rw [flip_flip _ _ (by omega) (ofMask_bytes _ _ (by3 i hi'))]
  · have hlen : ((List.range coins.length).map (twinAt many at_ other coins)).length = coins.length := by simp
    have hat : ∀ i, i < coins.length → askAt many other ((List.range coins.length).map (twinAt many at_ other coins)) i = (twinAt many at_ other coins i, flipMask (ofMask many.toNat (coins.getD i [])) (askN at_ i).toNat, 0) := fun i hi => by
      obtain ⟨q1', q2', q3'⟩ := each' i hi
      have e : askAt many other ((List.range coins.length).map (twinAt many at_ other coins)) i = masksOf many (askN other i) (((List.range coins.length).map (twinAt many at_ other coins)).getD i []) := rfl
      have e2 : ((List.range coins.length).map (twinAt many at_ other coins)).getD i [] = twinAt many at_ other coins i := by
        have := rd_L1_map (twinAt many at_ other coins) i hi
        rwa [rd_L1_nat] at this
      rw [e, e2, masksOf_good g4 g5 (tl i hi) q2' q3', tof i hi, back i hi]
    have herr : ∀ n, n ≤ coins.length → askErr many other ((List.range coins.length).map (twinAt many at_ other coins)) n = 0 := by
      intro n
      induction n with
      | zero => intro _; rfl
      | succ n ih => intro hn; rw [askErr, if_pos (ih (by omega)), hat n (by omega)]
    unfold retrieval_Ask.f
    have hbad : askBad other batch ((List.range coins.length).map (twinAt many at_ other coins)) = false := by
      unfold askBad
      rw [hlen, decide_eq_false (show ¬ batch < 1 by omega), decide_eq_false (show ¬ 132 < batch by omega), decide_eq_false (show ¬ batch < (other.length : Int) by omega), show ((coins.length : Int) != batch) = false from bne_eq_false_iff_eq.mpr ha2]; rfl
    rw [hbad, if_neg (by simp), hlen, if_pos (herr _ (Nat.le_refl _))]
    refine ⟨(List.range coins.length).map (fun i => (askAt many other ((List.range coins.length).map (twinAt many at_ other coins)) i).1), ?_⟩
    have : (List.range coins.length).map (fun i => (askAt many other ((List.range coins.length).map (twinAt many at_ other coins)) i).2.1) = r2 := by
      rw [e2]
      exact List.map_congr_left fun i hi => by rw [hat i (List.mem_range.1 hi)]
    rw [this]
end Go.Proofs.Ytekpbncljaeemaa.Q
