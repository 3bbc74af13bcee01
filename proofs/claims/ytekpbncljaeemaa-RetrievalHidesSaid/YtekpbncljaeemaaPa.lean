import Derived.Test.YtekpbncljaeemaaQx6
namespace Go.Proofs.Ytekpbncljaeemaa.Q
open Go.RowKit Go.Proofs.YtekpbncljaeemaaW.PrintWords Go.Proofs.YtekpbncljaeemaaW.PrintLast Go.Proofs.YtekpbncljaeemaaW.PrintMore
set_option linter.unusedVariables false
set_option linter.unusedSimpArgs false

/-! ### bytes -/
def chooseByte (b : Int) (p : Nat) : Bool := (Go.bits .and .u8 (shr .u8 b (p : Int)) 1) == 1
def stepB (b : Int) (p : Nat) : Int := if chooseByte b p then Go.bits .xor .u8 b (2 ^ p) else b
def iterB (b : Int) (p : Nat) : Nat → Int
  | 0 => b
  | d + 1 => iterB (stepB b p) (p + 1) d
theorem bytes_all : ((List.range 256).all fun b => (List.range 8).all fun r => iterB (b : Int) r (8 - r) == Go.bits .and .u8 (b : Int) (2 ^ r - 1)) = true := by kernel_rfl
theorem iter_byte (b : Int) (h0 : 0 ≤ b) (h1 : b ≤ 255) (r : Nat) (hr : r < 8) : iterB b r (8 - r) = Go.bits .and .u8 b (2 ^ r - 1) := by
  obtain ⟨n, rfl⟩ := Int.eq_ofNat_of_zero_le h0
  have h := List.all_eq_true.1 (List.all_eq_true.1 bytes_all n (List.mem_range.2 (by omega))) r (List.mem_range.2 hr)
  exact eq_of_beq h

/-! ### masks -/
theorem change_of (m : List Int) (n : Nat) (hn : n ≤ 1000000) (h : n / 8 < m.length) (hm : m.length ≤ 1000000) : testamurref36_change.f m (n : Int) = some (flipMask m n) := by
  have e1 : Int.tmod (n : Int) 8 = ((n % 8 : Nat) : Int) := by rw [Int.tmod_eq_emod_of_nonneg (by omega)]; omega
  have e2 : wrap64 (Int.tdiv (n : Int) 8) = ((n / 8 : Nat) : Int) := by
    have : Int.tdiv (n : Int) 8 = ((n / 8 : Nat) : Int) := by rw [Int.tdiv_eq_ediv_of_nonneg (by omega)]; omega
    rw [this]; unfold wrap64; omega
  have e3 : shl .u8 1 ((n % 8 : Nat) : Int) = 2 ^ (n % 8) := by
    have h8 : n % 8 < 8 := Nat.mod_lt _ (by decide)
    generalize n % 8 = r at *
    have : ∀ r : Fin 8, shl .u8 1 ((r.1 : Nat) : Int) = 2 ^ r.1 := by decide
    exact this ⟨r, h8⟩
  unfold testamurref36_change.f flipMask
  rw [Option.bind_some, if_pos (by simp; omega), Option.bind_some, List.nil_append, e1, e2, if_pos (by omega), if_pos (by omega), if_pos (by omega), Int.toNat_natCast, e3]
theorem chooses_of (m : List Int) (n : Nat) (hn : n ≤ 1000000) (h : n / 8 < m.length) : testamurref36_Chooses.f m (n : Int) = some (chooseB m n) := choose_B m n hn h
theorem flip_length (m : List Int) (n : Nat) : (flipMask m n).length = m.length := by simp [flipMask]
def stepM (m : List Int) (n : Nat) : List Int := if chooseB m n then flipMask m n else m
theorem stepM_length (m : List Int) (n : Nat) : (stepM m n).length = m.length := by unfold stepM; split <;> simp [flipMask]
theorem set_rd (m : List Int) (i : Nat) (h : i < m.length) : m.set i (rd m (i : Int)) = m := by simp [rd, h]
theorem stepM_set (m : List Int) (n : Nat) (h : n / 8 < m.length) : stepM m n = m.set (n / 8) (stepB (rd m ((n / 8 : Nat) : Int)) (n % 8)) := by
  unfold stepM stepB
  have : chooseB m n = chooseByte (rd m ((n / 8 : Nat) : Int)) (n % 8) := rfl
  rw [this]
  split
  · rfl
  · exact (set_rd m _ h).symm
def iterM (m : List Int) (n : Nat) : Nat → List Int
  | 0 => m
  | d + 1 => iterM (stepM m n) (n + 1) d
theorem rd_set (m : List Int) (i : Nat) (x : Int) (h : i < m.length) : rd (m.set i x) (i : Int) = x := by simp [rd, h]
theorem iterM_set : ∀ (d n : Nat) (m : List Int), n / 8 < m.length → n % 8 + d ≤ 8 → iterM m n d = m.set (n / 8) (iterB (rd m ((n / 8 : Nat) : Int)) (n % 8) d)
  | 0, n, m, h, _ => by rw [iterM, iterB, set_rd m _ h]
  | 1, n, m, h, _ => by rw [iterM, iterM, iterB, iterB, stepM_set m n h]
  | d + 2, n, m, h, hd => by
    rw [iterM, iterB]
    have e1 : (n + 1) / 8 = n / 8 := by omega
    have e2 : (n + 1) % 8 = n % 8 + 1 := by omega
    rw [iterM_set (d + 1) (n + 1) (stepM m n) (by rw [stepM_length, e1]; exact h) (by omega), e1, e2, stepM_set m n h, rd_set _ _ _ h, List.set_set]
theorem maskOf_loop : ∀ (d k n : Nat) (m : List Int), m.length ≤ 100000 → n + d = 8 * m.length → testamurref36_maskOf.l0 (d + 1 + k) m (n : Int) = some (iterM m n d)
  | 0, k, n, m, hm, h => by
    rw [show 0 + 1 + k = k + 1 from by omega, testamurref36_maskOf.l0, iterM]
    have : wrap64 (8 * (m.length : Int)) = 8 * (m.length : Int) := by unfold wrap64; omega
    rw [this, if_neg (by omega)]
  | d + 1, k, n, m, hm, h => by
    rw [show d + 1 + 1 + k = (d + 1 + k) + 1 from by omega, testamurref36_maskOf.l0]
    have e : wrap64 (8 * (m.length : Int)) = 8 * (m.length : Int) := by unfold wrap64; omega
    have e2 : wrap64 ((n : Int) + 1) = ((n + 1 : Nat) : Int) := by unfold wrap64; omega
    rw [e, if_pos (by omega), chooses_of m n (by omega) (by omega), Option.bind_some, e2, iterM, stepM]
    cases hb : chooseB m n with
    | true =>
      rw [if_pos rfl, if_pos rfl, change_of m n (by omega) (by omega) (by omega), Option.bind_some]
      exact maskOf_loop d k (n + 1) _ (by rw [flip_length]; exact hm) (by rw [flip_length]; omega)
    | false =>
      rw [if_neg (by simp), if_neg (by simp)]
      exact maskOf_loop d k (n + 1) m hm (by omega)
theorem rd_byte {m : List Int} (hb : ∀ x ∈ m, 0 ≤ x ∧ x ≤ 255) (i : Int) : 0 ≤ rd m i ∧ rd m i ≤ 255 := by
  unfold rd
  rcases Nat.lt_or_ge i.toNat m.length with h | h
  · rw [List.getD_eq_getElem?_getD, List.getElem?_eq_getElem h]
    exact hb _ (List.getElem_mem h)
  · rw [List.getD_eq_getElem?_getD, List.getElem?_eq_none h]
    decide
theorem maskOf_of (many k : Nat) (m : List Int) (h1 : many ≤ 1024) (hm : m.length = (many + 7) / 8) (hb : ∀ x ∈ m, 0 ≤ x ∧ x ≤ 255) : testamurref36_maskOf.f (9 + k) (many : Int) m = some (ofMask many m) := by
  unfold testamurref36_maskOf.f
  rw [Option.bind_some, if_pos (by simp; omega), List.nil_append]
  have hl := maskOf_loop (8 * m.length - many) (9 + k - (8 * m.length - many) - 1) many m (by omega) (by omega)
  rw [show 8 * m.length - many + 1 + (9 + k - (8 * m.length - many) - 1) = 9 + k from by omega] at hl
  rw [hl]
  unfold ofMask
  by_cases h8 : many % 8 = 0
  · rw [if_pos h8, show 8 * m.length - many = 0 from by omega, iterM]
  · rw [if_neg h8, show 8 * m.length - many = 8 - many % 8 from by omega, iterM_set _ _ _ (by omega) (by omega)]
    obtain ⟨h0, h255⟩ := rd_byte hb ((many / 8 : Nat) : Int)
    rw [iter_byte _ h0 h255 _ (Nat.mod_lt _ (by decide))]
theorem rsize_of (mn : Nat) (h : mn ≤ 1024) : testamurref36_size.f (mn : Int) = some (((mn + 7) / 8 : Nat) : Int) := size_of mn h
theorem rmasks_j1 (k mn a : Nat) (c : List Int) (h2 : mn ≤ 1024) (h3 : c.length = (mn + 7) / 8) (h5 : a < mn) (hb : ∀ x ∈ c, 0 ≤ x ∧ x ≤ 255) : testamurref36_Masks.j1 (9 + k + 1) (mn : Int) (a : Int) c false = some (ofMask mn c, flipMask (ofMask mn c) a, 0) := by
  rw [testamurref36_Masks.j1, if_neg (by simp), maskOf_of mn k c h2 h3 hb, Option.bind_some, change_of _ a (by omega) (by rw [ofMask_length]; omega) (by rw [ofMask_length]; omega), Option.bind_some]
theorem rmasks_of (k : Nat) (many at_ : Int) (c : List Int) (hb : ∀ x ∈ c, 0 ≤ x ∧ x ≤ 255) : testamurref36_Masks.f (9 + k + 2) many at_ c = some (masksOf many at_ c) := by
  unfold testamurref36_Masks.f masksOf
  by_cases h1 : many < 1
  · rw [if_pos h1, if_pos (.inl h1), testamurref36_Masks.j0, if_pos rfl]
  · by_cases h2 : 1024 < many
    · rw [if_neg h1, if_pos h2, if_pos (.inr (.inl h2)), testamurref36_Masks.j0, if_pos rfl]
    · rw [if_neg h1, if_neg h2]
      obtain ⟨mn, rfl⟩ := Int.eq_ofNat_of_zero_le (show 0 ≤ many by omega)
      rw [rsize_of mn (by omega), Option.bind_some]
      by_cases h3 : (c.length : Int) = ((mn : Int) + 7) / 8
      · rw [if_neg (fun q => by rcases q with q | q | q <;> omega)]
        have hbb : ((c.length : Int) != (((mn + 7) / 8 : Nat) : Int)) = false := by rw [bne_eq_false_iff_eq]; omega
        rw [hbb, testamurref36_Masks.j0, if_neg (by simp)]
        by_cases h4 : at_ < 0
        · rw [if_pos h4, if_pos (.inl h4), testamurref36_Masks.j1, if_pos rfl]
        · rw [if_neg h4]
          by_cases h5 : (mn : Int) ≤ at_
          · have hd : decide (at_ ≥ (mn : Int)) = true := decide_eq_true h5
            rw [if_pos (.inr h5), hd, testamurref36_Masks.j1, if_pos rfl]
          · have hd : decide (at_ ≥ (mn : Int)) = false := decide_eq_false (by omega)
            obtain ⟨a, rfl⟩ := Int.eq_ofNat_of_zero_le (show 0 ≤ at_ by omega)
            rw [if_neg (fun q => by rcases q with q | q <;> omega), hd, rmasks_j1 k mn a c (by omega) (by omega) (by omega) hb, Int.toNat_natCast, Int.toNat_natCast]
      · rw [if_pos (.inr (.inr h3))]
        have hbb : ((c.length : Int) != (((mn + 7) / 8 : Nat) : Int)) = true := by rw [bne_iff_ne]; omega
        rw [hbb, testamurref36_Masks.j0, if_pos rfl]

theorem ofMask_flip_length (many : Nat) (c : List Int) (a : Nat) : (flipMask (ofMask many c) a).length = c.length := by rw [flip_length, ofMask_length]
/-- what Masks gives when it gives something -/
theorem masksOf_ok {many at_ : Int} {c : List Int} {x y : List Int} (h : masksOf many at_ c = (x, y, 0)) : 1 ≤ many ∧ many ≤ 1024 ∧ (c.length : Int) = (many + 7) / 8 ∧ 0 ≤ at_ ∧ at_ < many ∧ x = ofMask many.toNat c ∧ y = flipMask (ofMask many.toNat c) at_.toNat := by
  unfold masksOf at h
  split at h
  · cases h
  · split at h
    · cases h
    · rename_i h1 h2
      injection h with h3 h4
      injection h4 with h4 h5
      exact ⟨by omega, by omega, by omega, by omega, by omega, h3.symm, h4.symm⟩
def twinOf (many i j : Int) (c : List Int) : List Int × Int :=
  if (masksOf many i c).2.2 = 0 then (if j < 0 ∨ many ≤ j then ([], 1) else (flipMask (masksOf many i c).2.1 j.toNat, 0)) else ([], (masksOf many i c).2.2)
theorem twin_of (k : Nat) (many i j : Int) (c : List Int) : retrieval_Twin.f (k + 2) many i j c = some (twinOf many i j c) := by
  unfold retrieval_Twin.f twinOf
  rw [masks_of k, Option.bind_some]
  by_cases h : (masksOf many i c).2.2 = 0
  · rw [if_pos h, if_pos h]
    by_cases h1 : j < 0
    · rw [if_pos h1, if_pos (.inl h1)]
    · rw [if_neg h1]
      by_cases h2 : many ≤ j
      · rw [if_pos h2, if_pos (.inr h2)]
      · rw [if_neg (by omega), if_neg (fun q => by rcases q with q | q <;> omega)]
        obtain ⟨n, rfl⟩ := Int.eq_ofNat_of_zero_le (show 0 ≤ j by omega)
        obtain ⟨q1, q2, q3, q4, q5, q6, q7⟩ := masksOf_ok (x := (masksOf many i c).1) (y := (masksOf many i c).2.1) (by rw [← h])
        rw [flip_mask _ n (by omega) (by rw [q7, ofMask_flip_length]; omega), Option.bind_some, Int.toNat_natCast]
  · rw [if_neg h, if_neg h]
theorem rtwin_of (k : Nat) (many i j : Int) (c : List Int) (hb : ∀ x ∈ c, 0 ≤ x ∧ x ≤ 255) : testamurref36_Twin.f (9 + k + 2) many i j c = some (twinOf many i j c) := by
  unfold testamurref36_Twin.f twinOf
  rw [rmasks_of k many i c hb, Option.bind_some]
  by_cases h : (masksOf many i c).2.2 = 0
  · rw [if_pos h, if_pos h]
    by_cases h1 : j < 0
    · rw [if_pos h1, if_pos (.inl h1)]
    · rw [if_neg h1]
      by_cases h2 : many ≤ j
      · rw [if_pos h2, if_pos (.inr h2)]
      · rw [if_neg (by omega), if_neg (fun q => by rcases q with q | q <;> omega)]
        obtain ⟨n, rfl⟩ := Int.eq_ofNat_of_zero_le (show 0 ≤ j by omega)
        obtain ⟨q1, q2, q3, q4, q5, q6, q7⟩ := masksOf_ok (x := (masksOf many i c).1) (y := (masksOf many i c).2.1) (by rw [← h])
        rw [change_of _ n (by omega) (by rw [q7, ofMask_flip_length]; omega) (by rw [q7, ofMask_flip_length]; omega), Option.bind_some, Int.toNat_natCast]
  · rw [if_neg h, if_neg h]
theorem bytes_wf {l : List Int} (h : ∀ x ∈ l, (Lit.int .u8 x).wf = true) : ∀ x ∈ l, 0 ≤ x ∧ x ≤ 255 := by
  intro x hx
  have := h x hx
  simp [Lit.wf, IntKind.min, IntKind.max, IntKind.signed, IntKind.bits] at this
  omega

end Go.Proofs.Ytekpbncljaeemaa.Q
