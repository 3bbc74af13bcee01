import Derived.Test.YtekpbncljaeemaaPa
import Derived.Test.YtekpbncljaeemaaQx8
namespace Go.Proofs.Ytekpbncljaeemaa.Q
open Go.RowKit Go.Proofs.YtekpbncljaeemaaW.PrintWords Go.Proofs.YtekpbncljaeemaaW.PrintLast Go.Proofs.YtekpbncljaeemaaW.PrintMore
set_option linter.unusedVariables false
set_option linter.unusedSimpArgs false

/-! ### Few -/
theorem rd_L1_nat (l : List (List Int)) (n : Nat) : rd_L1 l (n : Int) = l.getD n [] := by simp [rd_L1]
theorem few_loop : ∀ (d k n : Nat) (l : List (List Int)) (m : Int), l.length ≤ 9223372036854775807 → n + d = l.length → (∀ i, i < n → (l.getD i []).length ≤ 130) →
    ∃ b, testamurref36_Few.l0 (d + 1 + k) l m (n : Int) = some b ∧ (b = true → (l.length : Int) ≤ m ∧ ∀ i, i < l.length → (l.getD i []).length ≤ 130)
  | 0, k, n, l, m, hl, h, hp => by
    rw [show 0 + 1 + k = k + 1 from by omega, testamurref36_Few.l0, if_neg (by omega)]
    exact ⟨_, rfl, fun q => ⟨of_decide_eq_true q, fun i hi => hp i (by omega)⟩⟩
  | d + 1, k, n, l, m, hl, h, hp => by
    rw [show d + 1 + 1 + k = (d + 1 + k) + 1 from by omega, testamurref36_Few.l0, if_pos (by omega), if_pos (by omega), rd_L1_nat]
    by_cases hq : ((l.getD n []).length : Int) > 130
    · rw [if_pos hq]; exact ⟨false, rfl, fun q => by cases q⟩
    · rw [if_neg hq, show wrap64 ((n : Int) + 1) = ((n + 1 : Nat) : Int) from by unfold wrap64; omega]
      exact few_loop d k (n + 1) l m hl (by omega) (fun i hi => by
        rcases Nat.lt_or_eq_of_le (Nat.lt_succ_iff.1 hi) with h1 | h1
        · exact hp i h1
        · subst h1; omega)
theorem few_of (k : Nat) (l : List (List Int)) (m : Int) (hl : l.length ≤ 9223372036854775807) :
    ∃ b, testamurref36_Few.f (l.length + 1 + k) l m = some b ∧ (b = true → (l.length : Int) ≤ m ∧ ∀ i, i < l.length → (l.getD i []).length ≤ 130) :=
  few_loop l.length k 0 l m hl (by omega) (fun i hi => absurd hi (Nat.not_lt_zero _))

/-! ### Join -/
def joinIter (a b x : List Int) (n : Nat) : Nat → List Int
  | 0 => x
  | d + 1 => joinIter a b (x.set n (Go.bits .xor .u8 (rd a (n : Int)) (rd b (n : Int)))) (n + 1) d
theorem join_loop (a b : List Int) (ha : a.length = 16) (hb : b.length = 16) : ∀ (d k n : Nat) (x : List Int), x.length = 16 → n + d = 16 →
    testamurref36_Join.l0 (d + 1 + k) a b x (n : Int) = some (joinIter a b x n d, 0)
  | 0, k, n, x, hx, h => by
    rw [show 0 + 1 + k = k + 1 from by omega, testamurref36_Join.l0, if_neg (by omega), joinIter]
  | d + 1, k, n, x, hx, h => by
    rw [show d + 1 + 1 + k = (d + 1 + k) + 1 from by omega, testamurref36_Join.l0, if_pos (by omega), if_pos (by omega), if_pos (by omega), if_pos (by omega), if_pos (by omega),
      show wrap64 ((n : Int) + 1) = ((n + 1 : Nat) : Int) from by unfold wrap64; omega, Int.toNat_natCast]
    exact join_loop a b ha hb d k (n + 1) _ (by simpa using hx) (by omega)
theorem joinIter_get (a b : List Int) : ∀ (d n : Nat) (x : List Int) (i : Nat), n + d ≤ x.length →
    (joinIter a b x n d)[i]? = if n ≤ i ∧ i < n + d then some (Go.bits .xor .u8 (rd a (i : Int)) (rd b (i : Int))) else x[i]?
  | 0, n, x, i, h => by rw [joinIter, if_neg (by omega)]
  | d + 1, n, x, i, h => by
    rw [joinIter, joinIter_get a b d (n + 1) _ i (by simp; omega)]
    by_cases h1 : n + 1 ≤ i ∧ i < n + 1 + d
    · rw [if_pos h1, if_pos (by omega)]
    · rw [if_neg h1, List.getElem?_set]
      by_cases h2 : n = i
      · subst h2
        rw [if_pos rfl, if_pos (by omega), if_pos (by omega)]
      · rw [if_neg h2, if_neg (by omega)]
theorem xor_zero_all : ((List.range 256).all fun b => Go.bits .xor .u8 0 (b : Int) == (b : Int)) = true := by kernel_rfl
theorem xor_zero {b : Int} (h : 0 ≤ b ∧ b ≤ 255) : Go.bits .xor .u8 0 b = b := by
  obtain ⟨n, rfl⟩ := Int.eq_ofNat_of_zero_le h.1
  exact eq_of_beq (List.all_eq_true.1 xor_zero_all n (List.mem_range.2 (by omega)))
theorem xorL_get (x b : List Int) (i : Nat) : (xorL x b)[i]? = x[i]?.map fun v => Go.bits .xor .u8 v (rd b (i : Int)) := by
  unfold xorL xorUpto
  rw [List.getElem?_mapIdx]
  rcases Nat.lt_or_ge i x.length with h | h
  · rw [List.getElem?_eq_getElem h]; simp [h]
  · rw [List.getElem?_eq_none h]; rfl
theorem join_eq (a b : List Int) (ha : a.length = 16) (hb : b.length = 16) (hba : ∀ x ∈ a, 0 ≤ x ∧ x ≤ 255) : joinIter a b (List.replicate 16 0) 0 16 = xorL (xorL (List.replicate 16 0) a) b := by
  apply List.ext_getElem?
  intro i
  rw [joinIter_get a b 16 0 _ i (by simp), xorL_get, xorL_get]
  rcases Nat.lt_or_ge i 16 with h | h
  · rw [if_pos (by omega), List.getElem?_eq_getElem (by simpa using h)]
    simp only [List.getElem_replicate, Option.map_some]
    rw [xor_zero (rd_byte hba _)]
  · rw [if_neg (by omega), List.getElem?_eq_none (by simpa using h)]; rfl
theorem rjoin_of (k : Nat) (a b : List Int) (hba : ∀ x ∈ a, 0 ≤ x ∧ x ≤ 255) : testamurref36_Join.f (18 + k) a b = retrieval_Join.f a b := by
  unfold testamurref36_Join.f retrieval_Join.f
  by_cases h1 : a.length = 16
  · by_cases h2 : b.length = 16
    · rw [if_pos (by omega), if_pos ⟨h1, h2⟩, show ((b.length : Int) != 16) = false from by rw [bne_eq_false_iff_eq]; omega, show 18 + k = (16 + 1 + k) + 1 from by omega, testamurref36_Join.j0, if_neg (by simp), if_pos (by decide)]
      rw [show (0 : Int) = ((0 : Nat) : Int) from rfl, join_loop a b h1 h2 16 k 0 _ (by simp) (by omega)]
      rw [show ((0 : Nat) : Int) = 0 from rfl, join_eq a b h1 h2 hba]
    · rw [if_pos (by omega), if_neg (fun q => h2 q.2), show ((b.length : Int) != 16) = true from by rw [bne_iff_ne]; omega, show 18 + k = (17 + k) + 1 from by omega, testamurref36_Join.j0, if_pos rfl]
  · rw [if_neg (by omega), if_neg (fun q => h1 q.1), show 18 + k = (17 + k) + 1 from by omega, testamurref36_Join.j0, if_pos rfl]

/-! ### database -/
theorem database_loop : ∀ (d k n : Nat) (l : List (List Int)), l.length ≤ 9223372036854775807 → n + d = l.length →
    testamurref36_database.l0 (d + 1 + k) l (n : Int) = some ((l.drop n).all (fun b => decide (b.length = 16)) && decide (1 ≤ l.length) && decide (l.length ≤ 1024))
  | 0, k, n, l, hl, h => by
    rw [show 0 + 1 + k = k + 1 from by omega, testamurref36_database.l0, if_neg (by omega), List.drop_eq_nil_of_le (by omega)]
    by_cases h1 : (l.length : Int) ≥ 1
    · rw [if_pos h1, decide_eq_true (show 1 ≤ l.length by omega)]
      simp only [List.all_nil, Bool.true_and, Option.some.injEq, decide_eq_decide]
      omega
    · rw [if_neg h1, decide_eq_false (show ¬ 1 ≤ l.length by omega)]; simp
  | d + 1, k, n, l, hl, h => by
    rw [show d + 1 + 1 + k = (d + 1 + k) + 1 from by omega, testamurref36_database.l0, if_pos (by omega), if_pos (by omega), rd_L1_nat, List.drop_eq_getElem_cons (show n < l.length by omega), List.all_cons]
    have e : l.getD n [] = l[n]'(by omega) := by rw [List.getD_eq_getElem?_getD, List.getElem?_eq_getElem (by omega)]; rfl
    rw [e]
    by_cases hq : ((l[n]'(by omega)).length : Int) = 16
    · rw [if_pos hq, show wrap64 ((n : Int) + 1) = ((n + 1 : Nat) : Int) from by unfold wrap64; omega, database_loop d k (n + 1) l hl (by omega), decide_eq_true (show (l[n]'(by omega)).length = 16 by omega), Bool.true_and]
    · rw [if_neg hq, decide_eq_false (show ¬ (l[n]'(by omega)).length = 16 by omega)]; simp
theorem database_of (k : Nat) (l : List (List Int)) (hl : l.length ≤ 9223372036854775807) :
    testamurref36_database.f (l.length + 1 + k) l = some (l.all (fun b => decide (b.length = 16)) && decide (1 ≤ l.length) && decide (l.length ≤ 1024)) := by
  unfold testamurref36_database.f
  have := database_loop l.length k 0 l hl (by omega)
  rwa [List.drop_zero] at this

/-! ### Mask -/
theorem rmask_of (k many : Nat) (m : List Int) (h1 : many ≤ 1024) (hb : ∀ x ∈ m, 0 ≤ x ∧ x ≤ 255) : testamurref36_Mask.f (9 + k) (many : Int) m = some (maskOk many m) := by
  unfold testamurref36_Mask.f maskOk
  rw [rsize_of many h1, Option.bind_some]
  by_cases h : (m.length : Int) = (((many + 7) / 8 : Nat) : Int)
  · rw [if_pos h, maskOf_of many k m h1 (by omega) hb, Option.bind_some, decide_eq_true (show m.length = (many + 7) / 8 by omega), Bool.true_and]
  · rw [if_neg h, decide_eq_false (show ¬ m.length = (many + 7) / 8 by omega), Bool.false_and]

/-! ### Same -/
theorem same_loop : ∀ (d k n : Nat) (l : List (List Int)), l.length ≤ 9223372036854775807 → n + d = l.length → testamurref36_Same.l0 (d + 1 + k) l l (n : Int) = some true
  | 0, k, n, l, hl, h => by
    rw [show 0 + 1 + k = k + 1 from by omega, testamurref36_Same.l0, if_neg (by omega)]
  | d + 1, k, n, l, hl, h => by
    rw [show d + 1 + 1 + k = (d + 1 + k) + 1 from by omega, testamurref36_Same.l0, if_pos (by omega), if_pos (by omega), if_pos (by omega), if_pos rfl, show wrap64 ((n : Int) + 1) = ((n + 1 : Nat) : Int) from by unfold wrap64; omega]
    exact same_loop d k (n + 1) l hl (by omega)
theorem same_of (k : Nat) (l : List (List Int)) (hl : l.length ≤ 9223372036854775807) : testamurref36_Same.f (l.length + 1 + k) l l = some true := by
  unfold testamurref36_Same.f
  rw [if_pos rfl]
  exact same_loop l.length k 0 l hl (by omega)

/-! ### the sum of bytes -/
theorem xor8 (x y : Int) : Go.bits .xor .u8 x y = ((BitVec.ofInt 8 x ^^^ BitVec.ofInt 8 y).toNat : Int) := by
  show ((((BitVec.ofInt 8 x ^^^ BitVec.ofInt 8 y).toNat : Int) % (2 ^ 8 : Int))) = _
  have := (BitVec.ofInt 8 x ^^^ BitVec.ofInt 8 y).isLt
  omega
theorem xor_byte (x y : Int) : 0 ≤ Go.bits .xor .u8 x y ∧ Go.bits .xor .u8 x y ≤ 255 := by
  rw [xor8]
  have := (BitVec.ofInt 8 x ^^^ BitVec.ofInt 8 y).isLt
  omega
theorem ofInt_toNat8 (r : BitVec 8) : BitVec.ofInt 8 (r.toNat : Int) = r := by
  apply BitVec.eq_of_toNat_eq
  simp
theorem toNat_ofInt8 {x : Int} (h : 0 ≤ x ∧ x ≤ 255) : ((BitVec.ofInt 8 x).toNat : Int) = x := by
  rw [BitVec.toNat_ofInt]
  omega
theorem xor_assoc8 (x y z : Int) : Go.bits .xor .u8 (Go.bits .xor .u8 x y) z = Go.bits .xor .u8 x (Go.bits .xor .u8 y z) := by
  rw [xor8, xor8 x y, ofInt_toNat8, xor8 x, xor8 y z, ofInt_toNat8, BitVec.xor_assoc]
theorem xor_comm8 (x y : Int) : Go.bits .xor .u8 x y = Go.bits .xor .u8 y x := by
  rw [xor8, xor8, BitVec.xor_comm]
theorem xor_self8 (x : Int) : Go.bits .xor .u8 x x = 0 := by
  rw [xor8, BitVec.xor_self]; rfl
theorem xorL_bytes (x b : List Int) : ∀ v ∈ xorL x b, 0 ≤ v ∧ v ≤ 255 := by
  intro v hv
  obtain ⟨i, hi⟩ := List.mem_iff_getElem?.1 hv
  rw [xorL_get] at hi
  cases h : x[i]? with
  | none => rw [h] at hi; cases hi
  | some u =>
    rw [h] at hi
    have hi := Option.some.inj hi
    rw [← hi]
    exact xor_byte _ _
theorem xorL_zero (a : List Int) (ha : a.length = 16) (hba : ∀ x ∈ a, 0 ≤ x ∧ x ≤ 255) : xorL (List.replicate 16 0) a = a := by
  apply List.ext_getElem?
  intro i
  rw [xorL_get]
  rcases Nat.lt_or_ge i 16 with h | h
  · rw [List.getElem?_eq_getElem (by simpa using h), List.getElem?_eq_getElem (by omega)]
    simp only [List.getElem_replicate, Option.map_some]
    rw [xor_zero (rd_byte hba _)]
    simp [rd, ha, h]
  · rw [List.getElem?_eq_none (by simpa using h), List.getElem?_eq_none (by omega)]; rfl

/-! ### Answer -/
theorem ansUpto_bytes (db : List (List Int)) (m : List Int) : ∀ n, ∀ x ∈ ansUpto db m n, 0 ≤ x ∧ x ≤ 255
  | 0, x, h => by
    rw [ansUpto] at h
    have := (List.mem_replicate.1 h).2
    omega
  | n + 1, x, h => by
    rw [ansUpto] at h
    split at h
    · exact xorL_bytes _ _ x h
    · exact ansUpto_bytes db m n x h
theorem ans_inner (db msks r : List (List Int)) (i : Nat) (h16 : ∀ n, n < db.length → (db.getD n []).length = 16) (hL : db.length ≤ 1024) (hi : i < msks.length) (hQ : msks.length ≤ 132)
    (hm : (msks.getD i []).length = (db.length + 7) / 8) (hr : r.length ≤ 132) : ∀ (d k n : Nat), n + d = db.length →
    testamurref36_Answer.l1 (d + 1 + (18 + k)) db (i : Int) (ansUpto db (msks.getD i []) n) (n : Int) msks r = testamurref36_Answer.l0 (18 + k) db ((i + 1 : Nat) : Int) msks (r ++ [ansUpto db (msks.getD i []) db.length])
  | 0, k, n, h => by
    rw [show 0 + 1 + (18 + k) = (18 + k) + 1 from by omega, testamurref36_Answer.l1, if_neg (by omega), if_pos (by omega), show wrap64 ((i : Int) + 1) = ((i + 1 : Nat) : Int) from by unfold wrap64; omega, show n = db.length from by omega]
  | d + 1, k, n, h => by
    rw [show d + 1 + 1 + (18 + k) = (d + 1 + (18 + k)) + 1 from by omega, testamurref36_Answer.l1, if_pos (by omega), if_pos (by omega), if_pos (by omega), rd_L1_nat, chooses_of _ n (by omega) (by omega), Option.bind_some,
      show wrap64 ((n : Int) + 1) = ((n + 1 : Nat) : Int) from by unfold wrap64; omega]
    have ih := ans_inner db msks r i h16 hL hi hQ hm hr d k (n + 1) (by omega)
    rw [ansUpto] at ih
    cases hc : chooseB (msks.getD i []) n with
    | true =>
      rw [if_pos rfl, if_pos (by omega), rd_L1_nat, show d + 1 + (18 + k) = 18 + (d + 1 + k) from by omega, rjoin_of _ _ _ (ansUpto_bytes _ _ _), retrieval_Join.f, if_pos ⟨ansUpto_length _ _ _, h16 n (by omega)⟩, Option.bind_some]
      rw [xorL_zero _ (ansUpto_length _ _ _) (ansUpto_bytes _ _ _), show 18 + (d + 1 + k) = d + 1 + (18 + k) from by omega]
      rw [hc, if_pos rfl] at ih
      exact ih
    | false =>
      rw [if_neg (by simp)]
      rw [hc, if_neg (by simp)] at ih
      exact ih
theorem ans_outer (db msks : List (List Int)) (h16 : ∀ n, n < db.length → (db.getD n []).length = 16) (hL : db.length ≤ 1024) (hQ : msks.length ≤ 132)
    (hb : ∀ m ∈ msks, ∀ x ∈ m, 0 ≤ x ∧ x ≤ 255) : ∀ (q k i : Nat) (r : List (List Int)), i + q = msks.length → r.length = i →
    testamurref36_Answer.l0 (q * (db.length + 2) + (19 + k)) db (i : Int) msks r = if (msks.drop i).all (maskOk db.length) then some (r ++ (msks.drop i).map (fun m => ansUpto db m db.length), 0) else some ([], 360)
  | 0, k, i, r, h, hr => by
    rw [show 0 * (db.length + 2) + (19 + k) = (18 + k) + 1 from by omega, testamurref36_Answer.l0, if_neg (by omega), List.drop_eq_nil_of_le (by omega), if_pos (by rfl), List.map_nil, List.append_nil]
  | q + 1, k, i, r, h, hr => by
    have hF : (q + 1) * (db.length + 2) + (19 + k) = (db.length + 1 + (18 + (q * (db.length + 2) + (1 + k)))) + 1 := by rw [Nat.succ_mul]; omega
    have e : msks.getD i [] = msks[i]'(by omega) := by rw [List.getD_eq_getElem?_getD, List.getElem?_eq_getElem (by omega)]; rfl
    rw [hF, testamurref36_Answer.l0, if_pos (by omega), if_pos (by omega), rd_L1_nat, show db.length + 1 + (18 + (q * (db.length + 2) + (1 + k))) = 9 + (db.length + 1 + (9 + (q * (db.length + 2) + (1 + k)))) from by omega,
      rmask_of _ db.length _ hL (by rw [e]; exact hb _ (List.getElem_mem _)), Option.bind_some, List.drop_eq_getElem_cons (show i < msks.length by omega), List.all_cons, ← e]
    cases hk : maskOk db.length (msks.getD i []) with
    | false => rw [if_neg (by simp), if_neg (by simp)]
    | true =>
      have hlen : (msks.getD i []).length = (db.length + 7) / 8 := by
        unfold maskOk at hk
        rw [Bool.and_eq_true] at hk
        exact of_decide_eq_true hk.1
      rw [if_pos rfl, if_pos (by decide), Bool.true_and, show 9 + (db.length + 1 + (9 + (q * (db.length + 2) + (1 + k)))) = db.length + 1 + (18 + (q * (db.length + 2) + (1 + k))) from by omega]
      have := ans_inner db msks r i h16 hL (by omega) hQ hlen (by omega) db.length (q * (db.length + 2) + (1 + k)) 0 (by omega)
      rw [ansUpto] at this
      refine Eq.trans this ?_
      rw [show 18 + (q * (db.length + 2) + (1 + k)) = q * (db.length + 2) + (19 + k) from by omega, ans_outer db msks h16 hL hQ hb q k (i + 1) _ (by omega) (by simp; omega)]
      rw [List.map_cons, List.append_assoc, List.singleton_append]
theorem all_len {l : List (List Int)} {p : List Int → Bool} (h : l.all p = true) : ∀ n, n < l.length → p (l.getD n []) = true := by
  intro n hn
  rw [List.getD_eq_getElem?_getD, List.getElem?_eq_getElem hn]
  exact List.all_eq_true.1 h _ (List.getElem_mem hn)
theorem ranswer_of (db msks : List (List Int)) (hl : db.length ≤ 9223372036854775807) (hb : ∀ m ∈ msks, ∀ x ∈ m, 0 ≤ x ∧ x ≤ 255) (k : Nat) (hk : msks.length * (db.length + 2) + db.length + 40 ≤ k) :
    testamurref36_Answer.f k db msks = retrieval_Answer.f db msks := by
  unfold testamurref36_Answer.f retrieval_Answer.f
  rw [show k = db.length + 1 + (k - (db.length + 1)) from by omega, database_of _ db hl, Option.bind_some]
  rw [show db.length + 1 + (k - (db.length + 1)) = (k - 1) + 1 from by omega]
  cases h1 : db.all (fun b => decide (b.length = 16)) with
  | false =>
    have hbad : ansBad db msks = true := by
      unfold ansBad
      rw [List.all_eq_false] at h1
      obtain ⟨b, hb1, hb2⟩ := h1
      have : (db.any fun b => (b.length : Int) != 16) = true := List.any_eq_true.2 ⟨b, hb1, by
        rw [bne_iff_ne]
        have : ¬ b.length = 16 := by simpa using hb2
        omega⟩
      rw [this, Bool.or_true]
    rw [hbad, if_pos rfl, Bool.false_and, Bool.false_and, if_neg (by simp), testamurref36_Answer.j0, if_pos rfl]
  | true =>
    have h16 : ∀ n, n < db.length → (db.getD n []).length = 16 := fun n hn => of_decide_eq_true (all_len h1 n hn)
    have hany : (db.any fun b => (b.length : Int) != 16) = false := by
      rw [List.any_eq_false]
      intro b hb1
      have := of_decide_eq_true (List.all_eq_true.1 h1 b hb1)
      rw [bne_iff_ne]; omega
    unfold ansBad
    rw [hany, Bool.or_false]
    by_cases hlo : db.length < 1
    · rw [decide_eq_true hlo, Bool.true_or, Bool.true_or, if_pos rfl, decide_eq_false (show ¬ 1 ≤ db.length by omega), Bool.and_false, Bool.false_and, if_neg (by simp), testamurref36_Answer.j0, if_pos rfl]
    · rw [decide_eq_false hlo, decide_eq_true (show 1 ≤ db.length by omega), Bool.and_true, Bool.true_and, Bool.false_or]
      by_cases hhi : 1024 < db.length
      · rw [decide_eq_true hhi, Bool.true_or, if_pos rfl, decide_eq_false (show ¬ db.length ≤ 1024 by omega), if_neg (by simp), testamurref36_Answer.j0, if_pos rfl]
      · rw [decide_eq_false hhi, decide_eq_true (show db.length ≤ 1024 by omega), if_pos rfl, Bool.false_or]
        by_cases hm : 132 < msks.length
        · rw [decide_eq_true hm, if_pos rfl, decide_eq_true (show (msks.length : Int) > 132 by omega), testamurref36_Answer.j0, if_pos rfl]
        · rw [decide_eq_false hm, decide_eq_false (show ¬ (msks.length : Int) > 132 by omega), testamurref36_Answer.j0, if_neg (by simp), if_neg (by simp)]
          rw [show k - 1 = msks.length * (db.length + 2) + (19 + (k - 1 - msks.length * (db.length + 2) - 19)) from by omega]
          refine Eq.trans (ans_outer db msks h16 (by omega) (by omega) hb msks.length _ 0 [] (by omega) rfl) ?_
          rw [List.drop_zero, List.nil_append]
end Go.Proofs.Ytekpbncljaeemaa.Q
