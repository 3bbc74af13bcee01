import Derived.Test.YtekpbncljaeemaaPc
namespace Go.Proofs.Ytekpbncljaeemaa.Q
open Go.RowKit Go.Proofs.YtekpbncljaeemaaW.PrintWords Go.Proofs.YtekpbncljaeemaaW.PrintLast Go.Proofs.YtekpbncljaeemaaW.PrintMore
set_option linter.unusedVariables false
set_option linter.unusedSimpArgs false

/-! ### bytes, bit by bit -/
theorem and8 (x y : Int) : Go.bits .and .u8 x y = ((BitVec.ofInt 8 x &&& BitVec.ofInt 8 y).toNat : Int) := by
  show ((((BitVec.ofInt 8 x &&& BitVec.ofInt 8 y).toNat : Int) % (2 ^ 8 : Int))) = _
  have := (BitVec.ofInt 8 x &&& BitVec.ofInt 8 y).isLt
  omega
theorem and_byte (x y : Int) : 0 ≤ Go.bits .and .u8 x y ∧ Go.bits .and .u8 x y ≤ 255 := by
  rw [and8]
  have := (BitVec.ofInt 8 x &&& BitVec.ofInt 8 y).isLt
  omega
theorem and_and8 (x y : Int) : Go.bits .and .u8 (Go.bits .and .u8 x y) y = Go.bits .and .u8 x y := by
  rw [and8 x y, and8, ofInt_toNat8, BitVec.and_assoc, BitVec.and_self]
theorem xor_and8 (x y z : Int) : Go.bits .and .u8 (Go.bits .xor .u8 x y) z = Go.bits .xor .u8 (Go.bits .and .u8 x z) (Go.bits .and .u8 y z) := by
  rw [xor8 x y, and8, ofInt_toNat8, and8 x z, and8 y z, xor8, ofInt_toNat8, ofInt_toNat8]
  congr 2
  apply BitVec.eq_of_getLsbD_eq
  intro i hi
  simp [Bool.and_xor_distrib_right]
theorem low_bit_all : ((List.range 8).all fun p => (List.range 9).all fun r => if p < r then Go.bits .and .u8 (2 ^ p) (2 ^ r - 1) == 2 ^ p else true) = true := by decide +kernel
theorem low_bit {p r : Nat} (h : p < r) (hr : r < 8) : Go.bits .and .u8 (2 ^ p) (2 ^ r - 1) = 2 ^ p := by
  have := List.all_eq_true.1 (List.all_eq_true.1 low_bit_all p (List.mem_range.2 (by omega))) r (List.mem_range.2 (by omega))
  rw [if_pos h] at this
  exact eq_of_beq this
theorem choose_lsb_all : ((List.range 256).all fun b => (List.range 8).all fun p => chooseByte (b : Int) p == (BitVec.ofInt 8 (b : Int)).getLsbD p) = true := by kernel_rfl
theorem choose_lsb {b : Int} (h : 0 ≤ b ∧ b ≤ 255) {p : Nat} (hp : p < 8) : chooseByte b p = (BitVec.ofInt 8 b).getLsbD p := by
  obtain ⟨n, rfl⟩ := Int.eq_ofNat_of_zero_le h.1
  exact eq_of_beq (List.all_eq_true.1 (List.all_eq_true.1 choose_lsb_all n (List.mem_range.2 (by omega))) p (List.mem_range.2 hp))
theorem choose_sum {b c : Int} (h : 0 ≤ b ∧ b ≤ 255) (h2 : 0 ≤ c ∧ c ≤ 255) {p : Nat} (hp : p < 8) : chooseByte (Go.bits .xor .u8 b c) p = (chooseByte b p != chooseByte c p) := by
  rw [choose_lsb (xor_byte b c) hp, choose_lsb h hp, choose_lsb h2 hp, xor8, ofInt_toNat8, BitVec.getLsbD_xor]
theorem one_bit_all : ((List.range 8).all fun p => (List.range 8).all fun q => chooseByte (2 ^ q) p == decide (p = q)) = true := by kernel_rfl
theorem pow_byte_all : ((List.range 8).all fun q => decide ((0 : Int) ≤ 2 ^ q) && decide ((2 : Int) ^ q ≤ 255)) = true := by kernel_rfl
theorem pow_byte {q : Nat} (hq : q < 8) : (0 : Int) ≤ 2 ^ q ∧ (2 : Int) ^ q ≤ 255 := by
  have := List.all_eq_true.1 pow_byte_all q (List.mem_range.2 hq)
  rw [Bool.and_eq_true] at this
  exact ⟨of_decide_eq_true this.1, of_decide_eq_true this.2⟩
theorem choose_xor {b : Int} (h : 0 ≤ b ∧ b ≤ 255) {p q : Nat} (hp : p < 8) (hq : q < 8) : chooseByte (Go.bits .xor .u8 b (2 ^ q)) p = (chooseByte b p != decide (p = q)) := by
  rw [choose_sum h (pow_byte hq) hp]
  congr 1
  exact eq_of_beq (List.all_eq_true.1 (List.all_eq_true.1 one_bit_all p (List.mem_range.2 hp)) q (List.mem_range.2 hq))

/-! ### masks -/
theorem ofMask_bytes (many : Nat) (m : List Int) (hb : ∀ x ∈ m, 0 ≤ x ∧ x ≤ 255) : ∀ x ∈ ofMask many m, 0 ≤ x ∧ x ≤ 255 := by
  intro x hx
  unfold ofMask at hx
  split at hx
  · exact hb x hx
  · rcases List.mem_or_eq_of_mem_set hx with h | h
    · exact hb x h
    · rw [h]; exact and_byte _ _
theorem flip_bytes (m : List Int) (n : Nat) (hb : ∀ x ∈ m, 0 ≤ x ∧ x ≤ 255) : ∀ x ∈ flipMask m n, 0 ≤ x ∧ x ≤ 255 := by
  intro x hx
  unfold flipMask at hx
  rcases List.mem_or_eq_of_mem_set hx with h | h
  · exact hb x h
  · rw [h]; exact xor_byte _ _
theorem ofMask_idem (many : Nat) (m : List Int) (hm : m.length = (many + 7) / 8) : ofMask many (ofMask many m) = ofMask many m := by
  unfold ofMask
  by_cases h : many % 8 = 0
  · rw [if_pos h, if_pos h]
  · rw [if_neg h, if_neg h, rd_set _ _ _ (by omega), and_and8, List.set_set]
theorem rd_set_ne (m : List Int) (i j : Nat) (x : Int) (h : i ≠ j) : rd (m.set i x) (j : Int) = rd m (j : Int) := by
  simp [rd, List.getD_eq_getElem?_getD, List.getElem?_set, h]
theorem ofMask_flip (many n : Nat) (m : List Int) (hm : m.length = (many + 7) / 8) (hn : n < many) : ofMask many (flipMask m n) = flipMask (ofMask many m) n := by
  unfold ofMask
  by_cases h : many % 8 = 0
  · rw [if_pos h, if_pos h]
  · rw [if_neg h, if_neg h]
    unfold flipMask
    by_cases e : n / 8 = many / 8
    · rw [← e, rd_set _ _ _ (by omega), rd_set _ _ _ (by omega), List.set_set, List.set_set, xor_and8, low_bit (by omega) (by omega)]
    · rw [rd_set_ne _ _ _ _ e, rd_set_ne _ _ _ _ (Ne.symm e), List.set_comm _ _ e]
theorem flip_flip (n : Nat) (m : List Int) (h : n / 8 < m.length) (hb : ∀ x ∈ m, 0 ≤ x ∧ x ≤ 255) : flipMask (flipMask m n) n = m := by
  unfold flipMask
  rw [rd_set _ _ _ h, List.set_set, xor_assoc8, xor_self8, xor_comm8, xor_zero (rd_byte hb _), set_rd m _ h]
theorem flip_comm (n j : Nat) (m : List Int) (h : n / 8 < m.length) (h2 : j / 8 < m.length) : flipMask (flipMask m n) j = flipMask (flipMask m j) n := by
  unfold flipMask
  by_cases e : n / 8 = j / 8
  · rw [← e, rd_set _ _ _ h, rd_set _ _ _ h, List.set_set, List.set_set, xor_assoc8, xor_comm8 (2 ^ (n % 8)), ← xor_assoc8]
  · rw [rd_set_ne _ _ _ _ e, rd_set_ne _ _ _ _ (Ne.symm e), List.set_comm _ _ e]
theorem choose_flip (m : List Int) (n j : Nat) (hn : n / 8 < m.length) (hj : j / 8 < m.length) (hb : ∀ x ∈ m, 0 ≤ x ∧ x ≤ 255) : chooseB (flipMask m n) j = (chooseB m j != decide (j = n)) := by
  have h1 : chooseB (flipMask m n) j = chooseByte (rd (flipMask m n) ((j / 8 : Nat) : Int)) (j % 8) := rfl
  have h2 : chooseB m j = chooseByte (rd m ((j / 8 : Nat) : Int)) (j % 8) := rfl
  rw [h1, h2]
  unfold flipMask
  by_cases e : n / 8 = j / 8
  · rw [← e, rd_set _ _ _ hn, choose_xor (rd_byte hb _) (Nat.mod_lt _ (by decide)) (Nat.mod_lt _ (by decide))]
    congr 1
    exact decide_eq_decide.2 (by omega)
  · rw [rd_set_ne _ _ _ _ e, decide_eq_false (show ¬ j = n by intro q; subst q; exact e rfl)]
    simp
theorem maskOk_of (many : Nat) (m : List Int) (hm : m.length = (many + 7) / 8) (h : ofMask many m = m) : maskOk many m = true := by
  unfold maskOk
  rw [decide_eq_true hm, h]; simp

/-! ### blocks -/
theorem xorL_comm (x a b : List Int) : xorL (xorL x a) b = xorL (xorL x b) a := by
  apply List.ext_getElem?
  intro i
  rw [xorL_get, xorL_get, xorL_get, xorL_get]
  cases x[i]? with
  | none => rfl
  | some v => simp only [Option.map_some]; rw [xor_assoc8, xor_comm8 (rd a _), ← xor_assoc8]
theorem xorL_self (x a : List Int) (hb : ∀ v ∈ x, 0 ≤ v ∧ v ≤ 255) : xorL (xorL x a) a = x := by
  apply List.ext_getElem?
  intro i
  rw [xorL_get, xorL_get]
  cases h : x[i]? with
  | none => rfl
  | some v =>
    simp only [Option.map_some]
    rw [xor_assoc8, xor_self8, xor_comm8, xor_zero (hb v (List.mem_of_getElem? h))]
theorem rd_getElem? {l : List Int} {i : Nat} {v : Int} (h : l[i]? = some v) : rd l (i : Int) = v := by
  simp [rd, List.getD_eq_getElem?_getD, h]
/-- the sum of two rows of one length, either way -/
theorem xorL_swap (x y : List Int) (h : x.length = y.length) : xorL x y = xorL y x := by
  apply List.ext_getElem?
  intro i
  rw [xorL_get, xorL_get]
  rcases Nat.lt_or_ge i x.length with q | q
  · rw [List.getElem?_eq_getElem q, List.getElem?_eq_getElem (by omega)]
    simp only [Option.map_some]
    rw [rd_getElem? (List.getElem?_eq_getElem q), rd_getElem? (List.getElem?_eq_getElem (show i < y.length by omega)), xor_comm8]
  · rw [List.getElem?_eq_none q, List.getElem?_eq_none (by omega)]; rfl
theorem xorL_assoc (x y z : List Int) (h : y.length = x.length) : xorL x (xorL y z) = xorL (xorL x y) z := by
  apply List.ext_getElem?
  intro i
  rw [xorL_get, xorL_get, xorL_get]
  rcases Nat.lt_or_ge i x.length with q | q
  · rw [List.getElem?_eq_getElem q]
    simp only [Option.map_some]
    have : (xorL y z)[i]? = some (Go.bits .xor .u8 (rd y (i : Int)) (rd z (i : Int))) := by
      rw [xorL_get, List.getElem?_eq_getElem (show i < y.length by omega), Option.map_some, rd_getElem? (List.getElem?_eq_getElem (show i < y.length by omega))]
    rw [rd_getElem? this, xor_assoc8]
  · rw [List.getElem?_eq_none q]; rfl
theorem ansUpto_flip (db : List (List Int)) (m : List Int) (n : Nat) (hn : n / 8 < m.length) (hb : ∀ x ∈ m, 0 ≤ x ∧ x ≤ 255) : ∀ k, k ≤ 8 * m.length →
    ansUpto db (flipMask m n) k = if n < k then xorL (ansUpto db m k) (db.getD n []) else ansUpto db m k
  | 0, _ => by rw [if_neg (by omega)]; rfl
  | k + 1, hk => by
    rw [ansUpto, ansUpto, ansUpto_flip db m n hn hb k (by omega), choose_flip m n k hn (by omega) hb]
    by_cases e : k = n
    · subst e
      rw [if_neg (Nat.lt_irrefl k), if_pos (Nat.lt_succ_self k), decide_eq_true rfl]
      cases chooseB m k with
      | true => rw [if_neg (by simp), if_pos rfl, xorL_self _ _ (ansUpto_bytes _ _ _)]
      | false => rw [if_pos (by simp), if_neg (by simp)]
    · rw [decide_eq_false e, Bool.bne_false]
      by_cases h : n < k
      · rw [if_pos h, if_pos (show n < k + 1 by omega)]
        cases chooseB m k with
        | true => rw [if_pos rfl, if_pos rfl, xorL_comm]
        | false => rw [if_neg (by simp), if_neg (by simp)]
      · rw [if_neg h, if_neg (show ¬ n < k + 1 by omega)]
theorem ans_pair (db : List (List Int)) (m : List Int) (n : Nat) (hm : m.length = (db.length + 7) / 8) (hn : n < db.length) (hb : ∀ x ∈ m, 0 ≤ x ∧ x ≤ 255) (h16 : (db.getD n []).length = 16) (hd : ∀ x ∈ db.getD n [], 0 ≤ x ∧ x ≤ 255) :
    xorL (xorL (List.replicate 16 0) (ansUpto db m db.length)) (ansUpto db (flipMask m n) db.length) = db.getD n [] := by
  rw [xorL_zero _ (ansUpto_length _ _ _) (ansUpto_bytes _ _ _), ansUpto_flip db m n (by omega) hb _ (by omega), if_pos hn, xorL_assoc _ _ _ rfl]
  have : xorL (ansUpto db m db.length) (ansUpto db m db.length) = List.replicate 16 0 := by
    have h := xorL_self (List.replicate 16 0) (ansUpto db m db.length) (fun v hv => by have := (List.mem_replicate.1 hv).2; omega)
    rw [xorL_zero _ (ansUpto_length _ _ _) (ansUpto_bytes _ _ _)] at h
    exact h
  rw [this, xorL_zero _ h16 hd]

/-! ### the sum of masks -/
theorem rd_xorL (x y : List Int) (i : Nat) (h : i < x.length) : rd (xorL x y) (i : Int) = Go.bits .xor .u8 (rd x (i : Int)) (rd y (i : Int)) := by
  have : (xorL x y)[i]? = some (Go.bits .xor .u8 (rd x (i : Int)) (rd y (i : Int))) := by
    rw [xorL_get, List.getElem?_eq_getElem h, Option.map_some, rd_getElem? (List.getElem?_eq_getElem h)]
  exact rd_getElem? this
theorem choose_xorL (p q : List Int) (j : Nat) (hj : j / 8 < p.length) (hp : ∀ x ∈ p, 0 ≤ x ∧ x ≤ 255) (hq : ∀ x ∈ q, 0 ≤ x ∧ x ≤ 255) : chooseB (xorL p q) j = (chooseB p j != chooseB q j) := by
  have h1 : ∀ m, chooseB m j = chooseByte (rd m ((j / 8 : Nat) : Int)) (j % 8) := fun _ => rfl
  rw [h1, h1, h1, rd_xorL _ _ _ hj, choose_sum (rd_byte hp _) (rd_byte hq _) (Nat.mod_lt _ (by decide))]
theorem ansUpto_sum (db : List (List Int)) (p q : List Int) (hl : q.length = p.length) (hp : ∀ x ∈ p, 0 ≤ x ∧ x ≤ 255) (hq : ∀ x ∈ q, 0 ≤ x ∧ x ≤ 255) : ∀ k, k ≤ 8 * p.length →
    ansUpto db (xorL p q) k = xorL (ansUpto db p k) (ansUpto db q k)
  | 0, _ => by
    rw [ansUpto, ansUpto, ansUpto]
    exact (xorL_zero _ (by simp) (fun v hv => by have := (List.mem_replicate.1 hv).2; omega)).symm
  | k + 1, hk => by
    rw [ansUpto, ansUpto, ansUpto, ansUpto_sum db p q hl hp hq k (by omega), choose_xorL p q k (by omega) hp hq]
    have hlen : (ansUpto db q k).length = (ansUpto db p k).length := by rw [ansUpto_length, ansUpto_length]
    cases chooseB p k with
    | true =>
      cases chooseB q k with
      | true =>
        rw [if_neg (by simp), if_pos rfl, if_pos rfl]
        rw [xorL_assoc _ _ _ (by rw [xorL_length]; exact hlen), xorL_comm _ (db.getD k []), xorL_self _ _ (xorL_bytes _ _)]
      | false =>
        rw [if_pos (by simp), if_pos rfl, if_neg (by simp), xorL_comm]
    | false =>
      cases chooseB q k with
      | true =>
        rw [if_pos (by simp), if_neg (by simp), if_pos rfl, xorL_assoc _ _ _ hlen]
      | false =>
        rw [if_neg (by simp), if_neg (by simp), if_neg (by simp)]
theorem ofMask_sum (many : Nat) (p q : List Int) (hl : q.length = p.length) (hm : p.length = (many + 7) / 8) (hp : ofMask many p = p) (hq : ofMask many q = q) : ofMask many (xorL p q) = xorL p q := by
  by_cases h : many % 8 = 0
  · unfold ofMask; rw [if_pos h]
  · have e1 : rd p ((many / 8 : Nat) : Int) = Go.bits .and .u8 (rd p ((many / 8 : Nat) : Int)) (2 ^ (many % 8) - 1) := by
      have := congrArg (fun l => rd l ((many / 8 : Nat) : Int)) hp
      simp only [ofMask, if_neg h] at this
      rw [rd_set _ _ _ (by omega)] at this
      exact this.symm
    have e2 : rd q ((many / 8 : Nat) : Int) = Go.bits .and .u8 (rd q ((many / 8 : Nat) : Int)) (2 ^ (many % 8) - 1) := by
      have := congrArg (fun l => rd l ((many / 8 : Nat) : Int)) hq
      simp only [ofMask, if_neg h] at this
      rw [rd_set _ _ _ (by omega)] at this
      exact this.symm
    unfold ofMask
    rw [if_neg h, rd_xorL _ _ _ (by omega), xor_and8, ← e1, ← e2, ← rd_xorL _ _ _ (by omega)]
    exact set_rd _ _ (by rw [xorL_length]; omega)
end Go.Proofs.Ytekpbncljaeemaa.Q
