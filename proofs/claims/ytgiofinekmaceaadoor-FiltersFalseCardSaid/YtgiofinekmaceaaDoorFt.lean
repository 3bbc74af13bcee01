/- plain: the bytes of a hash -/
import Derived.Test.YtgiofinekmaceaaDoorGa
namespace Go.Proofs.YtgiofinekmaceaaDoor.Q
open Go.RowKit Go.Proofs.YtgiofinekmaceaaDoorW.PrintWords Go.Proofs.YtgiofinekmaceaaDoorW.PrintLast Go.Proofs.YtgiofinekmaceaaDoorW.PrintMore
set_option linter.unusedVariables false
set_option linter.unusedSimpArgs false
def Bytes (l : List Int) : Prop := ∀ x ∈ l, 0 ≤ x ∧ x ≤ 255
theorem Bytes.rd {l : List Int} (h : Bytes l) (i : Int) : 0 ≤ rd l i ∧ rd l i ≤ 255 := by
  rw [Go.Proofs.YtgiofinekmaceaaDoorW.PrintWords.rd, List.getD]
  cases e : l[i.toNat]? with
  | none => simp
  | some x => exact h x (List.mem_of_getElem? e)
theorem Bytes.set {l : List Int} (h : Bytes l) (i : Nat) (x : Int) (hx : 0 ≤ x ∧ x ≤ 255) : Bytes (l.set i x) := fun y hy => by
  rcases List.mem_or_eq_of_mem_set hy with h1 | rfl
  · exact h y h1
  · exact hx
theorem putUpto_bytes {l : List Int} (h : Bytes l) (o m : Nat) (n : Int) : ∀ k, Bytes (putUpto l o m n k)
  | 0 => h
  | k + 1 => (putUpto_bytes h o m n k).set _ _ (by omega)
theorem dUpto_bytes (st : List Int) : ∀ k, Bytes (dUpto st k)
  | 0 => fun x hx => by
    obtain rfl := List.eq_of_mem_replicate (show x ∈ List.replicate 32 0 from hx)
    omega
  | k + 1 => putUpto_bytes (dUpto_bytes st k) _ _ _ _
theorem sha_bytes (xs : List Int) : Bytes (sha xs) := dUpto_bytes _ _
theorem tagged_bytes (tag xs : List Int) : Bytes (tagged tag xs) := sha_bytes _
theorem or_nat (x y : Nat) (hx : x < 9223372036854775808) (hy : y < 9223372036854775808) : bits BinOp.or IntKind.i64 (x : Int) (y : Int) = ((x ||| y : Nat) : Int) := by
  have e : bits BinOp.or IntKind.i64 (x : Int) (y : Int) = IntKind.i64.wrap ((BitVec.ofInt 64 (x : Int) ||| BitVec.ofInt 64 (y : Int)).toNat : Nat) := rfl
  have hlt : x ||| y < 2 ^ 63 := Nat.or_lt_two_pow (by omega) (by omega)
  rw [e, BitVec.toNat_or, BitVec.toNat_ofInt, BitVec.toNat_ofInt]
  rw [show ((x : Int) % ((2 ^ 64 : Nat) : Int)).toNat = x by omega, show ((y : Int) % ((2 ^ 64 : Nat) : Int)).toNat = y by omega]
  rw [IntWalk.i64_in _ (by omega)]
/-- or of a multiple of a power and of what is less -/
theorem or_add (a b : Int) (i : Nat) (ha : 0 ≤ a) (hb : 0 ≤ b) (hlt : b < ((2 ^ i : Nat) : Int)) (hm : a * ((2 ^ i : Nat) : Int) < 9223372036854775808) (hi : i ≤ 62) : bits BinOp.or IntKind.i64 (a * ((2 ^ i : Nat) : Int)) b = a * ((2 ^ i : Nat) : Int) + b := by
  obtain ⟨n, rfl⟩ := Int.eq_ofNat_of_zero_le ha
  obtain ⟨m, rfl⟩ := Int.eq_ofNat_of_zero_le hb
  have hp : 2 ^ i ≤ 2 ^ 62 := Nat.pow_le_pow_right (by omega) hi
  have h1 : m < 2 ^ i := Int.ofNat_lt.1 hlt
  have h2 : n * 2 ^ i < 9223372036854775808 := Int.ofNat_lt.1 (by rw [Int.natCast_mul]; exact hm)
  have h3 := or_nat (n * 2 ^ i) m h2 (by omega)
  rw [← Int.natCast_mul, h3, Nat.mul_comm, ← Nat.two_pow_add_eq_or_of_lt h1]
  push_cast
  rfl
/-- four bytes as a number -/
def num4 (a b c d : Int) : Int := a * 16777216 + b * 65536 + c * 256 + d
theorem num4_or (a b c d : Int) (ha : 0 ≤ a ∧ a ≤ 255) (hb : 0 ≤ b ∧ b ≤ 255) (hc : 0 ≤ c ∧ c ≤ 255) (hd : 0 ≤ d ∧ d ≤ 255) :
    bits BinOp.or IntKind.i64 (bits BinOp.or IntKind.i64 (bits BinOp.or IntKind.i64 (a * 16777216) (b * 65536)) (c * 256)) d = num4 a b c d := by
  have e1 := or_add a (b * 65536) 24 (by omega) (by omega) (by rw [show ((2 ^ 24 : Nat) : Int) = 16777216 from rfl]; omega) (by rw [show ((2 ^ 24 : Nat) : Int) = 16777216 from rfl]; omega) (by omega)
  have e2 := or_add (a * 256 + b) (c * 256) 16 (by omega) (by omega) (by rw [show ((2 ^ 16 : Nat) : Int) = 65536 from rfl]; omega) (by rw [show ((2 ^ 16 : Nat) : Int) = 65536 from rfl]; omega) (by omega)
  have e3 := or_add (a * 65536 + b * 256 + c) d 8 (by omega) (by omega) (by rw [show ((2 ^ 8 : Nat) : Int) = 256 from rfl]; omega) (by rw [show ((2 ^ 8 : Nat) : Int) = 256 from rfl]; omega) (by omega)
  simp only [show ((2 ^ 24 : Nat) : Int) = 16777216 from rfl, show ((2 ^ 16 : Nat) : Int) = 65536 from rfl, show ((2 ^ 8 : Nat) : Int) = 256 from rfl] at e1 e2 e3
  rw [e1, show a * 16777216 + b * 65536 = (a * 256 + b) * 65536 by omega, e2, show (a * 256 + b) * 65536 + c * 256 = (a * 65536 + b * 256 + c) * 256 by omega, e3, num4]
  omega
theorem num4_orw (a b c d : Int) (ha : 0 ≤ a ∧ a ≤ 255) (hb : 0 ≤ b ∧ b ≤ 255) (hc : 0 ≤ c ∧ c ≤ 255) (hd : 0 ≤ d ∧ d ≤ 255) :
    bits BinOp.or IntKind.i64 (bits BinOp.or IntKind.i64 (bits BinOp.or IntKind.i64 (wrap64 (wrap64 a * 16777216)) (wrap64 (wrap64 b * 65536))) (wrap64 (wrap64 c * 256))) (wrap64 d) = num4 a b c d := by
  have w1 : wrap64 a = a := by unfold wrap64; omega
  have w2 : wrap64 b = b := by unfold wrap64; omega
  have w3 : wrap64 c = c := by unfold wrap64; omega
  have w4 : wrap64 d = d := by unfold wrap64; omega
  have w5 : wrap64 (a * 16777216) = a * 16777216 := by unfold wrap64; omega
  have w6 : wrap64 (b * 65536) = b * 65536 := by unfold wrap64; omega
  have w7 : wrap64 (c * 256) = c * 256 := by unfold wrap64; omega
  rw [w1, w2, w3, w4, w5, w6, w7]
  exact num4_or a b c d ha hb hc hd
theorem num4_range (a b c d : Int) (ha : 0 ≤ a ∧ a ≤ 255) (hb : 0 ≤ b ∧ b ≤ 255) (hc : 0 ≤ c ∧ c ≤ 255) (hd : 0 ≤ d ∧ d ≤ 255) : 0 ≤ num4 a b c d ∧ num4 a b c d ≤ 4294967295 := by
  unfold num4
  omega
end Go.Proofs.YtgiofinekmaceaaDoor.Q
