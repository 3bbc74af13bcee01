/- digest: word, rotated -/
import Derived.Test.YtgiofinekmaceaaDoorDz
namespace Go.Proofs.YtgiofinekmaceaaDoor.Q
open Go.RowKit Go.Proofs.YtgiofinekmaceaaDoorW.PrintWords Go.Proofs.YtgiofinekmaceaaDoorW.PrintLast Go.Proofs.YtgiofinekmaceaaDoorW.PrintMore
set_option linter.unusedVariables false
set_option linter.unusedSimpArgs false
/-- a number turned to the right, by its bits -/
def rotr (n : Nat) (x : Int) : Int := bits BinOp.or IntKind.u32 (x * 2 ^ (32 - n) % 4294967296) (x / 2 ^ n)
theorem ret_u32 {a b : Int} (h : a = b) : Ending.returned (.int .u32 a) = .returned (.int .u32 b) := by rw [h]
set_option maxHeartbeats 1000000 in
theorem rotl_calls (x k s : Int) (n : Nat) (hk : bits BinOp.and IntKind.u64 (IntKind.u64.wrap k) 31 = s) (hs : s + n = 32) (h1 : 1 ≤ n) (h2 : n ≤ 31) (w : World) :
    Calls Tryd.prog 44 #[.int .u32 x, .int .i64 k] w fun e w' => e = .returned (.int .u32 (rotr n x)) ∧ w = w' := by
  have h0 : 0 ≤ s := by omega
  have h3 : IntKind.u64.wrap (32 - s) = 32 - s := by simp [IntKind.wrap, IntKind.bits, IntKind.signed]; omega
  have h4 : 0 ≤ 32 - s := by omega
  have HS := Aside0.mk hs
  clear hs
  go_enter Tryd.func44, Tryd.ntmps44
  go_wp2
  go_ret
  refine ⟨ret_u32 ?_, rfl⟩
  have hs := HS.out
  have e1 : s.toNat = 32 - n := by omega
  have e2 : (32 - s).toNat = n := by omega
  unfold rotr
  rw [e1, e2]
theorem rot_calls (x k : Int) (n : Nat) (hk : bits BinOp.and IntKind.u64 (IntKind.u64.wrap k) 31 + n = 32) (h1 : 1 ≤ n) (h2 : n ≤ 31) (w : World) :
    Calls Tryd.prog 44 #[.int .u32 x, .int .i64 k] w fun e w' => e = .returned (.int .u32 (rotr n x)) ∧ w = w' :=
  rotl_calls x k _ n rfl hk h1 h2 w
/-- three turns of a number -/
def rot3 (a b c : Nat) (x : Int) : Int := bits BinOp.xor IntKind.u32 (bits BinOp.xor IntKind.u32 (rotr a x) (rotr b x)) (rotr c x)
set_option maxHeartbeats 1000000 in
theorem rotated_calls (x : Int) (a b c : Nat) (ha : bits BinOp.and IntKind.u64 (IntKind.u64.wrap (-(a : Int))) 31 + a = 32) (ha1 : 1 ≤ a) (ha2 : a ≤ 31)
    (hb : bits BinOp.and IntKind.u64 (IntKind.u64.wrap (-(b : Int))) 31 + b = 32) (hb1 : 1 ≤ b) (hb2 : b ≤ 31)
    (hc : bits BinOp.and IntKind.u64 (IntKind.u64.wrap (-(c : Int))) 31 + c = 32) (hc1 : 1 ≤ c) (hc2 : c ≤ 31) (w : World) :
    Calls Tryd.prog 45 #[.int .u32 x, .int .i64 a, .int .i64 b, .int .i64 c] w fun e w' => e = .returned (.int .u32 (rot3 a b c x)) ∧ w = w' := by
  have A := rot_calls x (-(a : Int)) a ha ha1 ha2
  have B := rot_calls x (-(b : Int)) b hb hb1 hb2
  have C := rot_calls x (-(c : Int)) c hc hc1 hc2
  have HA := Aside0.mk A
  have HB := Aside0.mk B
  have HC := Aside0.mk C
  clear A B C ha hb hc
  go_enter Tryd.func45, Tryd.ntmps45
  go_wp2_with fail
  refine (HA.out _).mono ?_
  rintro e w' ⟨rfl, rfl⟩
  go_wp2_with fail
  refine (HB.out _).mono ?_
  rintro e w' ⟨rfl, rfl⟩
  go_wp2_with fail
  refine (HC.out _).mono ?_
  rintro e w' ⟨rfl, rfl⟩
  go_wp2
  go_ret
  exact ⟨rfl, rfl⟩
theorem rotated_e (x : Int) (w : World) : Calls Tryd.prog 45 #[.int .u32 x, .int .i64 6, .int .i64 11, .int .i64 25] w fun e w' => e = .returned (.int .u32 (rot3 6 11 25 x)) ∧ w = w' :=
  rotated_calls x 6 11 25 (by decide) (by omega) (by omega) (by decide) (by omega) (by omega) (by decide) (by omega) (by omega) w
theorem rotated_a (x : Int) (w : World) : Calls Tryd.prog 45 #[.int .u32 x, .int .i64 2, .int .i64 13, .int .i64 22] w fun e w' => e = .returned (.int .u32 (rot3 2 13 22 x)) ∧ w = w' :=
  rotated_calls x 2 13 22 (by decide) (by omega) (by omega) (by decide) (by omega) (by omega) (by decide) (by omega) (by omega) w
theorem rot_7 (x : Int) (w : World) : Calls Tryd.prog 44 #[.int .u32 x, .int .i64 (-7)] w fun e w' => e = .returned (.int .u32 (rotr 7 x)) ∧ w = w' := rot_calls x (-7) 7 (by decide) (by omega) (by omega) w
theorem rot_18 (x : Int) (w : World) : Calls Tryd.prog 44 #[.int .u32 x, .int .i64 (-18)] w fun e w' => e = .returned (.int .u32 (rotr 18 x)) ∧ w = w' := rot_calls x (-18) 18 (by decide) (by omega) (by omega) w
theorem rot_17 (x : Int) (w : World) : Calls Tryd.prog 44 #[.int .u32 x, .int .i64 (-17)] w fun e w' => e = .returned (.int .u32 (rotr 17 x)) ∧ w = w' := rot_calls x (-17) 17 (by decide) (by omega) (by omega) w
theorem rot_19 (x : Int) (w : World) : Calls Tryd.prog 44 #[.int .u32 x, .int .i64 (-19)] w fun e w' => e = .returned (.int .u32 (rotr 19 x)) ∧ w = w' := rot_calls x (-19) 19 (by decide) (by omega) (by omega) w
theorem foldl_take_rd {β : Type} (f : β → Int → β) (a : β) (xs : List Int) (k : Nat) (h : k < xs.length) : (xs.take (k + 1)).foldl f a = f ((xs.take k).foldl f a) (rd xs (k : Int)) := by
  have e : xs.take (k + 1) = xs.take k ++ [rd xs (k : Int)] := by
    rw [List.take_succ_eq_append_getElem h]
    simp [rd, List.getD, h]
  rw [e, List.foldl_append]
  rfl
/-- one more byte at a number's end -/
def byteOn (n c : Int) : Int := bits BinOp.or IntKind.u32 (n * 256 % 4294967296) (c % 4294967296)
/-- the number that four bytes are -/
def word4 (xs : List Int) : Int := (xs.take 4).foldl byteOn 0
set_option maxHeartbeats 1000000 in
theorem word_calls (A : Option Addr) (n c : Nat) (xs : List Int) (w : World) (h : Kd.C (Kd.int .u8) w A n xs) (h4 : 4 ≤ n) (hc : n ≤ c) :
    Calls Tryd.prog 43 #[.slice A n c] w fun e w' => e = .returned (.int .u32 (word4 xs)) ∧ w = w' := by
  have h4c : 4 ≤ c := by omega
  have hl := Kd.C_len h
  have H := Aside0.mk h
  have HL := Aside0.mk hl
  clear h hl
  go_enter Tryd.func43, Tryd.ntmps43
  go_wp2
  go_loop [2, 8] (fun v i => ∃ k : Nat, k ≤ 4 ∧ i = .int .i64 (k : Int) ∧ v = .int .u32 ((xs.take k).foldl byteOn 0)) (fun _ i => 4 - (intOf i).toNat)
  case atStart => exact ⟨0, by omega, rfl, rfl⟩
  case round =>
    obtain ⟨k, hk, rfl, rfl⟩ := hrel
    by_cases hlt : k < 4
    · obtain ⟨ad, rfl, hx⟩ := Kd.at_int H.out (k : Int) (by omega) (by omega)
      rw [Int.toNat_natCast] at hx
      have c9 : decide ((k : Int) < 4) = true := decide_eq_true (by omega)
      have p1 := eq_true (show 0 ≤ (k : Int) by omega)
      have p2 := eq_true (show (k : Int) < 4 by omega)
      have HX := Aside0.mk (foldl_take_rd byteOn 0 xs k (by have := HL.out; omega))
      go_wp2
      go_round
      case rel => exact ⟨k + 1, by omega, by go_num, by rw [HX.out]; rfl⟩
      case measure => simp [intOf]; omega
    · obtain rfl : k = 4 := by omega
      go_wp2
      go_ret
      exact ⟨rfl, rfl⟩
end Go.Proofs.YtgiofinekmaceaaDoor.Q
