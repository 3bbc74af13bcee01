-- printed by wip/prt.py (the kit's printer with given functions)
import Derived.Test.YtekpbncljaeemaaQx0
import Derived.Test.YtekpbncljaeemaaQx1
namespace Go.Proofs.Ytekpbncljaeemaa.Q
open Go.RowKit Go.Proofs.YtekpbncljaeemaaW.PrintWords Go.Proofs.YtekpbncljaeemaaW.PrintLast Go.Proofs.YtekpbncljaeemaaW.PrintMore
attribute [local go_sem] max2_int min2_int max_two min_two max_three min_three max_four min_four   -- for this text's walks alone
set_option linter.unusedVariables false
set_option linter.unusedSimpArgs false

/-! ### retrieval_chooses: function 33 -/
def retrieval_chooses.f (l0 : List Int) (a1 : Int) : Option (Bool) := if 0 ≤ (wrap64 (Int.tdiv a1 8)) then (if (wrap64 (Int.tdiv a1 8)) < (l0.length : Int) then (if 0 ≤ (Int.tmod a1 8) then (some ((Go.bits .and .u8 (shr .u8 (rd l0 (wrap64 (Int.tdiv a1 8))) (Int.tmod a1 8)) 1) == 1)) else (none)) else (none)) else (none)
set_option maxHeartbeats 8000000 in
set_option maxRecDepth 100000 in
theorem retrieval_chooses.calls (A0 : Option Addr) (c0 : Nat) (l0 : List Int) (a1 : Int) (r : Bool) (w : World) (hr0 : Kd.C (Kd.int .u8) w A0 l0.length l0) (hc0 : l0.length ≤ c0) (h : retrieval_chooses.f l0 a1 = some r) :
    Calls Try.prog 33 #[.slice A0 l0.length c0, .int .i64 a1] w fun e w' => e = .returned (.bool r) ∧ Drawn0 w w' := by
  have HR0 := Aside0.mk hr0
  have HC0 := Aside0.mk hc0
  clear hr0 hc0
  have H : (if 0 ≤ (wrap64 (Int.tdiv a1 8)) then (if (wrap64 (Int.tdiv a1 8)) < (l0.length : Int) then (if 0 ≤ (Int.tmod a1 8) then (some ((Go.bits .and .u8 (shr .u8 (rd l0 (wrap64 (Int.tdiv a1 8))) (Int.tmod a1 8)) 1) == 1)) else (none)) else (none)) else (none)) = some r := h
  clear h
  obtain ⟨ji3, hji3⟩ : ∃ j_ : Int, (wrap64 (Int.tdiv a1 8)) = j_ := ⟨_, rfl⟩
  replace H : (if 0 ≤ (ji3) then (if (ji3) < (l0.length : Int) then (if 0 ≤ (Int.tmod a1 8) then (some ((Go.bits .and .u8 (shr .u8 (rd l0 (ji3)) (Int.tmod a1 8)) 1) == 1)) else (none)) else (none)) else (none)) = some r := by first | (rw [hji3] at H; exact H) | (simp only [hji3] at H ⊢; exact H)
  have hji3w : (IntKind.i64.wrap (Int.tdiv a1 8)) = ji3 := (i64_w _).trans hji3
  by_cases c4 : 0 ≤ (ji3)
  · rw [if_pos c4] at H
    have c4b0 : decide (0 ≤ (ji3)) = true := decide_eq_true c4
    clear c4
    by_cases c5 : (ji3) < (l0.length : Int)
    · rw [if_pos c5] at H
      have c5b0 : decide ((ji3) < (l0.length : Int)) = true := decide_eq_true c5
      clear c5
      obtain ⟨ji6, hji6⟩ : ∃ j_ : Int, (Int.tmod a1 8) = j_ := ⟨_, rfl⟩
      replace H : (if 0 ≤ (ji6) then (some ((Go.bits .and .u8 (shr .u8 (rd l0 (ji3)) (ji6)) 1) == 1)) else (none)) = some r := by first | (rw [hji6] at H; exact H) | (simp only [hji6] at H ⊢; exact H)
      by_cases c7 : 0 ≤ (ji6)
      · rw [if_pos c7] at H
        have c7b0 := eq_true c7
        have c7b1 : decide (0 ≤ (ji6)) = true := decide_eq_true c7
        clear c7
        obtain ⟨ji8, hji8⟩ : ∃ j_ : Int, (shr .u8 (rd l0 (ji3)) (ji6)) = j_ := ⟨_, rfl⟩
        replace H : (some ((Go.bits .and .u8 (ji8) 1) == 1)) = some r := by first | (rw [hji8] at H; exact H) | (simp only [hji8] at H ⊢; exact H)
        have hji8_ : ((rd l0 (ji3)) / 2 ^ min (ji6).toNat 8) = ji8 := hji8
        have hji8z : (ji6) ≤ 8 → ((rd l0 (ji3)) / 2 ^ (ji6).toNat) = ji8 := shr_small hji8
        obtain rfl := Option.some.inj H
        have p207 : 0 ≤ ((ji3) : Int) := of_decide_eq_true (by first | (with_reducible assumption) | assumption)
        have q207 : (ji3) < (l0.length : Int) := of_decide_eq_true (by first | (with_reducible assumption) | assumption)
        obtain ⟨ad207, e207, hx207_0⟩ := Kd.at_int HR0.out (ji3) p207 q207
        cases e207
        replace p207 := eq_true p207
        replace q207 := eq_true q207
        go_enter Try.func33, Try.ntmps33
        go_wp2
        go_ret
        exact ⟨by first | rfl | (simp; done) | (simp only [← hji3, ← hji6, ← hji8] <;> (first | rfl | simp)) | (simp [*]; done), by repeat (first | exact Drawn0.refl _ | apply Drawn0.step)⟩
      · rw [if_neg c7] at H
        exact absurd H (by simp)
    · rw [if_neg c5] at H
      exact absurd H (by simp)
  · rw [if_neg c4] at H
    exact absurd H (by simp)


/-! ### slices_ContainsFunc at Answer's own function: function 30 -/
def notBlock (b : List Int) : Bool := decide (b.length ≠ 16)
set_option maxHeartbeats 2000000 in
theorem notBlock_calls (w : World) (A : Option Addr) (c n : Nat) :
    Calls Try.prog 31 #[.slice A n c] w fun e w' => e = .returned (.bool ((n : Int) != 16)) ∧ w' = w := by
  go_enter Try.func31, Try.ntmps31
  go_wp2
  go_ret
  exact ⟨rfl, rfl⟩
set_option maxHeartbeats 2000000 in
set_option maxRecDepth 100000 in
theorem indexFunc_calls (w : World) (A : Option Addr) (c : Nat) (l : List (List Int)) (hl : l.length ≤ 140737488355328) (hr : Kd.C (Kd.slice 5 (Kd.int .u8)) w A l.length l) :
    Calls Try.prog 39 #[.slice A l.length c, .func (.func 31) #[] #[]] w fun e w' => (∃ i : Int, e = .returned (.int .i64 i) ∧ (decide (i ≥ 0) = l.any fun b => (b.length : Int) != 16)) ∧ w' = w := by
  have HR := Aside0.mk hr
  clear hr
  go_enter Try.func39, Try.ntmps39
  go_wp2
  go_loop [8, 5] (fun i _ => ∃ k : Nat, k ≤ l.length ∧ i = .int .i64 k ∧ Aside0 ((l.take k).any (fun b => (b.length : Int) != 16) = false)) (fun i _ => l.length - (intOf i).toNat)
  case atStart => exact ⟨0, by omega, rfl, ⟨by simp⟩⟩
  case round =>
    obtain ⟨k, hk, rfl, HN⟩ := hrel
    by_cases hlt : k < l.length
    · obtain ⟨ad, A1, c1, e, hc, hle, _⟩ := at_L1 HR.out (k : Int) (by omega) (by omega)
      subst e
      simp only [Int.toNat_natCast] at hc
      have hget : l[k]? = some (rd_L1 l (k : Int)) := by simp [rd_L1, hlt]
      have HG := Aside0.mk hget
      clear hget
      go_wp2_with (go_at_call 31; refine (notBlock_calls _ _ _ _).mono ?_; rintro e w' ⟨rfl, rfl⟩)
      · have hb : ((rd_L1 l (k : Int)).length : Int) != 16 := by assumption
        go_ret
        refine ⟨⟨k, rfl, ?_⟩, rfl⟩
        rw [decide_eq_true (by omega)]
        symm
        rw [List.any_eq_true]
        exact ⟨_, List.mem_of_getElem? HG.out, hb⟩
      · have hb : (((rd_L1 l (k : Int)).length : Int) != 16) = false := by assumption
        have HN2 : Aside0 ((l.take (k + 1)).any (fun b => (b.length : Int) != 16) = false) := ⟨by
          rw [List.take_add_one, HG.out, List.any_append, HN.out]
          simp [hb]⟩
        go_round
        case rel => exact ⟨k + 1, by omega, by go_num, HN2⟩
        case measure => simp [intOf]; omega
    · go_wp2
      go_ret
      refine ⟨⟨-1, rfl, ?_⟩, rfl⟩
      have h1 := HN.out
      rw [List.take_of_length_le (by omega)] at h1
      rw [h1]; rfl

set_option maxHeartbeats 2000000 in
theorem containsFunc_calls (w : World) (A : Option Addr) (c : Nat) (l : List (List Int)) (hl : l.length ≤ 140737488355328) (hr : Kd.C (Kd.slice 5 (Kd.int .u8)) w A l.length l) :
    Calls Try.prog 30 #[.slice A l.length c, .func (.func 31) #[] #[]] w fun e w' => e = .returned (.bool (l.any fun b => (b.length : Int) != 16)) ∧ w' = w := by
  have HR := Aside0.mk hr
  clear hr
  go_enter Try.func30, Try.ntmps30
  go_wp2_with (go_at_call 39; refine (indexFunc_calls _ _ _ _ hl HR.out).mono ?_; rintro e w' ⟨⟨i, rfl, hi⟩, rfl⟩; have HI := Aside0.mk hi; clear hi)
  go_ret
  rw [← HI.out]
  exact ⟨rfl, rfl⟩


/-! ### what Answer computes -/
/-- a mask without its surplus bits -/
def ofMask (many : Nat) (m : List Int) : List Int := if many % 8 = 0 then m else m.set (many / 8) (Go.bits .and .u8 (rd m ((many / 8 : Nat) : Int)) (2 ^ (many % 8) - 1))
theorem of_mask (many : Nat) (m : List Int) (h1 : many ≤ 1024) (hm : m.length = (many + 7) / 8) : retrieval_of.f (many : Int) m = some (ofMask many m) := by
  unfold retrieval_of.f slices_Clone_byte_byte.f ofMask
  rw [if_pos (by omega)]
  simp only [Option.bind_some]
  have e1 : Int.tmod (many : Int) 8 = ((many % 8 : Nat) : Int) := by rw [Int.tmod_eq_emod_of_nonneg (by omega)]; omega
  have e2 : wrap64 (Int.tdiv (many : Int) 8) = ((many / 8 : Nat) : Int) := by
    have : Int.tdiv (many : Int) 8 = ((many / 8 : Nat) : Int) := by rw [Int.tdiv_eq_ediv_of_nonneg (by omega)]; omega
    rw [this]; unfold wrap64; omega
  rw [e1, e2]
  by_cases h : many % 8 = 0
  · rw [if_neg (by omega), if_pos h]
  · rw [if_pos (by omega), if_pos (by omega), if_pos (by omega), if_pos (by omega), if_neg h]
    rw [Int.toNat_natCast]
    congr 3
    have h8 : many % 8 < 8 := Nat.mod_lt _ (by decide)
    generalize many % 8 = r at *
    have : ∀ r : Fin 8, ((shl .u8 1 ((r.1 : Nat) : Int) - 1) % 256) = 2 ^ r.1 - 1 := by decide
    exact this ⟨r, h8⟩
def chooseB (m : List Int) (n : Nat) : Bool := (Go.bits .and .u8 (shr .u8 (rd m ((n / 8 : Nat) : Int)) ((n % 8 : Nat) : Int)) 1) == 1
theorem choose_B (m : List Int) (n : Nat) (hn : n ≤ 1000000) (h : n / 8 < m.length) : retrieval_chooses.f m (n : Int) = some (chooseB m n) := by
  unfold retrieval_chooses.f chooseB
  have e1 : Int.tmod (n : Int) 8 = ((n % 8 : Nat) : Int) := by rw [Int.tmod_eq_emod_of_nonneg (by omega)]; omega
  have e2 : wrap64 (Int.tdiv (n : Int) 8) = ((n / 8 : Nat) : Int) := by
    have : Int.tdiv (n : Int) 8 = ((n / 8 : Nat) : Int) := by rw [Int.tdiv_eq_ediv_of_nonneg (by omega)]; omega
    rw [this]; unfold wrap64; omega
  rw [e1, e2, if_pos (by omega), if_pos (by omega), if_pos (by omega)]
def ansUpto (db : List (List Int)) (m : List Int) : Nat → List Int
  | 0 => List.replicate 16 0
  | n + 1 => if chooseB m n then xorL (ansUpto db m n) (db.getD n []) else ansUpto db m n
theorem ansUpto_length (db : List (List Int)) (m : List Int) : ∀ n, (ansUpto db m n).length = 16
  | 0 => by simp [ansUpto]
  | n + 1 => by
    unfold ansUpto
    split
    · rw [xorL_length, ansUpto_length db m n]
    · exact ansUpto_length db m n
def maskOk (many : Nat) (m : List Int) : Bool := decide (m.length = (many + 7) / 8) && ((strOfNums (ofMask many m)).toList == (strOfNums m).toList)
def ansBad (db l : List (List Int)) : Bool := decide (db.length < 1) || decide (1024 < db.length) || decide (132 < l.length) || db.any fun b => (b.length : Int) != 16
def retrieval_Answer.f (l0 l1_0 : List (List Int)) : Option ((List (List Int)) × Int) :=
  if ansBad l0 l1_0 then some ([], 360) else if l1_0.all (maskOk l0.length) then some (l1_0.map fun m => ansUpto l0 m l0.length, 0) else some ([], 360)

set_option maxHeartbeats 1000000 in
theorem size_same (n : Nat) (h : n ≤ 1000000) (w : World) : Calls Try.prog 24 #[.int .i64 (n : Int)] w fun e w' => e = .returned (.int .i64 (((n + 7) / 8 : Nat) : Int)) ∧ w' = w := by
  go_enter Try.func24, Try.ntmps24
  go_wp2
  go_ret
  exact ⟨by congr 2 <;> omega, rfl⟩

set_option maxHeartbeats 4000000 in
set_option maxRecDepth 100000 in
theorem answer_bad (A0 : Option Addr) (c0 : Nat) (l0 : List (List Int)) (A1_0 : Option Addr) (c1_0 : Nat) (l1_0 : List (List Int)) (w : World) (hr0 : Kd.C (Kd.slice 5 (Kd.int .u8)) w A0 l0.length l0) (h : ansBad l0 l1_0 = true) :
    Calls Try.prog 15 #[.slice A0 l0.length c0, .agg #[.slice A1_0 l1_0.length c1_0]] w fun e w' => ∃ v0_ : Value, e = .returned (.tuple #[.agg #[v0_], .int .i64 360]) ∧ Kd.S (Kd.slice 5 (Kd.int .u8)) 22 w' w.heap.size (fun _ => True) v0_ [] ∧ Below w.heap.size w w' := by
  have HR0 := Aside0.mk hr0
  have H := Aside0.mk h
  clear hr0 h
  have hu35 := Try.underlying35
  have hu32 := Try.underlying32
  have fin : ∀ (tmps : Array Value), tmps.getD 4 undef = .pointer (some ⟨w.heap.size + 1, 0, none⟩) → tmps.getD 5 undef = .int .i64 360 →
      bodyPost Try.prog Try.f15 (fun e w' => ∃ v0_ : Value, e = .returned (.tuple #[.agg #[v0_], .int .i64 360]) ∧ Kd.S (Kd.slice 5 (Kd.int .u8)) 22 w' w.heap.size (fun _ => True) v0_ [] ∧ Below w.heap.size w w') Exit.ret
        { tmps := tmps, defers := [] } ((w.alloc (.cells #[.slice A1_0 l1_0.length c1_0] 32)).alloc (.cells #[.slice none 0 0] 35)) := by
    intro tmps h4 h5
    refine bodyPost_ret (results_ct rfl _ _ (w.heap.size + 1) 35 #[.slice none 0 0] (0, 0) _ h4 (by simpa using heap_alloc_new (w.alloc (.cells #[.slice A1_0 l1_0.length c1_0] 32)) (.cells #[.slice none 0 0] 35)) Try.underlying35 rfl (by kernel_rfl)) rfl ?_
    refine ⟨.slice none 0 0, ?_, Kd.S_nil _ _ _ _ _, ((Below.refl _ _).alloc (Nat.le_refl _) _).alloc (by simp) _⟩
    rw [h5]
  have FIN := Lib.hid fin
  clear fin
  by_cases hlo : l0.length < 1
  · have hb1 : decide (l0.length < 1) = true := decide_eq_true hlo
    go_enter Try.func15, Try.ntmps15
    go_wp2
    exact FIN.out _ rfl rfl
  · by_cases hhi : 1024 < l0.length
    · go_enter Try.func15, Try.ntmps15
      go_wp2
      exact FIN.out _ rfl rfl
    · by_cases hm : 132 < l1_0.length
      · go_enter Try.func15, Try.ntmps15
        go_wp2
        exact FIN.out _ rfl rfl
      · have hany : Aside0 ((l0.any fun b => (b.length : Int) != 16) = true) := ⟨by
          have := H.out
          unfold ansBad at this
          simpa [hlo, hhi, hm] using this⟩
        go_enter Try.func15, Try.ntmps15
        go_wp2_with (go_at_call 30; refine (containsFunc_calls _ _ _ _ (by omega) (Kd.C_alloc (Kd.C_alloc HR0.out _) _)).mono ?_; rw [hany.out]; rintro e w' ⟨rfl, rfl⟩)
        exact FIN.out _ rfl rfl

theorem answer_no {l0 l1 r1 : List (List Int)} {r2 : Int} {k : Nat} {m : List Int} (h : (if l1.all (maskOk l0.length) then (l1.map fun m => ansUpto l0 m l0.length, (0 : Int)) else ([], 360)) = (r1, r2)) (hg : l1[k]? = some m) (hm : maskOk l0.length m = false) : r1 = [] ∧ r2 = 360 := by
  have : l1.all (maskOk l0.length) = false := by
    rw [List.all_eq_false]
    exact ⟨m, List.mem_of_getElem? hg, by simp [hm]⟩
  rw [this] at h
  injection h with h1 h2
  exact ⟨h1.symm, h2.symm⟩
theorem R_mk2 {w : World} {base n : Nat} {v : Value} {xs : List Int} {ok : Nat → Prop} (ho : w.ownsRow base 5 1 v n (nums .u8 xs)) (hok : ∀ k, v.ownBlock = some k → ok k) : Kd.R (Kd.int .u8) 5 w base ok v xs := by
  have h := ho.1
  simp only [nums, List.length_map, Nat.mul_one] at h
  subst h
  exact Kd.R_of_own (enc := Value.int .u8) (h1 := fun _ => rfl) ho hok
theorem Blocks_one {w0 W : World} {A : Option Addr} {c n : Nat} {b : List Int} (hC : Kd.C (Kd.int .u8) w0 A b.length b) (hn : n ≤ b.length) : Blocks w0 (W.alloc (.cells #[.slice A b.length c] 22)) W.heap.size [b] n := by
  intro i hi
  match i, hi with
  | 0, _ => exact ⟨A, c, by simp, hC, hn⟩
theorem S_apart_new {w0 W : World} {base : Nat} {v : Value} {xs : List (List Int)} (h : Kd.S (Kd.slice 5 (Kd.int .u8)) 22 W base (fun _ => True) v xs) (o : Obj) :
    Kd.S (Kd.slice 5 (Kd.int .u8)) 22 (W.alloc o) base (fun k => k ≠ W.heap.size) v xs :=
  Kd.S_alloc (Kd.S_mono (Kd.S_bound h) (fun k hk => by have := hk.2.2.1; omega)) o

set_option maxHeartbeats 400000 in
set_option maxRecDepth 100000 in
theorem answer_good (A0 : Option Addr) (c0 : Nat) (l0 : List (List Int)) (A1_0 : Option Addr) (c1_0 : Nat) (l1_0 : List (List Int)) (r1 : List (List Int)) (r2 : Int) (w : World) (hr0 : Kd.C (Kd.slice 5 (Kd.int .u8)) w A0 l0.length l0) (hc0 : l0.length ≤ c0) (hr1_0 : Kd.C (Kd.slice 5 (Kd.int .u8)) w A1_0 l1_0.length l1_0) (hc1_0 : l1_0.length ≤ c1_0) (hb : ansBad l0 l1_0 = false)
    (h : (if l1_0.all (maskOk l0.length) then (l1_0.map fun m => ansUpto l0 m l0.length, (0 : Int)) else ([], 360)) = (r1, r2)) :
    Calls Try.prog 15 #[.slice A0 l0.length c0, .agg #[.slice A1_0 l1_0.length c1_0]] w fun e w' => ∃ v0_ : Value, e = .returned (.tuple #[.agg #[v0_], .int .i64 r2]) ∧ Kd.S (Kd.slice 5 (Kd.int .u8)) 22 w' w.heap.size (fun _ => True) v0_ r1 ∧ Below w.heap.size w w' := by
  have HR0 := Aside0.mk hr0
  have HR1 := Aside0.mk hr1_0
  have H := Aside0.mk h
  clear hr0 hr1_0 h
  have hu35 := Try.underlying35
  have hu32 := Try.underlying32
  obtain ⟨hlo, hhi, hm, hany⟩ : 1 ≤ l0.length ∧ l0.length ≤ 1024 ∧ l1_0.length ≤ 132 ∧ (l0.any fun b => (b.length : Int) != 16) = false := by
    unfold ansBad at hb
    simp only [Bool.or_eq_false_iff, decide_eq_false_iff_not] at hb
    exact ⟨by omega, by omega, by omega, hb.2⟩
  have HANY := Aside0.mk hany
  clear hb hany
  have d1 : decide ((l0.length : Int) < 1) = false := decide_eq_false (by omega)
  have d2 : decide (1024 < (l0.length : Int)) = false := decide_eq_false (by omega)
  have d3 : decide (132 < (l1_0.length : Int)) = false := decide_eq_false (by omega)
  have hmk : ∀ W : World, (Instr.makeSlice 22 (.int .i64 16) (.int .i64 16)).run Try.prog W = .ok (.slice (some ⟨W.heap.size, 0, none⟩) 16 16) (W.alloc (.cells (madeCells #[.int .u8 0] 16) 5)) := print_make (P := Try.prog) 22 5 .u8 1 Try.underlying22 info5 (by decide) 16 (by decide)
  go_enter Try.func15, Try.ntmps15
  go_wp2_with (go_at_call 30; refine (containsFunc_calls _ _ _ _ (by omega) (Kd.C_alloc (Kd.C_alloc HR0.out _) _)).mono ?_; rw [HANY.out]; rintro e w' ⟨rfl, rfl⟩)
  go_loopw [34, 8, 9, 10, 11, 56] (fun i _ _ _ _ _ wr => ∃ (k : Nat) (v : Value), k ≤ l1_0.length ∧ i = .int .i64 k ∧ Aside0 ((l1_0.take k).all (maskOk l0.length) = true) ∧
      Aside0 (wr.heap[w.heap.size + 1]? = some (.cells #[v] 35 (0, 0))) ∧ Aside0 (Kd.S (Kd.slice 5 (Kd.int .u8)) 22 wr w.heap.size (fun _ => True) v ((l1_0.take k).map fun m => ansUpto l0 m l0.length)) ∧ Aside0 (Below w.heap.size w wr)) (fun i _ _ _ _ _ _ => l1_0.length - (intOf i).toNat)
  case atStart => exact ⟨0, .slice none 0 0, by omega, rfl, ⟨by simp⟩, ⟨by simpa using heap_alloc_new (w.alloc (.cells #[.slice A1_0 l1_0.length c1_0] 32)) (.cells #[.slice none 0 0] 35)⟩, ⟨Kd.S_nil _ _ _ _ _⟩, ⟨((Below.refl _ _).alloc (Nat.le_refl _) _).alloc (by simp) _⟩⟩
  case round =>
    obtain ⟨k, v, hk, rfl, HOK, HG, HS, HB⟩ := hrel
    by_cases hlt : k < l1_0.length
    · obtain ⟨ad, A1, c1, e, hc0', hle, hC⟩ := at_L1 HR1.out (k : Int) (by omega) (by omega)
      subst e
      simp only [Int.toNat_natCast] at hc0'
      have hc := (HB.out.cell (World.block_lt_of_cell? w _ hc0')).trans hc0'
      clear hc0'
      have HC := Aside0.mk hC
      clear hC
      have hget : l1_0[k]? = some (rd_L1 l1_0 (k : Int)) := by simp [rd_L1, hlt]
      have HGET := Aside0.mk hget
      clear hget
      generalize rd_L1 l1_0 (k : Int) = m at *
      have hc4 : wr.cell? ⟨w.heap.size + 1, 0, none⟩ = some v := (blk_cell HG.out 0).trans rfl
      have hf4 := blk_frozen HG.out 0
      have fin : ∀ W : World, W.heap[w.heap.size + 1]? = some (.cells #[v] 35 (0, 0)) → Below w.heap.size w W → maskOk l0.length m = false → ∀ tmps : Array Value, tmps.getD 4 undef = .pointer (some ⟨w.heap.size + 1, 0, none⟩) → tmps.getD 5 undef = .int .i64 360 →
          bodyPost Try.prog Try.f15 (fun e w' => ∃ v0_ : Value, e = .returned (.tuple #[.agg #[v0_], .int .i64 r2]) ∧ Kd.S (Kd.slice 5 (Kd.int .u8)) 22 w' w.heap.size (fun _ => True) v0_ r1 ∧ Below w.heap.size w w') Exit.ret
            { tmps := tmps, defers := [] } (W.setCell ⟨w.heap.size + 1, 0, none⟩ (.slice none 0 0)) := by
        intro W hW hBW hno tmps h4 h5
        obtain ⟨e1, e2⟩ := answer_no H.out HGET.out hno
        refine bodyPost_ret (results_ct rfl _ _ (w.heap.size + 1) 35 #[.slice none 0 0] (0, 0) _ h4 (by simpa using blk_set hW 0 (.slice none 0 0)) Try.underlying35 rfl (by kernel_rfl)) rfl ?_
        rw [h5, e1, e2]
        exact ⟨.slice none 0 0, rfl, Kd.S_nil _ _ _ _ _, hBW.setCell (by simp) _⟩
      have FIN := Lib.hid fin
      clear fin
      by_cases hlen : m.length = (l0.length + 7) / 8
      · have hne : ((m.length : Int) != ((l0.length : Int) + 7) / 8) = false := by rw [bne_eq_false_iff_eq]; omega
        have HOF := Aside0.mk (of_mask l0.length m hhi hlen)
        have HLEN := Aside0.mk hlen
        clear hlen
        by_cases heq : ((strOfNums (ofMask l0.length m)).toList == (strOfNums m).toList) = true
        · have HMK : Aside0 (maskOk l0.length m = true) := ⟨by unfold maskOk; rw [heq, decide_eq_true HLEN.out]; rfl⟩
          have HEQ := Aside0.mk heq
          clear heq
          go_wp2_with (first
            | (go_at_call 24; with_reducible refine (size_same _ (by omega) _).mono ?_; rintro e w' ⟨rfl, rfl⟩)
            | (go_at_call 25; with_reducible refine (retrieval_of.calls (l0.length : Int) A1 c1 m (ofMask l0.length m) _ (Kd.C_below HC.out HB.out) hle HOF.out).mono ?_; rintro e w1 ⟨v1, rfl, ho1, hb1⟩; have HO1 := Aside0.mk ho1; have HB1 := Aside0.mk hb1; clear ho1 hb1; obtain ⟨A2, c2, hv1, hl2, hr2⟩ := Kd.R_reads HO1.out; subst hv1; have HR2 := Aside0.mk hr2; clear hr2)
            | (go_at_call 32; with_reducible refine (bytes_Equal.calls A2 c2 (ofMask l0.length m) A1 c1 m true _ HR2.out hl2 (Kd.C_below HC.out (below_step HB.out HB1.out)) hle (by unfold bytes_Equal.f; rw [HEQ.out])).mono ?_; rintro e w2 ⟨rfl, hd2⟩; obtain ⟨n2, rfl⟩ := hd2.out))
          have HOM := Aside0.mk (own_made (w1.drewN n2) w.heap.size 5 .u8 16 (Nat.le_trans HB.out.size HB1.out.size) (by decide))
          have HS0 := Aside0.mk (S_apart_new (w0 := w) (Kd.S_drewN (Kd.S_below HS.out HB1.out) n2) (.cells (madeCells #[.int .u8 0] 16) 5))
          have HG0 := Aside0.mk (blk_alloc (blk_drewN (blk_below HG.out HB1.out) n2) (.cells (madeCells #[.int .u8 0] 16) 5))
          have HB0 := Aside0.mk (below_alloc (pw_below_drewN (below_step HB.out HB1.out) n2) (.cells (madeCells #[.int .u8 0] 16) 5))
          have hwsz : w.heap.size + 1 < w1.heap.size := Nat.lt_of_lt_of_le (blk_lt HG.out) HB1.out.size
          go_loopw [56, 11] (fun i _ wr => ∃ n : Nat, n ≤ l0.length ∧ i = .int .i64 n ∧ Aside0 (wr.ownsRow w.heap.size 5 1 (.slice (some ⟨w1.heap.size, 0, none⟩) 16 16) 16 (nums .u8 (ansUpto l0 m n))) ∧
              Aside0 (Kd.S (Kd.slice 5 (Kd.int .u8)) 22 wr w.heap.size (fun k => k ≠ w1.heap.size) v ((l1_0.take k).map fun m => ansUpto l0 m l0.length)) ∧ Aside0 (wr.heap[w.heap.size + 1]? = some (.cells #[v] 35 (0, 0))) ∧ Aside0 (Below w.heap.size w wr)) (fun i _ _ => l0.length - (intOf i).toNat)
          case atStart => exact ⟨0, by omega, rfl, HOM, HS0, HG0, HB0⟩
          case round =>
            clear HOM HS0 HG0 HB0
            obtain ⟨n, hn, rfl, HOn, HSn, HGn, HBn⟩ := hrel
            by_cases hnl : n < l0.length
            · have HCB := Aside0.mk (choose_B m n (by omega) (by have := HLEN.out; omega))
              cases hcb : chooseB m n with
              | true =>
                rw [hcb] at HCB
                have HNX : Aside0 (ansUpto l0 m (n + 1) = xorL (ansUpto l0 m n) (l0.getD n [])) := ⟨by rw [ansUpto, hcb]; rfl⟩
                clear hcb
                obtain ⟨ad0, A3, c3, e0, hc3, hle3, hC3⟩ := at_L1 HR0.out (n : Int) (by omega) (by omega)
                subst e0
                simp only [Int.toNat_natCast] at hc3
                have h16 : (rd_L1 l0 (n : Int)).length = 16 := by
                  have h1 := HANY.out
                  rw [List.any_eq_false] at h1
                  have h2 := h1 (rd_L1 l0 (n : Int)) (List.mem_of_getElem? (i := n) (by simp [rd_L1, hnl]))
                  simp only [Bool.not_eq_true, bne_eq_false_iff_eq] at h2
                  omega
                have HC3 := Aside0.mk hC3
                have H16 := Aside0.mk h16
                have hc3' : wr.cell? (ad0.add n) = some (.slice A3 (rd_L1 l0 (n : Int)).length c3) := (HBn.out.cell (World.block_lt_of_cell? w _ hc3)).trans hc3
                clear hC3 h16 hc3
                go_wp2_with (first
                  | (go_at_call 33; with_reducible refine (retrieval_chooses.calls A1 c1 m (n : Int) true _ (Kd.C_below HC.out HBn.out) hle HCB.out).mono ?_; rintro e w3 ⟨rfl, hd3⟩; obtain ⟨n3, rfl⟩ := hd3.out))
                refine (add_calls w _ (below_alloc (pw_below_drewN HBn.out n3) _) w1.heap.size 16 16 (ansUpto l0 m n) (by decide) ((show (wr.drewN n3).ownsRow w.heap.size 5 1 (.slice (some ⟨w1.heap.size, 0, none⟩) 16 16) 16 (nums .u8 (ansUpto l0 m n)) from HOn.out).alloc _) wr.heap.size [rd_L1 l0 (n : Int)] (by simp) (Blocks_one (W := wr.drewN n3) HC3.out (by rw [H16.out]; exact Nat.le_refl _)) (Nat.ne_of_gt (own_lt HOn.out _ rfl))).mono ?_
                rintro e w4 ⟨rfl, ho4, hb4, hk4⟩
                have HO4 := Aside0.mk ho4
                have HB4 := Aside0.mk hb4
                have HK4 := Aside0.mk hk4
                clear ho4 hb4 hk4
                go_wp2
                go_roundw
                case rel =>
                  have hbn : l0.getD n [] = rd_L1 l0 (n : Int) := by simp [rd_L1]
                  refine ⟨n + 1, by omega, by go_num, ⟨?_⟩, ⟨Kd.S_keep (Kd.S_alloc (Kd.S_drewN HSn.out n3) _) HK4.out (fun _ hk => hk)⟩, ⟨HK4.out.blk (blk_alloc (blk_drewN HGn.out n3) _) (by omega) (by simp)⟩, HB4⟩
                  rw [HNX.out, hbn]
                  exact HO4.out
                case measure => simp [intOf]; omega
              | false =>
                rw [hcb] at HCB
                have HNX : Aside0 (ansUpto l0 m (n + 1) = ansUpto l0 m n) := ⟨by rw [ansUpto, hcb]; rfl⟩
                clear hcb
                go_wp2_with (go_at_call 33; with_reducible refine (retrieval_chooses.calls A1 c1 m (n : Int) false _ (Kd.C_below HC.out HBn.out) hle HCB.out).mono ?_; rintro e w3 ⟨rfl, hd3⟩; obtain ⟨n3, rfl⟩ := hd3.out)
                go_roundw
                case rel =>
                  refine ⟨n + 1, by omega, by go_num, ⟨?_⟩, ⟨Kd.S_drewN HSn.out n3⟩, ⟨blk_drewN HGn.out n3⟩, ⟨pw_below_drewN HBn.out n3⟩⟩
                  rw [HNX.out]
                  exact HOn.out
                case measure => simp [intOf]; omega
            · obtain rfl : n = l0.length := by omega
              have hc6 : wr.cell? ⟨w.heap.size + 1, 0, none⟩ = some v := (blk_cell HGn.out 0).trans rfl
              have hf6 := blk_frozen HGn.out 0
              have hg1 := own_lt HOn.out _ rfl
              have haP := Aside0.mk (Kd.M_row (R_mk2 (ok := fun k_ => k_ = w1.heap.size) HOn.out (fun k hk => (Option.some.inj hk).symm)))
              have haK : Aside0 (∀ k_, k_ = w1.heap.size → True ∧ some k_ ≠ v.ownBlock) := ⟨fun k_ hk => ⟨trivial, fun e => (Kd.S_R HSn.out).1 k_ e.symm hk⟩⟩
              have haO := Aside0.mk (Kd.S_mono (ok' := fun k_ => True ∧ ¬ k_ = w1.heap.size) HSn.out (fun k hk => ⟨trivial, hk⟩))
              have haL : Aside0 ((((l1_0.take k).map fun m => ansUpto l0 m l0.length).length + 1) * 24 ≤ 140737488355328) := ⟨by simp; omega⟩
              have HOK2 : Aside0 ((l1_0.take (k + 1)).all (maskOk l0.length) = true) := ⟨by rw [List.take_add_one, HGET.out, List.all_append, HOK.out]; simp [HMK.out]⟩
              have HTK : Aside0 (((l1_0.take k).map fun m => ansUpto l0 m l0.length) ++ [ansUpto l0 m l0.length] = (l1_0.take (k + 1)).map fun m => ansUpto l0 m l0.length) := ⟨by rw [List.take_add_one, HGET.out]; simp⟩
              go_wp2_with (at_builtin; refine Kd.S_append (Kd.slice 5 (Kd.int .u8)) (w0 := w) w.heap.size rfl (.tmp 71) (.tmp 73) 30 22 (.slice none 0 0) 24 rfl Try.underlying30 info22 rfl (by decide) (by omega) v ((l1_0.take k).map fun m => ansUpto l0 m l0.length) (ansUpto l0 m l0.length) [.slice (some ⟨w1.heap.size, 0, none⟩) 16 16] (fun _ => True) (fun k_ => k_ = w1.heap.size) rfl rfl haP.out haK.out (fun _ _ => trivial) haO.out HBn.out HBn.out.size haL.out ?_; intro v5 w5 ho5 hb5 hg5 hat5; rw [HTK.out] at ho5; obtain ⟨A5, c5, e5⟩ := Kd.S_slice ho5; subst e5; have HO5 := Aside0.mk ho5; have HB5 := Aside0.mk hb5; have HG5 := Aside0.mk (blk_grown HGn.out hg5 (fun e => by have := Kd.S_typed HSn.out _ e.symm; obtain ⟨cells, hc⟩ := this; rw [HGn.out] at hc; cases hc)); have hc7 : w5.cell? ⟨w.heap.size + 1, 0, none⟩ = some v := (blk_cell HG5.out 0).trans rfl; have hf7 := blk_frozen HG5.out 0; clear ho5 hb5 hg5 hat5)
              go_roundw
              case rel =>
                refine ⟨k + 1, .slice A5 ((l1_0.take (k + 1)).map fun m => ansUpto l0 m l0.length).length c5, by omega, by go_num, HOK2, ⟨?_⟩, ⟨Kd.S_set HO5.out HG5.out (by decide) 0 _⟩, ⟨HB5.out.setCell (by simp) _⟩⟩
                simpa using blk_set HG5.out 0 (.slice A5 ((l1_0.take (k + 1)).map fun m => ansUpto l0 m l0.length).length c5)
              case measure => simp [intOf]; omega
        · have HMK : Aside0 (maskOk l0.length m = false) := ⟨by unfold maskOk; simp [heq]⟩
          have heq' : ((strOfNums (ofMask l0.length m)).toList == (strOfNums m).toList) = false := by simpa using heq
          have HEQ := Aside0.mk heq'
          clear heq heq'
          go_wp2_with (first
            | (go_at_call 24; with_reducible refine (size_same _ (by omega) _).mono ?_; rintro e w' ⟨rfl, rfl⟩)
            | (go_at_call 25; with_reducible refine (retrieval_of.calls (l0.length : Int) A1 c1 m (ofMask l0.length m) _ (Kd.C_below HC.out HB.out) hle HOF.out).mono ?_; rintro e w1 ⟨v1, rfl, ho1, hb1⟩; have HO1 := Aside0.mk ho1; have HB1 := Aside0.mk hb1; clear ho1 hb1; obtain ⟨A2, c2, hv1, hl2, hr2⟩ := Kd.R_reads HO1.out; subst hv1; have HR2 := Aside0.mk hr2; clear hr2; have HG1 := Aside0.mk (blk_below HG.out HB1.out); have hc5 : w1.cell? ⟨w.heap.size + 1, 0, none⟩ = some v := (blk_cell HG1.out 0).trans rfl; have hf5 := blk_frozen HG1.out 0)
            | (go_at_call 32; with_reducible refine (bytes_Equal.calls A2 c2 (ofMask l0.length m) A1 c1 m false _ HR2.out hl2 (Kd.C_below HC.out (below_step HB.out HB1.out)) hle (by unfold bytes_Equal.f; rw [HEQ.out])).mono ?_; rintro e w2 ⟨rfl, hd2⟩; obtain ⟨n2, rfl⟩ := hd2.out))
          refine FIN.out _ (blk_drewN HG1.out n2) (pw_below_drewN (below_step HB.out HB1.out) n2) HMK.out _ rfl rfl
      · have HMK : Aside0 (maskOk l0.length m = false) := ⟨by unfold maskOk; simp [hlen]⟩
        have hne : ((m.length : Int) != ((l0.length : Int) + 7) / 8) = true := by rw [bne_iff_ne]; omega
        go_wp2_with (go_at_call 24; with_reducible refine (size_same _ (by omega) _).mono ?_; rintro e w' ⟨rfl, rfl⟩)
        exact FIN.out _ HG.out HB.out HMK.out _ rfl rfl
    · have hk2 : k = l1_0.length := by omega
      have HK2 := Aside0.mk hk2
      clear hk2
      have hc4 : wr.cell? ⟨w.heap.size + 1, 0, none⟩ = some v := (blk_cell HG.out 0).trans rfl
      have hf4 := blk_frozen HG.out 0
      obtain ⟨Av, cv, ev⟩ := Kd.S_slice HS.out
      generalize hnv : ((l1_0.take k).map fun m => ansUpto l0 m l0.length).length = nv at ev
      clear hnv
      subst ev
      go_wp2
      refine bodyPost_ret (results_ct rfl _ _ (w.heap.size + 1) 35 #[.slice Av nv cv] (0, 0) _ rfl (blk_set HG.out 0 _) Try.underlying35 rfl (by kernel_rfl)) rfl ?_
      have hh := H.out
      have hok := HOK.out
      rw [HK2.out, List.take_length] at hok
      rw [hok, if_pos rfl] at hh
      injection hh with h1 h2
      subst h1 h2
      refine ⟨.slice Av nv cv, rfl, ?_, HB.out.setCell (by simp) _⟩
      have h5 := Kd.S_set HS.out HG.out (by decide) 0 (.slice Av nv cv)
      have h6 : ((l1_0.take k).map fun m => ansUpto l0 m l0.length) = l1_0.map fun m => ansUpto l0 m l0.length := by rw [HK2.out, List.take_length]
      rw [← h6]
      exact h5

theorem retrieval_Answer.calls (A0 : Option Addr) (c0 : Nat) (l0 : List (List Int)) (A1_0 : Option Addr) (c1_0 : Nat) (l1_0 : List (List Int)) (r1 : List (List Int)) (r2 : Int) (w : World) (hr0 : Kd.C (Kd.slice 5 (Kd.int .u8)) w A0 l0.length l0) (hc0 : l0.length ≤ c0) (hr1_0 : Kd.C (Kd.slice 5 (Kd.int .u8)) w A1_0 l1_0.length l1_0) (hc1_0 : l1_0.length ≤ c1_0) (h : retrieval_Answer.f l0 l1_0 = some (r1, r2)) :
    Calls Try.prog 15 #[.slice A0 l0.length c0, .agg #[.slice A1_0 l1_0.length c1_0]] w fun e w' => ∃ v0_ : Value, e = .returned (.tuple #[.agg #[v0_], .int .i64 r2]) ∧ Kd.S (Kd.slice 5 (Kd.int .u8)) 22 w' w.heap.size (fun _ => True) v0_ r1 ∧ Below w.heap.size w w' := by
  unfold retrieval_Answer.f at h
  cases hb : ansBad l0 l1_0 with
  | true =>
    rw [hb, if_pos rfl] at h
    injection h with h
    injection h with h1 h2
    subst h1 h2
    exact answer_bad A0 c0 l0 A1_0 c1_0 l1_0 w hr0 hb
  | false =>
    rw [hb, if_neg (by simp)] at h
    refine answer_good A0 c0 l0 A1_0 c1_0 l1_0 r1 r2 w hr0 hc0 hr1_0 hc1_0 hb ?_
    split at h
    · rename_i hq; rw [if_pos hq]; exact Option.some.inj h
    · rename_i hq; rw [if_neg hq]; exact Option.some.inj h



def retrieval_Join.f (l0 l1 : List Int) : Option (List Int × Int) := if l0.length = 16 ∧ l1.length = 16 then some (xorL (xorL (List.replicate 16 0) l0) l1, 0) else some ([], 360)
set_option maxHeartbeats 2000000 in
set_option maxRecDepth 100000 in
theorem retrieval_Join.calls (A0 : Option Addr) (c0 : Nat) (l0 : List Int) (A1 : Option Addr) (c1 : Nat) (l1 : List Int) (r1 : List Int) (r2 : Int) (w : World) (hr0 : Kd.C (Kd.int .u8) w A0 l0.length l0) (hc0 : l0.length ≤ c0) (hr1 : Kd.C (Kd.int .u8) w A1 l1.length l1) (hc1 : l1.length ≤ c1) (h : retrieval_Join.f l0 l1 = some (r1, r2)) :
    Calls Try.prog 17 #[.slice A0 l0.length c0, .slice A1 l1.length c1] w fun e w' => ∃ v0_ : Value, e = .returned (.tuple #[v0_, .int .i64 r2]) ∧ Kd.R (Kd.int .u8) 5 w' w.heap.size (fun _ => True) v0_ r1 ∧ Below w.heap.size w w' := by
  have HR0 := Aside0.mk hr0
  have HR1 := Aside0.mk hr1
  have H := Aside0.mk h
  clear hr0 hr1 h
  by_cases h0 : l0.length = 16
  · by_cases h1 : l1.length = 16
    · have HB := Aside0.mk (Below.refl w.heap.size w)
      have h0b : ((l0.length : Int) != 16) = false := by rw [h0]; rfl
      have h1b : ((l1.length : Int) != 16) = false := by rw [h1]; rfl
      have H0 := Aside0.mk h0
      have H1 := Aside0.mk h1
      clear h0 h1
      have hmk : ∀ W : World, (Instr.makeSlice 22 (.int .i64 16) (.int .i64 16)).run Try.prog W = .ok (.slice (some ⟨W.heap.size, 0, none⟩) 16 16) (W.alloc (.cells (madeCells #[.int .u8 0] 16) 5)) := print_make (P := Try.prog) 22 5 .u8 1 Try.underlying22 info5 (by decide) 16 (by decide)
      have hom := own_made w w.heap.size 5 .u8 16 (Nat.le_refl _) (by decide)
      have HOM := Aside0.mk hom
      clear hom
      have HBS : ∀ W, W = (w.alloc (.cells (madeCells #[.int .u8 0] 16) 5)).alloc (.cells #[.slice A0 l0.length c0, .slice A1 l1.length c1] 22) → Aside0 (Blocks w W (w.heap.size + 1) [l0, l1] 16) := by
        rintro W rfl
        refine ⟨fun i hi => ?_⟩
        match i, hi with
        | 0, _ => exact ⟨A0, c0, by simp, HR0.out, by simp [H0.out]⟩
        | 1, _ => exact ⟨A1, c1, by simp, HR1.out, by simp [H1.out]⟩
      go_enter Try.func17, Try.ntmps17
      go_wp2_with (go_at_call 34; refine (add_calls w _ (((Below.refl _ _).alloc (Nat.le_refl _) _).alloc (by simp) _) w.heap.size 16 16 (List.replicate 16 0) (by decide) (HOM.out.alloc _) (w.heap.size + 1) [l0, l1] (by simp) (HBS _ rfl).out (by omega)).mono ?_; rintro e w' ⟨rfl, ho', hb', hk'⟩; have HO' := Aside0.mk ho'; have HB' := Aside0.mk hb'; clear ho' hb' hk')
      go_ret2
      have hh := H.out
      unfold retrieval_Join.f at hh
      rw [if_pos ⟨H0.out, H1.out⟩] at hh
      injection hh with hh
      injection hh with h1 h2
      subst h1 h2
      exact ⟨.slice (some ⟨w.heap.size, 0, none⟩) 16 16, rfl, R_mk HO'.out, HB'.out⟩
    · have h0b : ((l0.length : Int) != 16) = false := by rw [h0]; rfl
      have h1b : ((l1.length : Int) != 16) = true := by rw [bne_iff_ne]; omega
      have hh := H.out
      unfold retrieval_Join.f at hh
      rw [if_neg (fun q => h1 q.2)] at hh
      injection hh with hh
      injection hh with h2 h3
      subst h2 h3
      clear h0 h1
      go_enter Try.func17, Try.ntmps17
      go_wp2
      go_ret2
      exact ⟨.slice none 0 0, rfl, Kd.R_nil _ _ _ _ _, Below.refl _ _⟩
  · have h0b : ((l0.length : Int) != 16) = true := by rw [bne_iff_ne]; omega
    have hh := H.out
    unfold retrieval_Join.f at hh
    rw [if_neg (fun q => h0 q.1)] at hh
    injection hh with hh
    injection hh with h2 h3
    subst h2 h3
    clear h0
    go_enter Try.func17, Try.ntmps17
    go_wp2
    go_ret2
    exact ⟨.slice none 0 0, rfl, Kd.R_nil _ _ _ _ _, Below.refl _ _⟩


/-! ### testamurref36_Same: function 19 -/
def testamurref36_Same.l0 : Nat → List (List Int) → List (List Int) → Int → Option (Bool)
  | 0, _, _, _ => none
  | k + 1, x0, x1, x5 => if x5 < (x0.length : Int) then (if 0 ≤ x5 then (if x5 < (x1.length : Int) then (if (strOfNums (rd_L1 x0 x5)).toList = (strOfNums (rd_L1 x1 x5)).toList then (testamurref36_Same.l0 k x0 x1 (wrap64 (x5 + 1))) else (some false)) else (none)) else (none)) else (some true)
def testamurref36_Same.f (k : Nat) (l0 : List (List Int)) (l1 : List (List Int)) : Option (Bool) := if (l0.length : Int) = (l1.length : Int) then (testamurref36_Same.l0 k l0 l1 0) else (some false)
theorem testamurref36_Same.mono_l : ∀ k, (∀ y0 y1 y2, LeO (testamurref36_Same.l0 k y0 y1 y2) (testamurref36_Same.l0 (k + 1) y0 y1 y2))
  | 0 => fun _ _ _ r h => by simp [testamurref36_Same.l0] at h
  | k + 1 => by
    have ih0 := testamurref36_Same.mono_l k
    · intro y0 y1 y2
      unfold testamurref36_Same.l0
      repeat' first
      | (with_reducible exact ih0 _ _ _)
      | (with_reducible exact LeO.refl _)
      | (with_reducible exact LeO.none _)
      | (with_reducible refine LeO.ite ?_ ?_)
      | (with_reducible refine LeO.bind ?_ (fun _ => ?_))
      | exact ih0 _ _ _
      | exact LeO.none _
      | refine LeO.ite ?_ ?_
      | refine LeO.bind ?_ (fun _ => ?_)
theorem testamurref36_Same.mono : ∀ a0 a1 k, LeO (testamurref36_Same.f k a0 a1) (testamurref36_Same.f (k + 1) a0 a1) := by
  intro a0 a1 k
  have ih0 := testamurref36_Same.mono_l k
  unfold testamurref36_Same.f
  repeat' first
      | (with_reducible exact ih0 _ _ _)
      | (with_reducible exact LeO.refl _)
      | (with_reducible exact LeO.none _)
      | (with_reducible refine LeO.ite ?_ ?_)
      | (with_reducible refine LeO.bind ?_ (fun _ => ?_))
      | exact ih0 _ _ _
      | exact LeO.none _
      | refine LeO.ite ?_ ?_
      | refine LeO.bind ?_ (fun _ => ?_)
set_option maxHeartbeats 8000000 in
set_option maxRecDepth 100000 in
theorem testamurref36_Same.calls (k : Nat) (A0 : Option Addr) (c0 : Nat) (l0 : List (List Int)) (A1 : Option Addr) (c1 : Nat) (l1 : List (List Int)) (r : Bool) (w : World) (hr0 : Kd.C (Kd.slice 5 (Kd.int .u8)) w A0 l0.length l0) (hc0 : l0.length ≤ c0) (hr1 : Kd.C (Kd.slice 5 (Kd.int .u8)) w A1 l1.length l1) (hc1 : l1.length ≤ c1) (h : testamurref36_Same.f k l0 l1 = some r) :
    Calls Try.prog 19 #[.slice A0 l0.length c0, .slice A1 l1.length c1] w fun e w' => e = .returned (.bool r) ∧ Drawn0 w w' := by
  have HR0 := Aside0.mk hr0
  have HC0 := Aside0.mk hc0
  clear hr0 hc0
  have HR1 := Aside0.mk hr1
  have HC1 := Aside0.mk hc1
  clear hr1 hc1
  have H : (if (l0.length : Int) = (l1.length : Int) then (testamurref36_Same.l0 k l0 l1 0) else (some false)) = some r := h
  clear h
  by_cases c3 : (l0.length : Int) = (l1.length : Int)
  · rw [if_pos c3] at H
    have c3b0 : ((l0.length : Int) == (l1.length : Int)) = true := beq_iff_eq.mpr c3
    have c3b1 : ((l0.length : Int) != (l1.length : Int)) = false := bne_eq_false_iff_eq.mpr c3
    have c3b2 : (l0.length == l1.length) = true := by first | simpa using c3 | (simp at c3 ⊢; omega)
    clear c3
    have H' := Aside0.mk H
    clear H
    go_enter Try.func19, Try.ntmps19
    go_wp2
    repeat (go_quiet (fail); try go_wp2)
    go_loopg [5] k (fun kq v5 w' => ∃ (x5_1 : Int), v5 = .int .i64 x5_1 ∧ Aside0 (testamurref36_Same.l0 kq l0 l1 x5_1 = some r) ∧ Aside0 (kq ≤ k) ∧ Drawn0 w w')
    case atStart => exact ⟨(0), (by first | rfl | (simp; done) | (simp [*]; done)), H', ⟨Nat.le_refl _⟩, by repeat (first | exact Drawn0.refl _ | apply Drawn0.step)⟩
    case round =>
      clear H'
      try clear c1
      try clear p2
      try clear c3
      try clear c3b0
      try clear c3b1
      try clear c3b2
      obtain ⟨x5_1, rfl, HA, HK1, ⟨m1, rfl⟩⟩ := hrel
      cases gk with
      | zero => exact absurd HA.out (by simp [testamurref36_Same.l0])
      | succ k1 =>
        have H := HA.out
        clear HA
        simp only [testamurref36_Same.l0] at H
        by_cases c4 : x5_1 < (l0.length : Int)
        · rw [if_pos c4] at H
          have c4b0 : decide (x5_1 < (l0.length : Int)) = true := decide_eq_true c4
          clear c4
          by_cases c5 : 0 ≤ x5_1
          · rw [if_pos c5] at H
            have c5b0 : decide (0 ≤ x5_1) = true := decide_eq_true c5
            clear c5
            by_cases c6 : x5_1 < (l1.length : Int)
            · rw [if_pos c6] at H
              have c6b0 : decide (x5_1 < (l1.length : Int)) = true := decide_eq_true c6
              clear c6
              by_cases c7 : (strOfNums (rd_L1 l0 x5_1)).toList = (strOfNums (rd_L1 l1 x5_1)).toList
              · rw [if_pos c7] at H
                have c7b0 : ((strOfNums (rd_L1 l0 x5_1)).toList == (strOfNums (rd_L1 l1 x5_1)).toList) = true := beq_iff_eq.mpr c7
                have c7b1 : ((strOfNums (rd_L1 l0 x5_1)).toList != (strOfNums (rd_L1 l1 x5_1)).toList) = false := bne_eq_false_iff_eq.mpr c7
                clear c7
                have H' := Aside0.mk H
                clear H
                have p128 : 0 ≤ (x5_1 : Int) := of_decide_eq_true (by first | (with_reducible assumption) | assumption)
                have q128 : x5_1 < (l0.length : Int) := of_decide_eq_true (by first | (with_reducible assumption) | assumption)
                obtain ⟨ad128, A128_0, c128_0, e128, hx128_0, hl128_0, hi128_0⟩ := at_L1 HR0.out x5_1 p128 q128
                cases e128
                have HR128_0 := Aside0.mk hi128_0
                have HC128_0 := Aside0.mk hl128_0
                clear hi128_0 hl128_0
                replace p128 := eq_true p128
                replace q128 := eq_true q128
                have hcv8 := Kd.C_string (P := Try.prog) (A := A128_0) (c := c128_0) Try.underlying22 Try.underlying5 Try.underlying9 HR128_0.out
                have hcw9 := fun m_ : Nat => Kd.C_string (P := Try.prog) (A := A128_0) (c := c128_0) Try.underlying22 Try.underlying5 Try.underlying9 (Kd.C_drewN HR128_0.out m_)
                have p129 : 0 ≤ (x5_1 : Int) := of_decide_eq_true (by first | (with_reducible assumption) | assumption)
                have q129 : x5_1 < (l1.length : Int) := of_decide_eq_true (by first | (with_reducible assumption) | assumption)
                obtain ⟨ad129, A129_0, c129_0, e129, hx129_0, hl129_0, hi129_0⟩ := at_L1 HR1.out x5_1 p129 q129
                cases e129
                have HR129_0 := Aside0.mk hi129_0
                have HC129_0 := Aside0.mk hl129_0
                clear hi129_0 hl129_0
                replace p129 := eq_true p129
                replace q129 := eq_true q129
                have hcv10 := Kd.C_string (P := Try.prog) (A := A129_0) (c := c129_0) Try.underlying22 Try.underlying5 Try.underlying9 HR129_0.out
                have hcw11 := fun m_ : Nat => Kd.C_string (P := Try.prog) (A := A129_0) (c := c129_0) Try.underlying22 Try.underlying5 Try.underlying9 (Kd.C_drewN HR129_0.out m_)
                go_wp2
                repeat (go_quiet (fail); try go_wp2)
                go_roundg k1
                case measure => have := HK1.out; omega
                case rel => exact ⟨(wrap64 (x5_1 + 1)), (by first | rfl | (simp; done) | (simp [*]; done)), H', ⟨by have := HK1.out; omega⟩, by repeat (first | exact Drawn0.refl _ | apply Drawn0.step)⟩
              · rw [if_neg c7] at H
                have c7b0 : ((strOfNums (rd_L1 l0 x5_1)).toList == (strOfNums (rd_L1 l1 x5_1)).toList) = false := beq_eq_false_iff_ne.mpr c7
                have c7b1 : ((strOfNums (rd_L1 l0 x5_1)).toList != (strOfNums (rd_L1 l1 x5_1)).toList) = true := bne_iff_ne.mpr c7
                obtain rfl := Option.some.inj H
                have p128 : 0 ≤ (x5_1 : Int) := of_decide_eq_true (by first | (with_reducible assumption) | assumption)
                have q128 : x5_1 < (l0.length : Int) := of_decide_eq_true (by first | (with_reducible assumption) | assumption)
                obtain ⟨ad128, A128_0, c128_0, e128, hx128_0, hl128_0, hi128_0⟩ := at_L1 HR0.out x5_1 p128 q128
                cases e128
                have HR128_0 := Aside0.mk hi128_0
                have HC128_0 := Aside0.mk hl128_0
                clear hi128_0 hl128_0
                replace p128 := eq_true p128
                replace q128 := eq_true q128
                have hcv12 := Kd.C_string (P := Try.prog) (A := A128_0) (c := c128_0) Try.underlying22 Try.underlying5 Try.underlying9 HR128_0.out
                have hcw13 := fun m_ : Nat => Kd.C_string (P := Try.prog) (A := A128_0) (c := c128_0) Try.underlying22 Try.underlying5 Try.underlying9 (Kd.C_drewN HR128_0.out m_)
                have p129 : 0 ≤ (x5_1 : Int) := of_decide_eq_true (by first | (with_reducible assumption) | assumption)
                have q129 : x5_1 < (l1.length : Int) := of_decide_eq_true (by first | (with_reducible assumption) | assumption)
                obtain ⟨ad129, A129_0, c129_0, e129, hx129_0, hl129_0, hi129_0⟩ := at_L1 HR1.out x5_1 p129 q129
                cases e129
                have HR129_0 := Aside0.mk hi129_0
                have HC129_0 := Aside0.mk hl129_0
                clear hi129_0 hl129_0
                replace p129 := eq_true p129
                replace q129 := eq_true q129
                have hcv14 := Kd.C_string (P := Try.prog) (A := A129_0) (c := c129_0) Try.underlying22 Try.underlying5 Try.underlying9 HR129_0.out
                have hcw15 := fun m_ : Nat => Kd.C_string (P := Try.prog) (A := A129_0) (c := c129_0) Try.underlying22 Try.underlying5 Try.underlying9 (Kd.C_drewN HR129_0.out m_)
                go_wp2
                repeat (go_quiet (fail); try go_wp2)
                go_ret
                exact ⟨by first | rfl | (simp; done) | (simp [*]; done), by repeat (first | exact Drawn0.refl _ | apply Drawn0.step)⟩
            · rw [if_neg c6] at H
              exact absurd H (by simp)
          · rw [if_neg c5] at H
            exact absurd H (by simp)
        · rw [if_neg c4] at H
          have c4b0 : decide (x5_1 < (l0.length : Int)) = false := decide_eq_false c4
          clear c4
          obtain rfl := Option.some.inj H
          go_wp2
          repeat (go_quiet (fail); try go_wp2)
          go_ret
          exact ⟨by first | rfl | (simp; done) | (simp [*]; done), by repeat (first | exact Drawn0.refl _ | apply Drawn0.step)⟩
  · rw [if_neg c3] at H
    have c3b0 : ((l0.length : Int) == (l1.length : Int)) = false := beq_eq_false_iff_ne.mpr c3
    have c3b1 : ((l0.length : Int) != (l1.length : Int)) = true := bne_iff_ne.mpr c3
    have c3b2 : (l0.length == l1.length) = false := by first | simpa using c3 | (simp at c3 ⊢; omega)
    obtain rfl := Option.some.inj H
    go_enter Try.func19, Try.ntmps19
    go_wp2
    repeat (go_quiet (fail); try go_wp2)
    go_ret
    exact ⟨by first | rfl | (simp; done) | (simp [*]; done), by repeat (first | exact Drawn0.refl _ | apply Drawn0.step)⟩

end Go.Proofs.Ytekpbncljaeemaa.Q
