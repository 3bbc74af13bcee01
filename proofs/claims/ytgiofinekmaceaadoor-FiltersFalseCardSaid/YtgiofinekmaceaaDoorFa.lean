/- filters: valid, size, Check, New -/
import Derived.Test.YtgiofinekmaceaaDoorDe
namespace Go.Proofs.YtgiofinekmaceaaDoor.Q
open Go.RowKit Go.Proofs.YtgiofinekmaceaaDoorW.PrintWords Go.Proofs.YtgiofinekmaceaaDoorW.PrintLast Go.Proofs.YtgiofinekmaceaaDoorW.PrintMore
set_option linter.unusedVariables false
set_option linter.unusedSimpArgs false
/-- a level and a number of bits are those of a filter -/
def okB (l b : Int) : Bool := decide (0 ≤ l ∧ l < 16 ∧ 8 ≤ b ∧ b ≤ 4096)
theorem valid_calls (l b : Int) (w : World) : Calls Tryd.prog 25 #[.int .i64 l, .int .i64 b] w fun e w' => e = .returned (.bool (okB l b)) ∧ w = w' := by
  by_cases h1 : 0 ≤ l
  · have c1 := eq_true h1
    by_cases h2 : l < 16
    · have c2 := eq_true h2
      by_cases h3 : 8 ≤ b
      · have c3 := eq_true h3
        by_cases h4 : b ≤ 4096
        · have c4 := eq_true h4
          have hr : okB l b = true := decide_eq_true ⟨h1, h2, h3, h4⟩
          have HR := Aside0.mk hr
          clear h1 h2 h3 h4 hr
          go_enter Tryd.func25, Tryd.ntmps25
          go_wp2_with fail
          go_ret
          exact ⟨by rw [HR.out]; rfl, rfl⟩
        · have c4 := eq_false h4
          have hr : okB l b = false := decide_eq_false (fun h => h4 h.2.2.2)
          have HR := Aside0.mk hr
          clear h1 h2 h3 h4 hr
          go_enter Tryd.func25, Tryd.ntmps25
          go_wp2_with fail
          go_ret
          exact ⟨by rw [HR.out]; rfl, rfl⟩
      · have c3 := eq_false h3
        have hr : okB l b = false := decide_eq_false (fun h => h3 h.2.2.1)
        have HR := Aside0.mk hr
        clear h1 h2 h3 hr
        go_enter Tryd.func25, Tryd.ntmps25
        go_wp2_with fail
        go_ret
        exact ⟨by rw [HR.out]; rfl, rfl⟩
    · have c2 := eq_false h2
      have hr : okB l b = false := decide_eq_false (fun h => h2 h.2.1)
      have HR := Aside0.mk hr
      clear h1 h2 hr
      go_enter Tryd.func25, Tryd.ntmps25
      go_wp2_with fail
      go_ret
      exact ⟨by rw [HR.out]; rfl, rfl⟩
  · have c1 := eq_false h1
    have hr : okB l b = false := decide_eq_false (fun h => h1 h.1)
    have HR := Aside0.mk hr
    clear h1 hr
    go_enter Tryd.func25, Tryd.ntmps25
    go_wp2_with fail
    go_ret
    exact ⟨by rw [HR.out]; rfl, rfl⟩
theorem size_calls (b : Int) (h0 : 0 ≤ b) (h1 : b ≤ 1000000) (w : World) : Calls Tryd.prog 26 #[.int .i64 b] w fun e w' => e = .returned (.int .i64 ((b + 7) / 8)) ∧ w = w' := by
  go_enter Tryd.func26, Tryd.ntmps26
  go_wp2_with fail
  go_ret
  exact ⟨rfl, rfl⟩
/-- a filter, as a value -/
def filterV (l b : Int) (A : Option Addr) (n c : Nat) : Value := .agg #[.int .i64 l, .int .i64 b, .slice A n c]
def lastOk (b : Int) (data : List Int) : Bool := b % 8 == 0 || rd data ((data.length : Int) - 1) / 2 ^ (b % 8).toNat == 0
/-- the filter is valid -/
def okF (l b : Int) (data : List Int) : Bool := okB l b && ((data.length : Int) == (b + 7) / 8) && lastOk b data
def filterE (l b : Int) (data : List Int) : Int := if okF l b data then 0 else 330
theorem okB_spec {l b : Int} (h : okB l b = true) : 0 ≤ l ∧ l < 16 ∧ 8 ≤ b ∧ b ≤ 4096 := of_decide_eq_true h
set_option maxHeartbeats 1000000 in
theorem Check_calls (l b : Int) (A : Option Addr) (n c : Nat) (data : List Int) (w : World) (hD : Kd.C (Kd.int .u8) w A n data) (hd : ∀ x ∈ data, 0 ≤ x ∧ x ≤ 255) :
    Calls Tryd.prog 15 #[filterV l b A n c] w fun e w' => e = .returned (.int .i64 (filterE l b data)) ∧ Below w.heap.size w w' := by
  have HN := Aside0.mk (heap_alloc_new w (.cells #[.int .i64 l, .int .i64 b, .slice A n c] 26))
  have HB := Aside0.mk (below_alloc (Below.refl w.heap.size w) (.cells #[.int .i64 l, .int .i64 b, .slice A n c] 26))
  have f0 : (w.alloc (.cells #[.int .i64 l, .int .i64 b, .slice A n c] 26)).cell? ⟨w.heap.size, 0, none⟩ = some (.int .i64 l) := blk_cell HN.out 0
  have f1 : (w.alloc (.cells #[.int .i64 l, .int .i64 b, .slice A n c] 26)).cell? ⟨w.heap.size, 1, none⟩ = some (.int .i64 b) := blk_cell HN.out 1
  have f2 : (w.alloc (.cells #[.int .i64 l, .int .i64 b, .slice A n c] 26)).cell? ⟨w.heap.size, 2, none⟩ = some (.slice A n c) := blk_cell HN.out 2
  unfold filterV
  have HD := Aside0.mk hD
  have HLD := Aside0.mk (Kd.C_len hD)
  clear hD
  cases hv : okB l b with
  | false =>
    have hr : filterE l b data = 330 := by rw [filterE, okF, hv]; simp
    rw [hr]
    have HVV := Aside0.mk (fun w' => valid_calls l b w')
    rw [hv] at HVV
    clear hv hr
    go_enter Tryd.func15, Tryd.ntmps15
    go_wp2_with fail
    go_quiet (exact Calls.quiet_of_same (calls_same (HVV.out _)))
    go_wp2_with fail
    go_ret
    exact ⟨rfl, pw_below_drewN HB.out nq⟩
  | true =>
    obtain ⟨l0, l1, b0, b1⟩ := okB_spec hv
    have HVV := Aside0.mk (fun w' => valid_calls l b w')
    rw [hv] at HVV
    have HSZ := Aside0.mk (fun w' => size_calls b (by omega) (by omega) w')
    obtain ⟨sz, hsz⟩ : ∃ sz, sz = (b + 7) / 8 := ⟨_, rfl⟩
    have hs0 : 1 ≤ sz := by omega
    rw [← hsz] at HSZ
    by_cases hlen : (n : Int) = sz
    · have HF : Aside0 (okF l b data = lastOk b data) := ⟨by rw [okF, hv, HLD.out, hlen, hsz]; simp⟩
      subst hlen
      have hs1 : (n : Int) ≤ 600 := by omega
      have HSE := Aside0.mk hsz
      clear hsz hv
      go_enter Tryd.func15, Tryd.ntmps15
      go_wp2_with fail
      go_quiet (first
        | exact Calls.quiet_of_same (calls_same (HVV.out _))
        | exact Calls.quiet_of_same (calls_same (HSZ.out _)))
      obtain ⟨wd, hwd⟩ : ∃ z, z = (w.alloc (.cells #[.int .i64 l, .int .i64 b, .slice A n c] 26)).drewN nq := ⟨_, rfl⟩
      have HBd : Aside0 (Below w.heap.size w wd) := ⟨by rw [hwd]; exact pw_below_drewN HB.out nq⟩
      have g1 : wd.cell? ⟨w.heap.size, 1, none⟩ = some (.int .i64 b) := by rw [hwd]; exact f1
      have g2 : wd.cell? ⟨w.heap.size, 2, none⟩ = some (.slice A n c) := by rw [hwd]; exact f2
      obtain ⟨ad, rfl, hc⟩ := Kd.at_int (Kd.C_below HD.out HBd.out) ((n : Int) - 1) (by omega) (by omega)
      rw [show ((n : Int) - 1).toNat = n - 1 by omega] at hc
      rw [← hwd]
      clear f0 f1 f2 hwd
      have i1 := eq_true (show 0 ≤ (n : Int) - 1 by omega)
      have i2 := eq_true (show (n : Int) - 1 < n by omega)
      by_cases ho : b % 8 = 0
      · have hr : filterE l b data = 0 := by rw [filterE, HF.out, lastOk]; simp [ho]
        have HR := Aside0.mk hr
        clear hr
        go_wp2_with fail
        go_ret
        exact ⟨by rw [HR.out]; rfl, HBd.out⟩
      · have ho1 : 0 < b % 8 := by omega
        have ho2 : b % 8 < 8 := by omega
        have co := eq_true ho1
        have HLO : Aside0 (lastOk b data = (rd data ((n : Int) - 1) / 2 ^ (b % 8).toNat == 0)) := ⟨by rw [lastOk, HLD.out]; simp [ho]⟩
        by_cases hq : rd data ((n : Int) - 1) / 2 ^ (b % 8).toNat = 0
        · have HR : Aside0 (filterE l b data = 0) := ⟨by rw [filterE, HF.out, HLO.out]; simp [hq]⟩
          go_wp2_with fail
          go_ret
          exact ⟨by rw [HR.out]; rfl, HBd.out⟩
        · have HR : Aside0 (filterE l b data = 330) := ⟨by rw [filterE, HF.out, HLO.out]; simp [hq]⟩
          go_wp2_with fail
          go_ret
          exact ⟨by rw [HR.out]; rfl, HBd.out⟩
    · have hF : okF l b data = false := by rw [okF, HLD.out, ← hsz]; simp [hlen]
      have hr : filterE l b data = 330 := by rw [filterE, hF]; simp
      rw [hr]
      clear hF hr hv hsz
      go_enter Tryd.func15, Tryd.ntmps15
      go_wp2_with fail
      go_quiet (first
        | exact Calls.quiet_of_same (calls_same (HVV.out _))
        | exact Calls.quiet_of_same (calls_same (HSZ.out _)))
      go_wp2_with fail
      go_ret
      exact ⟨rfl, pw_below_drewN HB.out nq⟩
end Go.Proofs.YtgiofinekmaceaaDoor.Q
