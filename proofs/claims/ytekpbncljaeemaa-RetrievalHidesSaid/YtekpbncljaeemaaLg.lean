import Derived.Test.YtekpbncljaeemaaLb
import Derived.Test.YtekpbncljaeemaaPg
namespace Go.Proofs.Ytekpbncljaeemaa.Q
open Go.RowKit Go.Proofs.YtekpbncljaeemaaW.PrintWords Go.Proofs.YtekpbncljaeemaaW.PrintLast Go.Proofs.YtekpbncljaeemaaW.PrintMore
attribute [local go_sem] max2_int min2_int max_two min_two max_three min_three max_four min_four
set_option linter.unusedVariables false
set_option linter.unusedSimpArgs false

theorem hides_T16 : rtab .any (opsOf Try.f7 16) = (true, [([], []), ([], []), ([], []), ([], []), ([1, 2, 3], [1, 2, 3]), ([], []), ([], []), ([], []), ([5, 6, 7, 4], [5, 6, 7]), ([], []), ([], []), ([9, 10], [9, 10]), ([11], [11]), ([0, 4, 8, 12, 8], [0, 4, 8, 12]), ([13], [13]), ([14], [14]), ([14], [14]), ([15, 13, 0, 1, 2, 3, 4, 5, 6, 7, 8, 9, 10, 11, 12, 13, 14, 15], [15]), ([16, 17, 0, 1, 2, 3, 4, 5, 6, 7, 8, 9, 10, 11, 12, 13, 14, 15, 16, 17], [16])]) := by kernel_rfl
theorem hides_T18 : rtab .any (opsOf Try.f7 18) = (true, [([], []), ([0], [0]), ([1], [1]), ([2], [2]), ([3, 2], [2, 3]), ([2, 4], [2, 4]), ([5, 2], [5]), ([6], [6]), ([7, 6], [6, 7]), ([6], [6]), ([9, 6], [6, 9]), ([6], [6]), ([10, 11, 6], [6, 10, 11]), ([12, 6], [6, 12]), ([13, 6], [6, 13]), ([8, 14, 6], [6, 8, 14]), ([6, 15], [6, 15])]) := by kernel_rfl

/-- a call of a function's value, in a region that draws -/
theorem goesV_ {P : Program} {ops : Array Oper} {Q : Exit → Act → World → Prop} {oi : Oper} {N : Option Tmp} {a : Act} {w : World} {K : Act → World → Prop} {f : FuncId} {fn : Func} {o : Operand} {xs : Array Operand} {ts : Array TypeId} (hf : P.funcs[f]? = some fn) (hname : (fn.name == "runtime.NumGoroutine") = false) (hb : fn.body.isSome = true) (args : Array Value)
    (hw : Region.wanted oi (yielded ops a.tmps) = true) (hN : oi.dst = N) (hop : oi.op = .call { callee := .value o, args := xs, argTypes := ts }) (ho : a.eval o = .func (.func f) #[] #[]) (hargs : xs.map a.eval = args)
    (h : Calls P f args w fun e w' => ∃ v, e = .returned v ∧ K (a.put N v) w') : if Region.wanted oi (yielded ops a.tmps) = true then Oper.wp P oi a w K Q else K (a.put N undef) w := by
  refine call_ f args hw hN ?_ h
  have he := enters_ hf hname hb args w
  unfold execOp
  simp [hop, resolve, Deferred.ofValue, invoke, ho, hargs, he]
set_option maxHeartbeats 2000000 in
theorem hidesBlock_calls (w : World) (A : Option Addr) (c : Nat) (l : List Int) (i : Nat) (hr : Kd.C (Kd.int .i64) w A l.length l) :
    Calls Try.prog 22 #[.slice A l.length c, .int .i64 (i : Int)] w fun e w' => e = .returned (.int .i64 (askN l i)) ∧ w' = w := by
  unfold askN
  by_cases h : i < l.length
  · rw [if_pos h]
    obtain ⟨ad, e1, hx⟩ := Kd.at_int hr (i : Int) (by omega) (by omega)
    subst e1
    rw [Int.toNat_natCast] at hx
    have p1 := eq_true (show 0 ≤ (i : Int) by omega)
    have p2 := eq_true (show (i : Int) < (l.length : Int) by omega)
    go_enter Try.func22, Try.ntmps22
    go_wp2
    go_ret
    exact ⟨rfl, rfl⟩
  · rw [if_neg h]
    have p2 : (i < l.length) = False := eq_false h
    go_enter Try.func22, Try.ntmps22
    go_wp2
    go_ret
    exact ⟨rfl, rfl⟩

set_option maxHeartbeats 16000000 in
set_option maxRecDepth 100000 in
theorem hides_walk (a0 : Int) (A1 : Option Addr) (c1 : Nat) (l1 : List Int) (A2 : Option Addr) (c2 : Nat) (l2 : List Int) (a3 : Int) (A4 : Option Addr) (c4 : Nat) (l4 : List (List Int)) (W : World) (w0 : (Lit.int .i64 a0).wf = true)
    (C1 : Kd.C (Kd.int .i64) W A1 l1.length l1) (le1 : l1.length ≤ c1) (wf1 : ∀ x ∈ l1, (Lit.int .i64 x).wf = true) (y1 : l1.length * 8 ≤ 140737488351232)
    (C2 : Kd.C (Kd.int .i64) W A2 l2.length l2) (le2 : l2.length ≤ c2) (wf2 : ∀ x ∈ l2, (Lit.int .i64 x).wf = true) (y2 : l2.length * 8 ≤ 140737488351232) (w3 : (Lit.int .i64 a3).wf = true)
    (C4 : Kd.C (Kd.slice 5 (Kd.int .u8)) W A4 l4.length l4) (le4 : l4.length ≤ c4) (b4 : ∀ m ∈ l4, ∀ x ∈ m, 0 ≤ x ∧ x ≤ 255) :
    Calls Try.prog 7 #[.int .i64 a0, .slice A1 l1.length c1, .slice A2 l2.length c2, .int .i64 a3, .slice A4 l4.length c4] W fun e W' => e = .returned (.bool true) ∧ Below W.heap.size W W' := by
  obtain ⟨f4, hf4, hs4⟩ := few_of 0 l4 20 C4.2.1
  obtain ⟨r1, r2, r3, hA, hl1, hl2⟩ := ask_some a0 l1 a3 l4
  obtain ⟨s1, s2, s3, hB, _, _⟩ := ask_some a0 l2 a3 l4
  have hlaw := hides_law a0 l1 l2 a3 l4 b4 hA hB
  have hT : testamurref36_Same.f (r1.length + 1 + 0) r1 r1 = some true := same_of 0 r1 (by have := C4.2.1; omega)
  have hU : testamurref36_Same.f (r2.length + 1 + 0) r2 r2 = some true := same_of 0 r2 (by have := C4.2.1; omega)
  have HF4 := Aside0.mk hf4; have HA := Aside0.mk hA; have HB := Aside0.mk hB; have HLAW := Aside0.mk hlaw; have HT1 := Aside0.mk hT; have HU1 := Aside0.mk hU
  clear hf4 hs4 b4 wf1 wf2 y1 y2 w0 w3 hlaw hA hB hl1 hl2 hT hU
  have H1 := Aside0.mk C1; have H2 := Aside0.mk C2; have H4 := Aside0.mk C4
  have L1 := Aside0.mk le1; have L2 := Aside0.mk le2; have L4 := Aside0.mk le4
  clear C1 C2 C4 le1 le2 le4
  have hu32 := Try.underlying32
  have hu35 := Try.underlying35
  go_enter Try.func7, Try.ntmps7
  go_wp2_with fail
  refine (sane_calls _).mono ?_
  rintro e w1 ⟨rfl, hbel⟩
  have B_ := Aside0.mk (below_step (Below.refl _ _) hbel)
  have B := B_
  clear B_
  clear hbel
  go_wp2_with fail
  refine (testamurref36_Few.calls _ A4 c4 l4 20 f4 _ (Kd.C_below H4.out B.out) L4.out HF4.out).mono ?_
  rintro e w2 ⟨rfl, hd⟩
  have B_ := Aside0.mk (below_step B.out hd.below)
  clear B
  have B := B_
  clear B_
  clear hd
  cases f4 with
  | false =>
      go_wp2
      go_ret
      exact ⟨rfl, by first | exact B.out | exact below_alloc (below_alloc B.out _) _⟩
  | true =>
    by_cases h20 : (l1.length : Int) > 20
    ·
      go_wp2
      go_ret
      exact ⟨rfl, by first | exact B.out | exact below_alloc (below_alloc B.out _) _⟩
    ·
      by_cases h21 : (l2.length : Int) > 20
      ·
        go_wp2
        go_ret
        exact ⟨rfl, by first | exact B.out | exact below_alloc (below_alloc B.out _) _⟩
      ·
        go_wp2_with fail
        refine (retrieval_Ask.calls a0 A1 c1 l1 a3 A4 c4 l4 r1 r2 r3 _ (Kd.C_below H1.out B.out) L1.out (Kd.C_below H4.out B.out) L4.out HA.out).mono ?_
        rintro e w3 ⟨va, vb, rfl, ha, hb, hbel⟩
        have B_ := Aside0.mk (below_step B.out hbel)
        clear B
        have B := B_
        clear B_
        have SA := Aside0.mk ha
        clear ha
        have SB := Aside0.mk hb
        clear hb
        clear hbel
        clear h20 h21
        obtain ⟨Aa, ca, ea⟩ := Kd.S_slice SA.out
        obtain ⟨Ab, cb, eb⟩ := Kd.S_slice SB.out
        subst ea eb
        go_wp2_with fail
        refine (retrieval_Ask.calls a0 A2 c2 l2 a3 A4 c4 l4 s1 s2 s3 _ (Kd.C_below H2.out (below_alloc (below_alloc B.out _) _)) L2.out (Kd.C_below H4.out (below_alloc (below_alloc B.out _) _)) L4.out HB.out).mono ?_
        rintro e w4 ⟨vc, vd, rfl, ha, hb, hbel⟩
        have B_ := Aside0.mk (below_step (below_alloc (below_alloc B.out _) _) hbel)
        have SA_ := Aside0.mk (Kd.S_below (Kd.S_alloc (Kd.S_alloc (SA.out) _) _) hbel)
        have SB_ := Aside0.mk (Kd.S_below (Kd.S_alloc (Kd.S_alloc (SB.out) _) _) hbel)
        have BA_ := Aside0.mk (blk_step ((heap_two w3 (.cells #[.slice Aa r1.length ca] 32) (.cells #[.slice Ab r2.length cb] 32)).1) hbel)
        have BB_ := Aside0.mk (blk_step ((heap_two w3 (.cells #[.slice Aa r1.length ca] 32) (.cells #[.slice Ab r2.length cb] 32)).2) hbel)
        clear B SA SB
        have B := B_
        have SA := SA_
        have SB := SB_
        have BA := BA_
        have BB := BB_
        clear B_ SA_ SB_ BA_ BB_
        have SC := Aside0.mk ha
        clear ha
        have SD := Aside0.mk hb
        clear hb
        clear hbel
        obtain ⟨Ac, cc, ec⟩ := Kd.S_slice SC.out
        obtain ⟨Ad, cd, ed⟩ := Kd.S_slice SD.out
        subst ec ed
        by_cases hr : r3 = 0
        rotate_left
        ·
          have hne : (r3 != 0) = true := bne_iff_ne.mpr hr
          go_wp2
          go_ret
          exact ⟨rfl, by first | exact B.out | exact below_alloc (below_alloc B.out _) _⟩
        ·
          subst hr
          by_cases hs : s3 = 0
          rotate_left
          ·
            have hne : (s3 != 0) = true := bne_iff_ne.mpr hs
            go_wp2
            go_ret
            exact ⟨rfl, by first | exact B.out | exact below_alloc (below_alloc B.out _) _⟩
          ·
            subst hs
            obtain ⟨e1, hl1, hl2, hlc, h132, hall, t1, hlast⟩ := HLAW.out rfl rfl
            have e1' : r1 = s1 := e1.symm
            subst e1'
            clear HLAW e1
            have HALL := Aside0.mk hall; have HLAST := Aside0.mk hlast; have HLC := Aside0.mk hlc; have H132 := Aside0.mk h132; have HL1 := Aside0.mk hl1; have HL2 := Aside0.mk hl2
            clear hall hlast hlc h132 hl1 hl2
            have hczBA : w4.cell? ⟨w3.heap.size, 0, none⟩ = some (.slice Aa r1.length ca) := (blk_cell BA.out 0).trans rfl
            have hfzBA := blk_frozen BA.out 0
            have hltBA : w3.heap.size < w4.heap.size := blk_lt BA.out
            have hczBB : w4.cell? ⟨w3.heap.size + 1, 0, none⟩ = some (.slice Ab r2.length cb) := (blk_cell BB.out 0).trans rfl
            have hfzBB := blk_frozen BB.out 0
            have hltBB : w3.heap.size + 1 < w4.heap.size := blk_lt BB.out
            go_wp2_with fail
            refine (testamurref36_Same.calls _ Aa ca r1 Ac cc r1 true _ (S_C (Kd.S_alloc (Kd.S_alloc (SA.out) _) _)).1 (S_C SA.out).2 (S_C (Kd.S_alloc (Kd.S_alloc (SC.out) _) _)).1 (S_C SC.out).2 HT1.out).mono ?_
            rintro e w5 ⟨rfl, hd⟩
            have B_ := Aside0.mk (below_step (below_alloc (below_alloc B.out _) _) hd.below)
            have SA_ := Aside0.mk (Kd.S_below (Kd.S_alloc (Kd.S_alloc (SA.out) _) _) hd.below)
            have SB_ := Aside0.mk (Kd.S_below (Kd.S_alloc (Kd.S_alloc (SB.out) _) _) hd.below)
            have BA_ := Aside0.mk (blk_step (blk_alloc (blk_alloc (BA.out) _) _) hd.below)
            have BB_ := Aside0.mk (blk_step (blk_alloc (blk_alloc (BB.out) _) _) hd.below)
            have SC_ := Aside0.mk (Kd.S_below (Kd.S_alloc (Kd.S_alloc (SC.out) _) _) hd.below)
            have SD_ := Aside0.mk (Kd.S_below (Kd.S_alloc (Kd.S_alloc (SD.out) _) _) hd.below)
            clear B SA SB BA BB SC SD hczBA hfzBA hltBA hczBB hfzBB hltBB
            have B := B_
            have SA := SA_
            have SB := SB_
            have BA := BA_
            have BB := BB_
            have SC := SC_
            have SD := SD_
            clear B_ SA_ SB_ BA_ BB_ SC_ SD_
            clear hd
            have hczBA : w5.cell? ⟨w3.heap.size, 0, none⟩ = some (.slice Aa r1.length ca) := (blk_cell BA.out 0).trans rfl
            have hfzBA := blk_frozen BA.out 0
            have hltBA : w3.heap.size < w5.heap.size := blk_lt BA.out
            have hczBB : w5.cell? ⟨w3.heap.size + 1, 0, none⟩ = some (.slice Ab r2.length cb) := (blk_cell BB.out 0).trans rfl
            have hfzBB := blk_frozen BB.out 0
            have hltBB : w3.heap.size + 1 < w5.heap.size := blk_lt BB.out
            have hne1 : ((r1.length : Int) != a3) = false := bne_eq_false_iff_eq.mpr HL1.out
            have hne2 : ((r2.length : Int) != a3) = false := bne_eq_false_iff_eq.mpr HL2.out
            go_wp2
            have BL := B
            clear B SC SD hczBA hfzBA hltBA hczBB hfzBB hltBB
            go_loopg [87, 18] a3.toNat (fun kq v87 v18 w' => ∃ (i : Nat) (At : Option Addr) (ct : Nat), v87 = .int .i64 (i : Int) ∧ v18 = .slice At i ct ∧ Aside0 ((i : Int) + (kq : Int) = a3) ∧ Aside0 (Kd.S (Kd.slice 5 (Kd.int .u8)) 22 w' w5.heap.size (fun _ => True) (.slice At i ct) ((List.range i).map (twinAt a0 l1 l2 l4))) ∧ Aside0 (Below w5.heap.size w5 w'))
            case atStart => exact ⟨0, none, 0, rfl, rfl, ⟨by have q := HLC.out; omega⟩, ⟨Kd.S_nil _ _ _ _ _⟩, ⟨Below.refl _ _⟩⟩
            case round =>
              obtain ⟨i, At, ct, rfl, rfl, HX, HT, B⟩ := hrel
              cases gk with
              | zero =>
                have c9b0 : decide ((i : Int) < a3) = false := decide_eq_false (by have q := HX.out; omega)
                have hi : i = l4.length := by have q := HX.out; have q2 := HLC.out; omega
                have HTT : Aside0 (retrieval_Ask.f a0 l2 a3 ((List.range i).map (twinAt a0 l1 l2 l4)) = some (t1, r2, 0)) := ⟨by rw [hi]; exact HLAST.out⟩
                have HI := Aside0.mk hi
                clear hi
                have BW : Aside0 (Below W.heap.size W wr) := ⟨below_step BL.out B.out⟩
                have SBr := Aside0.mk (Kd.S_below SB.out B.out)
                have BBr := Aside0.mk (blk_below BB.out B.out)
                clear SA SB BA BB
                have SB := SBr
                have BB := BBr
                clear SBr BBr
                have hcall := retrieval_Ask.calls a0 A2 c2 l2 a3 At ct ((List.range i).map (twinAt a0 l1 l2 l4)) t1 r2 0 wr (Kd.C_below H2.out BW.out) L2.out (S_C HT.out).1 (S_C HT.out).2 HTT.out
                rw [show ((List.range i).map (twinAt a0 l1 l2 l4)).length = i from by simp] at hcall
                have HCALL := Aside0.mk hcall
                clear hcall B BL HT
                have B := BW
                clear BW
                go_wp2_with fail
                refine (HCALL.out).mono ?_
                rintro e w10 ⟨ve, vf, rfl, ha, hb, hbel⟩
                have B_ := Aside0.mk (below_step B.out hbel)
                have SB_ := Aside0.mk (Kd.S_below (SB.out) hbel)
                have BB_ := Aside0.mk (blk_step (BB.out) hbel)
                clear B SB BB
                have B := B_
                have SB := SB_
                have BB := BB_
                clear B_ SB_ BB_
                have SE := Aside0.mk ha
                clear ha
                have SF := Aside0.mk hb
                clear hb
                clear hbel
                obtain ⟨Ae, ce, ee⟩ := Kd.S_slice SE.out
                obtain ⟨Af, cf, ef⟩ := Kd.S_slice SF.out
                subst ee ef
                have hczBB : w10.cell? ⟨w3.heap.size + 1, 0, none⟩ = some (.slice Ab r2.length cb) := (blk_cell BB.out 0).trans rfl
                have hfzBB := blk_frozen BB.out 0
                have hltBB : w3.heap.size + 1 < w10.heap.size := blk_lt BB.out
                have hltB0 : w3.heap.size < w10.heap.size := by omega
                go_wp2_with fail
                refine (testamurref36_Same.calls _ Ab cb r2 Af cf r2 true _ (S_C (Kd.S_alloc (Kd.S_alloc (SB.out) _) _)).1 (S_C SB.out).2 (S_C (Kd.S_alloc (Kd.S_alloc (SF.out) _) _)).1 (S_C SF.out).2 HU1.out).mono ?_
                rintro e w11 ⟨rfl, hd⟩
                have B_ := Aside0.mk (below_step (below_alloc (below_alloc B.out _) _) hd.below)
                have SB_ := Aside0.mk (Kd.S_below (Kd.S_alloc (Kd.S_alloc (SB.out) _) _) hd.below)
                have BB_ := Aside0.mk (blk_step (blk_alloc (blk_alloc (BB.out) _) _) hd.below)
                have SE_ := Aside0.mk (Kd.S_below (Kd.S_alloc (Kd.S_alloc (SE.out) _) _) hd.below)
                have SF_ := Aside0.mk (Kd.S_below (Kd.S_alloc (Kd.S_alloc (SF.out) _) _) hd.below)
                clear B SB BB SE SF hczBB hfzBB hltBB hltB0
                have B := B_
                have SB := SB_
                have BB := BB_
                have SE := SE_
                have SF := SF_
                clear B_ SB_ BB_ SE_ SF_
                clear hd
                go_wp2
                go_ret
                exact ⟨rfl, B.out⟩
              | succ k2 =>
                have HI : Aside0 ((i : Int) < a3) := ⟨by have q := HX.out; omega⟩
                have c9b0 : decide ((i : Int) < a3) = true := decide_eq_true HI.out
                go_wp2_with fail
                obtain ⟨V, hV⟩ : ∃ V, V = wr.drew := ⟨_, rfl⟩
                have BX : Below w5.heap.size w5 V := by rw [hV]; exact below_drew B.out
                have BR : Below wr.heap.size wr V := by rw [hV]; exact below_drew (Below.refl _ _)
                have BW : Aside0 (Below W.heap.size W V) := ⟨below_step BL.out BX⟩
                obtain ⟨adc, Ai, ci, er, hr0, hlu, hCu⟩ := at_L1 (Kd.C_below H4.out BW.out) (i : Int) (by omega) (by have q := HI.out; have q2 := HLC.out; omega)
                subst er
                rw [Int.toNat_natCast] at hr0
                have p1 := eq_true (show 0 ≤ (i : Int) by omega)
                have p2 := eq_true (show (i : Int) < (l4.length : Int) by have q := HI.out; have q2 := HLC.out; omega)
                have HCu := Aside0.mk hCu
                have LU := Aside0.mk hlu
                have BXX := Aside0.mk BX
                have BRR := Aside0.mk BR
                have HTL := Aside0.mk (Kd.S_mono (Kd.S_bound HT.out) (ok' := fun k => k < wr.heap.size) (fun k hk => hk.2.2.1))
                have HC1 := Aside0.mk (Kd.C_below H1.out BW.out)
                have HC2 := Aside0.mk (Kd.C_below H2.out BW.out)
                clear hCu hlu BX BR
                refine start_ (n := 19) (S := fun W' => Below V.heap.size V W') (ds := []) #[false, false, false, false, false, false, false, false, false, false, false, false, false, false, false, false, false, false, false] (by kernel_rfl) rfl rfl (by rw [hV]; exact Below.refl _ _) (fun hHeld => ?_)
                refine with_tab hides_T16 (fun HT_ => ?_)
                rw [← hV] at hHeld ⊢
                refine pure_ (i := 0) (N := some 91) (v := ?_) (a' := ?_) #[true, false, false, false, false, false, false, false, false, false, false, false, false, false, false, false, false, false, false] rfl rfl (any_of HT_.out (by kernel_rfl)) (fun _ _ _ h => h) (Or.inl ⟨by rfl, ?_⟩) ?_ ?_
                rotate_left
                · intro w'
                  go_simp
                  with_reducible rfl
                rotate_left
                · simp only [Act.put, List.setIfInBounds_toArray, List.set_cons_zero, List.set_cons_succ, i64_w, i32_w]
                  rfl
                refine pure_ (i := 1) (N := some 92) (v := ?_) (a' := ?_) #[true, true, false, false, false, false, false, false, false, false, false, false, false, false, false, false, false, false, false] rfl rfl (any_of HT_.out (by kernel_rfl)) (fun _ _ _ h => h) (Or.inl ⟨by rfl, ?_⟩) ?_ ?_
                rotate_left
                · intro w'
                  go_simp
                  with_reducible rfl
                rotate_left
                · simp only [Act.put, List.setIfInBounds_toArray, List.set_cons_zero, List.set_cons_succ, i64_w, i32_w]
                  rfl
                refine pure_ (i := 2) (N := some 93) (v := ?_) (a' := ?_) #[true, true, true, false, false, false, false, false, false, false, false, false, false, false, false, false, false, false, false] rfl rfl (any_of HT_.out (by kernel_rfl)) (fun _ _ _ h => h) (Or.inl ⟨by rfl, ?_⟩) ?_ ?_
                rotate_left
                · intro w'
                  go_simp
                  with_reducible rfl
                rotate_left
                · simp only [Act.put, List.setIfInBounds_toArray, List.set_cons_zero, List.set_cons_succ, i64_w, i32_w]
                  rfl
                refine pure_ (i := 3) (N := some 94) (v := ?_) (a' := ?_) #[true, true, true, true, false, false, false, false, false, false, false, false, false, false, false, false, false, false, false] rfl rfl (any_of HT_.out (by kernel_rfl)) (fun _ _ _ h => h) (Or.inl ⟨by rfl, ?_⟩) ?_ ?_
                rotate_left
                · intro w'
                  go_simp
                  with_reducible rfl
                rotate_left
                · simp only [Act.put, List.setIfInBounds_toArray, List.set_cons_zero, List.set_cons_succ, i64_w, i32_w]
                  rfl
                refine pure_ (i := 5) (N := some 96) (v := ?_) (a' := ?_) #[true, true, true, true, false, true, false, false, false, false, false, false, false, false, false, false, false, false, false] rfl rfl (any_of HT_.out (by kernel_rfl)) (fun _ _ _ h => h) (Or.inl ⟨by rfl, ?_⟩) ?_ ?_
                rotate_left
                · intro w'
                  go_simp
                  with_reducible rfl
                rotate_left
                · simp only [Act.put, List.setIfInBounds_toArray, List.set_cons_zero, List.set_cons_succ, i64_w, i32_w]
                  rfl
                refine pure_ (i := 6) (N := some 97) (v := ?_) (a' := ?_) #[true, true, true, true, false, true, true, false, false, false, false, false, false, false, false, false, false, false, false] rfl rfl (any_of HT_.out (by kernel_rfl)) (fun _ _ _ h => h) (Or.inl ⟨by rfl, ?_⟩) ?_ ?_
                rotate_left
                · intro w'
                  go_simp
                  with_reducible rfl
                rotate_left
                · simp only [Act.put, List.setIfInBounds_toArray, List.set_cons_zero, List.set_cons_succ, i64_w, i32_w]
                  rfl
                refine pure_ (i := 7) (N := some 98) (v := ?_) (a' := ?_) #[true, true, true, true, false, true, true, true, false, false, false, false, false, false, false, false, false, false, false] rfl rfl (any_of HT_.out (by kernel_rfl)) (fun _ _ _ h => h) (Or.inl ⟨by rfl, ?_⟩) ?_ ?_
                rotate_left
                · intro w'
                  go_simp
                  with_reducible rfl
                rotate_left
                · simp only [Act.put, List.setIfInBounds_toArray, List.set_cons_zero, List.set_cons_succ, i64_w, i32_w]
                  rfl
                refine pure_ (i := 9) (N := some 100) (v := ?_) (a' := ?_) #[true, true, true, true, false, true, true, true, false, true, false, false, false, false, false, false, false, false, false] rfl rfl (any_of HT_.out (by kernel_rfl)) (fun _ _ _ h => h) (Or.inl ⟨by rfl, ?_⟩) ?_ ?_
                rotate_left
                · intro w'
                  go_simp
                  with_reducible rfl
                rotate_left
                · simp only [Act.put, List.setIfInBounds_toArray, List.set_cons_zero, List.set_cons_succ, i64_w, i32_w]
                  rfl
                refine pure_ (i := 10) (N := some 101) (v := ?_) (a' := ?_) #[true, true, true, true, false, true, true, true, false, true, true, false, false, false, false, false, false, false, false] rfl rfl (any_of HT_.out (by kernel_rfl)) (fun _ _ _ h => h) (Or.inl ⟨by rfl, ?_⟩) ?_ ?_
                rotate_left
                · intro w'
                  go_simp
                  with_reducible rfl
                rotate_left
                · simp only [Act.put, List.setIfInBounds_toArray, List.set_cons_zero, List.set_cons_succ, i64_w, i32_w]
                  rfl
                refine pure_ (i := 11) (N := some 102) (v := ?_) (a' := ?_) #[true, true, true, true, false, true, true, true, false, true, true, true, false, false, false, false, false, false, false] rfl rfl (any_of HT_.out (by kernel_rfl)) (fun _ _ _ h => h) (Or.inl ⟨by rfl, ?_⟩) ?_ ?_
                rotate_left
                · intro w'
                  go_simp
                  with_reducible rfl
                rotate_left
                · simp only [Act.put, List.setIfInBounds_toArray, List.set_cons_zero, List.set_cons_succ, i64_w, i32_w]
                  rfl
                refine take_ (i := 12) (N := some 103) (v := ?_) (a' := ?_) #[true, true, true, true, false, true, true, true, false, true, true, true, true, false, false, false, false, false, false] rfl rfl (take_of HT_.out (by kernel_rfl)) (fun _ _ _ h => h) (Or.inl ⟨by rfl, ?_⟩) hHeld ?_ ?_
                rotate_left
                · intro w' s0
                  have hx : w'.cell? (adc.add i) = some (.slice Ai (rd_L1 l4 (i : Int)).length ci) := (s0.cell (World.block_lt_of_cell? V _ hr0)).trans hr0
                  go_simp
                  with_reducible rfl
                rotate_left
                · simp only [Act.put, List.setIfInBounds_toArray, List.set_cons_zero, List.set_cons_succ, i64_w, i32_w]
                  rfl
                refine one_ (i := 4) (N := some 95) #[true, true, true, true, true, true, true, true, false, true, true, true, true, false, false, false, false, false, false] rfl rfl (one_of HT_.out (by kernel_rfl)) (by decide) (fun K hK => ?_)
                refine goesV_ Try.func22 (by kernel_rfl) rfl #[.slice A1 l1.length c1, .int .i64 (i : Int)] (by rfl) rfl rfl (by rfl) (by (try simp only [List.map_toArray, List.map_cons, List.map_nil]); first | done | rfl) ?_
                refine (hidesBlock_calls V A1 c1 l1 i HC1.out).mono ?_
                rintro e V_ ⟨rfl, hVV⟩
                rw [hVV]
                clear hVV V_
                refine ⟨_, rfl, ?_⟩
                refine hK.out _ _ (Below.refl _ _) (fun hHeld => ?_)
                clear hK K
                refine norm_ (a' := ?_) ?_ ?_
                rotate_left
                · show Act.put _ (some 95) _ = _
                  simp only [Act.put, List.setIfInBounds_toArray, List.set_cons_zero, List.set_cons_succ, i64_w, i32_w]
                  rfl
                refine one_ (i := 8) (N := some 99) #[true, true, true, true, true, true, true, true, true, true, true, true, true, false, false, false, false, false, false] rfl rfl (one_of HT_.out (by kernel_rfl)) (by decide) (fun K hK => ?_)
                refine goesV_ Try.func22 (by kernel_rfl) rfl #[.slice A2 l2.length c2, .int .i64 (i : Int)] (by rfl) rfl rfl (by rfl) (by (try simp only [List.map_toArray, List.map_cons, List.map_nil]); first | done | rfl) ?_
                refine (hidesBlock_calls V A2 c2 l2 i HC2.out).mono ?_
                rintro e V_ ⟨rfl, hVV⟩
                rw [hVV]
                clear hVV V_
                refine ⟨_, rfl, ?_⟩
                refine hK.out _ _ (Below.refl _ _) (fun hHeld => ?_)
                clear hK K
                refine norm_ (a' := ?_) ?_ ?_
                rotate_left
                · show Act.put _ (some 99) _ = _
                  simp only [Act.put, List.setIfInBounds_toArray, List.set_cons_zero, List.set_cons_succ, i64_w, i32_w]
                  rfl
                refine one_ (i := 13) (N := some 104) #[true, true, true, true, true, true, true, true, true, true, true, true, true, true, false, false, false, false, false] rfl rfl (one_of HT_.out (by kernel_rfl)) (by decide) (fun K hK => ?_)
                refine goes_ Try.func12 (by kernel_rfl) rfl #[.int .i64 a0, .int .i64 (askN l1 i), .int .i64 (askN l2 i), .slice Ai (rd_L1 l4 (i : Int)).length ci] (by rfl) rfl rfl (by (try simp only [List.map_toArray, List.map_cons, List.map_nil]); first | done | rfl) ?_
                refine (retrieval_Twin.calls 2 a0 (askN l1 i) (askN l2 i) Ai ci (rd_L1 l4 (i : Int)) (twinAt a0 l1 l2 l4 i) 0 V HCu.out LU.out ((HALL.out i HI.out).2 0).1).mono ?_
                rintro e V2 ⟨vx, rfl, hy, hbel⟩
                refine ⟨_, rfl, ?_⟩
                have HY := Aside0.mk hy
                have B2 := Aside0.mk hbel
                clear hy hbel
                refine hK.out _ _ (B2.out) (fun hHeld => ?_)
                clear hK K
                refine norm_ (a' := ?_) ?_ ?_
                rotate_left
                · show Act.put _ (some 104) _ = _
                  simp only [Act.put, List.setIfInBounds_toArray, List.set_cons_zero, List.set_cons_succ, i64_w, i32_w]
                  rfl
                refine pure_ (i := 14) (N := some 90) (v := ?_) (a' := ?_) #[true, true, true, true, true, true, true, true, true, true, true, true, true, true, true, false, false, false, false] rfl rfl (any_of HT_.out (by kernel_rfl)) (fun _ _ _ h => h) (Or.inl ⟨by rfl, ?_⟩) ?_ ?_
                rotate_left
                · intro w'
                  go_simp
                  with_reducible rfl
                rotate_left
                · simp only [Act.put, List.setIfInBounds_toArray, List.set_cons_zero, List.set_cons_succ, i64_w, i32_w]
                  rfl
                refine pure_ (i := 15) (N := some 105) (v := ?_) (a' := ?_) #[true, true, true, true, true, true, true, true, true, true, true, true, true, true, true, true, false, false, false] rfl rfl (any_of HT_.out (by kernel_rfl)) (fun _ _ _ h => h) (Or.inl ⟨by rfl, ?_⟩) ?_ ?_
                rotate_left
                · intro w'
                  go_simp
                  with_reducible rfl
                rotate_left
                · simp only [Act.put, List.setIfInBounds_toArray, List.set_cons_zero, List.set_cons_succ, i64_w, i32_w]
                  rfl
                refine pure_ (i := 16) (N := some 106) (v := ?_) (a' := ?_) #[true, true, true, true, true, true, true, true, true, true, true, true, true, true, true, true, true, false, false] rfl rfl (any_of HT_.out (by kernel_rfl)) (fun _ _ _ h => h) (Or.inl ⟨by rfl, ?_⟩) ?_ ?_
                rotate_left
                · intro w'
                  go_simp
                  with_reducible rfl
                rotate_left
                · simp only [Act.put, List.setIfInBounds_toArray, List.set_cons_zero, List.set_cons_succ, i64_w, i32_w]
                  rfl
                refine pure_ (i := 17) (N := some 20) (v := ?_) (a' := ?_) #[true, true, true, true, true, true, true, true, true, true, true, true, true, true, true, true, true, true, false] rfl rfl (any_of HT_.out (by kernel_rfl)) (fun _ _ _ h => h) (Or.inl ⟨by rfl, ?_⟩) ?_ ?_
                rotate_left
                · intro w'
                  go_simp
                  with_reducible rfl
                rotate_left
                · simp only [Act.put, List.setIfInBounds_toArray, List.set_cons_zero, List.set_cons_succ, i64_w, i32_w]
                  rfl
                refine pure_ (i := 18) (N := some 21) (v := ?_) (a' := ?_) #[true, true, true, true, true, true, true, true, true, true, true, true, true, true, true, true, true, true, true] rfl rfl (any_of HT_.out (by kernel_rfl)) (fun _ _ _ h => h) (Or.inl ⟨by rfl, ?_⟩) ?_ ?_
                rotate_left
                · intro w'
                  go_simp
                  with_reducible rfl
                rotate_left
                · simp only [Act.put, List.setIfInBounds_toArray, List.set_cons_zero, List.set_cons_succ, i64_w, i32_w]
                  rfl
                refine done_ (done_of HT_.out (by kernel_rfl)) ?_
                obtain ⟨Ax, cx, ex⟩ := Kd.R_slice HY.out
                subst ex
                have BV2 : Aside0 (Below W.heap.size W V2) := ⟨below_step BW.out B2.out⟩
                clear hV
                go_wp2_with fail
                refine (hidesBlock_calls V2 A2 c2 l2 i (Kd.C_below H2.out BV2.out)).mono ?_
                rintro e V_ ⟨rfl, hVV⟩
                rw [hVV]
                clear hVV V_
                go_wp2_with fail
                refine (hidesBlock_calls V2 A1 c1 l1 i (Kd.C_below H1.out BV2.out)).mono ?_
                rintro e V_ ⟨rfl, hVV⟩
                rw [hVV]
                clear hVV V_
                go_wp2_with fail
                refine (retrieval_Twin.calls 2 a0 (askN l2 i) (askN l1 i) Ax cx (twinAt a0 l1 l2 l4 i) (rd_L1 r1 (i : Int)) 0 V2 (R_C HY.out).1 (R_C HY.out).2 ((HALL.out i HI.out).2 0).2).mono ?_
                rintro e V3 ⟨vy, rfl, hy2, hbel3⟩
                obtain ⟨Ay, cy, ey⟩ := Kd.R_slice hy2
                subst ey
                go_wp2_with fail
                obtain ⟨Z, hZ⟩ : ∃ Z, Z = V3.drew := ⟨_, rfl⟩
                have B3Z : Below V2.heap.size V2 Z := by rw [hZ]; exact below_drew hbel3
                have B3ZZ : Below V3.heap.size V3 Z := by rw [hZ]; exact below_drew (Below.refl _ _)
                have BVZ : Aside0 (Below V.heap.size V Z) := ⟨below_step B2.out B3Z⟩
                have BRZ : Aside0 (Below wr.heap.size wr Z) := ⟨below_step BRR.out BVZ.out⟩
                have BLZ : Aside0 (Below w5.heap.size w5 Z) := ⟨below_step BXX.out BVZ.out⟩
                have HCy : Aside0 (Kd.C (Kd.int .u8) Z Ay (rd_L1 r1 (i : Int)).length (rd_L1 r1 (i : Int))) := ⟨Kd.C_below (R_C hy2).1 B3ZZ⟩
                have SAz := Aside0.mk (Kd.S_below SA.out BLZ.out)
                have BAz := Aside0.mk (blk_below BA.out BLZ.out)
                have hRX := Kd.R_below HY.out B3Z
                have hRX2 := Kd.R_lower (Kd.R_mono (Kd.R_bound HY.out) (ok' := fun k => V.heap.size ≤ k) (fun k hk => hk.2.1)) BXX.out.size
                have HRX : Aside0 (Kd.R (Kd.int .u8) 5 Z w5.heap.size (fun k => V.heap.size ≤ k) (.slice Ax (twinAt a0 l1 l2 l4 i).length cx) (twinAt a0 l1 l2 l4 i)) := ⟨Kd.R_below hRX2 B3Z⟩
                have HTZ : Aside0 (Kd.S (Kd.slice 5 (Kd.int .u8)) 22 Z w5.heap.size (fun k => True ∧ ¬ V.heap.size ≤ k) (.slice At i ct) ((List.range i).map (twinAt a0 l1 l2 l4))) := ⟨Kd.S_mono (Kd.S_below HTL.out BRZ.out) (fun k hk => ⟨trivial, by have := BRR.out.size; omega⟩)⟩
                have HKP : Aside0 (∀ k, V.heap.size ≤ k → True ∧ some k ≠ (Value.slice At i ct).ownBlock) := ⟨fun k hk => ⟨trivial, fun e => by have q := S_lt HT.out k e.symm; have q2 := BRR.out.size; omega⟩⟩
                have HR1L : Aside0 ((i : Int) < (r1.length : Int)) := ⟨by have q := HI.out; have q2 := HL1.out; omega⟩
                obtain ⟨adr, Ar, cr, er2, hr1, hlr, hCr⟩ := at_L1 (S_C SAz.out).1 (i : Int) (by omega) HR1L.out
                subst er2
                rw [Int.toNat_natCast] at hr1
                have p3 := eq_true (show (i : Int) < (r1.length : Int) from HR1L.out)
                have HCr := Aside0.mk hCr
                have HL20 : Aside0 (i ≤ 132) := ⟨by have q := HI.out; have q2 := H132.out; have q3 := HLC.out; omega⟩
                clear hy2 hbel3 B3Z B3ZZ hRX hRX2 hCr hlr HTL SA BA HY B2 BRR BXX hr0 p2 HCu LU HC1 HC2 BV2 HT
                refine start_ (n := 17) (S := fun W' => Below Z.heap.size Z W') (ds := []) #[false, false, false, false, false, false, false, false, false, false, false, false, false, false, false, false, false] (by kernel_rfl) rfl rfl (by rw [hZ]; exact Below.refl _ _) (fun hHeld => ?_)
                refine with_tab hides_T18 (fun HT_ => ?_)
                rw [← hZ] at hHeld ⊢
                clear hZ
                refine pure_ (i := 0) (N := some 121) (v := ?_) (a' := ?_) #[true, false, false, false, false, false, false, false, false, false, false, false, false, false, false, false, false] rfl rfl (any_of HT_.out (by kernel_rfl)) (fun _ _ _ h => h) (Or.inl ⟨by rfl, ?_⟩) ?_ ?_
                rotate_left
                · intro w'
                  go_simp
                  with_reducible rfl
                rotate_left
                · simp only [Act.put, List.setIfInBounds_toArray, List.set_cons_zero, List.set_cons_succ, i64_w, i32_w]
                  rfl
                refine pure_ (i := 1) (N := some 122) (v := ?_) (a' := ?_) #[true, true, false, false, false, false, false, false, false, false, false, false, false, false, false, false, false] rfl rfl (any_of HT_.out (by kernel_rfl)) (fun _ _ _ h => h) (Or.inl ⟨by rfl, ?_⟩) ?_ ?_
                rotate_left
                · intro w'
                  go_simp
                  with_reducible rfl
                rotate_left
                · simp only [Act.put, List.setIfInBounds_toArray, List.set_cons_zero, List.set_cons_succ, i64_w, i32_w]
                  rfl
                refine pure_ (i := 2) (N := some 123) (v := ?_) (a' := ?_) #[true, true, true, false, false, false, false, false, false, false, false, false, false, false, false, false, false] rfl rfl (any_of HT_.out (by kernel_rfl)) (fun _ _ _ h => h) (Or.inl ⟨by rfl, ?_⟩) ?_ ?_
                rotate_left
                · intro w'
                  go_simp
                  with_reducible rfl
                rotate_left
                · simp only [Act.put, List.setIfInBounds_toArray, List.set_cons_zero, List.set_cons_succ, i64_w, i32_w]
                  rfl
                refine pure_ (i := 3) (N := some 124) (v := ?_) (a' := ?_) #[true, true, true, true, false, false, false, false, false, false, false, false, false, false, false, false, false] rfl rfl (any_of HT_.out (by kernel_rfl)) (fun _ _ _ h => h) (Or.inl ⟨by rfl, ?_⟩) ?_ ?_
                rotate_left
                · intro w'
                  go_simp
                  with_reducible rfl
                rotate_left
                · simp only [Act.put, List.setIfInBounds_toArray, List.set_cons_zero, List.set_cons_succ, i64_w, i32_w]
                  rfl
                refine pure_ (i := 4) (N := some 125) (v := ?_) (a' := ?_) #[true, true, true, true, true, false, false, false, false, false, false, false, false, false, false, false, false] rfl rfl (any_of HT_.out (by kernel_rfl)) (fun _ _ _ h => h) (Or.inl ⟨by rfl, ?_⟩) ?_ ?_
                rotate_left
                · intro w'
                  go_simp
                  with_reducible rfl
                rotate_left
                · simp only [Act.put, List.setIfInBounds_toArray, List.set_cons_zero, List.set_cons_succ, i64_w, i32_w]
                  rfl
                refine pure_ (i := 5) (N := some 126) (v := ?_) (a' := ?_) #[true, true, true, true, true, true, false, false, false, false, false, false, false, false, false, false, false] rfl rfl (any_of HT_.out (by kernel_rfl)) (fun _ _ _ h => h) (Or.inl ⟨by rfl, ?_⟩) ?_ ?_
                rotate_left
                · intro w'
                  go_simp
                  with_reducible rfl
                rotate_left
                · simp only [Act.put, List.setIfInBounds_toArray, List.set_cons_zero, List.set_cons_succ, i64_w, i32_w]
                  rfl
                refine pure_ (i := 6) (N := some 127) (v := ?_) (a' := ?_) #[true, true, true, true, true, true, true, false, false, false, false, false, false, false, false, false, false] rfl rfl (any_of HT_.out (by kernel_rfl)) (fun _ _ _ h => h) (Or.inl ⟨by rfl, ?_⟩) ?_ ?_
                rotate_left
                · intro w'
                  go_simp
                  with_reducible rfl
                rotate_left
                · simp only [Act.put, List.setIfInBounds_toArray, List.set_cons_zero, List.set_cons_succ, i64_w, i32_w]
                  rfl
                refine pure_ (i := 7) (N := some 128) (v := ?_) (a' := ?_) #[true, true, true, true, true, true, true, true, false, false, false, false, false, false, false, false, false] rfl rfl (any_of HT_.out (by kernel_rfl)) (fun _ _ _ h => h) (Or.inl ⟨by rfl, ?_⟩) ?_ ?_
                rotate_left
                · intro w'
                  go_simp
                  with_reducible rfl
                rotate_left
                · simp only [Act.put, List.setIfInBounds_toArray, List.set_cons_zero, List.set_cons_succ, i64_w, i32_w]
                  rfl
                refine take_ (i := 8) (N := some 129) (v := ?_) (a' := ?_) #[true, true, true, true, true, true, true, true, true, false, false, false, false, false, false, false, false] rfl rfl (take_of HT_.out (by kernel_rfl)) (fun _ _ _ h => h) (Or.inl ⟨by rfl, ?_⟩) hHeld ?_ ?_
                rotate_left
                · intro w' s0
                  have hcv : (convert 22 9 (.slice Ay (rd_L1 r1 (i : Int)).length cy)).run Try.prog w' = .ok (.string (strOfNums (rd_L1 r1 (i : Int)))) w' := Kd.C_string Try.underlying22 Try.underlying5 Try.underlying9 (Kd.C_below HCy.out s0)
                  go_simp
                  with_reducible rfl
                rotate_left
                · simp only [Act.put, List.setIfInBounds_toArray, List.set_cons_zero, List.set_cons_succ, i64_w, i32_w]
                  rfl
                refine pure_ (i := 9) (N := some 130) (v := ?_) (a' := ?_) #[true, true, true, true, true, true, true, true, true, true, false, false, false, false, false, false, false] rfl rfl (any_of HT_.out (by kernel_rfl)) (fun _ _ _ h => h) (Or.inl ⟨by rfl, ?_⟩) ?_ ?_
                rotate_left
                · intro w'
                  go_simp
                  with_reducible rfl
                rotate_left
                · simp only [Act.put, List.setIfInBounds_toArray, List.set_cons_zero, List.set_cons_succ, i64_w, i32_w]
                  rfl
                refine take_ (i := 10) (N := some 131) (v := ?_) (a' := ?_) #[true, true, true, true, true, true, true, true, true, true, true, false, false, false, false, false, false] rfl rfl (take_of HT_.out (by kernel_rfl)) (fun _ _ _ h => h) (Or.inl ⟨by rfl, ?_⟩) hHeld ?_ ?_
                rotate_left
                · intro w' s0
                  have hx : w'.cell? ⟨w3.heap.size, 0, none⟩ = some (.slice (some adr) r1.length ca) := (blk_cell (blk_below BAz.out s0) 0).trans rfl
                  go_simp
                  with_reducible rfl
                rotate_left
                · simp only [Act.put, List.setIfInBounds_toArray, List.set_cons_zero, List.set_cons_succ, i64_w, i32_w]
                  rfl
                refine pure_ (i := 11) (N := some 132) (v := ?_) (a' := ?_) #[true, true, true, true, true, true, true, true, true, true, true, true, false, false, false, false, false] rfl rfl (any_of HT_.out (by kernel_rfl)) (fun _ _ _ h => h) (Or.inl ⟨by rfl, ?_⟩) ?_ ?_
                rotate_left
                · intro w'
                  go_simp
                  with_reducible rfl
                rotate_left
                · simp only [Act.put, List.setIfInBounds_toArray, List.set_cons_zero, List.set_cons_succ, i64_w, i32_w]
                  rfl
                refine pure_ (i := 12) (N := some 133) (v := ?_) (a' := ?_) #[true, true, true, true, true, true, true, true, true, true, true, true, true, false, false, false, false] rfl rfl (any_of HT_.out (by kernel_rfl)) (fun _ _ _ h => h) (Or.inl ⟨by rfl, ?_⟩) ?_ ?_
                rotate_left
                · intro w'
                  go_simp
                  with_reducible rfl
                rotate_left
                · simp only [Act.put, List.setIfInBounds_toArray, List.set_cons_zero, List.set_cons_succ, i64_w, i32_w]
                  rfl
                refine take_ (i := 13) (N := some 134) (v := ?_) (a' := ?_) #[true, true, true, true, true, true, true, true, true, true, true, true, true, true, false, false, false] rfl rfl (take_of HT_.out (by kernel_rfl)) (fun _ _ _ h => h) (Or.inl ⟨by rfl, ?_⟩) hHeld ?_ ?_
                rotate_left
                · intro w' s0
                  have hx : w'.cell? (adr.add i) = some (.slice Ar (rd_L1 r1 (i : Int)).length cr) := (s0.cell (World.block_lt_of_cell? Z _ hr1)).trans hr1
                  go_simp
                  with_reducible rfl
                rotate_left
                · simp only [Act.put, List.setIfInBounds_toArray, List.set_cons_zero, List.set_cons_succ, i64_w, i32_w]
                  rfl
                refine take_ (i := 14) (N := some 135) (v := ?_) (a' := ?_) #[true, true, true, true, true, true, true, true, true, true, true, true, true, true, true, false, false] rfl rfl (take_of HT_.out (by kernel_rfl)) (fun _ _ _ h => h) (Or.inl ⟨by rfl, ?_⟩) hHeld ?_ ?_
                rotate_left
                · intro w' s0
                  have hcv : (convert 22 9 (.slice Ar (rd_L1 r1 (i : Int)).length cr)).run Try.prog w' = .ok (.string (strOfNums (rd_L1 r1 (i : Int)))) w' := Kd.C_string Try.underlying22 Try.underlying5 Try.underlying9 (Kd.C_below HCr.out s0)
                  go_simp
                  with_reducible rfl
                rotate_left
                · simp only [Act.put, List.setIfInBounds_toArray, List.set_cons_zero, List.set_cons_succ, i64_w, i32_w]
                  rfl
                refine pure_ (i := 15) (N := some 136) (v := ?_) (a' := ?_) #[true, true, true, true, true, true, true, true, true, true, true, true, true, true, true, true, false] rfl rfl (any_of HT_.out (by kernel_rfl)) (fun _ _ _ h => h) (Or.inl ⟨by rfl, ?_⟩) ?_ ?_
                rotate_left
                · intro w'
                  go_simp
                  with_reducible rfl
                rotate_left
                · simp only [Act.put, List.setIfInBounds_toArray, List.set_cons_zero, List.set_cons_succ, i64_w, i32_w]
                  rfl
                refine pure_ (i := 16) (N := some 137) (v := ?_) (a' := ?_) #[true, true, true, true, true, true, true, true, true, true, true, true, true, true, true, true, true] rfl rfl (any_of HT_.out (by kernel_rfl)) (fun _ _ _ h => h) (Or.inl ⟨by rfl, ?_⟩) ?_ ?_
                rotate_left
                · intro w'
                  go_simp
                  with_reducible rfl
                rotate_left
                · simp only [Act.put, List.setIfInBounds_toArray, List.set_cons_zero, List.set_cons_succ, i64_w, i32_w]
                  rfl
                refine done_ (done_of HT_.out (by kernel_rfl)) ?_
                have haP := Aside0.mk (Kd.M_row HRX.out)
                have haL : Aside0 ((((List.range i).map (twinAt a0 l1 l2 l4)).length + 1) * 24 ≤ 140737488355328) := ⟨by have q := HL20.out; simp; omega⟩
                have HTK : Aside0 (((List.range i).map (twinAt a0 l1 l2 l4)) ++ [twinAt a0 l1 l2 l4 i] = (List.range (i + 1)).map (twinAt a0 l1 l2 l4)) := ⟨by rw [List.range_succ, List.map_append, List.map_cons, List.map_nil]⟩
                clear hHeld
                go_wp2_with (at_builtin; refine Kd.S_append (Kd.slice 5 (Kd.int .u8)) (w0 := w5) w5.heap.size rfl (.tmp 138) (.tmp 140) 30 22 (.slice none 0 0) 24 rfl Try.underlying30 info22 rfl (by decide) (by omega) (.slice At i ct) ((List.range i).map (twinAt a0 l1 l2 l4)) (twinAt a0 l1 l2 l4 i) [.slice Ax (twinAt a0 l1 l2 l4 i).length cx] (fun _ => True) (fun k_ => V.heap.size ≤ k_) rfl rfl haP.out HKP.out (fun _ _ => trivial) HTZ.out BLZ.out BLZ.out.size haL.out ?_; intro v5 w6 ho5 hb5 hg5 hat5; rw [HTK.out] at ho5; obtain ⟨A5, c5, e5⟩ := Kd.S_slice ho5; rw [List.length_map, List.length_range] at e5; subst e5; have HO5 := Aside0.mk ho5; have HB5 := Aside0.mk hb5; clear ho5 hb5 hg5 hat5)
                go_roundg k2
                case measure => omega
                case rel => exact ⟨i + 1, A5, c5, (by have q := HL20.out; congr 1; unfold wrap64; omega), rfl, ⟨by have q := HX.out; omega⟩, HO5, HB5⟩
end Go.Proofs.Ytekpbncljaeemaa.Q
