/- the law's examples: sane -/
import Derived.Test.YtgiofinekmaceaaDoorFp
namespace Go.Proofs.YtgiofinekmaceaaDoor.Q
open Go.RowKit Go.Shelf Go.Proofs.YtgiofinekmaceaaDoorW.PrintWords Go.Proofs.YtgiofinekmaceaaDoorW.PrintLast Go.Proofs.YtgiofinekmaceaaDoorW.PrintMore
set_option linter.unusedVariables false
set_option linter.unusedSimpArgs false
def fiveD : List Int := 5 :: List.replicate 31 0
theorem fiveD_length : fiveD.length = 32 := by simp [fiveD]
theorem zeros9 : zerosN 9 = [0, 0] := by decide
theorem bytes00 : Bytes [0, 0] := fun x hx => by
  have : x = 0 := by simpa using hx
  omega
theorem bytes02 : Bytes [0, 2] := fun x hx => by
  have : x = 0 ∨ x = 2 := by simpa using hx
  omega
theorem okF00 : okF 0 9 [0, 0] = true := by decide
theorem okI00 : okI 0 9 [0, 0] 3 = true := by decide
theorem okI01 : okI 0 9 [0, 0] 1024 = false := by decide
theorem e00 : filterE 0 9 [0, 0] = 0 := by decide
theorem e02 : filterE 0 9 [0, 2] = 330 := by decide
theorem e33 : filterE 0 0 [] = 330 := by decide
theorem okB09 : okB 0 9 = true := by decide
theorem okB168 : okB 16 8 = false := by decide
theorem okB07 : okB 0 7 = false := by decide
theorem okB4097 : okB 0 4097 = false := by decide
theorem rd00 (i : Int) : rd [0, 0] i = 0 := by
  unfold rd
  have : i.toNat = 0 ∨ i.toNat = 1 ∨ 2 ≤ i.toNat := by omega
  rcases this with h | h | h
  · rw [h]; rfl
  · rw [h]; rfl
  · rw [List.getD, List.getElem?_eq_none (by simpa using h)]; rfl
theorem bitAt00 (k : Int) : bitAt [0, 0] k = false := by
  unfold bitAt
  rw [rd00, Int.zero_ediv]
  decide
theorem hasD00 (s : List Int) (id : Int) : hasD s 0 9 id [0, 0] = false := by
  unfold hasD
  rw [bitAt00]
  rfl
/-- a filter stored into a new block -/
theorem new_row (W : World) (fc : Array Value) : ∃ W' : World, W' = (W.alloc (.cells zeroF 26)).setRow W.heap.size fc ∧ W'.heap[W.heap.size]? = some (.cells fc 26 (0, 0)) ∧ Below W.heap.size W W' :=
  ⟨_, rfl, setRow_heap _ _ _ _ _ _ (heap_alloc_new W (.cells zeroF 26)), below_setRow (below_alloc (Below.refl _ _) _) (Nat.le_refl _) _⟩
set_option maxRecDepth 20000 in
set_option maxHeartbeats 4000000 in
theorem sane_calls (w : World) (hT : Tabs w) :
    Calls Tryd.prog 9 #[] w fun e w' => e = .returned (.bool true) ∧ Below w.heap.size w w' := by
  have HT := Aside0.mk hT
  clear hT
  have HA1 := Aside0.mk (heap_alloc_new w (.cells #[.int .u8 0, .int .u8 0, .int .u8 0, .int .u8 0, .int .u8 0, .int .u8 0, .int .u8 0, .int .u8 0, .int .u8 0, .int .u8 0, .int .u8 0, .int .u8 0, .int .u8 0, .int .u8 0, .int .u8 0, .int .u8 0, .int .u8 0, .int .u8 0, .int .u8 0, .int .u8 0, .int .u8 0, .int .u8 0, .int .u8 0, .int .u8 0, .int .u8 0, .int .u8 0, .int .u8 0, .int .u8 0, .int .u8 0, .int .u8 0, .int .u8 0, .int .u8 0] 23))
  have HS1 := Aside0.mk (size32 fiveD fiveD_length)
  obtain ⟨w1, hw1⟩ : ∃ z, z = (w.alloc (.cells #[.int .u8 0, .int .u8 0, .int .u8 0, .int .u8 0, .int .u8 0, .int .u8 0, .int .u8 0, .int .u8 0, .int .u8 0, .int .u8 0, .int .u8 0, .int .u8 0, .int .u8 0, .int .u8 0, .int .u8 0, .int .u8 0, .int .u8 0, .int .u8 0, .int .u8 0, .int .u8 0, .int .u8 0, .int .u8 0, .int .u8 0, .int .u8 0, .int .u8 0, .int .u8 0, .int .u8 0, .int .u8 0, .int .u8 0, .int .u8 0, .int .u8 0, .int .u8 0] 23)).setRow w.heap.size (cells8 fiveD) := ⟨_, rfl⟩
  have S1 : Aside0 (w1.heap[w.heap.size]? = some (.cells (cells8 fiveD) 23 (0, 0))) := ⟨by rw [hw1]; exact setRow_heap _ _ _ _ _ _ HA1.out⟩
  have B1 : Aside0 (Below w.heap.size w w1) := ⟨by rw [hw1]; exact below_setRow (below_alloc (Below.refl _ _) _) (Nat.le_refl _) _⟩
  have HW1 := Aside0.mk hw1
  clear hw1
  go_enter Tryd.func9, Tryd.ntmps9
  go_wp2_with (first
    | (with_reducible refine wpList_buildTo rfl 23 #[(0, .const (.int .u8 5))] rfl (some 21) rfl (cells8 fiveD) (by kernel_rfl) ?_)
    | (with_reducible refine wpList_store_row rfl 23 (.tmp 1) (.tmp 21) rfl w.heap.size (cells8 fiveD) rfl rfl 23 #[.int .u8 0, .int .u8 0, .int .u8 0, .int .u8 0, .int .u8 0, .int .u8 0, .int .u8 0, .int .u8 0, .int .u8 0, .int .u8 0, .int .u8 0, .int .u8 0, .int .u8 0, .int .u8 0, .int .u8 0, .int .u8 0, .int .u8 0, .int .u8 0, .int .u8 0, .int .u8 0, .int .u8 0, .int .u8 0, .int .u8 0, .int .u8 0, .int .u8 0, .int .u8 0, .int .u8 0, .int .u8 0, .int .u8 0, .int .u8 0, .int .u8 0, .int .u8 0] HA1.out HS1.out rfl (all_one8 _) ?_; rw [← HW1.out]))
  refine (New_ok 0 9 okB09 w1).mono ?_
  rintro e ua ⟨v, rfl, hR, hb⟩
  have Sa := Aside0.mk (blk_of_below S1.out hb)
  have Ba : Aside0 (Below w.heap.size w ua) := ⟨B1.out.trans (hb.mono B1.out.size)⟩
  clear S1 B1
  rw [zeros9] at hR
  obtain ⟨A1, c1, n1, rfl, hC, hc⟩ := R_any hR
  have hn1 : n1 = 2 := by rw [← Kd.C_len hC]; rfl
  subst hn1
  have Ca := Aside0.mk hC
  have HC1 := Aside0.mk hc
  clear hR hb hC hc
  rw [show (#[.int .i64 0, .int .i64 9, .slice A1 2 c1] : Array Value) = fcells 0 9 A1 2 c1 from rfl]
  obtain ⟨f, hf⟩ : ∃ z, z = fcells 0 9 A1 2 c1 := ⟨_, rfl⟩
  rw [← hf]
  have Zf : Aside0 ((Tryd.prog.info? 26).map (·.size) = some f.size) := ⟨by rw [hf]; exact sizeF _ _ _ _ _⟩
  have Of : Aside0 (f.all (·.oneCell') = true) := ⟨by rw [hf]; exact oneF _ _ _ _ _⟩
  have Qf : Aside0 (zeroF.size = f.size) := ⟨by rw [hf]; rfl⟩
  have Ef := Aside0.mk hf
  clear hf
  obtain ⟨w2, hw, hx, hb⟩ := new_row ua f
  have HN2 := Aside0.mk (heap_alloc_new ua (.cells zeroF 26))
  have HW2 := Aside0.mk hw
  have S2 := Aside0.mk (blk_of_below Sa.out hb)
  have C2 := Aside0.mk (Kd.C_below Ca.out hb)
  have B2 : Aside0 (Below w.heap.size w w2) := ⟨Ba.out.trans (hb.mono Ba.out.size)⟩
  clear Sa Ca Ba
  have Kf2 := Aside0.mk hx
  clear hw hx hb
  go_wp2_with (first
    | (change wpList _ _ _ _ _ (ua.alloc (.cells zeroF 26)); with_reducible refine wpList_store_row rfl 26 (.tmp 2) (.tmp 24) rfl ua.heap.size f rfl rfl 26 zeroF HN2.out Zf.out Qf.out Of.out ?_; rw [← HW2.out]))
  refine (New_bad 16 8 okB168 w2).mono ?_
  rintro e ub0 ⟨v, rfl, hR, hb⟩
  have Sb0 := Aside0.mk (blk_of_below S2.out hb)
  have Kfb0 := Aside0.mk (blk_of_below Kf2.out hb)
  have Cb0 := Aside0.mk (Kd.C_below C2.out hb)
  have Bb0 : Aside0 (Below w.heap.size w ub0) := ⟨B2.out.trans (hb.mono B2.out.size)⟩
  clear S2 Kf2 C2 B2
  obtain ⟨Ag, cg, ng, rfl, -, -⟩ := R_any hR
  clear hR hb
  rw [show (#[.int .i64 0, .int .i64 0, .slice Ag ng cg] : Array Value) = fcells 0 0 Ag ng cg from rfl]
  obtain ⟨g, hg⟩ : ∃ z, z = fcells 0 0 Ag ng cg := ⟨_, rfl⟩
  rw [← hg]
  have Zg : Aside0 ((Tryd.prog.info? 26).map (·.size) = some g.size) := ⟨by rw [hg]; exact sizeF _ _ _ _ _⟩
  have Og : Aside0 (g.all (·.oneCell') = true) := ⟨by rw [hg]; exact oneF _ _ _ _ _⟩
  have Qg : Aside0 (zeroF.size = g.size) := ⟨by rw [hg]; rfl⟩
  have Eg := Aside0.mk hg
  clear hg
  obtain ⟨w3, hw, hx, hb⟩ := new_row ub0 g
  have HN3 := Aside0.mk (heap_alloc_new ub0 (.cells zeroF 26))
  have HW3 := Aside0.mk hw
  have S3 := Aside0.mk (blk_of_below Sb0.out hb)
  have Kf3 := Aside0.mk (blk_of_below Kfb0.out hb)
  have C3 := Aside0.mk (Kd.C_below Cb0.out hb)
  have B3 : Aside0 (Below w.heap.size w w3) := ⟨Bb0.out.trans (hb.mono Bb0.out.size)⟩
  clear Sb0 Kfb0 Cb0 Bb0
  clear hw hx hb
  go_wp2_with (first
    | (change wpList _ _ _ _ _ (ub0.alloc (.cells zeroF 26)); with_reducible refine wpList_store_row rfl 26 (.tmp 4) (.tmp 28) rfl ub0.heap.size g rfl rfl 26 zeroF HN3.out Zg.out Qg.out Og.out ?_; rw [← HW3.out]))
  refine (New_bad 0 7 okB07 w3).mono ?_
  rintro e ub1 ⟨v, rfl, hR, hb⟩
  have Sb1 := Aside0.mk (blk_of_below S3.out hb)
  have Kfb1 := Aside0.mk (blk_of_below Kf3.out hb)
  have Cb1 := Aside0.mk (Kd.C_below C3.out hb)
  have Bb1 : Aside0 (Below w.heap.size w ub1) := ⟨B3.out.trans (hb.mono B3.out.size)⟩
  clear S3 Kf3 C3 B3
  obtain ⟨Ah, ch, nh, rfl, -, -⟩ := R_any hR
  clear hR hb
  rw [show (#[.int .i64 0, .int .i64 0, .slice Ah nh ch] : Array Value) = fcells 0 0 Ah nh ch from rfl]
  obtain ⟨h, hh⟩ : ∃ z, z = fcells 0 0 Ah nh ch := ⟨_, rfl⟩
  rw [← hh]
  have Zh : Aside0 ((Tryd.prog.info? 26).map (·.size) = some h.size) := ⟨by rw [hh]; exact sizeF _ _ _ _ _⟩
  have Oh : Aside0 (h.all (·.oneCell') = true) := ⟨by rw [hh]; exact oneF _ _ _ _ _⟩
  have Qh : Aside0 (zeroF.size = h.size) := ⟨by rw [hh]; rfl⟩
  have Eh := Aside0.mk hh
  clear hh
  obtain ⟨w4, hw, hx, hb⟩ := new_row ub1 h
  have HN4 := Aside0.mk (heap_alloc_new ub1 (.cells zeroF 26))
  have HW4 := Aside0.mk hw
  have S4 := Aside0.mk (blk_of_below Sb1.out hb)
  have Kf4 := Aside0.mk (blk_of_below Kfb1.out hb)
  have C4 := Aside0.mk (Kd.C_below Cb1.out hb)
  have B4 : Aside0 (Below w.heap.size w w4) := ⟨Bb1.out.trans (hb.mono Bb1.out.size)⟩
  clear Sb1 Kfb1 Cb1 Bb1
  clear hw hx hb
  go_wp2_with (first
    | (change wpList _ _ _ _ _ (ub1.alloc (.cells zeroF 26)); with_reducible refine wpList_store_row rfl 26 (.tmp 6) (.tmp 32) rfl ub1.heap.size h rfl rfl 26 zeroF HN4.out Zh.out Qh.out Oh.out ?_; rw [← HW4.out]))
  refine (New_bad 0 4097 okB4097 w4).mono ?_
  rintro e ub2 ⟨v, rfl, hR, hb⟩
  have Sb2 := Aside0.mk (blk_of_below S4.out hb)
  have Kfb2 := Aside0.mk (blk_of_below Kf4.out hb)
  have Cb2 := Aside0.mk (Kd.C_below C4.out hb)
  have Bb2 : Aside0 (Below w.heap.size w ub2) := ⟨B4.out.trans (hb.mono B4.out.size)⟩
  clear S4 Kf4 C4 B4
  obtain ⟨Ak, ck, nk, rfl, -, -⟩ := R_any hR
  clear hR hb
  rw [show (#[.int .i64 0, .int .i64 0, .slice Ak nk ck] : Array Value) = fcells 0 0 Ak nk ck from rfl]
  obtain ⟨k, hk⟩ : ∃ z, z = fcells 0 0 Ak nk ck := ⟨_, rfl⟩
  rw [← hk]
  have Zk : Aside0 ((Tryd.prog.info? 26).map (·.size) = some k.size) := ⟨by rw [hk]; exact sizeF _ _ _ _ _⟩
  have Ok : Aside0 (k.all (·.oneCell') = true) := ⟨by rw [hk]; exact oneF _ _ _ _ _⟩
  have Qk : Aside0 (zeroF.size = k.size) := ⟨by rw [hk]; rfl⟩
  have Ek := Aside0.mk hk
  clear hk
  obtain ⟨w5, hw, hx, hb⟩ := new_row ub2 k
  have HN5 := Aside0.mk (heap_alloc_new ub2 (.cells zeroF 26))
  have HW5 := Aside0.mk hw
  have S5 := Aside0.mk (blk_of_below Sb2.out hb)
  have Kf5 := Aside0.mk (blk_of_below Kfb2.out hb)
  have C5 := Aside0.mk (Kd.C_below Cb2.out hb)
  have B5 : Aside0 (Below w.heap.size w w5) := ⟨Bb2.out.trans (hb.mono Bb2.out.size)⟩
  clear Sb2 Kfb2 Cb2 Bb2
  clear hw hx hb
  go_wp2_with (first
    | (change wpList _ _ _ _ _ (ub2.alloc (.cells zeroF 26)); with_reducible refine wpList_store_row rfl 26 (.tmp 8) (.tmp 36) rfl ub2.heap.size k rfl rfl 26 zeroF HN5.out Zk.out Qk.out Ok.out ?_; rw [← HW5.out])
    | (with_reducible refine wpList_load_row rfl 23 (.tmp 1) rfl w.heap.size rfl 23 (cells8 fiveD) (0, 0) _ S5.out Tryd.underlying23 rfl HS1.out ?_)
    | (with_reducible refine wpList_load_row rfl 26 (.tmp 2) rfl ua.heap.size rfl 26 f (0, 0) _ Kf5.out Tryd.underlying26 rfl Zf.out ?_))
  have HAd := Add_ok fiveD fiveD_length 0 9 A1 2 c1 [0, 0] 3 w5 C5.out HC1.out bytes00 okI00 (HT.out.below B5.out)
  rw [← Ef.out] at HAd
  refine (HAd).mono ?_
  rintro e uc ⟨v, rfl, hR, hb⟩
  have Sc := Aside0.mk (blk_of_below S5.out hb)
  have Kfc := Aside0.mk (blk_of_below Kf5.out hb)
  have Cc := Aside0.mk (Kd.C_below C5.out hb)
  have Bc : Aside0 (Below w.heap.size w uc) := ⟨B5.out.trans (hb.mono B5.out.size)⟩
  clear S5 Kf5 C5 B5
  obtain ⟨Ax, cx, nx, rfl, hC, hc⟩ := R_any hR
  have hnx : nx = 2 := by rw [← Kd.C_len hC, addD, setBit_length, setBit_length]; rfl
  subst hnx
  have Xc := Aside0.mk hC
  have HCx := Aside0.mk hc
  clear hR hb hC hc HAd
  rw [show (#[.int .i64 0, .int .i64 9, .slice Ax 2 cx] : Array Value) = fcells 0 9 Ax 2 cx from rfl]
  obtain ⟨x, hx0⟩ : ∃ z, z = fcells 0 9 Ax 2 cx := ⟨_, rfl⟩
  rw [← hx0]
  have hx := hx0
  clear hx0
  have Zx : Aside0 ((Tryd.prog.info? 26).map (·.size) = some x.size) := ⟨by rw [hx]; exact sizeF _ _ _ _ _⟩
  have Ox : Aside0 (x.all (·.oneCell') = true) := ⟨by rw [hx]; exact oneF _ _ _ _ _⟩
  have Qx : Aside0 (zeroF.size = x.size) := ⟨by rw [hx]; rfl⟩
  have Ex := Aside0.mk hx
  clear hx
  obtain ⟨w6, hw, hx, hb⟩ := new_row uc x
  have HN6 := Aside0.mk (heap_alloc_new uc (.cells zeroF 26))
  have HW6 := Aside0.mk hw
  have S6 := Aside0.mk (blk_of_below Sc.out hb)
  have Kf6 := Aside0.mk (blk_of_below Kfc.out hb)
  have C6 := Aside0.mk (Kd.C_below Cc.out hb)
  have X6 := Aside0.mk (Kd.C_below Xc.out hb)
  have B6 : Aside0 (Below w.heap.size w w6) := ⟨Bc.out.trans (hb.mono Bc.out.size)⟩
  clear Sc Kfc Cc Xc Bc
  have Kx6 := Aside0.mk hx
  clear hw hx hb
  go_wp2_with (first
    | (change wpList _ _ _ _ _ (uc.alloc (.cells zeroF 26)); with_reducible refine wpList_store_row rfl 26 (.tmp 10) (.tmp 42) rfl uc.heap.size x rfl rfl 26 zeroF HN6.out Zx.out Qx.out Ox.out ?_; rw [← HW6.out])
    | (with_reducible refine wpList_load_row rfl 23 (.tmp 1) rfl w.heap.size rfl 23 (cells8 fiveD) (0, 0) _ S6.out Tryd.underlying23 rfl HS1.out ?_)
    | (with_reducible refine wpList_load_row rfl 26 (.tmp 10) rfl uc.heap.size rfl 26 x (0, 0) _ Kx6.out Tryd.underlying26 rfl Zx.out ?_))
  have HH := Has_ok fiveD fiveD_length 0 9 Ax 2 cx (addD fiveD 0 9 3 [0, 0]) 3 w6 X6.out (addD_bytes bytes00) (okI_of (okF_addD bytes00 okF00) (by omega) (by omega)) (HT.out.below B6.out)
  rw [← Ex.out, hasD_addD bytes00 okF00] at HH
  refine (HH).mono ?_
  rintro e ud ⟨rfl, hb⟩
  have Sd := Aside0.mk (blk_of_below S6.out hb)
  have Kfd := Aside0.mk (blk_of_below Kf6.out hb)
  have Kxd := Aside0.mk (blk_of_below Kx6.out hb)
  have Cd := Aside0.mk (Kd.C_below C6.out hb)
  have Xd := Aside0.mk (Kd.C_below X6.out hb)
  have Bd : Aside0 (Below w.heap.size w ud) := ⟨B6.out.trans (hb.mono B6.out.size)⟩
  clear S6 Kf6 Kx6 C6 X6 B6
  clear hb HH
  go_wp2_with (first
    | (with_reducible refine wpList_load_row rfl 23 (.tmp 1) rfl w.heap.size rfl 23 (cells8 fiveD) (0, 0) _ Sd.out Tryd.underlying23 rfl HS1.out ?_)
    | (with_reducible refine wpList_load_row rfl 26 (.tmp 2) rfl ua.heap.size rfl 26 f (0, 0) _ Kfd.out Tryd.underlying26 rfl Zf.out ?_))
  have HH := Has_ok fiveD fiveD_length 0 9 A1 2 c1 [0, 0] 3 ud Cd.out bytes00 okI00 (HT.out.below Bd.out)
  rw [← Ef.out, hasD00] at HH
  refine (HH).mono ?_
  rintro e ue ⟨rfl, hb⟩
  have Se := Aside0.mk (blk_of_below Sd.out hb)
  have Kfe := Aside0.mk (blk_of_below Kfd.out hb)
  have Kxe := Aside0.mk (blk_of_below Kxd.out hb)
  have Ce := Aside0.mk (Kd.C_below Cd.out hb)
  have Xe := Aside0.mk (Kd.C_below Xd.out hb)
  have Be : Aside0 (Below w.heap.size w ue) := ⟨Bd.out.trans (hb.mono Bd.out.size)⟩
  clear Sd Kfd Kxd Cd Xd Bd
  clear hb HH
  go_wp2_with (first
    | (with_reducible refine wpList_load_row rfl 23 (.tmp 1) rfl w.heap.size rfl 23 (cells8 fiveD) (0, 0) _ Se.out Tryd.underlying23 rfl HS1.out ?_)
    | (with_reducible refine wpList_load_row rfl 26 (.tmp 2) rfl ua.heap.size rfl 26 f (0, 0) _ Kfe.out Tryd.underlying26 rfl Zf.out ?_))
  have HH := Add_bad fiveD fiveD_length 0 9 A1 2 c1 [0, 0] 1024 ue Ce.out bytes00 okI01
  rw [← Ef.out] at HH
  refine (HH).mono ?_
  rintro e ug ⟨rfl, hb⟩
  have Sg := Aside0.mk (blk_of_below Se.out hb)
  have Kfg := Aside0.mk (blk_of_below Kfe.out hb)
  have Kxg := Aside0.mk (blk_of_below Kxe.out hb)
  have Cg := Aside0.mk (Kd.C_below Ce.out hb)
  have Xg := Aside0.mk (Kd.C_below Xe.out hb)
  have Bg : Aside0 (Below w.heap.size w ug) := ⟨Be.out.trans (hb.mono Be.out.size)⟩
  clear Se Kfe Kxe Ce Xe Be
  clear hb HH
  obtain ⟨q, hq⟩ : ∃ z, z = zeroF := ⟨_, rfl⟩
  rw [show (Value.agg zeroF) = .agg q by rw [hq]]
  have hq2 : q = fcells 0 0 none 0 0 := hq
  clear hq
  have hq := hq2
  clear hq2
  have Zq : Aside0 ((Tryd.prog.info? 26).map (·.size) = some q.size) := ⟨by rw [hq]; exact sizeF _ _ _ _ _⟩
  have Oq : Aside0 (q.all (·.oneCell') = true) := ⟨by rw [hq]; exact oneF _ _ _ _ _⟩
  have Qq : Aside0 (zeroF.size = q.size) := ⟨by rw [hq]; rfl⟩
  have Eq := Aside0.mk hq
  clear hq
  obtain ⟨w7, hw, hx, hb⟩ := new_row ug q
  have HN7 := Aside0.mk (heap_alloc_new ug (.cells zeroF 26))
  have HW7 := Aside0.mk hw
  have S7 := Aside0.mk (blk_of_below Sg.out hb)
  have Kf7 := Aside0.mk (blk_of_below Kfg.out hb)
  have Kx7 := Aside0.mk (blk_of_below Kxg.out hb)
  have C7 := Aside0.mk (Kd.C_below Cg.out hb)
  have X7 := Aside0.mk (Kd.C_below Xg.out hb)
  have B7 : Aside0 (Below w.heap.size w w7) := ⟨Bg.out.trans (hb.mono Bg.out.size)⟩
  clear Sg Kfg Kxg Cg Xg Bg
  clear hw hx hb
  go_wp2_with (first
    | (change wpList _ _ _ _ _ (ug.alloc (.cells zeroF 26)); with_reducible refine wpList_store_row rfl 26 (.tmp 16) (.tmp 60) rfl ug.heap.size q rfl rfl 26 zeroF HN7.out Zq.out Qq.out Oq.out ?_; rw [← HW7.out])
    | (with_reducible refine wpList_load_row rfl 23 (.tmp 1) rfl w.heap.size rfl 23 (cells8 fiveD) (0, 0) _ S7.out Tryd.underlying23 rfl HS1.out ?_)
    | (with_reducible refine wpList_load_row rfl 26 (.tmp 2) rfl ua.heap.size rfl 26 f (0, 0) _ Kf7.out Tryd.underlying26 rfl Zf.out ?_))
  have HH := Bits_ok fiveD fiveD_length 0 9 A1 2 c1 [0, 0] 3 w7 C7.out bytes00 okI00 (HT.out.below B7.out)
  rw [← Ef.out] at HH
  refine (HH).mono ?_
  rintro e um ⟨v, rfl, hR, hb⟩
  have Sm := Aside0.mk (blk_of_below S7.out hb)
  have Kfm := Aside0.mk (blk_of_below Kf7.out hb)
  have Kxm := Aside0.mk (blk_of_below Kx7.out hb)
  have Cm := Aside0.mk (Kd.C_below C7.out hb)
  have Xm := Aside0.mk (Kd.C_below X7.out hb)
  have Bm : Aside0 (Below w.heap.size w um) := ⟨B7.out.trans (hb.mono B7.out.size)⟩
  clear S7 Kf7 Kx7 C7 X7 B7
  obtain ⟨A9, c9, n9, rfl, hC, -⟩ := R_any hR
  have hn9 : n9 = 2 := by rw [← Kd.C_len hC]; rfl
  subst hn9
  clear hR hb hC HH
  obtain ⟨wo, hwo⟩ : ∃ z, z = ((um.alloc (.cells #[.int .u8 0, .int .u8 2] 5)).alloc (.cells #[.int .i64 0, .int .i64 9, .slice (some ⟨um.heap.size, 0, none⟩) 2 2] 26)) := ⟨_, rfl⟩
  have hbo : Below um.heap.size um wo := by rw [hwo]; exact below_alloc (below_alloc (Below.refl _ _) _) _
  have Kfo := Aside0.mk (blk_of_below Kfm.out hbo)
  have Co := Aside0.mk (Kd.C_below Cm.out hbo)
  have Bo : Aside0 (Below w.heap.size w wo) := ⟨Bm.out.trans (hbo.mono Bm.out.size)⟩
  have Do : Aside0 (Kd.C (Kd.int .u8) wo (some ⟨um.heap.size, 0, none⟩) 2 [0, 2]) := ⟨by rw [hwo]; exact Kd.C_below (C_fresh um [0, 2] (by simp)) (below_alloc (Below.refl _ _) _)⟩
  obtain ⟨d, hd⟩ : ∃ z, z = fcells 0 9 (some ⟨um.heap.size, 0, none⟩) 2 2 := ⟨_, rfl⟩
  have Jo : Aside0 (wo.heap[um.heap.size + 1]? = some (.cells d 26 (0, 0))) := ⟨by rw [hwo, hd]; exact heap_alloc2_new _ _ _⟩
  have Zd : Aside0 ((Tryd.prog.info? 26).map (·.size) = some d.size) := ⟨by rw [hd]; exact sizeF _ _ _ _ _⟩
  have Ed := Aside0.mk hd
  have x2 : ((um.alloc (.cells #[.int .u8 0, .int .u8 2] 5)).alloc (.cells #[.int .i64 0, .int .i64 9, .slice (some ⟨um.heap.size, 0, none⟩) 2 2] 26)).cell? ⟨ua.heap.size, 2, none⟩ = some (.slice A1 2 c1) := (by rw [← hwo]; exact (blk_cell Kfo.out 2).trans (by rw [Ef.out]; rfl))
  have x1 : ((um.alloc (.cells #[.int .u8 0, .int .u8 2] 5)).alloc (.cells #[.int .i64 0, .int .i64 9, .slice (some ⟨um.heap.size, 0, none⟩) 2 2] 26)).cell? ⟨ua.heap.size, 1, none⟩ = some (.int .i64 9) := (by rw [← hwo]; exact (blk_cell Kfo.out 1).trans (by rw [Ef.out]; rfl))
  have HWO := Aside0.mk hwo
  clear hbo hd hwo Sm Kfm Kxm Cm Xm Bm
  go_wp2_with (rw [← HWO.out]; refine wpList_on (by rfl) (load_run 26 (.tmp 2) rfl ua.heap.size rfl 26 f (0, 0) _ Kfo.out Tryd.underlying26 rfl Zf.out) ?_)
  have HC1' := Check_calls 0 9 A1 2 c1 [0, 0] wo Co.out bytes00
  rw [filterV_eq, ← Ef.out, e00] at HC1'
  refine HC1'.mono ?_
  rintro e wp ⟨rfl, hb⟩
  have Bp : Aside0 (Below w.heap.size w wp) := ⟨Bo.out.trans (hb.mono Bo.out.size)⟩
  have Dp := Aside0.mk (Kd.C_below Do.out hb)
  have Jp := Aside0.mk (blk_of_below Jo.out hb)
  clear hb HC1' x1 x2 Kfo Co Bo Do Jo HWO
  go_wp2_with fail
  have HC2' := Check_calls 0 0 none 0 0 [] wp ⟨rfl, by omega, fun h => by omega⟩ (fun x hx => nomatch hx)
  rw [e33] at HC2'
  refine HC2'.mono ?_
  rintro e wq ⟨rfl, hb⟩
  have Bq : Aside0 (Below w.heap.size w wq) := ⟨Bp.out.trans (hb.mono Bp.out.size)⟩
  have Dq := Aside0.mk (Kd.C_below Dp.out hb)
  have Jq := Aside0.mk (blk_of_below Jp.out hb)
  clear hb HC2' Bp Dp Jp
  go_wp2_with (refine wpList_on (by rfl) (load_run 26 (.tmp 20) rfl (um.heap.size + 1) rfl 26 d (0, 0) _ Jq.out Tryd.underlying26 rfl Zd.out) ?_)
  have HC3' := Check_calls 0 9 (some ⟨um.heap.size, 0, none⟩) 2 2 [0, 2] wq Dq.out bytes02
  rw [filterV_eq, ← Ed.out, e02] at HC3'
  refine HC3'.mono ?_
  rintro e wr ⟨rfl, hb⟩
  have Br : Aside0 (Below w.heap.size w wr) := ⟨Bq.out.trans (hb.mono Bq.out.size)⟩
  clear hb HC3' Bq Dq Jq
  go_wp2_with fail
  go_ret
  exact ⟨rfl, Br.out⟩
end Go.Proofs.YtgiofinekmaceaaDoor.Q
