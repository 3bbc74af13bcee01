/- the law FiltersFalse (printed by wip/falsegen.py) -/
import Derived.Test.YtgiofinekmaceaaDoorFw
namespace Go.Proofs.YtgiofinekmaceaaDoor.Q
open Go.RowKit Go.Shelf Go.Proofs.YtgiofinekmaceaaDoorW.PrintWords Go.Proofs.YtgiofinekmaceaaDoorW.PrintLast Go.Proofs.YtgiofinekmaceaaDoorW.PrintMore
set_option linter.unusedVariables false
set_option linter.unusedSimpArgs false
set_option maxRecDepth 20000 in
set_option maxHeartbeats 8000000 in
theorem FFalse_calls (w : World) (s : List Int) (hs : s.length = 32) (_ : ∀ x ∈ s, 0 ≤ x ∧ x ≤ 255) (l : Int) (_ : (Lit.int .i64 l).wf = true) (b : Int) (_ : (Lit.int .i64 b).wf = true)
    (B : Option Addr) (N cN : Nat) (ids : List Int) (hI : Kd.C (Kd.int .u16) w B N ids) (_ : N ≤ cN) (hi16 : ∀ x ∈ ids, (Lit.int .u16 x).wf = true) (id : Int) (_ : (Lit.int .i64 id).wf = true) (hT : Tabs w) :
    Calls Tryd.prog 7 #[.agg (cells8 s), .int .i64 l, .int .i64 b, .slice B N cN, .int .i64 id] w fun e w' => e = .returned (.bool true) ∧ Below w.heap.size w w' := by
  have hi := wf16 hi16
  have HS := Aside0.mk hs
  have HT := Aside0.mk hT
  have HIt := Aside0.mk hI
  have HIB := Aside0.mk hi
  have HIL := Aside0.mk (Kd.C_len hI)
  have HSs := Aside0.mk (size32 s hs)
  obtain ⟨wa, hwa⟩ : ∃ x, x = w.alloc (.cells (cells8 s) 23) := ⟨_, rfl⟩
  have HA0 : Aside0 (wa.heap[w.heap.size]? = some (.cells (cells8 s) 23 (0, 0))) := ⟨by rw [hwa]; exact heap_alloc_new _ _⟩
  have HBa : Aside0 (Below w.heap.size w wa) := ⟨by rw [hwa]; exact below_alloc (Below.refl _ _) _⟩
  have HWA := Aside0.mk hwa
  clear hs hI hi16 hi hwa hT
  go_enter Tryd.func7, Tryd.ntmps7
  go_wp2_with fail
  rw [← HWA.out]
  refine (sane_calls wa (HT.out.below HBa.out)).mono ?_
  rintro e w1 ⟨rfl, hb1⟩
  have HB1 : Aside0 (Below w.heap.size w w1) := ⟨HBa.out.trans (hb1.mono HBa.out.size)⟩
  have H1 := Aside0.mk (blk_of_below HA0.out hb1)
  clear hb1 HA0 HBa HWA
  by_cases h40 : 40 < N
  · have c2 := eq_true (show (40 : Int) < (N : Int) by omega)
    go_wp2_with fail
    go_ret
    exact ⟨rfl, HB1.out⟩
  have c2 := eq_false (show ¬ (40 : Int) < (N : Int) by omega)
  cases hokb : okB l b with
  | false =>
    go_wp2_with fail
    refine (New_bad l b hokb w1).mono ?_
    rintro e w2 ⟨v, rfl, hR, hb2⟩
    have HB2 : Aside0 (Below w.heap.size w w2) := ⟨HB1.out.trans (hb2.mono HB1.out.size)⟩
    have H2 := Aside0.mk (blk_of_below H1.out hb2)
    obtain ⟨A1, c1, n1, rfl, hC, hc⟩ := R_any hR
    rw [show (#[.int .i64 0, .int .i64 0, .slice A1 n1 c1] : Array Value) = fcells 0 0 A1 n1 c1 from rfl]
    obtain ⟨f, hf⟩ : ∃ z, z = fcells 0 0 A1 n1 c1 := ⟨_, rfl⟩
    rw [← hf]
    have Zf : Aside0 ((Tryd.prog.info? 26).map (·.size) = some f.size) := ⟨by rw [hf]; exact sizeF _ _ _ _ _⟩
    have Of : Aside0 (f.all (·.oneCell') = true) := ⟨by rw [hf]; exact oneF _ _ _ _ _⟩
    have Qf : Aside0 (zeroF.size = f.size) := ⟨by rw [hf]; rfl⟩
    have Ef := Aside0.mk hf
    clear hf
    obtain ⟨w3, hw, hx, hb⟩ := new_row w2 f
    have HNf := Aside0.mk (heap_alloc_new w2 (.cells zeroF 26))
    have HWf := Aside0.mk hw
    have Kf := Aside0.mk hx
    have HB3 : Aside0 (Below w.heap.size w w3) := ⟨HB2.out.trans (hb.mono HB2.out.size)⟩
    have H3 := Aside0.mk (blk_of_below H2.out hb)
    have HBD := Aside0.mk (Bits_bad s HS.out 0 0 A1 n1 c1 [] id w3 (Kd.C_below hC hb) (fun x hx => by cases hx) (okI00b id))
    rw [← Ef.out] at HBD
    clear hR hb2 hC hc hw hx hb HB1 HB2 H1 H2
    go_wp2_with (first
      | (change wpList _ _ _ _ _ (w2.alloc (.cells zeroF 26)); with_reducible refine wpList_store_row rfl 26 (.tmp 11) (.tmp 33) rfl w2.heap.size f rfl rfl 26 zeroF HNf.out Zf.out Qf.out Of.out ?_; rw [← HWf.out])
      | (with_reducible refine wpList_load_row rfl 23 (.tmp 5) rfl w.heap.size rfl 23 (cells8 s) (0, 0) _ H3.out Tryd.underlying23 rfl HSs.out ?_)
      | (with_reducible refine wpList_load_row rfl 26 (.tmp 11) rfl w2.heap.size rfl 26 f (0, 0) _ Kf.out Tryd.underlying26 rfl Zf.out ?_))
    refine HBD.out.mono ?_
    rintro e w4 ⟨rfl, hb4⟩
    have HB4 : Aside0 (Below w.heap.size w w4) := ⟨HB3.out.trans (hb4.mono HB3.out.size)⟩
    clear hb4
    go_wp2_with fail
    go_ret
    exact ⟨rfl, HB4.out⟩
  | true =>
    have HOKB := Aside0.mk hokb
    go_wp2_with fail
    refine (New_ok l b hokb w1).mono ?_
    rintro e w2 ⟨v, rfl, hR, hb2⟩
    have HB2 : Aside0 (Below w.heap.size w w2) := ⟨HB1.out.trans (hb2.mono HB1.out.size)⟩
    have H2 := Aside0.mk (blk_of_below H1.out hb2)
    obtain ⟨A1, c1, n1, rfl, hC, hc⟩ := R_any hR
    rw [show (#[.int .i64 l, .int .i64 b, .slice A1 n1 c1] : Array Value) = fcells l b A1 n1 c1 from rfl]
    obtain ⟨f, hf⟩ : ∃ z, z = fcells l b A1 n1 c1 := ⟨_, rfl⟩
    rw [← hf]
    have Zf : Aside0 ((Tryd.prog.info? 26).map (·.size) = some f.size) := ⟨by rw [hf]; exact sizeF _ _ _ _ _⟩
    have Of : Aside0 (f.all (·.oneCell') = true) := ⟨by rw [hf]; exact oneF _ _ _ _ _⟩
    have Qf : Aside0 (zeroF.size = f.size) := ⟨by rw [hf]; rfl⟩
    have Ef := Aside0.mk hf
    clear hf
    obtain ⟨w3, hw, hx, hb⟩ := new_row w2 f
    have HNf := Aside0.mk (heap_alloc_new w2 (.cells zeroF 26))
    have HWf := Aside0.mk hw
    have Kf := Aside0.mk hx
    have HB3 : Aside0 (Below w.heap.size w w3) := ⟨HB2.out.trans (hb.mono HB2.out.size)⟩
    have H3 := Aside0.mk (blk_of_below H2.out hb)
    have HC3 := Aside0.mk (Kd.C_below hC hb)
    have HCc := Aside0.mk hc
    clear hR hb2 hC hc hw hx hb HB1 HB2 H1 H2 hokb
    cases hoki : okI l b (zerosN b) id with
    | false =>
      have HBD := Aside0.mk (Bits_bad s HS.out l b A1 n1 c1 (zerosN b) id w3 HC3.out (bytes_zeros b) hoki)
      rw [← Ef.out] at HBD
      clear hoki
      go_wp2_with (first
        | (change wpList _ _ _ _ _ (w2.alloc (.cells zeroF 26)); with_reducible refine wpList_store_row rfl 26 (.tmp 11) (.tmp 33) rfl w2.heap.size f rfl rfl 26 zeroF HNf.out Zf.out Qf.out Of.out ?_; rw [← HWf.out])
        | (with_reducible refine wpList_load_row rfl 23 (.tmp 5) rfl w.heap.size rfl 23 (cells8 s) (0, 0) _ H3.out Tryd.underlying23 rfl HSs.out ?_)
        | (with_reducible refine wpList_load_row rfl 26 (.tmp 11) rfl w2.heap.size rfl 26 f (0, 0) _ Kf.out Tryd.underlying26 rfl Zf.out ?_))
      refine HBD.out.mono ?_
      rintro e w4 ⟨rfl, hb4⟩
      have HB4 : Aside0 (Below w.heap.size w w4) := ⟨HB3.out.trans (hb4.mono HB3.out.size)⟩
      clear hb4
      go_wp2_with fail
      go_ret
      exact ⟨rfl, HB4.out⟩
    | true =>
      have HBD := Aside0.mk (Bits_ok s HS.out l b A1 n1 c1 (zerosN b) id w3 HC3.out (bytes_zeros b) hoki (HT.out.below HB3.out))
      rw [← Ef.out] at HBD
      have HHF := Aside0.mk (has_false (s := s) ids hoki)
      clear hoki
      go_wp2_with (first
        | (change wpList _ _ _ _ _ (w2.alloc (.cells zeroF 26)); with_reducible refine wpList_store_row rfl 26 (.tmp 11) (.tmp 33) rfl w2.heap.size f rfl rfl 26 zeroF HNf.out Zf.out Qf.out Of.out ?_; rw [← HWf.out])
        | (with_reducible refine wpList_load_row rfl 23 (.tmp 5) rfl w.heap.size rfl 23 (cells8 s) (0, 0) _ H3.out Tryd.underlying23 rfl HSs.out ?_)
        | (with_reducible refine wpList_load_row rfl 26 (.tmp 11) rfl w2.heap.size rfl 26 f (0, 0) _ Kf.out Tryd.underlying26 rfl Zf.out ?_))
      refine HBD.out.mono ?_
      rintro e w4 ⟨v, rfl, hR, hb4⟩
      have HB4 : Aside0 (Below w.heap.size w w4) := ⟨HB3.out.trans (hb4.mono HB3.out.size)⟩
      have H4 := Aside0.mk (blk_of_below H3.out hb4)
      have K4 := Aside0.mk (blk_of_below Kf.out hb4)
      have HC4 := Aside0.mk (Kd.C_below HC3.out hb4)
      unfold bitsD at hR
      obtain ⟨y0, hy0⟩ : ∃ z, z = bitD s l b id 0 := ⟨_, rfl⟩
      obtain ⟨y1, hy1⟩ : ∃ z, z = bitD s l b id 1 := ⟨_, rfl⟩
      rw [← hy0, ← hy1] at hR
      rw [← hy0, ← hy1] at HHF
      obtain ⟨g3, c3, rfl, hc3, hg3, hg3l, hm0, hm1⟩ := R_two hR
      have HM0 := Aside0.mk hm0
      have HM1 := Aside0.mk hm1
      clear hb4 hR hy0 hy1 hc3 hg3 hm0 hm1 HBD HNf HWf H3 Kf HC3 HB3
      have HAD := Aside0.mk (added_calls s HS.out l b A1 n1 c1 (zerosN b) B N cN ids w4 HC4.out HCc.out (bytes_zeros b) (Kd.C_below HIt.out HB4.out) HIB.out (by omega) (HT.out.below HB4.out))
      rw [← Ef.out] at HAD
      go_wp2_with (first
        | (with_reducible refine wpList_load_row rfl 23 (.tmp 5) rfl w.heap.size rfl 23 (cells8 s) (0, 0) _ H4.out Tryd.underlying23 rfl HSs.out ?_)
        | (with_reducible refine wpList_load_row rfl 26 (.tmp 11) rfl w2.heap.size rfl 26 f (0, 0) _ K4.out Tryd.underlying26 rfl Zf.out ?_))
      refine HAD.out.mono ?_
      rintro e w5 ⟨A2, n2, cx2, rfl, hC5, hc5, hb5⟩
      obtain ⟨X, hX⟩ : ∃ z, z = addedD s l b (zerosN b) ids := ⟨_, rfl⟩
      rw [← hX] at hC5
      rw [← hX] at HHF
      have HXB : Aside0 (Bytes X) := ⟨by rw [hX]; exact addedD_bytes ids (bytes_zeros b)⟩
      have HB5 : Aside0 (Below w.heap.size w w5) := ⟨HB4.out.trans (hb5.mono HB4.out.size)⟩
      have H5 := Aside0.mk (blk_of_below H4.out hb5)
      have K5 := Aside0.mk (blk_of_below K4.out hb5)
      have HC5 := Aside0.mk (Kd.C_below HC4.out hb5)
      obtain ⟨xc, hxc⟩ : ∃ z, z = fcells l b A2 n2 cx2 := ⟨_, rfl⟩
      rw [← hxc]
      have Zxc : Aside0 ((Tryd.prog.info? 26).map (·.size) = some xc.size) := ⟨by rw [hxc]; exact sizeF _ _ _ _ _⟩
      have Oxc : Aside0 (xc.all (·.oneCell') = true) := ⟨by rw [hxc]; exact oneF _ _ _ _ _⟩
      have Qxc : Aside0 (zeroF.size = xc.size) := ⟨by rw [hxc]; rfl⟩
      have Exc := Aside0.mk hxc
      clear hxc
      obtain ⟨w6, hw, hx, hb⟩ := new_row w5 xc
      have HNxc := Aside0.mk (heap_alloc_new w5 (.cells zeroF 26))
      have HWxc := Aside0.mk hw
      have Kxc := Aside0.mk hx
      have HB6 : Aside0 (Below w.heap.size w w6) := ⟨HB5.out.trans (hb.mono HB5.out.size)⟩
      have H6 := Aside0.mk (blk_of_below H5.out hb)
      have K6 := Aside0.mk (blk_of_below K5.out hb)
      have HC6 := Aside0.mk (Kd.C_below HC5.out hb)
      have HX6 := Aside0.mk (Kd.C_below hC5 hb)
      have hb46 := hb5.trans (hb.mono hb5.size)
      have HM : Aside0 (∀ W, Below w6.heap.size w6 W → W.cell? ⟨g3, 0, none⟩ = some (.int .i64 y0) ∧ W.cell? ⟨g3, 1, none⟩ = some (.int .i64 y1)) := ⟨fun W h => by
        have hh := hb46.trans (h.mono hb46.size)
        exact ⟨pw_cell_below hh HM0.out, pw_cell_below hh HM1.out⟩⟩
      have hmk := makeMet
      clear hb5 hC5 hX hw hx hb hb46 HAD HM0 HM1 H4 K4 HC4 HB4 H5 K5 HC5 HB5 hg3l hc5
      go_wp2_with (first
        | (change wpList _ _ _ _ _ (w5.alloc (.cells zeroF 26)); with_reducible refine wpList_store_row rfl 26 (.tmp 15) (.tmp 51) rfl w5.heap.size xc rfl rfl 26 zeroF HNxc.out Zxc.out Qxc.out Oxc.out ?_; rw [← HWxc.out]))
      have HNM : Aside0 ((w6.alloc (.cells #[.bool false, .bool false] 4)).heap[w6.heap.size]? = some (.cells #[.bool false, .bool false] 4 (0, 0))) := ⟨heap_alloc_new _ _⟩
      have HBM : Aside0 (Below w6.heap.size w6 (w6.alloc (.cells #[.bool false, .bool false] 4))) := ⟨below_alloc (Below.refl _ _) _⟩
      obtain ⟨w7, hw7⟩ : ∃ z, z = w6.alloc (.cells #[.bool false, .bool false] 4) := ⟨_, rfl⟩
      rw [← hw7] at HNM HBM ⊢
      obtain ⟨gm, hgm⟩ : ∃ z, z = w6.heap.size := ⟨_, rfl⟩
      rw [← hgm] at HNM ⊢
      have HGM := Aside0.mk hgm
      obtain ⟨gx, hgx⟩ : ∃ z, z = w5.heap.size := ⟨_, rfl⟩
      rw [← hgx] at Kxc ⊢
      obtain ⟨gf, hgf⟩ : ∃ z, z = w2.heap.size := ⟨_, rfl⟩
      rw [← hgf] at K6 ⊢
      clear hw7 hgm hmk HNxc HWxc hgx hgf
      go_loopw [57] (fun i wr => ∃ j : Nat, j ≤ N ∧ i = .int .i64 (j : Int) ∧ Aside0 (wr.heap[gm]? = some (.cells #[.bool (inD s l b (ids.take j) y0), .bool (inD s l b (ids.take j) y1)] 4 (0, 0))) ∧ Aside0 (Below w6.heap.size w6 wr)) (fun i _ => N - (intOf i).toNat)
      case atStart => exact ⟨0, by omega, rfl, HNM, HBM⟩
      case round =>
        rename World => wo
        obtain ⟨j, hj, rfl, HMT, HB⟩ := hrel
        have HBw : Aside0 (Below w.heap.size w wo) := ⟨HB6.out.trans (HB.out.mono HB6.out.size)⟩
        have HR0 := Aside0.mk (blk_of_below H6.out HB.out)
        have HRf := Aside0.mk (blk_of_below K6.out HB.out)
        have HRC := Aside0.mk (Kd.C_below HC6.out HB.out)
        by_cases hlt : j < N
        · have c14 : decide ((j : Int) < (N : Int)) = true := decide_eq_true (by omega)
          have p1 := eq_true (show 0 ≤ (j : Int) by omega)
          have p2 := eq_true (show (j : Int) < (N : Int) by omega)
          obtain ⟨bd, rfl, hid⟩ := Kd.at_int (Kd.C_below HIt.out HBw.out) (j : Int) (by omega) (by omega)
          rw [Int.toNat_natCast] at hid
          have hmem : rd ids (j : Int) ∈ ids := by
            have : j < ids.length := by rw [HIL.out]; exact hlt
            simp [rd, List.getD, this]
          have HT0 : Aside0 (inD s l b (ids.take (j + 1)) y0 = (inD s l b (ids.take j) y0 || oneIn s l b y0 (rd ids (j : Int)))) := ⟨inD_take s l b y0 ids j (by rw [HIL.out]; exact hlt)⟩
          have HT1 : Aside0 (inD s l b (ids.take (j + 1)) y1 = (inD s l b (ids.take j) y1 || oneIn s l b y1 (rd ids (j : Int)))) := ⟨inD_take s l b y1 ids j (by rw [HIL.out]; exact hlt)⟩
          obtain ⟨k, hkk⟩ : ∃ z, z = rd ids (j : Int) := ⟨_, rfl⟩
          rw [← hkk] at hid hmem HT0 HT1
          have hkr := HIB.out k hmem
          have hwk : wrap64 k = k := by unfold wrap64; omega
          obtain ⟨a0, ha0⟩ : ∃ z, z = inD s l b (ids.take j) y0 := ⟨_, rfl⟩
          obtain ⟨a1, ha1⟩ : ∃ z, z = inD s l b (ids.take j) y1 := ⟨_, rfl⟩
          rw [← ha0, ← ha1] at HMT
          rw [← ha0] at HT0
          rw [← ha1] at HT1
          clear hkk hmem ha0 ha1 hkr
          cases hok : okI l b (zerosN b) k with
          | false =>
            rw [oneIn_off HOKB.out hok, Bool.or_false] at HT0 HT1
            have HBD := Aside0.mk (Bits_bad s HS.out l b A1 n1 c1 (zerosN b) k wo HRC.out (bytes_zeros b) hok)
            rw [← Ef.out] at HBD
            clear hok
            go_wp2_with (first
              | (with_reducible refine wpList_load_row rfl 23 (.tmp 5) rfl w.heap.size rfl 23 (cells8 s) (0, 0) _ HR0.out Tryd.underlying23 rfl HSs.out ?_)
              | (with_reducible refine wpList_load_row rfl 26 (.tmp 11) rfl gf rfl 26 f (0, 0) _ HRf.out Tryd.underlying26 rfl Zf.out ?_))
            refine HBD.out.mono ?_
            rintro e w8 ⟨rfl, hb8⟩
            have HB8 : Aside0 (Below w6.heap.size w6 w8) := ⟨HB.out.trans (hb8.mono HB.out.size)⟩
            have HM8 := Aside0.mk (blk_of_below HMT.out hb8)
            clear hb8
            go_wp2_with fail
            go_roundw
            case rel => exact ⟨j + 1, by omega, by push_cast; rfl, by rw [HT0.out, HT1.out]; exact HM8, HB8⟩
            case measure => show N - ((j : Int) + 1).toNat < N - ((j : Int)).toNat; omega
          | true =>
            rw [oneIn_on hok] at HT0 HT1
            have HBD := Aside0.mk (Bits_ok s HS.out l b A1 n1 c1 (zerosN b) k wo HRC.out (bytes_zeros b) hok (HT.out.below HBw.out))
            rw [← Ef.out] at HBD
            clear hok
            go_wp2_with (first
              | (with_reducible refine wpList_load_row rfl 23 (.tmp 5) rfl w.heap.size rfl 23 (cells8 s) (0, 0) _ HR0.out Tryd.underlying23 rfl HSs.out ?_)
              | (with_reducible refine wpList_load_row rfl 26 (.tmp 11) rfl gf rfl 26 f (0, 0) _ HRf.out Tryd.underlying26 rfl Zf.out ?_))
            refine HBD.out.mono ?_
            rintro e w8 ⟨v, rfl, hR, hb8⟩
            unfold bitsD at hR
            obtain ⟨z0, hz0⟩ : ∃ z, z = bitD s l b k 0 := ⟨_, rfl⟩
            obtain ⟨z1, hz1⟩ : ∃ z, z = bitD s l b k 1 := ⟨_, rfl⟩
            rw [← hz0, ← hz1] at hR
            rw [← hz0, ← hz1] at HT0
            rw [← hz0, ← hz1] at HT1
            obtain ⟨g5, c5, rfl, hc5, hg5, hg5l, hl0, hl1⟩ := R_two hR
            have HL0 := Aside0.mk hl0
            have HL1 := Aside0.mk hl1
            have HB8 : Aside0 (Below w6.heap.size w6 w8) := ⟨HB.out.trans (hb8.mono HB.out.size)⟩
            have HM8 := Aside0.mk (blk_of_below HMT.out hb8)
            have hne : gm ≠ g5 := by have := blk_lt HMT.out; omega
            have HNE := Aside0.mk hne
            clear hb8 hR hz0 hz1 hc5 hg5 hg5l hl0 hl1 hne HBD hid HMT
            go_wp2_with fail
            go_loopw [73] (fun q W => ((q = .int .i64 0 ∧ Aside0 (W.heap[gm]? = some (.cells #[.bool (a0), .bool (a1)] 4 (0, 0)))) ∨ (q = .int .i64 1 ∧ Aside0 (W.heap[gm]? = some (.cells #[.bool (a0 || decide (y0 = z0)), .bool (a1 || decide (y1 = z0))] 4 (0, 0)))) ∨ (q = .int .i64 2 ∧ Aside0 (W.heap[gm]? = some (.cells #[.bool (a0 || decide (y0 = z0) || decide (y0 = z1)), .bool (a1 || decide (y1 = z0) || decide (y1 = z1))] 4 (0, 0))))) ∧ Aside0 (W.heap[g5]? = w8.heap[g5]?) ∧ Aside0 (Below w6.heap.size w6 W)) (fun q _ => 2 - (intOf q).toNat)
            case atStart => exact ⟨Or.inl ⟨rfl, HM8⟩, ⟨rfl⟩, HB8⟩
            case round =>
              rename World => wq
              obtain ⟨hq, HG5, HBq⟩ := hrel
              have e0 := HL0.out
              rw [← cell_same HG5.out] at e0
              have e1 := HL1.out
              rw [← cell_same HG5.out] at e1
              rcases hq with ⟨rfl, HMq⟩ | ⟨rfl, HMq⟩ | ⟨rfl, HMq⟩
              · obtain ⟨m0, hm0⟩ : ∃ z, z = (a0) := ⟨_, rfl⟩
                obtain ⟨m1, hm1⟩ : ∃ z, z = (a1) := ⟨_, rfl⟩
                rw [← hm0, ← hm1] at HMq
                have HM0 := Aside0.mk hm0
                have HM1 := Aside0.mk hm1
                clear hm0 hm1
                go_wp2_with fail
                clear e0 e1
                go_loopw [79] (fun i W => ((i = .int .i64 0 ∧ Aside0 (W.heap[gm]? = some (.cells #[.bool (m0), .bool (m1)] 4 (0, 0)))) ∨ (i = .int .i64 1 ∧ Aside0 (W.heap[gm]? = some (.cells #[.bool (m0 || decide (y0 = z0)), .bool (m1)] 4 (0, 0)))) ∨ (i = .int .i64 2 ∧ Aside0 (W.heap[gm]? = some (.cells #[.bool (m0 || decide (y0 = z0)), .bool (m1 || decide (y1 = z0))] 4 (0, 0))))) ∧ Aside0 (W.heap[g5]? = w8.heap[g5]?) ∧ Aside0 (Below w6.heap.size w6 W)) (fun i _ => 2 - (intOf i).toNat)
                case atStart => exact ⟨Or.inl ⟨rfl, HMq⟩, HG5, HBq⟩
                case round =>
                  rename World => wi
                  obtain ⟨hi, HG6, HBi⟩ := hrel
                  have hmine := HM.out wi HBi.out
                  obtain ⟨f0, f1⟩ := hmine
                  rcases hi with ⟨rfl, HMi⟩ | ⟨rfl, HMi⟩ | ⟨rfl, HMi⟩
                  · skip
                    have t0 := blk_cell HMi.out 0
                    have t1 := blk_frozen HMi.out 0
                    cases m0 with
                    | true =>
                      have HMn : Aside0 ((wi.setCell ⟨gm, 0, none⟩ (.bool true)).heap[gm]? = some (.cells #[.bool (true || decide (y0 = z0)), .bool m1] 4 (0, 0))) := ⟨blk_set HMi.out 0 _⟩
                      have HGn : Aside0 ((wi.setCell ⟨gm, 0, none⟩ (.bool true)).heap[g5]? = w8.heap[g5]?) := ⟨(Below.heap_setCell wi ⟨gm, 0, none⟩ _ g5 (fun e => HNE.out e.symm)).trans HG6.out⟩
                      have HBn : Aside0 (Below w6.heap.size w6 (wi.setCell ⟨gm, 0, none⟩ (.bool true))) := ⟨HBi.out.setCell (p := ⟨gm, 0, none⟩) (by show w6.heap.size ≤ gm; exact Nat.le_of_eq HGM.out.symm) _⟩
                      go_wp2_with fail
                      go_roundw
                      case rel => exact ⟨Or.inr (Or.inl ⟨rfl, HMn⟩), HGn, HBn⟩
                      case measure => first | decide | (show 2 - (_ : Nat) < 2 - (_ : Nat); decide)
                    | false =>
                      have HMn : Aside0 ((wi.setCell ⟨gm, 0, none⟩ (.bool (y0 == z0))).heap[gm]? = some (.cells #[.bool (false || decide (y0 = z0)), .bool m1] 4 (0, 0))) := ⟨blk_set HMi.out 0 _⟩
                      have HGn : Aside0 ((wi.setCell ⟨gm, 0, none⟩ (.bool (y0 == z0))).heap[g5]? = w8.heap[g5]?) := ⟨(Below.heap_setCell wi ⟨gm, 0, none⟩ _ g5 (fun e => HNE.out e.symm)).trans HG6.out⟩
                      have HBn : Aside0 (Below w6.heap.size w6 (wi.setCell ⟨gm, 0, none⟩ (.bool (y0 == z0)))) := ⟨HBi.out.setCell (p := ⟨gm, 0, none⟩) (by show w6.heap.size ≤ gm; exact Nat.le_of_eq HGM.out.symm) _⟩
                      go_wp2_with fail
                      go_roundw
                      case rel => exact ⟨Or.inr (Or.inl ⟨rfl, HMn⟩), HGn, HBn⟩
                      case measure => first | decide | (show 2 - (_ : Nat) < 2 - (_ : Nat); decide)
                  · obtain ⟨m0x, hm0x⟩ : ∃ z, z = (m0 || decide (y0 = z0)) := ⟨_, rfl⟩
                    rw [← hm0x] at HMi
                    have HMX := Aside0.mk hm0x
                    clear hm0x
                    have t0 := blk_cell HMi.out 1
                    have t1 := blk_frozen HMi.out 1
                    cases m1 with
                    | true =>
                      rw [HMX.out] at HMi
                      have HMn : Aside0 ((wi.setCell ⟨gm, 1, none⟩ (.bool true)).heap[gm]? = some (.cells #[.bool (m0 || decide (y0 = z0)), .bool (true || decide (y1 = z0))] 4 (0, 0))) := ⟨blk_set HMi.out 1 _⟩
                      have HGn : Aside0 ((wi.setCell ⟨gm, 1, none⟩ (.bool true)).heap[g5]? = w8.heap[g5]?) := ⟨(Below.heap_setCell wi ⟨gm, 1, none⟩ _ g5 (fun e => HNE.out e.symm)).trans HG6.out⟩
                      have HBn : Aside0 (Below w6.heap.size w6 (wi.setCell ⟨gm, 1, none⟩ (.bool true))) := ⟨HBi.out.setCell (p := ⟨gm, 1, none⟩) (by show w6.heap.size ≤ gm; exact Nat.le_of_eq HGM.out.symm) _⟩
                      go_wp2_with fail
                      go_roundw
                      case rel => exact ⟨Or.inr (Or.inr ⟨rfl, HMn⟩), HGn, HBn⟩
                      case measure => first | decide | (show 2 - (_ : Nat) < 2 - (_ : Nat); decide)
                    | false =>
                      rw [HMX.out] at HMi
                      have HMn : Aside0 ((wi.setCell ⟨gm, 1, none⟩ (.bool (y1 == z0))).heap[gm]? = some (.cells #[.bool (m0 || decide (y0 = z0)), .bool (false || decide (y1 = z0))] 4 (0, 0))) := ⟨blk_set HMi.out 1 _⟩
                      have HGn : Aside0 ((wi.setCell ⟨gm, 1, none⟩ (.bool (y1 == z0))).heap[g5]? = w8.heap[g5]?) := ⟨(Below.heap_setCell wi ⟨gm, 1, none⟩ _ g5 (fun e => HNE.out e.symm)).trans HG6.out⟩
                      have HBn : Aside0 (Below w6.heap.size w6 (wi.setCell ⟨gm, 1, none⟩ (.bool (y1 == z0)))) := ⟨HBi.out.setCell (p := ⟨gm, 1, none⟩) (by show w6.heap.size ≤ gm; exact Nat.le_of_eq HGM.out.symm) _⟩
                      go_wp2_with fail
                      go_roundw
                      case rel => exact ⟨Or.inr (Or.inr ⟨rfl, HMn⟩), HGn, HBn⟩
                      case measure => first | decide | (show 2 - (_ : Nat) < 2 - (_ : Nat); decide)
                  · skip
                    go_wp2_with fail
                    go_roundw
                    case rel => exact ⟨Or.inr (Or.inl ⟨rfl, by rw [← HM0.out, ← HM1.out]; exact HMi⟩), HG6, HBi⟩
                    case measure => first | decide | (show 2 - (_ : Nat) < 2 - (_ : Nat); decide)
              · obtain ⟨m0, hm0⟩ : ∃ z, z = (a0 || decide (y0 = z0)) := ⟨_, rfl⟩
                obtain ⟨m1, hm1⟩ : ∃ z, z = (a1 || decide (y1 = z0)) := ⟨_, rfl⟩
                rw [← hm0, ← hm1] at HMq
                have HM0 := Aside0.mk hm0
                have HM1 := Aside0.mk hm1
                clear hm0 hm1
                go_wp2_with fail
                clear e0 e1
                go_loopw [79] (fun i W => ((i = .int .i64 0 ∧ Aside0 (W.heap[gm]? = some (.cells #[.bool (m0), .bool (m1)] 4 (0, 0)))) ∨ (i = .int .i64 1 ∧ Aside0 (W.heap[gm]? = some (.cells #[.bool (m0 || decide (y0 = z1)), .bool (m1)] 4 (0, 0)))) ∨ (i = .int .i64 2 ∧ Aside0 (W.heap[gm]? = some (.cells #[.bool (m0 || decide (y0 = z1)), .bool (m1 || decide (y1 = z1))] 4 (0, 0))))) ∧ Aside0 (W.heap[g5]? = w8.heap[g5]?) ∧ Aside0 (Below w6.heap.size w6 W)) (fun i _ => 2 - (intOf i).toNat)
                case atStart => exact ⟨Or.inl ⟨rfl, HMq⟩, HG5, HBq⟩
                case round =>
                  rename World => wi
                  obtain ⟨hi, HG6, HBi⟩ := hrel
                  have hmine := HM.out wi HBi.out
                  obtain ⟨f0, f1⟩ := hmine
                  rcases hi with ⟨rfl, HMi⟩ | ⟨rfl, HMi⟩ | ⟨rfl, HMi⟩
                  · skip
                    have t0 := blk_cell HMi.out 0
                    have t1 := blk_frozen HMi.out 0
                    cases m0 with
                    | true =>
                      have HMn : Aside0 ((wi.setCell ⟨gm, 0, none⟩ (.bool true)).heap[gm]? = some (.cells #[.bool (true || decide (y0 = z1)), .bool m1] 4 (0, 0))) := ⟨blk_set HMi.out 0 _⟩
                      have HGn : Aside0 ((wi.setCell ⟨gm, 0, none⟩ (.bool true)).heap[g5]? = w8.heap[g5]?) := ⟨(Below.heap_setCell wi ⟨gm, 0, none⟩ _ g5 (fun e => HNE.out e.symm)).trans HG6.out⟩
                      have HBn : Aside0 (Below w6.heap.size w6 (wi.setCell ⟨gm, 0, none⟩ (.bool true))) := ⟨HBi.out.setCell (p := ⟨gm, 0, none⟩) (by show w6.heap.size ≤ gm; exact Nat.le_of_eq HGM.out.symm) _⟩
                      go_wp2_with fail
                      go_roundw
                      case rel => exact ⟨Or.inr (Or.inl ⟨rfl, HMn⟩), HGn, HBn⟩
                      case measure => first | decide | (show 2 - (_ : Nat) < 2 - (_ : Nat); decide)
                    | false =>
                      have HMn : Aside0 ((wi.setCell ⟨gm, 0, none⟩ (.bool (y0 == z1))).heap[gm]? = some (.cells #[.bool (false || decide (y0 = z1)), .bool m1] 4 (0, 0))) := ⟨blk_set HMi.out 0 _⟩
                      have HGn : Aside0 ((wi.setCell ⟨gm, 0, none⟩ (.bool (y0 == z1))).heap[g5]? = w8.heap[g5]?) := ⟨(Below.heap_setCell wi ⟨gm, 0, none⟩ _ g5 (fun e => HNE.out e.symm)).trans HG6.out⟩
                      have HBn : Aside0 (Below w6.heap.size w6 (wi.setCell ⟨gm, 0, none⟩ (.bool (y0 == z1)))) := ⟨HBi.out.setCell (p := ⟨gm, 0, none⟩) (by show w6.heap.size ≤ gm; exact Nat.le_of_eq HGM.out.symm) _⟩
                      go_wp2_with fail
                      go_roundw
                      case rel => exact ⟨Or.inr (Or.inl ⟨rfl, HMn⟩), HGn, HBn⟩
                      case measure => first | decide | (show 2 - (_ : Nat) < 2 - (_ : Nat); decide)
                  · obtain ⟨m0x, hm0x⟩ : ∃ z, z = (m0 || decide (y0 = z1)) := ⟨_, rfl⟩
                    rw [← hm0x] at HMi
                    have HMX := Aside0.mk hm0x
                    clear hm0x
                    have t0 := blk_cell HMi.out 1
                    have t1 := blk_frozen HMi.out 1
                    cases m1 with
                    | true =>
                      rw [HMX.out] at HMi
                      have HMn : Aside0 ((wi.setCell ⟨gm, 1, none⟩ (.bool true)).heap[gm]? = some (.cells #[.bool (m0 || decide (y0 = z1)), .bool (true || decide (y1 = z1))] 4 (0, 0))) := ⟨blk_set HMi.out 1 _⟩
                      have HGn : Aside0 ((wi.setCell ⟨gm, 1, none⟩ (.bool true)).heap[g5]? = w8.heap[g5]?) := ⟨(Below.heap_setCell wi ⟨gm, 1, none⟩ _ g5 (fun e => HNE.out e.symm)).trans HG6.out⟩
                      have HBn : Aside0 (Below w6.heap.size w6 (wi.setCell ⟨gm, 1, none⟩ (.bool true))) := ⟨HBi.out.setCell (p := ⟨gm, 1, none⟩) (by show w6.heap.size ≤ gm; exact Nat.le_of_eq HGM.out.symm) _⟩
                      go_wp2_with fail
                      go_roundw
                      case rel => exact ⟨Or.inr (Or.inr ⟨rfl, HMn⟩), HGn, HBn⟩
                      case measure => first | decide | (show 2 - (_ : Nat) < 2 - (_ : Nat); decide)
                    | false =>
                      rw [HMX.out] at HMi
                      have HMn : Aside0 ((wi.setCell ⟨gm, 1, none⟩ (.bool (y1 == z1))).heap[gm]? = some (.cells #[.bool (m0 || decide (y0 = z1)), .bool (false || decide (y1 = z1))] 4 (0, 0))) := ⟨blk_set HMi.out 1 _⟩
                      have HGn : Aside0 ((wi.setCell ⟨gm, 1, none⟩ (.bool (y1 == z1))).heap[g5]? = w8.heap[g5]?) := ⟨(Below.heap_setCell wi ⟨gm, 1, none⟩ _ g5 (fun e => HNE.out e.symm)).trans HG6.out⟩
                      have HBn : Aside0 (Below w6.heap.size w6 (wi.setCell ⟨gm, 1, none⟩ (.bool (y1 == z1)))) := ⟨HBi.out.setCell (p := ⟨gm, 1, none⟩) (by show w6.heap.size ≤ gm; exact Nat.le_of_eq HGM.out.symm) _⟩
                      go_wp2_with fail
                      go_roundw
                      case rel => exact ⟨Or.inr (Or.inr ⟨rfl, HMn⟩), HGn, HBn⟩
                      case measure => first | decide | (show 2 - (_ : Nat) < 2 - (_ : Nat); decide)
                  · skip
                    go_wp2_with fail
                    go_roundw
                    case rel => exact ⟨Or.inr (Or.inr ⟨rfl, by rw [← HM0.out, ← HM1.out]; exact HMi⟩), HG6, HBi⟩
                    case measure => first | decide | (show 2 - (_ : Nat) < 2 - (_ : Nat); decide)
              · clear e0 e1
                go_wp2_with fail
                go_roundw
                case rel => exact ⟨j + 1, by omega, by push_cast; rfl, by rw [HT0.out, HT1.out, ← Bool.or_assoc, ← Bool.or_assoc]; exact HMq, HBq⟩
                case measure => show N - ((j : Int) + 1).toNat < N - ((j : Int)).toNat; omega
        · obtain rfl : j = N := by omega
          rw [show ids.take j = ids from by rw [← HIL.out]; exact List.take_length] at HMT
          obtain ⟨a0, ha0⟩ : ∃ z, z = inD s l b ids y0 := ⟨_, rfl⟩
          obtain ⟨a1, ha1⟩ : ∃ z, z = inD s l b ids y1 := ⟨_, rfl⟩
          rw [← ha0, ← ha1] at HMT HHF
          have HXw := Aside0.mk (Kd.C_below HX6.out HB.out)
          have HRx := Aside0.mk (blk_of_below Kxc.out HB.out)
          clear ha0 ha1
          go_wp2_with fail
          cases a0 with
          | false =>
            rw [Bool.false_and] at HHF
            refine start_ (n := 19) (S := fun W => Below wo.heap.size wo W) (ds := []) #[false, false, false, false, false, false, false, false, false, false, false, false, false, false, false, false, false, false, false] (by kernel_rfl) rfl rfl (below_drew (Below.refl _ _)) (fun hHeld => ?_)
            refine pure_ (i := 0) (N := some 100) (v := ?_) (a' := ?_) #[true, false, false, false, false, false, false, false, false, false, false, false, false, false, false, false, false, false, false] rfl rfl (by kernel_rfl) (fun _ _ _ h => h) (Or.inl ⟨by rfl, ?_⟩) ?_ ?_
            rotate_left
            · intro w'
              go_simp
              with_reducible rfl
            rotate_left
            · simp only [Act.put, List.setIfInBounds_toArray, List.set_cons_zero, List.set_cons_succ, i64_w, i32_w]
              rfl
            refine pure_ (i := 1) (N := some 101) (v := ?_) (a' := ?_) #[true, true, false, false, false, false, false, false, false, false, false, false, false, false, false, false, false, false, false] rfl rfl (by kernel_rfl) (fun _ _ _ h => h) (Or.inl ⟨by rfl, ?_⟩) ?_ ?_
            rotate_left
            · intro w'
              go_simp
              with_reducible rfl
            rotate_left
            · simp only [Act.put, List.setIfInBounds_toArray, List.set_cons_zero, List.set_cons_succ, i64_w, i32_w]
              rfl
            refine pure_ (i := 2) (N := some 102) (v := ?_) (a' := ?_) #[true, true, true, false, false, false, false, false, false, false, false, false, false, false, false, false, false, false, false] rfl rfl (by kernel_rfl) (fun _ _ _ h => h) (Or.inl ⟨by rfl, ?_⟩) ?_ ?_
            rotate_left
            · intro w'
              go_simp
              with_reducible rfl
            rotate_left
            · simp only [Act.put, List.setIfInBounds_toArray, List.set_cons_zero, List.set_cons_succ, i64_w, i32_w]
              rfl
            refine pure_ (i := 3) (N := some 103) (v := ?_) (a' := ?_) #[true, true, true, true, false, false, false, false, false, false, false, false, false, false, false, false, false, false, false] rfl rfl (by kernel_rfl) (fun _ _ _ h => h) (Or.inl ⟨by rfl, ?_⟩) ?_ ?_
            rotate_left
            · intro w'
              go_simp
              with_reducible rfl
            rotate_left
            · simp only [Act.put, List.setIfInBounds_toArray, List.set_cons_zero, List.set_cons_succ, i64_w, i32_w]
              rfl
            refine take_ (i := 4) (N := some 104) (v := .agg (cells8 s)) (a' := ?_) #[true, true, true, true, true, false, false, false, false, false, false, false, false, false, false, false, false, false, false] rfl rfl (by kernel_rfl) (fun _ _ _ h => h) (Or.inl ⟨by rfl, fun w' s0 => load_run 23 (.tmp 5) rfl w.heap.size rfl 23 _ (0, 0) _ (blk_of_below HR0.out s0) Tryd.underlying23 rfl HSs.out⟩) hHeld ?_ ?_
            rotate_left
            · simp only [Act.put, List.setIfInBounds_toArray, List.set_cons_zero, List.set_cons_succ, i64_w, i32_w]
              rfl
            refine take_ (i := 5) (N := some 105) (v := .agg xc) (a' := ?_) #[true, true, true, true, true, true, false, false, false, false, false, false, false, false, false, false, false, false, false] rfl rfl (by kernel_rfl) (fun _ _ _ h => h) (Or.inl ⟨by rfl, fun w' s0 => load_run 26 (.tmp 15) rfl gx rfl 26 _ (0, 0) _ (blk_of_below HRx.out s0) Tryd.underlying26 rfl Zxc.out⟩) hHeld ?_ ?_
            rotate_left
            · simp only [Act.put, List.setIfInBounds_toArray, List.set_cons_zero, List.set_cons_succ, i64_w, i32_w]
              rfl
            refine pure_ (i := 6) (N := some 106) (v := ?_) (a' := ?_) #[true, true, true, true, true, true, true, false, false, false, false, false, false, false, false, false, false, false, false] rfl rfl (by kernel_rfl) (fun _ _ _ h => h) (Or.inl ⟨by rfl, ?_⟩) ?_ ?_
            rotate_left
            · intro w'
              go_simp
              with_reducible rfl
            rotate_left
            · simp only [Act.put, List.setIfInBounds_toArray, List.set_cons_zero, List.set_cons_succ, i64_w, i32_w]
              rfl
            refine pure_ (i := 8) (N := some 108) (v := ?_) (a' := ?_) #[true, true, true, true, true, true, true, false, true, false, false, false, false, false, false, false, false, false, false] rfl rfl (by kernel_rfl) (fun _ _ _ h => h) (Or.inl ⟨by rfl, ?_⟩) ?_ ?_
            rotate_left
            · intro w'
              go_simp
              with_reducible rfl
            rotate_left
            · simp only [Act.put, List.setIfInBounds_toArray, List.set_cons_zero, List.set_cons_succ, i64_w, i32_w]
              rfl
            refine pure_ (i := 9) (N := some 109) (v := ?_) (a' := ?_) #[true, true, true, true, true, true, true, false, true, true, false, false, false, false, false, false, false, false, false] rfl rfl (by kernel_rfl) (fun _ _ _ h => h) (Or.inl ⟨by rfl, ?_⟩) ?_ ?_
            rotate_left
            · intro w'
              go_simp
              with_reducible rfl
            rotate_left
            · simp only [Act.put, List.setIfInBounds_toArray, List.set_cons_zero, List.set_cons_succ, i64_w, i32_w]
              rfl
            have hbc := fun (W : World) (h : Below wo.heap.size wo W) => blk_cell (blk_of_below HMT.out h) 0
            have hbd := fun (W : World) (h : Below wo.heap.size wo W) => blk_cell (blk_of_below HMT.out h) 1
            refine take_ (i := 10) (N := some 110) (v := .bool false) (a' := ?_) #[true, true, true, true, true, true, true, false, true, true, true, false, false, false, false, false, false, false, false] rfl rfl (by kernel_rfl) (fun _ _ _ h => h) (Or.inl ⟨by rfl, fun w' s0 => ?_⟩) hHeld ?_ ?_
            · have hc := hbc w' s0
              go_simp
            rotate_left
            · simp only [Act.put, List.setIfInBounds_toArray, List.set_cons_zero, List.set_cons_succ, i64_w, i32_w]
              rfl
            have hBt := HBw.out.trans (hHeld.mono HBw.out.size)
            have hHS := has_calls s HS.out l b A2 n2 cx2 X id _ (Kd.C_below HXw.out hHeld) HXB.out (HT.out.below hBt)
            rw [← Exc.out, HHF.out] at hHS
            refine one_ (i := 7) (N := some 107) #[true, true, true, true, true, true, true, true, true, true, true, false, false, false, false, false, false, false, false] rfl rfl (by kernel_rfl) (by decide) (fun K hK => ?_)
            refine goes_ Tryd.func23 (by kernel_rfl) rfl #[.agg (cells8 s), .agg xc, .int .i64 id] (by rfl) rfl rfl (by (try simp only [List.map_toArray, List.map_cons, List.map_nil]); first | done | rfl) ?_
            refine (hHS).mono ?_
            rintro e W9 ⟨rfl, hb9⟩
            refine ⟨_, rfl, ?_⟩
            refine hK.out _ _ (hHeld.trans (hb9.mono hHeld.size)) (fun hNew => ?_)
            clear hHeld hK K
            have hHeld := hNew
            clear hNew
            refine norm_ (a' := ?_) ?_ ?_
            rotate_left
            · show Act.put _ (some 107) _ = _
              simp only [Act.put, List.setIfInBounds_toArray, List.set_cons_zero, List.set_cons_succ, i64_w, i32_w]
              rfl
            refine pure_ (i := 11) (N := some 111) (v := ?_) (a' := ?_) #[true, true, true, true, true, true, true, true, true, true, true, true, false, false, false, false, false, false, false] rfl rfl (by kernel_rfl) (fun _ _ _ h => h) (Or.inl ⟨by rfl, ?_⟩) ?_ ?_
            rotate_left
            · intro w'
              go_simp
              with_reducible rfl
            rotate_left
            · simp only [Act.put, List.setIfInBounds_toArray, List.set_cons_zero, List.set_cons_succ, i64_w, i32_w]
              rfl
            refine pure_ (i := 12) (N := some 112) (v := undef) (a' := ?_) #[true, true, true, true, true, true, true, true, true, true, true, true, true, false, false, false, false, false, false] rfl rfl (by kernel_rfl) (fun _ _ _ h => h) (Or.inr ⟨by rfl, rfl⟩) ?_ ?_
            rotate_left
            · simp only [Act.put, List.setIfInBounds_toArray, List.set_cons_zero, List.set_cons_succ, i64_w, i32_w]
              rfl
            refine pure_ (i := 13) (N := some 113) (v := undef) (a' := ?_) #[true, true, true, true, true, true, true, true, true, true, true, true, true, true, false, false, false, false, false] rfl rfl (by kernel_rfl) (fun _ _ _ h => h) (Or.inr ⟨by rfl, rfl⟩) ?_ ?_
            rotate_left
            · simp only [Act.put, List.setIfInBounds_toArray, List.set_cons_zero, List.set_cons_succ, i64_w, i32_w]
              rfl
            refine pure_ (i := 14) (N := some 114) (v := undef) (a' := ?_) #[true, true, true, true, true, true, true, true, true, true, true, true, true, true, true, false, false, false, false] rfl rfl (by kernel_rfl) (fun _ _ _ h => h) (Or.inr ⟨by rfl, rfl⟩) ?_ ?_
            rotate_left
            · simp only [Act.put, List.setIfInBounds_toArray, List.set_cons_zero, List.set_cons_succ, i64_w, i32_w]
              rfl
            refine pure_ (i := 15) (N := some 115) (v := ?_) (a' := ?_) #[true, true, true, true, true, true, true, true, true, true, true, true, true, true, true, true, false, false, false] rfl rfl (by kernel_rfl) (fun _ _ _ h => h) (Or.inl ⟨by rfl, ?_⟩) ?_ ?_
            rotate_left
            · intro w'
              go_simp
              with_reducible rfl
            rotate_left
            · simp only [Act.put, List.setIfInBounds_toArray, List.set_cons_zero, List.set_cons_succ, i64_w, i32_w]
              rfl
            refine pure_ (i := 16) (N := some 116) (v := ?_) (a' := ?_) #[true, true, true, true, true, true, true, true, true, true, true, true, true, true, true, true, true, false, false] rfl rfl (by kernel_rfl) (fun _ _ _ h => h) (Or.inl ⟨by rfl, ?_⟩) ?_ ?_
            rotate_left
            · intro w'
              go_simp
              with_reducible rfl
            rotate_left
            · simp only [Act.put, List.setIfInBounds_toArray, List.set_cons_zero, List.set_cons_succ, i64_w, i32_w]
              rfl
            refine pure_ (i := 17) (N := some 117) (v := ?_) (a' := ?_) #[true, true, true, true, true, true, true, true, true, true, true, true, true, true, true, true, true, true, false] rfl rfl (by kernel_rfl) (fun _ _ _ h => h) (Or.inl ⟨by rfl, ?_⟩) ?_ ?_
            rotate_left
            · intro w'
              go_simp
              with_reducible rfl
            rotate_left
            · simp only [Act.put, List.setIfInBounds_toArray, List.set_cons_zero, List.set_cons_succ, i64_w, i32_w]
              rfl
            refine pure_ (i := 18) (N := some 10) (v := ?_) (a' := ?_) #[true, true, true, true, true, true, true, true, true, true, true, true, true, true, true, true, true, true, true] rfl rfl (by kernel_rfl) (fun _ _ _ h => h) (Or.inl ⟨by rfl, ?_⟩) ?_ ?_
            rotate_left
            · intro w'
              go_simp
              with_reducible rfl
            rotate_left
            · simp only [Act.put, List.setIfInBounds_toArray, List.set_cons_zero, List.set_cons_succ, i64_w, i32_w]
              rfl
            refine done_ (by kernel_rfl) ?_
            have HB9 : Aside0 (Below w.heap.size w W9) := ⟨HBw.out.trans (hHeld.mono HBw.out.size)⟩
            clear hHeld hbc hbd
            go_wp2_with fail
            go_ret
            exact ⟨rfl, HB9.out⟩
          | true =>
            rw [Bool.true_and] at HHF
            cases a1 with
            | false =>
              refine start_ (n := 19) (S := fun W => Below wo.heap.size wo W) (ds := []) #[false, false, false, false, false, false, false, false, false, false, false, false, false, false, false, false, false, false, false] (by kernel_rfl) rfl rfl (below_drew (Below.refl _ _)) (fun hHeld => ?_)
              refine pure_ (i := 0) (N := some 100) (v := ?_) (a' := ?_) #[true, false, false, false, false, false, false, false, false, false, false, false, false, false, false, false, false, false, false] rfl rfl (by kernel_rfl) (fun _ _ _ h => h) (Or.inl ⟨by rfl, ?_⟩) ?_ ?_
              rotate_left
              · intro w'
                go_simp
                with_reducible rfl
              rotate_left
              · simp only [Act.put, List.setIfInBounds_toArray, List.set_cons_zero, List.set_cons_succ, i64_w, i32_w]
                rfl
              refine pure_ (i := 1) (N := some 101) (v := ?_) (a' := ?_) #[true, true, false, false, false, false, false, false, false, false, false, false, false, false, false, false, false, false, false] rfl rfl (by kernel_rfl) (fun _ _ _ h => h) (Or.inl ⟨by rfl, ?_⟩) ?_ ?_
              rotate_left
              · intro w'
                go_simp
                with_reducible rfl
              rotate_left
              · simp only [Act.put, List.setIfInBounds_toArray, List.set_cons_zero, List.set_cons_succ, i64_w, i32_w]
                rfl
              refine pure_ (i := 2) (N := some 102) (v := ?_) (a' := ?_) #[true, true, true, false, false, false, false, false, false, false, false, false, false, false, false, false, false, false, false] rfl rfl (by kernel_rfl) (fun _ _ _ h => h) (Or.inl ⟨by rfl, ?_⟩) ?_ ?_
              rotate_left
              · intro w'
                go_simp
                with_reducible rfl
              rotate_left
              · simp only [Act.put, List.setIfInBounds_toArray, List.set_cons_zero, List.set_cons_succ, i64_w, i32_w]
                rfl
              refine pure_ (i := 3) (N := some 103) (v := ?_) (a' := ?_) #[true, true, true, true, false, false, false, false, false, false, false, false, false, false, false, false, false, false, false] rfl rfl (by kernel_rfl) (fun _ _ _ h => h) (Or.inl ⟨by rfl, ?_⟩) ?_ ?_
              rotate_left
              · intro w'
                go_simp
                with_reducible rfl
              rotate_left
              · simp only [Act.put, List.setIfInBounds_toArray, List.set_cons_zero, List.set_cons_succ, i64_w, i32_w]
                rfl
              refine take_ (i := 4) (N := some 104) (v := .agg (cells8 s)) (a' := ?_) #[true, true, true, true, true, false, false, false, false, false, false, false, false, false, false, false, false, false, false] rfl rfl (by kernel_rfl) (fun _ _ _ h => h) (Or.inl ⟨by rfl, fun w' s0 => load_run 23 (.tmp 5) rfl w.heap.size rfl 23 _ (0, 0) _ (blk_of_below HR0.out s0) Tryd.underlying23 rfl HSs.out⟩) hHeld ?_ ?_
              rotate_left
              · simp only [Act.put, List.setIfInBounds_toArray, List.set_cons_zero, List.set_cons_succ, i64_w, i32_w]
                rfl
              refine take_ (i := 5) (N := some 105) (v := .agg xc) (a' := ?_) #[true, true, true, true, true, true, false, false, false, false, false, false, false, false, false, false, false, false, false] rfl rfl (by kernel_rfl) (fun _ _ _ h => h) (Or.inl ⟨by rfl, fun w' s0 => load_run 26 (.tmp 15) rfl gx rfl 26 _ (0, 0) _ (blk_of_below HRx.out s0) Tryd.underlying26 rfl Zxc.out⟩) hHeld ?_ ?_
              rotate_left
              · simp only [Act.put, List.setIfInBounds_toArray, List.set_cons_zero, List.set_cons_succ, i64_w, i32_w]
                rfl
              refine pure_ (i := 6) (N := some 106) (v := ?_) (a' := ?_) #[true, true, true, true, true, true, true, false, false, false, false, false, false, false, false, false, false, false, false] rfl rfl (by kernel_rfl) (fun _ _ _ h => h) (Or.inl ⟨by rfl, ?_⟩) ?_ ?_
              rotate_left
              · intro w'
                go_simp
                with_reducible rfl
              rotate_left
              · simp only [Act.put, List.setIfInBounds_toArray, List.set_cons_zero, List.set_cons_succ, i64_w, i32_w]
                rfl
              refine pure_ (i := 8) (N := some 108) (v := ?_) (a' := ?_) #[true, true, true, true, true, true, true, false, true, false, false, false, false, false, false, false, false, false, false] rfl rfl (by kernel_rfl) (fun _ _ _ h => h) (Or.inl ⟨by rfl, ?_⟩) ?_ ?_
              rotate_left
              · intro w'
                go_simp
                with_reducible rfl
              rotate_left
              · simp only [Act.put, List.setIfInBounds_toArray, List.set_cons_zero, List.set_cons_succ, i64_w, i32_w]
                rfl
              refine pure_ (i := 9) (N := some 109) (v := ?_) (a' := ?_) #[true, true, true, true, true, true, true, false, true, true, false, false, false, false, false, false, false, false, false] rfl rfl (by kernel_rfl) (fun _ _ _ h => h) (Or.inl ⟨by rfl, ?_⟩) ?_ ?_
              rotate_left
              · intro w'
                go_simp
                with_reducible rfl
              rotate_left
              · simp only [Act.put, List.setIfInBounds_toArray, List.set_cons_zero, List.set_cons_succ, i64_w, i32_w]
                rfl
              have hbc := fun (W : World) (h : Below wo.heap.size wo W) => blk_cell (blk_of_below HMT.out h) 0
              have hbd := fun (W : World) (h : Below wo.heap.size wo W) => blk_cell (blk_of_below HMT.out h) 1
              refine take_ (i := 10) (N := some 110) (v := .bool true) (a' := ?_) #[true, true, true, true, true, true, true, false, true, true, true, false, false, false, false, false, false, false, false] rfl rfl (by kernel_rfl) (fun _ _ _ h => h) (Or.inl ⟨by rfl, fun w' s0 => ?_⟩) hHeld ?_ ?_
              · have hc := hbc w' s0
                go_simp
              rotate_left
              · simp only [Act.put, List.setIfInBounds_toArray, List.set_cons_zero, List.set_cons_succ, i64_w, i32_w]
                rfl
              have hBt := HBw.out.trans (hHeld.mono HBw.out.size)
              have hHS := has_calls s HS.out l b A2 n2 cx2 X id _ (Kd.C_below HXw.out hHeld) HXB.out (HT.out.below hBt)
              rw [← Exc.out, HHF.out] at hHS
              refine one_ (i := 7) (N := some 107) #[true, true, true, true, true, true, true, true, true, true, true, false, false, false, false, false, false, false, false] rfl rfl (by kernel_rfl) (by decide) (fun K hK => ?_)
              refine goes_ Tryd.func23 (by kernel_rfl) rfl #[.agg (cells8 s), .agg xc, .int .i64 id] (by rfl) rfl rfl (by (try simp only [List.map_toArray, List.map_cons, List.map_nil]); first | done | rfl) ?_
              refine (hHS).mono ?_
              rintro e W9 ⟨rfl, hb9⟩
              refine ⟨_, rfl, ?_⟩
              refine hK.out _ _ (hHeld.trans (hb9.mono hHeld.size)) (fun hNew => ?_)
              clear hHeld hK K
              have hHeld := hNew
              clear hNew
              refine norm_ (a' := ?_) ?_ ?_
              rotate_left
              · show Act.put _ (some 107) _ = _
                simp only [Act.put, List.setIfInBounds_toArray, List.set_cons_zero, List.set_cons_succ, i64_w, i32_w]
                rfl
              refine pure_ (i := 11) (N := some 111) (v := ?_) (a' := ?_) #[true, true, true, true, true, true, true, true, true, true, true, true, false, false, false, false, false, false, false] rfl rfl (by kernel_rfl) (fun _ _ _ h => h) (Or.inl ⟨by rfl, ?_⟩) ?_ ?_
              rotate_left
              · intro w'
                go_simp
                with_reducible rfl
              rotate_left
              · simp only [Act.put, List.setIfInBounds_toArray, List.set_cons_zero, List.set_cons_succ, i64_w, i32_w]
                rfl
              refine pure_ (i := 12) (N := some 112) (v := ?_) (a' := ?_) #[true, true, true, true, true, true, true, true, true, true, true, true, true, false, false, false, false, false, false] rfl rfl (by kernel_rfl) (fun _ _ _ h => h) (Or.inl ⟨by rfl, ?_⟩) ?_ ?_
              rotate_left
              · intro w'
                go_simp
                with_reducible rfl
              rotate_left
              · simp only [Act.put, List.setIfInBounds_toArray, List.set_cons_zero, List.set_cons_succ, i64_w, i32_w]
                rfl
              refine pure_ (i := 13) (N := some 113) (v := ?_) (a' := ?_) #[true, true, true, true, true, true, true, true, true, true, true, true, true, true, false, false, false, false, false] rfl rfl (by kernel_rfl) (fun _ _ _ h => h) (Or.inl ⟨by rfl, ?_⟩) ?_ ?_
              rotate_left
              · intro w'
                go_simp
                with_reducible rfl
              rotate_left
              · simp only [Act.put, List.setIfInBounds_toArray, List.set_cons_zero, List.set_cons_succ, i64_w, i32_w]
                rfl
              refine take_ (i := 14) (N := some 114) (v := .bool false) (a' := ?_) #[true, true, true, true, true, true, true, true, true, true, true, true, true, true, true, false, false, false, false] rfl rfl (by kernel_rfl) (fun _ _ _ h => h) (Or.inl ⟨by rfl, fun w' s0 => ?_⟩) hHeld ?_ ?_
              · have hc := hbd w' s0
                go_simp
              rotate_left
              · simp only [Act.put, List.setIfInBounds_toArray, List.set_cons_zero, List.set_cons_succ, i64_w, i32_w]
                rfl
              refine pure_ (i := 15) (N := some 115) (v := ?_) (a' := ?_) #[true, true, true, true, true, true, true, true, true, true, true, true, true, true, true, true, false, false, false] rfl rfl (by kernel_rfl) (fun _ _ _ h => h) (Or.inl ⟨by rfl, ?_⟩) ?_ ?_
              rotate_left
              · intro w'
                go_simp
                with_reducible rfl
              rotate_left
              · simp only [Act.put, List.setIfInBounds_toArray, List.set_cons_zero, List.set_cons_succ, i64_w, i32_w]
                rfl
              refine pure_ (i := 16) (N := some 116) (v := ?_) (a' := ?_) #[true, true, true, true, true, true, true, true, true, true, true, true, true, true, true, true, true, false, false] rfl rfl (by kernel_rfl) (fun _ _ _ h => h) (Or.inl ⟨by rfl, ?_⟩) ?_ ?_
              rotate_left
              · intro w'
                go_simp
                with_reducible rfl
              rotate_left
              · simp only [Act.put, List.setIfInBounds_toArray, List.set_cons_zero, List.set_cons_succ, i64_w, i32_w]
                rfl
              refine pure_ (i := 17) (N := some 117) (v := ?_) (a' := ?_) #[true, true, true, true, true, true, true, true, true, true, true, true, true, true, true, true, true, true, false] rfl rfl (by kernel_rfl) (fun _ _ _ h => h) (Or.inl ⟨by rfl, ?_⟩) ?_ ?_
              rotate_left
              · intro w'
                go_simp
                with_reducible rfl
              rotate_left
              · simp only [Act.put, List.setIfInBounds_toArray, List.set_cons_zero, List.set_cons_succ, i64_w, i32_w]
                rfl
              refine pure_ (i := 18) (N := some 10) (v := ?_) (a' := ?_) #[true, true, true, true, true, true, true, true, true, true, true, true, true, true, true, true, true, true, true] rfl rfl (by kernel_rfl) (fun _ _ _ h => h) (Or.inl ⟨by rfl, ?_⟩) ?_ ?_
              rotate_left
              · intro w'
                go_simp
                with_reducible rfl
              rotate_left
              · simp only [Act.put, List.setIfInBounds_toArray, List.set_cons_zero, List.set_cons_succ, i64_w, i32_w]
                rfl
              refine done_ (by kernel_rfl) ?_
              have HB9 : Aside0 (Below w.heap.size w W9) := ⟨HBw.out.trans (hHeld.mono HBw.out.size)⟩
              clear hHeld hbc hbd
              go_wp2_with fail
              go_ret
              exact ⟨rfl, HB9.out⟩
            | true =>
              refine start_ (n := 19) (S := fun W => Below wo.heap.size wo W) (ds := []) #[false, false, false, false, false, false, false, false, false, false, false, false, false, false, false, false, false, false, false] (by kernel_rfl) rfl rfl (below_drew (Below.refl _ _)) (fun hHeld => ?_)
              refine pure_ (i := 0) (N := some 100) (v := ?_) (a' := ?_) #[true, false, false, false, false, false, false, false, false, false, false, false, false, false, false, false, false, false, false] rfl rfl (by kernel_rfl) (fun _ _ _ h => h) (Or.inl ⟨by rfl, ?_⟩) ?_ ?_
              rotate_left
              · intro w'
                go_simp
                with_reducible rfl
              rotate_left
              · simp only [Act.put, List.setIfInBounds_toArray, List.set_cons_zero, List.set_cons_succ, i64_w, i32_w]
                rfl
              refine pure_ (i := 1) (N := some 101) (v := ?_) (a' := ?_) #[true, true, false, false, false, false, false, false, false, false, false, false, false, false, false, false, false, false, false] rfl rfl (by kernel_rfl) (fun _ _ _ h => h) (Or.inl ⟨by rfl, ?_⟩) ?_ ?_
              rotate_left
              · intro w'
                go_simp
                with_reducible rfl
              rotate_left
              · simp only [Act.put, List.setIfInBounds_toArray, List.set_cons_zero, List.set_cons_succ, i64_w, i32_w]
                rfl
              refine pure_ (i := 2) (N := some 102) (v := ?_) (a' := ?_) #[true, true, true, false, false, false, false, false, false, false, false, false, false, false, false, false, false, false, false] rfl rfl (by kernel_rfl) (fun _ _ _ h => h) (Or.inl ⟨by rfl, ?_⟩) ?_ ?_
              rotate_left
              · intro w'
                go_simp
                with_reducible rfl
              rotate_left
              · simp only [Act.put, List.setIfInBounds_toArray, List.set_cons_zero, List.set_cons_succ, i64_w, i32_w]
                rfl
              refine pure_ (i := 3) (N := some 103) (v := ?_) (a' := ?_) #[true, true, true, true, false, false, false, false, false, false, false, false, false, false, false, false, false, false, false] rfl rfl (by kernel_rfl) (fun _ _ _ h => h) (Or.inl ⟨by rfl, ?_⟩) ?_ ?_
              rotate_left
              · intro w'
                go_simp
                with_reducible rfl
              rotate_left
              · simp only [Act.put, List.setIfInBounds_toArray, List.set_cons_zero, List.set_cons_succ, i64_w, i32_w]
                rfl
              refine take_ (i := 4) (N := some 104) (v := .agg (cells8 s)) (a' := ?_) #[true, true, true, true, true, false, false, false, false, false, false, false, false, false, false, false, false, false, false] rfl rfl (by kernel_rfl) (fun _ _ _ h => h) (Or.inl ⟨by rfl, fun w' s0 => load_run 23 (.tmp 5) rfl w.heap.size rfl 23 _ (0, 0) _ (blk_of_below HR0.out s0) Tryd.underlying23 rfl HSs.out⟩) hHeld ?_ ?_
              rotate_left
              · simp only [Act.put, List.setIfInBounds_toArray, List.set_cons_zero, List.set_cons_succ, i64_w, i32_w]
                rfl
              refine take_ (i := 5) (N := some 105) (v := .agg xc) (a' := ?_) #[true, true, true, true, true, true, false, false, false, false, false, false, false, false, false, false, false, false, false] rfl rfl (by kernel_rfl) (fun _ _ _ h => h) (Or.inl ⟨by rfl, fun w' s0 => load_run 26 (.tmp 15) rfl gx rfl 26 _ (0, 0) _ (blk_of_below HRx.out s0) Tryd.underlying26 rfl Zxc.out⟩) hHeld ?_ ?_
              rotate_left
              · simp only [Act.put, List.setIfInBounds_toArray, List.set_cons_zero, List.set_cons_succ, i64_w, i32_w]
                rfl
              refine pure_ (i := 6) (N := some 106) (v := ?_) (a' := ?_) #[true, true, true, true, true, true, true, false, false, false, false, false, false, false, false, false, false, false, false] rfl rfl (by kernel_rfl) (fun _ _ _ h => h) (Or.inl ⟨by rfl, ?_⟩) ?_ ?_
              rotate_left
              · intro w'
                go_simp
                with_reducible rfl
              rotate_left
              · simp only [Act.put, List.setIfInBounds_toArray, List.set_cons_zero, List.set_cons_succ, i64_w, i32_w]
                rfl
              refine pure_ (i := 8) (N := some 108) (v := ?_) (a' := ?_) #[true, true, true, true, true, true, true, false, true, false, false, false, false, false, false, false, false, false, false] rfl rfl (by kernel_rfl) (fun _ _ _ h => h) (Or.inl ⟨by rfl, ?_⟩) ?_ ?_
              rotate_left
              · intro w'
                go_simp
                with_reducible rfl
              rotate_left
              · simp only [Act.put, List.setIfInBounds_toArray, List.set_cons_zero, List.set_cons_succ, i64_w, i32_w]
                rfl
              refine pure_ (i := 9) (N := some 109) (v := ?_) (a' := ?_) #[true, true, true, true, true, true, true, false, true, true, false, false, false, false, false, false, false, false, false] rfl rfl (by kernel_rfl) (fun _ _ _ h => h) (Or.inl ⟨by rfl, ?_⟩) ?_ ?_
              rotate_left
              · intro w'
                go_simp
                with_reducible rfl
              rotate_left
              · simp only [Act.put, List.setIfInBounds_toArray, List.set_cons_zero, List.set_cons_succ, i64_w, i32_w]
                rfl
              have hbc := fun (W : World) (h : Below wo.heap.size wo W) => blk_cell (blk_of_below HMT.out h) 0
              have hbd := fun (W : World) (h : Below wo.heap.size wo W) => blk_cell (blk_of_below HMT.out h) 1
              refine take_ (i := 10) (N := some 110) (v := .bool true) (a' := ?_) #[true, true, true, true, true, true, true, false, true, true, true, false, false, false, false, false, false, false, false] rfl rfl (by kernel_rfl) (fun _ _ _ h => h) (Or.inl ⟨by rfl, fun w' s0 => ?_⟩) hHeld ?_ ?_
              · have hc := hbc w' s0
                go_simp
              rotate_left
              · simp only [Act.put, List.setIfInBounds_toArray, List.set_cons_zero, List.set_cons_succ, i64_w, i32_w]
                rfl
              have hBt := HBw.out.trans (hHeld.mono HBw.out.size)
              have hHS := has_calls s HS.out l b A2 n2 cx2 X id _ (Kd.C_below HXw.out hHeld) HXB.out (HT.out.below hBt)
              rw [← Exc.out, HHF.out] at hHS
              refine one_ (i := 7) (N := some 107) #[true, true, true, true, true, true, true, true, true, true, true, false, false, false, false, false, false, false, false] rfl rfl (by kernel_rfl) (by decide) (fun K hK => ?_)
              refine goes_ Tryd.func23 (by kernel_rfl) rfl #[.agg (cells8 s), .agg xc, .int .i64 id] (by rfl) rfl rfl (by (try simp only [List.map_toArray, List.map_cons, List.map_nil]); first | done | rfl) ?_
              refine (hHS).mono ?_
              rintro e W9 ⟨rfl, hb9⟩
              refine ⟨_, rfl, ?_⟩
              refine hK.out _ _ (hHeld.trans (hb9.mono hHeld.size)) (fun hNew => ?_)
              clear hHeld hK K
              have hHeld := hNew
              clear hNew
              refine norm_ (a' := ?_) ?_ ?_
              rotate_left
              · show Act.put _ (some 107) _ = _
                simp only [Act.put, List.setIfInBounds_toArray, List.set_cons_zero, List.set_cons_succ, i64_w, i32_w]
                rfl
              refine pure_ (i := 11) (N := some 111) (v := ?_) (a' := ?_) #[true, true, true, true, true, true, true, true, true, true, true, true, false, false, false, false, false, false, false] rfl rfl (by kernel_rfl) (fun _ _ _ h => h) (Or.inl ⟨by rfl, ?_⟩) ?_ ?_
              rotate_left
              · intro w'
                go_simp
                with_reducible rfl
              rotate_left
              · simp only [Act.put, List.setIfInBounds_toArray, List.set_cons_zero, List.set_cons_succ, i64_w, i32_w]
                rfl
              refine pure_ (i := 12) (N := some 112) (v := ?_) (a' := ?_) #[true, true, true, true, true, true, true, true, true, true, true, true, true, false, false, false, false, false, false] rfl rfl (by kernel_rfl) (fun _ _ _ h => h) (Or.inl ⟨by rfl, ?_⟩) ?_ ?_
              rotate_left
              · intro w'
                go_simp
                with_reducible rfl
              rotate_left
              · simp only [Act.put, List.setIfInBounds_toArray, List.set_cons_zero, List.set_cons_succ, i64_w, i32_w]
                rfl
              refine pure_ (i := 13) (N := some 113) (v := ?_) (a' := ?_) #[true, true, true, true, true, true, true, true, true, true, true, true, true, true, false, false, false, false, false] rfl rfl (by kernel_rfl) (fun _ _ _ h => h) (Or.inl ⟨by rfl, ?_⟩) ?_ ?_
              rotate_left
              · intro w'
                go_simp
                with_reducible rfl
              rotate_left
              · simp only [Act.put, List.setIfInBounds_toArray, List.set_cons_zero, List.set_cons_succ, i64_w, i32_w]
                rfl
              refine take_ (i := 14) (N := some 114) (v := .bool true) (a' := ?_) #[true, true, true, true, true, true, true, true, true, true, true, true, true, true, true, false, false, false, false] rfl rfl (by kernel_rfl) (fun _ _ _ h => h) (Or.inl ⟨by rfl, fun w' s0 => ?_⟩) hHeld ?_ ?_
              · have hc := hbd w' s0
                go_simp
              rotate_left
              · simp only [Act.put, List.setIfInBounds_toArray, List.set_cons_zero, List.set_cons_succ, i64_w, i32_w]
                rfl
              refine pure_ (i := 15) (N := some 115) (v := ?_) (a' := ?_) #[true, true, true, true, true, true, true, true, true, true, true, true, true, true, true, true, false, false, false] rfl rfl (by kernel_rfl) (fun _ _ _ h => h) (Or.inl ⟨by rfl, ?_⟩) ?_ ?_
              rotate_left
              · intro w'
                go_simp
                with_reducible rfl
              rotate_left
              · simp only [Act.put, List.setIfInBounds_toArray, List.set_cons_zero, List.set_cons_succ, i64_w, i32_w]
                rfl
              refine pure_ (i := 16) (N := some 116) (v := ?_) (a' := ?_) #[true, true, true, true, true, true, true, true, true, true, true, true, true, true, true, true, true, false, false] rfl rfl (by kernel_rfl) (fun _ _ _ h => h) (Or.inl ⟨by rfl, ?_⟩) ?_ ?_
              rotate_left
              · intro w'
                go_simp
                with_reducible rfl
              rotate_left
              · simp only [Act.put, List.setIfInBounds_toArray, List.set_cons_zero, List.set_cons_succ, i64_w, i32_w]
                rfl
              refine pure_ (i := 17) (N := some 117) (v := ?_) (a' := ?_) #[true, true, true, true, true, true, true, true, true, true, true, true, true, true, true, true, true, true, false] rfl rfl (by kernel_rfl) (fun _ _ _ h => h) (Or.inl ⟨by rfl, ?_⟩) ?_ ?_
              rotate_left
              · intro w'
                go_simp
                with_reducible rfl
              rotate_left
              · simp only [Act.put, List.setIfInBounds_toArray, List.set_cons_zero, List.set_cons_succ, i64_w, i32_w]
                rfl
              refine pure_ (i := 18) (N := some 10) (v := ?_) (a' := ?_) #[true, true, true, true, true, true, true, true, true, true, true, true, true, true, true, true, true, true, true] rfl rfl (by kernel_rfl) (fun _ _ _ h => h) (Or.inl ⟨by rfl, ?_⟩) ?_ ?_
              rotate_left
              · intro w'
                go_simp
                with_reducible rfl
              rotate_left
              · simp only [Act.put, List.setIfInBounds_toArray, List.set_cons_zero, List.set_cons_succ, i64_w, i32_w]
                rfl
              refine done_ (by kernel_rfl) ?_
              have HB9 : Aside0 (Below w.heap.size w W9) := ⟨HBw.out.trans (hHeld.mono HBw.out.size)⟩
              clear hHeld hbc hbd
              go_wp2_with fail
              go_ret
              exact ⟨rfl, HB9.out⟩
end Go.Proofs.YtgiofinekmaceaaDoor.Q
