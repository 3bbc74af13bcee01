-- printed by wip/prt.py (the kit's printer with given functions)
import Derived.Test.YtekpbncljaeemaaQx0
import Derived.Test.YtekpbncljaeemaaQx1
import Derived.Test.YtekpbncljaeemaaQx2
namespace Go.Proofs.Ytekpbncljaeemaa.Q
open Go.RowKit Go.Proofs.YtekpbncljaeemaaW.PrintWords Go.Proofs.YtekpbncljaeemaaW.PrintLast Go.Proofs.YtekpbncljaeemaaW.PrintMore
attribute [local go_sem] max2_int min2_int max_two min_two max_three min_three max_four min_four   -- for this text's walks alone
set_option linter.unusedVariables false
set_option linter.unusedSimpArgs false


/-! ### what Masks and Ask compute -/
def flipMask (m : List Int) (n : Nat) : List Int := m.set (n / 8) (Go.bits .xor .u8 (rd m ((n / 8 : Nat) : Int)) (2 ^ (n % 8)))
def masksOf (many at_ : Int) (c : List Int) : List Int × List Int × Int :=
  if many < 1 ∨ 1024 < many ∨ (c.length : Int) ≠ (many + 7) / 8 then ([], [], 360) else if at_ < 0 ∨ many ≤ at_ then ([], [], 1) else (ofMask many.toNat c, flipMask (ofMask many.toNat c) at_.toNat, 0)
theorem ofMask_length (many : Nat) (m : List Int) : (ofMask many m).length = m.length := by unfold ofMask; split <;> simp
theorem flip_mask (m : List Int) (n : Nat) (hn : n ≤ 1000000) (h : n / 8 < m.length) : retrieval_mask_flip.f m (n : Int) = some (flipMask m n) := by
  unfold retrieval_mask_flip.f flipMask
  have e1 : Int.tmod (n : Int) 8 = ((n % 8 : Nat) : Int) := by rw [Int.tmod_eq_emod_of_nonneg (by omega)]; omega
  have e2 : wrap64 (Int.tdiv (n : Int) 8) = ((n / 8 : Nat) : Int) := by
    have : Int.tdiv (n : Int) 8 = ((n / 8 : Nat) : Int) := by rw [Int.tdiv_eq_ediv_of_nonneg (by omega)]; omega
    rw [this]; unfold wrap64; omega
  rw [e1, e2, if_pos (by omega), if_pos (by omega), if_pos (by omega), Int.toNat_natCast]
  congr 3
  have h8 : n % 8 < 8 := Nat.mod_lt _ (by decide)
  generalize n % 8 = r at *
  have : ∀ r : Fin 8, shl .u8 1 ((r.1 : Nat) : Int) = 2 ^ r.1 := by decide
  exact this ⟨r, h8⟩
theorem size_of (mn : Nat) (h : mn ≤ 1024) : retrieval_size.f (mn : Int) = some (((mn + 7) / 8 : Nat) : Int) := by
  unfold retrieval_size.f
  have e1 : wrap64 ((mn : Int) + 7) = (mn : Int) + 7 := by unfold wrap64; omega
  rw [e1, Int.tdiv_eq_ediv_of_nonneg (by omega)]
  have e2 : wrap64 (((mn : Int) + 7) / 8) = (((mn + 7) / 8 : Nat) : Int) := by unfold wrap64; omega
  rw [e2]
theorem masks_j1 (k mn a : Nat) (c : List Int) (h2 : mn ≤ 1024) (h3 : c.length = (mn + 7) / 8) (h5 : a < mn) : retrieval_Masks.j1 (k + 1) (mn : Int) (a : Int) c false = some (ofMask mn c, flipMask (ofMask mn c) a, 0) := by
  rw [retrieval_Masks.j1, if_neg (by simp), of_mask mn c h2 h3, Option.bind_some, Option.bind_some, flip_mask _ a (by omega) (by rw [ofMask_length]; omega), Option.bind_some]
theorem masks_of (k : Nat) (many at_ : Int) (c : List Int) : retrieval_Masks.f (k + 2) many at_ c = some (masksOf many at_ c) := by
  unfold retrieval_Masks.f masksOf
  by_cases h1 : many < 1
  · rw [if_pos h1, if_pos (.inl h1), retrieval_Masks.j0, if_pos rfl]
  · by_cases h2 : 1024 < many
    · rw [if_neg h1, if_pos h2, if_pos (.inr (.inl h2)), retrieval_Masks.j0, if_pos rfl]
    · rw [if_neg h1, if_neg h2]
      obtain ⟨mn, rfl⟩ := Int.eq_ofNat_of_zero_le (show 0 ≤ many by omega)
      rw [size_of mn (by omega), Option.bind_some]
      by_cases h3 : (c.length : Int) = ((mn : Int) + 7) / 8
      · rw [if_neg (fun q => by rcases q with q | q | q <;> omega)]
        have hb : ((c.length : Int) != (((mn + 7) / 8 : Nat) : Int)) = false := by rw [bne_eq_false_iff_eq]; omega
        rw [hb, retrieval_Masks.j0, if_neg (by simp)]
        by_cases h4 : at_ < 0
        · rw [if_pos h4, if_pos (.inl h4), retrieval_Masks.j1, if_pos rfl]
        · rw [if_neg h4]
          by_cases h5 : (mn : Int) ≤ at_
          · have hd : decide (at_ ≥ (mn : Int)) = true := decide_eq_true h5
            rw [if_pos (.inr h5), hd, retrieval_Masks.j1, if_pos rfl]
          · have hd : decide (at_ ≥ (mn : Int)) = false := decide_eq_false (by omega)
            obtain ⟨a, rfl⟩ := Int.eq_ofNat_of_zero_le (show 0 ≤ at_ by omega)
            rw [if_neg (fun q => by rcases q with q | q <;> omega), hd, masks_j1 k mn a c (by omega) (by omega) (by omega), Int.toNat_natCast, Int.toNat_natCast]
      · rw [if_pos (.inr (.inr h3))]
        have hb : ((c.length : Int) != (((mn + 7) / 8 : Nat) : Int)) = true := by rw [bne_iff_ne]; omega
        rw [hb, retrieval_Masks.j0, if_pos rfl]
def askAt (many : Int) (at_ : List Int) (coins : List (List Int)) (i : Nat) : List Int × List Int × Int := masksOf many (if i < at_.length then rd at_ (i : Int) else 0) (coins.getD i [])
def askBad (at_ : List Int) (batch : Int) (coins : List (List Int)) : Bool := decide (batch < 1) || decide (132 < batch) || decide (batch < at_.length) || ((coins.length : Int) != batch)
def askErr (many : Int) (at_ : List Int) (coins : List (List Int)) : Nat → Int
  | 0 => 0
  | n + 1 => if askErr many at_ coins n = 0 then (askAt many at_ coins n).2.2 else askErr many at_ coins n
def retrieval_Ask.f (a0 : Int) (l1 : List Int) (a2 : Int) (l3 : List (List Int)) : Option ((List (List Int)) × (List (List Int)) × Int) :=
  if askBad l1 a2 l3 then some ([], [], 360) else if askErr a0 l1 l3 l3.length = 0 then some ((List.range l3.length).map (fun i => (askAt a0 l1 l3 i).1), (List.range l3.length).map (fun i => (askAt a0 l1 l3 i).2.1), 0) else some ([], [], askErr a0 l1 l3 l3.length)


theorem results_cct {P : Program} {fn : Func} {p q u : Tmp} {ty ty' : TypeId} (h : fn.results = #[.cell p ty, .cell q ty', .tmp u]) (tmps : Array Value) (w : World) (g g' : Nat) (t t' : TypeId) (cs cs' : Array Value) (fr fr' : Nat × Nat) (d d' : TypeDesc)
    (hp : tmps.getD p undef = .pointer (some ⟨g, 0, none⟩)) (hg : w.heap[g]? = some (.cells cs t fr))
    (hu : P.underlying ty = some d) (hd : (match d with | .struct _ | .array _ _ => true | _ => false) = true) (hi : (P.info? ty).map (·.size) = some cs.size)
    (hq : tmps.getD q undef = .pointer (some ⟨g', 0, none⟩)) (hg' : w.heap[g']? = some (.cells cs' t' fr'))
    (hu' : P.underlying ty' = some d') (hd' : (match d' with | .struct _ | .array _ _ => true | _ => false) = true) (hi' : (P.info? ty').map (·.size) = some cs'.size) :
    (results fn tmps).run P w = .ok (.tuple #[.agg cs, .agg cs', tmps.getD u undef]) w := by
  have hp' : tmps[p]?.getD undef = .pointer (some ⟨g, 0, none⟩) := by simpa using hp
  have hq' : tmps[q]?.getD undef = .pointer (some ⟨g', 0, none⟩) := by simpa using hq
  simp [results, h, hp', hq', asAddr, run_loadVar_row w g t ty cs fr d hg hu hd hi, run_loadVar_row w g' t' ty' cs' fr' d' hg' hu' hd' hi']

theorem heap_two (w : World) (a b : Obj) : ((w.alloc a).alloc b).heap[w.heap.size]? = some a ∧ ((w.alloc a).alloc b).heap[w.heap.size + 1]? = some b :=
  ⟨blk_alloc (heap_alloc_new w a) b, by simpa using heap_alloc_new (w.alloc a) b⟩
set_option maxHeartbeats 4000000 in
set_option maxRecDepth 100000 in
theorem ask_bad (a0 : Int) (A1 : Option Addr) (c1 : Nat) (l1 : List Int) (a2 : Int) (A3 : Option Addr) (c3 : Nat) (l3 : List (List Int)) (w : World) (h : askBad l1 a2 l3 = true) :
    Calls Try.prog 20 #[.int .i64 a0, .slice A1 l1.length c1, .int .i64 a2, .slice A3 l3.length c3] w fun e w' => e = .returned (.tuple #[.agg #[.slice none 0 0], .agg #[.slice none 0 0], .int .i64 360]) ∧ Below w.heap.size w w' := by
  have H := Aside0.mk h
  clear h
  have hu32 := Try.underlying32
  have fin : ∀ (tmps : Array Value), tmps.getD 8 undef = .pointer (some ⟨w.heap.size, 0, none⟩) → tmps.getD 9 undef = .pointer (some ⟨w.heap.size + 1, 0, none⟩) → tmps.getD 10 undef = .int .i64 360 →
      bodyPost Try.prog Try.f20 (fun e w' => e = .returned (.tuple #[.agg #[.slice none 0 0], .agg #[.slice none 0 0], .int .i64 360]) ∧ Below w.heap.size w w') Exit.ret
        { tmps := tmps, defers := [] } ((w.alloc (.cells #[.slice none 0 0] 32)).alloc (.cells #[.slice none 0 0] 32)).drew := by
    intro tmps h8 h9 h10
    obtain ⟨e1, e2⟩ := heap_two w (.cells #[.slice none 0 0] 32) (.cells #[.slice none 0 0] 32)
    refine bodyPost_ret (results_cct rfl _ _ w.heap.size (w.heap.size + 1) 32 32 #[.slice none 0 0] #[.slice none 0 0] (0, 0) (0, 0) _ _ h8 (blk_drew e1) Try.underlying32 rfl (by kernel_rfl) h9 (blk_drew e2) Try.underlying32 rfl (by kernel_rfl)) rfl ?_
    rw [h10]
    exact ⟨rfl, below_drew (((Below.refl _ _).alloc (Nat.le_refl _) _).alloc (by simp) _)⟩
  have FIN := Lib.hid fin
  clear fin
  by_cases h1 : a2 < 1
  · go_enter Try.func20, Try.ntmps20
    go_wp2
    go_region
    go_wp2
    exact FIN.out _ rfl rfl rfl
  · by_cases h2 : 132 < a2
    · go_enter Try.func20, Try.ntmps20
      go_wp2
      go_region
      go_wp2
      exact FIN.out _ rfl rfl rfl
    · by_cases h3 : a2 < l1.length
      · go_enter Try.func20, Try.ntmps20
        go_wp2
        go_region
        go_wp2
        exact FIN.out _ rfl rfl rfl
      · have h4 : ((l3.length : Int) != a2) = true := by
          have := H.out
          unfold askBad at this
          simpa [h1, h2, h3] using this
        go_enter Try.func20, Try.ntmps20
        go_wp2
        go_region
        go_wp2
        exact FIN.out _ rfl rfl rfl


section
variable {P : Program} {ops : Array Oper} {o : Oper} {a : Act} {Q : Exit → Act → World → Prop} {Kc : Act → World → Prop} {α : Type}
/-- append(v, x): x's cell lies in a block that was laid at any time. -/
theorem S_append_step_at (d : Kd α) {w0 W : World} (base : Nat) (hw : Region.wanted o (yielded ops a.tmps) = true) (s x : Operand) (t e : TypeId) (z : Value) (bytes : Nat)
    (ho : o.op = .call { callee := .builtin .append, args := #[s, x], argTypes := #[t, t] })
    (ht : P.underlying t = some (.slice e)) (hinfo : (P.info? e).map (fun i => (i.zero, i.size, i.bytes)) = some (some z, d.sz, bytes)) (hz : z.cells.size = d.sz) (hs0 : 0 < d.sz) (hb0 : 0 < bytes)
    (v : Value) (xs : List α) (p : α) (cs : List Value) (ok okp : Nat → Prop) (hs : a.eval s = v) (gx : Nat) (hx : a.eval x = .slice (some ⟨gx, 0, none⟩) 1 1) (hgx : W.heap[gx]? = some (.cells cs.toArray e (0, 0))) (hp : d.M W base okp p cs) (hokp : ∀ k, okp k → ok k ∧ some k ≠ v.ownBlock) (hfresh : ∀ k, W.heap.size ≤ k → ok k)
    (HO : Kd.S d e W base (fun k => ok k ∧ ¬ okp k) v xs) (HB : Below base w0 W) (hbase : base ≤ W.heap.size) (hl : (xs.length + 1) * bytes ≤ 140737488355328)
    (h : ∀ v1 w1, Kd.S d e w1 base ok v1 (xs ++ [p]) → Below base w0 w1 → W.grownBy w1 v.ownBlock → (v1.ownBlock = v.ownBlock ∨ ∃ b, v1.ownBlock = some b ∧ W.heap.size ≤ b) → Kc (a.put o.dst v1) w1) :
    if Region.wanted o (yielded ops a.tmps) = true then Oper.wp P o a W Kc Q else Kc (a.put o.dst undef) W := by
  obtain ⟨f, hf, hR⟩ := Kd.S_tag HO xs.length okp (fun _ hk h2 => h2.2 hk)
  obtain ⟨h0, inner, hown, hr⟩ := Kd.R_mono hR (fun _ hk => hk.1)
  obtain ⟨i0, hi, hzz⟩ := Option.map_eq_some_iff.1 hinfo
  simp only [Prod.mk.injEq] at hzz
  obtain ⟨hz0, hz1, hz2⟩ := hzz
  have hp2 : (Kd.tag f d).M W base okp (p, xs.length) cs := d.M_mono (fun k hk => ⟨hk, hf k hk⟩) hp
  have hlz : xs.zipIdx.length = xs.length := List.length_zipIdx
  have hys : cs.length = d.sz := d.K_len (d.K_of_M hp)
  have hlen : xs.length + 1 ≤ 140737488355328 := Nat.le_trans (Nat.le_mul_of_pos_right _ hb0) hl
  rw [if_pos hw]
  obtain ⟨v1, w1, hrun, hown1, hg, _, hat⟩ := run_append_own_at (P := P) W base t o.type e i0 z d.sz bytes ht hi hz0 hz1 hz2 hz hs0 v xs.zipIdx.length inner hown ⟨gx, 0, none⟩ 1 1 cs (by rw [hys]; simp)
    (by simpa using World.news_of_block (cs := cs.toArray) (t := e) (fr := (0, 0)) hgx) (d.K_one (d.K_of_M hp)) (by simp only [maxLen]; omega) (by rw [hlz]; exact hl) hbase
  have hat2 : v1.ownBlock = v.ownBlock ∨ ∃ b, v1.ownBlock = some b ∧ W.heap.size ≤ b := hat.imp id (fun e => ⟨_, e, Nat.le_refl _⟩)
  unfold Oper.wp execOp
  simp only [ho, resolve, invoke, builtin, Sem.run_bind, Sem.run_pure, Result.andThen_ok, List.map_toArray, List.map_cons, List.map_nil, hs, hx, hrun]
  refine h v1 w1 ⟨f, ?_⟩ (HB.grown hg hbase (own_base hown)) hg hat2
  have := Kd.R_appended (d := Kd.tag f d) h0 hr hp2 hokp hfresh hown1 hg hat2
  rwa [← Kd.zip_snoc] at this
end

/-- what holds of the two rows, of x and of y, before they are appended; g is at least every block of the rows -/
structure AskW (w W : World) (va0 vb0 va vb vx vy : Value) (La Lb : List (List Int)) (x y : List Int) : Prop where
  ga : W.heap[w.heap.size]? = some (.cells #[va0] 32 (0, 0))
  gb : W.heap[w.heap.size + 1]? = some (.cells #[vb0] 32 (0, 0))
  sa : Kd.S (Kd.slice 5 (Kd.int .u8)) 22 W w.heap.size (fun k => some k ≠ vb.ownBlock ∧ some k ≠ vx.ownBlock ∧ some k ≠ vy.ownBlock) va La
  sb : Kd.S (Kd.slice 5 (Kd.int .u8)) 22 W w.heap.size (fun k => some k ≠ va.ownBlock ∧ some k ≠ vx.ownBlock ∧ some k ≠ vy.ownBlock) vb Lb
  rx : Kd.R (Kd.int .u8) 5 W w.heap.size (fun k => some k ≠ va.ownBlock ∧ some k ≠ vb.ownBlock ∧ some k ≠ vy.ownBlock) vx x
  ry : Kd.R (Kd.int .u8) 5 W w.heap.size (fun k => some k ≠ va.ownBlock ∧ some k ≠ vb.ownBlock ∧ some k ≠ vx.ownBlock) vy y
  bel : Below w.heap.size w W
structure AskW1 (w W : World) (va0 vb0 va vb vy : Value) (La Lb : List (List Int)) (y : List Int) : Prop where
  ga : W.heap[w.heap.size]? = some (.cells #[va0] 32 (0, 0))
  gb : W.heap[w.heap.size + 1]? = some (.cells #[vb0] 32 (0, 0))
  sa : Kd.S (Kd.slice 5 (Kd.int .u8)) 22 W w.heap.size (fun k => some k ≠ vb.ownBlock ∧ some k ≠ vy.ownBlock) va La
  sb : Kd.S (Kd.slice 5 (Kd.int .u8)) 22 W w.heap.size (fun k => some k ≠ va.ownBlock ∧ some k ≠ vy.ownBlock) vb Lb
  ry : Kd.R (Kd.int .u8) 5 W w.heap.size (fun k => some k ≠ va.ownBlock ∧ some k ≠ vb.ownBlock) vy y
  bel : Below w.heap.size w W
structure AskW2 (w W : World) (va0 vb0 va vb : Value) (La Lb : List (List Int)) : Prop where
  ga : W.heap[w.heap.size]? = some (.cells #[va0] 32 (0, 0))
  gb : W.heap[w.heap.size + 1]? = some (.cells #[vb0] 32 (0, 0))
  sa : Kd.S (Kd.slice 5 (Kd.int .u8)) 22 W w.heap.size (fun k => some k ≠ vb.ownBlock) va La
  sb : Kd.S (Kd.slice 5 (Kd.int .u8)) 22 W w.heap.size (fun k => some k ≠ va.ownBlock) vb Lb
  bel : Below w.heap.size w W
theorem AskW.alloc {w W : World} {va0 vb0 va vb vx vy : Value} {La Lb : List (List Int)} {x y : List Int} (h : AskW w W va0 vb0 va vb vx vy La Lb x y) (o : Obj) : AskW w (W.alloc o) va0 vb0 va vb vx vy La Lb x y :=
  ⟨blk_alloc h.ga o, blk_alloc h.gb o, Kd.S_alloc h.sa o, Kd.S_alloc h.sb o, Kd.R_alloc h.rx o, Kd.R_alloc h.ry o, below_alloc h.bel o⟩
theorem AskW1.alloc {w W : World} {va0 vb0 va vb vy : Value} {La Lb : List (List Int)} {y : List Int} (h : AskW1 w W va0 vb0 va vb vy La Lb y) (o : Obj) : AskW1 w (W.alloc o) va0 vb0 va vb vy La Lb y :=
  ⟨blk_alloc h.ga o, blk_alloc h.gb o, Kd.S_alloc h.sa o, Kd.S_alloc h.sb o, Kd.R_alloc h.ry o, below_alloc h.bel o⟩
theorem S_lt {w : World} {base : Nat} {ok : Nat → Prop} {v : Value} {xs : List (List Int)} (h : Kd.S (Kd.slice 5 (Kd.int .u8)) 22 w base ok v xs) : ∀ k, v.ownBlock = some k → k < w.heap.size :=
  fun k hk => ((Kd.S_R (Kd.S_bound h)).1 k hk).2.2.1
theorem R_lt {w : World} {base : Nat} {ok : Nat → Prop} {v : Value} {xs : List Int} (h : Kd.R (Kd.int .u8) 5 w base ok v xs) : ∀ k, v.ownBlock = some k → k < w.heap.size :=
  fun k hk => ((Kd.R_bound h).1 k hk).2.2.1
/-- a block of another type is none of the rows' -/
theorem S_no {w : World} {base g t : Nat} {ok : Nat → Prop} {v : Value} {cells : Array Value} {xs : List (List Int)} (h : Kd.S (Kd.slice 5 (Kd.int .u8)) 22 w base ok v xs) (hg : w.heap[g]? = some (.cells cells t (0, 0))) (ht : t ≠ 22) : some g ≠ v.ownBlock := by
  intro e
  obtain ⟨cs, hc⟩ := Kd.S_typed h g e.symm
  rw [hg] at hc
  injection hc with hc
  injection hc with _ hc
  exact ht hc
section
variable {ops : Array Oper} {o : Oper} {a : Act} {Q : Exit → Act → World → Prop} {Kc : Act → World → Prop}
theorem ask_append_a {w W : World} {va0 vb0 va vb vx vy : Value} {La Lb : List (List Int)} {x y : List Int} (hA : AskW w W va0 vb0 va vb vx vy La Lb x y) (hw : Region.wanted o (yielded ops a.tmps) = true) (s x' : Operand)
    (ho : o.op = .call { callee := .builtin .append, args := #[s, x'], argTypes := #[30, 30] }) (hs : a.eval s = va) (gx : Nat) (hx : a.eval x' = .slice (some ⟨gx, 0, none⟩) 1 1) (hgx : W.heap[gx]? = some (.cells #[vx] 22 (0, 0))) (hl : La.length ≤ 1000)
    (h : ∀ va1 W1, AskW1 w W1 va0 vb0 va1 vb vy (La ++ [x]) Lb y → (∀ g ob, W.heap[g]? = some ob → va.ownBlock ≠ some g → W1.heap[g]? = some ob) → Kc (a.put o.dst va1) W1) :
    if Region.wanted o (yielded ops a.tmps) = true then Oper.wp Try.prog o a W Kc Q else Kc (a.put o.dst undef) W := by
  refine S_append_step_at (P := Try.prog) (Kd.slice 5 (Kd.int .u8)) (w0 := w) w.heap.size hw s x' 30 22 (.slice none 0 0) 24 ho Try.underlying30 info22 rfl (by decide) (by decide) va La x [vx]
    (fun k => some k ≠ vb.ownBlock ∧ some k ≠ vy.ownBlock) (fun k => some k = vx.ownBlock) hs gx hx hgx (Kd.M_row (R_mk2 (Kd.own_of_R hA.rx) (fun k hk => hk.symm))) ?_ ?_ ?_ hA.bel hA.bel.size (by omega) ?_
  · intro k hk
    have := hA.rx.1 k hk.symm
    exact ⟨⟨this.2.1, this.2.2⟩, this.1⟩
  · intro k hk
    exact ⟨fun e => by have := S_lt hA.sb k e.symm; omega, fun e => by have := R_lt hA.ry k e.symm; omega⟩
  · exact Kd.S_mono hA.sa (fun k hk => ⟨⟨hk.1, hk.2.2⟩, hk.2.1⟩)
  · intro v1 w1 hs1 hb1 hg1 hat1
    have hne : ∀ k, k < W.heap.size → some k ≠ va.ownBlock → some k ≠ v1.ownBlock := by
      intro k hk hka
      rcases hat1 with e | ⟨b, e, hle⟩
      · rw [e]; exact hka
      · rw [e]; intro e2; injection e2 with e2; omega
    refine h v1 w1 ⟨blk_grown hA.ga hg1 (S_no hA.sa hA.ga (by decide)), blk_grown hA.gb hg1 (S_no hA.sa hA.gb (by decide)), hs1, ?_, ?_, hb1⟩ (fun g ob hg hne => blk_grown hg hg1 (fun e => hne e.symm))
    · refine Kd.S_mono (Kd.S_step (Kd.S_mono (Kd.S_bound hA.sb) (ok' := fun k => (some k ≠ va.ownBlock ∧ some k ≠ vy.ownBlock) ∧ k < W.heap.size) (fun k hk => ⟨⟨hk.1.1, hk.1.2.2⟩, hk.2.2.1⟩)) (fun k hk hlt => hg1.block k hlt hk.1.1)) (fun k hk => ⟨hne k hk.2 hk.1.1, hk.1.2⟩)
    · refine Kd.R_mono (Kd.R_step (Kd.R_mono (Kd.R_bound hA.ry) (ok' := fun k => (some k ≠ va.ownBlock ∧ some k ≠ vb.ownBlock) ∧ k < W.heap.size) (fun k hk => ⟨⟨hk.1.1, hk.1.2.1⟩, hk.2.2.1⟩)) (fun k hk hlt => hg1.block k hlt hk.1.1)) (fun k hk => ⟨hne k hk.2 hk.1.1, hk.1.2⟩)
theorem ask_append_b {w W : World} {va0 vb0 va vb vy : Value} {La Lb : List (List Int)} {y : List Int} (hA : AskW1 w W va0 vb0 va vb vy La Lb y) (hw : Region.wanted o (yielded ops a.tmps) = true) (s x' : Operand)
    (ho : o.op = .call { callee := .builtin .append, args := #[s, x'], argTypes := #[30, 30] }) (hs : a.eval s = vb) (gy : Nat) (hx : a.eval x' = .slice (some ⟨gy, 0, none⟩) 1 1) (hgy : W.heap[gy]? = some (.cells #[vy] 22 (0, 0))) (hl : Lb.length ≤ 1000)
    (h : ∀ vb1 W1, AskW2 w W1 va0 vb0 va vb1 La (Lb ++ [y]) → Kc (a.put o.dst vb1) W1) :
    if Region.wanted o (yielded ops a.tmps) = true then Oper.wp Try.prog o a W Kc Q else Kc (a.put o.dst undef) W := by
  refine S_append_step_at (P := Try.prog) (Kd.slice 5 (Kd.int .u8)) (w0 := w) w.heap.size hw s x' 30 22 (.slice none 0 0) 24 ho Try.underlying30 info22 rfl (by decide) (by decide) vb Lb y [vy]
    (fun k => some k ≠ va.ownBlock) (fun k => some k = vy.ownBlock) hs gy hx hgy (Kd.M_row (R_mk2 (Kd.own_of_R hA.ry) (fun k hk => hk.symm))) ?_ ?_ ?_ hA.bel hA.bel.size (by omega) ?_
  · intro k hk
    exact hA.ry.1 k hk.symm
  · intro k hk e
    have := S_lt hA.sa k e.symm; omega
  · exact Kd.S_mono hA.sb (fun k hk => ⟨hk.1, hk.2⟩)
  · intro v1 w1 hs1 hb1 hg1 hat1
    have hne : ∀ k, k < W.heap.size → some k ≠ vb.ownBlock → some k ≠ v1.ownBlock := by
      intro k hk hka
      rcases hat1 with e | ⟨b, e, hle⟩
      · rw [e]; exact hka
      · rw [e]; intro e2; injection e2 with e2; omega
    refine h v1 w1 ⟨blk_grown hA.ga hg1 (S_no hA.sb hA.ga (by decide)), blk_grown hA.gb hg1 (S_no hA.sb hA.gb (by decide)), ?_, hs1, hb1⟩
    refine Kd.S_mono (Kd.S_step (Kd.S_mono (Kd.S_bound hA.sa) (ok' := fun k => some k ≠ vb.ownBlock ∧ k < W.heap.size) (fun k hk => ⟨hk.1.1, hk.2.2.1⟩)) (fun k hk hlt => hg1.block k hlt hk.1)) (fun k hk => hne k hk.2 hk.1)
end
theorem askErr_stop (a0 : Int) (l1 : List Int) (l3 : List (List Int)) (k : Nat) (h : askErr a0 l1 l3 k = 0) (hk : (askAt a0 l1 l3 k).2.2 ≠ 0) : ∀ d, askErr a0 l1 l3 (k + 1 + d) = (askAt a0 l1 l3 k).2.2
  | 0 => by rw [Nat.add_zero, askErr, if_pos h]
  | d + 1 => by rw [← Nat.add_assoc, askErr, askErr_stop a0 l1 l3 k h hk d, if_neg hk]



/-- behind the two stores -/
theorem ask_next {w W : World} {va vb : Value} {Aa Ab : Option Addr} {na nb ca cb : Nat} {La Lb : List (List Int)} (h : AskW2 w W va vb (.slice Aa na ca) (.slice Ab nb cb) La Lb) :
    AskW2 w ((W.setCell ⟨w.heap.size, 0, none⟩ (.slice Aa na ca)).setCell ⟨w.heap.size + 1, 0, none⟩ (.slice Ab nb cb)) (.slice Aa na ca) (.slice Ab nb cb) (.slice Aa na ca) (.slice Ab nb cb) La Lb := by
  have e1 := blk_set h.ga 0 (.slice Aa na ca)
  have e2 := blk_far (p := ⟨w.heap.size, 0, none⟩) h.gb (by simp) (.slice Aa na ca)
  exact ⟨blk_far (p := ⟨w.heap.size + 1, 0, none⟩) e1 (by simp) _, blk_set e2 0 _,
    Kd.S_set (Kd.S_set h.sa h.ga (by decide) 0 _) e2 (by decide) 0 _, Kd.S_set (Kd.S_set h.sb h.ga (by decide) 0 _) e2 (by decide) 0 _, (h.bel.setCell (by simp) _).setCell (by simp) _⟩

theorem ask_begin {w wr w1 : World} {va vb vx vy : Value} {La Lb : List (List Int)} {x y : List Int} (ga : wr.heap[w.heap.size]? = some (.cells #[va] 32 (0, 0))) (gb : wr.heap[w.heap.size + 1]? = some (.cells #[vb] 32 (0, 0)))
    (sa : Kd.S (Kd.slice 5 (Kd.int .u8)) 22 wr w.heap.size (fun k_ => some k_ ≠ vb.ownBlock) va La) (sb : Kd.S (Kd.slice 5 (Kd.int .u8)) 22 wr w.heap.size (fun k_ => some k_ ≠ va.ownBlock) vb Lb) (bel : Below w.heap.size w wr)
    (rx : Kd.R (Kd.int .u8) 5 w1 wr.heap.size (fun k_ => some k_ ≠ vy.ownBlock) vx x) (ry : Kd.R (Kd.int .u8) 5 w1 wr.heap.size (fun k_ => some k_ ≠ vx.ownBlock) vy y) (hb : Below wr.heap.size wr w1) : AskW w w1.drew va vb va vb vx vy La Lb x y := by
  have lx : ∀ k, vx.ownBlock = some k → wr.heap.size ≤ k := fun k hk => ((Kd.R_bound rx).1 k hk).2.1
  have ly : ∀ k, vy.ownBlock = some k → wr.heap.size ≤ k := fun k hk => ((Kd.R_bound ry).1 k hk).2.1
  have la := S_lt sa
  have lb := S_lt sb
  refine ⟨blk_drew (blk_below ga hb), blk_drew (blk_below gb hb), ?_, ?_, ?_, ?_, below_drew (below_step bel hb)⟩
  · exact Kd.S_drew (Kd.S_below (Kd.S_mono (Kd.S_bound sa) (fun k hk => ⟨hk.1, fun e => by have := lx k e.symm; have := hk.2.2.1; omega, fun e => by have := ly k e.symm; have := hk.2.2.1; omega⟩)) hb)
  · exact Kd.S_drew (Kd.S_below (Kd.S_mono (Kd.S_bound sb) (fun k hk => ⟨hk.1, fun e => by have := lx k e.symm; have := hk.2.2.1; omega, fun e => by have := ly k e.symm; have := hk.2.2.1; omega⟩)) hb)
  · exact Kd.R_drew (Kd.R_lower (Kd.R_mono (Kd.R_bound rx) (fun k hk => ⟨fun e => by have := la k e.symm; have := hk.2.1; omega, fun e => by have := lb k e.symm; have := hk.2.1; omega, hk.1⟩)) bel.size)
  · exact Kd.R_drew (Kd.R_lower (Kd.R_mono (Kd.R_bound ry) (fun k hk => ⟨fun e => by have := la k e.symm; have := hk.2.1; omega, fun e => by have := lb k e.symm; have := hk.2.1; omega, hk.1⟩)) bel.size)
set_option maxHeartbeats 4000000 in
set_option maxRecDepth 100000 in
theorem ask_good (a0 : Int) (A1 : Option Addr) (c1 : Nat) (l1 : List Int) (a2 : Int) (A3 : Option Addr) (c3 : Nat) (l3 : List (List Int)) (r1 r2 : List (List Int)) (r3 : Int) (w : World) (hr1 : Kd.C (Kd.int .i64) w A1 l1.length l1) (hc1 : l1.length ≤ c1) (hr3 : Kd.C (Kd.slice 5 (Kd.int .u8)) w A3 l3.length l3) (hc3 : l3.length ≤ c3) (hb : askBad l1 a2 l3 = false)
    (h : (if askErr a0 l1 l3 l3.length = 0 then ((List.range l3.length).map (fun i => (askAt a0 l1 l3 i).1), (List.range l3.length).map (fun i => (askAt a0 l1 l3 i).2.1), (0 : Int)) else ([], [], askErr a0 l1 l3 l3.length)) = (r1, r2, r3)) :
    Calls Try.prog 20 #[.int .i64 a0, .slice A1 l1.length c1, .int .i64 a2, .slice A3 l3.length c3] w fun e w' => ∃ v0_ v1_ : Value, e = .returned (.tuple #[.agg #[v0_], .agg #[v1_], .int .i64 r3]) ∧ Kd.S (Kd.slice 5 (Kd.int .u8)) 22 w' w.heap.size (fun k_ => some k_ ≠ (v1_ : Value).ownBlock) v0_ r1 ∧ Kd.S (Kd.slice 5 (Kd.int .u8)) 22 w' w.heap.size (fun k_ => some k_ ≠ (v0_ : Value).ownBlock) v1_ r2 ∧ Below w.heap.size w w' := by
  have HR1 := Aside0.mk hr1
  have HR3 := Aside0.mk hr3
  have H := Aside0.mk h
  clear hr1 hr3 h
  have hu32 := Try.underlying32
  obtain ⟨hb1, hb2, hb3, hb4⟩ : 1 ≤ a2 ∧ a2 ≤ 132 ∧ (l1.length : Int) ≤ a2 ∧ (l3.length : Int) = a2 := by
    unfold askBad at hb
    simp only [Bool.or_eq_false_iff, decide_eq_false_iff_not, bne_eq_false_iff_eq] at hb
    exact ⟨by omega, by omega, by omega, by omega⟩
  have d1 : decide (a2 < 1) = false := decide_eq_false (by omega)
  have d2 : decide (132 < a2) = false := decide_eq_false (by omega)
  have d3 : decide (a2 < (l1.length : Int)) = false := decide_eq_false (by omega)
  have d4 : ((l3.length : Int) != a2) = false := by rw [bne_eq_false_iff_eq]; exact hb4
  have hl3 : l3.length ≤ 132 := by omega
  have hl1 : l1.length ≤ 132 := by omega
  clear hb hb4
  go_enter Try.func20, Try.ntmps20
  go_wp2
  go_loopw [39, 11, 12, 13, 14, 15, 16] (fun i _ _ _ _ _ _ wr => ∃ (k : Nat) (va vb : Value), k ≤ l3.length ∧ i = .int .i64 k ∧ Aside0 (askErr a0 l1 l3 k = 0) ∧
      Aside0 (wr.heap[w.heap.size]? = some (.cells #[va] 32 (0, 0))) ∧ Aside0 (wr.heap[w.heap.size + 1]? = some (.cells #[vb] 32 (0, 0))) ∧
      Aside0 (Kd.S (Kd.slice 5 (Kd.int .u8)) 22 wr w.heap.size (fun k_ => some k_ ≠ vb.ownBlock) va ((List.range k).map fun i => (askAt a0 l1 l3 i).1)) ∧
      Aside0 (Kd.S (Kd.slice 5 (Kd.int .u8)) 22 wr w.heap.size (fun k_ => some k_ ≠ va.ownBlock) vb ((List.range k).map fun i => (askAt a0 l1 l3 i).2.1)) ∧ Aside0 (Below w.heap.size w wr)) (fun i _ _ _ _ _ _ _ => l3.length - (intOf i).toNat)
  case atStart =>
    obtain ⟨e1, e2⟩ := heap_two w (.cells #[.slice none 0 0] 32) (.cells #[.slice none 0 0] 32)
    exact ⟨0, .slice none 0 0, .slice none 0 0, by omega, rfl, ⟨rfl⟩, ⟨e1⟩, ⟨e2⟩, ⟨Kd.S_nil _ _ _ _ _⟩, ⟨Kd.S_nil _ _ _ _ _⟩, ⟨((Below.refl _ _).alloc (Nat.le_refl _) _).alloc (by simp) _⟩⟩
  case round =>
    obtain ⟨k, va, vb, hk, rfl, HE, HGa, HGb, HSa, HSb, HB⟩ := hrel
    by_cases hlt : k < l3.length
    · obtain ⟨ad, A5, c5, e, hc0', hle, hC⟩ := at_L1 HR3.out (k : Int) (by omega) (by omega)
      subst e
      simp only [Int.toNat_natCast] at hc0'
      have hc := (HB.out.cell (World.block_lt_of_cell? w _ hc0')).trans hc0'
      clear hc0'
      have HC := Aside0.mk hC
      have hget : l3.getD k [] = rd_L1 l3 (k : Int) := by simp [rd_L1]
      have HGET := Aside0.mk hget
      clear hget hC
      generalize rd_L1 l3 (k : Int) = m at *
      have hca : wr.cell? ⟨w.heap.size, 0, none⟩ = some va := (blk_cell HGa.out 0).trans rfl
      have hfa := blk_frozen HGa.out 0
      have hcb : wr.cell? ⟨w.heap.size + 1, 0, none⟩ = some vb := (blk_cell HGb.out 0).trans rfl
      have hfb := blk_frozen HGb.out 0
      by_cases hkl : k < l1.length
      · obtain ⟨ad1, e1, hx0⟩ := Kd.at_int HR1.out (k : Int) (by omega) (by omega)
        subst e1
        simp only [Int.toNat_natCast] at hx0
        have hx := (HB.out.cell (World.block_lt_of_cell? w _ hx0)).trans hx0
        clear hx0
        have HAT : Aside0 (askAt a0 l1 l3 k = masksOf a0 (rd l1 (k : Int)) m) := ⟨by unfold askAt; rw [if_pos hkl, HGET.out]⟩
        generalize rd l1 (k : Int) = n at *
        obtain ⟨x, y, ee, hxy⟩ : ∃ x y ee, masksOf a0 n m = (x, y, ee) := ⟨_, _, _, rfl⟩
        have HM : Aside0 (retrieval_Masks.f 2 a0 n m = some (x, y, ee)) := ⟨by rw [masks_of 0, hxy]⟩
        have HA : Aside0 (askAt a0 l1 l3 k = (x, y, ee)) := ⟨by rw [HAT.out, hxy]⟩
        clear hxy HAT
        by_cases hee : ee = 0
        · have HE2 : Aside0 (askErr a0 l1 l3 (k + 1) = 0) := ⟨by rw [askErr, if_pos HE.out, HA.out]; exact hee⟩
          have d5 : (ee != 0) = false := by rw [hee]; rfl
          have HLA : Aside0 (((List.range k).map fun i => (askAt a0 l1 l3 i).1) ++ [x] = (List.range (k + 1)).map fun i => (askAt a0 l1 l3 i).1) := ⟨by rw [List.range_succ, List.map_append, List.map_cons, List.map_nil, HA.out]⟩
          have HLB : Aside0 (((List.range k).map fun i => (askAt a0 l1 l3 i).2.1) ++ [y] = (List.range (k + 1)).map fun i => (askAt a0 l1 l3 i).2.1) := ⟨by rw [List.range_succ, List.map_append, List.map_cons, List.map_nil, HA.out]⟩
          clear hee
          go_wp2_with (go_at_call 10; with_reducible refine (retrieval_Masks.calls 2 a0 n A5 c5 m x y ee _ (Kd.C_below HC.out HB.out) hle HM.out).mono ?_; rintro e w1 ⟨vx, vy, rfl, hox, hoy, hb1⟩; have HA0 := Aside0.mk (ask_begin HGa.out HGb.out HSa.out HSb.out HB.out hox hoy hb1); obtain ⟨Ax, cx, ex⟩ := Kd.R_slice hox; obtain ⟨Ay, cy, ey⟩ := Kd.R_slice hoy; generalize hnx : x.length = nx at ex; generalize hny : y.length = ny at ey; clear hnx hny; subst ex ey; clear hox hoy hb1)
          refine start_ (n := 14) (S := fun W' => W'.heap[w.heap.size]? = some (.cells #[va] 32 (0, 0)) ∧ W'.heap[w.heap.size + 1]? = some (.cells #[vb] 32 (0, 0))) (ds := [11, 13]) #[false, false, false, false, false, false, false, false, false, false, false, false, false, false] (by kernel_rfl) rfl rfl (⟨HA0.out.ga, HA0.out.gb⟩) (fun hHeld => ?_)
          generalize w1.drew = W at HA0 hHeld ⊢
          refine pure_ (i := 0) (N := some 65) (v := ?_) (a' := ?_) #[true, false, false, false, false, false, false, false, false, false, false, false, false, false] rfl rfl (any_of rfl (by kernel_rfl)) (fun _ _ _ h => h) (Or.inl ⟨by rfl, ?_⟩) ?_ ?_
          rotate_left
          · intro w'
            go_simp
            with_reducible rfl
          rotate_left
          · simp only [Act.put, List.setIfInBounds_toArray, List.set_cons_zero, List.set_cons_succ, i64_w, i32_w]
            rfl
          refine take_ (i := 1) (N := some 66) (v := ?_) (a' := ?_) #[true, true, false, false, false, false, false, false, false, false, false, false, false, false] rfl rfl (take_of rfl (by kernel_rfl)) (fun _ _ _ h => h) (Or.inl ⟨by rfl, ?_⟩) hHeld ?_ ?_
          rotate_left
          · intro w' s0
            have hx := (blk_cell s0.1 0).trans (rfl : _ = some va)
            go_simp
            with_reducible rfl
          rotate_left
          · simp only [Act.put, List.setIfInBounds_toArray, List.set_cons_zero, List.set_cons_succ, i64_w, i32_w]
            rfl
          refine pure_ (i := 2) (N := some 67) (v := ?_) (a' := ?_) #[true, true, true, false, false, false, false, false, false, false, false, false, false, false] rfl rfl (any_of rfl (by kernel_rfl)) (fun _ _ _ h => h) (Or.inl ⟨by rfl, ?_⟩) ?_ ?_
          rotate_left
          · intro w'
            go_simp
            with_reducible rfl
          rotate_left
          · simp only [Act.put, List.setIfInBounds_toArray, List.set_cons_zero, List.set_cons_succ, i64_w, i32_w]
            rfl
          refine pure_ (i := 5) (N := some 70) (v := ?_) (a' := ?_) #[true, true, true, false, false, true, false, false, false, false, false, false, false, false] rfl rfl (any_of rfl (by kernel_rfl)) (fun _ _ _ h => h) (Or.inl ⟨by rfl, ?_⟩) ?_ ?_
          rotate_left
          · intro w'
            go_simp
            with_reducible rfl
          rotate_left
          · simp only [Act.put, List.setIfInBounds_toArray, List.set_cons_zero, List.set_cons_succ, i64_w, i32_w]
            rfl
          refine take_ (i := 6) (N := some 71) (v := ?_) (a' := ?_) #[true, true, true, false, false, true, true, false, false, false, false, false, false, false] rfl rfl (take_of rfl (by kernel_rfl)) (fun _ _ _ h => h) (Or.inl ⟨by rfl, ?_⟩) hHeld ?_ ?_
          rotate_left
          · intro w' s0
            have hx := (blk_cell s0.2 0).trans (rfl : _ = some vb)
            go_simp
            with_reducible rfl
          rotate_left
          · simp only [Act.put, List.setIfInBounds_toArray, List.set_cons_zero, List.set_cons_succ, i64_w, i32_w]
            rfl
          refine pure_ (i := 7) (N := some 72) (v := ?_) (a' := ?_) #[true, true, true, false, false, true, true, true, false, false, false, false, false, false] rfl rfl (any_of rfl (by kernel_rfl)) (fun _ _ _ h => h) (Or.inl ⟨by rfl, ?_⟩) ?_ ?_
          rotate_left
          · intro w'
            go_simp
            with_reducible rfl
          rotate_left
          · simp only [Act.put, List.setIfInBounds_toArray, List.set_cons_zero, List.set_cons_succ, i64_w, i32_w]
            rfl
          have HLT := Aside0.mk (S_lt HA0.out.sa)
          refine two_ (i := 3) (j := 8) (Ni := some 68) (Nj := some 73) #[true, true, true, true, false, true, true, true, false, false, false, false, false, false] #[true, true, true, false, false, true, true, true, true, false, false, false, false, false] rfl rfl rfl rfl (two_of rfl (by kernel_rfl)) (by decide) (by decide) (fun K hK => ?_) (fun K hK => ?_)
          · refine value_ (w1 := ?_) (v := ?_) (by rfl) rfl ?_ ?_
            rotate_left 2
            · go_simp
              constructor
              · rfl
              · rfl
            have HA0' := Aside0.mk (HA0.out.alloc (.cells #[.slice Ax nx cx] 22))
            refine hK.out _ _ ⟨HA0'.out.ga, HA0'.out.gb⟩ (fun hHeld => ?_)
            clear hK K
            refine norm_ (a' := ?_) ?_ ?_
            rotate_left
            · show Act.put _ (some 68) _ = _
              simp only [Act.put, List.setIfInBounds_toArray, List.set_cons_zero, List.set_cons_succ, i64_w, i32_w]
              rfl
            have HGX : Aside0 ((W.alloc (.cells #[.slice Ax nx cx] 22)).heap[W.heap.size]? = some (.cells #[.slice Ax nx cx] 22 (0, 0))) := ⟨heap_alloc_new W _⟩
            refine two_ (i := 4) (j := 8) (Ni := some 69) (Nj := some 73) #[true, true, true, true, true, true, true, true, false, false, false, false, false, false] #[true, true, true, true, false, true, true, true, true, false, false, false, false, false] rfl rfl rfl rfl (two_of rfl (by kernel_rfl)) (by decide) (by decide) (fun K hK => ?_) (fun K hK => ?_)
            · refine ask_append_a HA0'.out rfl (.tmp 66) (.tmp 68) rfl rfl W.heap.size rfl HGX.out (by simp; omega) ?_
              intro va1 W2 hA1 hkeep
              have HA1' := Aside0.mk hA1
              refine hK.out _ _ ⟨hA1.ga, hA1.gb⟩ (fun hHeld => ?_)
              clear hK K
              refine norm_ (a' := ?_) ?_ ?_
              rotate_left
              · show Act.put _ (some 69) _ = _
                simp only [Act.put, List.setIfInBounds_toArray, List.set_cons_zero, List.set_cons_succ, i64_w, i32_w]
                rfl
              clear hA1 hkeep HGX HA0'
              refine pure_ (i := 10) (N := some 75) (v := ?_) (a' := ?_) #[true, true, true, true, true, true, true, true, false, false, true, false, false, false] rfl rfl (any_of rfl (by kernel_rfl)) (fun _ _ _ h => h) (Or.inl ⟨by rfl, ?_⟩) ?_ ?_
              rotate_left
              · intro w'
                go_simp
                with_reducible rfl
              rotate_left
              · simp only [Act.put, List.setIfInBounds_toArray, List.set_cons_zero, List.set_cons_succ, i64_w, i32_w]
                rfl
              refine one_ (i := 8) (N := some 73) #[true, true, true, true, true, true, true, true, true, false, true, false, false, false] rfl rfl (one_of rfl (by kernel_rfl)) (by decide) (fun K hK => ?_)
              refine value_ (w1 := ?_) (v := ?_) (by rfl) rfl ?_ ?_
              rotate_left 2
              · go_simp
                constructor
                · rfl
                · rfl
              have HA1 := Aside0.mk (HA1'.out.alloc (.cells #[.slice Ay ny cy] 22))
              refine hK.out _ _ ⟨HA1.out.ga, HA1.out.gb⟩ (fun hHeld => ?_)
              clear hK K
              refine norm_ (a' := ?_) ?_ ?_
              rotate_left
              · show Act.put _ (some 73) _ = _
                simp only [Act.put, List.setIfInBounds_toArray, List.set_cons_zero, List.set_cons_succ, i64_w, i32_w]
                rfl
              have HGY : Aside0 ((W2.alloc (.cells #[.slice Ay ny cy] 22)).heap[W2.heap.size]? = some (.cells #[.slice Ay ny cy] 22 (0, 0))) := ⟨heap_alloc_new W2 _⟩
              obtain ⟨gy, hgy⟩ : ∃ gy, gy = W2.heap.size := ⟨_, rfl⟩
              rw [← hgy] at HGY ⊢
              generalize (W2.alloc (.cells #[.slice Ay ny cy] 22)) = W3 at *
              clear hgy
              refine one_ (i := 9) (N := some 74) #[true, true, true, true, true, true, true, true, true, true, true, false, false, false] rfl rfl (one_of rfl (by kernel_rfl)) (by decide) (fun K hK => ?_)
              refine ask_append_b HA1.out rfl (.tmp 71) (.tmp 73) rfl rfl gy rfl HGY.out (by simp; omega) ?_
              intro vb1 W4 hA2
              obtain ⟨Aa, ca, ea⟩ := Kd.S_slice hA2.sa
              obtain ⟨Ab, cb, eb⟩ := Kd.S_slice hA2.sb
              generalize hna : (_ ++ [x] : List (List Int)).length = na at ea
              generalize hnb : (_ ++ [y] : List (List Int)).length = nb at eb
              clear hna hnb
              subst ea eb
              have HA2 := Aside0.mk hA2
              refine hK.out _ _ ⟨hA2.ga, hA2.gb⟩ (fun hHeld => ?_)
              clear hK K
              refine norm_ (a' := ?_) ?_ ?_
              rotate_left
              · show Act.put _ (some 74) _ = _
                simp only [Act.put, List.setIfInBounds_toArray, List.set_cons_zero, List.set_cons_succ, i64_w, i32_w]
                rfl
              clear hA2 HA1 HGY hHeld
              refine last_ (i := 11) (N := none) #[true, true, true, true, true, true, true, true, true, true, true, true, false, false] rfl rfl (one_of rfl (by kernel_rfl)) (by decide) (fun K hK => ?_)
              have hx1 := (blk_cell HA2.out.ga 0).trans (rfl : _ = some va)
              have hf1 := blk_frozen HA2.out.ga 0
              refine skip_ (w1 := ?_) (by rfl) rfl ?_ ?_
              rotate_left
              · go_simp
                try rfl
              refine hK.out _ _ ?_
              clear hK K hx1 hf1
              refine pure_ (i := 12) (N := some 76) (v := ?_) (a' := ?_) #[true, true, true, true, true, true, true, true, true, true, true, true, true, false] rfl rfl (any_of rfl (by kernel_rfl)) (fun _ _ _ h => h) (Or.inl ⟨by rfl, ?_⟩) ?_ ?_
              rotate_left
              · intro w'
                go_simp
                with_reducible rfl
              rotate_left
              · simp only [Act.put, List.setIfInBounds_toArray, List.set_cons_zero, List.set_cons_succ, i64_w, i32_w]
                rfl
              refine last_ (i := 13) (N := none) #[true, true, true, true, true, true, true, true, true, true, true, true, true, true] rfl rfl (one_of rfl (by kernel_rfl)) (by decide) (fun K hK => ?_)
              have hx1 : (W4.setCell ⟨w.heap.size, 0, none⟩ (.slice Aa na ca)).cell? ⟨w.heap.size + 1, 0, none⟩ = some vb := (blk_cell (blk_far HA2.out.gb (by simp) _) 0).trans rfl
              have hf1 := blk_frozen (blk_far (p := ⟨w.heap.size, 0, none⟩) HA2.out.gb (by simp) (.slice Aa na ca)) 0
              refine skip_ (w1 := ?_) (by rfl) rfl ?_ ?_
              rotate_left
              · go_simp
                try rfl
              refine hK.out _ _ ?_
              clear hK K hx1 hf1
              refine done_ (done_of rfl (by kernel_rfl)) ?_
              have HN := Aside0.mk (ask_next HA2.out (va := va) (vb := vb))
              go_wp2
              go_roundw
              case rel => exact ⟨k + 1, _, _, by omega, by go_num, HE2, ⟨HN.out.ga⟩, ⟨HN.out.gb⟩, ⟨HLA.out ▸ HN.out.sa⟩, ⟨HLB.out ▸ HN.out.sb⟩, ⟨HN.out.bel⟩⟩
              case measure => simp [intOf]; omega
            · refine value_ (w1 := ?_) (v := ?_) (by rfl) rfl ?_ ?_
              rotate_left 2
              · go_simp
                constructor
                · rfl
                · rfl
              have HA3 := Aside0.mk (HA0'.out.alloc (.cells #[.slice Ay ny cy] 22))
              refine hK.out _ _ ⟨HA3.out.ga, HA3.out.gb⟩ (fun hHeld => ?_)
              clear hK K
              refine norm_ (a' := ?_) ?_ ?_
              rotate_left
              · show Act.put _ (some 73) _ = _
                simp only [Act.put, List.setIfInBounds_toArray, List.set_cons_zero, List.set_cons_succ, i64_w, i32_w]
                rfl
              have HGX2 := Aside0.mk (blk_alloc HGX.out (.cells #[.slice Ay ny cy] 22))
              have HGY2 : Aside0 (((W.alloc (.cells #[.slice Ax nx cx] 22)).alloc (.cells #[.slice Ay ny cy] 22)).heap[W.heap.size + 1]? = some (.cells #[.slice Ay ny cy] 22 (0, 0))) := ⟨by simpa using heap_alloc_new (W.alloc (.cells #[.slice Ax nx cx] 22)) (.cells #[.slice Ay ny cy] 22)⟩
              refine one_ (i := 4) (N := some 69) #[true, true, true, true, true, true, true, true, true, false, false, false, false, false] rfl rfl (one_of rfl (by kernel_rfl)) (by decide) (fun K hK => ?_)
              refine ask_append_a HA3.out rfl (.tmp 66) (.tmp 68) rfl rfl W.heap.size rfl HGX2.out (by simp; omega) ?_
              intro va1 W3 hA1 hkeep
              have HA1 := Aside0.mk hA1
              have HGY := Aside0.mk (hkeep _ _ HGY2.out (fun e => by have := HLT.out _ e; omega))
              refine hK.out _ _ ⟨hA1.ga, hA1.gb⟩ (fun hHeld => ?_)
              clear hK K
              refine norm_ (a' := ?_) ?_ ?_
              rotate_left
              · show Act.put _ (some 69) _ = _
                simp only [Act.put, List.setIfInBounds_toArray, List.set_cons_zero, List.set_cons_succ, i64_w, i32_w]
                rfl
              refine pure_ (i := 10) (N := some 75) (v := ?_) (a' := ?_) #[true, true, true, true, true, true, true, true, true, false, true, false, false, false] rfl rfl (any_of rfl (by kernel_rfl)) (fun _ _ _ h => h) (Or.inl ⟨by rfl, ?_⟩) ?_ ?_
              rotate_left
              · intro w'
                go_simp
                with_reducible rfl
              rotate_left
              · simp only [Act.put, List.setIfInBounds_toArray, List.set_cons_zero, List.set_cons_succ, i64_w, i32_w]
                rfl
              clear hA1 hkeep HGX HGX2 HGY2 HA3 HA0'
              obtain ⟨gy, hgy⟩ : ∃ gy, gy = W.heap.size + 1 := ⟨_, rfl⟩
              rw [← hgy] at HGY ⊢
              clear hgy
              refine one_ (i := 9) (N := some 74) #[true, true, true, true, true, true, true, true, true, true, true, false, false, false] rfl rfl (one_of rfl (by kernel_rfl)) (by decide) (fun K hK => ?_)
              refine ask_append_b HA1.out rfl (.tmp 71) (.tmp 73) rfl rfl gy rfl HGY.out (by simp; omega) ?_
              intro vb1 W4 hA2
              obtain ⟨Aa, ca, ea⟩ := Kd.S_slice hA2.sa
              obtain ⟨Ab, cb, eb⟩ := Kd.S_slice hA2.sb
              generalize hna : (_ ++ [x] : List (List Int)).length = na at ea
              generalize hnb : (_ ++ [y] : List (List Int)).length = nb at eb
              clear hna hnb
              subst ea eb
              have HA2 := Aside0.mk hA2
              refine hK.out _ _ ⟨hA2.ga, hA2.gb⟩ (fun hHeld => ?_)
              clear hK K
              refine norm_ (a' := ?_) ?_ ?_
              rotate_left
              · show Act.put _ (some 74) _ = _
                simp only [Act.put, List.setIfInBounds_toArray, List.set_cons_zero, List.set_cons_succ, i64_w, i32_w]
                rfl
              clear hA2 HA1 HGY hHeld
              refine last_ (i := 11) (N := none) #[true, true, true, true, true, true, true, true, true, true, true, true, false, false] rfl rfl (one_of rfl (by kernel_rfl)) (by decide) (fun K hK => ?_)
              have hx1 := (blk_cell HA2.out.ga 0).trans (rfl : _ = some va)
              have hf1 := blk_frozen HA2.out.ga 0
              refine skip_ (w1 := ?_) (by rfl) rfl ?_ ?_
              rotate_left
              · go_simp
                try rfl
              refine hK.out _ _ ?_
              clear hK K hx1 hf1
              refine pure_ (i := 12) (N := some 76) (v := ?_) (a' := ?_) #[true, true, true, true, true, true, true, true, true, true, true, true, true, false] rfl rfl (any_of rfl (by kernel_rfl)) (fun _ _ _ h => h) (Or.inl ⟨by rfl, ?_⟩) ?_ ?_
              rotate_left
              · intro w'
                go_simp
                with_reducible rfl
              rotate_left
              · simp only [Act.put, List.setIfInBounds_toArray, List.set_cons_zero, List.set_cons_succ, i64_w, i32_w]
                rfl
              refine last_ (i := 13) (N := none) #[true, true, true, true, true, true, true, true, true, true, true, true, true, true] rfl rfl (one_of rfl (by kernel_rfl)) (by decide) (fun K hK => ?_)
              have hx1 : (W4.setCell ⟨w.heap.size, 0, none⟩ (.slice Aa na ca)).cell? ⟨w.heap.size + 1, 0, none⟩ = some vb := (blk_cell (blk_far HA2.out.gb (by simp) _) 0).trans rfl
              have hf1 := blk_frozen (blk_far (p := ⟨w.heap.size, 0, none⟩) HA2.out.gb (by simp) (.slice Aa na ca)) 0
              refine skip_ (w1 := ?_) (by rfl) rfl ?_ ?_
              rotate_left
              · go_simp
                try rfl
              refine hK.out _ _ ?_
              clear hK K hx1 hf1
              refine done_ (done_of rfl (by kernel_rfl)) ?_
              have HN := Aside0.mk (ask_next HA2.out (va := va) (vb := vb))
              go_wp2
              go_roundw
              case rel => exact ⟨k + 1, _, _, by omega, by go_num, HE2, ⟨HN.out.ga⟩, ⟨HN.out.gb⟩, ⟨HLA.out ▸ HN.out.sa⟩, ⟨HLB.out ▸ HN.out.sb⟩, ⟨HN.out.bel⟩⟩
              case measure => simp [intOf]; omega
          · refine value_ (w1 := ?_) (v := ?_) (by rfl) rfl ?_ ?_
            rotate_left 2
            · go_simp
              constructor
              · rfl
              · rfl
            have HA0' := Aside0.mk (HA0.out.alloc (.cells #[.slice Ay ny cy] 22))
            refine hK.out _ _ ⟨HA0'.out.ga, HA0'.out.gb⟩ (fun hHeld => ?_)
            clear hK K
            refine norm_ (a' := ?_) ?_ ?_
            rotate_left
            · show Act.put _ (some 73) _ = _
              simp only [Act.put, List.setIfInBounds_toArray, List.set_cons_zero, List.set_cons_succ, i64_w, i32_w]
              rfl
            refine one_ (i := 3) (N := some 68) #[true, true, true, true, false, true, true, true, true, false, false, false, false, false] rfl rfl (one_of rfl (by kernel_rfl)) (by decide) (fun K hK => ?_)
            refine value_ (w1 := ?_) (v := ?_) (by rfl) rfl ?_ ?_
            rotate_left 2
            · go_simp
              constructor
              · rfl
              · rfl
            have HA3 := Aside0.mk (HA0'.out.alloc (.cells #[.slice Ax nx cx] 22))
            refine hK.out _ _ ⟨HA3.out.ga, HA3.out.gb⟩ (fun hHeld => ?_)
            clear hK K
            refine norm_ (a' := ?_) ?_ ?_
            rotate_left
            · show Act.put _ (some 68) _ = _
              simp only [Act.put, List.setIfInBounds_toArray, List.set_cons_zero, List.set_cons_succ, i64_w, i32_w]
              rfl
            have HGX2 : Aside0 (((W.alloc (.cells #[.slice Ay ny cy] 22)).alloc (.cells #[.slice Ax nx cx] 22)).heap[W.heap.size + 1]? = some (.cells #[.slice Ax nx cx] 22 (0, 0))) := ⟨by simpa using heap_alloc_new (W.alloc (.cells #[.slice Ay ny cy] 22)) (.cells #[.slice Ax nx cx] 22)⟩
            have HGY2 := Aside0.mk (blk_alloc (heap_alloc_new W (.cells #[.slice Ay ny cy] 22)) (.cells #[.slice Ax nx cx] 22))
            refine one_ (i := 4) (N := some 69) #[true, true, true, true, true, true, true, true, true, false, false, false, false, false] rfl rfl (one_of rfl (by kernel_rfl)) (by decide) (fun K hK => ?_)
            refine ask_append_a HA3.out rfl (.tmp 66) (.tmp 68) rfl rfl (W.heap.size + 1) rfl HGX2.out (by simp; omega) ?_
            intro va1 W3 hA1 hkeep
            have HA1 := Aside0.mk hA1
            have HGY := Aside0.mk (hkeep _ _ HGY2.out (fun e => by have := HLT.out _ e; omega))
            refine hK.out _ _ ⟨hA1.ga, hA1.gb⟩ (fun hHeld => ?_)
            clear hK K
            refine norm_ (a' := ?_) ?_ ?_
            rotate_left
            · show Act.put _ (some 69) _ = _
              simp only [Act.put, List.setIfInBounds_toArray, List.set_cons_zero, List.set_cons_succ, i64_w, i32_w]
              rfl
            refine pure_ (i := 10) (N := some 75) (v := ?_) (a' := ?_) #[true, true, true, true, true, true, true, true, true, false, true, false, false, false] rfl rfl (any_of rfl (by kernel_rfl)) (fun _ _ _ h => h) (Or.inl ⟨by rfl, ?_⟩) ?_ ?_
            rotate_left
            · intro w'
              go_simp
              with_reducible rfl
            rotate_left
            · simp only [Act.put, List.setIfInBounds_toArray, List.set_cons_zero, List.set_cons_succ, i64_w, i32_w]
              rfl
            clear hA1 hkeep HGX2 HGY2 HA3 HA0'
            obtain ⟨gy, hgy⟩ : ∃ gy, gy = W.heap.size := ⟨_, rfl⟩
            rw [← hgy] at HGY ⊢
            clear hgy
            refine one_ (i := 9) (N := some 74) #[true, true, true, true, true, true, true, true, true, true, true, false, false, false] rfl rfl (one_of rfl (by kernel_rfl)) (by decide) (fun K hK => ?_)
            refine ask_append_b HA1.out rfl (.tmp 71) (.tmp 73) rfl rfl gy rfl HGY.out (by simp; omega) ?_
            intro vb1 W4 hA2
            obtain ⟨Aa, ca, ea⟩ := Kd.S_slice hA2.sa
            obtain ⟨Ab, cb, eb⟩ := Kd.S_slice hA2.sb
            generalize hna : (_ ++ [x] : List (List Int)).length = na at ea
            generalize hnb : (_ ++ [y] : List (List Int)).length = nb at eb
            clear hna hnb
            subst ea eb
            have HA2 := Aside0.mk hA2
            refine hK.out _ _ ⟨hA2.ga, hA2.gb⟩ (fun hHeld => ?_)
            clear hK K
            refine norm_ (a' := ?_) ?_ ?_
            rotate_left
            · show Act.put _ (some 74) _ = _
              simp only [Act.put, List.setIfInBounds_toArray, List.set_cons_zero, List.set_cons_succ, i64_w, i32_w]
              rfl
            clear hA2 HA1 HGY hHeld
            refine last_ (i := 11) (N := none) #[true, true, true, true, true, true, true, true, true, true, true, true, false, false] rfl rfl (one_of rfl (by kernel_rfl)) (by decide) (fun K hK => ?_)
            have hx1 := (blk_cell HA2.out.ga 0).trans (rfl : _ = some va)
            have hf1 := blk_frozen HA2.out.ga 0
            refine skip_ (w1 := ?_) (by rfl) rfl ?_ ?_
            rotate_left
            · go_simp
              try rfl
            refine hK.out _ _ ?_
            clear hK K hx1 hf1
            refine pure_ (i := 12) (N := some 76) (v := ?_) (a' := ?_) #[true, true, true, true, true, true, true, true, true, true, true, true, true, false] rfl rfl (any_of rfl (by kernel_rfl)) (fun _ _ _ h => h) (Or.inl ⟨by rfl, ?_⟩) ?_ ?_
            rotate_left
            · intro w'
              go_simp
              with_reducible rfl
            rotate_left
            · simp only [Act.put, List.setIfInBounds_toArray, List.set_cons_zero, List.set_cons_succ, i64_w, i32_w]
              rfl
            refine last_ (i := 13) (N := none) #[true, true, true, true, true, true, true, true, true, true, true, true, true, true] rfl rfl (one_of rfl (by kernel_rfl)) (by decide) (fun K hK => ?_)
            have hx1 : (W4.setCell ⟨w.heap.size, 0, none⟩ (.slice Aa na ca)).cell? ⟨w.heap.size + 1, 0, none⟩ = some vb := (blk_cell (blk_far HA2.out.gb (by simp) _) 0).trans rfl
            have hf1 := blk_frozen (blk_far (p := ⟨w.heap.size, 0, none⟩) HA2.out.gb (by simp) (.slice Aa na ca)) 0
            refine skip_ (w1 := ?_) (by rfl) rfl ?_ ?_
            rotate_left
            · go_simp
              try rfl
            refine hK.out _ _ ?_
            clear hK K hx1 hf1
            refine done_ (done_of rfl (by kernel_rfl)) ?_
            have HN := Aside0.mk (ask_next HA2.out (va := va) (vb := vb))
            go_wp2
            go_roundw
            case rel => exact ⟨k + 1, _, _, by omega, by go_num, HE2, ⟨HN.out.ga⟩, ⟨HN.out.gb⟩, ⟨HLA.out ▸ HN.out.sa⟩, ⟨HLB.out ▸ HN.out.sb⟩, ⟨HN.out.bel⟩⟩
            case measure => simp [intOf]; omega
        · have d5 : (ee != 0) = true := by rw [bne_iff_ne]; exact hee
          have hr : r1 = [] ∧ r2 = [] ∧ r3 = ee := by
            have h1 := H.out
            have h2 := askErr_stop a0 l1 l3 k HE.out (by rw [HA.out]; exact hee) (l3.length - (k + 1))
            rw [show k + 1 + (l3.length - (k + 1)) = l3.length from by omega, HA.out] at h2
            rw [h2, if_neg hee] at h1
            injection h1 with h1 h3
            injection h3 with h3 h4
            exact ⟨h1.symm, h3.symm, h4.symm⟩
          obtain ⟨e1, e2, e3⟩ := hr
          subst e1 e2 e3
          clear hee
          go_wp2_with (go_at_call 10; with_reducible refine (retrieval_Masks.calls 2 a0 n A5 c5 m x y r3 _ (Kd.C_below HC.out HB.out) hle HM.out).mono ?_; rintro e w1 ⟨vx, vy, rfl, hox, hoy, hb1⟩; have HB1 := Aside0.mk hb1; have HGa3 := Aside0.mk (blk_below HGa.out hb1); have HGb3 := Aside0.mk (blk_below HGb.out hb1); have hca2 : w1.cell? ⟨w.heap.size, 0, none⟩ = some va := (blk_cell HGa3.out 0).trans rfl; have hfa2 := blk_frozen HGa3.out 0; have hcb2 : w1.cell? ⟨w.heap.size + 1, 0, none⟩ = some vb := (blk_cell HGb3.out 0).trans rfl; have hfb2 := blk_frozen HGb3.out 0; clear hox hoy hb1)
          have q1 := blk_set HGa3.out 0 (.slice none 0 0)
          have q2 := blk_far (p := ⟨w.heap.size, 0, none⟩) HGb3.out (by simp) (.slice none 0 0)
          refine bodyPost_ret (results_cct rfl _ _ w.heap.size (w.heap.size + 1) 32 32 #[.slice none 0 0] #[.slice none 0 0] (0, 0) (0, 0) _ _ rfl (blk_far (p := ⟨w.heap.size + 1, 0, none⟩) q1 (by simp) _) Try.underlying32 rfl (by kernel_rfl) rfl (blk_set q2 0 _) Try.underlying32 rfl (by kernel_rfl)) rfl ?_
          exact ⟨.slice none 0 0, .slice none 0 0, rfl, Kd.S_nil _ _ _ _ _, Kd.S_nil _ _ _ _ _, ((below_step HB.out HB1.out).setCell (by simp) _).setCell (by simp) _⟩
      · have HAT : Aside0 (askAt a0 l1 l3 k = masksOf a0 0 m) := ⟨by unfold askAt; rw [if_neg hkl, HGET.out]⟩
        obtain ⟨x, y, ee, hxy⟩ : ∃ x y ee, masksOf a0 0 m = (x, y, ee) := ⟨_, _, _, rfl⟩
        have HM : Aside0 (retrieval_Masks.f 2 a0 0 m = some (x, y, ee)) := ⟨by rw [masks_of 0, hxy]⟩
        have HA : Aside0 (askAt a0 l1 l3 k = (x, y, ee)) := ⟨by rw [HAT.out, hxy]⟩
        clear hxy HAT
        by_cases hee : ee = 0
        · have HE2 : Aside0 (askErr a0 l1 l3 (k + 1) = 0) := ⟨by rw [askErr, if_pos HE.out, HA.out]; exact hee⟩
          have d5 : (ee != 0) = false := by rw [hee]; rfl
          have HLA : Aside0 (((List.range k).map fun i => (askAt a0 l1 l3 i).1) ++ [x] = (List.range (k + 1)).map fun i => (askAt a0 l1 l3 i).1) := ⟨by rw [List.range_succ, List.map_append, List.map_cons, List.map_nil, HA.out]⟩
          have HLB : Aside0 (((List.range k).map fun i => (askAt a0 l1 l3 i).2.1) ++ [y] = (List.range (k + 1)).map fun i => (askAt a0 l1 l3 i).2.1) := ⟨by rw [List.range_succ, List.map_append, List.map_cons, List.map_nil, HA.out]⟩
          clear hee
          go_wp2_with (go_at_call 10; with_reducible refine (retrieval_Masks.calls 2 a0 0 A5 c5 m x y ee _ (Kd.C_below HC.out HB.out) hle HM.out).mono ?_; rintro e w1 ⟨vx, vy, rfl, hox, hoy, hb1⟩; have HA0 := Aside0.mk (ask_begin HGa.out HGb.out HSa.out HSb.out HB.out hox hoy hb1); obtain ⟨Ax, cx, ex⟩ := Kd.R_slice hox; obtain ⟨Ay, cy, ey⟩ := Kd.R_slice hoy; generalize hnx : x.length = nx at ex; generalize hny : y.length = ny at ey; clear hnx hny; subst ex ey; clear hox hoy hb1)
          refine start_ (n := 14) (S := fun W' => W'.heap[w.heap.size]? = some (.cells #[va] 32 (0, 0)) ∧ W'.heap[w.heap.size + 1]? = some (.cells #[vb] 32 (0, 0))) (ds := [11, 13]) #[false, false, false, false, false, false, false, false, false, false, false, false, false, false] (by kernel_rfl) rfl rfl (⟨HA0.out.ga, HA0.out.gb⟩) (fun hHeld => ?_)
          generalize w1.drew = W at HA0 hHeld ⊢
          refine pure_ (i := 0) (N := some 65) (v := ?_) (a' := ?_) #[true, false, false, false, false, false, false, false, false, false, false, false, false, false] rfl rfl (any_of rfl (by kernel_rfl)) (fun _ _ _ h => h) (Or.inl ⟨by rfl, ?_⟩) ?_ ?_
          rotate_left
          · intro w'
            go_simp
            with_reducible rfl
          rotate_left
          · simp only [Act.put, List.setIfInBounds_toArray, List.set_cons_zero, List.set_cons_succ, i64_w, i32_w]
            rfl
          refine take_ (i := 1) (N := some 66) (v := ?_) (a' := ?_) #[true, true, false, false, false, false, false, false, false, false, false, false, false, false] rfl rfl (take_of rfl (by kernel_rfl)) (fun _ _ _ h => h) (Or.inl ⟨by rfl, ?_⟩) hHeld ?_ ?_
          rotate_left
          · intro w' s0
            have hx := (blk_cell s0.1 0).trans (rfl : _ = some va)
            go_simp
            with_reducible rfl
          rotate_left
          · simp only [Act.put, List.setIfInBounds_toArray, List.set_cons_zero, List.set_cons_succ, i64_w, i32_w]
            rfl
          refine pure_ (i := 2) (N := some 67) (v := ?_) (a' := ?_) #[true, true, true, false, false, false, false, false, false, false, false, false, false, false] rfl rfl (any_of rfl (by kernel_rfl)) (fun _ _ _ h => h) (Or.inl ⟨by rfl, ?_⟩) ?_ ?_
          rotate_left
          · intro w'
            go_simp
            with_reducible rfl
          rotate_left
          · simp only [Act.put, List.setIfInBounds_toArray, List.set_cons_zero, List.set_cons_succ, i64_w, i32_w]
            rfl
          refine pure_ (i := 5) (N := some 70) (v := ?_) (a' := ?_) #[true, true, true, false, false, true, false, false, false, false, false, false, false, false] rfl rfl (any_of rfl (by kernel_rfl)) (fun _ _ _ h => h) (Or.inl ⟨by rfl, ?_⟩) ?_ ?_
          rotate_left
          · intro w'
            go_simp
            with_reducible rfl
          rotate_left
          · simp only [Act.put, List.setIfInBounds_toArray, List.set_cons_zero, List.set_cons_succ, i64_w, i32_w]
            rfl
          refine take_ (i := 6) (N := some 71) (v := ?_) (a' := ?_) #[true, true, true, false, false, true, true, false, false, false, false, false, false, false] rfl rfl (take_of rfl (by kernel_rfl)) (fun _ _ _ h => h) (Or.inl ⟨by rfl, ?_⟩) hHeld ?_ ?_
          rotate_left
          · intro w' s0
            have hx := (blk_cell s0.2 0).trans (rfl : _ = some vb)
            go_simp
            with_reducible rfl
          rotate_left
          · simp only [Act.put, List.setIfInBounds_toArray, List.set_cons_zero, List.set_cons_succ, i64_w, i32_w]
            rfl
          refine pure_ (i := 7) (N := some 72) (v := ?_) (a' := ?_) #[true, true, true, false, false, true, true, true, false, false, false, false, false, false] rfl rfl (any_of rfl (by kernel_rfl)) (fun _ _ _ h => h) (Or.inl ⟨by rfl, ?_⟩) ?_ ?_
          rotate_left
          · intro w'
            go_simp
            with_reducible rfl
          rotate_left
          · simp only [Act.put, List.setIfInBounds_toArray, List.set_cons_zero, List.set_cons_succ, i64_w, i32_w]
            rfl
          have HLT := Aside0.mk (S_lt HA0.out.sa)
          refine two_ (i := 3) (j := 8) (Ni := some 68) (Nj := some 73) #[true, true, true, true, false, true, true, true, false, false, false, false, false, false] #[true, true, true, false, false, true, true, true, true, false, false, false, false, false] rfl rfl rfl rfl (two_of rfl (by kernel_rfl)) (by decide) (by decide) (fun K hK => ?_) (fun K hK => ?_)
          · refine value_ (w1 := ?_) (v := ?_) (by rfl) rfl ?_ ?_
            rotate_left 2
            · go_simp
              constructor
              · rfl
              · rfl
            have HA0' := Aside0.mk (HA0.out.alloc (.cells #[.slice Ax nx cx] 22))
            refine hK.out _ _ ⟨HA0'.out.ga, HA0'.out.gb⟩ (fun hHeld => ?_)
            clear hK K
            refine norm_ (a' := ?_) ?_ ?_
            rotate_left
            · show Act.put _ (some 68) _ = _
              simp only [Act.put, List.setIfInBounds_toArray, List.set_cons_zero, List.set_cons_succ, i64_w, i32_w]
              rfl
            have HGX : Aside0 ((W.alloc (.cells #[.slice Ax nx cx] 22)).heap[W.heap.size]? = some (.cells #[.slice Ax nx cx] 22 (0, 0))) := ⟨heap_alloc_new W _⟩
            refine two_ (i := 4) (j := 8) (Ni := some 69) (Nj := some 73) #[true, true, true, true, true, true, true, true, false, false, false, false, false, false] #[true, true, true, true, false, true, true, true, true, false, false, false, false, false] rfl rfl rfl rfl (two_of rfl (by kernel_rfl)) (by decide) (by decide) (fun K hK => ?_) (fun K hK => ?_)
            · refine ask_append_a HA0'.out rfl (.tmp 66) (.tmp 68) rfl rfl W.heap.size rfl HGX.out (by simp; omega) ?_
              intro va1 W2 hA1 hkeep
              have HA1' := Aside0.mk hA1
              refine hK.out _ _ ⟨hA1.ga, hA1.gb⟩ (fun hHeld => ?_)
              clear hK K
              refine norm_ (a' := ?_) ?_ ?_
              rotate_left
              · show Act.put _ (some 69) _ = _
                simp only [Act.put, List.setIfInBounds_toArray, List.set_cons_zero, List.set_cons_succ, i64_w, i32_w]
                rfl
              clear hA1 hkeep HGX HA0'
              refine pure_ (i := 10) (N := some 75) (v := ?_) (a' := ?_) #[true, true, true, true, true, true, true, true, false, false, true, false, false, false] rfl rfl (any_of rfl (by kernel_rfl)) (fun _ _ _ h => h) (Or.inl ⟨by rfl, ?_⟩) ?_ ?_
              rotate_left
              · intro w'
                go_simp
                with_reducible rfl
              rotate_left
              · simp only [Act.put, List.setIfInBounds_toArray, List.set_cons_zero, List.set_cons_succ, i64_w, i32_w]
                rfl
              refine one_ (i := 8) (N := some 73) #[true, true, true, true, true, true, true, true, true, false, true, false, false, false] rfl rfl (one_of rfl (by kernel_rfl)) (by decide) (fun K hK => ?_)
              refine value_ (w1 := ?_) (v := ?_) (by rfl) rfl ?_ ?_
              rotate_left 2
              · go_simp
                constructor
                · rfl
                · rfl
              have HA1 := Aside0.mk (HA1'.out.alloc (.cells #[.slice Ay ny cy] 22))
              refine hK.out _ _ ⟨HA1.out.ga, HA1.out.gb⟩ (fun hHeld => ?_)
              clear hK K
              refine norm_ (a' := ?_) ?_ ?_
              rotate_left
              · show Act.put _ (some 73) _ = _
                simp only [Act.put, List.setIfInBounds_toArray, List.set_cons_zero, List.set_cons_succ, i64_w, i32_w]
                rfl
              have HGY : Aside0 ((W2.alloc (.cells #[.slice Ay ny cy] 22)).heap[W2.heap.size]? = some (.cells #[.slice Ay ny cy] 22 (0, 0))) := ⟨heap_alloc_new W2 _⟩
              obtain ⟨gy, hgy⟩ : ∃ gy, gy = W2.heap.size := ⟨_, rfl⟩
              rw [← hgy] at HGY ⊢
              generalize (W2.alloc (.cells #[.slice Ay ny cy] 22)) = W3 at *
              clear hgy
              refine one_ (i := 9) (N := some 74) #[true, true, true, true, true, true, true, true, true, true, true, false, false, false] rfl rfl (one_of rfl (by kernel_rfl)) (by decide) (fun K hK => ?_)
              refine ask_append_b HA1.out rfl (.tmp 71) (.tmp 73) rfl rfl gy rfl HGY.out (by simp; omega) ?_
              intro vb1 W4 hA2
              obtain ⟨Aa, ca, ea⟩ := Kd.S_slice hA2.sa
              obtain ⟨Ab, cb, eb⟩ := Kd.S_slice hA2.sb
              generalize hna : (_ ++ [x] : List (List Int)).length = na at ea
              generalize hnb : (_ ++ [y] : List (List Int)).length = nb at eb
              clear hna hnb
              subst ea eb
              have HA2 := Aside0.mk hA2
              refine hK.out _ _ ⟨hA2.ga, hA2.gb⟩ (fun hHeld => ?_)
              clear hK K
              refine norm_ (a' := ?_) ?_ ?_
              rotate_left
              · show Act.put _ (some 74) _ = _
                simp only [Act.put, List.setIfInBounds_toArray, List.set_cons_zero, List.set_cons_succ, i64_w, i32_w]
                rfl
              clear hA2 HA1 HGY hHeld
              refine last_ (i := 11) (N := none) #[true, true, true, true, true, true, true, true, true, true, true, true, false, false] rfl rfl (one_of rfl (by kernel_rfl)) (by decide) (fun K hK => ?_)
              have hx1 := (blk_cell HA2.out.ga 0).trans (rfl : _ = some va)
              have hf1 := blk_frozen HA2.out.ga 0
              refine skip_ (w1 := ?_) (by rfl) rfl ?_ ?_
              rotate_left
              · go_simp
                try rfl
              refine hK.out _ _ ?_
              clear hK K hx1 hf1
              refine pure_ (i := 12) (N := some 76) (v := ?_) (a' := ?_) #[true, true, true, true, true, true, true, true, true, true, true, true, true, false] rfl rfl (any_of rfl (by kernel_rfl)) (fun _ _ _ h => h) (Or.inl ⟨by rfl, ?_⟩) ?_ ?_
              rotate_left
              · intro w'
                go_simp
                with_reducible rfl
              rotate_left
              · simp only [Act.put, List.setIfInBounds_toArray, List.set_cons_zero, List.set_cons_succ, i64_w, i32_w]
                rfl
              refine last_ (i := 13) (N := none) #[true, true, true, true, true, true, true, true, true, true, true, true, true, true] rfl rfl (one_of rfl (by kernel_rfl)) (by decide) (fun K hK => ?_)
              have hx1 : (W4.setCell ⟨w.heap.size, 0, none⟩ (.slice Aa na ca)).cell? ⟨w.heap.size + 1, 0, none⟩ = some vb := (blk_cell (blk_far HA2.out.gb (by simp) _) 0).trans rfl
              have hf1 := blk_frozen (blk_far (p := ⟨w.heap.size, 0, none⟩) HA2.out.gb (by simp) (.slice Aa na ca)) 0
              refine skip_ (w1 := ?_) (by rfl) rfl ?_ ?_
              rotate_left
              · go_simp
                try rfl
              refine hK.out _ _ ?_
              clear hK K hx1 hf1
              refine done_ (done_of rfl (by kernel_rfl)) ?_
              have HN := Aside0.mk (ask_next HA2.out (va := va) (vb := vb))
              go_wp2
              go_roundw
              case rel => exact ⟨k + 1, _, _, by omega, by go_num, HE2, ⟨HN.out.ga⟩, ⟨HN.out.gb⟩, ⟨HLA.out ▸ HN.out.sa⟩, ⟨HLB.out ▸ HN.out.sb⟩, ⟨HN.out.bel⟩⟩
              case measure => simp [intOf]; omega
            · refine value_ (w1 := ?_) (v := ?_) (by rfl) rfl ?_ ?_
              rotate_left 2
              · go_simp
                constructor
                · rfl
                · rfl
              have HA3 := Aside0.mk (HA0'.out.alloc (.cells #[.slice Ay ny cy] 22))
              refine hK.out _ _ ⟨HA3.out.ga, HA3.out.gb⟩ (fun hHeld => ?_)
              clear hK K
              refine norm_ (a' := ?_) ?_ ?_
              rotate_left
              · show Act.put _ (some 73) _ = _
                simp only [Act.put, List.setIfInBounds_toArray, List.set_cons_zero, List.set_cons_succ, i64_w, i32_w]
                rfl
              have HGX2 := Aside0.mk (blk_alloc HGX.out (.cells #[.slice Ay ny cy] 22))
              have HGY2 : Aside0 (((W.alloc (.cells #[.slice Ax nx cx] 22)).alloc (.cells #[.slice Ay ny cy] 22)).heap[W.heap.size + 1]? = some (.cells #[.slice Ay ny cy] 22 (0, 0))) := ⟨by simpa using heap_alloc_new (W.alloc (.cells #[.slice Ax nx cx] 22)) (.cells #[.slice Ay ny cy] 22)⟩
              refine one_ (i := 4) (N := some 69) #[true, true, true, true, true, true, true, true, true, false, false, false, false, false] rfl rfl (one_of rfl (by kernel_rfl)) (by decide) (fun K hK => ?_)
              refine ask_append_a HA3.out rfl (.tmp 66) (.tmp 68) rfl rfl W.heap.size rfl HGX2.out (by simp; omega) ?_
              intro va1 W3 hA1 hkeep
              have HA1 := Aside0.mk hA1
              have HGY := Aside0.mk (hkeep _ _ HGY2.out (fun e => by have := HLT.out _ e; omega))
              refine hK.out _ _ ⟨hA1.ga, hA1.gb⟩ (fun hHeld => ?_)
              clear hK K
              refine norm_ (a' := ?_) ?_ ?_
              rotate_left
              · show Act.put _ (some 69) _ = _
                simp only [Act.put, List.setIfInBounds_toArray, List.set_cons_zero, List.set_cons_succ, i64_w, i32_w]
                rfl
              refine pure_ (i := 10) (N := some 75) (v := ?_) (a' := ?_) #[true, true, true, true, true, true, true, true, true, false, true, false, false, false] rfl rfl (any_of rfl (by kernel_rfl)) (fun _ _ _ h => h) (Or.inl ⟨by rfl, ?_⟩) ?_ ?_
              rotate_left
              · intro w'
                go_simp
                with_reducible rfl
              rotate_left
              · simp only [Act.put, List.setIfInBounds_toArray, List.set_cons_zero, List.set_cons_succ, i64_w, i32_w]
                rfl
              clear hA1 hkeep HGX HGX2 HGY2 HA3 HA0'
              obtain ⟨gy, hgy⟩ : ∃ gy, gy = W.heap.size + 1 := ⟨_, rfl⟩
              rw [← hgy] at HGY ⊢
              clear hgy
              refine one_ (i := 9) (N := some 74) #[true, true, true, true, true, true, true, true, true, true, true, false, false, false] rfl rfl (one_of rfl (by kernel_rfl)) (by decide) (fun K hK => ?_)
              refine ask_append_b HA1.out rfl (.tmp 71) (.tmp 73) rfl rfl gy rfl HGY.out (by simp; omega) ?_
              intro vb1 W4 hA2
              obtain ⟨Aa, ca, ea⟩ := Kd.S_slice hA2.sa
              obtain ⟨Ab, cb, eb⟩ := Kd.S_slice hA2.sb
              generalize hna : (_ ++ [x] : List (List Int)).length = na at ea
              generalize hnb : (_ ++ [y] : List (List Int)).length = nb at eb
              clear hna hnb
              subst ea eb
              have HA2 := Aside0.mk hA2
              refine hK.out _ _ ⟨hA2.ga, hA2.gb⟩ (fun hHeld => ?_)
              clear hK K
              refine norm_ (a' := ?_) ?_ ?_
              rotate_left
              · show Act.put _ (some 74) _ = _
                simp only [Act.put, List.setIfInBounds_toArray, List.set_cons_zero, List.set_cons_succ, i64_w, i32_w]
                rfl
              clear hA2 HA1 HGY hHeld
              refine last_ (i := 11) (N := none) #[true, true, true, true, true, true, true, true, true, true, true, true, false, false] rfl rfl (one_of rfl (by kernel_rfl)) (by decide) (fun K hK => ?_)
              have hx1 := (blk_cell HA2.out.ga 0).trans (rfl : _ = some va)
              have hf1 := blk_frozen HA2.out.ga 0
              refine skip_ (w1 := ?_) (by rfl) rfl ?_ ?_
              rotate_left
              · go_simp
                try rfl
              refine hK.out _ _ ?_
              clear hK K hx1 hf1
              refine pure_ (i := 12) (N := some 76) (v := ?_) (a' := ?_) #[true, true, true, true, true, true, true, true, true, true, true, true, true, false] rfl rfl (any_of rfl (by kernel_rfl)) (fun _ _ _ h => h) (Or.inl ⟨by rfl, ?_⟩) ?_ ?_
              rotate_left
              · intro w'
                go_simp
                with_reducible rfl
              rotate_left
              · simp only [Act.put, List.setIfInBounds_toArray, List.set_cons_zero, List.set_cons_succ, i64_w, i32_w]
                rfl
              refine last_ (i := 13) (N := none) #[true, true, true, true, true, true, true, true, true, true, true, true, true, true] rfl rfl (one_of rfl (by kernel_rfl)) (by decide) (fun K hK => ?_)
              have hx1 : (W4.setCell ⟨w.heap.size, 0, none⟩ (.slice Aa na ca)).cell? ⟨w.heap.size + 1, 0, none⟩ = some vb := (blk_cell (blk_far HA2.out.gb (by simp) _) 0).trans rfl
              have hf1 := blk_frozen (blk_far (p := ⟨w.heap.size, 0, none⟩) HA2.out.gb (by simp) (.slice Aa na ca)) 0
              refine skip_ (w1 := ?_) (by rfl) rfl ?_ ?_
              rotate_left
              · go_simp
                try rfl
              refine hK.out _ _ ?_
              clear hK K hx1 hf1
              refine done_ (done_of rfl (by kernel_rfl)) ?_
              have HN := Aside0.mk (ask_next HA2.out (va := va) (vb := vb))
              go_wp2
              go_roundw
              case rel => exact ⟨k + 1, _, _, by omega, by go_num, HE2, ⟨HN.out.ga⟩, ⟨HN.out.gb⟩, ⟨HLA.out ▸ HN.out.sa⟩, ⟨HLB.out ▸ HN.out.sb⟩, ⟨HN.out.bel⟩⟩
              case measure => simp [intOf]; omega
          · refine value_ (w1 := ?_) (v := ?_) (by rfl) rfl ?_ ?_
            rotate_left 2
            · go_simp
              constructor
              · rfl
              · rfl
            have HA0' := Aside0.mk (HA0.out.alloc (.cells #[.slice Ay ny cy] 22))
            refine hK.out _ _ ⟨HA0'.out.ga, HA0'.out.gb⟩ (fun hHeld => ?_)
            clear hK K
            refine norm_ (a' := ?_) ?_ ?_
            rotate_left
            · show Act.put _ (some 73) _ = _
              simp only [Act.put, List.setIfInBounds_toArray, List.set_cons_zero, List.set_cons_succ, i64_w, i32_w]
              rfl
            refine one_ (i := 3) (N := some 68) #[true, true, true, true, false, true, true, true, true, false, false, false, false, false] rfl rfl (one_of rfl (by kernel_rfl)) (by decide) (fun K hK => ?_)
            refine value_ (w1 := ?_) (v := ?_) (by rfl) rfl ?_ ?_
            rotate_left 2
            · go_simp
              constructor
              · rfl
              · rfl
            have HA3 := Aside0.mk (HA0'.out.alloc (.cells #[.slice Ax nx cx] 22))
            refine hK.out _ _ ⟨HA3.out.ga, HA3.out.gb⟩ (fun hHeld => ?_)
            clear hK K
            refine norm_ (a' := ?_) ?_ ?_
            rotate_left
            · show Act.put _ (some 68) _ = _
              simp only [Act.put, List.setIfInBounds_toArray, List.set_cons_zero, List.set_cons_succ, i64_w, i32_w]
              rfl
            have HGX2 : Aside0 (((W.alloc (.cells #[.slice Ay ny cy] 22)).alloc (.cells #[.slice Ax nx cx] 22)).heap[W.heap.size + 1]? = some (.cells #[.slice Ax nx cx] 22 (0, 0))) := ⟨by simpa using heap_alloc_new (W.alloc (.cells #[.slice Ay ny cy] 22)) (.cells #[.slice Ax nx cx] 22)⟩
            have HGY2 := Aside0.mk (blk_alloc (heap_alloc_new W (.cells #[.slice Ay ny cy] 22)) (.cells #[.slice Ax nx cx] 22))
            refine one_ (i := 4) (N := some 69) #[true, true, true, true, true, true, true, true, true, false, false, false, false, false] rfl rfl (one_of rfl (by kernel_rfl)) (by decide) (fun K hK => ?_)
            refine ask_append_a HA3.out rfl (.tmp 66) (.tmp 68) rfl rfl (W.heap.size + 1) rfl HGX2.out (by simp; omega) ?_
            intro va1 W3 hA1 hkeep
            have HA1 := Aside0.mk hA1
            have HGY := Aside0.mk (hkeep _ _ HGY2.out (fun e => by have := HLT.out _ e; omega))
            refine hK.out _ _ ⟨hA1.ga, hA1.gb⟩ (fun hHeld => ?_)
            clear hK K
            refine norm_ (a' := ?_) ?_ ?_
            rotate_left
            · show Act.put _ (some 69) _ = _
              simp only [Act.put, List.setIfInBounds_toArray, List.set_cons_zero, List.set_cons_succ, i64_w, i32_w]
              rfl
            refine pure_ (i := 10) (N := some 75) (v := ?_) (a' := ?_) #[true, true, true, true, true, true, true, true, true, false, true, false, false, false] rfl rfl (any_of rfl (by kernel_rfl)) (fun _ _ _ h => h) (Or.inl ⟨by rfl, ?_⟩) ?_ ?_
            rotate_left
            · intro w'
              go_simp
              with_reducible rfl
            rotate_left
            · simp only [Act.put, List.setIfInBounds_toArray, List.set_cons_zero, List.set_cons_succ, i64_w, i32_w]
              rfl
            clear hA1 hkeep HGX2 HGY2 HA3 HA0'
            obtain ⟨gy, hgy⟩ : ∃ gy, gy = W.heap.size := ⟨_, rfl⟩
            rw [← hgy] at HGY ⊢
            clear hgy
            refine one_ (i := 9) (N := some 74) #[true, true, true, true, true, true, true, true, true, true, true, false, false, false] rfl rfl (one_of rfl (by kernel_rfl)) (by decide) (fun K hK => ?_)
            refine ask_append_b HA1.out rfl (.tmp 71) (.tmp 73) rfl rfl gy rfl HGY.out (by simp; omega) ?_
            intro vb1 W4 hA2
            obtain ⟨Aa, ca, ea⟩ := Kd.S_slice hA2.sa
            obtain ⟨Ab, cb, eb⟩ := Kd.S_slice hA2.sb
            generalize hna : (_ ++ [x] : List (List Int)).length = na at ea
            generalize hnb : (_ ++ [y] : List (List Int)).length = nb at eb
            clear hna hnb
            subst ea eb
            have HA2 := Aside0.mk hA2
            refine hK.out _ _ ⟨hA2.ga, hA2.gb⟩ (fun hHeld => ?_)
            clear hK K
            refine norm_ (a' := ?_) ?_ ?_
            rotate_left
            · show Act.put _ (some 74) _ = _
              simp only [Act.put, List.setIfInBounds_toArray, List.set_cons_zero, List.set_cons_succ, i64_w, i32_w]
              rfl
            clear hA2 HA1 HGY hHeld
            refine last_ (i := 11) (N := none) #[true, true, true, true, true, true, true, true, true, true, true, true, false, false] rfl rfl (one_of rfl (by kernel_rfl)) (by decide) (fun K hK => ?_)
            have hx1 := (blk_cell HA2.out.ga 0).trans (rfl : _ = some va)
            have hf1 := blk_frozen HA2.out.ga 0
            refine skip_ (w1 := ?_) (by rfl) rfl ?_ ?_
            rotate_left
            · go_simp
              try rfl
            refine hK.out _ _ ?_
            clear hK K hx1 hf1
            refine pure_ (i := 12) (N := some 76) (v := ?_) (a' := ?_) #[true, true, true, true, true, true, true, true, true, true, true, true, true, false] rfl rfl (any_of rfl (by kernel_rfl)) (fun _ _ _ h => h) (Or.inl ⟨by rfl, ?_⟩) ?_ ?_
            rotate_left
            · intro w'
              go_simp
              with_reducible rfl
            rotate_left
            · simp only [Act.put, List.setIfInBounds_toArray, List.set_cons_zero, List.set_cons_succ, i64_w, i32_w]
              rfl
            refine last_ (i := 13) (N := none) #[true, true, true, true, true, true, true, true, true, true, true, true, true, true] rfl rfl (one_of rfl (by kernel_rfl)) (by decide) (fun K hK => ?_)
            have hx1 : (W4.setCell ⟨w.heap.size, 0, none⟩ (.slice Aa na ca)).cell? ⟨w.heap.size + 1, 0, none⟩ = some vb := (blk_cell (blk_far HA2.out.gb (by simp) _) 0).trans rfl
            have hf1 := blk_frozen (blk_far (p := ⟨w.heap.size, 0, none⟩) HA2.out.gb (by simp) (.slice Aa na ca)) 0
            refine skip_ (w1 := ?_) (by rfl) rfl ?_ ?_
            rotate_left
            · go_simp
              try rfl
            refine hK.out _ _ ?_
            clear hK K hx1 hf1
            refine done_ (done_of rfl (by kernel_rfl)) ?_
            have HN := Aside0.mk (ask_next HA2.out (va := va) (vb := vb))
            go_wp2
            go_roundw
            case rel => exact ⟨k + 1, _, _, by omega, by go_num, HE2, ⟨HN.out.ga⟩, ⟨HN.out.gb⟩, ⟨HLA.out ▸ HN.out.sa⟩, ⟨HLB.out ▸ HN.out.sb⟩, ⟨HN.out.bel⟩⟩
            case measure => simp [intOf]; omega
        · have d5 : (ee != 0) = true := by rw [bne_iff_ne]; exact hee
          have hr : r1 = [] ∧ r2 = [] ∧ r3 = ee := by
            have h1 := H.out
            have h2 := askErr_stop a0 l1 l3 k HE.out (by rw [HA.out]; exact hee) (l3.length - (k + 1))
            rw [show k + 1 + (l3.length - (k + 1)) = l3.length from by omega, HA.out] at h2
            rw [h2, if_neg hee] at h1
            injection h1 with h1 h3
            injection h3 with h3 h4
            exact ⟨h1.symm, h3.symm, h4.symm⟩
          obtain ⟨e1, e2, e3⟩ := hr
          subst e1 e2 e3
          clear hee
          go_wp2_with (go_at_call 10; with_reducible refine (retrieval_Masks.calls 2 a0 0 A5 c5 m x y r3 _ (Kd.C_below HC.out HB.out) hle HM.out).mono ?_; rintro e w1 ⟨vx, vy, rfl, hox, hoy, hb1⟩; have HB1 := Aside0.mk hb1; have HGa3 := Aside0.mk (blk_below HGa.out hb1); have HGb3 := Aside0.mk (blk_below HGb.out hb1); have hca2 : w1.cell? ⟨w.heap.size, 0, none⟩ = some va := (blk_cell HGa3.out 0).trans rfl; have hfa2 := blk_frozen HGa3.out 0; have hcb2 : w1.cell? ⟨w.heap.size + 1, 0, none⟩ = some vb := (blk_cell HGb3.out 0).trans rfl; have hfb2 := blk_frozen HGb3.out 0; clear hox hoy hb1)
          have q1 := blk_set HGa3.out 0 (.slice none 0 0)
          have q2 := blk_far (p := ⟨w.heap.size, 0, none⟩) HGb3.out (by simp) (.slice none 0 0)
          refine bodyPost_ret (results_cct rfl _ _ w.heap.size (w.heap.size + 1) 32 32 #[.slice none 0 0] #[.slice none 0 0] (0, 0) (0, 0) _ _ rfl (blk_far (p := ⟨w.heap.size + 1, 0, none⟩) q1 (by simp) _) Try.underlying32 rfl (by kernel_rfl) rfl (blk_set q2 0 _) Try.underlying32 rfl (by kernel_rfl)) rfl ?_
          exact ⟨.slice none 0 0, .slice none 0 0, rfl, Kd.S_nil _ _ _ _ _, Kd.S_nil _ _ _ _ _, ((below_step HB.out HB1.out).setCell (by simp) _).setCell (by simp) _⟩
    · have hk2 : k = l3.length := by omega
      have HK2 := Aside0.mk hk2
      clear hk2
      have hca : wr.cell? ⟨w.heap.size, 0, none⟩ = some va := (blk_cell HGa.out 0).trans rfl
      have hfa := blk_frozen HGa.out 0
      have hcb : wr.cell? ⟨w.heap.size + 1, 0, none⟩ = some vb := (blk_cell HGb.out 0).trans rfl
      have hfb := blk_frozen HGb.out 0
      obtain ⟨Aa, ca, ea⟩ := Kd.S_slice HSa.out
      obtain ⟨Ab, cb, eb⟩ := Kd.S_slice HSb.out
      generalize hna : ((List.range k).map fun i => (askAt a0 l1 l3 i).1).length = na at ea
      generalize hnb : ((List.range k).map fun i => (askAt a0 l1 l3 i).2.1).length = nb at eb
      clear hna hnb
      subst ea eb
      go_wp2
      go_region
      go_wp2
      have q1 := blk_set HGa.out 0 (.slice Aa na ca)
      have q2 := blk_far (p := ⟨w.heap.size, 0, none⟩) HGb.out (by simp) (.slice Aa na ca)
      refine bodyPost_ret (results_cct rfl _ _ w.heap.size (w.heap.size + 1) 32 32 #[.slice Aa na ca] #[.slice Ab nb cb] (0, 0) (0, 0) _ _ rfl (blk_drew (blk_far (p := ⟨w.heap.size + 1, 0, none⟩) q1 (by simp) _)) Try.underlying32 rfl (by kernel_rfl) rfl (blk_drew (blk_set q2 0 _)) Try.underlying32 rfl (by kernel_rfl)) rfl ?_
      have hh := H.out
      have he := HE.out
      rw [HK2.out] at he
      rw [if_pos he, ← HK2.out] at hh
      injection hh with h1 h2
      injection h2 with h2 h3
      subst h1 h2 h3
      exact ⟨.slice Aa na ca, .slice Ab nb cb, rfl, Kd.S_drew (Kd.S_set (Kd.S_set HSa.out HGa.out (by decide) 0 _) q2 (by decide) 0 _), Kd.S_drew (Kd.S_set (Kd.S_set HSb.out HGa.out (by decide) 0 _) q2 (by decide) 0 _), below_drew ((HB.out.setCell (by simp) _).setCell (by simp) _)⟩

theorem retrieval_Ask.calls (a0 : Int) (A1 : Option Addr) (c1 : Nat) (l1 : List Int) (a2 : Int) (A3 : Option Addr) (c3 : Nat) (l3 : List (List Int)) (r1 : List (List Int)) (r2 : List (List Int)) (r3 : Int) (w : World) (hr1 : Kd.C (Kd.int .i64) w A1 l1.length l1) (hc1 : l1.length ≤ c1) (hr3 : Kd.C (Kd.slice 5 (Kd.int .u8)) w A3 l3.length l3) (hc3 : l3.length ≤ c3) (h : retrieval_Ask.f a0 l1 a2 l3 = some (r1, r2, r3)) :
    Calls Try.prog 20 #[.int .i64 a0, .slice A1 l1.length c1, .int .i64 a2, .slice A3 l3.length c3] w fun e w' => ∃ v0_ v1_ : Value, e = .returned (.tuple #[.agg #[v0_], .agg #[v1_], .int .i64 r3]) ∧ Kd.S (Kd.slice 5 (Kd.int .u8)) 22 w' w.heap.size (fun k_ => some k_ ≠ (v1_ : Value).ownBlock) v0_ r1 ∧ Kd.S (Kd.slice 5 (Kd.int .u8)) 22 w' w.heap.size (fun k_ => some k_ ≠ (v0_ : Value).ownBlock) v1_ r2 ∧ Below w.heap.size w w' := by
  unfold retrieval_Ask.f at h
  cases hb : askBad l1 a2 l3 with
  | true =>
    rw [hb, if_pos rfl] at h
    injection h with h
    injection h with h1 h2
    injection h2 with h2 h3
    subst h1 h2 h3
    refine (ask_bad a0 A1 c1 l1 a2 A3 c3 l3 w hb).mono ?_
    rintro e w' ⟨rfl, hbel⟩
    exact ⟨.slice none 0 0, .slice none 0 0, rfl, Kd.S_nil _ _ _ _ _, Kd.S_nil _ _ _ _ _, hbel⟩
  | false =>
    rw [hb, if_neg (by simp)] at h
    refine ask_good a0 A1 c1 l1 a2 A3 c3 l3 r1 r2 r3 w hr1 hc1 hr3 hc3 hb ?_
    split at h
    · rename_i hq; rw [if_pos hq]; exact Option.some.inj h
    · rename_i hq; rw [if_neg hq]; exact Option.some.inj h


end Go.Proofs.Ytekpbncljaeemaa.Q
