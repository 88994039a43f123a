/- The reference's boTable, walked: for at most ten frames. -/
import Derived.Test.YtdioconinnpmmaaPinFrame
set_option linter.unusedVariables false
set_option linter.unusedSimpArgs false
namespace Go.Proofs.Ytdioconinnpmmaa.Pin
open Go.RowKit Go.Proofs.YtdioconinnpmmaaW.PrintWords Go.Proofs.YtdioconinnpmmaaW.PrintLast
/-! ### Pins: boTable -/
theorem infoRows : (Try.prog.info? 54).map (fun i => (i.zero, i.size, i.bytes)) = some (some (.slice none 0 0), 1, 24) := by kernel_rfl
theorem infoInts : (Try.prog.info? 28).map (fun i => (i.zero, i.size, i.bytes)) = some (some (.slice none 0 0), 1, 24) := by kernel_rfl
def LastC : Prop := ∀ (G cap : Nat) (x y : Int) (w0 w : World), (1 ≤ x ∧ x ≤ 3) → (1 ≤ y ∧ y ≤ 2) → Below w0.heap.size w0 w → CntAt w w0.heap.size G cap (fun _ => 0) →
  Calls Try.prog 40 #[.slice (some ⟨G, 0, none⟩) 301 cap, .int .i64 x, .int .i64 y] w fun e w' => e = .returned (.tuple #[]) ∧ CntAt w' w0.heap.size G cap (cntP 1 x y) ∧ Below w0.heap.size w0 w' ∧ Kept w w' (fun k => k = G)
/-- The tables for 0 to m - 1 frames left. -/
def TableAt (w : World) (N : Nat) (v : Value) (m : Nat) : Prop := ∃ (B c : Nat) (vs : List Value), v = .slice (some ⟨B, 0, none⟩) m c ∧ m ≤ c ∧ B < N ∧ (∃ cells, w.heap[B]? = some (.cells cells 54 (0, 0))) ∧ vs.length = m ∧
  ∀ i (h : i < vs.length), w.cell? ⟨B, i, none⟩ = some vs[i] ∧ RowAt w N vs[i] i
theorem TableAt.step {w w' : World} {N N' : Nat} {v : Value} {m : Nat} (ht : TableAt w N v m) (hN : N ≤ N') (hm : ∀ g t, g < N → (t = 3 ∨ t = 28 ∨ t = 54) → (∃ cells, w.heap[g]? = some (.cells cells t (0, 0))) → w'.heap[g]? = w.heap[g]?) : TableAt w' N' v m := by
  obtain ⟨B, c, us, h1, h2, h3, h4, h5, h6⟩ := ht
  have e := hm B 54 h3 (Or.inr (Or.inr rfl)) h4
  refine ⟨B, c, us, h1, h2, Nat.lt_of_lt_of_le h3 hN, by rw [e]; exact h4, h5, fun j hj => ⟨?_, (h6 j hj).2.step hN (fun g t hg ht hc => hm g t hg (ht.elim Or.inl (fun h => Or.inr (Or.inl h))) hc)⟩⟩
  rw [← (h6 j hj).1]
  exact World.cell?_of_block e
theorem TableAt.kept {w w' : World} {N : Nat} {S : Nat → Prop} {v : Value} {m : Nat} (ht : TableAt w N v m) (hk : Kept w w' S) (hS : ∀ g, g < N → ¬ S g) : TableAt w' N v m :=
  ht.step (Nat.le_refl _) (fun g _ hg _ hc => by
    obtain ⟨cells, hc⟩ := hc
    exact hk.2 g (Array.getElem?_eq_some_iff.1 hc).1 (hS g hg))
/-- Four small numbers in a block of their own. -/
def SmallAt (w : World) (O : Nat) (f : Nat → Int) : Prop := (∃ cells, w.heap[O]? = some (.cells cells 3 (0, 0))) ∧ ∀ i, i < 4 → w.cell? ⟨O, i, none⟩ = some (.int .i64 (f i))
theorem SmallAt.step {w w' : World} {O : Nat} {f : Nat → Int} (h : SmallAt w O f) (e : w'.heap[O]? = w.heap[O]?) : SmallAt w' O f := by
  obtain ⟨h1, h2⟩ := h
  refine ⟨by rw [e]; exact h1, fun i hi => ?_⟩
  rw [← h2 i hi]
  exact World.cell?_of_block e
theorem SmallAt.lt {w : World} {O : Nat} {f : Nat → Int} (h : SmallAt w O f) : O < w.heap.size := by
  obtain ⟨⟨cells, h1⟩, _⟩ := h
  exact (Array.getElem?_eq_some_iff.1 h1).1
theorem own_slice1 {w : World} {base e n : Nat} {v : Value} {xs : List Value} (h : w.ownsRow base e 1 v n xs) : ∃ A c, v = .slice A n c := by
  rcases h.2 with ⟨rfl, rfl⟩ | ⟨g, cap, cur, rfl, _⟩
  · exact ⟨none, 0, rfl⟩
  · exact ⟨_, cap, rfl⟩
/-- What has been laid at the beginning of a round. -/
structure OInv (w0 : World) (L O T : Nat) (ov : Value) (vs : List Value) (wx : World) : Prop where
  os : SmallAt wx O (fun i => onesP i - 1)
  ts : SmallAt wx T (fun i => twosP i - 1)
  rows : ∀ i (h : i < vs.length), RowAt wx wx.heap.size vs[i] i
  out : wx.ownsRow w0.heap.size 54 1 ov vs.length vs
  ol : vs.length = L
  fb : Below w0.heap.size w0 wx
theorem OInv.kept {w0 w1 wx : World} {L O T : Nat} {ov : Value} {vs : List Value} (h : OInv w0 L O T ov vs w1) (hk : Kept w1 wx (fun _ => False)) (hb : Below w0.heap.size w0 wx) : OInv w0 L O T ov vs wx := by
  have hs := hk.1
  refine ⟨h.os.step (hk.2 _ h.os.lt (fun e => e)), h.ts.step (hk.2 _ h.ts.lt (fun e => e)), fun i hi => (h.rows i hi).step hs (fun g _ hg _ _ => hk.2 g hg (fun e => e)), own_move h.out (fun k hkk => hk.2 k (h.out.lt k hkk).2 (fun e => e)), h.ol, hb⟩
/-- What has been laid of a round: the first tables. -/
structure TInv (w1 : World) (L j : Nat) (sv : Value) (us : List Value) (wx : World) : Prop where
  tabs : ∀ i (h : i < us.length), TabAt wx wx.heap.size us[i] (cntT L (onesP i) (twosP i))
  states : wx.ownsRow w1.heap.size 28 1 sv us.length us
  sl : us.length = j
  fb : Below w1.heap.size w1 wx
theorem TInv.step {w1 wx w3 : World} {L j : Nat} {sv : Value} {us : List Value} (h : TInv w1 L j sv us wx) (hk : Kept wx w3 (fun _ => False)) (hb : Below w1.heap.size w1 w3) : TInv w1 L j sv us w3 :=
  ⟨fun i hi => (h.tabs i hi).step hk.1 (fun g hg _ => hk.2 g hg (fun e => e)), own_move h.states (fun k hkk => hk.2 k (h.states.lt k hkk).2 (fun e => e)), h.sl, hb⟩
/-- One more table. -/
theorem TInv.push {w1 W w2 : World} {L j : Nat} {sv v1 y : Value} {us : List Value} (h : TInv w1 L j sv us W) (hy : TabAt W W.heap.size y (cntT L (onesP j) (twosP j))) (hown : w2.ownsRow w1.heap.size 28 1 v1 (us ++ [y]).length (us ++ [y])) (hb : Below w1.heap.size w1 w2) (hg : W.grownBy w2 sv.ownBlock) : TInv w1 L (j + 1) v1 (us ++ [y]) w2 := by
  have far : ∀ g, g < W.heap.size → (∃ cells, W.heap[g]? = some (.cells cells 3 (0, 0))) → w2.heap[g]? = W.heap[g]? := fun g hgl hc => hg.block g hgl (fun e => by
    obtain ⟨cells, hc⟩ := hc
    obtain ⟨cells', hc'⟩ := own_typed h.states g e.symm
    rw [hc] at hc'
    injection hc' with hc'
    injection hc' with _ ht
    exact absurd ht (by decide))
  refine ⟨fun i hi => ?_, hown, by simp [h.sl], hb⟩
  by_cases e : i < us.length
  · rw [List.getElem_append_left e]
    exact (h.tabs i e).step hg.size far
  · have e1 : i = j := by have := h.sl; simp at hi; omega
    subst e1
    rw [List.getElem_append_right (by omega)]
    simp only [List.getElem_singleton]
    exact hy.step hg.size far
/-- The four tables, together. -/
theorem TInv.row {w1 wx : World} {L : Nat} {sv : Value} {us : List Value} (h : TInv w1 L 4 sv us wx) : RowAt wx wx.heap.size sv L := by
  have hs := h.states
  rw [h.sl] at hs
  obtain ⟨B, cap, rfl, h1, h2⟩ := hs.form (by omega)
  have hB := (hs.lt B rfl).2
  obtain ⟨cells, hc⟩ := own_typed hs B rfl
  refine ⟨B, cap, us, rfl, ?_, hB, ⟨cells, hc⟩, h.sl, fun j hj => ⟨?_, h.tabs j hj⟩⟩
  · rcases hs.2 with ⟨e, _⟩ | ⟨_, cap', _, e, _, _, h5, _⟩
    · cases e
    · injection e with _ _ e
      omega
  · rw [hs.cellAt j (by have := h.sl; omega)]
    exact List.getElem?_eq_getElem hj
/-- One more row of tables. -/
theorem OInv.push {w0 W w2 : World} {L O T : Nat} {ov v1 y : Value} {vs : List Value} (h : OInv w0 L O T ov vs W) (hy : RowAt W W.heap.size y L) (hown : w2.ownsRow w0.heap.size 54 1 v1 (vs ++ [y]).length (vs ++ [y])) (hb : Below w0.heap.size w0 w2) (hg : W.grownBy w2 ov.ownBlock) : OInv w0 (L + 1) O T v1 (vs ++ [y]) w2 := by
  have far : ∀ g t, g < W.heap.size → (t = 3 ∨ t = 28) → (∃ cells, W.heap[g]? = some (.cells cells t (0, 0))) → w2.heap[g]? = W.heap[g]? := fun g t hgl ht hc => hg.block g hgl (fun e => by
    obtain ⟨cells, hc⟩ := hc
    obtain ⟨cells', hc'⟩ := own_typed h.out g e.symm
    rw [hc] at hc'
    injection hc' with hc'
    injection hc' with _ ht'
    rcases ht with rfl | rfl
    · exact absurd ht' (by decide)
    · exact absurd ht' (by decide))
  refine ⟨h.os.step (far O _ h.os.lt (Or.inl rfl) h.os.1), h.ts.step (far T _ h.ts.lt (Or.inl rfl) h.ts.1), fun i hi => ?_, hown, by simp [h.ol], hb⟩
  by_cases e : i < vs.length
  · rw [List.getElem_append_left e]
    exact (h.rows i e).step hg.size far
  · have e1 : i = L := by have := h.ol; simp at hi; omega
    subst e1
    rw [List.getElem_append_right (by omega)]
    simp only [List.getElem_singleton]
    exact hy.step hg.size far
/-- The whole table. -/
theorem OInv.table {w0 wx : World} {L O T : Nat} {ov : Value} {vs : List Value} (h : OInv w0 L O T ov vs wx) (hL : 0 < L) : TableAt wx wx.heap.size ov L := by
  have hs := h.out
  rw [h.ol] at hs
  obtain ⟨B, cap, rfl, h1, h2⟩ := hs.form hL
  have hB := (hs.lt B rfl).2
  obtain ⟨cells, hc⟩ := own_typed hs B rfl
  refine ⟨B, cap, vs, rfl, ?_, hB, ⟨cells, hc⟩, h.ol, fun j hj => ⟨?_, h.rows j hj⟩⟩
  · rcases hs.2 with ⟨e, _⟩ | ⟨_, cap', _, e, _, _, h5, _⟩
    · cases e
    · injection e with _ _ e
      omega
  · rw [hs.cellAt j (by have := h.ol; omega)]
    exact List.getElem?_eq_getElem hj
theorem ones_cell {w : World} {O : Nat} {f : Nat → Int} (h : SmallAt w O f) (j : Nat) (sj : Int) (hs : sj = (j : Int)) (hj : j < 4) : w.cell? ⟨O, sj.toNat, none⟩ = some (.int .i64 (f j)) := by
  rw [hs, Int.toNat_natCast]
  exact h.2 j hj
theorem cntT_one : cntT 1 = cntP 1 := by funext x y t; rfl
theorem cntT_succ (n : Nat) : cntT (n + 1) = cntP (n + 1) := by funext x y t; rfl
theorem cntT_zero (x y : Int) : cntT 0 x y = fun _ => 0 := by funext t; rfl
set_option maxRecDepth 100000 in
set_option maxHeartbeats 32000000 in
theorem table_calls (HAdd : AddC) (HSt : StateC) (HLast : LastC) (F : Nat) (f : Int) (hf : f = (F : Int)) (hF : F ≤ 10) (w : World) :
    Calls Try.prog 21 #[.int .i64 f] w fun e w' => ∃ v, e = .returned v ∧ TableAt w' w'.heap.size v (F + 1) ∧ Below w.heap.size w w' := by
  have HFR := Aside0.mk (frame_calls HAdd HSt)
  have HLA := Aside0.mk HLast
  have HFF := Aside0.mk (And.intro hf hF)
  clear HAdd HSt HLast hf hF
  go_enter Try.func21, Try.ntmps21
  go_wp2
  have hb0 := below_alloc (below_alloc (Below.refl w.heap.size w) (.cells #[.int .i64 0, .int .i64 1, .int .i64 1, .int .i64 2] 3)) (.cells #[.int .i64 0, .int .i64 0, .int .i64 1, .int .i64 1] 3)
  have hO0 : OInv w 0 w.heap.size (w.heap.size + 1) (.slice none 0 0) [] ((w.alloc (.cells #[.int .i64 0, .int .i64 1, .int .i64 1, .int .i64 2] 3)).alloc (.cells #[.int .i64 0, .int .i64 0, .int .i64 1, .int .i64 1] 3)) := by
    have b1 : ((w.alloc (.cells #[.int .i64 0, .int .i64 1, .int .i64 1, .int .i64 2] 3)).alloc (.cells #[.int .i64 0, .int .i64 0, .int .i64 1, .int .i64 1] 3)).heap[w.heap.size]? = some (.cells #[.int .i64 0, .int .i64 1, .int .i64 1, .int .i64 2] 3 (0, 0)) := by
      rw [(below_alloc (Below.refl _ _) _).block w.heap.size (by rw [alloc_one]; omega)]
      exact alloc_here _ _
    have b2 : ((w.alloc (.cells #[.int .i64 0, .int .i64 1, .int .i64 1, .int .i64 2] 3)).alloc (.cells #[.int .i64 0, .int .i64 0, .int .i64 1, .int .i64 1] 3)).heap[w.heap.size + 1]? = some (.cells #[.int .i64 0, .int .i64 0, .int .i64 1, .int .i64 1] 3 (0, 0)) := by
      have := alloc_here (w.alloc (.cells #[.int .i64 0, .int .i64 1, .int .i64 1, .int .i64 2] 3)) (.cells #[.int .i64 0, .int .i64 0, .int .i64 1, .int .i64 1] 3)
      rwa [alloc_one] at this
    refine ⟨⟨⟨_, b1⟩, fun i hi => ?_⟩, ⟨⟨_, b2⟩, fun i hi => ?_⟩, fun i hi => absurd hi (by simp), own_nil _ _ _ _, rfl, hb0⟩
    · have := blk_cell b1 i
      rw [this]
      (have : i = 0 ∨ i = 1 ∨ i = 2 ∨ i = 3 := by omega); rcases this with rfl | rfl | rfl | rfl <;> rfl
    · have := blk_cell b2 i
      rw [this]
      (have : i = 0 ∨ i = 1 ∨ i = 2 ∨ i = 3 := by omega); rcases this with rfl | rfl | rfl | rfl <;> rfl
  have HO0 := Aside0.mk hO0
  clear hb0 hO0
  generalize ((w.alloc (.cells #[.int .i64 0, .int .i64 1, .int .i64 1, .int .i64 2] 3)).alloc (.cells #[.int .i64 0, .int .i64 0, .int .i64 1, .int .i64 1] 3)) = W0 at *
  obtain ⟨O, hOe⟩ : ∃ O : Nat, O = w.heap.size := ⟨_, rfl⟩
  obtain ⟨T, hTe⟩ : ∃ T : Nat, T = w.heap.size + 1 := ⟨_, rfl⟩
  rw [← hTe, ← hOe] at HO0
  rw [← hTe, ← hOe]
  clear hOe hTe
  go_loopg [5, 6] (F + 2) (fun kq v5 v6 wx => ∃ (L : Nat) (sl : Int) (vs : List Value), v6 = .int .i64 sl ∧ Aside0 (sl = (L : Int)) ∧ Aside0 (L + kq = F + 2 ∧ L ≤ F + 1) ∧ Aside0 (OInv w L O T v5 vs wx))
  case atStart => exact ⟨0, 0, [], by simp, ⟨by simp⟩, ⟨by omega⟩, HO0⟩
  case round =>
    clear HO0
    obtain ⟨L, sl, vs, rfl, HSL, HLQ, HOI⟩ := hrel
    by_cases hL : sl ≤ f
    · have uL : decide (sl ≤ f) = true := decide_eq_true hL
      have HHL := Aside0.mk (show L ≤ F by have := HSL.out; have := HFF.out; omega)
      clear hL
      go_wp2
      generalize gk = gko at *
      generalize wr = wo at *
      generalize u5 = ov at *
      obtain ⟨Ao, co, eo⟩ := own_slice1 HOI.out.out
      subst eo
      go_loopg [7, 19] 5 (fun kq v7 v19 wx => ∃ (j : Nat) (sj : Int) (us : List Value), v19 = .int .i64 sj ∧ Aside0 (sj = (j : Int)) ∧ Aside0 (j + kq = 5 ∧ j ≤ 4) ∧ Aside0 (TInv wo L j v7 us wx))
      case atStart => exact ⟨0, 0, [], by simp, ⟨by simp⟩, ⟨by omega⟩, ⟨⟨fun i hi => absurd hi (by simp), own_nil _ _ _ _, rfl, Below.refl _ _⟩⟩⟩
      case round =>
        obtain ⟨j, sj, us, rfl, HSJ, HJQ, HTI⟩ := hrel
        by_cases hj : sj < 4
        · have uj : decide (sj < 4) = true := decide_eq_true hj
          have HHJ := Aside0.mk (show j < 4 by have := HSJ.out; omega)
          obtain ⟨As, cs, es⟩ := own_slice1 HTI.out.states
          subst es
          have HUL := Aside0.mk (show (us.length + 1) * 24 ≤ 140737488355328 by have := HTI.out.sl; have := HHJ.out; omega)
          have cs1 : wrap64 (sj + 1) = sj + 1 := wrap_in (by have := HSJ.out; omega) (by omega)
          have j0 : (0 ≤ sj) = True := eq_true (by have := HSJ.out; omega)
          have j4 : (sj < 4) = True := eq_true hj
          have j0b : decide (0 ≤ sj) = true := decide_eq_true (by have := HSJ.out; omega)
          clear hj
          by_cases h0 : L = 0
          · have HL0 := Aside0.mk h0
            have u1 : (sl == 1) = false := beq_eq_false_iff_ne.mpr (by have := HSL.out; omega)
            have u2 : decide (1 < sl) = false := decide_eq_false (by have := HSL.out; omega)
            clear h0
            go_wp2_with (first | ((with_reducible refine gate_dst (N := 22) rfl ?_); refine Kd.R_make (Kd.int .i64) (w0 := wo) wo.heap.size 3 rfl (N := 22) rfl 28 _ _ rfl (301 : Int) rfl rfl Try.underlying28 (.int .i64 0) 8 info3 rfl (by decide) (by omega) 0 (ok := fun _ => True) (okp := fun _ => True) rfl (fun _ hk => hk) trivial (by omega) (by omega) HTI.out.fb HTI.out.fb.size ?_; intro v22 w2 ho hb2 hg2 hn2; obtain ⟨G, cap, ev, gb, gl, _⟩ := Kd.R_form ho (by simp); rw [show (List.replicate (301 : Int).toNat (0 : Int)).length = 301 by rw [List.length_replicate]; rfl] at ev; subst ev; have HC2 : Aside0 (CntAt w2 wo.heap.size G cap (fun _ => 0)) := Aside0.mk (by rw [CntAt, ← arrS_zero]; exact CntAt.tight ho); have HB2 := Aside0.mk hb2; have HG2 := Aside0.mk (show wr.heap.size ≤ G ∧ G < w2.heap.size from ⟨by obtain ⟨b, e1, e2⟩ := hn2; have e3 : G = b := Option.some.inj e1; omega, gl⟩); have HK2 := Aside0.mk (Kept.of_grown hg2 (Kept.refl wr (fun _ => False)) (fun k e => by cases e)); clear ho hb2 hg2 hn2 gb gl; have HT3 := Aside0.mk (HTI.out.step HK2.out HB2.out); have HY3 := Aside0.mk (show TabAt w2 w2.heap.size (.slice (some ⟨G, 0, none⟩) 301 cap) (cntT L (onesP j) (twosP j)) by rw [HL0.out, cntT_zero]; exact HC2.out.tab HG2.out.2)) | (at_builtin; refine print_append (w0 := wo) wo.heap.size rfl (.tmp 56) (.tmp 58) 54 28 (.slice none 0 0) 24 rfl Try.underlying54 infoInts rfl (by decide) (.slice As us.length cs) us (.slice (some ⟨G, 0, none⟩) 301 cap) rfl rfl rfl HT3.out.states HT3.out.fb HT3.out.fb.size HUL.out ?_; intro v1 w4 hown hB hg hat; have HTN := Aside0.mk (HT3.out.push HY3.out hown hB hg); obtain ⟨An, cn, en⟩ := own_slice1 hown; subst en; clear hown hB hg hat))
            have HTN2 : Aside0 (TInv wo L (j + 1) (.slice An (us.length + 1) cn) (us ++ [.slice (some ⟨G, 0, none⟩) 301 cap]) w4) := ⟨by have h_ := HTN.out; rw [List.length_append, List.length_singleton] at h_; exact h_⟩
            go_roundg (gk - 1)
            case measure => have := HJQ.out; omega
            case rel => exact ⟨j + 1, sj + 1, _, by first | rfl | simp [cs1] | (rw [wrapK, cs1]), ⟨by rw [HSJ.out]; omega⟩, ⟨by have := HJQ.out; have := HHJ.out; omega⟩, HTN2⟩
          · obtain ⟨X, hX⟩ : ∃ X : Int, X = onesP j := ⟨_, rfl⟩
            obtain ⟨Y, hY⟩ : ∃ Y : Int, Y = twosP j := ⟨_, rfl⟩
            obtain ⟨xo, hxo⟩ : ∃ xo : Int, xo = onesP j - 1 := ⟨_, rfl⟩
            obtain ⟨yo, hyo⟩ : ∃ yo : Int, yo = twosP j - 1 := ⟨_, rfl⟩
            have hin := ones_in j
            have e1 : wrap64 (xo + 1) = X := by rw [hX, hxo, wrap_in (by omega) (by omega)]; omega
            have e2 : wrap64 (yo + 1) = Y := by rw [hY, hyo, wrap_in (by omega) (by omega)]; omega
            have HXE := Aside0.mk (And.intro hX (And.intro hY (And.intro hxo hyo)))
            have HXI := Aside0.mk (show (1 ≤ X ∧ X ≤ 3) ∧ (1 ≤ Y ∧ Y ≤ 2) by omega)
            clear hX hY hxo hyo hin
            by_cases h1 : L = 1
            · have HL1 := Aside0.mk h1
              have u1 : (sl == 1) = true := beq_iff_eq.mpr (by have := HSL.out; omega)
              have u2 : decide (1 < sl) = false := decide_eq_false (by have := HSL.out; omega)
              clear h0 h1
              go_wp2_with (first | ((with_reducible refine gate_dst (N := 22) rfl ?_); refine Kd.R_make (Kd.int .i64) (w0 := wo) wo.heap.size 3 rfl (N := 22) rfl 28 _ _ rfl (301 : Int) rfl rfl Try.underlying28 (.int .i64 0) 8 info3 rfl (by decide) (by omega) 0 (ok := fun _ => True) (okp := fun _ => True) rfl (fun _ hk => hk) trivial (by omega) (by omega) HTI.out.fb HTI.out.fb.size ?_; intro v22 w2 ho hb2 hg2 hn2; obtain ⟨G, cap, ev, gb, gl, _⟩ := Kd.R_form ho (by simp); rw [show (List.replicate (301 : Int).toNat (0 : Int)).length = 301 by rw [List.length_replicate]; rfl] at ev; subst ev; have HC2 : Aside0 (CntAt w2 wo.heap.size G cap (fun _ => 0)) := Aside0.mk (by rw [CntAt, ← arrS_zero]; exact CntAt.tight ho); have HB2 := Aside0.mk hb2; have HG2 := Aside0.mk (show wr.heap.size ≤ G ∧ G < w2.heap.size from ⟨by obtain ⟨b, e1, e2⟩ := hn2; have e3 : G = b := Option.some.inj e1; omega, gl⟩); have HK2 := Aside0.mk (Kept.of_grown hg2 (Kept.refl wr (fun _ => False)) (fun k e => by cases e)); clear ho hb2 hg2 hn2 gb gl))
              have HO2 := Aside0.mk (HOI.out.kept ((Kept.of_below HTI.out.fb (fun _ => False)).then_ HK2.out (fun _ e => e.elim)) (HOI.out.fb.trans (HB2.out.mono HOI.out.fb.size)))
              have hco := ones_cell HO2.out.os j sj HSJ.out HHJ.out
              have hct := ones_cell HO2.out.ts j sj HSJ.out HHJ.out
              rw [← HXE.out.2.2.1] at hco
              rw [← HXE.out.2.2.2] at hct
              have HOT := Aside0.mk (show O ≠ G ∧ T ≠ G from ⟨by have := HOI.out.os.lt; have := HTI.out.fb.size; have := HG2.out.1; omega, by have := HOI.out.ts.lt; have := HTI.out.fb.size; have := HG2.out.1; omega⟩)
              have HXY := Aside0.mk (And.intro HXI.out.1 (And.intro HXI.out.2 trivial))
              refine start_ (n := 12) (S := fun w' => w'.cell? ⟨O, sj.toNat, none⟩ = some (.int .i64 xo) ∧ w'.cell? ⟨T, sj.toNat, none⟩ = some (.int .i64 yo)) (ds := []) #[false, false, false, false, false, false, false, false, false, false, false, false] (by kernel_rfl) rfl rfl ⟨hco, hct⟩ (fun hHeld => ?_)
              refine pure_ (i := 0) (N := (some 25)) (v := ?_) (a' := ?_) #[true, false, false, false, false, false, false, false, false, false, false, false] rfl rfl (by kernel_rfl) (fun _ _ _ h => h) (Or.inl ⟨by rfl, ?_⟩) ?_ ?_
              rotate_left
              · intro w'
                go_simp
                with_reducible rfl
              rotate_left
              · simp only [Act.put, List.setIfInBounds_toArray, List.set_cons_zero, List.set_cons_succ, i64_w, i32_w]
                rfl
              refine pure_ (i := 1) (N := (some 26)) (v := ?_) (a' := ?_) #[true, true, false, false, false, false, false, false, false, false, false, false] rfl rfl (by kernel_rfl) (fun _ _ _ h => h) (Or.inl ⟨by rfl, ?_⟩) ?_ ?_
              rotate_left
              · intro w'
                go_simp
                with_reducible rfl
              rotate_left
              · simp only [Act.put, List.setIfInBounds_toArray, List.set_cons_zero, List.set_cons_succ, i64_w, i32_w]
                rfl
              refine pure_ (i := 2) (N := (some 27)) (v := ?_) (a' := ?_) #[true, true, true, false, false, false, false, false, false, false, false, false] rfl rfl (by kernel_rfl) (fun _ _ _ h => h) (Or.inl ⟨by rfl, ?_⟩) ?_ ?_
              rotate_left
              · intro w'
                go_simp
                with_reducible rfl
              rotate_left
              · simp only [Act.put, List.setIfInBounds_toArray, List.set_cons_zero, List.set_cons_succ, i64_w, i32_w]
                rfl
              refine pure_ (i := 3) (N := (some 28)) (v := ?_) (a' := ?_) #[true, true, true, true, false, false, false, false, false, false, false, false] rfl rfl (by kernel_rfl) (fun _ _ _ h => h) (Or.inl ⟨by rfl, ?_⟩) ?_ ?_
              rotate_left
              · intro w'
                go_simp
                with_reducible rfl
              rotate_left
              · simp only [Act.put, List.setIfInBounds_toArray, List.set_cons_zero, List.set_cons_succ, i64_w, i32_w]
                rfl
              refine pure_ (i := 6) (N := (some 31)) (v := ?_) (a' := ?_) #[true, true, true, true, false, false, true, false, false, false, false, false] rfl rfl (by kernel_rfl) (fun _ _ _ h => h) (Or.inl ⟨by rfl, ?_⟩) ?_ ?_
              rotate_left
              · intro w'
                go_simp
                with_reducible rfl
              rotate_left
              · simp only [Act.put, List.setIfInBounds_toArray, List.set_cons_zero, List.set_cons_succ, i64_w, i32_w]
                rfl
              refine pure_ (i := 7) (N := (some 32)) (v := ?_) (a' := ?_) #[true, true, true, true, false, false, true, true, false, false, false, false] rfl rfl (by kernel_rfl) (fun _ _ _ h => h) (Or.inl ⟨by rfl, ?_⟩) ?_ ?_
              rotate_left
              · intro w'
                go_simp
                with_reducible rfl
              rotate_left
              · simp only [Act.put, List.setIfInBounds_toArray, List.set_cons_zero, List.set_cons_succ, i64_w, i32_w]
                rfl
              refine pure_ (i := 8) (N := (some 33)) (v := ?_) (a' := ?_) #[true, true, true, true, false, false, true, true, true, false, false, false] rfl rfl (by kernel_rfl) (fun _ _ _ h => h) (Or.inl ⟨by rfl, ?_⟩) ?_ ?_
              rotate_left
              · intro w'
                go_simp
                with_reducible rfl
              rotate_left
              · simp only [Act.put, List.setIfInBounds_toArray, List.set_cons_zero, List.set_cons_succ, i64_w, i32_w]
                rfl
              refine take_ (i := 4) (N := (some 29)) (v := ?_) (a' := ?_) #[true, true, true, true, true, false, true, true, true, false, false, false] rfl rfl (by kernel_rfl) (fun _ _ _ h => h) (Or.inl ⟨by rfl, ?_⟩) hHeld ?_ ?_
              rotate_left
              · intro w' s0
                have z0 := s0.1
                go_simp
                with_reducible rfl
              rotate_left
              · simp only [Act.put, List.setIfInBounds_toArray, List.set_cons_zero, List.set_cons_succ, i64_w, i32_w]
                rfl
              refine take_ (i := 9) (N := (some 34)) (v := ?_) (a' := ?_) #[true, true, true, true, true, false, true, true, true, true, false, false] rfl rfl (by kernel_rfl) (fun _ _ _ h => h) (Or.inl ⟨by rfl, ?_⟩) hHeld ?_ ?_
              rotate_left
              · intro w' s0
                have z1 := s0.2
                go_simp
                with_reducible rfl
              rotate_left
              · simp only [Act.put, List.setIfInBounds_toArray, List.set_cons_zero, List.set_cons_succ, i64_w, i32_w]
                rfl
              refine pure_ (i := 5) (N := (some 30)) (v := ?_) (a' := ?_) #[true, true, true, true, true, true, true, true, true, true, false, false] rfl rfl (by kernel_rfl) (fun _ _ _ h => h) (Or.inl ⟨by rfl, ?_⟩) ?_ ?_
              rotate_left
              · intro w'
                go_simp
                with_reducible rfl
              rotate_left
              · simp only [Act.put, List.setIfInBounds_toArray, List.set_cons_zero, List.set_cons_succ, i64_w, i32_w]
                rfl
              refine pure_ (i := 10) (N := (some 35)) (v := ?_) (a' := ?_) #[true, true, true, true, true, true, true, true, true, true, true, false] rfl rfl (by kernel_rfl) (fun _ _ _ h => h) (Or.inl ⟨by rfl, ?_⟩) ?_ ?_
              rotate_left
              · intro w'
                go_simp
                with_reducible rfl
              rotate_left
              · simp only [Act.put, List.setIfInBounds_toArray, List.set_cons_zero, List.set_cons_succ, i64_w, i32_w]
                rfl
              refine one_ (i := 11) (N := (some 36)) #[true, true, true, true, true, true, true, true, true, true, true, true] rfl rfl (by kernel_rfl) (by decide) (fun K hK => ?_)
              refine goes_ Try.func40 (by kernel_rfl) rfl #[.slice (some ⟨G, 0, none⟩) 301 cap, .int .i64 X, .int .i64 Y] (by rfl) rfl rfl (by (try simp only [List.map_toArray, List.map_cons, List.map_nil]); show #[Value.slice (some ⟨G, 0, none⟩) 301 cap, Value.int .i64 (wrap64 (xo + 1)), Value.int .i64 (wrap64 (yo + 1))] = _; rw [e1, e2]) ?_
              refine (HLA.out G cap X Y wo _ HXY.out.1 HXY.out.2.1 (below_drew1 HB2.out) (HC2.out)).mono ?_
              rintro e w3 ⟨rfl, hc3, hb3, hk3⟩
              refine ⟨_, rfl, ?_⟩
              refine hK.out _ _ ⟨cell_kept hHeld.1 hk3 HOT.out.1, cell_kept hHeld.2 hk3 HOT.out.2⟩ (fun hHeld => ?_)
              clear hK K
              have HC3 := Aside0.mk hc3
              have HB3 := Aside0.mk hb3
              have HK3 := Aside0.mk (HK2.out.then_ hk3 (fun k e => Or.inr (by rw [e]; exact HG2.out.1)))
              have HG3 := Aside0.mk (Nat.lt_of_lt_of_le HG2.out.2 hk3.1)
              clear hc3 hb3 hk3
              refine norm_ (a' := ?_) ?_ ?_
              rotate_left
              · show Act.put _ (some _) _ = _
                simp only [Act.put, List.setIfInBounds_toArray, List.set_cons_zero, List.set_cons_succ, i64_w, i32_w]
                rfl
              refine done_ (by kernel_rfl) ?_
              have HT3 := Aside0.mk (HTI.out.step HK3.out HB3.out)
              have HY3 := Aside0.mk (show TabAt w3 w3.heap.size (.slice (some ⟨G, 0, none⟩) 301 cap) (cntT L (onesP j) (twosP j)) by rw [HL1.out, cntT_one, ← HXE.out.1, ← HXE.out.2.1]; exact HC3.out.tab HG3.out)
              go_wp2_with (first | (at_builtin; refine print_append (w0 := wo) wo.heap.size rfl (.tmp 56) (.tmp 58) 54 28 (.slice none 0 0) 24 rfl Try.underlying54 infoInts rfl (by decide) (.slice As us.length cs) us (.slice (some ⟨G, 0, none⟩) 301 cap) rfl rfl rfl HT3.out.states HT3.out.fb HT3.out.fb.size HUL.out ?_; intro v1 w4 hown hB hg hat; have HTN := Aside0.mk (HT3.out.push HY3.out hown hB hg); obtain ⟨An, cn, en⟩ := own_slice1 hown; subst en; clear hown hB hg hat))
              have HTN2 : Aside0 (TInv wo L (j + 1) (.slice An (us.length + 1) cn) (us ++ [.slice (some ⟨G, 0, none⟩) 301 cap]) w4) := ⟨by have h_ := HTN.out; rw [List.length_append, List.length_singleton] at h_; exact h_⟩
              go_roundg (gk - 1)
              case measure => have := HJQ.out; omega
              case rel => exact ⟨j + 1, sj + 1, _, by first | rfl | simp [cs1] | (rw [wrapK, cs1]), ⟨by rw [HSJ.out]; omega⟩, ⟨by have := HJQ.out; have := HHJ.out; omega⟩, HTN2⟩
            · obtain ⟨m, hm⟩ : ∃ m, L = m + 1 := ⟨L - 1, by omega⟩
              have u1 : (sl == 1) = false := beq_eq_false_iff_ne.mpr (by have := HSL.out; omega)
              have u2 : decide (1 < sl) = true := decide_eq_true (by have := HSL.out; omega)
              have HLM := Aside0.mk hm
              have hm0 : 0 < m := by omega
              have hm9 : m ≤ 9 := by have := HHL.out; have := HFF.out; omega
              have hml : m < vs.length := by have := HOI.out.ol; omega
              have hovs := HOI.out.out
              obtain ⟨Bo, co2, eAo, _, _⟩ := hovs.form (by omega)
              obtain ⟨eA, _, _⟩ : Ao = some ⟨Bo, 0, none⟩ ∧ True ∧ True := by
                injection eAo with a b c
                exact ⟨a, trivial, trivial⟩
              subst eA
              obtain ⟨sm, hsm⟩ : ∃ sm : Int, sm = (m : Int) := ⟨_, rfl⟩
              have s1 : wrap64 (sl - 1) = sm := by rw [wrap_in (by have := HSL.out; omega) (by have := HSL.out; have := HHL.out; have := HFF.out; omega)]; have := HSL.out; omega
              have m0 : (0 ≤ sm) = True := eq_true (by omega)
              have m4 : (sm < (vs.length : Int)) = True := eq_true (by omega)
              have m0b : decide (0 ≤ sm) = true := decide_eq_true (by omega)
              have m4b : decide (sm < (vs.length : Int)) = true := decide_eq_true (by omega)
              have HM9 := Aside0.mk (And.intro hm0 (And.intro hm9 hml))
              have HSM := Aside0.mk (show m = sm.toNat by rw [hsm, Int.toNat_natCast])
              clear h0 h1 hm hm0 hm9 hml hovs hsm eAo
              go_wp2_with (first | ((with_reducible refine gate_dst (N := 22) rfl ?_); refine Kd.R_make (Kd.int .i64) (w0 := wo) wo.heap.size 3 rfl (N := 22) rfl 28 _ _ rfl (301 : Int) rfl rfl Try.underlying28 (.int .i64 0) 8 info3 rfl (by decide) (by omega) 0 (ok := fun _ => True) (okp := fun _ => True) rfl (fun _ hk => hk) trivial (by omega) (by omega) HTI.out.fb HTI.out.fb.size ?_; intro v22 w2 ho hb2 hg2 hn2; obtain ⟨G, cap, ev, gb, gl, _⟩ := Kd.R_form ho (by simp); rw [show (List.replicate (301 : Int).toNat (0 : Int)).length = 301 by rw [List.length_replicate]; rfl] at ev; subst ev; have HC2 : Aside0 (CntAt w2 wo.heap.size G cap (fun _ => 0)) := Aside0.mk (by rw [CntAt, ← arrS_zero]; exact CntAt.tight ho); have HB2 := Aside0.mk hb2; have HG2 := Aside0.mk (show wr.heap.size ≤ G ∧ G < w2.heap.size from ⟨by obtain ⟨b, e1, e2⟩ := hn2; have e3 : G = b := Option.some.inj e1; omega, gl⟩); have HK2 := Aside0.mk (Kept.of_grown hg2 (Kept.refl wr (fun _ => False)) (fun k e => by cases e)); clear ho hb2 hg2 hn2 gb gl))
              have HO2 := Aside0.mk (HOI.out.kept ((Kept.of_below HTI.out.fb (fun _ => False)).then_ HK2.out (fun _ e => e.elim)) (HOI.out.fb.trans (HB2.out.mono HOI.out.fb.size)))
              have hco := ones_cell HO2.out.os j sj HSJ.out HHJ.out
              have hct := ones_cell HO2.out.ts j sj HSJ.out HHJ.out
              rw [← HXE.out.2.2.1] at hco
              rw [← HXE.out.2.2.2] at hct
              have hrm := HOI.out.rows m HM9.out.2.2
              have hcm : w2.cell? ⟨Bo, sm.toNat, none⟩ = some (vs[m]'HM9.out.2.2) := by
                rw [← HSM.out, HO2.out.out.cellAt m (by have := HM9.out.2.2; omega)]
                exact List.getElem?_eq_getElem HM9.out.2.2
              obtain ⟨Bv, cv, ev⟩ : ∃ Bv cv, (vs[m]'HM9.out.2.2) = .slice (some ⟨Bv, 0, none⟩) 4 cv := by
                obtain ⟨B_, c_, _, e_, _⟩ := hrm
                exact ⟨B_, c_, e_⟩
              rw [ev] at hrm hcm
              have hsz := HTI.out.fb.size
              have HRM := Aside0.mk (hrm.step (w' := w2) (N' := G) (by have := HG2.out.1; omega) (fun g _ hg _ _ => HB2.out.block g hg))
              have HOT := Aside0.mk (show O ≠ G ∧ T ≠ G ∧ Bo ≠ G from ⟨by have := HOI.out.os.lt; have := HG2.out.1; omega, by have := HOI.out.ts.lt; have := HG2.out.1; omega, by have := (HOI.out.out.lt Bo rfl).2; have := HG2.out.1; omega⟩)
              have HXY := Aside0.mk (And.intro HXI.out.1 (And.intro HXI.out.2 (And.intro HM9.out.1 HM9.out.2.1)))
              clear hrm ev hsz
              refine start_ (n := 17) (S := fun w' => (w'.cell? ⟨O, sj.toNat, none⟩ = some (.int .i64 xo) ∧ w'.cell? ⟨T, sj.toNat, none⟩ = some (.int .i64 yo)) ∧ w'.cell? ⟨Bo, sm.toNat, none⟩ = some (.slice (some ⟨Bv, 0, none⟩) 4 cv)) (ds := []) #[false, false, false, false, false, false, false, false, false, false, false, false, false, false, false, false, false] (by kernel_rfl) rfl rfl ⟨⟨hco, hct⟩, hcm⟩ (fun hHeld => ?_)
              refine pure_ (i := 0) (N := (some 39)) (v := ?_) (a' := ?_) #[true, false, false, false, false, false, false, false, false, false, false, false, false, false, false, false, false] rfl rfl (by kernel_rfl) (fun _ _ _ h => h) (Or.inl ⟨by rfl, ?_⟩) ?_ ?_
              rotate_left
              · intro w'
                go_simp
                with_reducible rfl
              rotate_left
              · simp only [Act.put, List.setIfInBounds_toArray, List.set_cons_zero, List.set_cons_succ, i64_w, i32_w]
                rfl
              refine pure_ (i := 1) (N := (some 40)) (v := ?_) (a' := ?_) #[true, true, false, false, false, false, false, false, false, false, false, false, false, false, false, false, false] rfl rfl (by kernel_rfl) (fun _ _ _ h => h) (Or.inl ⟨by rfl, ?_⟩) ?_ ?_
              rotate_left
              · intro w'
                go_simp
                with_reducible rfl
              rotate_left
              · simp only [Act.put, List.setIfInBounds_toArray, List.set_cons_zero, List.set_cons_succ, i64_w, i32_w]
                rfl
              refine pure_ (i := 2) (N := (some 41)) (v := ?_) (a' := ?_) #[true, true, true, false, false, false, false, false, false, false, false, false, false, false, false, false, false] rfl rfl (by kernel_rfl) (fun _ _ _ h => h) (Or.inl ⟨by rfl, ?_⟩) ?_ ?_
              rotate_left
              · intro w'
                go_simp
                with_reducible rfl
              rotate_left
              · simp only [Act.put, List.setIfInBounds_toArray, List.set_cons_zero, List.set_cons_succ, i64_w, i32_w]
                rfl
              refine pure_ (i := 3) (N := (some 42)) (v := ?_) (a' := ?_) #[true, true, true, true, false, false, false, false, false, false, false, false, false, false, false, false, false] rfl rfl (by kernel_rfl) (fun _ _ _ h => h) (Or.inl ⟨by rfl, ?_⟩) ?_ ?_
              rotate_left
              · intro w'
                go_simp
                with_reducible rfl
              rotate_left
              · simp only [Act.put, List.setIfInBounds_toArray, List.set_cons_zero, List.set_cons_succ, i64_w, i32_w]
                rfl
              refine pure_ (i := 4) (N := (some 43)) (v := ?_) (a' := ?_) #[true, true, true, true, true, false, false, false, false, false, false, false, false, false, false, false, false] rfl rfl (by kernel_rfl) (fun _ _ _ h => h) (Or.inl ⟨by rfl, ?_⟩) ?_ ?_
              rotate_left
              · intro w'
                go_simp
                with_reducible rfl
              rotate_left
              · simp only [Act.put, List.setIfInBounds_toArray, List.set_cons_zero, List.set_cons_succ, i64_w, i32_w]
                rfl
              refine pure_ (i := 6) (N := (some 45)) (v := ?_) (a' := ?_) #[true, true, true, true, true, false, true, false, false, false, false, false, false, false, false, false, false] rfl rfl (by kernel_rfl) (fun _ _ _ h => h) (Or.inl ⟨by rfl, ?_⟩) ?_ ?_
              rotate_left
              · intro w'
                go_simp
                with_reducible rfl
              rotate_left
              · simp only [Act.put, List.setIfInBounds_toArray, List.set_cons_zero, List.set_cons_succ, i64_w, i32_w]
                rfl
              refine pure_ (i := 7) (N := (some 46)) (v := ?_) (a' := ?_) #[true, true, true, true, true, false, true, true, false, false, false, false, false, false, false, false, false] rfl rfl (by kernel_rfl) (fun _ _ _ h => h) (Or.inl ⟨by rfl, ?_⟩) ?_ ?_
              rotate_left
              · intro w'
                go_simp
                with_reducible rfl
              rotate_left
              · simp only [Act.put, List.setIfInBounds_toArray, List.set_cons_zero, List.set_cons_succ, i64_w, i32_w]
                rfl
              refine pure_ (i := 8) (N := (some 47)) (v := ?_) (a' := ?_) #[true, true, true, true, true, false, true, true, true, false, false, false, false, false, false, false, false] rfl rfl (by kernel_rfl) (fun _ _ _ h => h) (Or.inl ⟨by rfl, ?_⟩) ?_ ?_
              rotate_left
              · intro w'
                go_simp
                with_reducible rfl
              rotate_left
              · simp only [Act.put, List.setIfInBounds_toArray, List.set_cons_zero, List.set_cons_succ, i64_w, i32_w]
                rfl
              refine pure_ (i := 11) (N := (some 50)) (v := ?_) (a' := ?_) #[true, true, true, true, true, false, true, true, true, false, false, true, false, false, false, false, false] rfl rfl (by kernel_rfl) (fun _ _ _ h => h) (Or.inl ⟨by rfl, ?_⟩) ?_ ?_
              rotate_left
              · intro w'
                go_simp
                with_reducible rfl
              rotate_left
              · simp only [Act.put, List.setIfInBounds_toArray, List.set_cons_zero, List.set_cons_succ, i64_w, i32_w]
                rfl
              refine pure_ (i := 12) (N := (some 51)) (v := ?_) (a' := ?_) #[true, true, true, true, true, false, true, true, true, false, false, true, true, false, false, false, false] rfl rfl (by kernel_rfl) (fun _ _ _ h => h) (Or.inl ⟨by rfl, ?_⟩) ?_ ?_
              rotate_left
              · intro w'
                go_simp
                with_reducible rfl
              rotate_left
              · simp only [Act.put, List.setIfInBounds_toArray, List.set_cons_zero, List.set_cons_succ, i64_w, i32_w]
                rfl
              refine pure_ (i := 13) (N := (some 52)) (v := ?_) (a' := ?_) #[true, true, true, true, true, false, true, true, true, false, false, true, true, true, false, false, false] rfl rfl (by kernel_rfl) (fun _ _ _ h => h) (Or.inl ⟨by rfl, ?_⟩) ?_ ?_
              rotate_left
              · intro w'
                go_simp
                with_reducible rfl
              rotate_left
              · simp only [Act.put, List.setIfInBounds_toArray, List.set_cons_zero, List.set_cons_succ, i64_w, i32_w]
                rfl
              refine take_ (i := 5) (N := (some 44)) (v := ?_) (a' := ?_) #[true, true, true, true, true, true, true, true, true, false, false, true, true, true, false, false, false] rfl rfl (by kernel_rfl) (fun _ _ _ h => h) (Or.inl ⟨by rfl, ?_⟩) hHeld ?_ ?_
              rotate_left
              · intro w' s0
                have z2 := s0.2
                go_simp
                with_reducible rfl
              rotate_left
              · simp only [Act.put, List.setIfInBounds_toArray, List.set_cons_zero, List.set_cons_succ, i64_w, i32_w]
                rfl
              refine take_ (i := 9) (N := (some 48)) (v := ?_) (a' := ?_) #[true, true, true, true, true, true, true, true, true, true, false, true, true, true, false, false, false] rfl rfl (by kernel_rfl) (fun _ _ _ h => h) (Or.inl ⟨by rfl, ?_⟩) hHeld ?_ ?_
              rotate_left
              · intro w' s0
                have z0 := s0.1.1
                go_simp
                with_reducible rfl
              rotate_left
              · simp only [Act.put, List.setIfInBounds_toArray, List.set_cons_zero, List.set_cons_succ, i64_w, i32_w]
                rfl
              refine take_ (i := 14) (N := (some 53)) (v := ?_) (a' := ?_) #[true, true, true, true, true, true, true, true, true, true, false, true, true, true, true, false, false] rfl rfl (by kernel_rfl) (fun _ _ _ h => h) (Or.inl ⟨by rfl, ?_⟩) hHeld ?_ ?_
              rotate_left
              · intro w' s0
                have z1 := s0.1.2
                go_simp
                with_reducible rfl
              rotate_left
              · simp only [Act.put, List.setIfInBounds_toArray, List.set_cons_zero, List.set_cons_succ, i64_w, i32_w]
                rfl
              refine pure_ (i := 10) (N := (some 49)) (v := ?_) (a' := ?_) #[true, true, true, true, true, true, true, true, true, true, true, true, true, true, true, false, false] rfl rfl (by kernel_rfl) (fun _ _ _ h => h) (Or.inl ⟨by rfl, ?_⟩) ?_ ?_
              rotate_left
              · intro w'
                go_simp
                with_reducible rfl
              rotate_left
              · simp only [Act.put, List.setIfInBounds_toArray, List.set_cons_zero, List.set_cons_succ, i64_w, i32_w]
                rfl
              refine pure_ (i := 15) (N := (some 54)) (v := ?_) (a' := ?_) #[true, true, true, true, true, true, true, true, true, true, true, true, true, true, true, true, false] rfl rfl (by kernel_rfl) (fun _ _ _ h => h) (Or.inl ⟨by rfl, ?_⟩) ?_ ?_
              rotate_left
              · intro w'
                go_simp
                with_reducible rfl
              rotate_left
              · simp only [Act.put, List.setIfInBounds_toArray, List.set_cons_zero, List.set_cons_succ, i64_w, i32_w]
                rfl
              refine one_ (i := 16) (N := (some 55)) #[true, true, true, true, true, true, true, true, true, true, true, true, true, true, true, true, true] rfl rfl (by kernel_rfl) (by decide) (fun K hK => ?_)
              refine goes_ Try.func41 (by kernel_rfl) rfl #[.slice (some ⟨G, 0, none⟩) 301 cap, Value.slice (some ⟨Bv, 0, none⟩) 4 cv, .int .i64 X, .int .i64 Y] (by rfl) rfl rfl (by (try simp only [List.map_toArray, List.map_cons, List.map_nil]); show #[Value.slice (some ⟨G, 0, none⟩) 301 cap, Value.slice (some ⟨Bv, 0, none⟩) 4 cv, Value.int .i64 (wrap64 (xo + 1)), Value.int .i64 (wrap64 (yo + 1))] = _; rw [e1, e2]) ?_
              refine (HFR.out m HXY.out.2.2.1 HXY.out.2.2.2 X Y HXY.out.1 HXY.out.2.1 G cap (.slice (some ⟨Bv, 0, none⟩) 4 cv) wo _ (below_drew1 HB2.out) HC2.out HRM.out).mono ?_
              rintro e w3 ⟨rfl, hc3, hb3, hk3⟩
              refine ⟨_, rfl, ?_⟩
              refine hK.out _ _ ⟨⟨cell_kept hHeld.1.1 hk3 HOT.out.1, cell_kept hHeld.1.2 hk3 HOT.out.2.1⟩, cell_kept hHeld.2 hk3 HOT.out.2.2⟩ (fun hHeld => ?_)
              clear hK K
              have HC3 := Aside0.mk hc3
              have HB3 := Aside0.mk hb3
              have HK3 := Aside0.mk (HK2.out.then_ hk3 (fun k e => Or.inr (by rw [e]; exact HG2.out.1)))
              have HG3 := Aside0.mk (Nat.lt_of_lt_of_le HG2.out.2 hk3.1)
              clear hc3 hb3 hk3
              refine norm_ (a' := ?_) ?_ ?_
              rotate_left
              · show Act.put _ (some _) _ = _
                simp only [Act.put, List.setIfInBounds_toArray, List.set_cons_zero, List.set_cons_succ, i64_w, i32_w]
                rfl
              refine done_ (by kernel_rfl) ?_
              have HT3 := Aside0.mk (HTI.out.step HK3.out HB3.out)
              have HY3 := Aside0.mk (show TabAt w3 w3.heap.size (.slice (some ⟨G, 0, none⟩) 301 cap) (cntT L (onesP j) (twosP j)) by rw [HLM.out, cntT_succ, ← HXE.out.1, ← HXE.out.2.1]; exact HC3.out.tab HG3.out)
              go_wp2_with (first | (at_builtin; refine print_append (w0 := wo) wo.heap.size rfl (.tmp 56) (.tmp 58) 54 28 (.slice none 0 0) 24 rfl Try.underlying54 infoInts rfl (by decide) (.slice As us.length cs) us (.slice (some ⟨G, 0, none⟩) 301 cap) rfl rfl rfl HT3.out.states HT3.out.fb HT3.out.fb.size HUL.out ?_; intro v1 w4 hown hB hg hat; have HTN := Aside0.mk (HT3.out.push HY3.out hown hB hg); obtain ⟨An, cn, en⟩ := own_slice1 hown; subst en; clear hown hB hg hat))
              have HTN2 : Aside0 (TInv wo L (j + 1) (.slice An (us.length + 1) cn) (us ++ [.slice (some ⟨G, 0, none⟩) 301 cap]) w4) := ⟨by have h_ := HTN.out; rw [List.length_append, List.length_singleton] at h_; exact h_⟩
              go_roundg (gk - 1)
              case measure => have := HJQ.out; omega
              case rel => exact ⟨j + 1, sj + 1, _, by first | rfl | simp [cs1] | (rw [wrapK, cs1]), ⟨by rw [HSJ.out]; omega⟩, ⟨by have := HJQ.out; have := HHJ.out; omega⟩, HTN2⟩
        · have uj : decide (sj < 4) = false := decide_eq_false hj
          have hj4 : j = 4 := by have := HSJ.out; have := HJQ.out; omega
          subst hj4
          obtain ⟨As, cs, es⟩ := own_slice1 HTI.out.states
          subst es
          have HRW := Aside0.mk HTI.out.row
          have HOW := Aside0.mk (HOI.out.kept (Kept.of_below HTI.out.fb _) (HOI.out.fb.trans (HTI.out.fb.mono HOI.out.fb.size)))
          have HVL := Aside0.mk (show (vs.length + 1) * 24 ≤ 140737488355328 by have := HOI.out.ol; have := HHL.out; have := HFF.out; omega)
          clear hj HTI
          go_wp2_with (at_builtin; refine print_append (w0 := w) w.heap.size rfl (.tmp 61) (.tmp 63) 37 54 (.slice none 0 0) 24 rfl Try.underlying37 infoRows rfl (by decide) (.slice Ao vs.length co) vs (.slice As us.length cs) rfl rfl rfl HOW.out.out HOW.out.fb (HOW.out.fb.size) HVL.out ?_
                       intro v1 w1 hown hB hg hat
                       have HON := Aside0.mk (HOW.out.push HRW.out hown hB hg)
                       obtain ⟨An, cn, en⟩ := own_slice1 hown
                       subst en
                       clear hown hB hg hat)
          have HON2 : Aside0 (OInv w (L + 1) O T (.slice An (vs.length + 1) cn) (vs ++ [.slice As us.length cs]) w1) := ⟨by have h_ := HON.out; rw [List.length_append, List.length_singleton] at h_; exact h_⟩
          have cl1 : wrap64 (sl + 1) = sl + 1 := wrap_in (by have := HSL.out; omega) (by have := HSL.out; have := HHL.out; have := HFF.out; omega)
          go_roundg (gko - 1)
          case measure => have := HLQ.out; omega
          case rel => exact ⟨L + 1, sl + 1, _, by first | rfl | simp [cl1] | (rw [wrapK, cl1]), ⟨by rw [HSL.out]; omega⟩, ⟨by have := HLQ.out; have := HHL.out; omega⟩, HON2⟩
    · have uL : decide (sl ≤ f) = false := decide_eq_false hL
      have hLe : L = F + 1 := by have := HSL.out; have := HFF.out; have := HLQ.out; omega
      subst hLe
      clear hL
      go_wp2
      go_ret
      exact ⟨_, rfl, HOI.out.table (by omega), HOI.out.fb⟩
end Go.Proofs.Ytdioconinnpmmaa.Pin
