/- FirstGameOf, walked: for every number of frames and every total. -/
import Derived.Test.YtdioconinnpmmaaPinCalls
set_option linter.unusedVariables false
set_option linter.unusedSimpArgs false
namespace Go.Proofs.Ytdioconinnpmmaa.Pin
open Go.RowKit Go.Proofs.YtdioconinnpmmaaW.PrintWords Go.Proofs.YtdioconinnpmmaaW.PrintLast
/-! ### Pins: FirstGameOf -/
def posP (n : Nat) (x y q : Int) (fr : List Int) : Bool := decide (0 < cntP n (nextV (0, x, y) fr).2.1 (nextV (0, x, y) fr).2.2 (q - pointsV x y fr))
/-- The balls of the first game of so many frames that has what is left of a total. -/
def firstL : Nat → Int → Int → Int → List Int
  | 0, _, _, _ => []
  | n + 1, x, y, q => match (framesV ((n + 1 : Nat) : Int)).find? (posP n x y q) with
    | some fr => fr ++ firstL n (nextV (0, x, y) fr).2.1 (nextV (0, x, y) fr).2.2 (q - pointsV x y fr)
    | none => []
def firstV (f t : Int) : List Int × Bool := if ((1 ≤ f ∧ f ≤ 10) ∧ 0 ≤ t ∧ t ≤ 300) ∧ cntP f.toNat 1 1 t ≠ 0 then (firstL f.toNat 1 1 t, true) else ([], false)
theorem find_none {n : Nat} {x y q : Int} (L : List (List Int)) (h : L.find? (posP n x y q) = none) : (L.map fun fr => cntP n (nextV (0, x, y) fr).2.1 (nextV (0, x, y) fr).2.2 (q - pointsV x y fr)).sum = 0 := by
  refine sum_zero _ _ (fun fr hfr => ?_)
  have := List.find?_eq_none.1 h fr hfr
  unfold posP at this
  rw [decide_eq_true_eq] at this
  omega
/-- Where there are games, one goes on with some frame. -/
theorem has_frame {n : Nat} {x y q : Int} (h : cntP (n + 1) x y q ≠ 0) : ∃ fr, (framesV ((n + 1 : Nat) : Int)).find? (posP n x y q) = some fr ∧ fr ∈ framesV ((n + 1 : Nat) : Int) ∧ cntP n (nextV (0, x, y) fr).2.1 (nextV (0, x, y) fr).2.2 (q - pointsV x y fr) ≠ 0 := by
  cases hx : (framesV ((n + 1 : Nat) : Int)).find? (posP n x y q) with
  | none =>
    rw [cntP_succ] at h
    exact absurd (find_none _ hx) h
  | some fr => exact ⟨fr, rfl, List.mem_of_find?_eq_some hx, by
      have h1 := List.find?_some hx
      unfold posP at h1
      rw [decide_eq_true_eq] at h1
      omega⟩
theorem firstL_step {n : Nat} {x y q : Int} {fr : List Int} (h : (framesV ((n + 1 : Nat) : Int)).find? (posP n x y q) = some fr) : firstL (n + 1) x y q = fr ++ firstL n (nextV (0, x, y) fr).2.1 (nextV (0, x, y) fr).2.2 (q - pointsV x y fr) := by
  show (match (framesV ((n + 1 : Nat) : Int)).find? (posP n x y q) with
    | some fr => fr ++ firstL n (nextV (0, x, y) fr).2.1 (nextV (0, x, y) fr).2.2 (q - pointsV x y fr)
    | none => []) = _
  rw [h]
theorem frOk_len {fr : List Int} (h : frOk fr = true) : 1 ≤ fr.length ∧ fr.length ≤ 3 := by
  match fr, h with
  | [a], _ => exact ⟨Nat.le_refl 1, Nat.le_add_left 1 2⟩
  | [a, b], _ => exact ⟨Nat.le_add_left 1 1, Nat.le_succ 2⟩
  | [a, b, c], _ => exact ⟨Nat.le_add_left 1 2, Nat.le_refl 3⟩
theorem R_moved {w w1 : World} {e base : Nat} {ok : Nat → Prop} {v : Value} {xs : List Int} (h : Kd.R (Kd.int .i64) e w base ok v xs) (hm : ∀ k, v.ownBlock = some k → w1.heap[k]? = w.heap[k]?) : Kd.R (Kd.int .i64) e w1 base ok v xs :=
  Kd.R_of_own (own_move (Kd.own_of_R h) hm) h.1
/-- What stays from frame to frame. -/
structure FInv (w : World) (B0 KB Bk Bc M : Nat) (v : Value) (out : List Int) (l x y : Int) (wx : World) : Prop where
  fx : PCtx wx Bk Bc M
  fm : HasMemo wx M (fun g => g = KB ∨ some g = v.ownBlock)
  fk : wx.heap[KB]? = some (.cells #[.int .i64 l, .int .i64 x, .int .i64 y] 43 (0, 0))
  fo : Kd.R (Kd.int .i64) 3 wx B0 (fun _ => True) v out
  fb : Below w.heap.size w wx
  lt : w.heap.size ≤ B0 ∧ Bk < B0 ∧ Bc < B0 ∧ M < B0 ∧ B0 ≤ KB ∧ w.heap.size ≤ M
theorem FInv.own {w wx : World} {B0 KB Bk Bc M : Nat} {v : Value} {out : List Int} {l x y : Int} (h : FInv w B0 KB Bk Bc M v out l x y wx) : ∀ k, v.ownBlock = some k → B0 ≤ k ∧ k ≠ KB ∧ k ≠ M ∧ k < wx.heap.size := fun k hk => by
  have h1 := (Kd.own_of_R h.fo).lt k hk
  refine ⟨h1.1, fun e => ?_, by have := h.lt; omega, h1.2⟩
  obtain ⟨cells, hc⟩ := own_typed (Kd.own_of_R h.fo) k hk
  rw [e, h.fk] at hc
  injection hc with hc
  injection hc with _ ht
  exact absurd ht (by decide)
theorem FInv.av {w wx : World} {B0 KB Bk Bc M : Nat} {v : Value} {out : List Int} {l x y : Int} (h : FInv w B0 KB Bk Bc M v out l x y wx) : ∀ g, (g = KB ∨ some g = v.ownBlock) → g < wx.heap.size := fun g hg => by
  rcases hg with hg | hg
  · rw [hg]; exact (Array.getElem?_eq_some_iff.1 h.fk).1
  · exact (h.own g hg.symm).2.2.2
theorem FInv.big {w wx : World} {B0 KB Bk Bc M : Nat} {v : Value} {out : List Int} {l x y : Int} (h : FInv w B0 KB Bk Bc M v out l x y wx) : B0 ≤ wx.heap.size := by
  have := (Array.getElem?_eq_some_iff.1 h.fk).1
  have := h.lt
  omega
/-- A step that writes nothing elder but the map. -/
theorem FInv.step {w wx W' : World} {B0 KB Bk Bc M : Nat} {v : Value} {out : List Int} {l x y : Int} (h : FInv w B0 KB Bk Bc M v out l x y wx) (hk : Kept wx W' (fun q => q = M)) (hm : HasMemo W' M (fun g => g = KB ∨ some g = v.ownBlock)) (hb : Below w.heap.size w W') : FInv w B0 KB Bk Bc M v out l x y W' := by
  have hlt := h.lt
  refine ⟨h.fx.kept hk (fun _ e => Or.inl e), hm, (hk.2 _ (Array.getElem?_eq_some_iff.1 h.fk).1 (by omega)).trans h.fk, R_moved h.fo (fun k hkk => hk.2 k (h.own k hkk).2.2.2 (h.own k hkk).2.2.1), hb, hlt⟩
theorem FInv.below {w wx W' : World} {B0 KB Bk Bc M : Nat} {v : Value} {out : List Int} {l x y : Int} (h : FInv w B0 KB Bk Bc M v out l x y wx) (hb : Below wx.heap.size wx W') : FInv w B0 KB Bk Bc M v out l x y W' :=
  h.step (Kept.of_below hb _) (h.fm.below hb) (h.fb.trans (hb.mono h.fb.size))
/-- A frame's balls are laid behind what there is, the key is written. -/
theorem FInv.next {w W9 w10 : World} {B0 KB Bk Bc M : Nat} {v v1 : Value} {out out1 : List Int} {l x y : Int} (h : FInv w B0 KB Bk Bc M v out l x y W9) (ho : Kd.R (Kd.int .i64) 3 w10 B0 (fun _ => True) v1 out1) (hg : W9.grownBy w10 v.ownBlock) (hat : v1.ownBlock = v.ownBlock ∨ ∃ b, v1.ownBlock = some b ∧ W9.heap.size ≤ b) (a b c : Int) :
    FInv w B0 KB Bk Bc M v1 out1 a b c (((w10.setCell ⟨KB, 0, none⟩ (.int .i64 a)).setCell ⟨KB, 1, none⟩ (.int .i64 b)).setCell ⟨KB, 2, none⟩ (.int .i64 c)) := by
  have hlt := h.lt
  have hkb : w10.heap[KB]? = some (.cells #[.int .i64 l, .int .i64 x, .int .i64 y] 43 (0, 0)) := (hg.block KB (Array.getElem?_eq_some_iff.1 h.fk).1 (fun e => (h.own KB e.symm).2.1 rfl)).trans h.fk
  have hk10 : Kept W9 w10 (fun k => some k = v.ownBlock ∨ k = KB) := ⟨hg.size, fun k hk hn => hg.block k hk (fun e => hn (Or.inl e))⟩
  have hks : Kept W9 (((w10.setCell ⟨KB, 0, none⟩ (.int .i64 a)).setCell ⟨KB, 1, none⟩ (.int .i64 b)).setCell ⟨KB, 2, none⟩ (.int .i64 c)) (fun k => some k = v.ownBlock ∨ k = KB) :=
    ((hk10.setCell (p := ⟨KB, 0, none⟩) (Or.inl (Or.inr rfl)) _).setCell (p := ⟨KB, 1, none⟩) (Or.inl (Or.inr rfl)) _).setCell (p := ⟨KB, 2, none⟩) (Or.inl (Or.inr rfl)) _
  have hno : ∀ k, k < B0 → ¬ (some k = v.ownBlock ∨ k = KB) := fun k hk e => by
    rcases e with e | e
    · have := (h.own k e.symm).1
      omega
    · omega
  have hown1 : ∀ k, v1.ownBlock = some k → k ≠ KB := fun k hk e => by
    obtain ⟨cells, hc⟩ := own_typed (Kd.own_of_R ho) k hk
    rw [e, hkb] at hc
    injection hc with hc
    injection hc with _ ht
    exact absurd ht (by decide)
  refine ⟨⟨cell_kept h.fx.ck hks (hno _ hlt.2.1), cell_kept h.fx.cc hks (hno _ hlt.2.2.1), h.fx.nk, h.fx.nc⟩, ?_, blk_set (blk_set (blk_set hkb 0 _) 1 _) 2 _, ?_, ?_, hlt⟩
  · have h1 : HasMemo W9 M (fun g => (g = KB ∨ some g = v.ownBlock) ∨ some g = v1.ownBlock) := h.fm.avoid (fun g hg => by
      rcases hg with hg | hg
      · exact Or.inl hg
      · rcases hat with e | ⟨b, e, hb⟩
        · rw [e] at hg
          exact Or.inl (Or.inr hg)
        · rw [e] at hg
          injection hg with hg
          exact Or.inr (hg ▸ hb))
    have h2 := h1.kept hks (hno M hlt.2.2.2.1) (fun g hg => Or.inr (Or.inl (Or.inl (hg.elim Or.inr Or.inl))))
    exact h2.avoid (fun g hg => Or.inl (hg.elim (fun e => Or.inl (Or.inl e)) Or.inr))
  · exact R_moved (R_moved (R_moved ho (fun k hk => Below.heap_setCell _ _ _ k (hown1 k hk))) (fun k hk => Below.heap_setCell _ _ _ k (hown1 k hk))) (fun k hk => Below.heap_setCell _ _ _ k (hown1 k hk))
  · have hb : Below w.heap.size w w10 := h.fb.grown hg (Nat.le_trans hlt.1 (Nat.le_trans hlt.2.2.2.2.1 (Nat.le_of_lt (Array.getElem?_eq_some_iff.1 h.fk).1))) (fun k hk => by have := (h.own k hk).1; omega)
    exact below_set (below_set (below_set hb (by omega)) (by omega)) (by omega)
set_option maxRecDepth 100000 in
set_option maxHeartbeats 8000000 in
theorem first_no (f t : Int) (w : World) (HIn : WithinC) (HF : FramesC) (HA : AfterC) (h : ¬ (((1 ≤ f ∧ f ≤ 10) ∧ 0 ≤ t ∧ t ≤ 300) ∧ cntP f.toNat 1 1 t ≠ 0)) :
    Calls Try.prog 16 #[.int .i64 f, .int .i64 t] w fun e w' => e = .returned (.tuple #[.slice none 0 0, .bool false]) ∧ Below w.heap.size w w' := by
  have HG := Aside0.mk (fun w1 => games_calls f t w1 HIn HF HA)
  by_cases hr : (1 ≤ f ∧ f ≤ 10) ∧ 0 ≤ t ∧ t ≤ 300
  · have hz : cntP f.toNat 1 1 t = 0 := by
      by_cases hz : cntP f.toNat 1 1 t = 0
      · exact hz
      · exact absurd ⟨hr, hz⟩ h
    have e : gamesV f t = (((cntP f.toNat 1 1 t : Nat) : Int), true) := if_pos hr
    rw [e, hz] at HG
    clear HIn HF HA h hr hz e
    go_enter Try.func16, Try.ntmps16
    go_wp2_with (go_at_call 8; refine (HG.out _).mono ?_; rintro e w1 ⟨rfl, hb1⟩; have HB1 := Aside0.mk hb1; clear hb1)
    go_ret2
    exact ⟨rfl, HB1.out⟩
  · have e : gamesV f t = (0, false) := if_neg hr
    rw [e] at HG
    clear HIn HF HA h hr e
    go_enter Try.func16, Try.ntmps16
    go_wp2_with (go_at_call 8; refine (HG.out _).mono ?_; rintro e w1 ⟨rfl, hb1⟩; have HB1 := Aside0.mk hb1; clear hb1)
    go_ret2
    exact ⟨rfl, HB1.out⟩
set_option maxRecDepth 100000 in
set_option maxHeartbeats 32000000 in
theorem first_yes (f t : Int) (w : World) (HIn : WithinC) (HF : FramesC) (HA : AfterC) (h : ((1 ≤ f ∧ f ≤ 10) ∧ 0 ≤ t ∧ t ≤ 300) ∧ cntP f.toNat 1 1 t ≠ 0) :
    Calls Try.prog 16 #[.int .i64 f, .int .i64 t] w fun e w' => ∃ v, e = .returned (.tuple #[v, .bool true]) ∧ Kd.R (Kd.int .i64) 3 w' w.heap.size (fun _ => True) v (firstL f.toNat 1 1 t) ∧ Below w.heap.size w w' := by
  have HG := Aside0.mk (fun w1 => games_calls f t w1 HIn HF HA)
  have e : gamesV f t = (((cntP f.toNat 1 1 t : Nat) : Int), true) := if_pos h.1
  rw [e] at HG
  simp only at HG
  have HF1 := Aside0.mk HF
  have HA1 := Aside0.mk HA
  have HC := Aside0.mk (fun (Bk Bc M base : Nat) (hbM : base ≤ M) (n : Nat) (q : Pk) (av : Nat → Prop) (w1 : World) => count_calls Bk Bc M base HF HA hbM n q av w1)
  have HH := Aside0.mk h
  obtain ⟨X, hX⟩ : ∃ X : Int, X = ((cntP f.toNat 1 1 t : Nat) : Int) := ⟨_, rfl⟩
  rw [← hX] at HG
  have u0 : (X == 0) = false := beq_eq_false_iff_ne.mpr (by have := h.2; omega)
  have hu43 := Try.underlying43
  generalize hRES : firstL f.toNat 1 1 t = RES
  have HRES := Aside0.mk hRES
  clear HIn HF HA h e hX hRES
  go_enter Try.func16, Try.ntmps16
  go_wp2_with (first | (go_at_call 8; refine (HG.out _).mono ?_; rintro e w1 ⟨rfl, hb1⟩; have HB1 := Aside0.mk hb1; clear hb1) | (go_at_call 23; refine (counter_calls _).mono ?_; rintro e w3 ⟨Bk, Bc, M, rfl, hX3, hM3, hbM, hb3⟩; have HX3 := Aside0.mk hX3; have HM3 := Aside0.mk hM3; have HBM := Aside0.mk (Nat.le_trans HB1.out.size hbM); have HB3 := Aside0.mk (HB1.out.trans (hb3.mono HB1.out.size)); clear hX3 hM3 hbM hb3) | ((with_reducible refine gate_dst (N := 30) rfl ?_); refine Kd.R_lit (Kd.int .i64) _ 3 ?hg (N := 30) ?hd (xs := ([] : List Int)) (inner := []) (ok := fun _ => True) (okp := fun _ => True) ?hr ?hp (fun _ hk => hk) trivial (Below.refl _ _) (Nat.le_refl _) (by simp) ?_; (case hd => rfl); (case hg => rfl); (case hr => first | (go_simp; done) | (go_simp; rfl)); (case hp => exact (Reps.none _ _)); intro v30 w4 ho hb4 hg4 hn4; obtain ⟨Ao, co, eo⟩ := Kd.R_slice ho; subst eo; have HO4 := Aside0.mk ho; have HB4 := Aside0.mk hb4; clear ho hb4 hg4 hn4))
  have hM3l := HM3.out.lt
  have hbk := World.block_lt_of_cell? _ _ HX3.out.ck
  have hbc := World.block_lt_of_cell? _ _ HX3.out.cc
  simp only at hbk hbc
  have hb5 : Below w3.heap.size w3 (w4.alloc (.cells #[.int .i64 f, .int .i64 1, .int .i64 1] 43)) := below_alloc HB4.out _
  have hav : HasMemo w3 M (fun g => g = w4.heap.size ∨ some g = (Value.slice Ao 0 co).ownBlock) := HM3.out.avoid (fun g hg => Or.inr (by
    rcases hg with hg | hg
    · rw [hg]; exact HB4.out.size
    · exact ((Kd.own_of_R HO4.out).lt g hg.symm).1))
  have hfi : FInv w w3.heap.size w4.heap.size Bk Bc M (.slice Ao 0 co) [] f 1 1 (w4.alloc (.cells #[.int .i64 f, .int .i64 1, .int .i64 1] 43)) :=
    ⟨HX3.out.kept (Kept.of_below hb5 (fun _ => False)) (fun _ h => h.elim), hav.below hb5, alloc_here _ _, R_moved HO4.out (fun k hk => (below_alloc (Below.refl w4.heap.size w4) _).block k ((Kd.own_of_R HO4.out).lt k hk).2), HB3.out.trans (hb5.mono HB3.out.size), HB3.out.size, hbk, hbc, hM3l, HB4.out.size, HBM.out⟩
  have HFI := Aside0.mk hfi
  have HQ0 := Aside0.mk (show f = ((f.toNat : Nat) : Int) ∧ (f.toNat = 0 ∨ okPk (f, 1, 1)) ∧ f.toNat ≤ 10 from ⟨by have := HH.out; omega, Or.inr (okStart HH.out.1.1), by have := HH.out; omega⟩)
  have HQ1 := Aside0.mk (HH.out.1.2)
  have HQ2 := Aside0.mk (show cntP f.toNat 1 1 t ≠ 0 ∧ [] ++ firstL f.toNat 1 1 t = RES ∧ ([] : List Int).length + 3 * f.toNat ≤ 30 from ⟨HH.out.2, HRES.out, by have := HQ0.out.2.2; simp; omega⟩)
  clear hM3l hbk hbc hb5 hav hfi HX3 HM3 HB3 HO4 HB4 HB1 HBM HRES HG u0
  generalize (w4.alloc (.cells #[.int .i64 f, .int .i64 1, .int .i64 1] 43)) = W5 at *
  generalize w3.heap.size = B0 at *
  generalize w4.heap.size = KB at *
  go_loopg [1, 10] (f.toNat + 1) (fun kq v1 v10 wx => ∃ (n : Nat) (q l x y : Int) (out : List Int), v1 = .int .i64 q ∧ Aside0 (n + 1 = kq) ∧ Aside0 (l = (n : Int) ∧ (n = 0 ∨ okPk (l, x, y)) ∧ n ≤ 10) ∧ Aside0 (0 ≤ q ∧ q ≤ 300) ∧ Aside0 (cntP n x y q ≠ 0 ∧ out ++ firstL n x y q = RES ∧ out.length + 3 * n ≤ 30) ∧ Aside0 (FInv w B0 KB Bk Bc M v10 out l x y wx))
  case atStart => exact ⟨f.toNat, t, f, 1, 1, [], rfl, ⟨rfl⟩, HQ0, HQ1, HQ2, HFI⟩
  case round =>
    clear HQ0 HQ1 HQ2 HFI
    obtain ⟨n, q, l, x, y, out, rfl, HKQ, HL, HQ, HR, HFI⟩ := hrel
    generalize u10 = v10 at *
    obtain ⟨Ao, co, eo⟩ := Kd.R_slice HFI.out.fo
    subst eo
    have z0 : wr.cell? ⟨KB, 0, none⟩ = some (.int .i64 l) := (blk_cell HFI.out.fk 0).trans rfl
    have z1 : wr.cell? ⟨KB, 1, none⟩ = some (.int .i64 x) := (blk_cell HFI.out.fk 1).trans rfl
    have z2 : wr.cell? ⟨KB, 2, none⟩ = some (.int .i64 y) := (blk_cell HFI.out.fk 2).trans rfl
    by_cases hl : 0 < l
    · have ul : decide (0 < l) = true := decide_eq_true hl
      obtain ⟨m, hm⟩ : ∃ m, n = m + 1 := ⟨n - 1, by have := HL.out; omega⟩
      subst hm
      have hok : okPk (l, x, y) := by
        rcases HL.out.2.1 with e | e
        · omega
        · exact e
      have HOK := Aside0.mk hok
      obtain ⟨fr, hfind, hmem, hpos⟩ := has_frame HR.out.1
      rw [← HL.out.1] at hfind hmem
      have HFD := Aside0.mk hfind
      have HFM := Aside0.mk (And.intro hmem hpos)
      clear hl hok hfind hmem hpos
      go_wp2_with (go_at_call 36; refine (HF1.out (l, x, y) _ HOK.out).mono ?_; rintro e w6 ⟨v35, rfl, hs6, hb6⟩; obtain ⟨A35, c35, e35⟩ := Kd.R_slice (Kd.S_R hs6); subst e35; have HS6 := Aside0.mk hs6; have HB6 := Aside0.mk hb6; clear hs6 hb6)
      have hfl := frame_len l
      have HFL := Aside0.mk hfl
      obtain ⟨gR, cR, eR, _, _, _⟩ := Kd.R_form (Kd.S_R HS6.out) hfl.2
      injection eR with eA _ eC
      subst eA eC
      have hMl := HFI.out.fm.lt
      have HSM : Aside0 (Kd.S (Kd.slice 3 (Kd.int .i64)) 28 w6 wr.heap.size (fun b => b ≠ M) (.slice (some ⟨gR, 0, none⟩) (framesV l).length c35) (framesV l)) := ⟨Kd.S_mono (Kd.S_bound HS6.out) (fun b hb e => by have h1 := hb.2.1; omega)⟩
      have HF6 := Aside0.mk (HFI.out.below HB6.out)
      clear hfl hMl HS6 HB6 HFI z0 z1 z2
      generalize (⟨gR, 0, none⟩ : Addr) = aR at *
      generalize wr.heap.size = N6 at *
      generalize gk = gko at *
      have HLN := Aside0.mk (show Kd.S (Kd.slice 3 (Kd.int .i64)) 28 w6 N6 (fun b => b ≠ M) (.slice (some aR) (framesV l).length c35) (framesV l) from HSM.out)
      clear HSM
      go_loopg [1, 10, 37] ((framesV l).length + 1) (fun kq v1 v10 v37 wx => ∃ (i : Nat) (si : Int), v1 = .int .i64 q ∧ v10 = .slice Ao out.length co ∧ v37 = .int .i64 si ∧ Aside0 (si = (i : Int)) ∧ Aside0 (i + kq = (framesV l).length + 1 ∧ i ≤ (framesV l).length) ∧ Aside0 (((framesV l).drop i).find? (posP m x y q) = some fr) ∧
        Aside0 (Kd.S (Kd.slice 3 (Kd.int .i64)) 28 wx N6 (fun b => b ≠ M) (.slice (some aR) (framesV l).length c35) (framesV l)) ∧ Aside0 (FInv w B0 KB Bk Bc M (.slice Ao out.length co) out l x y wx))
      case atStart => exact ⟨0, 0, rfl, rfl, by simp, ⟨by simp⟩, ⟨by omega⟩, HFD, HLN, HF6⟩
      case round =>
        clear HLN HF6
        obtain ⟨i, si, rfl, rfl, rfl, HSI, HJ, HFI2, HS, HFI⟩ := hrel
        by_cases hi : si < ((framesV l).length : Int)
        · have hil : i < (framesV l).length := by have := HSI.out; omega
          have hs0 : 0 ≤ si := by rw [HSI.out]; omega
          have z0 : wr.cell? ⟨KB, 0, none⟩ = some (.int .i64 l) := (blk_cell HFI.out.fk 0).trans rfl
          have z1 : wr.cell? ⟨KB, 1, none⟩ = some (.int .i64 x) := (blk_cell HFI.out.fk 1).trans rfl
          have z2 : wr.cell? ⟨KB, 2, none⟩ = some (.int .i64 y) := (blk_cell HFI.out.fk 2).trans rfl
          obtain ⟨cs, hcl, hM1, hcell⟩ := Kd.S_get HS.out [] si hs0 hi
          obtain ⟨v1_, rfl, hR1⟩ := hM1
          obtain ⟨A1, c1, rfl⟩ := Kd.R_slice hR1
          have hx1 := hcell 0 _ rfl
          simp only [show ((Kd.slice 3 (Kd.int .i64))).sz = 1 from rfl, Nat.mul_one, Nat.add_zero] at hx1
          have hge : (framesV l).getD si.toNat [] = (framesV l)[i] := by rw [HSI.out, Int.toNat_natCast, List.getD_eq_getElem?_getD, List.getElem?_eq_getElem hil]; rfl
          rw [hge] at hx1 hR1
          have hmem : (framesV l)[i] ∈ framesV l := List.getElem_mem hil
          have hdr : ((framesV l).drop i).find? (posP m x y q) = if posP m x y q (framesV l)[i] = true then some (framesV l)[i] else ((framesV l).drop (i + 1)).find? (posP m x y q) := by
            rw [List.drop_eq_getElem_cons hil, List.find?_cons]
            cases posP m x y q (framesV l)[i] <;> rfl
          rw [hdr] at HFI2
          generalize hfr : (framesV l)[i] = f1 at *
          have hok := frames_ok l _ hmem
          have hpt := points_in hok HOK.out.2.1.1 HOK.out.2.1.2 HOK.out.2.2.1.1 HOK.out.2.2.1.2
          simp only at hpt
          have hfl1 := frOk_len hok
          have u1 : decide (si < ((framesV l).length : Int)) = true := decide_eq_true hi
          have p5 : (0 ≤ si) = True := eq_true hs0
          have q5 : (si < ((framesV l).length : Int)) = True := eq_true hi
          have cs1 : wrap64 (si + 1) = si + 1 := wrap_in (by omega) (by have := HFL.out.1; omega)
          obtain ⟨P, hP⟩ : ∃ P : Int, P = pointsV x y f1 := ⟨_, rfl⟩
          obtain ⟨D, hD⟩ : ∃ D : Int, D = q - P := ⟨_, rfl⟩
          have w1 : wrap64 (q - P) = D := by rw [hD]; have := HQ.out; unfold wrap64; omega
          obtain ⟨a2, ha2⟩ : ∃ a2 : Int, a2 = (nextV (0, x, y) f1).2.1 := ⟨_, rfl⟩
          obtain ⟨b2, hb2⟩ : ∃ b2 : Int, b2 = (nextV (0, x, y) f1).2.2 := ⟨_, rfl⟩
          obtain ⟨C, hC⟩ : ∃ C : Nat, C = cntP m a2 b2 D := ⟨_, rfl⟩
          have hpp : posP m x y q f1 = decide (0 < C) := by rw [hC, ha2, hb2, hD, hP]; rfl
          rw [hpp] at HFI2
          have HR1 := Aside0.mk hR1
          have HFF := Aside0.mk (And.intro hmem (And.intro hpt hfl1))
          have HPD := Aside0.mk (And.intro hP (And.intro hD (And.intro ha2 (And.intro hb2 hC))))
          have HII := Aside0.mk (And.intro hil hs0)
          have HAF := Aside0.mk (show ∀ w1, Kd.C (Kd.int .i64) w1 A1 f1.length f1 → f1.length ≤ c1 → Calls Try.prog 37 #[.agg #[.int .i64 l, .int .i64 x, .int .i64 y], .slice A1 f1.length c1] w1 (fun e w' => e = .returned (.tuple #[.int .i64 P, .agg #[.int .i64 (l - 1), .int .i64 a2, .int .i64 b2]]) ∧ Below w1.heap.size w1 w') from fun w1 h1 h2 => by
            rw [hP, ha2, hb2]
            exact HA1.out (l, x, y) f1 A1 c1 w1 HOK.out hmem h1 h2)
          have hL1 : l - 1 = (m : Int) := by have := HL.out.1; omega
          have HL1 := Aside0.mk hL1
          clear hcl hcell hge hdr hfr hok hpt hfl1 hmem hP hD ha2 hb2 hC hpp hR1 hil hs0 hi
          have hfound : 0 < C → f1 = fr → Aside0 (Aside0 ((l - 1 = (m : Int) ∧ (m = 0 ∨ okPk (l - 1, a2, b2)) ∧ m ≤ 10)) ∧ Aside0 (0 ≤ D ∧ D ≤ 300) ∧ Aside0 (cntP m a2 b2 D ≠ 0 ∧ (out ++ f1) ++ firstL m a2 b2 D = RES ∧ (out ++ f1).length + 3 * m ≤ 30)) := fun hc he => by
            obtain ⟨e1, e2, e3, e4, e5⟩ := HPD.out
            have hst := firstL_step (n := m) (x := x) (y := y) (q := q) (fr := f1) (by rw [← HL.out.1, he]; exact HFD.out)
            rw [← e1, ← e2, ← e3, ← e4] at hst
            have hD0 : 0 ≤ D := by
              by_cases h0 : D < 0
              · have := cnt_low m a2 b2 D (by rw [e3]; exact (next_in x y HOK.out.2.2.1.1 HOK.out.2.2.1.2 f1).1) (by rw [e4]; exact (next_in x y HOK.out.2.2.1.1 HOK.out.2.2.1.2 f1).2) h0
                omega
              · omega
            refine ⟨⟨HL1.out, ?_, by have := HL.out.2.2; omega⟩, ⟨hD0, ?_⟩, ?_, ?_, ?_⟩
            · by_cases hm : m = 0
              · exact Or.inl hm
              · right
                have h2 := next_ok HOK.out (by have := HL1.out; simp only; omega) f1
                rw [next_of] at h2
                rw [e3, e4]
                exact h2
            · have := HQ.out
              have := HFF.out.2.1.1
              omega
            · omega
            · rw [List.append_assoc, ← hst]
              exact HR.out.2.1
            · have := HR.out.2.2
              have := HFF.out.2.2.2
              rw [List.length_append]
              omega
          have HFO := Aside0.mk hfound
          have HLEN := Aside0.mk (show (out.length + f1.length) * 8 ≤ 140737488355328 by have := HR.out.2.2; have := HFF.out.2.2.2; omega)
          clear hfound
          by_cases hle : P ≤ q
          · have uq : decide (P ≤ q) = true := decide_eq_true hle
            have hD0 : 0 ≤ D ∧ D ≤ 300 := by have := HPD.out.2.1; have := HQ.out; have := HFF.out.2.1.1; have := HPD.out.1; omega
            by_cases hm : m = 0
            · have u2 : decide (0 < l - 1) = false := decide_eq_false (by have := HL1.out; omega)
              have u2b : decide (1 < l) = false := decide_eq_false (by have := HL1.out; omega)
              have u3 : (l - 1 == 0) = true := beq_iff_eq.mpr (by have := HL1.out; omega)
              have hC0 : C = if D = 0 then 1 else 0 := by rw [HPD.out.2.2.2.2, hm]; rfl
              by_cases hd : D = 0
              · rw [if_pos hd] at hC0
                have u4 : (P == q) = true := beq_iff_eq.mpr (by have := HPD.out.2.1; omega)
                have hdc : decide (0 < C) = true := decide_eq_true (by omega)
                rw [hdc, if_pos rfl] at HFI2
                have HOUT := HFO.out (by omega) (Option.some.inj HFI2.out)
                clear hle hD0 hm hC0 hd hdc hL1
                go_wp2_with (first | (go_at_call 37; refine (HAF.out _ (Kd.R_reads' HR1.out).2.2 (Kd.R_reads' HR1.out).2.1).mono ?_; rintro e w7 ⟨rfl, hb7⟩; have HF8 := Aside0.mk (HFI.out.below (below_alloc hb7 (.cells #[.int .i64 (l - 1), .int .i64 a2, .int .i64 b2] 43))); have HS8 := Aside0.mk (Kd.S_below HS.out (below_alloc hb7 (.cells #[.int .i64 (l - 1), .int .i64 a2, .int .i64 b2] 43))); have HR8 := Aside0.mk (Kd.R_below HR1.out (below_alloc hb7 (.cells #[.int .i64 (l - 1), .int .i64 a2, .int .i64 b2] 43))); have HN8 := Aside0.mk (alloc_here w7 (.cells #[.int .i64 (l - 1), .int .i64 a2, .int .i64 b2] 43)); have HZ7 := Aside0.mk (show wr.heap.size ≤ w7.heap.size from hb7.size); clear hb7; have HF9 := HF8; have HS9 := HS8; have HR9 := HR8; have HN9 := HN8) | (at_builtin; refine Kd.R_append_row (.int .i64) (0 : Int) B0 rfl (.tmp 76) (.tmp 77) 28 3 (.int .i64 0) 8 rfl Try.underlying28 info3 rfl (by decide) (.slice Ao out.length co) out f1 A1 f1.length c1 (fun _ => True) rfl rfl (fun _ _ => trivial) HF9.out.fo (Kd.R_reads' HR9.out).2.2 (Below.refl _ _) HF9.out.big HLEN.out ?_; intro v78 w10 ho hb10 hg10 hat10; obtain ⟨An, cn, en⟩ := Kd.R_slice ho; subst en; have HNX9 := Aside0.mk (HF9.out.next ho hg10 hat10 (l - 1) a2 b2); have hn10 := (hg10.block w7.heap.size (Array.getElem?_eq_some_iff.1 HN9.out).1 (fun e => by have := (HFI.out.own _ e.symm).2.2.2; have := HZ7.out; omega)).trans HN9.out; have y0 : w10.cell? ⟨w7.heap.size, 0, none⟩ = some (.int .i64 (l - 1)) := (blk_cell hn10 0).trans rfl; have y1 : w10.cell? ⟨w7.heap.size, 1, none⟩ = some (.int .i64 a2) := (blk_cell hn10 1).trans rfl; have y2 : w10.cell? ⟨w7.heap.size, 2, none⟩ = some (.int .i64 b2) := (blk_cell hn10 2).trans rfl; have hk10 := (hg10.block KB (Array.getElem?_eq_some_iff.1 HF9.out.fk).1 (fun e => (HF9.out.own _ e.symm).2.1 rfl)).trans HF9.out.fk; have k0 : w10.cell? ⟨KB, 0, none⟩ = some (.int .i64 l) := (blk_cell hk10 0).trans rfl; have k1 : w10.cell? ⟨KB, 1, none⟩ = some (.int .i64 x) := (blk_cell hk10 1).trans rfl; have k2 : w10.cell? ⟨KB, 2, none⟩ = some (.int .i64 y) := (blk_cell hk10 2).trans rfl; have f0_ := blk_frozen hk10 0; have f1_ := blk_frozen hk10 1; have f2_ := blk_frozen hk10 2; have nkb : w7.heap.size ≠ KB := (by have := (Array.getElem?_eq_some_iff.1 HFI.out.fk).1; have := HZ7.out; omega); have nbk : KB ≠ w7.heap.size := nkb.symm; clear ho hb10 hg10 hat10 hn10 hk10))
                have HNX8 : Aside0 (FInv w B0 KB Bk Bc M (.slice An (out.length + f1.length) cn) (out ++ f1) (l - 1) a2 b2 (((w10.setCell ⟨KB, 0, none⟩ (.int .i64 (l - 1))).setCell ⟨KB, 1, none⟩ (.int .i64 a2)).setCell ⟨KB, 2, none⟩ (.int .i64 b2))) := ⟨by have h_ := HNX9.out; rw [List.length_append] at h_; exact h_⟩
                go_roundg (gko - 1)
                case measure => have := HKQ.out; omega
                case rel => exact ⟨m, D, l - 1, a2, b2, out ++ f1, by first | rfl | simp [w1] | (rw [wrapK, w1]), ⟨by have := HKQ.out; omega⟩, HOUT.out.1, HOUT.out.2.1, HOUT.out.2.2, HNX8⟩
              · rw [if_neg hd] at hC0
                have u4 : (P == q) = false := beq_eq_false_iff_ne.mpr (by have := HPD.out.2.1; omega)
                have hdc : decide (0 < C) = false := decide_eq_false (by omega)
                rw [hdc, if_neg (by decide)] at HFI2
                clear hle hD0 hm hC0 hd hdc hL1
                go_wp2_with (first | (go_at_call 37; refine (HAF.out _ (Kd.R_reads' HR1.out).2.2 (Kd.R_reads' HR1.out).2.1).mono ?_; rintro e w7 ⟨rfl, hb7⟩; have HF8 := Aside0.mk (HFI.out.below (below_alloc hb7 (.cells #[.int .i64 (l - 1), .int .i64 a2, .int .i64 b2] 43))); have HS8 := Aside0.mk (Kd.S_below HS.out (below_alloc hb7 (.cells #[.int .i64 (l - 1), .int .i64 a2, .int .i64 b2] 43))); have HR8 := Aside0.mk (Kd.R_below HR1.out (below_alloc hb7 (.cells #[.int .i64 (l - 1), .int .i64 a2, .int .i64 b2] 43))); have HN8 := Aside0.mk (alloc_here w7 (.cells #[.int .i64 (l - 1), .int .i64 a2, .int .i64 b2] 43)); have HZ7 := Aside0.mk (show wr.heap.size ≤ w7.heap.size from hb7.size); clear hb7; have HF9 := HF8; have HS9 := HS8; have HR9 := HR8; have HN9 := HN8))
                go_roundg (gk - 1)
                case measure => have := HJ.out; have := HII.out; omega
                case rel => exact ⟨i + 1, si + 1, rfl, rfl, by first | rfl | simp [cs1] | (rw [wrapK, cs1]), ⟨by rw [HSI.out]; omega⟩, ⟨by have := HJ.out; have := HII.out; omega⟩, HFI2, HS9, HF9⟩
            · have u2 : decide (0 < l - 1) = true := decide_eq_true (by have := HL1.out; omega)
              have u2b : decide (1 < l) = true := decide_eq_true (by have := HL1.out; omega)
              have u3 : (l - 1 == 0) = false := beq_eq_false_iff_ne.mpr (by have := HL1.out; omega)
              have hnx := next_ok HOK.out (by have := HL1.out; simp only; omega) f1
              rw [next_of] at hnx
              simp only at hnx
              rw [← HPD.out.2.2.1, ← HPD.out.2.2.2.1] at hnx
              have HNX := Aside0.mk hnx
              obtain ⟨X, hX⟩ : ∃ X : Int, X = (C : Int) := ⟨_, rfl⟩
              have HDD := Aside0.mk (show D.toNat < 361 ∧ tabAt (l - 1, a2, b2) ((D.toNat : Nat) : Int) = X from ⟨by omega, by
                unfold tabAt
                rw [Int.toNat_of_nonneg hD0.1, hX, HPD.out.2.2.2.2]
                simp only
                rw [show (l - 1).toNat = m by have := HL1.out; omega]⟩)
              have d0 : (0 ≤ D) = True := eq_true hD0.1
              have d4 : (D < 361) = True := eq_true (by omega)
              by_cases hc : 0 < C
              · have u4 : decide (0 < X) = true := decide_eq_true (by omega)
                have hdc : decide (0 < C) = true := decide_eq_true hc
                rw [hdc, if_pos rfl] at HFI2
                have HOUT := HFO.out hc (Option.some.inj HFI2.out)
                clear hle hD0 hm hnx hX hc hdc hL1
                go_wp2_with (first | (go_at_call 37; refine (HAF.out _ (Kd.R_reads' HR1.out).2.2 (Kd.R_reads' HR1.out).2.1).mono ?_; rintro e w7 ⟨rfl, hb7⟩; have HF8 := Aside0.mk (HFI.out.below (below_alloc hb7 (.cells #[.int .i64 (l - 1), .int .i64 a2, .int .i64 b2] 43))); have HS8 := Aside0.mk (Kd.S_below HS.out (below_alloc hb7 (.cells #[.int .i64 (l - 1), .int .i64 a2, .int .i64 b2] 43))); have HR8 := Aside0.mk (Kd.R_below HR1.out (below_alloc hb7 (.cells #[.int .i64 (l - 1), .int .i64 a2, .int .i64 b2] 43))); have HN8 := Aside0.mk (alloc_here w7 (.cells #[.int .i64 (l - 1), .int .i64 a2, .int .i64 b2] 43)); have HZ7 := Aside0.mk (show wr.heap.size ≤ w7.heap.size from hb7.size); clear hb7) | (go_at_call 42; refine (HC.out Bk Bc M w.heap.size HFI.out.lt.2.2.2.2.2 m (l - 1, a2, b2) (fun g => g = KB ∨ some g = (Value.slice Ao out.length co).ownBlock) _ HL1.out HNX.out HF8.out.av HF8.out.fx HF8.out.fm HF8.out.fb.size).mono ?_; rintro e w9 ⟨v57, rfl, ht9, hk9, hb9, hm9⟩; obtain ⟨g9, c9, rfl, _, _, h9, hcl9⟩ := ht9; have hcell := hcl9 D.toNat HDD.out.1; rw [HDD.out.2] at hcell; have HF9 := Aside0.mk (HF8.out.step hk9 hm9 (HF8.out.fb.trans hb9)); have HS9 := Aside0.mk (Kd.S_kept HS8.out hk9 (fun k h1 h2 => h1 h2)); have HR9 := Aside0.mk (Kd.R_kept HR8.out hk9 (fun k h1 h2 => h1.1 h2)); have HN9 := Aside0.mk ((hk9.2 _ (Array.getElem?_eq_some_iff.1 HN8.out).1 (by have := HFI.out.fm.lt; have := HZ7.out; omega)).trans HN8.out); have n0_ : w9.cell? ⟨w7.heap.size, 0, none⟩ = some (.int .i64 (l - 1)) := (blk_cell HN9.out 0).trans rfl; clear hcl9 hk9 hb9 hm9) | (at_builtin; refine Kd.R_append_row (.int .i64) (0 : Int) B0 rfl (.tmp 76) (.tmp 77) 28 3 (.int .i64 0) 8 rfl Try.underlying28 info3 rfl (by decide) (.slice Ao out.length co) out f1 A1 f1.length c1 (fun _ => True) rfl rfl (fun _ _ => trivial) HF9.out.fo (Kd.R_reads' HR9.out).2.2 (Below.refl _ _) HF9.out.big HLEN.out ?_; intro v78 w10 ho hb10 hg10 hat10; obtain ⟨An, cn, en⟩ := Kd.R_slice ho; subst en; have HNX9 := Aside0.mk (HF9.out.next ho hg10 hat10 (l - 1) a2 b2); have hn10 := (hg10.block w7.heap.size (Array.getElem?_eq_some_iff.1 HN9.out).1 (fun e => by have := (HFI.out.own _ e.symm).2.2.2; have := HZ7.out; omega)).trans HN9.out; have y0 : w10.cell? ⟨w7.heap.size, 0, none⟩ = some (.int .i64 (l - 1)) := (blk_cell hn10 0).trans rfl; have y1 : w10.cell? ⟨w7.heap.size, 1, none⟩ = some (.int .i64 a2) := (blk_cell hn10 1).trans rfl; have y2 : w10.cell? ⟨w7.heap.size, 2, none⟩ = some (.int .i64 b2) := (blk_cell hn10 2).trans rfl; have hk10 := (hg10.block KB (Array.getElem?_eq_some_iff.1 HF9.out.fk).1 (fun e => (HF9.out.own _ e.symm).2.1 rfl)).trans HF9.out.fk; have k0 : w10.cell? ⟨KB, 0, none⟩ = some (.int .i64 l) := (blk_cell hk10 0).trans rfl; have k1 : w10.cell? ⟨KB, 1, none⟩ = some (.int .i64 x) := (blk_cell hk10 1).trans rfl; have k2 : w10.cell? ⟨KB, 2, none⟩ = some (.int .i64 y) := (blk_cell hk10 2).trans rfl; have f0_ := blk_frozen hk10 0; have f1_ := blk_frozen hk10 1; have f2_ := blk_frozen hk10 2; have nkb : w7.heap.size ≠ KB := (by have := (Array.getElem?_eq_some_iff.1 HFI.out.fk).1; have := HZ7.out; omega); have nbk : KB ≠ w7.heap.size := nkb.symm; clear ho hb10 hg10 hat10 hn10 hk10))
                have HNX8 : Aside0 (FInv w B0 KB Bk Bc M (.slice An (out.length + f1.length) cn) (out ++ f1) (l - 1) a2 b2 (((w10.setCell ⟨KB, 0, none⟩ (.int .i64 (l - 1))).setCell ⟨KB, 1, none⟩ (.int .i64 a2)).setCell ⟨KB, 2, none⟩ (.int .i64 b2))) := ⟨by have h_ := HNX9.out; rw [List.length_append] at h_; exact h_⟩
                go_roundg (gko - 1)
                case measure => have := HKQ.out; omega
                case rel => exact ⟨m, D, l - 1, a2, b2, out ++ f1, by first | rfl | simp [w1] | (rw [wrapK, w1]), ⟨by have := HKQ.out; omega⟩, HOUT.out.1, HOUT.out.2.1, HOUT.out.2.2, HNX8⟩
              · have u4 : decide (0 < X) = false := decide_eq_false (by omega)
                have hdc : decide (0 < C) = false := decide_eq_false hc
                rw [hdc, if_neg (by decide)] at HFI2
                clear hle hD0 hm hnx hX hc hdc hL1
                go_wp2_with (first | (go_at_call 37; refine (HAF.out _ (Kd.R_reads' HR1.out).2.2 (Kd.R_reads' HR1.out).2.1).mono ?_; rintro e w7 ⟨rfl, hb7⟩; have HF8 := Aside0.mk (HFI.out.below (below_alloc hb7 (.cells #[.int .i64 (l - 1), .int .i64 a2, .int .i64 b2] 43))); have HS8 := Aside0.mk (Kd.S_below HS.out (below_alloc hb7 (.cells #[.int .i64 (l - 1), .int .i64 a2, .int .i64 b2] 43))); have HR8 := Aside0.mk (Kd.R_below HR1.out (below_alloc hb7 (.cells #[.int .i64 (l - 1), .int .i64 a2, .int .i64 b2] 43))); have HN8 := Aside0.mk (alloc_here w7 (.cells #[.int .i64 (l - 1), .int .i64 a2, .int .i64 b2] 43)); have HZ7 := Aside0.mk (show wr.heap.size ≤ w7.heap.size from hb7.size); clear hb7) | (go_at_call 42; refine (HC.out Bk Bc M w.heap.size HFI.out.lt.2.2.2.2.2 m (l - 1, a2, b2) (fun g => g = KB ∨ some g = (Value.slice Ao out.length co).ownBlock) _ HL1.out HNX.out HF8.out.av HF8.out.fx HF8.out.fm HF8.out.fb.size).mono ?_; rintro e w9 ⟨v57, rfl, ht9, hk9, hb9, hm9⟩; obtain ⟨g9, c9, rfl, _, _, h9, hcl9⟩ := ht9; have hcell := hcl9 D.toNat HDD.out.1; rw [HDD.out.2] at hcell; have HF9 := Aside0.mk (HF8.out.step hk9 hm9 (HF8.out.fb.trans hb9)); have HS9 := Aside0.mk (Kd.S_kept HS8.out hk9 (fun k h1 h2 => h1 h2)); have HR9 := Aside0.mk (Kd.R_kept HR8.out hk9 (fun k h1 h2 => h1.1 h2)); have HN9 := Aside0.mk ((hk9.2 _ (Array.getElem?_eq_some_iff.1 HN8.out).1 (by have := HFI.out.fm.lt; have := HZ7.out; omega)).trans HN8.out); have n0_ : w9.cell? ⟨w7.heap.size, 0, none⟩ = some (.int .i64 (l - 1)) := (blk_cell HN9.out 0).trans rfl; clear hcl9 hk9 hb9 hm9))
                go_roundg (gk - 1)
                case measure => have := HJ.out; have := HII.out; omega
                case rel => exact ⟨i + 1, si + 1, rfl, rfl, by first | rfl | simp [cs1] | (rw [wrapK, cs1]), ⟨by rw [HSI.out]; omega⟩, ⟨by have := HJ.out; have := HII.out; omega⟩, HFI2, HS9, HF9⟩
          · have uq : decide (P ≤ q) = false := decide_eq_false hle
            have hC0 : C = 0 := by
              rw [HPD.out.2.2.2.2]
              exact cnt_low m a2 b2 D (by rw [HPD.out.2.2.1]; exact (next_in x y HOK.out.2.2.1.1 HOK.out.2.2.1.2 f1).1) (by rw [HPD.out.2.2.2.1]; exact (next_in x y HOK.out.2.2.1.1 HOK.out.2.2.1.2 f1).2) (by have := HPD.out.2.1; omega)
            have hdc : decide (0 < C) = false := decide_eq_false (by omega)
            rw [hdc, if_neg (by decide)] at HFI2
            clear hle hC0 hdc hL1
            go_wp2_with (first | (go_at_call 37; refine (HAF.out _ (Kd.R_reads' HR1.out).2.2 (Kd.R_reads' HR1.out).2.1).mono ?_; rintro e w7 ⟨rfl, hb7⟩; have HF8 := Aside0.mk (HFI.out.below (below_alloc hb7 (.cells #[.int .i64 (l - 1), .int .i64 a2, .int .i64 b2] 43))); have HS8 := Aside0.mk (Kd.S_below HS.out (below_alloc hb7 (.cells #[.int .i64 (l - 1), .int .i64 a2, .int .i64 b2] 43))); have HR8 := Aside0.mk (Kd.R_below HR1.out (below_alloc hb7 (.cells #[.int .i64 (l - 1), .int .i64 a2, .int .i64 b2] 43))); have HN8 := Aside0.mk (alloc_here w7 (.cells #[.int .i64 (l - 1), .int .i64 a2, .int .i64 b2] 43)); have HZ7 := Aside0.mk (show wr.heap.size ≤ w7.heap.size from hb7.size); clear hb7; have HF9 := HF8; have HS9 := HS8; have HR9 := HR8; have HN9 := HN8))
            go_roundg (gk - 1)
            case measure => have := HJ.out; have := HII.out; omega
            case rel => exact ⟨i + 1, si + 1, rfl, rfl, by first | rfl | simp [cs1] | (rw [wrapK, cs1]), ⟨by rw [HSI.out]; omega⟩, ⟨by have := HJ.out; have := HII.out; omega⟩, HFI2, HS9, HF9⟩
        · exfalso
          have h := HFI2.out
          rw [List.drop_of_length_le (by have := HSI.out; omega)] at h
          cases h
    · have ul : decide (0 < l) = false := decide_eq_false hl
      have hn0 : n = 0 := by have := HL.out; omega
      subst hn0
      have ho : out = RES := by have := HR.out.2.1; rwa [show firstL 0 x y q = [] from rfl, List.append_nil] at this
      subst ho
      clear hl
      go_wp2
      go_ret2
      exact ⟨_, rfl, Kd.R_lower HFI.out.fo HFI.out.lt.1, HFI.out.fb⟩
theorem first_calls (f t : Int) (w : World) (HIn : WithinC) (HF : FramesC) (HA : AfterC) :
    Calls Try.prog 16 #[.int .i64 f, .int .i64 t] w fun e w' => ∃ v, e = .returned (.tuple #[v, .bool (firstV f t).2]) ∧ Kd.R (Kd.int .i64) 3 w' w.heap.size (fun _ => True) v (firstV f t).1 ∧ Below w.heap.size w w' := by
  by_cases h : ((1 ≤ f ∧ f ≤ 10) ∧ 0 ≤ t ∧ t ≤ 300) ∧ cntP f.toNat 1 1 t ≠ 0
  · have e : firstV f t = (firstL f.toNat 1 1 t, true) := if_pos h
    rw [e]
    exact first_yes f t w HIn HF HA h
  · have e : firstV f t = ([], false) := if_neg h
    rw [e]
    refine (first_no f t w HIn HF HA h).mono ?_
    rintro e w' ⟨rfl, hb⟩
    exact ⟨_, rfl, Kd.R_nil _ _ _ _ _, hb⟩
end Go.Proofs.Ytdioconinnpmmaa.Pin
