/- The closure that counts games, by its contract; what makes it; what CountGamesOf hands back. -/
import Derived.Test.YtdioconinnpmmaaPinCount
set_option linter.unusedVariables false
set_option linter.unusedSimpArgs false
namespace Go.Proofs.Ytdioconinnpmmaa.Pin
open Go.RowKit Go.Proofs.YtdioconinnpmmaaW.PrintWords Go.Proofs.YtdioconinnpmmaaW.PrintLast
/-! ### Pins: the closure by its contract; what makes it; CountGamesOf -/
theorem count_calls (Bk Bc M base : Nat) (HF : FramesC) (HA : AfterC) (hbM : base ≤ M) : ∀ (n : Nat) (q : Pk) (av : Nat → Prop) (w : World), q.1 = (n : Int) → okPk q → (∀ g, av g → g < w.heap.size) → PCtx w Bk Bc M → HasMemo w M av → base ≤ w.heap.size →
    Calls Try.prog 42 #[.agg #[.int .i64 q.1, .int .i64 q.2.1, .int .i64 q.2.2], .pointer (some ⟨Bk, 0, none⟩), .pointer (some ⟨Bc, 0, none⟩)] w (PPost q M base av w)
  | 0, q, av, w, hq, hk, _, _, _, _ => by
    have := hk.1.1
    omega
  | n + 1, (l, x, y), av, w, hq, hk, hav, hX, hM, hbs => by
    obtain ⟨es, clock, hm⟩ := hM
    rcases memo_look hm (l, x, y) hk with ⟨v, hv, hl⟩ | hl
    · exact count_known Bk Bc M base av l x y w hX es clock hm.hb ⟨es, clock, hm⟩ hbs v hv hl
    · exact count_new Bk Bc M base av n l x y w hq hk hav hX es clock hm hbs hbM hl HF HA (fun q av1 w1 h1 h2 h3 h4 h5 h6 => count_calls Bk Bc M base HF HA hbM n q av1 w1 h1 h2 h3 h4 h5 h6)
set_option maxRecDepth 100000 in
set_option maxHeartbeats 8000000 in
theorem counter_calls (w : World) : Calls Try.prog 23 #[] w fun e w' => ∃ Bk Bc M : Nat, e = .returned (.func (.func 42) #[] #[.pointer (some ⟨Bk, 0, none⟩), .pointer (some ⟨Bc, 0, none⟩)]) ∧ PCtx w' Bk Bc M ∧ HasMemo w' M (fun _ => False) ∧ w.heap.size ≤ M ∧ Below w.heap.size w w' := by
  have hmm := @run_makeMap Try.prog
  have hmf : ∀ (fn : Fn) (first cap : Array Value) (w : World), (Instr.makeFunc fn first cap).run Try.prog w = .ok (.func fn first cap) w := fun _ _ _ _ => rfl
  have hu67 := Try.underlying67
  go_enter Try.func23, Try.ntmps23
  go_wp2
  go_ret
  have hb : Below w.heap.size w ((w.alloc (.map #[] 0)).alloc (.cells #[.map (some w.heap.size)] 67)) := below_alloc (below_alloc (Below.refl _ _) _) _
  refine ⟨w.heap.size + 1, w.heap.size + 1 + 1, w.heap.size, rfl, ⟨?_, ?_, by omega, by omega⟩, ?_, Nat.le_refl _, below_alloc hb _⟩
  · rw [← alloc_one w (.map #[] 0)]
    refine pw_cell_below (below_alloc (Below.refl _ _) _) (a := ⟨(w.alloc (.map #[] 0)).heap.size, 0, none⟩) ?_
    rw [World.cell?_alloc_at _ _ _ _ rfl]
    rfl
  · rw [World.cell?_alloc_at _ _ _ _ (by rw [alloc_one, alloc_one])]
    rfl
  · have h0 := memo_made w (fun _ => False)
    exact (h0.below (below_alloc (Below.refl _ _) _)).below (below_alloc (Below.refl _ _) _)
theorem PCtx.drewN {w : World} {Bk Bc M : Nat} (h : PCtx w Bk Bc M) (n : Nat) : PCtx (w.drewN n) Bk Bc M := ⟨h.ck, h.cc, h.nk, h.nc⟩
/-- What CountGamesOf hands back. -/
def gamesV (f t : Int) : Int × Bool := if (1 ≤ f ∧ f ≤ 10) ∧ 0 ≤ t ∧ t ≤ 300 then (((cntP f.toNat 1 1 t : Nat) : Int), true) else (0, false)
def WithinC : Prop := ∀ (a lo hi : Int) (w1 : World), Calls Try.prog 22 #[.int .i64 a, .int .i64 lo, .int .i64 hi] w1 fun e w' => e = .returned (.bool (decide (lo ≤ a ∧ a ≤ hi))) ∧ Drawn0 w1 w'
set_option maxRecDepth 100000 in
set_option maxHeartbeats 8000000 in
theorem games_no (f t : Int) (w : World) (HIn : WithinC) (h : ¬ ((1 ≤ f ∧ f ≤ 10) ∧ 0 ≤ t ∧ t ≤ 300)) :
    Calls Try.prog 8 #[.int .i64 f, .int .i64 t] w fun e w' => e = .returned (.tuple #[.int .i64 0, .bool false]) ∧ Below w.heap.size w w' := by
  have H1 := Aside0.mk (HIn f 1 10)
  have H2 := Aside0.mk (HIn t 0 300)
  clear HIn
  by_cases h1 : 1 ≤ f ∧ f ≤ 10
  · have d1 : decide (1 ≤ f ∧ f ≤ 10) = true := decide_eq_true h1
    have d2 : decide (0 ≤ t ∧ t ≤ 300) = false := decide_eq_false (fun h2 => h ⟨h1, h2⟩)
    rw [d1] at H1
    rw [d2] at H2
    clear h h1 d1 d2
    go_enter Try.func8, Try.ntmps8
    go_wp2_with (go_at_call 22; (first | (with_reducible refine (H1.out _).mono ?_) | (with_reducible refine (H2.out _).mono ?_)); rintro e w2 ⟨rfl, ⟨nd, rfl⟩⟩)
    go_ret2
    exact ⟨rfl, pw_below_drewN (Below.refl _ _) _⟩
  · have d1 : decide (1 ≤ f ∧ f ≤ 10) = false := decide_eq_false h1
    rw [d1] at H1
    clear h h1 d1
    go_enter Try.func8, Try.ntmps8
    go_wp2_with (go_at_call 22; (first | (with_reducible refine (H1.out _).mono ?_) | (with_reducible refine (H2.out _).mono ?_)); rintro e w2 ⟨rfl, ⟨nd, rfl⟩⟩)
    go_ret2
    exact ⟨rfl, pw_below_drewN (Below.refl _ _) _⟩
theorem okStart {f : Int} (h : 1 ≤ f ∧ f ≤ 10) : okPk (f, 1, 1) := ⟨h, (by decide : (1 : Int) ≤ 1 ∧ (1 : Int) ≤ 3), (by decide : (1 : Int) ≤ 1 ∧ (1 : Int) ≤ 2), (by decide : (1 : Int) ≤ 1)⟩
theorem tab_start (f : Int) (t : Int) (h0 : 0 ≤ t) : tabAt (f, 1, 1) ((t.toNat : Nat) : Int) = ((cntP f.toNat 1 1 t : Nat) : Int) := by
  unfold tabAt
  rw [Int.toNat_of_nonneg h0]
/-- The counter's call at the start of a game. -/
theorem start_calls (HF : FramesC) (HA : AfterC) (f : Int) (h : 1 ≤ f ∧ f ≤ 10) (Bk Bc M base : Nat) (w : World) (hbM : base ≤ M) (hX : PCtx w Bk Bc M) (hM : HasMemo w M (fun _ => False)) (hbs : base ≤ w.heap.size) :
    Calls Try.prog 42 #[.agg #[.int .i64 f, .int .i64 1, .int .i64 1], .pointer (some ⟨Bk, 0, none⟩), .pointer (some ⟨Bc, 0, none⟩)] w (PPost (f, 1, 1) M base (fun _ => False) w) :=
  count_calls Bk Bc M base HF HA hbM f.toNat (f, 1, 1) (fun _ => False) w (by simp only; omega) (okStart h) (fun _ h => h.elim) hX hM hbs
set_option maxRecDepth 100000 in
set_option maxHeartbeats 8000000 in
theorem games_yes (f t : Int) (w : World) (HIn : WithinC) (HF : FramesC) (HA : AfterC) (h : (1 ≤ f ∧ f ≤ 10) ∧ 0 ≤ t ∧ t ≤ 300) :
    Calls Try.prog 8 #[.int .i64 f, .int .i64 t] w fun e w' => e = .returned (.tuple #[.int .i64 ((cntP f.toNat 1 1 t : Nat) : Int), .bool true]) ∧ Below w.heap.size w w' := by
  have H1 := Aside0.mk (HIn f 1 10)
  have H2 := Aside0.mk (HIn t 0 300)
  rw [decide_eq_true h.1] at H1
  rw [decide_eq_true h.2] at H2
  have HC := Aside0.mk (start_calls HF HA f h.1)
  obtain ⟨X, hX⟩ : ∃ X : Int, X = ((cntP f.toNat 1 1 t : Nat) : Int) := ⟨_, rfl⟩
  rw [← hX]
  have HT := Aside0.mk (And.intro h.2 ((tab_start f t h.2.1).trans hX.symm))
  have v1 : (0 ≤ t) = True := eq_true h.2.1
  have v2 : (t < 361) = True := eq_true (by omega)
  have v3 : decide (0 ≤ t) = true := decide_eq_true h.2.1
  have v4 : decide (t < 361) = true := decide_eq_true (by omega)
  have hu43 := Try.underlying43
  clear HIn HF HA h hX
  go_enter Try.func8, Try.ntmps8
  go_wp2_with (first | (go_at_call 22; (first | (with_reducible refine (H1.out _).mono ?_) | (with_reducible refine (H2.out _).mono ?_)); rintro e w2 ⟨rfl, ⟨nd, rfl⟩⟩) | (go_at_call 23; refine (counter_calls _).mono ?_; rintro e w3 ⟨Bk, Bc, M, rfl, hX3, hM3, hbM, hb3⟩; have HX3 := Aside0.mk hX3; have HM3 := Aside0.mk hM3; have HBM := Aside0.mk (show w.heap.size ≤ M from hbM); have HB3 := Aside0.mk (show Below w.heap.size w w3 from (pw_below_drewN (Below.refl _ _) _).trans hb3); clear hX3 hM3 hbM hb3) | (go_at_call 42; refine (HC.out Bk Bc M w.heap.size _ HBM.out HX3.out HM3.out HB3.out.size).mono ?_; rintro e w4 ⟨v, rfl, ht4, hk4, hb4, hm4⟩; obtain ⟨g, c, rfl, hgM, _, hg3, hcl⟩ := ht4; have hcell := hcl t.toNat (by have := HT.out; omega); rw [HT.out.2] at hcell; have HB4 := Aside0.mk (HB3.out.trans hb4); clear hgM hcl hk4 hb4 hm4))
  go_ret2
  exact ⟨rfl, HB4.out⟩
theorem games_calls (f t : Int) (w : World) (HIn : WithinC) (HF : FramesC) (HA : AfterC) :
    Calls Try.prog 8 #[.int .i64 f, .int .i64 t] w fun e w' => e = .returned (.tuple #[.int .i64 (gamesV f t).1, .bool (gamesV f t).2]) ∧ Below w.heap.size w w' := by
  by_cases h : (1 ≤ f ∧ f ≤ 10) ∧ 0 ≤ t ∧ t ≤ 300
  · have e : gamesV f t = (((cntP f.toNat 1 1 t : Nat) : Int), true) := if_pos h
    rw [e]
    exact games_yes f t w HIn HF HA h
  · have e : gamesV f t = (0, false) := if_neg h
    rw [e]
    exact games_no f t w HIn h
/-! MostGames -/
/-- The first total with the most games among the first i totals. -/
def bestV (g : Nat → Nat) : Nat → Nat × Nat
  | 0 => (0, 0)
  | i + 1 => if (bestV g i).2 < g i then (i, g i) else bestV g i
def mostV (f : Int) : Int × Int × Bool := if 1 ≤ f ∧ f ≤ 10 then (((bestV (fun t => cntP f.toNat 1 1 (t : Int)) 361).1 : Int), ((bestV (fun t => cntP f.toNat 1 1 (t : Int)) 361).2 : Int), true) else (0, 0, false)
theorem bestV_more (g : Nat → Nat) (n : Nat) : ∀ d : Nat, (∀ i, n ≤ i → g i = 0) → bestV g (n + d) = bestV g n
  | 0, _ => rfl
  | d + 1, h => by
    show (if (bestV g (n + d)).2 < g (n + d) then (n + d, g (n + d)) else bestV g (n + d)) = _
    rw [h (n + d) (by omega), if_neg (by omega)]
    exact bestV_more g n d h
theorem bestV_small (g : Nat → Nat) : ∀ i, (bestV g i).1 ≤ i
  | 0 => Nat.le_refl _
  | i + 1 => by
    unfold bestV
    split
    · exact Nat.le_succ _
    · exact Nat.le_succ_of_le (bestV_small g i)
/-- No game has more than 300. -/
theorem most_300 (f : Int) (h : 1 ≤ f ∧ f ≤ 10) : bestV (fun t => cntP f.toNat 1 1 (t : Int)) 361 = bestV (fun t => cntP f.toNat 1 1 (t : Int)) 301 :=
  bestV_more _ 301 60 (fun i hi => cnt_high _ 1 1 _ (by omega) (by omega) (by omega) (by unfold topP; split <;> omega))
set_option maxRecDepth 100000 in
set_option maxHeartbeats 8000000 in
theorem most_no (f : Int) (w : World) (HIn : WithinC) (h : ¬ (1 ≤ f ∧ f ≤ 10)) :
    Calls Try.prog 10 #[.int .i64 f] w fun e w' => e = .returned (.tuple #[.int .i64 0, .int .i64 0, .bool false]) ∧ Below w.heap.size w w' := by
  have H1 := Aside0.mk (HIn f 1 10)
  rw [decide_eq_false h] at H1
  clear HIn h
  go_enter Try.func10, Try.ntmps10
  go_wp2_with (go_at_call 22; (with_reducible refine (H1.out _).mono ?_); rintro e w2 ⟨rfl, ⟨nd, rfl⟩⟩)
  first | go_end0 | ((try simp only [Exit.inBlock, Exit.then]); refine bodyPost_ret (results_tmp3 rfl _ _ _) rfl ?_)
  exact ⟨rfl, pw_below_drewN (Below.refl _ _) _⟩
set_option maxRecDepth 100000 in
set_option maxHeartbeats 8000000 in
theorem most_yes (f : Int) (w : World) (HIn : WithinC) (HF : FramesC) (HA : AfterC) (h : 1 ≤ f ∧ f ≤ 10) :
    Calls Try.prog 10 #[.int .i64 f] w fun e w' => e = .returned (.tuple #[.int .i64 ((bestV (fun t => cntP f.toNat 1 1 (t : Int)) 361).1 : Int), .int .i64 ((bestV (fun t => cntP f.toNat 1 1 (t : Int)) 361).2 : Int), .bool true]) ∧ Below w.heap.size w w' := by
  have H1 := Aside0.mk (HIn f 1 10)
  rw [decide_eq_true h] at H1
  have HC := Aside0.mk (start_calls HF HA f h)
  have htab : ∀ j : Nat, tabAt (f, 1, 1) (j : Int) = ((cntP f.toNat 1 1 (j : Int) : Nat) : Int) := fun j => rfl
  generalize hg : (fun t : Nat => cntP f.toNat 1 1 (t : Int)) = g0
  have HG0 := Aside0.mk (fun j : Nat => show tabAt (f, 1, 1) (j : Int) = ((g0 j : Nat) : Int) by rw [htab, ← hg])
  have hu43 := Try.underlying43
  clear HIn HF HA h htab hg
  go_enter Try.func10, Try.ntmps10
  go_wp2_with (first | (go_at_call 22; (with_reducible refine (H1.out _).mono ?_); rintro e w2 ⟨rfl, ⟨nd, rfl⟩⟩) | (go_at_call 23; refine (counter_calls _).mono ?_; rintro e w3 ⟨Bk, Bc, M, rfl, hX3, hM3, hbM, hb3⟩; have HX3 := Aside0.mk hX3; have HM3 := Aside0.mk hM3; have HBM := Aside0.mk (show w.heap.size ≤ M from hbM); have HB3 := Aside0.mk (show Below w.heap.size w w3 from (pw_below_drewN (Below.refl _ _) _).trans hb3); clear hX3 hM3 hbM hb3) | (go_at_call 42; refine (HC.out Bk Bc M w.heap.size _ HBM.out HX3.out HM3.out HB3.out.size).mono ?_; rintro e w4 ⟨v, rfl, ht4, hk4, hb4, hm4⟩; obtain ⟨g, c, rfl, hgM, _, hg3, hcl⟩ := ht4; have HCL := Aside0.mk hcl; have HB4 := Aside0.mk (HB3.out.trans hb4); clear hgM hcl hk4 hb4 hm4))
  go_loopg [5, 6, 17] 362 (fun kq v5 v6 v17 wx => ∃ (i : Nat) (si b1 b2 : Int), v5 = .int .i64 b1 ∧ v6 = .int .i64 b2 ∧ v17 = .int .i64 si ∧ Aside0 (si = (i : Int)) ∧ Aside0 (i + kq = 362 ∧ i ≤ 361) ∧ Aside0 (b1 = ((bestV g0 i).1 : Int) ∧ b2 = ((bestV g0 i).2 : Int)) ∧ Aside0 (∀ j : Nat, j < 361 → wx.cell? ⟨g, j, none⟩ = some (.int .i64 (tabAt (f, 1, 1) (j : Int)))) ∧ Aside0 (Below w.heap.size w wx))
  case atStart => exact ⟨0, 0, 0, 0, by simp, by simp, by simp, ⟨by simp⟩, ⟨by omega⟩, ⟨⟨rfl, rfl⟩⟩, HCL, HB4⟩
  case round =>
    clear HCL HB4 HB3 HM3 HX3
    obtain ⟨i, si, b1, b2, rfl, rfl, rfl, HSI, HQ, HBB, HCL, HB⟩ := hrel
    by_cases hi : si < 361
    · have v1 : decide (si < 361) = true := decide_eq_true hi
      have v2 : (si < 361) = True := eq_true hi
      have h0 : 0 ≤ si := by rw [HSI.out]; omega
      have v3 : (0 ≤ si) = True := eq_true h0
      have v4 : decide (0 ≤ si) = true := decide_eq_true h0
      have cs1 : wrap64 (si + 1) = si + 1 := wrap_in (by omega) (by omega)
      have hcell := HCL.out si.toNat (by omega)
      rw [HG0.out] at hcell
      rw [show si.toNat = i by rw [HSI.out, Int.toNat_natCast]] at hcell
      obtain ⟨X, hX⟩ : ∃ X : Int, X = ((g0 i : Nat) : Int) := ⟨_, rfl⟩
      rw [← hX, show i = si.toNat by rw [HSI.out, Int.toNat_natCast]] at hcell
      have HX := Aside0.mk hX
      have HI := Aside0.mk hi
      by_cases hb : b2 < X
      · have u : decide (b2 < X) = true := decide_eq_true hb
        have e : bestV g0 (i + 1) = (i, g0 i) := if_pos (by have := HBB.out.2; omega)
        have HE := Aside0.mk e
        clear hX hb h0 hi e
        go_wp2
        go_roundg (gk - 1)
        case measure => have := HQ.out; omega
        case rel => exact ⟨i + 1, si + 1, si, X, rfl, rfl, by first | rfl | simp [cs1] | (rw [wrapK, cs1]), ⟨by rw [HSI.out]; omega⟩, ⟨by have := HQ.out; have := HI.out; have := HSI.out; omega⟩, ⟨by rw [HE.out]; exact ⟨HSI.out, HX.out⟩⟩, HCL, HB⟩
      · have u : decide (b2 < X) = false := decide_eq_false hb
        have e : bestV g0 (i + 1) = bestV g0 i := if_neg (by have := HBB.out.2; omega)
        have HE := Aside0.mk e
        clear hX hb h0 hi e
        go_wp2
        go_roundg (gk - 1)
        case measure => have := HQ.out; omega
        case rel => exact ⟨i + 1, si + 1, b1, b2, rfl, rfl, by first | rfl | simp [cs1] | (rw [wrapK, cs1]), ⟨by rw [HSI.out]; omega⟩, ⟨by have := HQ.out; have := HI.out; have := HSI.out; omega⟩, ⟨by rw [HE.out]; exact HBB.out⟩, HCL, HB⟩
    · have hi3 : i = 361 := by have := HQ.out; have := HSI.out; omega
      have v1 : decide (si < 361) = false := decide_eq_false hi
      subst hi3
      go_wp2
      first | go_end0 | ((try simp only [Exit.inBlock, Exit.then]); refine bodyPost_ret (results_tmp3 rfl _ _ _) rfl ?_)
      exact ⟨by rw [HBB.out.1, HBB.out.2]; rfl, HB.out⟩
theorem most_calls (f : Int) (w : World) (HIn : WithinC) (HF : FramesC) (HA : AfterC) :
    Calls Try.prog 10 #[.int .i64 f] w fun e w' => e = .returned (.tuple #[.int .i64 (mostV f).1, .int .i64 (mostV f).2.1, .bool (mostV f).2.2]) ∧ Below w.heap.size w w' := by
  by_cases h : 1 ≤ f ∧ f ≤ 10
  · have e : mostV f = (((bestV (fun t => cntP f.toNat 1 1 (t : Int)) 361).1 : Int), ((bestV (fun t => cntP f.toNat 1 1 (t : Int)) 361).2 : Int), true) := if_pos h
    rw [e]
    exact most_yes f w HIn HF HA h
  · have e : mostV f = (0, 0, false) := if_neg h
    rw [e]
    exact most_no f w HIn h
end Go.Proofs.Ytdioconinnpmmaa.Pin
