/- The first ball of a game: for every lane without a frame and every ball. -/
import Derived.Test.YtdioconinnpmmaaDoorLane0
set_option linter.unusedVariables false
set_option linter.unusedSimpArgs false
namespace Go.Proofs.YtdioconinnpmmaaDoor.Lane
open Go.RowKit Go.Proofs.YtdioconinnpmmaaDoorW.PrintWords Go.Proofs.YtdioconinnpmmaaDoorW.PrintLast
set_option maxRecDepth 100000 in
set_option maxHeartbeats 16000000 in
theorem roll_first (w : World) (base g F M : Nat) (own : Nat → Prop) (bg : List (List Int)) (fresh : Bool) (pins n : Int) (q : Bool)
    (h : LN w base own g (F : Int) bg pins fresh) (hF : 1 ≤ F) (hs : Few bg) (ha : allV F bg = false) (hb : bg.length = M) (N : Nat) (hN : N = M + 1) (r : List Int) (hr : r = []) (bgW : List (List Int)) (hbg : bgW = bg ++ [[]]) (hM : M = 0)
    (hm9 : M < 100) (n0 : 0 ≤ n) (n1 : n ≤ pins) (p1 : pins ≤ 10) (hF9 : F ≤ 10) (hq : decide ((M : Int) < (F : Int) - 1) = q) :
    Calls Tryd.prog 17 #[.pointer (some ⟨g, 0, none⟩), .int .i64 n] w fun e w' => e = .returned (.bool true) ∧
      ∃ own', LN w' base own' g F (bgW.set M (r ++ [n])) (endV F M (bgW.set M (r ++ [n])) (pins - n)).1 (endV F M (bgW.set M (r ++ [n])) (pins - n)).2 ∧ Went base own own' w w' := by
  have hbw : base ≤ w.heap.size := by
    obtain ⟨bv, vs, h1, h2, h3, h4, h5, h6, h7, h8⟩ := h
    exact Nat.le_trans h2 (Nat.le_of_lt (blk_lt h1))
  obtain ⟨c0, c2, c3, ⟨A0, cA, c1⟩, f0, ltg, _⟩ := h.cells
  rw [hb] at c1
  have f1 := f0 1
  obtain ⟨xs, hxs⟩ : ∃ xs, w.ownsRow base 22 1 (.slice A0 M cA) M xs := by
    obtain ⟨bv, vs, h1, h2, h3, h4, h5, h6, h7, h8⟩ := h
    have : bv = .slice A0 M cA := by
      have := c1
      simp [World.cell?, h1] at this
      exact this
    subst this
    rw [h6, hb] at h4
    exact ⟨vs, h4⟩
  have hxl : xs.length = M := by have := hxs.1; omega
  have HL := Aside0.mk hxl
  have HL3 : Aside0 ((xs ++ [Value.slice none 0 0]).length = N) := ⟨by simp; omega⟩
  have HOX : Aside0 (w.ownsRow base 22 1 (.slice A0 M cA) xs.length xs) := ⟨by rw [hxl]; exact hxs⟩
  have hgr : some g ≠ (Value.slice A0 M cA).ownBlock := h.apart1 c1
  have HX0 : Aside0 (∀ (v1 : Value) (w1 : World), w1.ownsRow base 22 1 v1 N (xs ++ [.slice none 0 0]) → Below base w w1 → w.grownBy w1 (Value.slice A0 M cA).ownBlock → (v1.ownBlock = (Value.slice A0 M cA).ownBlock ∨ ∃ b, v1.ownBlock = some b ∧ w.heap.size ≤ b) →
      ∃ own', LN (w1.setCell ⟨g, 1, none⟩ v1) base own' g F bgW pins fresh ∧ Went base own own' w (w1.setCell ⟨g, 1, none⟩ v1)) :=
    ⟨fun v1 w1 a1 a2 a3 a4 => by
      rw [hbg]
      exact h.more c1 (by rw [hb]; exact hxs) (by rw [hb, ← hN]; exact a1) a2 a3 a4⟩
  have hm0 : M < bgW.length := by rw [hbg, List.length_append, hb]; simp
  have hbW1 : bgW.length = N := by rw [hbg, List.length_append, hb, hN]; rfl
  have hrw : bgW[M] = r := by simp [hbg, hr, ← hb]
  have hr3 : r.length ≤ 3 := by rw [hr]; simp
  have ti : M < N := by omega
  have hN9 : N ≤ 100 := by omega
  have HH := Aside0.mk h
  have HS := Aside0.mk hs
  have hbM : Aside0 (N = M + 1) := ⟨hN⟩
  clear h hs f0 hxs hxl hr hbg hN
  have hwm : Aside0 (M = 0) := ⟨hM⟩
  have tm : wrap64 ((M : Int) - 1) = -1 := by unfold wrap64; omega
  have tm2 : wrap64 (-1 : Int) = -1 := by unfold wrap64; omega
  have tm3 : wrap64 (0 : Int) = (M : Int) := by unfold wrap64; omega
  clear hM
  have tF : wrap64 ((F : Int) - 1) = (F : Int) - 1 := by unfold wrap64; omega
  have hwA : ∀ x : Int, IntKind.i64.wrap x = wrap64 x := wrapK
  have hwd : decide (0 ≤ n ∧ n ≤ pins) = true := decide_eq_true ⟨n0, n1⟩
  go_enter Tryd.func17, Tryd.ntmps17
  go_wp2_with (first | (go_at_call 27; refine (all_calls HH.out hF HS.out).mono ?_; rintro e w' ⟨rfl, ⟨nd, rfl⟩⟩) | (go_at_call 14; refine (within_calls _ _ _ _).mono ?_; rintro e w' ⟨rfl, ⟨nd, rfl⟩⟩)
                      | (at_builtin; refine print_append (w0 := w) base rfl (.tmp 49) (.tmp 50) 35 22 (.slice none 0 0) 24 rfl Tryd.underlying35 infoI rfl (by decide) (.slice A0 M cA) xs (.slice none 0 0) rfl rfl rfl HOX.out (pw_below_drewN (Below.refl _ _) _) hbw (by rw [HL.out]; omega) ?_
                         intro v1 w1 hown hB hg hat
                         rw [HL3.out] at hown
                         obtain ⟨A3, cc3, rfl⟩ := own_slice1 hown
                         have cg1 : w1.cell? ⟨g, 1, none⟩ = some (.slice A0 M cA) := hg.cell c1 hgr
                         have fg1 : w1.frozen? ⟨g, 1, none⟩ = false := (hg.frozen_far ⟨g, 1, none⟩ ltg hgr).trans f1
                         have hX := Aside0.mk (HX0.out _ w1 hown hB ⟨hg.os, hg.tape, hg.output, hg.size, hg.block⟩ hat)
                         clear hown hB hg hat))
  obtain ⟨ownW, hLW, hWW⟩ := hX.out
  clear hX cg1 fg1 c0 c1 c2 c3 f1 hgr ltg HX0 HOX HL3 HL
  generalize w1.setCell ⟨g, 1, none⟩ (.slice A3 N cc3) = W at *
  have hbW : base ≤ W.heap.size := by
    obtain ⟨bv, vs, h1, h2, h3, h4, h5, h6, h7, h8⟩ := hLW
    exact Nat.le_trans h2 (Nat.le_of_lt (blk_lt h1))
  obtain ⟨B, cap, A, cc, k1, cr, fB, _⟩ := hLW.row M hm0
  obtain ⟨ho0, hgB, hng, hnB⟩ := hLW.apart hm0 k1 cr
  have HX : Aside0 (∀ (v1 : Value) (w1 : World), w1.ownsRow base 3 1 v1 (r.length + 1) (nums .i64 r ++ [.int .i64 n]) → Below base W w1 → W.grownBy w1 (Value.slice A r.length cc).ownBlock → (v1.ownBlock = (Value.slice A r.length cc).ownBlock ∨ ∃ b, v1.ownBlock = some b ∧ W.heap.size ≤ b) →
      ∃ own', LN (w1.setCell ⟨B, M, none⟩ v1) base own' g F (bgW.set M (r ++ [n])) pins fresh ∧ Went base own own' w (w1.setCell ⟨B, M, none⟩ v1)) :=
    ⟨fun v1 w1 a1 a2 a3 a4 => by
      obtain ⟨o, p1, p2⟩ := hLW.push hm0 k1 cr (by rw [hrw]; exact a1) a2 (by rw [hrw]; exact a3) (by rw [hrw]; exact a4)
      rw [hrw] at p1
      exact ⟨o, p1, hWW.trans p2⟩⟩
  rw [hbW1] at k1
  rw [hrw] at cr ho0 hng hnB
  have HO : Aside0 (W.ownsRow base 3 1 (.slice A r.length cc) r.length (nums .i64 r)) := ⟨ho0⟩
  have hrw' := Aside0.mk hrw
  clear ho0 hLW hWW hrw
  generalize hlen : r.length = len at *
  clear hlen
  have ltB : B < W.heap.size := World.block_lt_of_cell? W _ cr
  have ltg : g < W.heap.size := World.block_lt_of_cell? W _ k1
  have cA1 : ∀ (k : Nat) (o : Obj), ((W.drewN k).alloc o).cell? ⟨g, 1, none⟩ = some (.slice (some ⟨B, 0, none⟩) N cap) := fun k o => pw_cell_below (below_alloc (pw_below_drewN (Below.refl _ _) k) o) k1
  have cAr : ∀ (k : Nat) (o : Obj), ((W.drewN k).alloc o).cell? ⟨B, M, none⟩ = some (.slice A len cc) := fun k o => pw_cell_below (below_alloc (pw_below_drewN (Below.refl _ _) k) o) cr
  obtain ⟨jz, hjz⟩ : ∃ j : Nat, W = W.drewN j := ⟨0, rfl⟩
  rw [hjz]
  clear hjz
  cases q
  · apply wp_cut (X := fun w2 => ∃ own', LN w2 base own' g F (bgW.set M (r ++ [n])) pins fresh ∧ Went base own own' w w2)
    case h =>
      go_region_law (refine step_append_cells (w0 := W) base (by rfl) (.tmp 67) (.tmp 69) 22 3 (.int .i64 0) 1 8 rfl Tryd.underlying22 info3 rfl (by decide) (by decide) (.slice A len cc) len (nums .i64 r) [.int .i64 n] (by simp [Act.eval, Act.put]) (by simp [Act.eval, Act.put]) rfl (by simp [Value.oneCell']) HO.out (by first | exact pw_below_drewN (Below.refl _ _) _ | exact below_drew (Below.refl _ _)) hbW (by omega) ?_
                     intro v1 w1 hown hB hg hat
                     obtain ⟨A1, cc1, rfl⟩ := own_slice1 hown
                     have cB1 : w1.cell? ⟨B, M, none⟩ = some (.slice A len cc) := hg.cell cr hnB
                     have fB1 : w1.frozen? ⟨B, M, none⟩ = false := (hg.frozen_far ⟨B, M, none⟩ ltB hnB).trans fB
                     have cg1 : w1.cell? ⟨g, 1, none⟩ = some (.slice (some ⟨B, 0, none⟩) N cap) := hg.cell k1 hng
                     have hX := Aside0.mk (HX.out _ w1 hown hB ⟨hg.os, hg.tape, hg.output, hg.size, hg.block⟩ hat)
                     clear hown hB hg hat)
      all_goals (try simp only [Act.put, List.setIfInBounds_toArray, List.set_cons_zero, List.set_cons_succ])
      all_goals exact ⟨A1, cc1, rfl, hX.out⟩
    case k =>
      rintro A1 cc1 w2 ⟨own2, HL, HW⟩
      have HL' := Aside0.mk HL
      have HW' := Aside0.mk HW
      obtain ⟨d0, d2, d3, _, e0, _, _⟩ := HL.cells
      have e2 := e0 2
      have e3 := e0 3
      have hml : M < (bgW.set M (r ++ [n])).length := by rw [List.length_set]; exact hm0
      obtain ⟨B2, cap2, A2, cc2, d1, dr, _, dR⟩ := HL.row M hml
      have hgB2 := (HL.apart hml d1 dr).2.1
      have hrow : (bgW.set M (r ++ [n]))[M] = r ++ [n] := by simp
      have hgd : (bgW.set M (r ++ [n])).getD M [] = r ++ [n] := by rw [List.getD_eq_getElem?_getD, List.getElem?_eq_getElem hml, hrow]; rfl
      have LT := LN.putW HL HW (pins - n) false
      have HD2 : Aside0 (Calls Tryd.prog 28 #[.pointer (some ⟨g, 0, none⟩), .slice A2 (r ++ [n]).length cc2] ((w2.setCell ⟨g, 2, none⟩ (.int .i64 (pins - n))).setCell ⟨g, 3, none⟩ (.bool false)) fun e w' => e = .returned (.bool (doneV (r ++ [n]))) ∧ Drawn0 ((w2.setCell ⟨g, 2, none⟩ (.int .i64 (pins - n))).setCell ⟨g, 3, none⟩ (.bool false)) w') := ⟨by
        refine done_calls _ _ _ _ (by simp) ?_
        obtain ⟨B3, cap3, A3, cc3, x1, x2, _, x4⟩ := LT.1.row M hml
        have y1 : ((w2.setCell ⟨g, 2, none⟩ (.int .i64 (pins - n))).setCell ⟨g, 3, none⟩ (.bool false)).cell? ⟨g, 1, none⟩ = w2.cell? ⟨g, 1, none⟩ := by
          rw [World.cell?_setCell_other _ _ _ _ (by simp), World.cell?_setCell_other _ _ _ _ (by simp)]
        rw [y1, d1] at x1
        simp only [Option.some.injEq, Value.slice.injEq, Addr.mk.injEq, and_true, true_and] at x1
        obtain ⟨rfl, _⟩ := x1
        have y2 : ((w2.setCell ⟨g, 2, none⟩ (.int .i64 (pins - n))).setCell ⟨g, 3, none⟩ (.bool false)).cell? ⟨B2, M, none⟩ = w2.cell? ⟨B2, M, none⟩ := by
          rw [World.cell?_setCell_far _ _ _ _ (by simp [hgB2]), World.cell?_setCell_far _ _ _ _ (by simp [hgB2])]
        rw [y2, dr] at x2
        simp only [Option.some.injEq, Value.slice.injEq, true_and] at x2
        obtain ⟨rfl, _⟩ := x2
        intro j hj
        have := x4 j (by rw [hrow]; exact hj)
        simpa only [hrow] using this⟩
      have LT' := Aside0.mk LT
      have hw3 : wrap64 (pins - n) = pins - n := by unfold wrap64; omega
      rw [hrow] at dr
      obtain ⟨len2, hl2⟩ : ∃ x, x = (r ++ [n]).length := ⟨_, rfl⟩
      rw [← hl2] at dr HD2
      clear hl2
      have hl1 : (bgW.set M (r ++ [n])).length = N := by rw [List.length_set]; exact hbW1
      rw [hl1] at d1
      have HG := Aside0.mk hgd
      clear HL HW e0 dR LT hgd hrow hml hl1
      go_wp2_with (go_at_call 28; refine HD2.out.mono ?_; rintro e w' ⟨rfl, ⟨nd, rfl⟩⟩)
      all_goals go_ret
      all_goals refine ⟨rfl, own2, ?_⟩
      all_goals first
        | (rename_i hz
           have hz' : (endV F M (bgW.set M (r ++ [n])) (pins - n)) = (10, true) := by
             unfold endV
             rw [if_pos (Or.inl (by with_reducible exact hz))]
           rw [hz']
           rw [hz] at LT'
           with_reducible exact LN.putW LT'.out.1 LT'.out.2 10 true)
        | (rename_i hy hz
           have hz' : (endV F M (bgW.set M (r ++ [n])) (pins - n)) = (10, true) := by
             unfold endV
             rw [HG.out, if_pos (by
               rcases hz with h | h
               · exact .inl (by simpa using h)
               · exact .inr ⟨of_decide_eq_true hq, h⟩)]
           rw [hz']
           first
             | with_reducible exact LN.putW LT'.out.1 LT'.out.2 10 true
             | with_reducible exact LN.putW (LT'.out.1.drawnN _) (LT'.out.2.drawnN _) 10 true)
        | (rename_i hz
           have hz' : (endV F M (bgW.set M (r ++ [n])) (pins - n)) = (pins - n, false) := by
             unfold endV
             rw [if_neg (by
               rintro (h | ⟨h1, _⟩)
               · exact absurd h (by simpa using hz)
               · exact absurd h1 (of_decide_eq_false hq))]
           rw [hz']
           with_reducible exact LT'.out)
        | (rename_i hy hz
           have hz' : (endV F M (bgW.set M (r ++ [n])) (pins - n)) = (pins - n, false) := by
             unfold endV
             rw [HG.out, if_neg (by
               rintro (h | ⟨_, h2⟩)
               · exact hy h
               · simp [h2] at hz)]
           rw [hz']
           first
             | with_reducible exact LT'.out
             | with_reducible exact ⟨LT'.out.1.drawnN _, LT'.out.2.drawnN _⟩)
  · apply wp_cut (X := fun w2 => ∃ own', LN w2 base own' g F (bgW.set M (r ++ [n])) pins fresh ∧ Went base own own' w w2)
    case h =>
      go_region_law (refine step_append_cells (w0 := W) base (by rfl) (.tmp 67) (.tmp 69) 22 3 (.int .i64 0) 1 8 rfl Tryd.underlying22 info3 rfl (by decide) (by decide) (.slice A len cc) len (nums .i64 r) [.int .i64 n] (by simp [Act.eval, Act.put]) (by simp [Act.eval, Act.put]) rfl (by simp [Value.oneCell']) HO.out (by first | exact pw_below_drewN (Below.refl _ _) _ | exact below_drew (Below.refl _ _)) hbW (by omega) ?_
                     intro v1 w1 hown hB hg hat
                     obtain ⟨A1, cc1, rfl⟩ := own_slice1 hown
                     have cB1 : w1.cell? ⟨B, M, none⟩ = some (.slice A len cc) := hg.cell cr hnB
                     have fB1 : w1.frozen? ⟨B, M, none⟩ = false := (hg.frozen_far ⟨B, M, none⟩ ltB hnB).trans fB
                     have cg1 : w1.cell? ⟨g, 1, none⟩ = some (.slice (some ⟨B, 0, none⟩) N cap) := hg.cell k1 hng
                     have hX := Aside0.mk (HX.out _ w1 hown hB ⟨hg.os, hg.tape, hg.output, hg.size, hg.block⟩ hat)
                     clear hown hB hg hat)
      all_goals (try simp only [Act.put, List.setIfInBounds_toArray, List.set_cons_zero, List.set_cons_succ])
      all_goals exact ⟨A1, cc1, rfl, hX.out⟩
    case k =>
      rintro A1 cc1 w2 ⟨own2, HL, HW⟩
      have HL' := Aside0.mk HL
      have HW' := Aside0.mk HW
      obtain ⟨d0, d2, d3, _, e0, _, _⟩ := HL.cells
      have e2 := e0 2
      have e3 := e0 3
      have hml : M < (bgW.set M (r ++ [n])).length := by rw [List.length_set]; exact hm0
      obtain ⟨B2, cap2, A2, cc2, d1, dr, _, dR⟩ := HL.row M hml
      have hgB2 := (HL.apart hml d1 dr).2.1
      have hrow : (bgW.set M (r ++ [n]))[M] = r ++ [n] := by simp
      have hgd : (bgW.set M (r ++ [n])).getD M [] = r ++ [n] := by rw [List.getD_eq_getElem?_getD, List.getElem?_eq_getElem hml, hrow]; rfl
      have LT := LN.putW HL HW (pins - n) false
      have HD2 : Aside0 (Calls Tryd.prog 28 #[.pointer (some ⟨g, 0, none⟩), .slice A2 (r ++ [n]).length cc2] ((w2.setCell ⟨g, 2, none⟩ (.int .i64 (pins - n))).setCell ⟨g, 3, none⟩ (.bool false)) fun e w' => e = .returned (.bool (doneV (r ++ [n]))) ∧ Drawn0 ((w2.setCell ⟨g, 2, none⟩ (.int .i64 (pins - n))).setCell ⟨g, 3, none⟩ (.bool false)) w') := ⟨by
        refine done_calls _ _ _ _ (by simp) ?_
        obtain ⟨B3, cap3, A3, cc3, x1, x2, _, x4⟩ := LT.1.row M hml
        have y1 : ((w2.setCell ⟨g, 2, none⟩ (.int .i64 (pins - n))).setCell ⟨g, 3, none⟩ (.bool false)).cell? ⟨g, 1, none⟩ = w2.cell? ⟨g, 1, none⟩ := by
          rw [World.cell?_setCell_other _ _ _ _ (by simp), World.cell?_setCell_other _ _ _ _ (by simp)]
        rw [y1, d1] at x1
        simp only [Option.some.injEq, Value.slice.injEq, Addr.mk.injEq, and_true, true_and] at x1
        obtain ⟨rfl, _⟩ := x1
        have y2 : ((w2.setCell ⟨g, 2, none⟩ (.int .i64 (pins - n))).setCell ⟨g, 3, none⟩ (.bool false)).cell? ⟨B2, M, none⟩ = w2.cell? ⟨B2, M, none⟩ := by
          rw [World.cell?_setCell_far _ _ _ _ (by simp [hgB2]), World.cell?_setCell_far _ _ _ _ (by simp [hgB2])]
        rw [y2, dr] at x2
        simp only [Option.some.injEq, Value.slice.injEq, true_and] at x2
        obtain ⟨rfl, _⟩ := x2
        intro j hj
        have := x4 j (by rw [hrow]; exact hj)
        simpa only [hrow] using this⟩
      have LT' := Aside0.mk LT
      have hw3 : wrap64 (pins - n) = pins - n := by unfold wrap64; omega
      rw [hrow] at dr
      obtain ⟨len2, hl2⟩ : ∃ x, x = (r ++ [n]).length := ⟨_, rfl⟩
      rw [← hl2] at dr HD2
      clear hl2
      have hl1 : (bgW.set M (r ++ [n])).length = N := by rw [List.length_set]; exact hbW1
      rw [hl1] at d1
      have HG := Aside0.mk hgd
      clear HL HW e0 dR LT hgd hrow hml hl1
      go_wp2_with (go_at_call 28; refine HD2.out.mono ?_; rintro e w' ⟨rfl, ⟨nd, rfl⟩⟩)
      all_goals go_ret
      all_goals refine ⟨rfl, own2, ?_⟩
      all_goals first
        | (rename_i hz
           have hz' : (endV F M (bgW.set M (r ++ [n])) (pins - n)) = (10, true) := by
             unfold endV
             rw [if_pos (Or.inl (by with_reducible exact hz))]
           rw [hz']
           rw [hz] at LT'
           with_reducible exact LN.putW LT'.out.1 LT'.out.2 10 true)
        | (rename_i hy hz
           have hz' : (endV F M (bgW.set M (r ++ [n])) (pins - n)) = (10, true) := by
             unfold endV
             rw [HG.out, if_pos (by
               rcases hz with h | h
               · exact .inl (by simpa using h)
               · exact .inr ⟨of_decide_eq_true hq, h⟩)]
           rw [hz']
           first
             | with_reducible exact LN.putW LT'.out.1 LT'.out.2 10 true
             | with_reducible exact LN.putW (LT'.out.1.drawnN _) (LT'.out.2.drawnN _) 10 true)
        | (rename_i hz
           have hz' : (endV F M (bgW.set M (r ++ [n])) (pins - n)) = (pins - n, false) := by
             unfold endV
             rw [if_neg (by
               rintro (h | ⟨h1, _⟩)
               · exact absurd h (by simpa using hz)
               · exact absurd h1 (of_decide_eq_false hq))]
           rw [hz']
           with_reducible exact LT'.out)
        | (rename_i hy hz
           have hz' : (endV F M (bgW.set M (r ++ [n])) (pins - n)) = (pins - n, false) := by
             unfold endV
             rw [HG.out, if_neg (by
               rintro (h | ⟨_, h2⟩)
               · exact hy h
               · simp [h2] at hz)]
           rw [hz']
           first
             | with_reducible exact LT'.out
             | with_reducible exact ⟨LT'.out.1.drawnN _, LT'.out.2.drawnN _⟩)
end Go.Proofs.YtdioconinnpmmaaDoor.Lane
