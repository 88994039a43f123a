/- A ball that falls in a frame that has begun: for every lane and every ball. -/
import Derived.Test.YtdioconinnpmmaaDoorLane0
set_option linter.unusedVariables false
set_option linter.unusedSimpArgs false
namespace Go.Proofs.YtdioconinnpmmaaDoor.Lane
open Go.RowKit Go.Proofs.YtdioconinnpmmaaDoorW.PrintWords Go.Proofs.YtdioconinnpmmaaDoorW.PrintLast
set_option maxRecDepth 100000 in
set_option maxHeartbeats 16000000 in
theorem roll_old (w : World) (base g F M : Nat) (own : Nat → Prop) (bg : List (List Int)) (fresh : Bool) (pins n : Int) (q : Bool)
    (h : LN w base own g (F : Int) bg pins fresh) (hF : 1 ≤ F) (hs : Few bg) (ha : allV F bg = false) (hb : bg.length = M) (m : Nat) (hm : M = m + 1) (hm0 : m < bg.length) (hd : q = true → doneV bg[m] = false)
    (hm9 : M < 100) (n0 : 0 ≤ n) (n1 : n ≤ pins) (p1 : pins ≤ 10) (hF9 : F ≤ 10) (hq : decide ((m : Int) < (F : Int) - 1) = q) :
    Calls Tryd.prog 17 #[.pointer (some ⟨g, 0, none⟩), .int .i64 n] w fun e w' => e = .returned (.bool true) ∧
      ∃ own', LN w' base own' g F (bg.set m (bg[m] ++ [n])) (endV F m (bg.set m (bg[m] ++ [n])) (pins - n)).1 (endV F m (bg.set m (bg[m] ++ [n])) (pins - n)).2 ∧ Went base own own' w w' := by
  have hbw : base ≤ w.heap.size := by
    obtain ⟨bv, vs, h1, h2, h3, h4, h5, h6, h7, h8⟩ := h
    exact Nat.le_trans h2 (Nat.le_of_lt (blk_lt h1))
  have hbW := hbw
  have hbW1 := hb
  obtain ⟨B, cap, A, cc, k1, cr, fB, dR0⟩ := h.row m hm0
  obtain ⟨ho0, hgB, hng, hnB⟩ := h.apart hm0 k1 cr
  obtain ⟨c0, c2, c3, _, f0, ltg, _⟩ := h.cells
  have f2 := f0 2
  have f3 := f0 3
  have hr3 := (hs bg[m] (List.getElem_mem _)).2.1
  have hne := (hs bg[m] (List.getElem_mem _)).1
  have HX : Aside0 (∀ (v1 : Value) (w1 : World), w1.ownsRow base 3 1 v1 (bg[m].length + 1) (nums .i64 bg[m] ++ [.int .i64 n]) → Below base w w1 → w.grownBy w1 (Value.slice A bg[m].length cc).ownBlock → (v1.ownBlock = (Value.slice A bg[m].length cc).ownBlock ∨ ∃ b, v1.ownBlock = some b ∧ w.heap.size ≤ b) →
      ∃ own', LN (w1.setCell ⟨B, m, none⟩ v1) base own' g F (bg.set m (bg[m] ++ [n])) pins fresh ∧ Went base own own' w (w1.setCell ⟨B, m, none⟩ v1)) :=
    ⟨fun v1 w1 a1 a2 a3 a4 => h.push hm0 k1 cr a1 a2 a3 a4⟩
  rw [hb] at k1
  have HD : Aside0 (q = true → ∀ k : Nat, Calls Tryd.prog 28 #[.pointer (some ⟨g, 0, none⟩), .slice A bg[m].length cc] (w.drewN k) fun e w' => e = .returned (.bool false) ∧ Drawn0 (w.drewN k) w') := ⟨fun e k => by
    have := done_calls (w := w.drewN k) (some ⟨g, 0, none⟩) A cc bg[m] hne dR0
    rwa [hd e] at this⟩
  have HO : Aside0 (w.ownsRow base 3 1 (.slice A bg[m].length cc) bg[m].length (nums .i64 bg[m])) := ⟨ho0⟩
  have HH := Aside0.mk h
  have HS := Aside0.mk hs
  have hmx := Aside0.mk hm
  clear h hs f0 dR0 ho0 hd hne
  generalize hlen : bg[m].length = len at *
  clear hlen
  have tm : wrap64 ((M : Int) - 1) = (m : Int) := by unfold wrap64; omega
  have tF : wrap64 ((F : Int) - 1) = (F : Int) - 1 := by unfold wrap64; omega
  have tk : ((m : Int)).toNat = m := by omega
  have ti : m < M := by omega
  clear hm
  have t0 : decide ((m : Int) < 0) = false := decide_eq_false (by omega)
  have hwA : ∀ x : Int, IntKind.i64.wrap x = wrap64 x := wrapK
  have hwd : decide (0 ≤ n ∧ n ≤ pins) = true := decide_eq_true ⟨n0, n1⟩
  have ltB : B < w.heap.size := World.block_lt_of_cell? w _ cr
  have cA1 : ∀ (k : Nat) (o : Obj), ((w.drewN k).alloc o).cell? ⟨g, 1, none⟩ = some (.slice (some ⟨B, 0, none⟩) M cap) := fun k o => pw_cell_below (below_alloc (pw_below_drewN (Below.refl _ _) k) o) k1
  have cAr : ∀ (k : Nat) (o : Obj), ((w.drewN k).alloc o).cell? ⟨B, m, none⟩ = some (.slice A len cc) := fun k o => pw_cell_below (below_alloc (pw_below_drewN (Below.refl _ _) k) o) cr
  cases q
  · clear HD
    go_enter Tryd.func17, Tryd.ntmps17
    go_wp2_with (first | (go_at_call 27; refine (all_calls HH.out hF HS.out).mono ?_; rintro e w' ⟨rfl, ⟨nd, rfl⟩⟩) | (go_at_call 14; refine (within_calls _ _ _ _).mono ?_; rintro e w' ⟨rfl, ⟨nd, rfl⟩⟩))
    apply wp_cut (X := fun w2 => ∃ own', LN w2 base own' g F (bg.set m (bg[m] ++ [n])) pins fresh ∧ Went base own own' w w2)
    case h =>
      go_region_law (refine step_append_cells (w0 := w) base (by rfl) (.tmp 67) (.tmp 69) 22 3 (.int .i64 0) 1 8 rfl Tryd.underlying22 info3 rfl (by decide) (by decide) (.slice A len cc) len (nums .i64 bg[m]) [.int .i64 n] (by simp [Act.eval, Act.put]) (by simp [Act.eval, Act.put]) rfl (by simp [Value.oneCell']) HO.out (by first | exact pw_below_drewN (Below.refl _ _) _ | exact below_drew (Below.refl _ _)) hbW (by omega) ?_
                     intro v1 w1 hown hB hg hat
                     obtain ⟨A1, cc1, rfl⟩ := own_slice1 hown
                     have cB1 : w1.cell? ⟨B, m, none⟩ = some (.slice A len cc) := hg.cell cr hnB
                     have fB1 : w1.frozen? ⟨B, m, none⟩ = false := (hg.frozen_far ⟨B, m, none⟩ ltB hnB).trans fB
                     have cg1 : w1.cell? ⟨g, 1, none⟩ = some (.slice (some ⟨B, 0, none⟩) M cap) := hg.cell k1 hng
                     have hX := Aside0.mk (HX.out _ w1 hown hB ⟨hg.os, hg.tape, hg.output, hg.size, hg.block⟩ hat)
                     clear hown hB hg hat)
      all_goals (try simp only [Act.put, List.setIfInBounds_toArray, List.set_cons_zero, List.set_cons_succ])
      all_goals exact ⟨A1, cc1, rfl, hX.out⟩
    case k =>
      rintro A1 cc1 w2 ⟨own2, HL, HW⟩
      have HL' := Aside0.mk HL
      have HW' := Aside0.mk HW
      obtain ⟨d0, d2, d3, _, e0, _, _⟩ := HL.cells
      have e2 := e0 2
      have e3 := e0 3
      have hml : m < (bg.set m (bg[m] ++ [n])).length := by rw [List.length_set]; exact hm0
      obtain ⟨B2, cap2, A2, cc2, d1, dr, _, dR⟩ := HL.row m hml
      have hgB2 := (HL.apart hml d1 dr).2.1
      have hrow : (bg.set m (bg[m] ++ [n]))[m] = bg[m] ++ [n] := by simp
      have hgd : (bg.set m (bg[m] ++ [n])).getD m [] = bg[m] ++ [n] := by rw [List.getD_eq_getElem?_getD, List.getElem?_eq_getElem hml, hrow]; rfl
      have LT := LN.putW HL HW (pins - n) false
      have HD2 : Aside0 (Calls Tryd.prog 28 #[.pointer (some ⟨g, 0, none⟩), .slice A2 (bg[m] ++ [n]).length cc2] ((w2.setCell ⟨g, 2, none⟩ (.int .i64 (pins - n))).setCell ⟨g, 3, none⟩ (.bool false)) fun e w' => e = .returned (.bool (doneV (bg[m] ++ [n]))) ∧ Drawn0 ((w2.setCell ⟨g, 2, none⟩ (.int .i64 (pins - n))).setCell ⟨g, 3, none⟩ (.bool false)) w') := ⟨by
        refine done_calls _ _ _ _ (by simp) ?_
        obtain ⟨B3, cap3, A3, cc3, x1, x2, _, x4⟩ := LT.1.row m hml
        have y1 : ((w2.setCell ⟨g, 2, none⟩ (.int .i64 (pins - n))).setCell ⟨g, 3, none⟩ (.bool false)).cell? ⟨g, 1, none⟩ = w2.cell? ⟨g, 1, none⟩ := by
          rw [World.cell?_setCell_other _ _ _ _ (by simp), World.cell?_setCell_other _ _ _ _ (by simp)]
        rw [y1, d1] at x1
        simp only [Option.some.injEq, Value.slice.injEq, Addr.mk.injEq, and_true, true_and] at x1
        obtain ⟨rfl, _⟩ := x1
        have y2 : ((w2.setCell ⟨g, 2, none⟩ (.int .i64 (pins - n))).setCell ⟨g, 3, none⟩ (.bool false)).cell? ⟨B2, m, none⟩ = w2.cell? ⟨B2, m, none⟩ := by
          rw [World.cell?_setCell_far _ _ _ _ (by simp [hgB2]), World.cell?_setCell_far _ _ _ _ (by simp [hgB2])]
        rw [y2, dr] at x2
        simp only [Option.some.injEq, Value.slice.injEq, true_and] at x2
        obtain ⟨rfl, _⟩ := x2
        intro j hj
        have := x4 j (by rw [hrow]; exact hj)
        simpa only [hrow] using this⟩
      have LT' := Aside0.mk LT
      have hw3 : wrap64 (pins - n) = pins - n := by unfold wrap64; omega
      rw [hrow] at dr
      obtain ⟨len2, hl2⟩ : ∃ x, x = (bg[m] ++ [n]).length := ⟨_, rfl⟩
      rw [← hl2] at dr HD2
      clear hl2
      have hl1 : (bg.set m (bg[m] ++ [n])).length = M := by rw [List.length_set]; exact hbW1
      rw [hl1] at d1
      have HG := Aside0.mk hgd
      clear HL HW e0 dR LT hgd hrow hml hl1
      go_wp2_with (go_at_call 28; refine HD2.out.mono ?_; rintro e w' ⟨rfl, ⟨nd, rfl⟩⟩)
      all_goals go_ret
      all_goals refine ⟨rfl, own2, ?_⟩
      all_goals first
        | (rename_i hz
           have hz' : (endV F m (bg.set m (bg[m] ++ [n])) (pins - n)) = (10, true) := by
             unfold endV
             rw [if_pos (Or.inl (by with_reducible exact hz))]
           rw [hz']
           rw [hz] at LT'
           with_reducible exact LN.putW LT'.out.1 LT'.out.2 10 true)
        | (rename_i hy hz
           have hz' : (endV F m (bg.set m (bg[m] ++ [n])) (pins - n)) = (10, true) := by
             unfold endV
             rw [HG.out, if_pos (by
               rcases hz with h | h
               · exact .inl (by simpa using h)
               · exact .inr ⟨of_decide_eq_true hq, h⟩)]
           rw [hz']
           first
             | with_reducible exact LN.putW LT'.out.1 LT'.out.2 10 true
             | with_reducible exact LN.putW (LT'.out.1.drawnN _) (LT'.out.2.drawnN _) 10 true)
        | (rename_i hz
           have hz' : (endV F m (bg.set m (bg[m] ++ [n])) (pins - n)) = (pins - n, false) := by
             unfold endV
             rw [if_neg (by
               rintro (h | ⟨h1, _⟩)
               · exact absurd h (by simpa using hz)
               · exact absurd h1 (of_decide_eq_false hq))]
           rw [hz']
           with_reducible exact LT'.out)
        | (rename_i hy hz
           have hz' : (endV F m (bg.set m (bg[m] ++ [n])) (pins - n)) = (pins - n, false) := by
             unfold endV
             rw [HG.out, if_neg (by
               rintro (h | ⟨_, h2⟩)
               · exact hy h
               · simp [h2] at hz)]
           rw [hz']
           first
             | with_reducible exact LT'.out
             | with_reducible exact ⟨LT'.out.1.drawnN _, LT'.out.2.drawnN _⟩)
  · replace HD := Aside0.mk (HD.out rfl)
    go_enter Tryd.func17, Tryd.ntmps17
    go_wp2_with (first | (go_at_call 27; refine (all_calls HH.out hF HS.out).mono ?_; rintro e w' ⟨rfl, ⟨nd, rfl⟩⟩) | (go_at_call 14; refine (within_calls _ _ _ _).mono ?_; rintro e w' ⟨rfl, ⟨nd, rfl⟩⟩) | (go_at_call 28; refine (HD.out _).mono ?_; rintro e w' ⟨rfl, ⟨nd, rfl⟩⟩))
    apply wp_cut (X := fun w2 => ∃ own', LN w2 base own' g F (bg.set m (bg[m] ++ [n])) pins fresh ∧ Went base own own' w w2)
    case h =>
      go_region_law (refine step_append_cells (w0 := w) base (by rfl) (.tmp 67) (.tmp 69) 22 3 (.int .i64 0) 1 8 rfl Tryd.underlying22 info3 rfl (by decide) (by decide) (.slice A len cc) len (nums .i64 bg[m]) [.int .i64 n] (by simp [Act.eval, Act.put]) (by simp [Act.eval, Act.put]) rfl (by simp [Value.oneCell']) HO.out (by first | exact pw_below_drewN (Below.refl _ _) _ | exact below_drew (Below.refl _ _)) hbW (by omega) ?_
                     intro v1 w1 hown hB hg hat
                     obtain ⟨A1, cc1, rfl⟩ := own_slice1 hown
                     have cB1 : w1.cell? ⟨B, m, none⟩ = some (.slice A len cc) := hg.cell cr hnB
                     have fB1 : w1.frozen? ⟨B, m, none⟩ = false := (hg.frozen_far ⟨B, m, none⟩ ltB hnB).trans fB
                     have cg1 : w1.cell? ⟨g, 1, none⟩ = some (.slice (some ⟨B, 0, none⟩) M cap) := hg.cell k1 hng
                     have hX := Aside0.mk (HX.out _ w1 hown hB ⟨hg.os, hg.tape, hg.output, hg.size, hg.block⟩ hat)
                     clear hown hB hg hat)
      all_goals (try simp only [Act.put, List.setIfInBounds_toArray, List.set_cons_zero, List.set_cons_succ])
      all_goals exact ⟨A1, cc1, rfl, hX.out⟩
    case k =>
      rintro A1 cc1 w2 ⟨own2, HL, HW⟩
      have HL' := Aside0.mk HL
      have HW' := Aside0.mk HW
      obtain ⟨d0, d2, d3, _, e0, _, _⟩ := HL.cells
      have e2 := e0 2
      have e3 := e0 3
      have hml : m < (bg.set m (bg[m] ++ [n])).length := by rw [List.length_set]; exact hm0
      obtain ⟨B2, cap2, A2, cc2, d1, dr, _, dR⟩ := HL.row m hml
      have hgB2 := (HL.apart hml d1 dr).2.1
      have hrow : (bg.set m (bg[m] ++ [n]))[m] = bg[m] ++ [n] := by simp
      have hgd : (bg.set m (bg[m] ++ [n])).getD m [] = bg[m] ++ [n] := by rw [List.getD_eq_getElem?_getD, List.getElem?_eq_getElem hml, hrow]; rfl
      have LT := LN.putW HL HW (pins - n) false
      have HD2 : Aside0 (Calls Tryd.prog 28 #[.pointer (some ⟨g, 0, none⟩), .slice A2 (bg[m] ++ [n]).length cc2] ((w2.setCell ⟨g, 2, none⟩ (.int .i64 (pins - n))).setCell ⟨g, 3, none⟩ (.bool false)) fun e w' => e = .returned (.bool (doneV (bg[m] ++ [n]))) ∧ Drawn0 ((w2.setCell ⟨g, 2, none⟩ (.int .i64 (pins - n))).setCell ⟨g, 3, none⟩ (.bool false)) w') := ⟨by
        refine done_calls _ _ _ _ (by simp) ?_
        obtain ⟨B3, cap3, A3, cc3, x1, x2, _, x4⟩ := LT.1.row m hml
        have y1 : ((w2.setCell ⟨g, 2, none⟩ (.int .i64 (pins - n))).setCell ⟨g, 3, none⟩ (.bool false)).cell? ⟨g, 1, none⟩ = w2.cell? ⟨g, 1, none⟩ := by
          rw [World.cell?_setCell_other _ _ _ _ (by simp), World.cell?_setCell_other _ _ _ _ (by simp)]
        rw [y1, d1] at x1
        simp only [Option.some.injEq, Value.slice.injEq, Addr.mk.injEq, and_true, true_and] at x1
        obtain ⟨rfl, _⟩ := x1
        have y2 : ((w2.setCell ⟨g, 2, none⟩ (.int .i64 (pins - n))).setCell ⟨g, 3, none⟩ (.bool false)).cell? ⟨B2, m, none⟩ = w2.cell? ⟨B2, m, none⟩ := by
          rw [World.cell?_setCell_far _ _ _ _ (by simp [hgB2]), World.cell?_setCell_far _ _ _ _ (by simp [hgB2])]
        rw [y2, dr] at x2
        simp only [Option.some.injEq, Value.slice.injEq, true_and] at x2
        obtain ⟨rfl, _⟩ := x2
        intro j hj
        have := x4 j (by rw [hrow]; exact hj)
        simpa only [hrow] using this⟩
      have LT' := Aside0.mk LT
      have hw3 : wrap64 (pins - n) = pins - n := by unfold wrap64; omega
      rw [hrow] at dr
      obtain ⟨len2, hl2⟩ : ∃ x, x = (bg[m] ++ [n]).length := ⟨_, rfl⟩
      rw [← hl2] at dr HD2
      clear hl2
      have hl1 : (bg.set m (bg[m] ++ [n])).length = M := by rw [List.length_set]; exact hbW1
      rw [hl1] at d1
      have HG := Aside0.mk hgd
      clear HL HW e0 dR LT hgd hrow hml hl1
      go_wp2_with (go_at_call 28; refine HD2.out.mono ?_; rintro e w' ⟨rfl, ⟨nd, rfl⟩⟩)
      all_goals go_ret
      all_goals refine ⟨rfl, own2, ?_⟩
      all_goals first
        | (rename_i hz
           have hz' : (endV F m (bg.set m (bg[m] ++ [n])) (pins - n)) = (10, true) := by
             unfold endV
             rw [if_pos (Or.inl (by with_reducible exact hz))]
           rw [hz']
           rw [hz] at LT'
           with_reducible exact LN.putW LT'.out.1 LT'.out.2 10 true)
        | (rename_i hy hz
           have hz' : (endV F m (bg.set m (bg[m] ++ [n])) (pins - n)) = (10, true) := by
             unfold endV
             rw [HG.out, if_pos (by
               rcases hz with h | h
               · exact .inl (by simpa using h)
               · exact .inr ⟨of_decide_eq_true hq, h⟩)]
           rw [hz']
           first
             | with_reducible exact LN.putW LT'.out.1 LT'.out.2 10 true
             | with_reducible exact LN.putW (LT'.out.1.drawnN _) (LT'.out.2.drawnN _) 10 true)
        | (rename_i hz
           have hz' : (endV F m (bg.set m (bg[m] ++ [n])) (pins - n)) = (pins - n, false) := by
             unfold endV
             rw [if_neg (by
               rintro (h | ⟨h1, _⟩)
               · exact absurd h (by simpa using hz)
               · exact absurd h1 (of_decide_eq_false hq))]
           rw [hz']
           with_reducible exact LT'.out)
        | (rename_i hy hz
           have hz' : (endV F m (bg.set m (bg[m] ++ [n])) (pins - n)) = (pins - n, false) := by
             unfold endV
             rw [HG.out, if_neg (by
               rintro (h | ⟨_, h2⟩)
               · exact hy h
               · simp [h2] at hz)]
           rw [hz']
           first
             | with_reducible exact LT'.out
             | with_reducible exact ⟨LT'.out.1.drawnN _, LT'.out.2.drawnN _⟩)
end Go.Proofs.YtdioconinnpmmaaDoor.Lane
