/- Walks of the functions that the law reaches: each comes to just what the function that is told of it tells, for all arguments. -/
import Derived.Test.YtcmlmjgoidpabaaGreatDoorZMFnFramesPottedx0
import Derived.Test.YtcmlmjgoidpabaaGreatDoorZMFnFramesPottedx2
import Derived.Test.YtcmlmjgoidpabaaGreatDoorZMFnFramesPottedx9
import Derived.Test.YtcmlmjgoidpabaaGreatDoorZMFnFramesPottedx13
namespace Go.Proofs.YtcmlmjgoidpabaaGreatDoor.MFnFramesPotted
open Go.RowKit Go.Proofs.YtcmlmjgoidpabaaGreatDoorW.PrintWords Go.Proofs.YtcmlmjgoidpabaaGreatDoorW.PrintLast Go.Proofs.YtcmlmjgoidpabaaGreatDoorW.PrintMore
attribute [local go_sem] max2_int min2_int max_two min_two max_three min_three max_four min_four
set_option linter.unusedVariables false
set_option linter.unusedSimpArgs false
def spec_frParse.f (k : Nat) (a0 : ByteArray) : Option (Int × Bool × Int × Bool) := (spec_l1In.f (a0.size : Int) 3 4).bind fun t433 => (if t433 = true then (if 0 ≤ (wrap64 ((a0.size : Int) - 2)) then (if (wrap64 ((a0.size : Int) - 2)) ≤ (a0.size : Int) then ((spec_l1Read.f k (a0.extract 0 ((wrap64 ((a0.size : Int) - 2)) : Int).toNat)).bind fun t434 => (if (wrap64 ((a0.size : Int) - 2)) < (a0.size : Int) then (if 0 ≤ (wrap64 ((wrap64 ((a0.size : Int) - 2)) + 1)) then (if (wrap64 ((wrap64 ((a0.size : Int) - 2)) + 1)) ≤ (a0.size : Int) then ((spec_l1Read.f k (a0.extract ((wrap64 ((wrap64 ((a0.size : Int) - 2)) + 1)) : Int).toNat a0.size)).bind fun t435 => ((spec_frGood.f t434 ((bt a0 (wrap64 ((a0.size : Int) - 2))) == 99) t435).bind fun t437 => (if t437 = true then ((spec_frText.f k t434 ((bt a0 (wrap64 ((a0.size : Int) - 2))) == 99) t435).bind fun t438 => (some (t434, ((bt a0 (wrap64 ((a0.size : Int) - 2))) == 99), t435, (t438.toList == a0.toList)))) else (some (t434, ((bt a0 (wrap64 ((a0.size : Int) - 2))) == 99), t435, false))))) else (none)) else (none)) else (none))) else (none)) else (none)) else (some (0, false, 0, false)))
theorem spec_frParse.mono : ∀ a0 k, LeO (spec_frParse.f k a0) (spec_frParse.f (k + 1) a0) := by
 intro a0 k
 unfold spec_frParse.f
 repeat' first
   | (with_reducible exact spec_frText.mono _ _ _ _)
   | (with_reducible exact spec_l1Read.mono _ _)
   | (with_reducible exact LeO.refl _)
   | (with_reducible exact LeO.none _)
   | (with_reducible refine LeO.ite ?_ ?_)
   | (with_reducible refine LeO.bind ?_ (fun _ => ?_))
   | exact spec_frText.mono _ _ _ _
   | exact spec_l1Read.mono _ _
   | exact LeO.none _
   | refine LeO.ite ?_ ?_
   | refine LeO.bind ?_ (fun _ => ?_)
def spec_frParse.T4 : Bool × List (List Nat × List Nat) := (true, [([], []), ([], []), ([0, 1], [0, 1]), ([2], [2]), ([], []), ([], []), ([4, 5], [4, 5]), ([6], [6]), ([], []), ([], []), ([9], [9]), ([8, 10], [8, 10]), ([11, 3], [11]), ([3, 7, 12], [3, 7, 12]), ([], []), ([14, 13, 12, 0, 1, 2, 3, 4, 5, 6, 7, 8, 9, 10, 11, 12, 13, 14], [13, 14])])
def spec_frParse.B4 : List Nat := [0, 0, 3, 7, 0, 0, 48, 112, 0, 0, 512, 1792, 3855, 8191, 0, 32767]
theorem spec_frParse.tab4 : rtab .any (opsOf Tryz.f99 4) = spec_frParse.T4 := by kernel_rfl
theorem spec_frParse.bits4 : waitsOk spec_frParse.T4.2 spec_frParse.B4 = true := by kernel_rfl
def spec_frParse.T5 : Bool × List (List Nat × List Nat) := (true, [([], []), ([], []), ([1], [1]), ([2, 2], [2]), ([3], [3]), ([4, 3, 3], [3, 4]), ([3], [3]), ([5, 6, 3], [3, 5, 6]), ([3, 7], [3, 7]), ([0, 5, 0], [0]), ([8, 9, 0, 1, 2, 3, 4, 5, 6, 7, 8, 9], [8])])
def spec_frParse.B5 : List Nat := [0, 0, 2, 6, 14, 30, 14, 126, 254, 63, 1023]
theorem spec_frParse.tab5 : rtab .any (opsOf Tryz.f99 5) = spec_frParse.T5 := by kernel_rfl
theorem spec_frParse.bits5 : waitsOk spec_frParse.T5.2 spec_frParse.B5 = true := by kernel_rfl
set_option maxHeartbeats 8000000 in
set_option maxRecDepth 100000 in
theorem spec_frParse.calls (k : Nat) (a0 : ByteArray) (r1 : Int) (r2 : Bool) (r3 : Int) (r4 : Bool) (w : World) (h : spec_frParse.f k a0 = some (r1, r2, r3, r4)) :
  Calls Tryz.prog 99 #[.string a0] w fun e w' => e = .returned (.tuple #[.agg #[.int .i64 r1, .bool r2, .int .i64 r3], .bool r4]) ∧ Below w.heap.size w w' := by
 have hu25 := Tryz.underlying25
 have HB := Aside0.mk (Below.refl w.heap.size w)
 have H : ((spec_l1In.f (a0.size : Int) 3 4).bind fun t433 => (if t433 = true then (if 0 ≤ (wrap64 ((a0.size : Int) - 2)) then (if (wrap64 ((a0.size : Int) - 2)) ≤ (a0.size : Int) then ((spec_l1Read.f k (a0.extract 0 ((wrap64 ((a0.size : Int) - 2)) : Int).toNat)).bind fun t434 => (if (wrap64 ((a0.size : Int) - 2)) < (a0.size : Int) then (if 0 ≤ (wrap64 ((wrap64 ((a0.size : Int) - 2)) + 1)) then (if (wrap64 ((wrap64 ((a0.size : Int) - 2)) + 1)) ≤ (a0.size : Int) then ((spec_l1Read.f k (a0.extract ((wrap64 ((wrap64 ((a0.size : Int) - 2)) + 1)) : Int).toNat a0.size)).bind fun t435 => ((spec_frGood.f t434 ((bt a0 (wrap64 ((a0.size : Int) - 2))) == 99) t435).bind fun t437 => (if t437 = true then ((spec_frText.f k t434 ((bt a0 (wrap64 ((a0.size : Int) - 2))) == 99) t435).bind fun t438 => (some (t434, ((bt a0 (wrap64 ((a0.size : Int) - 2))) == 99), t435, (t438.toList == a0.toList)))) else (some (t434, ((bt a0 (wrap64 ((a0.size : Int) - 2))) == 99), t435, false))))) else (none)) else (none)) else (none))) else (none)) else (none)) else (some (0, false, 0, false)))) = some (r1, r2, r3, r4) := h
 clear h
 replace H := Option.bind_eq_some_iff.mp H
 obtain ⟨t433, A20, H⟩ := H
 (try dsimp only at H)
 have A2 := Aside0.mk A20
 clear A20
 by_cases c3 : t433 = true
 ·subst c3
  rw [if_pos rfl] at H
  obtain ⟨ji4, hji4⟩ : ∃ j_ : Int, (wrap64 ((a0.size : Int) - 2)) = j_ := ⟨_, rfl⟩
  replace H : (if 0 ≤ (ji4) then (if (ji4) ≤ (a0.size : Int) then ((spec_l1Read.f k (a0.extract 0 ((ji4) : Int).toNat)).bind fun t434 => (if (ji4) < (a0.size : Int) then (if 0 ≤ (wrap64 ((ji4) + 1)) then (if (wrap64 ((ji4) + 1)) ≤ (a0.size : Int) then ((spec_l1Read.f k (a0.extract ((wrap64 ((ji4) + 1)) : Int).toNat a0.size)).bind fun t435 => ((spec_frGood.f t434 ((bt a0 (ji4)) == 99) t435).bind fun t437 => (if t437 = true then ((spec_frText.f k t434 ((bt a0 (ji4)) == 99) t435).bind fun t438 => (some (t434, ((bt a0 (ji4)) == 99), t435, (t438.toList == a0.toList)))) else (some (t434, ((bt a0 (ji4)) == 99), t435, false))))) else (none)) else (none)) else (none))) else (none)) else (none)) = some (r1, r2, r3, r4) := by first | (rw [hji4] at H; exact H) | (simp only [hji4] at H ⊢; exact H)
  (try rw [hji4] at A2)
  have hji4w : (IntKind.i64.wrap ((a0.size : Int) - 2)) = ji4 := (i64_w _).trans hji4
  by_cases c5 : 0 ≤ (ji4)
  ·rw [if_pos c5] at H
   have c5b0 := eq_true c5
   have c5b1 : decide (0 ≤ (ji4)) = true := decide_eq_true c5
   clear c5
   by_cases c6 : (ji4) ≤ (a0.size : Int)
   ·rw [if_pos c6] at H
    have c6b0 := eq_true c6
    have c6b1 : decide ((ji4) ≤ (a0.size : Int)) = true := decide_eq_true c6
    clear c6
    replace H := Option.bind_eq_some_iff.mp H
    obtain ⟨t434, A70, H⟩ := H
    (try dsimp only at H)
    have A7 := Aside0.mk A70
    clear A70
    by_cases c8 : (ji4) < (a0.size : Int)
    ·rw [if_pos c8] at H
     have c8b0 : decide ((ji4) < (a0.size : Int)) = true := decide_eq_true c8
     clear c8
     obtain ⟨ji10, hji10⟩ : ∃ j_ : Int, (wrap64 ((ji4) + 1)) = j_ := ⟨_, rfl⟩
     replace H : (if 0 ≤ (ji10) then (if (ji10) ≤ (a0.size : Int) then ((spec_l1Read.f k (a0.extract ((ji10) : Int).toNat a0.size)).bind fun t435 => ((spec_frGood.f t434 ((bt a0 (ji4)) == 99) t435).bind fun t437 => (if t437 = true then ((spec_frText.f k t434 ((bt a0 (ji4)) == 99) t435).bind fun t438 => (some (t434, ((bt a0 (ji4)) == 99), t435, (t438.toList == a0.toList)))) else (some (t434, ((bt a0 (ji4)) == 99), t435, false))))) else (none)) else (none)) = some (r1, r2, r3, r4) := by first | (rw [hji10] at H; exact H) | (simp only [hji10] at H ⊢; exact H)
     (try rw [hji10] at A2)
     (try rw [hji10] at A7)
     have hji10w : (IntKind.i64.wrap ((ji4) + 1)) = ji10 := (i64_w _).trans hji10
     by_cases c11 : 0 ≤ (ji10)
     ·rw [if_pos c11] at H
      have c11b0 := eq_true c11
      have c11b1 : decide (0 ≤ (ji10)) = true := decide_eq_true c11
      clear c11
      by_cases c12 : (ji10) ≤ (a0.size : Int)
      ·rw [if_pos c12] at H
       have c12b0 := eq_true c12
       have c12b1 : decide ((ji10) ≤ (a0.size : Int)) = true := decide_eq_true c12
       clear c12
       replace H := Option.bind_eq_some_iff.mp H
       obtain ⟨t435, A130, H⟩ := H
       (try dsimp only at H)
       have A13 := Aside0.mk A130
       clear A130
       replace H := Option.bind_eq_some_iff.mp H
       obtain ⟨t437, A140, H⟩ := H
       (try dsimp only at H)
       have A14 := Aside0.mk A140
       clear A140
       by_cases c15 : t437 = true
       ·subst c15
        rw [if_pos rfl] at H
        replace H := Option.bind_eq_some_iff.mp H
        obtain ⟨t438, A160, H⟩ := H
        (try dsimp only at H)
        have A16 := Aside0.mk A160
        clear A160
        simp only [Option.some.injEq, Prod.mk.injEq] at H
        obtain ⟨rfl, rfl, rfl, rfl⟩ := H
        go_enter Tryz.func99, Tryz.ntmps99
        try go_wp2_with (first | ((with_reducible refine gate_dst (N := 2) rfl ?_); refine bxU (cs := #[.int .i64 0, .bool false, .int .i64 0]) (t := 25) ?_; intro gb432 hg w17 hbox hb; have n0_ := bsU hb; have n1_ := Aside0.mk (hbox); have n2_ := geU hg; have n3_ := geU hg; clear HB; have HB := n0_; have BK432 := n1_; have GW432 := n2_; have GE432 := n3_; clear n0_ n1_ n2_ n3_; clear hb hbox hg) | ((with_reducible refine gate_callee (f := 96) rfl ?_); refine goU (some 8) Tryz.func96 #[.int .i64 (a0.size : Int), .int .i64 3, .int .i64 4] ?_; (with_reducible refine (spec_l1In.calls (a0.size : Int) 3 4 true _ A2.out).mono ?_); rintro e w' ⟨rfl, ⟨nd, rfl⟩⟩; refine ⟨_, rfl, ?_⟩; (try (rw [drewN_self w17]; generalize hq_ : World.drewN w17 _ = w17; have n0_ : Aside0 (w17.heap[gb432]? = some (.cells #[.int .i64 0, .bool false, .int .i64 0] 25 (0, 0))) := ⟨by rw [← hq_]; exact bkU⟩; have n1_ : Aside0 (Below w.heap.size w w17) := ⟨by rw [← hq_]; exact hbU⟩; clear BK432 HB hq_; have BK432 := n0_; have HB := n1_; clear n0_ n1_))))
        have n0_ := Aside0.mk (blk_drew BK432.out)
        have n1_ := Aside0.mk (below_drew1 HB.out)
        clear BK432
        clear HB
        have BK432 := n0_
        have HB := n1_
        clear n0_ n1_
        have p9 : 0 ≤ ((ji4) : Int) := of_decide_eq_true (by first | (with_reducible assumption) | assumption)
        have q9 : (ji4) < (a0.size : Int) := of_decide_eq_true (by first | (with_reducible assumption) | assumption)
        have hx9 := bt_at a0 (ji4)
        replace p9 := eq_true p9
        replace q9 := eq_true q9
        refine start_ (n := 16) (S := fun w' => True) (ds := []) #[false, false, false, false, false, false, false, false, false, false, false, false, false, false, false, false] (by kernel_rfl) rfl rfl trivial (fun hHeld => ?_); refine with_tabW spec_frParse.tab4 spec_frParse.bits4 (fun HT_ HW_ => ?_)
        generalize w17.drew = w18 at BK432 HB hHeld ⊢
        refine puU 0 14 HT_ ?_
        refine puU 1 15 HT_ ?_
        refine puU 2 16 HT_ ?_
        refine puU 4 18 HT_ ?_
        refine puU 5 19 HT_ ?_
        refine puU 8 22 HT_ ?_
        refine puU 9 23 HT_ ?_
        refine puU 10 24 HT_ ?_
        refine puU 11 25 HT_ ?_
        refine take_ (i := 6) (N := some 20) (v := ?_) (a' := ?_) #[true, true, true, false, true, true, true, false, true, true, true, true, false, false, false, false] rfl rfl (take_ofW HT_.out HW_.out (by kernel_rfl)) (fun _ _ _ h => h) (Or.inl ⟨by rfl, ?_⟩) hHeld ?_ ?_
        rotate_left
        ·intro w' _
         go_simp
         with_reducible rfl
        rotate_left
        ·simp only [Act.put, List.setIfInBounds_toArray, List.set_cons_zero, List.set_cons_succ, i64_w, i32_w]
         rfl
        refine puU 7 21 HT_ ?_
        refine join_ (σ := Nat) 1 #[true, true, true, true, true, true, true, true, true, true, true, true, true, true, true, false] (fun s_ => [(17, .int .i64 t434), (26, .int .i64 t435), (5, .pointer (some ⟨s_, 0, none⟩)), (27, .agg #[.int .i64 t434, .bool ((bt a0 (ji4)) == 99), .int .i64 t435])]) (fun s_ w' => (w'.heap[gb432]? = some (.cells #[.int .i64 0, .bool false, .int .i64 0] 25 (0, 0))) ∧ (w'.heap[s_]? = some (.cells #[.int .i64 0, .bool false, .int .i64 0] 25 (0, 0))) ∧ (w.heap.size ≤ s_) ∧ (w.heap.size ≤ s_) ∧ (gb432 ≠ s_) ∧ (s_ ≠ gb432) ∧ (Below w.heap.size w w')) ?_ ?_
        rotate_left
        ·intro hCont
         refine two_ (i := 3) (j := 14) (Ni := some 17) (Nj := some 5) #[true, true, true, true, true, true, true, true, true, true, true, true, false, false, false, false] #[true, true, true, false, true, true, true, true, true, true, true, true, false, false, true, false] rfl rfl rfl rfl (two_of HT_.out (by kernel_rfl)) (by decide) (by decide) (fun K hK => ?_) (fun K hK => ?_)
         ·skip
          refine goes_ Tryz.func137 (by kernel_rfl) rfl #[.string (a0.extract 0 ((ji4) : Int).toNat)] (by rfl) rfl rfl (by (try simp only [List.map_toArray, List.map_cons, List.map_nil]); first | done | (simp only [hji4]; rfl) | rfl | (simp only [List.length_drop, List.length_take]; rfl)) ?_
          with_reducible refine (spec_l1Read.calls k (a0.extract 0 ((ji4) : Int).toNat) t434 _ A7.out).mono ?_
          rintro e w' ⟨rfl, ⟨nd, rfl⟩⟩
          refine ⟨_, rfl, ?_⟩
          refine hK.out _ _ trivial (fun hHeld => ?_)
          clear hK K
          refine norm_ (a' := ?_) ?_ ?_
          rotate_left
          ·show Act.put _ (some 17) _ = _
           simp only [Act.put, List.setIfInBounds_toArray, List.set_cons_zero, List.set_cons_succ, i64_w, i32_w]
           rfl
          refine two_ (i := 12) (j := 14) (Ni := some 26) (Nj := some 5) #[true, true, true, true, true, true, true, true, true, true, true, true, true, false, false, false] #[true, true, true, true, true, true, true, true, true, true, true, true, false, false, true, false] rfl rfl rfl rfl (two_of HT_.out (by kernel_rfl)) (by decide) (by decide) (fun K hK => ?_) (fun K hK => ?_)
          ·skip
           refine goes_ Tryz.func137 (by kernel_rfl) rfl #[.string (a0.extract ((ji10) : Int).toNat a0.size)] (by rfl) rfl rfl (by (try simp only [List.map_toArray, List.map_cons, List.map_nil]); first | done | (simp only [hji10]; rfl) | rfl | (simp only [List.length_drop, List.length_take]; rfl)) ?_
           with_reducible refine (spec_l1Read.calls k (a0.extract ((ji10) : Int).toNat a0.size) t435 _ A13.out).mono ?_
           rintro e w' ⟨rfl, ⟨nd, rfl⟩⟩
           refine ⟨_, rfl, ?_⟩
           refine hK.out _ _ trivial (fun hHeld => ?_)
           clear hK K
           refine norm_ (a' := ?_) ?_ ?_
           rotate_left
           ·show Act.put _ (some 26) _ = _
            simp only [Act.put, List.setIfInBounds_toArray, List.set_cons_zero, List.set_cons_succ, i64_w, i32_w]
            rfl
           refine puU 13 27 HT_ ?_
           refine onU 14 (some 5) HT_ (fun K hK => ?_)
           refine box_step ?hg (N := 5) ?hd (cs := #[.int .i64 0, .bool false, .int .i64 0]) (t := 25) ?hr ?_; (case hd => rfl); (case hg => rfl); (case hr => first | (go_simp; done) | (go_simp; rfl))
           intro gb436 hg w19 hbox hb
           have n0_ := bbU BK432 hb
           have n1_ := bsU hb
           have n2_ := Aside0.mk (hbox)
           have n3_ := geU hg
           have n4_ := geU hg
           have n5_ := neU BK432 hg
           have n6_ := enU BK432 hg
           clear BK432
           clear HB
           have BK432 := n0_
           have HB := n1_
           have BK436 := n2_
           have GW436 := n3_
           have GE436 := n4_
           have NB432_436 := n5_
           have NB436_432 := n6_
           clear n0_ n1_ n2_ n3_ n4_ n5_ n6_
           clear hb hbox hg
           refine hK.out _ _ trivial (fun hHeld => ?_)
           clear hK K
           refine norm_ (a' := ?_) ?_ ?_
           rotate_left
           ·show Act.put _ (some 5) _ = _
            simp only [Act.put, List.setIfInBounds_toArray, List.set_cons_zero, List.set_cons_succ, i64_w, i32_w]
            rfl
           exact norm_ (by simp only [putAll, Act.put, List.setIfInBounds_toArray, List.set_cons_zero, List.set_cons_succ]) (hCont (gb436) _ ⟨bkU, bkU, GW436.out, GE436.out, NB432_436.out, NB436_432.out, hbU⟩)
          ·skip
           refine box_step ?hg (N := 5) ?hd (cs := #[.int .i64 0, .bool false, .int .i64 0]) (t := 25) ?hr ?_; (case hd => rfl); (case hg => rfl); (case hr => first | (go_simp; done) | (go_simp; rfl))
           intro gb436 hg w19 hbox hb
           have n0_ := bbU BK432 hb
           have n1_ := bsU hb
           have n2_ := Aside0.mk (hbox)
           have n3_ := geU hg
           have n4_ := geU hg
           have n5_ := neU BK432 hg
           have n6_ := enU BK432 hg
           clear BK432
           clear HB
           have BK432 := n0_
           have HB := n1_
           have BK436 := n2_
           have GW436 := n3_
           have GE436 := n4_
           have NB432_436 := n5_
           have NB436_432 := n6_
           clear n0_ n1_ n2_ n3_ n4_ n5_ n6_
           clear hb hbox hg
           refine hK.out _ _ trivial (fun hHeld => ?_)
           clear hK K
           refine norm_ (a' := ?_) ?_ ?_
           rotate_left
           ·show Act.put _ (some 5) _ = _
            simp only [Act.put, List.setIfInBounds_toArray, List.set_cons_zero, List.set_cons_succ, i64_w, i32_w]
            rfl
           refine onU 12 (some 26) HT_ (fun K hK => ?_)
           refine goes_ Tryz.func137 (by kernel_rfl) rfl #[.string (a0.extract ((ji10) : Int).toNat a0.size)] (by rfl) rfl rfl (by (try simp only [List.map_toArray, List.map_cons, List.map_nil]); first | done | (simp only [hji10]; rfl) | rfl | (simp only [List.length_drop, List.length_take]; rfl)) ?_
           with_reducible refine (spec_l1Read.calls k (a0.extract ((ji10) : Int).toNat a0.size) t435 _ A13.out).mono ?_
           rintro e w' ⟨rfl, ⟨nd, rfl⟩⟩
           refine ⟨_, rfl, ?_⟩
           refine hK.out _ _ trivial (fun hHeld => ?_)
           clear hK K
           refine norm_ (a' := ?_) ?_ ?_
           rotate_left
           ·show Act.put _ (some 26) _ = _
            simp only [Act.put, List.setIfInBounds_toArray, List.set_cons_zero, List.set_cons_succ, i64_w, i32_w]
            rfl
           refine puU 13 27 HT_ ?_
           exact norm_ (by simp only [putAll, Act.put, List.setIfInBounds_toArray, List.set_cons_zero, List.set_cons_succ]) (hCont (gb436) _ ⟨bkU, bkU, GW436.out, GE436.out, NB432_436.out, NB436_432.out, hbU⟩)
         ·skip
          refine box_step ?hg (N := 5) ?hd (cs := #[.int .i64 0, .bool false, .int .i64 0]) (t := 25) ?hr ?_; (case hd => rfl); (case hg => rfl); (case hr => first | (go_simp; done) | (go_simp; rfl))
          intro gb436 hg w19 hbox hb
          have n0_ := bbU BK432 hb
          have n1_ := bsU hb
          have n2_ := Aside0.mk (hbox)
          have n3_ := geU hg
          have n4_ := geU hg
          have n5_ := neU BK432 hg
          have n6_ := enU BK432 hg
          clear BK432
          clear HB
          have BK432 := n0_
          have HB := n1_
          have BK436 := n2_
          have GW436 := n3_
          have GE436 := n4_
          have NB432_436 := n5_
          have NB436_432 := n6_
          clear n0_ n1_ n2_ n3_ n4_ n5_ n6_
          clear hb hbox hg
          refine hK.out _ _ trivial (fun hHeld => ?_)
          clear hK K
          refine norm_ (a' := ?_) ?_ ?_
          rotate_left
          ·show Act.put _ (some 5) _ = _
           simp only [Act.put, List.setIfInBounds_toArray, List.set_cons_zero, List.set_cons_succ, i64_w, i32_w]
           rfl
          refine onU 3 (some 17) HT_ (fun K hK => ?_)
          refine goes_ Tryz.func137 (by kernel_rfl) rfl #[.string (a0.extract 0 ((ji4) : Int).toNat)] (by rfl) rfl rfl (by (try simp only [List.map_toArray, List.map_cons, List.map_nil]); first | done | (simp only [hji4]; rfl) | rfl | (simp only [List.length_drop, List.length_take]; rfl)) ?_
          with_reducible refine (spec_l1Read.calls k (a0.extract 0 ((ji4) : Int).toNat) t434 _ A7.out).mono ?_
          rintro e w' ⟨rfl, ⟨nd, rfl⟩⟩
          refine ⟨_, rfl, ?_⟩
          refine hK.out _ _ trivial (fun hHeld => ?_)
          clear hK K
          refine norm_ (a' := ?_) ?_ ?_
          rotate_left
          ·show Act.put _ (some 17) _ = _
           simp only [Act.put, List.setIfInBounds_toArray, List.set_cons_zero, List.set_cons_succ, i64_w, i32_w]
           rfl
          refine onU 12 (some 26) HT_ (fun K hK => ?_)
          refine goes_ Tryz.func137 (by kernel_rfl) rfl #[.string (a0.extract ((ji10) : Int).toNat a0.size)] (by rfl) rfl rfl (by (try simp only [List.map_toArray, List.map_cons, List.map_nil]); first | done | (simp only [hji10]; rfl) | rfl | (simp only [List.length_drop, List.length_take]; rfl)) ?_
          with_reducible refine (spec_l1Read.calls k (a0.extract ((ji10) : Int).toNat a0.size) t435 _ A13.out).mono ?_
          rintro e w' ⟨rfl, ⟨nd, rfl⟩⟩
          refine ⟨_, rfl, ?_⟩
          refine hK.out _ _ trivial (fun hHeld => ?_)
          clear hK K
          refine norm_ (a' := ?_) ?_ ?_
          rotate_left
          ·show Act.put _ (some 26) _ = _
           simp only [Act.put, List.setIfInBounds_toArray, List.set_cons_zero, List.set_cons_succ, i64_w, i32_w]
           rfl
          refine puU 13 27 HT_ ?_
          exact norm_ (by simp only [putAll, Act.put, List.setIfInBounds_toArray, List.set_cons_zero, List.set_cons_succ]) (hCont (gb436) _ ⟨bkU, bkU, GW436.out, GE436.out, NB432_436.out, NB436_432.out, hbU⟩)
        rintro gb436 w20 ⟨h0_, h1_, h2_, h3_, h4_, h5_, h6_⟩
        have n0_ : Aside0 (w20.heap[gb432]? = some (.cells #[.int .i64 0, .bool false, .int .i64 0] 25 (0, 0))) := ⟨h0_⟩
        have n1_ : Aside0 (w20.heap[gb436]? = some (.cells #[.int .i64 0, .bool false, .int .i64 0] 25 (0, 0))) := ⟨h1_⟩
        have n2_ : Aside0 (w.heap.size ≤ gb436) := ⟨h2_⟩
        have n3_ : Aside0 (w.heap.size ≤ gb436) := ⟨h3_⟩
        have n4_ : Aside0 (gb432 ≠ gb436) := ⟨h4_⟩
        have n5_ : Aside0 (gb436 ≠ gb432) := ⟨h5_⟩
        have n6_ : Aside0 (Below w.heap.size w w20) := ⟨h6_⟩
        clear BK432
        clear HB
        clear h0_ h1_ h2_ h3_ h4_ h5_ h6_
        have BK432 := n0_
        have BK436 := n1_
        have GW436 := n2_
        have GE436 := n3_
        have NB432_436 := n4_
        have NB436_432 := n5_
        have HB := n6_
        clear n0_ n1_ n2_ n3_ n4_ n5_ n6_
        have hHeld := trivial
        refine norm_ (a' := ?_) ?_ ?_
        rotate_left
        ·simp only [putAll, Act.put, List.setIfInBounds_toArray, List.set_cons_zero, List.set_cons_succ]
         rfl
        refine onU 15 none HT_ (fun K hK => ?_)
        have hs21 : w20.cell? ⟨gb436, 0, none⟩ = some (.int .i64 0) := (blk_cell BK436.out 0).trans rfl
        have hfs21 := blk_frozen BK436.out 0
        have hns21_0 := NB432_436.out
        have hms21_0 := NB436_432.out
        have hs22 : w20.cell? ⟨gb436, 1, none⟩ = some (.bool false) := (blk_cell BK436.out 1).trans rfl
        have hfs22 := blk_frozen BK436.out 1
        have hns22_0 := NB432_436.out
        have hms22_0 := NB436_432.out
        have hs23 : w20.cell? ⟨gb436, 2, none⟩ = some (.int .i64 0) := (blk_cell BK436.out 2).trans rfl
        have hfs23 := blk_frozen BK436.out 2
        have hns23_0 := NB432_436.out
        have hms23_0 := NB436_432.out
        refine skip_ (w1 := ?_) (by rfl) rfl ?_ ?_
        rotate_left
        ·go_simp
         rfl
        refine hK.out _ _ trivial (fun hHeld => ?_)
        clear hK K
        refine dnU HT_ ?_
        try go_wp2
        have n0_ : Aside0 ((((w20.setCell ⟨gb436, 0, none⟩ (.int .i64 t434)).setCell ⟨gb436, 1, none⟩ (.bool ((bt a0 (ji4)) == 99))).setCell ⟨gb436, 2, none⟩ (.int .i64 t435)).heap[gb432]? = some (.cells #[.int .i64 0, .bool false, .int .i64 0] 25 (0, 0))) := ⟨bkU⟩
        have n1_ : Aside0 ((((w20.setCell ⟨gb436, 0, none⟩ (.int .i64 t434)).setCell ⟨gb436, 1, none⟩ (.bool ((bt a0 (ji4)) == 99))).setCell ⟨gb436, 2, none⟩ (.int .i64 t435)).heap[gb436]? = some (.cells #[.int .i64 t434, .bool ((bt a0 (ji4)) == 99), .int .i64 t435] 25 (0, 0))) := ⟨bkU⟩
        have n2_ : Aside0 (Below w.heap.size w (((w20.setCell ⟨gb436, 0, none⟩ (.int .i64 t434)).setCell ⟨gb436, 1, none⟩ (.bool ((bt a0 (ji4)) == 99))).setCell ⟨gb436, 2, none⟩ (.int .i64 t435))) := ⟨hbU⟩
        (try clear BK432); (try clear BK436); (try clear HB)
        generalize (((w20.setCell ⟨gb436, 0, none⟩ (.int .i64 t434)).setCell ⟨gb436, 1, none⟩ (.bool ((bt a0 (ji4)) == 99))).setCell ⟨gb436, 2, none⟩ (.int .i64 t435)) = w24 at n0_ n1_ n2_ ⊢
        have BK432 := n0_
        have BK436 := n1_
        have HB := n2_
        clear n0_ n1_ n2_
        have n0_ := Aside0.mk (blk_drew BK432.out)
        have n1_ := Aside0.mk (blk_drew BK436.out)
        have n2_ := Aside0.mk (below_drew1 HB.out)
        clear BK432
        clear BK436
        clear HB
        have BK432 := n0_
        have BK436 := n1_
        have HB := n2_
        clear n0_ n1_ n2_
        refine start_ (n := 11) (S := fun w' => w'.cell? ⟨gb436, 0, none⟩ = some (.int .i64 t434) ∧ w'.cell? ⟨gb436, 1, none⟩ = some (.bool ((bt a0 (ji4)) == 99)) ∧ w'.cell? ⟨gb436, 2, none⟩ = some (.int .i64 t435)) (ds := []) #[false, false, false, false, false, false, false, false, false, false, false] (by kernel_rfl) rfl rfl (c3U BK436) (fun hHeld => ?_); refine with_tabW spec_frParse.tab5 spec_frParse.bits5 (fun HT_ HW_ => ?_)
        generalize w24.drew = w25 at BK432 BK436 HB hHeld ⊢
        refine tkU 0 28 HT_ HW_ hHeld ?_
        refine tkU 1 29 HT_ HW_ hHeld ?_
        refine onU 2 (some 30) HT_ (fun K hK => ?_)
        refine goes_ Tryz.func78 (by kernel_rfl) rfl #[.agg #[.int .i64 t434, .bool ((bt a0 (ji4)) == 99), .int .i64 t435]] (by rfl) rfl rfl (by (try simp only [List.map_toArray, List.map_cons, List.map_nil]); first | done | (simp only [hji4]; rfl) | rfl | (simp only [List.length_drop, List.length_take]; rfl)) ?_
        with_reducible refine (spec_frGood.calls t434 ((bt a0 (ji4)) == 99) t435 true _ A14.out).mono ?_
        rintro e w26 ⟨rfl, hb⟩
        refine ⟨_, rfl, ?_⟩
        have n0_ := bbU BK432 hb
        have n1_ := Aside0.mk (blk_below (g := gb436) (o := .cells #[.int .i64 t434, .bool ((bt a0 (ji4)) == 99), .int .i64 t435] 25 (0, 0)) bkU hb)
        have n2_ := bsU hb
        clear BK432
        clear BK436
        clear HB
        have BK432 := n0_
        have BK436 := n1_
        have HB := n2_
        clear n0_ n1_ n2_
        (try clear hb)
        refine hK.out _ _ (c3U BK436) (fun hHeld => ?_)
        clear hK K
        refine norm_ (a' := ?_) ?_ ?_
        rotate_left
        ·show Act.put _ (some 30) _ = _
         simp only [Act.put, List.setIfInBounds_toArray, List.set_cons_zero, List.set_cons_succ, i64_w, i32_w]
         rfl
        refine puU 3 31 HT_ ?_
        refine puU 6 34 HT_ ?_
        refine tkU 4 32 HT_ HW_ hHeld ?_
        refine onU 5 (some 33) HT_ (fun K hK => ?_)
        refine goes_ Tryz.func86 (by kernel_rfl) rfl #[.agg #[.int .i64 t434, .bool ((bt a0 (ji4)) == 99), .int .i64 t435]] (by rfl) rfl rfl (by (try simp only [List.map_toArray, List.map_cons, List.map_nil]); first | done | (simp only [hji4]; rfl) | rfl | (simp only [List.length_drop, List.length_take]; rfl)) ?_
        with_reducible refine (spec_frText.calls k t434 ((bt a0 (ji4)) == 99) t435 t438 _ A16.out).mono ?_
        rintro e w27 ⟨rfl, hb⟩
        refine ⟨_, rfl, ?_⟩
        have n0_ := bbU BK432 hb
        have n1_ := Aside0.mk (blk_below (g := gb436) (o := .cells #[.int .i64 t434, .bool ((bt a0 (ji4)) == 99), .int .i64 t435] 25 (0, 0)) bkU hb)
        have n2_ := bsU hb
        clear BK432
        clear BK436
        clear HB
        have BK432 := n0_
        have BK436 := n1_
        have HB := n2_
        clear n0_ n1_ n2_
        (try clear hb)
        refine hK.out _ _ (c3U BK436) (fun hHeld => ?_)
        clear hK K
        refine norm_ (a' := ?_) ?_ ?_
        rotate_left
        ·show Act.put _ (some 33) _ = _
         simp only [Act.put, List.setIfInBounds_toArray, List.set_cons_zero, List.set_cons_succ, i64_w, i32_w]
         rfl
        refine puU 7 35 HT_ ?_
        refine puU 8 36 HT_ ?_
        refine onU 9 none HT_ (fun K hK => ?_)
        have hs28 : w27.cell? ⟨gb432, 0, none⟩ = some (.int .i64 0) := (blk_cell BK432.out 0).trans rfl
        have hfs28 := blk_frozen BK432.out 0
        have hns28_1 := NB436_432.out
        have hms28_1 := NB432_436.out
        have hs29 : w27.cell? ⟨gb432, 1, none⟩ = some (.bool false) := (blk_cell BK432.out 1).trans rfl
        have hfs29 := blk_frozen BK432.out 1
        have hns29_1 := NB436_432.out
        have hms29_1 := NB432_436.out
        have hs30 : w27.cell? ⟨gb432, 2, none⟩ = some (.int .i64 0) := (blk_cell BK432.out 2).trans rfl
        have hfs30 := blk_frozen BK432.out 2
        have hns30_1 := NB436_432.out
        have hms30_1 := NB432_436.out
        refine skip_ (w1 := ?_) (by rfl) rfl ?_ ?_
        rotate_left
        ·go_simp
         rfl
        refine hK.out _ _ ⟨((cell_far (p := ⟨gb432, _, none⟩) NB436_432.out _).trans (((cell_far (p := ⟨gb432, _, none⟩) NB436_432.out _).trans (((cell_far (p := ⟨gb432, _, none⟩) NB436_432.out _).trans (hHeld.1)))))), ((cell_far (p := ⟨gb432, _, none⟩) NB436_432.out _).trans (((cell_far (p := ⟨gb432, _, none⟩) NB436_432.out _).trans (((cell_far (p := ⟨gb432, _, none⟩) NB436_432.out _).trans (hHeld.2.1)))))), ((cell_far (p := ⟨gb432, _, none⟩) NB436_432.out _).trans (((cell_far (p := ⟨gb432, _, none⟩) NB436_432.out _).trans (((cell_far (p := ⟨gb432, _, none⟩) NB436_432.out _).trans (hHeld.2.2))))))⟩ (fun hHeld => ?_)
        clear hK K
        refine puU 10 3 HT_ ?_
        refine dnU HT_ ?_
        try go_wp2
        refine bodyPost_ret (results_ct rfl _ _ gb432 25 #[.int .i64 t434, .bool ((bt a0 (ji4)) == 99), .int .i64 t435] (0, 0) _ rfl bkU Tryz.underlying25 rfl (by kernel_rfl)) rfl ?_
        exact ⟨by first | rfl | (simp [errW_none, errW_some] <;> rfl) | (simp only [← hji4, ← hji10]; first | rfl | (simp [errW_none, errW_some] <;> rfl)) | (simp [*, errW_none, errW_some] <;> rfl), hbU⟩
       ·replace c15 := Bool.eq_false_iff.mpr c15
        subst c15
        rw [if_neg (show ¬ (false = true) by decide)] at H
        simp only [Option.some.injEq, Prod.mk.injEq] at H
        obtain ⟨rfl, rfl, rfl, rfl⟩ := H
        go_enter Tryz.func99, Tryz.ntmps99
        try go_wp2_with (first | ((with_reducible refine gate_dst (N := 2) rfl ?_); refine bxU (cs := #[.int .i64 0, .bool false, .int .i64 0]) (t := 25) ?_; intro gb432 hg w31 hbox hb; have n0_ := bsU hb; have n1_ := Aside0.mk (hbox); have n2_ := geU hg; have n3_ := geU hg; clear HB; have HB := n0_; have BK432 := n1_; have GW432 := n2_; have GE432 := n3_; clear n0_ n1_ n2_ n3_; clear hb hbox hg) | ((with_reducible refine gate_callee (f := 96) rfl ?_); refine goU (some 8) Tryz.func96 #[.int .i64 (a0.size : Int), .int .i64 3, .int .i64 4] ?_; (with_reducible refine (spec_l1In.calls (a0.size : Int) 3 4 true _ A2.out).mono ?_); rintro e w' ⟨rfl, ⟨nd, rfl⟩⟩; refine ⟨_, rfl, ?_⟩; (try (rw [drewN_self w31]; generalize hq_ : World.drewN w31 _ = w31; have n0_ : Aside0 (w31.heap[gb432]? = some (.cells #[.int .i64 0, .bool false, .int .i64 0] 25 (0, 0))) := ⟨by rw [← hq_]; exact bkU⟩; have n1_ : Aside0 (Below w.heap.size w w31) := ⟨by rw [← hq_]; exact hbU⟩; clear BK432 HB hq_; have BK432 := n0_; have HB := n1_; clear n0_ n1_))))
        have n0_ := Aside0.mk (blk_drew BK432.out)
        have n1_ := Aside0.mk (below_drew1 HB.out)
        clear BK432
        clear HB
        have BK432 := n0_
        have HB := n1_
        clear n0_ n1_
        have p9 : 0 ≤ ((ji4) : Int) := of_decide_eq_true (by first | (with_reducible assumption) | assumption)
        have q9 : (ji4) < (a0.size : Int) := of_decide_eq_true (by first | (with_reducible assumption) | assumption)
        have hx9 := bt_at a0 (ji4)
        replace p9 := eq_true p9
        replace q9 := eq_true q9
        refine start_ (n := 16) (S := fun w' => True) (ds := []) #[false, false, false, false, false, false, false, false, false, false, false, false, false, false, false, false] (by kernel_rfl) rfl rfl trivial (fun hHeld => ?_); refine with_tabW spec_frParse.tab4 spec_frParse.bits4 (fun HT_ HW_ => ?_)
        generalize w31.drew = w32 at BK432 HB hHeld ⊢
        refine puU 0 14 HT_ ?_
        refine puU 1 15 HT_ ?_
        refine puU 2 16 HT_ ?_
        refine puU 4 18 HT_ ?_
        refine puU 5 19 HT_ ?_
        refine puU 8 22 HT_ ?_
        refine puU 9 23 HT_ ?_
        refine puU 10 24 HT_ ?_
        refine puU 11 25 HT_ ?_
        refine take_ (i := 6) (N := some 20) (v := ?_) (a' := ?_) #[true, true, true, false, true, true, true, false, true, true, true, true, false, false, false, false] rfl rfl (take_ofW HT_.out HW_.out (by kernel_rfl)) (fun _ _ _ h => h) (Or.inl ⟨by rfl, ?_⟩) hHeld ?_ ?_
        rotate_left
        ·intro w' _
         go_simp
         with_reducible rfl
        rotate_left
        ·simp only [Act.put, List.setIfInBounds_toArray, List.set_cons_zero, List.set_cons_succ, i64_w, i32_w]
         rfl
        refine puU 7 21 HT_ ?_
        refine join_ (σ := Nat) 1 #[true, true, true, true, true, true, true, true, true, true, true, true, true, true, true, false] (fun s_ => [(17, .int .i64 t434), (26, .int .i64 t435), (5, .pointer (some ⟨s_, 0, none⟩)), (27, .agg #[.int .i64 t434, .bool ((bt a0 (ji4)) == 99), .int .i64 t435])]) (fun s_ w' => (w'.heap[gb432]? = some (.cells #[.int .i64 0, .bool false, .int .i64 0] 25 (0, 0))) ∧ (w'.heap[s_]? = some (.cells #[.int .i64 0, .bool false, .int .i64 0] 25 (0, 0))) ∧ (w.heap.size ≤ s_) ∧ (w.heap.size ≤ s_) ∧ (gb432 ≠ s_) ∧ (s_ ≠ gb432) ∧ (Below w.heap.size w w')) ?_ ?_
        rotate_left
        ·intro hCont
         refine two_ (i := 3) (j := 14) (Ni := some 17) (Nj := some 5) #[true, true, true, true, true, true, true, true, true, true, true, true, false, false, false, false] #[true, true, true, false, true, true, true, true, true, true, true, true, false, false, true, false] rfl rfl rfl rfl (two_of HT_.out (by kernel_rfl)) (by decide) (by decide) (fun K hK => ?_) (fun K hK => ?_)
         ·skip
          refine goes_ Tryz.func137 (by kernel_rfl) rfl #[.string (a0.extract 0 ((ji4) : Int).toNat)] (by rfl) rfl rfl (by (try simp only [List.map_toArray, List.map_cons, List.map_nil]); first | done | (simp only [hji4]; rfl) | rfl | (simp only [List.length_drop, List.length_take]; rfl)) ?_
          with_reducible refine (spec_l1Read.calls k (a0.extract 0 ((ji4) : Int).toNat) t434 _ A7.out).mono ?_
          rintro e w' ⟨rfl, ⟨nd, rfl⟩⟩
          refine ⟨_, rfl, ?_⟩
          refine hK.out _ _ trivial (fun hHeld => ?_)
          clear hK K
          refine norm_ (a' := ?_) ?_ ?_
          rotate_left
          ·show Act.put _ (some 17) _ = _
           simp only [Act.put, List.setIfInBounds_toArray, List.set_cons_zero, List.set_cons_succ, i64_w, i32_w]
           rfl
          refine two_ (i := 12) (j := 14) (Ni := some 26) (Nj := some 5) #[true, true, true, true, true, true, true, true, true, true, true, true, true, false, false, false] #[true, true, true, true, true, true, true, true, true, true, true, true, false, false, true, false] rfl rfl rfl rfl (two_of HT_.out (by kernel_rfl)) (by decide) (by decide) (fun K hK => ?_) (fun K hK => ?_)
          ·skip
           refine goes_ Tryz.func137 (by kernel_rfl) rfl #[.string (a0.extract ((ji10) : Int).toNat a0.size)] (by rfl) rfl rfl (by (try simp only [List.map_toArray, List.map_cons, List.map_nil]); first | done | (simp only [hji10]; rfl) | rfl | (simp only [List.length_drop, List.length_take]; rfl)) ?_
           with_reducible refine (spec_l1Read.calls k (a0.extract ((ji10) : Int).toNat a0.size) t435 _ A13.out).mono ?_
           rintro e w' ⟨rfl, ⟨nd, rfl⟩⟩
           refine ⟨_, rfl, ?_⟩
           refine hK.out _ _ trivial (fun hHeld => ?_)
           clear hK K
           refine norm_ (a' := ?_) ?_ ?_
           rotate_left
           ·show Act.put _ (some 26) _ = _
            simp only [Act.put, List.setIfInBounds_toArray, List.set_cons_zero, List.set_cons_succ, i64_w, i32_w]
            rfl
           refine puU 13 27 HT_ ?_
           refine onU 14 (some 5) HT_ (fun K hK => ?_)
           refine box_step ?hg (N := 5) ?hd (cs := #[.int .i64 0, .bool false, .int .i64 0]) (t := 25) ?hr ?_; (case hd => rfl); (case hg => rfl); (case hr => first | (go_simp; done) | (go_simp; rfl))
           intro gb436 hg w33 hbox hb
           have n0_ := bbU BK432 hb
           have n1_ := bsU hb
           have n2_ := Aside0.mk (hbox)
           have n3_ := geU hg
           have n4_ := geU hg
           have n5_ := neU BK432 hg
           have n6_ := enU BK432 hg
           clear BK432
           clear HB
           have BK432 := n0_
           have HB := n1_
           have BK436 := n2_
           have GW436 := n3_
           have GE436 := n4_
           have NB432_436 := n5_
           have NB436_432 := n6_
           clear n0_ n1_ n2_ n3_ n4_ n5_ n6_
           clear hb hbox hg
           refine hK.out _ _ trivial (fun hHeld => ?_)
           clear hK K
           refine norm_ (a' := ?_) ?_ ?_
           rotate_left
           ·show Act.put _ (some 5) _ = _
            simp only [Act.put, List.setIfInBounds_toArray, List.set_cons_zero, List.set_cons_succ, i64_w, i32_w]
            rfl
           exact norm_ (by simp only [putAll, Act.put, List.setIfInBounds_toArray, List.set_cons_zero, List.set_cons_succ]) (hCont (gb436) _ ⟨bkU, bkU, GW436.out, GE436.out, NB432_436.out, NB436_432.out, hbU⟩)
          ·skip
           refine box_step ?hg (N := 5) ?hd (cs := #[.int .i64 0, .bool false, .int .i64 0]) (t := 25) ?hr ?_; (case hd => rfl); (case hg => rfl); (case hr => first | (go_simp; done) | (go_simp; rfl))
           intro gb436 hg w33 hbox hb
           have n0_ := bbU BK432 hb
           have n1_ := bsU hb
           have n2_ := Aside0.mk (hbox)
           have n3_ := geU hg
           have n4_ := geU hg
           have n5_ := neU BK432 hg
           have n6_ := enU BK432 hg
           clear BK432
           clear HB
           have BK432 := n0_
           have HB := n1_
           have BK436 := n2_
           have GW436 := n3_
           have GE436 := n4_
           have NB432_436 := n5_
           have NB436_432 := n6_
           clear n0_ n1_ n2_ n3_ n4_ n5_ n6_
           clear hb hbox hg
           refine hK.out _ _ trivial (fun hHeld => ?_)
           clear hK K
           refine norm_ (a' := ?_) ?_ ?_
           rotate_left
           ·show Act.put _ (some 5) _ = _
            simp only [Act.put, List.setIfInBounds_toArray, List.set_cons_zero, List.set_cons_succ, i64_w, i32_w]
            rfl
           refine onU 12 (some 26) HT_ (fun K hK => ?_)
           refine goes_ Tryz.func137 (by kernel_rfl) rfl #[.string (a0.extract ((ji10) : Int).toNat a0.size)] (by rfl) rfl rfl (by (try simp only [List.map_toArray, List.map_cons, List.map_nil]); first | done | (simp only [hji10]; rfl) | rfl | (simp only [List.length_drop, List.length_take]; rfl)) ?_
           with_reducible refine (spec_l1Read.calls k (a0.extract ((ji10) : Int).toNat a0.size) t435 _ A13.out).mono ?_
           rintro e w' ⟨rfl, ⟨nd, rfl⟩⟩
           refine ⟨_, rfl, ?_⟩
           refine hK.out _ _ trivial (fun hHeld => ?_)
           clear hK K
           refine norm_ (a' := ?_) ?_ ?_
           rotate_left
           ·show Act.put _ (some 26) _ = _
            simp only [Act.put, List.setIfInBounds_toArray, List.set_cons_zero, List.set_cons_succ, i64_w, i32_w]
            rfl
           refine puU 13 27 HT_ ?_
           exact norm_ (by simp only [putAll, Act.put, List.setIfInBounds_toArray, List.set_cons_zero, List.set_cons_succ]) (hCont (gb436) _ ⟨bkU, bkU, GW436.out, GE436.out, NB432_436.out, NB436_432.out, hbU⟩)
         ·skip
          refine box_step ?hg (N := 5) ?hd (cs := #[.int .i64 0, .bool false, .int .i64 0]) (t := 25) ?hr ?_; (case hd => rfl); (case hg => rfl); (case hr => first | (go_simp; done) | (go_simp; rfl))
          intro gb436 hg w33 hbox hb
          have n0_ := bbU BK432 hb
          have n1_ := bsU hb
          have n2_ := Aside0.mk (hbox)
          have n3_ := geU hg
          have n4_ := geU hg
          have n5_ := neU BK432 hg
          have n6_ := enU BK432 hg
          clear BK432
          clear HB
          have BK432 := n0_
          have HB := n1_
          have BK436 := n2_
          have GW436 := n3_
          have GE436 := n4_
          have NB432_436 := n5_
          have NB436_432 := n6_
          clear n0_ n1_ n2_ n3_ n4_ n5_ n6_
          clear hb hbox hg
          refine hK.out _ _ trivial (fun hHeld => ?_)
          clear hK K
          refine norm_ (a' := ?_) ?_ ?_
          rotate_left
          ·show Act.put _ (some 5) _ = _
           simp only [Act.put, List.setIfInBounds_toArray, List.set_cons_zero, List.set_cons_succ, i64_w, i32_w]
           rfl
          refine onU 3 (some 17) HT_ (fun K hK => ?_)
          refine goes_ Tryz.func137 (by kernel_rfl) rfl #[.string (a0.extract 0 ((ji4) : Int).toNat)] (by rfl) rfl rfl (by (try simp only [List.map_toArray, List.map_cons, List.map_nil]); first | done | (simp only [hji4]; rfl) | rfl | (simp only [List.length_drop, List.length_take]; rfl)) ?_
          with_reducible refine (spec_l1Read.calls k (a0.extract 0 ((ji4) : Int).toNat) t434 _ A7.out).mono ?_
          rintro e w' ⟨rfl, ⟨nd, rfl⟩⟩
          refine ⟨_, rfl, ?_⟩
          refine hK.out _ _ trivial (fun hHeld => ?_)
          clear hK K
          refine norm_ (a' := ?_) ?_ ?_
          rotate_left
          ·show Act.put _ (some 17) _ = _
           simp only [Act.put, List.setIfInBounds_toArray, List.set_cons_zero, List.set_cons_succ, i64_w, i32_w]
           rfl
          refine onU 12 (some 26) HT_ (fun K hK => ?_)
          refine goes_ Tryz.func137 (by kernel_rfl) rfl #[.string (a0.extract ((ji10) : Int).toNat a0.size)] (by rfl) rfl rfl (by (try simp only [List.map_toArray, List.map_cons, List.map_nil]); first | done | (simp only [hji10]; rfl) | rfl | (simp only [List.length_drop, List.length_take]; rfl)) ?_
          with_reducible refine (spec_l1Read.calls k (a0.extract ((ji10) : Int).toNat a0.size) t435 _ A13.out).mono ?_
          rintro e w' ⟨rfl, ⟨nd, rfl⟩⟩
          refine ⟨_, rfl, ?_⟩
          refine hK.out _ _ trivial (fun hHeld => ?_)
          clear hK K
          refine norm_ (a' := ?_) ?_ ?_
          rotate_left
          ·show Act.put _ (some 26) _ = _
           simp only [Act.put, List.setIfInBounds_toArray, List.set_cons_zero, List.set_cons_succ, i64_w, i32_w]
           rfl
          refine puU 13 27 HT_ ?_
          exact norm_ (by simp only [putAll, Act.put, List.setIfInBounds_toArray, List.set_cons_zero, List.set_cons_succ]) (hCont (gb436) _ ⟨bkU, bkU, GW436.out, GE436.out, NB432_436.out, NB436_432.out, hbU⟩)
        rintro gb436 w34 ⟨h0_, h1_, h2_, h3_, h4_, h5_, h6_⟩
        have n0_ : Aside0 (w34.heap[gb432]? = some (.cells #[.int .i64 0, .bool false, .int .i64 0] 25 (0, 0))) := ⟨h0_⟩
        have n1_ : Aside0 (w34.heap[gb436]? = some (.cells #[.int .i64 0, .bool false, .int .i64 0] 25 (0, 0))) := ⟨h1_⟩
        have n2_ : Aside0 (w.heap.size ≤ gb436) := ⟨h2_⟩
        have n3_ : Aside0 (w.heap.size ≤ gb436) := ⟨h3_⟩
        have n4_ : Aside0 (gb432 ≠ gb436) := ⟨h4_⟩
        have n5_ : Aside0 (gb436 ≠ gb432) := ⟨h5_⟩
        have n6_ : Aside0 (Below w.heap.size w w34) := ⟨h6_⟩
        clear BK432
        clear HB
        clear h0_ h1_ h2_ h3_ h4_ h5_ h6_
        have BK432 := n0_
        have BK436 := n1_
        have GW436 := n2_
        have GE436 := n3_
        have NB432_436 := n4_
        have NB436_432 := n5_
        have HB := n6_
        clear n0_ n1_ n2_ n3_ n4_ n5_ n6_
        have hHeld := trivial
        refine norm_ (a' := ?_) ?_ ?_
        rotate_left
        ·simp only [putAll, Act.put, List.setIfInBounds_toArray, List.set_cons_zero, List.set_cons_succ]
         rfl
        refine onU 15 none HT_ (fun K hK => ?_)
        have hs35 : w34.cell? ⟨gb436, 0, none⟩ = some (.int .i64 0) := (blk_cell BK436.out 0).trans rfl
        have hfs35 := blk_frozen BK436.out 0
        have hns35_0 := NB432_436.out
        have hms35_0 := NB436_432.out
        have hs36 : w34.cell? ⟨gb436, 1, none⟩ = some (.bool false) := (blk_cell BK436.out 1).trans rfl
        have hfs36 := blk_frozen BK436.out 1
        have hns36_0 := NB432_436.out
        have hms36_0 := NB436_432.out
        have hs37 : w34.cell? ⟨gb436, 2, none⟩ = some (.int .i64 0) := (blk_cell BK436.out 2).trans rfl
        have hfs37 := blk_frozen BK436.out 2
        have hns37_0 := NB432_436.out
        have hms37_0 := NB436_432.out
        refine skip_ (w1 := ?_) (by rfl) rfl ?_ ?_
        rotate_left
        ·go_simp
         rfl
        refine hK.out _ _ trivial (fun hHeld => ?_)
        clear hK K
        refine dnU HT_ ?_
        try go_wp2
        have n0_ : Aside0 ((((w34.setCell ⟨gb436, 0, none⟩ (.int .i64 t434)).setCell ⟨gb436, 1, none⟩ (.bool ((bt a0 (ji4)) == 99))).setCell ⟨gb436, 2, none⟩ (.int .i64 t435)).heap[gb432]? = some (.cells #[.int .i64 0, .bool false, .int .i64 0] 25 (0, 0))) := ⟨bkU⟩
        have n1_ : Aside0 ((((w34.setCell ⟨gb436, 0, none⟩ (.int .i64 t434)).setCell ⟨gb436, 1, none⟩ (.bool ((bt a0 (ji4)) == 99))).setCell ⟨gb436, 2, none⟩ (.int .i64 t435)).heap[gb436]? = some (.cells #[.int .i64 t434, .bool ((bt a0 (ji4)) == 99), .int .i64 t435] 25 (0, 0))) := ⟨bkU⟩
        have n2_ : Aside0 (Below w.heap.size w (((w34.setCell ⟨gb436, 0, none⟩ (.int .i64 t434)).setCell ⟨gb436, 1, none⟩ (.bool ((bt a0 (ji4)) == 99))).setCell ⟨gb436, 2, none⟩ (.int .i64 t435))) := ⟨hbU⟩
        (try clear BK432); (try clear BK436); (try clear HB)
        generalize (((w34.setCell ⟨gb436, 0, none⟩ (.int .i64 t434)).setCell ⟨gb436, 1, none⟩ (.bool ((bt a0 (ji4)) == 99))).setCell ⟨gb436, 2, none⟩ (.int .i64 t435)) = w38 at n0_ n1_ n2_ ⊢
        have BK432 := n0_
        have BK436 := n1_
        have HB := n2_
        clear n0_ n1_ n2_
        have n0_ := Aside0.mk (blk_drew BK432.out)
        have n1_ := Aside0.mk (blk_drew BK436.out)
        have n2_ := Aside0.mk (below_drew1 HB.out)
        clear BK432
        clear BK436
        clear HB
        have BK432 := n0_
        have BK436 := n1_
        have HB := n2_
        clear n0_ n1_ n2_
        refine start_ (n := 11) (S := fun w' => w'.cell? ⟨gb436, 0, none⟩ = some (.int .i64 t434) ∧ w'.cell? ⟨gb436, 1, none⟩ = some (.bool ((bt a0 (ji4)) == 99)) ∧ w'.cell? ⟨gb436, 2, none⟩ = some (.int .i64 t435)) (ds := []) #[false, false, false, false, false, false, false, false, false, false, false] (by kernel_rfl) rfl rfl (c3U BK436) (fun hHeld => ?_); refine with_tabW spec_frParse.tab5 spec_frParse.bits5 (fun HT_ HW_ => ?_)
        generalize w38.drew = w39 at BK432 BK436 HB hHeld ⊢
        refine tkU 0 28 HT_ HW_ hHeld ?_
        refine tkU 1 29 HT_ HW_ hHeld ?_
        refine onU 2 (some 30) HT_ (fun K hK => ?_)
        refine goes_ Tryz.func78 (by kernel_rfl) rfl #[.agg #[.int .i64 t434, .bool ((bt a0 (ji4)) == 99), .int .i64 t435]] (by rfl) rfl rfl (by (try simp only [List.map_toArray, List.map_cons, List.map_nil]); first | done | (simp only [hji4]; rfl) | rfl | (simp only [List.length_drop, List.length_take]; rfl)) ?_
        with_reducible refine (spec_frGood.calls t434 ((bt a0 (ji4)) == 99) t435 false _ A14.out).mono ?_
        rintro e w40 ⟨rfl, hb⟩
        refine ⟨_, rfl, ?_⟩
        have n0_ := bbU BK432 hb
        have n1_ := Aside0.mk (blk_below (g := gb436) (o := .cells #[.int .i64 t434, .bool ((bt a0 (ji4)) == 99), .int .i64 t435] 25 (0, 0)) bkU hb)
        have n2_ := bsU hb
        clear BK432
        clear BK436
        clear HB
        have BK432 := n0_
        have BK436 := n1_
        have HB := n2_
        clear n0_ n1_ n2_
        (try clear hb)
        refine hK.out _ _ (c3U BK436) (fun hHeld => ?_)
        clear hK K
        refine norm_ (a' := ?_) ?_ ?_
        rotate_left
        ·show Act.put _ (some 30) _ = _
         simp only [Act.put, List.setIfInBounds_toArray, List.set_cons_zero, List.set_cons_succ, i64_w, i32_w]
         rfl
        refine puU 3 31 HT_ ?_
        refine pfU 4 32 HT_ ?_
        refine pfU 5 33 HT_ ?_
        refine pfU 6 34 HT_ ?_
        refine pfU 7 35 HT_ ?_
        refine puU 8 36 HT_ ?_
        refine onU 9 none HT_ (fun K hK => ?_)
        have hs41 : w40.cell? ⟨gb432, 0, none⟩ = some (.int .i64 0) := (blk_cell BK432.out 0).trans rfl
        have hfs41 := blk_frozen BK432.out 0
        have hns41_1 := NB436_432.out
        have hms41_1 := NB432_436.out
        have hs42 : w40.cell? ⟨gb432, 1, none⟩ = some (.bool false) := (blk_cell BK432.out 1).trans rfl
        have hfs42 := blk_frozen BK432.out 1
        have hns42_1 := NB436_432.out
        have hms42_1 := NB432_436.out
        have hs43 : w40.cell? ⟨gb432, 2, none⟩ = some (.int .i64 0) := (blk_cell BK432.out 2).trans rfl
        have hfs43 := blk_frozen BK432.out 2
        have hns43_1 := NB436_432.out
        have hms43_1 := NB432_436.out
        refine skip_ (w1 := ?_) (by rfl) rfl ?_ ?_
        rotate_left
        ·go_simp
         rfl
        refine hK.out _ _ ⟨((cell_far (p := ⟨gb432, _, none⟩) NB436_432.out _).trans (((cell_far (p := ⟨gb432, _, none⟩) NB436_432.out _).trans (((cell_far (p := ⟨gb432, _, none⟩) NB436_432.out _).trans (hHeld.1)))))), ((cell_far (p := ⟨gb432, _, none⟩) NB436_432.out _).trans (((cell_far (p := ⟨gb432, _, none⟩) NB436_432.out _).trans (((cell_far (p := ⟨gb432, _, none⟩) NB436_432.out _).trans (hHeld.2.1)))))), ((cell_far (p := ⟨gb432, _, none⟩) NB436_432.out _).trans (((cell_far (p := ⟨gb432, _, none⟩) NB436_432.out _).trans (((cell_far (p := ⟨gb432, _, none⟩) NB436_432.out _).trans (hHeld.2.2))))))⟩ (fun hHeld => ?_)
        clear hK K
        refine puU 10 3 HT_ ?_
        refine dnU HT_ ?_
        try go_wp2
        refine bodyPost_ret (results_ct rfl _ _ gb432 25 #[.int .i64 t434, .bool ((bt a0 (ji4)) == 99), .int .i64 t435] (0, 0) _ rfl bkU Tryz.underlying25 rfl (by kernel_rfl)) rfl ?_
        exact ⟨by first | rfl | (simp [errW_none, errW_some] <;> rfl) | (simp only [← hji4, ← hji10]; first | rfl | (simp [errW_none, errW_some] <;> rfl)) | (simp [*, errW_none, errW_some] <;> rfl), hbU⟩
      ·rw [if_neg c12] at H
       exact absurd H (by simp)
     ·rw [if_neg c11] at H
      exact absurd H (by simp)
    ·rw [if_neg c8] at H
     exact absurd H (by simp)
   ·rw [if_neg c6] at H
    exact absurd H (by simp)
  ·rw [if_neg c5] at H
   exact absurd H (by simp)
 ·replace c3 := Bool.eq_false_iff.mpr c3
  subst c3
  rw [if_neg (show ¬ (false = true) by decide)] at H
  simp only [Option.some.injEq, Prod.mk.injEq] at H
  obtain ⟨rfl, rfl, rfl, rfl⟩ := H
  go_enter Tryz.func99, Tryz.ntmps99
  go_wp2_with (first | ((with_reducible refine gate_dst (N := 2) rfl ?_); refine bxU (cs := #[.int .i64 0, .bool false, .int .i64 0]) (t := 25) ?_; intro gb432 hg w44 hbox hb; have n0_ := bsU hb; have n1_ := Aside0.mk (hbox); have n2_ := geU hg; have n3_ := geU hg; clear HB; have HB := n0_; have BK432 := n1_; have GW432 := n2_; have GE432 := n3_; clear n0_ n1_ n2_ n3_; clear hb hbox hg) | ((with_reducible refine gate_callee (f := 96) rfl ?_); refine goU (some 8) Tryz.func96 #[.int .i64 (a0.size : Int), .int .i64 3, .int .i64 4] ?_; (with_reducible refine (spec_l1In.calls (a0.size : Int) 3 4 false _ A2.out).mono ?_); rintro e w' ⟨rfl, ⟨nd, rfl⟩⟩; refine ⟨_, rfl, ?_⟩; (try (rw [drewN_self w44]; generalize hq_ : World.drewN w44 _ = w44; have n0_ : Aside0 (w44.heap[gb432]? = some (.cells #[.int .i64 0, .bool false, .int .i64 0] 25 (0, 0))) := ⟨by rw [← hq_]; exact bkU⟩; have n1_ : Aside0 (Below w.heap.size w w44) := ⟨by rw [← hq_]; exact hbU⟩; clear BK432 HB hq_; have BK432 := n0_; have HB := n1_; clear n0_ n1_)); obtain ⟨hcz45_0, hcz45_1, hcz45_2, hfz45_0, hfz45_1, hfz45_2⟩ := b3U BK432))
  refine bodyPost_ret (results_ct rfl _ _ gb432 25 #[.int .i64 0, .bool false, .int .i64 0] (0, 0) _ rfl bkU Tryz.underlying25 rfl (by kernel_rfl)) rfl ?_
  exact ⟨by first | rfl | (simp [errW_none, errW_some] <;> rfl) | (simp [*, errW_none, errW_some] <;> rfl), hbU⟩
end Go.Proofs.YtcmlmjgoidpabaaGreatDoor.MFnFramesPotted

