/- Walks of the functions that the law reaches: each comes to just what the function that is told of it tells, for all arguments. -/
import Derived.Deep.CutRange
import Derived.Test.YtcmlmjgoidpabaaDoorZMFnFramesCountedx14a
import Derived.Test.YtcmlmjgoidpabaaDoorZMFnFramesCountedx0
import Derived.Test.YtcmlmjgoidpabaaDoorZMFnFramesCountedx1
import Derived.Test.YtcmlmjgoidpabaaDoorZMFnFramesCountedx2
import Derived.Test.YtcmlmjgoidpabaaDoorZMFnFramesCountedx5
import Derived.Test.YtcmlmjgoidpabaaDoorZMFnFramesCountedx6
import Derived.Test.YtcmlmjgoidpabaaDoorZMFnFramesCountedx7
import Derived.Test.YtcmlmjgoidpabaaDoorZMFnFramesCountedx8
import Derived.Test.YtcmlmjgoidpabaaDoorZMFnFramesCountedx9
import Derived.Test.YtcmlmjgoidpabaaDoorZMFnFramesCountedx12
import Derived.Test.YtcmlmjgoidpabaaDoorZMFnFramesCountedx13
namespace Go.Proofs.YtcmlmjgoidpabaaDoor.MFnFramesCounted
open Go.RowKit Go.Proofs.YtcmlmjgoidpabaaDoorW.PrintWords Go.Proofs.YtcmlmjgoidpabaaDoorW.PrintLast Go.Proofs.YtcmlmjgoidpabaaDoorW.PrintMore
set_option linter.unusedVariables false
set_option linter.unusedSimpArgs false
set_option maxHeartbeats 8000000 in
set_option maxRecDepth 100000 in
theorem laws_FnFramesCounted.calls (k : Nat) (A0 : Option Addr) (c0 : Nat) (l0 : List Int) (A1 : Option Addr) (c1 : Nat) (l1 : List Int) (r : Bool) (w : World) (hr0 : Kd.C (Kd.int .u8) w A0 l0.length l0) (hc0 : l0.length ≤ c0) (hr1 : Kd.C (Kd.int .u8) w A1 l1.length l1) (hc1 : l1.length ≤ c1) (h : laws_FnFramesCounted.f k l0 l1 = some r) :
  Calls Tryd.prog 3 #[.slice A0 l0.length c0, .slice A1 l1.length c1] w fun e w' => e = .returned (.bool r) ∧ Below w.heap.size w w' := by
 have hu25 := Tryd.underlying25
 have HR0 := Aside0.mk hr0
 have HC0 := Aside0.mk hc0
 clear hr0 hc0
 have HR1 := Aside0.mk hr1
 have HC1 := Aside0.mk hc1
 clear hr1 hc1
 have HB := Aside0.mk (Below.refl w.heap.size w)
 have H : ((laws_big.f l0 l1).bind fun t511 => (if t511 = true then (some true) else ((spec_DrawFirstWithPoints.f l0).bind fun bt512 => ((impl_FirstWithPoints.f k bt512.1 bt512.2.1 bt512.2.2.1 bt512.2.2.2).bind fun bt517 => ((spec_FirstWithPoints.f k bt512.1 bt512.2.1 bt512.2.2.1 bt512.2.2.2).bind fun bt519 => ((impl_CountByPoints.f k bt512.1 bt512.2.1 bt512.2.2.1 bt512.2.2.2).bind fun bt521 => ((spec_CountByPoints.f k bt512.1 bt512.2.1 bt512.2.2.1 bt512.2.2.2).bind fun bt523 => (if (bt517.2 != bt519.2) = true then (laws_FnFramesCounted.j0 k l1 bt512.2.2.2 bt517.1 bt517.2 true bt512.1 bt512.2.1 bt512.2.2.1) else (if bt517.1.toList = bt519.1.toList then (if (bt521.2 != bt523.2) = true then (laws_FnFramesCounted.j0 k l1 bt512.2.2.2 bt517.1 bt517.2 true bt512.1 bt512.2.1 bt512.2.2.1) else (if bt521.1 = bt523.1 then (if bt521.2 = true then (laws_FnFramesCounted.j0 k l1 bt512.2.2.2 bt517.1 bt517.2 (bt517.2 != (decide (bt521.1 > 0))) bt512.1 bt512.2.1 bt512.2.2.1) else (laws_FnFramesCounted.j0 k l1 bt512.2.2.2 bt517.1 bt517.2 false bt512.1 bt512.2.1 bt512.2.2.1)) else (laws_FnFramesCounted.j0 k l1 bt512.2.2.2 bt517.1 bt517.2 true bt512.1 bt512.2.1 bt512.2.2.1))) else (laws_FnFramesCounted.j0 k l1 bt512.2.2.2 bt517.1 bt517.2 true bt512.1 bt512.2.1 bt512.2.2.1)))))))))) = some r := h
 clear h
 replace H := Option.bind_eq_some_iff.mp H
 obtain ⟨t511, A30, H⟩ := H
 (try dsimp only at H)
 have A3 := Aside0.mk A30
 clear A30
 by_cases c4 : t511 = true
 ·subst c4
  rw [if_pos rfl] at H
  obtain rfl := Option.some.inj H
  go_enter Tryd.func3, Tryd.ntmps3
  go_wp2_with (first | ((with_reducible refine gate_callee (f := 4) rfl ?_); refine goU (some 64) Tryd.func4 #[.slice A0 l0.length c0, .slice A1 l1.length c1] ?_; (with_reducible refine (laws_big.calls _ _ l0 _ _ l1 true _ ?side1 ?side2 ?side3 ?side4 A3.out).mono ?_); (case side1 => repeat (first | exact HR0.out | (with_reducible refine Kd.C_alloc ?_ _) | (with_reducible refine Kd.C_drewN ?_ _) | (with_reducible refine Kd.C_drew ?_))); (case side2 => exact HC0.out); (case side3 => repeat (first | exact HR1.out | (with_reducible refine Kd.C_alloc ?_ _) | (with_reducible refine Kd.C_drewN ?_ _) | (with_reducible refine Kd.C_drew ?_))); (case side4 => exact HC1.out); rintro e w' ⟨rfl, ⟨nd, rfl⟩⟩; refine ⟨_, rfl, ?_⟩))
  go_ret
  exact ⟨by first | rfl | (simp [errW_none, errW_some] <;> rfl) | (simp [*, errW_none, errW_some] <;> rfl), hbU⟩
 ·replace c4 := Bool.eq_false_iff.mpr c4
  subst c4
  rw [if_neg (show ¬ (false = true) by decide)] at H
  replace H := Option.bind_eq_some_iff.mp H
  obtain ⟨⟨t512, t513, t514, t515⟩, A50, H⟩ := H
  (try dsimp only at H)
  have A5 := Aside0.mk A50
  clear A50
  replace H := Option.bind_eq_some_iff.mp H
  obtain ⟨⟨t517, t518⟩, A60, H⟩ := H
  (try dsimp only at H)
  have A6 := Aside0.mk A60
  clear A60
  replace H := Option.bind_eq_some_iff.mp H
  obtain ⟨⟨t519, t520⟩, A70, H⟩ := H
  (try dsimp only at H)
  have A7 := Aside0.mk A70
  clear A70
  replace H := Option.bind_eq_some_iff.mp H
  obtain ⟨⟨t521, t522⟩, A80, H⟩ := H
  (try dsimp only at H)
  have A8 := Aside0.mk A80
  clear A80
  replace H := Option.bind_eq_some_iff.mp H
  obtain ⟨⟨t523, t524⟩, A90, H⟩ := H
  (try dsimp only at H)
  have A9 := Aside0.mk A90
  clear A90
  have HC10 := Aside0.mk H
  clear H
  go_enter Tryd.func3, Tryd.ntmps3
  go_upto_region 8 with (first | ((with_reducible refine gate_callee (f := 4) rfl ?_); refine goU (some 64) Tryd.func4 #[.slice A0 l0.length c0, .slice A1 l1.length c1] ?_; (with_reducible refine (laws_big.calls _ _ l0 _ _ l1 false _ ?side1 ?side2 ?side3 ?side4 A3.out).mono ?_); (case side1 => repeat (first | exact HR0.out | (with_reducible refine Kd.C_alloc ?_ _) | (with_reducible refine Kd.C_drewN ?_ _) | (with_reducible refine Kd.C_drew ?_))); (case side2 => exact HC0.out); (case side3 => repeat (first | exact HR1.out | (with_reducible refine Kd.C_alloc ?_ _) | (with_reducible refine Kd.C_drewN ?_ _) | (with_reducible refine Kd.C_drew ?_))); (case side4 => exact HC1.out); rintro e w' ⟨rfl, ⟨nd, rfl⟩⟩; refine ⟨_, rfl, ?_⟩) | ((with_reducible refine gate_callee (f := 5) rfl ?_); refine goU (some 67) Tryd.func5 #[.slice A0 l0.length c0] ?_; (with_reducible refine (spec_DrawFirstWithPoints.calls _ _ l0 t512 t513 t514 t515 _ ?side1 ?side2 A5.out).mono ?_); (case side1 => repeat (first | exact HR0.out | (with_reducible refine Kd.C_alloc ?_ _) | (with_reducible refine Kd.C_drewN ?_ _) | (with_reducible refine Kd.C_drew ?_))); (case side2 => exact HC0.out); rintro e w11 ⟨rfl, hb⟩; refine ⟨_, rfl, ?_⟩; have n0_ := bsU hb; clear HB; have HB := n0_; clear n0_; (try clear hb); (try clear hb2); (try clear hk); (try clear hi)) | ((with_reducible refine gate_dst (N := 5) rfl ?_); (try (refine gate_guard (by rfl) ?_; dsimp only)); refine bxU (cs := #[.int .i64 0, .bool false, .int .i64 0]) (t := 25) ?_; intro gb516 hg w12 hbox hb; have n0_ := bsU hb; have n1_ := Aside0.mk (hbox); have n2_ := geU hg; have n3_ := geU hg; clear HB; have HB := n0_; have BK516 := n1_; have GW516 := n2_; have GE516 := n3_; clear n0_ n1_ n2_ n3_; clear hb hbox hg; obtain ⟨hcz13_0, hcz13_1, hcz13_2, hfz13_0, hfz13_1, hfz13_2⟩ := b3U BK516) | ((with_reducible refine gate_callee (f := 6) rfl ?_); refine goU (some 73) Tryd.func6 #[.agg #[.int .i64 t512, .bool t513, .int .i64 t514], .int .i64 t515] ?_; (with_reducible refine (impl_FirstWithPoints.calls k t512 t513 t514 t515 t517 t518 _ A6.out).mono ?_); rintro e w14 ⟨rfl, hb⟩; refine ⟨_, rfl, ?_⟩; have n0_ := Aside0.mk (blk_below (g := gb516) (o := .cells #[.int .i64 t512, .bool t513, .int .i64 t514] 25 (0, 0)) bkU hb); have n1_ := bsU hb; clear BK516; clear HB; have BK516 := n0_; have HB := n1_; clear n0_ n1_; (try clear hb); (try clear hb2); (try clear hk); (try clear hi); obtain ⟨hcz15_0, hcz15_1, hcz15_2, hfz15_0, hfz15_1, hfz15_2⟩ := b3U BK516) | ((with_reducible refine gate_callee (f := 7) rfl ?_); refine goU (some 79) Tryd.func7 #[.agg #[.int .i64 t512, .bool t513, .int .i64 t514], .int .i64 t515] ?_; (with_reducible refine (spec_FirstWithPoints.calls k t512 t513 t514 t515 t519 t520 _ A7.out).mono ?_); rintro e w16 ⟨rfl, hb⟩; refine ⟨_, rfl, ?_⟩; have n0_ := bbU BK516 hb; have n1_ := bsU hb; clear BK516; clear HB; have BK516 := n0_; have HB := n1_; clear n0_ n1_; (try clear hb); (try clear hb2); (try clear hk); (try clear hi); obtain ⟨hcz17_0, hcz17_1, hcz17_2, hfz17_0, hfz17_1, hfz17_2⟩ := b3U BK516) | ((with_reducible refine gate_callee (f := 8) rfl ?_); refine goU (some 85) Tryd.func8 #[.agg #[.int .i64 t512, .bool t513, .int .i64 t514], .int .i64 t515] ?_; (with_reducible refine (impl_CountByPoints.calls k t512 t513 t514 t515 t521 t522 _ A8.out).mono ?_); rintro e w18 ⟨rfl, hb⟩; refine ⟨_, rfl, ?_⟩; have n0_ := bbU BK516 hb; have n1_ := bsU hb; clear BK516; clear HB; have BK516 := n0_; have HB := n1_; clear n0_ n1_; (try clear hb); (try clear hb2); (try clear hk); (try clear hi); obtain ⟨hcz19_0, hcz19_1, hcz19_2, hfz19_0, hfz19_1, hfz19_2⟩ := b3U BK516) | ((with_reducible refine gate_callee (f := 9) rfl ?_); refine goU (some 91) Tryd.func9 #[.agg #[.int .i64 t512, .bool t513, .int .i64 t514], .int .i64 t515] ?_; (with_reducible refine (spec_CountByPoints.calls k t512 t513 t514 t515 t523 t524 _ A9.out).mono ?_); rintro e w20 ⟨rfl, hb⟩; refine ⟨_, rfl, ?_⟩; have n0_ := bbU BK516 hb; have n1_ := bsU hb; clear BK516; clear HB; have BK516 := n0_; have HB := n1_; clear n0_ n1_; (try clear hb); (try clear hb2); (try clear hk); (try clear hi)))
  (try simp only [Act.put, List.setIfInBounds_toArray, List.set_cons_zero, List.set_cons_succ])
  go_cut [120] from 9999 to 9999 (fun v120 wc => ∃ (kq : Nat) (x120_9 : Bool), v120 = .bool x120_9 ∧ Aside0 (laws_FnFramesCounted.j0 kq l1 t515 t517 t518 x120_9 t512 t513 t514 = some r) ∧ Aside0 (kq ≤ k) ∧ Aside0 (wc.heap[gb516]? = some (.cells #[.int .i64 t512, .bool t513, .int .i64 t514] 25 (0, 0))) ∧ Aside0 (Below w.heap.size w wc))
  case first => as_aux_lemma =>
   have H := HC10.out
   clear HC10
   by_cases c21 : (t518 != t520) = true
   ·rw [if_pos c21] at H
    have c21b0 : (t518 != t520) = true := c21
    (try (have c21b1 : decide (t518 = t520) = false := by simpa using c21))
    (try (have c21b2 : (t518 == t520) = false := by simpa using c21))
    (try (have c21b3 : ¬ (t518 = t520) := by simpa using c21))
    clear c21
    (first | rw [c21b0] | (simp only [i64_w, i32_w]; rw [c21b0]) | skip)
    have H' := Aside0.mk H
    clear H
    go_wp2
    go_meet
    case rel => exact ⟨_, (true), eqU, H', ⟨by first | omega | exact Nat.le_refl _⟩, ⟨bkU⟩, ⟨hbU⟩⟩
   ·rw [if_neg c21] at H
    have c21b0 : (t518 != t520) = false := by simpa using c21
    (try (have c21b1 : decide (t518 = t520) = true := by simpa using c21))
    (try (have c21b2 : (t518 == t520) = true := by simpa using c21))
    clear c21
    (first | rw [c21b0] | (simp only [i64_w, i32_w]; rw [c21b0]) | skip)
    by_cases c22 : t517.toList = t519.toList
    ·rw [if_pos c22] at H
     have c22b0 : (t517.toList == t519.toList) = true := beq_iff_eq.mpr c22
     have c22b1 : (t517.toList != t519.toList) = false := bne_eq_false_iff_eq.mpr c22
     clear c22
     by_cases c23 : (t522 != t524) = true
     ·rw [if_pos c23] at H
      have c23b0 : (t522 != t524) = true := c23
      (try (have c23b1 : decide (t522 = t524) = false := by simpa using c23))
      (try (have c23b2 : (t522 == t524) = false := by simpa using c23))
      (try (have c23b3 : ¬ (t522 = t524) := by simpa using c23))
      clear c23
      have H' := Aside0.mk H
      clear H
      go_wp2
      go_meet
      case rel => exact ⟨_, (true), eqU, H', ⟨by first | omega | exact Nat.le_refl _⟩, ⟨bkU⟩, ⟨hbU⟩⟩
     ·rw [if_neg c23] at H
      have c23b0 : (t522 != t524) = false := by simpa using c23
      (try (have c23b1 : decide (t522 = t524) = true := by simpa using c23))
      (try (have c23b2 : (t522 == t524) = true := by simpa using c23))
      clear c23
      by_cases c24 : t521 = t523
      ·rw [if_pos c24] at H
       have c24b0 : (t521 == t523) = true := beq_iff_eq.mpr c24
       have c24b1 : (t521 != t523) = false := bne_eq_false_iff_eq.mpr c24
       clear c24
       by_cases c25 : t522 = true
       ·subst c25
        rw [if_pos rfl] at H
        have H' := Aside0.mk H
        clear H
        go_wp2
        go_meet
        case rel => exact ⟨_, ((t518 != (decide (t521 > 0)))), eqU, H', ⟨by first | omega | exact Nat.le_refl _⟩, ⟨bkU⟩, ⟨hbU⟩⟩
       ·replace c25 := Bool.eq_false_iff.mpr c25
        subst c25
        rw [if_neg (show ¬ (false = true) by decide)] at H
        have H' := Aside0.mk H
        clear H
        go_wp2
        go_meet
        case rel => exact ⟨_, (false), eqU, H', ⟨by first | omega | exact Nat.le_refl _⟩, ⟨bkU⟩, ⟨hbU⟩⟩
      ·rw [if_neg c24] at H
       have c24b0 : (t521 == t523) = false := beq_eq_false_iff_ne.mpr c24
       have c24b1 : (t521 != t523) = true := bne_iff_ne.mpr c24
       have H' := Aside0.mk H
       clear H
       go_wp2
       go_meet
       case rel => exact ⟨_, (true), eqU, H', ⟨by first | omega | exact Nat.le_refl _⟩, ⟨bkU⟩, ⟨hbU⟩⟩
    ·rw [if_neg c22] at H
     have c22b0 : (t517.toList == t519.toList) = false := beq_eq_false_iff_ne.mpr c22
     have c22b1 : (t517.toList != t519.toList) = true := bne_iff_ne.mpr c22
     have H' := Aside0.mk H
     clear H
     go_wp2
     go_meet
     case rel => exact ⟨_, (true), eqU, H', ⟨by first | omega | exact Nat.le_refl _⟩, ⟨bkU⟩, ⟨hbU⟩⟩
  case rest => as_aux_lemma =>
   clear HC10
   (try clear c1); (try clear c4); (try clear c21); (try clear c21b0); (try clear c21b1); (try clear c21b2); (try clear c22); (try clear c22b0); (try clear c22b1); (try clear c23); (try clear c23b0); (try clear c23b1); (try clear c23b2); (try clear c24); (try clear c24b0); (try clear c24b1); (try clear c25); (try clear hcz13_0); (try clear hcz13_1); (try clear hcz13_2); (try clear hcz15_0); (try clear hcz15_1); (try clear hcz15_2); (try clear hcz17_0); (try clear hcz17_1); (try clear hcz17_2); (try clear hcz19_0); (try clear hcz19_1); (try clear hcz19_2); (try clear hfz13_0); (try clear hfz13_1); (try clear hfz13_2); (try clear hfz15_0); (try clear hfz15_1); (try clear hfz15_2); (try clear hfz17_0); (try clear hfz17_1); (try clear hfz17_2); (try clear hfz19_0); (try clear hfz19_1); (try clear hfz19_2)
   obtain ⟨kq, x120_9, rfl, HA, HJ9, BK516, HB⟩ := hcut
   cases kq with
   | zero => exact absurd HA.out (by simp [laws_FnFramesCounted.j0])
   | succ kj9 =>
    have H := HA.out
    clear HA
    simp only [laws_FnFramesCounted.j0] at H
    by_cases c26 : x120_9 = true
    ·subst c26
     rw [if_pos rfl] at H
     obtain rfl := Option.some.inj H
     go_wp2
     go_ret
     exact ⟨by first | rfl | (simp [errW_none, errW_some] <;> rfl) | (simp [*, errW_none, errW_some] <;> rfl), hbU⟩
    ·replace c26 := Bool.eq_false_iff.mpr c26
     subst c26
     rw [if_neg (show ¬ (false = true) by decide)] at H
     have HC27 := Aside0.mk H
     clear H
     go_upto_if 121 with (fail)
     go_cut [] from 9999 to 9999 (fun wc => ∃ (kq : Nat), Aside0 (laws_FnFramesCounted.j1 kq l1 = some r) ∧ Aside0 (kq ≤ kj9) ∧ Aside0 (wc.heap[gb516]? = some (.cells #[.int .i64 t512, .bool t513, .int .i64 t514] 25 (0, 0))) ∧ Aside0 (Below w.heap.size w wc))
     case first => as_aux_lemma =>
      have H := HC27.out
      clear HC27
      by_cases c28 : t518 = true
      ·subst c28
       rw [if_pos rfl] at H
       replace H := Option.bind_eq_some_iff.mp H
       obtain ⟨⟨t525, t526⟩, A290, H⟩ := H
       (try dsimp only at H)
       have A29 := Aside0.mk A290
       clear A290
       replace H := Option.bind_eq_some_iff.mp H
       obtain ⟨⟨t527, t528⟩, A300, H⟩ := H
       (try dsimp only at H)
       have A30 := Aside0.mk A300
       clear A300
       replace H := Option.bind_eq_some_iff.mp H
       obtain ⟨⟨t529, t530⟩, A310, H⟩ := H
       (try dsimp only at H)
       have A31 := Aside0.mk A310
       clear A310
       by_cases c32 : t526 = true
       ·subst c32
        rw [if_pos rfl] at H
        by_cases c33 : t525 = true
        ·subst c33
         rw [if_pos rfl] at H
         by_cases c34 : t528 = true
         ·subst c34
          rw [if_pos rfl] at H
          by_cases c35 : t527 = t515
          ·rw [if_pos c35] at H
           have c35b0 : (t527 == t515) = true := beq_iff_eq.mpr c35
           have c35b1 : (t527 != t515) = false := bne_eq_false_iff_eq.mpr c35
           clear c35
           (first | rw [c35b0] | (simp only [i64_w, i32_w]; rw [c35b0]) | skip)
           by_cases c36 : t530 = true
           ·subst c36
            rw [if_pos rfl] at H
            by_cases c37 : t515 > t529
            ·rw [if_pos c37] at H
             have c37b0 : decide (t529 < t515) = true := decide_eq_true c37
             clear c37
             obtain rfl := Option.some.inj H
             obtain ⟨hcz38_0, hcz38_1, hcz38_2, hfz38_0, hfz38_1, hfz38_2⟩ := b3U BK516
             go_wp2_with (first | ((with_reducible refine gate_callee (f := 10) rfl ?_); refine goU (some 125) Tryd.func10 #[.agg #[.int .i64 t512, .bool t513, .int .i64 t514], .string t517] ?_; (with_reducible refine (impl_IsBreak.calls kj9 t512 t513 t514 t517 true true _ A29.out).mono ?_); rintro e w39 ⟨rfl, hb⟩; refine ⟨_, rfl, ?_⟩; have n0_ := bbU BK516 hb; have n1_ := bsU hb; clear BK516; clear HB; have BK516 := n0_; have HB := n1_; clear n0_ n1_; (try clear hb); (try clear hb2); (try clear hk); (try clear hi)) | ((with_reducible refine gate_callee (f := 11) rfl ?_); refine goU (some 130) Tryd.func11 #[.string t517] ?_; (with_reducible refine (impl_PointsOf.calls kj9 t517 t527 true _ A30.out).mono ?_); rintro e w40 ⟨rfl, hb⟩; refine ⟨_, rfl, ?_⟩; have n0_ := bbU BK516 hb; have n1_ := bsU hb; clear BK516; clear HB; have BK516 := n0_; have HB := n1_; clear n0_ n1_; (try clear hb); (try clear hb2); (try clear hk); (try clear hi); obtain ⟨hcz41_0, hcz41_1, hcz41_2, hfz41_0, hfz41_1, hfz41_2⟩ := b3U BK516) | ((with_reducible refine gate_callee (f := 12) rfl ?_); refine goU (some 135) Tryd.func12 #[.agg #[.int .i64 t512, .bool t513, .int .i64 t514]] ?_; (with_reducible refine (impl_PointsLeft.calls kj9 t512 t513 t514 t529 true _ A31.out).mono ?_); rintro e w42 ⟨rfl, hb⟩; refine ⟨_, rfl, ?_⟩; have n0_ := bbU BK516 hb; have n1_ := bsU hb; clear BK516; clear HB; have BK516 := n0_; have HB := n1_; clear n0_ n1_; (try clear hb); (try clear hb2); (try clear hk); (try clear hi)))
             go_ret
             exact ⟨by first | rfl | (simp [errW_none, errW_some] <;> rfl) | (simp [*, errW_none, errW_some] <;> rfl), hbU⟩
            ·rw [if_neg c37] at H
             have c37b0 : decide (t529 < t515) = false := decide_eq_false c37
             clear c37
             have H' := Aside0.mk H
             clear H
             obtain ⟨hcz43_0, hcz43_1, hcz43_2, hfz43_0, hfz43_1, hfz43_2⟩ := b3U BK516
             go_wp2_with (first | ((with_reducible refine gate_callee (f := 10) rfl ?_); refine goU (some 125) Tryd.func10 #[.agg #[.int .i64 t512, .bool t513, .int .i64 t514], .string t517] ?_; (with_reducible refine (impl_IsBreak.calls kj9 t512 t513 t514 t517 true true _ A29.out).mono ?_); rintro e w44 ⟨rfl, hb⟩; refine ⟨_, rfl, ?_⟩; have n0_ := bbU BK516 hb; have n1_ := bsU hb; clear BK516; clear HB; have BK516 := n0_; have HB := n1_; clear n0_ n1_; (try clear hb); (try clear hb2); (try clear hk); (try clear hi)) | ((with_reducible refine gate_callee (f := 11) rfl ?_); refine goU (some 130) Tryd.func11 #[.string t517] ?_; (with_reducible refine (impl_PointsOf.calls kj9 t517 t527 true _ A30.out).mono ?_); rintro e w45 ⟨rfl, hb⟩; refine ⟨_, rfl, ?_⟩; have n0_ := bbU BK516 hb; have n1_ := bsU hb; clear BK516; clear HB; have BK516 := n0_; have HB := n1_; clear n0_ n1_; (try clear hb); (try clear hb2); (try clear hk); (try clear hi); obtain ⟨hcz46_0, hcz46_1, hcz46_2, hfz46_0, hfz46_1, hfz46_2⟩ := b3U BK516) | ((with_reducible refine gate_callee (f := 12) rfl ?_); refine goU (some 135) Tryd.func12 #[.agg #[.int .i64 t512, .bool t513, .int .i64 t514]] ?_; (with_reducible refine (impl_PointsLeft.calls kj9 t512 t513 t514 t529 true _ A31.out).mono ?_); rintro e w47 ⟨rfl, hb⟩; refine ⟨_, rfl, ?_⟩; have n0_ := bbU BK516 hb; have n1_ := bsU hb; clear BK516; clear HB; have BK516 := n0_; have HB := n1_; clear n0_ n1_; (try clear hb); (try clear hb2); (try clear hk); (try clear hi)))
             go_meet
             case rel => exact ⟨_, H', ⟨by have := HJ9.out; first | omega | exact Nat.le_refl _⟩, ⟨bkU⟩, ⟨hbU⟩⟩
           ·replace c36 := Bool.eq_false_iff.mpr c36
            subst c36
            rw [if_neg (show ¬ (false = true) by decide)] at H
            obtain rfl := Option.some.inj H
            obtain ⟨hcz48_0, hcz48_1, hcz48_2, hfz48_0, hfz48_1, hfz48_2⟩ := b3U BK516
            go_wp2_with (first | ((with_reducible refine gate_callee (f := 10) rfl ?_); refine goU (some 125) Tryd.func10 #[.agg #[.int .i64 t512, .bool t513, .int .i64 t514], .string t517] ?_; (with_reducible refine (impl_IsBreak.calls kj9 t512 t513 t514 t517 true true _ A29.out).mono ?_); rintro e w49 ⟨rfl, hb⟩; refine ⟨_, rfl, ?_⟩; have n0_ := bbU BK516 hb; have n1_ := bsU hb; clear BK516; clear HB; have BK516 := n0_; have HB := n1_; clear n0_ n1_; (try clear hb); (try clear hb2); (try clear hk); (try clear hi)) | ((with_reducible refine gate_callee (f := 11) rfl ?_); refine goU (some 130) Tryd.func11 #[.string t517] ?_; (with_reducible refine (impl_PointsOf.calls kj9 t517 t527 true _ A30.out).mono ?_); rintro e w50 ⟨rfl, hb⟩; refine ⟨_, rfl, ?_⟩; have n0_ := bbU BK516 hb; have n1_ := bsU hb; clear BK516; clear HB; have BK516 := n0_; have HB := n1_; clear n0_ n1_; (try clear hb); (try clear hb2); (try clear hk); (try clear hi); obtain ⟨hcz51_0, hcz51_1, hcz51_2, hfz51_0, hfz51_1, hfz51_2⟩ := b3U BK516) | ((with_reducible refine gate_callee (f := 12) rfl ?_); refine goU (some 135) Tryd.func12 #[.agg #[.int .i64 t512, .bool t513, .int .i64 t514]] ?_; (with_reducible refine (impl_PointsLeft.calls kj9 t512 t513 t514 t529 false _ A31.out).mono ?_); rintro e w52 ⟨rfl, hb⟩; refine ⟨_, rfl, ?_⟩; have n0_ := bbU BK516 hb; have n1_ := bsU hb; clear BK516; clear HB; have BK516 := n0_; have HB := n1_; clear n0_ n1_; (try clear hb); (try clear hb2); (try clear hk); (try clear hi)))
            go_ret
            exact ⟨by first | rfl | (simp [errW_none, errW_some] <;> rfl) | (simp [*, errW_none, errW_some] <;> rfl), hbU⟩
          ·rw [if_neg c35] at H
           have c35b0 : (t527 == t515) = false := beq_eq_false_iff_ne.mpr c35
           have c35b1 : (t527 != t515) = true := bne_iff_ne.mpr c35
           (first | rw [c35b0] | (simp only [i64_w, i32_w]; rw [c35b0]) | skip)
           obtain rfl := Option.some.inj H
           obtain ⟨hcz53_0, hcz53_1, hcz53_2, hfz53_0, hfz53_1, hfz53_2⟩ := b3U BK516
           go_wp2_with (first | ((with_reducible refine gate_callee (f := 10) rfl ?_); refine goU (some 125) Tryd.func10 #[.agg #[.int .i64 t512, .bool t513, .int .i64 t514], .string t517] ?_; (with_reducible refine (impl_IsBreak.calls kj9 t512 t513 t514 t517 true true _ A29.out).mono ?_); rintro e w54 ⟨rfl, hb⟩; refine ⟨_, rfl, ?_⟩; have n0_ := bbU BK516 hb; have n1_ := bsU hb; clear BK516; clear HB; have BK516 := n0_; have HB := n1_; clear n0_ n1_; (try clear hb); (try clear hb2); (try clear hk); (try clear hi)) | ((with_reducible refine gate_callee (f := 11) rfl ?_); refine goU (some 130) Tryd.func11 #[.string t517] ?_; (with_reducible refine (impl_PointsOf.calls kj9 t517 t527 true _ A30.out).mono ?_); rintro e w55 ⟨rfl, hb⟩; refine ⟨_, rfl, ?_⟩; have n0_ := bbU BK516 hb; have n1_ := bsU hb; clear BK516; clear HB; have BK516 := n0_; have HB := n1_; clear n0_ n1_; (try clear hb); (try clear hb2); (try clear hk); (try clear hi); obtain ⟨hcz56_0, hcz56_1, hcz56_2, hfz56_0, hfz56_1, hfz56_2⟩ := b3U BK516) | ((with_reducible refine gate_callee (f := 12) rfl ?_); refine goU (some 135) Tryd.func12 #[.agg #[.int .i64 t512, .bool t513, .int .i64 t514]] ?_; (with_reducible refine (impl_PointsLeft.calls kj9 t512 t513 t514 t529 t530 _ A31.out).mono ?_); rintro e w57 ⟨rfl, hb⟩; refine ⟨_, rfl, ?_⟩; have n0_ := bbU BK516 hb; have n1_ := bsU hb; clear BK516; clear HB; have BK516 := n0_; have HB := n1_; clear n0_ n1_; (try clear hb); (try clear hb2); (try clear hk); (try clear hi)))
           go_ret
           exact ⟨by first | rfl | (simp [errW_none, errW_some] <;> rfl) | (simp [*, errW_none, errW_some] <;> rfl), hbU⟩
         ·replace c34 := Bool.eq_false_iff.mpr c34
          subst c34
          rw [if_neg (show ¬ (false = true) by decide)] at H
          obtain rfl := Option.some.inj H
          obtain ⟨hcz58_0, hcz58_1, hcz58_2, hfz58_0, hfz58_1, hfz58_2⟩ := b3U BK516
          go_wp2_with (first | ((with_reducible refine gate_callee (f := 10) rfl ?_); refine goU (some 125) Tryd.func10 #[.agg #[.int .i64 t512, .bool t513, .int .i64 t514], .string t517] ?_; (with_reducible refine (impl_IsBreak.calls kj9 t512 t513 t514 t517 true true _ A29.out).mono ?_); rintro e w59 ⟨rfl, hb⟩; refine ⟨_, rfl, ?_⟩; have n0_ := bbU BK516 hb; have n1_ := bsU hb; clear BK516; clear HB; have BK516 := n0_; have HB := n1_; clear n0_ n1_; (try clear hb); (try clear hb2); (try clear hk); (try clear hi)) | ((with_reducible refine gate_callee (f := 11) rfl ?_); refine goU (some 130) Tryd.func11 #[.string t517] ?_; (with_reducible refine (impl_PointsOf.calls kj9 t517 t527 false _ A30.out).mono ?_); rintro e w60 ⟨rfl, hb⟩; refine ⟨_, rfl, ?_⟩; have n0_ := bbU BK516 hb; have n1_ := bsU hb; clear BK516; clear HB; have BK516 := n0_; have HB := n1_; clear n0_ n1_; (try clear hb); (try clear hb2); (try clear hk); (try clear hi); obtain ⟨hcz61_0, hcz61_1, hcz61_2, hfz61_0, hfz61_1, hfz61_2⟩ := b3U BK516) | ((with_reducible refine gate_callee (f := 12) rfl ?_); refine goU (some 135) Tryd.func12 #[.agg #[.int .i64 t512, .bool t513, .int .i64 t514]] ?_; (with_reducible refine (impl_PointsLeft.calls kj9 t512 t513 t514 t529 t530 _ A31.out).mono ?_); rintro e w62 ⟨rfl, hb⟩; refine ⟨_, rfl, ?_⟩; have n0_ := bbU BK516 hb; have n1_ := bsU hb; clear BK516; clear HB; have BK516 := n0_; have HB := n1_; clear n0_ n1_; (try clear hb); (try clear hb2); (try clear hk); (try clear hi)))
          go_ret
          exact ⟨by first | rfl | (simp [errW_none, errW_some] <;> rfl) | (simp [*, errW_none, errW_some] <;> rfl), hbU⟩
        ·replace c33 := Bool.eq_false_iff.mpr c33
         subst c33
         rw [if_neg (show ¬ (false = true) by decide)] at H
         obtain rfl := Option.some.inj H
         obtain ⟨hcz63_0, hcz63_1, hcz63_2, hfz63_0, hfz63_1, hfz63_2⟩ := b3U BK516
         go_wp2_with (first | ((with_reducible refine gate_callee (f := 10) rfl ?_); refine goU (some 125) Tryd.func10 #[.agg #[.int .i64 t512, .bool t513, .int .i64 t514], .string t517] ?_; (with_reducible refine (impl_IsBreak.calls kj9 t512 t513 t514 t517 false true _ A29.out).mono ?_); rintro e w64 ⟨rfl, hb⟩; refine ⟨_, rfl, ?_⟩; have n0_ := bbU BK516 hb; have n1_ := bsU hb; clear BK516; clear HB; have BK516 := n0_; have HB := n1_; clear n0_ n1_; (try clear hb); (try clear hb2); (try clear hk); (try clear hi)) | ((with_reducible refine gate_callee (f := 11) rfl ?_); refine goU (some 130) Tryd.func11 #[.string t517] ?_; (with_reducible refine (impl_PointsOf.calls kj9 t517 t527 t528 _ A30.out).mono ?_); rintro e w65 ⟨rfl, hb⟩; refine ⟨_, rfl, ?_⟩; have n0_ := bbU BK516 hb; have n1_ := bsU hb; clear BK516; clear HB; have BK516 := n0_; have HB := n1_; clear n0_ n1_; (try clear hb); (try clear hb2); (try clear hk); (try clear hi); obtain ⟨hcz66_0, hcz66_1, hcz66_2, hfz66_0, hfz66_1, hfz66_2⟩ := b3U BK516) | ((with_reducible refine gate_callee (f := 12) rfl ?_); refine goU (some 135) Tryd.func12 #[.agg #[.int .i64 t512, .bool t513, .int .i64 t514]] ?_; (with_reducible refine (impl_PointsLeft.calls kj9 t512 t513 t514 t529 t530 _ A31.out).mono ?_); rintro e w67 ⟨rfl, hb⟩; refine ⟨_, rfl, ?_⟩; have n0_ := bbU BK516 hb; have n1_ := bsU hb; clear BK516; clear HB; have BK516 := n0_; have HB := n1_; clear n0_ n1_; (try clear hb); (try clear hb2); (try clear hk); (try clear hi)))
         go_ret
         exact ⟨by first | rfl | (simp [errW_none, errW_some] <;> rfl) | (simp [*, errW_none, errW_some] <;> rfl), hbU⟩
       ·replace c32 := Bool.eq_false_iff.mpr c32
        subst c32
        rw [if_neg (show ¬ (false = true) by decide)] at H
        obtain rfl := Option.some.inj H
        obtain ⟨hcz68_0, hcz68_1, hcz68_2, hfz68_0, hfz68_1, hfz68_2⟩ := b3U BK516
        go_wp2_with (first | ((with_reducible refine gate_callee (f := 10) rfl ?_); refine goU (some 125) Tryd.func10 #[.agg #[.int .i64 t512, .bool t513, .int .i64 t514], .string t517] ?_; (with_reducible refine (impl_IsBreak.calls kj9 t512 t513 t514 t517 t525 false _ A29.out).mono ?_); rintro e w69 ⟨rfl, hb⟩; refine ⟨_, rfl, ?_⟩; have n0_ := bbU BK516 hb; have n1_ := bsU hb; clear BK516; clear HB; have BK516 := n0_; have HB := n1_; clear n0_ n1_; (try clear hb); (try clear hb2); (try clear hk); (try clear hi)) | ((with_reducible refine gate_callee (f := 11) rfl ?_); refine goU (some 130) Tryd.func11 #[.string t517] ?_; (with_reducible refine (impl_PointsOf.calls kj9 t517 t527 t528 _ A30.out).mono ?_); rintro e w70 ⟨rfl, hb⟩; refine ⟨_, rfl, ?_⟩; have n0_ := bbU BK516 hb; have n1_ := bsU hb; clear BK516; clear HB; have BK516 := n0_; have HB := n1_; clear n0_ n1_; (try clear hb); (try clear hb2); (try clear hk); (try clear hi); obtain ⟨hcz71_0, hcz71_1, hcz71_2, hfz71_0, hfz71_1, hfz71_2⟩ := b3U BK516) | ((with_reducible refine gate_callee (f := 12) rfl ?_); refine goU (some 135) Tryd.func12 #[.agg #[.int .i64 t512, .bool t513, .int .i64 t514]] ?_; (with_reducible refine (impl_PointsLeft.calls kj9 t512 t513 t514 t529 t530 _ A31.out).mono ?_); rintro e w72 ⟨rfl, hb⟩; refine ⟨_, rfl, ?_⟩; have n0_ := bbU BK516 hb; have n1_ := bsU hb; clear BK516; clear HB; have BK516 := n0_; have HB := n1_; clear n0_ n1_; (try clear hb); (try clear hb2); (try clear hk); (try clear hi)))
        go_ret
        exact ⟨by first | rfl | (simp [errW_none, errW_some] <;> rfl) | (simp [*, errW_none, errW_some] <;> rfl), hbU⟩
      ·replace c28 := Bool.eq_false_iff.mpr c28
       subst c28
       rw [if_neg (show ¬ (false = true) by decide)] at H
       have H' := Aside0.mk H
       clear H
       go_wp2
       go_meet
       case rel => exact ⟨_, H', ⟨by have := HJ9.out; first | omega | exact Nat.le_refl _⟩, ⟨bkU⟩, ⟨hbU⟩⟩
     case rest => as_aux_lemma =>
      clear HC27
      (try clear c1); (try clear c4); (try clear c21); (try clear c21b0); (try clear c21b1); (try clear c21b2); (try clear c22); (try clear c22b0); (try clear c22b1); (try clear c23); (try clear c23b0); (try clear c23b1); (try clear c23b2); (try clear c24); (try clear c24b0); (try clear c24b1); (try clear c25); (try clear c26); (try clear c28); (try clear c32); (try clear c33); (try clear c34); (try clear c35); (try clear c35b0); (try clear c35b1); (try clear c36); (try clear c37); (try clear c37b0); (try clear hcz13_0); (try clear hcz13_1); (try clear hcz13_2); (try clear hcz15_0); (try clear hcz15_1); (try clear hcz15_2); (try clear hcz17_0); (try clear hcz17_1); (try clear hcz17_2); (try clear hcz19_0); (try clear hcz19_1); (try clear hcz19_2); (try clear hcz38_0); (try clear hcz38_1); (try clear hcz38_2); (try clear hcz41_0); (try clear hcz41_1); (try clear hcz41_2); (try clear hcz43_0); (try clear hcz43_1); (try clear hcz43_2); (try clear hcz46_0); (try clear hcz46_1); (try clear hcz46_2); (try clear hcz48_0); (try clear hcz48_1); (try clear hcz48_2); (try clear hcz51_0); (try clear hcz51_1); (try clear hcz51_2); (try clear hcz53_0); (try clear hcz53_1); (try clear hcz53_2); (try clear hcz56_0); (try clear hcz56_1); (try clear hcz56_2); (try clear hcz58_0); (try clear hcz58_1); (try clear hcz58_2); (try clear hcz61_0); (try clear hcz61_1); (try clear hcz61_2); (try clear hcz63_0); (try clear hcz63_1); (try clear hcz63_2); (try clear hcz66_0); (try clear hcz66_1); (try clear hcz66_2); (try clear hcz68_0); (try clear hcz68_1); (try clear hcz68_2); (try clear hcz71_0); (try clear hcz71_1); (try clear hcz71_2); (try clear hfz13_0); (try clear hfz13_1); (try clear hfz13_2); (try clear hfz15_0); (try clear hfz15_1); (try clear hfz15_2); (try clear hfz17_0); (try clear hfz17_1); (try clear hfz17_2); (try clear hfz19_0); (try clear hfz19_1); (try clear hfz19_2); (try clear hfz38_0); (try clear hfz38_1); (try clear hfz38_2); (try clear hfz41_0); (try clear hfz41_1); (try clear hfz41_2); (try clear hfz43_0); (try clear hfz43_1); (try clear hfz43_2); (try clear hfz46_0); (try clear hfz46_1); (try clear hfz46_2); (try clear hfz48_0); (try clear hfz48_1); (try clear hfz48_2); (try clear hfz51_0); (try clear hfz51_1); (try clear hfz51_2); (try clear hfz53_0); (try clear hfz53_1); (try clear hfz53_2); (try clear hfz56_0); (try clear hfz56_1); (try clear hfz56_2); (try clear hfz58_0); (try clear hfz58_1); (try clear hfz58_2); (try clear hfz61_0); (try clear hfz61_1); (try clear hfz61_2); (try clear hfz63_0); (try clear hfz63_1); (try clear hfz63_2); (try clear hfz66_0); (try clear hfz66_1); (try clear hfz66_2); (try clear hfz68_0); (try clear hfz68_1); (try clear hfz68_2); (try clear hfz71_0); (try clear hfz71_1); (try clear hfz71_2)
      obtain ⟨kq, HA, HJ26, BK516, HB⟩ := hcut
      cases kq with
      | zero => exact absurd HA.out (by simp [laws_FnFramesCounted.j1])
      | succ kj26 =>
       have H := HA.out
       clear HA
       simp only [laws_FnFramesCounted.j1] at H
       replace H := Option.bind_eq_some_iff.mp H
       obtain ⟨⟨t531, t532, t533, t534⟩, A730, H⟩ := H
       (try dsimp only at H)
       have A73 := Aside0.mk A730
       clear A730
       replace H := Option.bind_eq_some_iff.mp H
       obtain ⟨⟨t536, t537⟩, A740, H⟩ := H
       (try dsimp only at H)
       have A74 := Aside0.mk A740
       clear A740
       replace H := Option.bind_eq_some_iff.mp H
       obtain ⟨⟨t538, t539⟩, A750, H⟩ := H
       (try dsimp only at H)
       have A75 := Aside0.mk A750
       clear A750
       replace H := Option.bind_eq_some_iff.mp H
       obtain ⟨⟨t540, t541, t542, t543⟩, A760, H⟩ := H
       (try dsimp only at H)
       have A76 := Aside0.mk A760
       clear A760
       replace H := Option.bind_eq_some_iff.mp H
       obtain ⟨⟨t545, t546⟩, A770, H⟩ := H
       (try dsimp only at H)
       have A77 := Aside0.mk A770
       clear A770
       replace H := Option.bind_eq_some_iff.mp H
       obtain ⟨⟨t547, t548⟩, A780, H⟩ := H
       (try dsimp only at H)
       have A78 := Aside0.mk A780
       clear A780
       replace H := Option.bind_eq_some_iff.mp H
       obtain ⟨⟨t549, t550⟩, A790, H⟩ := H
       (try dsimp only at H)
       have A79 := Aside0.mk A790
       clear A790
       replace H := Option.bind_eq_some_iff.mp H
       obtain ⟨⟨t551, t552⟩, A800, H⟩ := H
       (try dsimp only at H)
       have A80 := Aside0.mk A800
       clear A800
       replace H := Option.bind_eq_some_iff.mp H
       obtain ⟨⟨t553, t554, t555, t556⟩, A810, H⟩ := H
       (try dsimp only at H)
       have A81 := Aside0.mk A810
       clear A810
       replace H := Option.bind_eq_some_iff.mp H
       obtain ⟨⟨t560, t563⟩, A820, H⟩ := H
       (try dsimp only at H)
       have A82 := Aside0.mk A820
       clear A820
       replace H := Option.bind_eq_some_iff.mp H
       obtain ⟨⟨t564, t567⟩, A830, H⟩ := H
       (try dsimp only at H)
       have A83 := Aside0.mk A830
       clear A830
       have HC84 := Aside0.mk H
       clear H
       go_upto_region 27 with (first | ((with_reducible refine gate_callee (f := 13) rfl ?_); refine goU (some 164) Tryd.func13 #[.slice A1 l1.length c1] ?_; (with_reducible refine (spec_DrawCountBreaks.calls _ _ l1 t531 t532 t533 t534 _ ?side1 ?side2 A73.out).mono ?_); (case side1 => repeat (first | exact (Kd.C_below HR1.out HB.out) | (with_reducible refine Kd.C_alloc ?_ _) | (with_reducible refine Kd.C_drewN ?_ _) | (with_reducible refine Kd.C_drew ?_))); (case side2 => exact HC1.out); rintro e w85 ⟨rfl, hb⟩; refine ⟨_, rfl, ?_⟩; have n0_ := bbU BK516 hb; have n1_ := bsU hb; clear BK516; clear HB; have BK516 := n0_; have HB := n1_; clear n0_ n1_; (try clear hb); (try clear hb2); (try clear hk); (try clear hi)) | ((with_reducible refine gate_dst (N := 21) rfl ?_); (try (refine gate_guard (by rfl) ?_; dsimp only)); refine bxU (cs := #[.int .i64 0, .bool false, .int .i64 0]) (t := 25) ?_; intro gb535 hg w86 hbox hb; have n0_ := bbU BK516 hb; have n1_ := bsU hb; have n2_ := Aside0.mk (hbox); have n3_ := geU hg; have n4_ := geU hg; have n5_ := neU BK516 hg; have n6_ := enU BK516 hg; clear BK516; clear HB; have BK516 := n0_; have HB := n1_; have BK535 := n2_; have GW535 := n3_; have GE535 := n4_; have NB516_535 := n5_; have NB535_516 := n6_; clear n0_ n1_ n2_ n3_ n4_ n5_ n6_; clear hb hbox hg; have hnb87 := NB535_516.out; have hnc87 := NB516_535.out; obtain ⟨hcz88_0, hcz88_1, hcz88_2, hfz88_0, hfz88_1, hfz88_2⟩ := b3U BK535) | ((with_reducible refine gate_callee (f := 14) rfl ?_); refine goU (some 170) Tryd.func14 #[.agg #[.int .i64 t531, .bool t532, .int .i64 t533], .int .i64 t534] ?_; (with_reducible refine (impl_CountBreaks.calls kj26 t531 t532 t533 t534 t536 t537 _ A74.out).mono ?_); rintro e w89 ⟨rfl, hb⟩; refine ⟨_, rfl, ?_⟩; have n0_ := bbU BK516 hb; have n1_ := Aside0.mk (blk_below (g := gb535) (o := .cells #[.int .i64 t531, .bool t532, .int .i64 t533] 25 (0, 0)) bkU hb); have n2_ := bsU hb; clear BK516; clear BK535; clear HB; have BK516 := n0_; have BK535 := n1_; have HB := n2_; clear n0_ n1_ n2_; (try clear hb); (try clear hb2); (try clear hk); (try clear hi); obtain ⟨hcz90_0, hcz90_1, hcz90_2, hfz90_0, hfz90_1, hfz90_2⟩ := b3U BK535) | ((with_reducible refine gate_callee (f := 15) rfl ?_); refine goU (some 176) Tryd.func15 #[.agg #[.int .i64 t531, .bool t532, .int .i64 t533], .int .i64 t534] ?_; (with_reducible refine (spec_CountBreaks.calls kj26 t531 t532 t533 t534 t538 t539 _ A75.out).mono ?_); rintro e w91 ⟨rfl, hb⟩; refine ⟨_, rfl, ?_⟩; have n0_ := bbU BK516 hb; have n1_ := bbU BK535 hb; have n2_ := bsU hb; clear BK516; clear BK535; clear HB; have BK516 := n0_; have BK535 := n1_; have HB := n2_; clear n0_ n1_ n2_; (try clear hb); (try clear hb2); (try clear hk); (try clear hi)) | ((with_reducible refine gate_callee (f := 16) rfl ?_); refine goU (some 181) Tryd.func16 #[.slice A1 l1.length c1] ?_; (with_reducible refine (spec_DrawFoulsNeeded.calls _ _ l1 t540 t541 t542 t543 _ ?side1 ?side2 A76.out).mono ?_); (case side1 => repeat (first | exact (Kd.C_below HR1.out HB.out) | (with_reducible refine Kd.C_alloc ?_ _) | (with_reducible refine Kd.C_drewN ?_ _) | (with_reducible refine Kd.C_drew ?_))); (case side2 => exact HC1.out); rintro e w92 ⟨rfl, hb⟩; refine ⟨_, rfl, ?_⟩; have n0_ := bbU BK516 hb; have n1_ := bbU BK535 hb; have n2_ := bsU hb; clear BK516; clear BK535; clear HB; have BK516 := n0_; have BK535 := n1_; have HB := n2_; clear n0_ n1_ n2_; (try clear hb); (try clear hb2); (try clear hk); (try clear hi)) | ((with_reducible refine gate_dst (N := 27) rfl ?_); (try (refine gate_guard (by rfl) ?_; dsimp only)); refine bxU (cs := #[.int .i64 0, .bool false, .int .i64 0]) (t := 25) ?_; intro gb544 hg w93 hbox hb; have n0_ := bbU BK516 hb; have n1_ := bbU BK535 hb; have n2_ := bsU hb; have n3_ := Aside0.mk (hbox); have n4_ := geU hg; have n5_ := geU hg; have n6_ := neU BK516 hg; have n7_ := enU BK516 hg; have n8_ := neU BK535 hg; have n9_ := enU BK535 hg; clear BK516; clear BK535; clear HB; have BK516 := n0_; have BK535 := n1_; have HB := n2_; have BK544 := n3_; have GW544 := n4_; have GE544 := n5_; have NB516_544 := n6_; have NB544_516 := n7_; have NB535_544 := n8_; have NB544_535 := n9_; clear n0_ n1_ n2_ n3_ n4_ n5_ n6_ n7_ n8_ n9_; clear hb hbox hg; have hnb94 := NB544_516.out; have hnc94 := NB516_544.out; have hnb95 := NB544_535.out; have hnc95 := NB535_544.out; obtain ⟨hcz96_0, hcz96_1, hcz96_2, hfz96_0, hfz96_1, hfz96_2⟩ := b3U BK544) | ((with_reducible refine gate_callee (f := 17) rfl ?_); refine goU (some 187) Tryd.func17 #[.agg #[.int .i64 t540, .bool t541, .int .i64 t542], .int .i64 t543] ?_; (with_reducible refine (impl_CanStillWin.calls kj26 t540 t541 t542 t543 t545 t546 _ A77.out).mono ?_); rintro e w97 ⟨rfl, hb⟩; refine ⟨_, rfl, ?_⟩; have n0_ := bbU BK516 hb; have n1_ := bbU BK535 hb; have n2_ := Aside0.mk (blk_below (g := gb544) (o := .cells #[.int .i64 t540, .bool t541, .int .i64 t542] 25 (0, 0)) bkU hb); have n3_ := bsU hb; clear BK516; clear BK535; clear BK544; clear HB; have BK516 := n0_; have BK535 := n1_; have BK544 := n2_; have HB := n3_; clear n0_ n1_ n2_ n3_; (try clear hb); (try clear hb2); (try clear hk); (try clear hi); obtain ⟨hcz98_0, hcz98_1, hcz98_2, hfz98_0, hfz98_1, hfz98_2⟩ := b3U BK544) | ((with_reducible refine gate_callee (f := 18) rfl ?_); refine goU (some 193) Tryd.func18 #[.agg #[.int .i64 t540, .bool t541, .int .i64 t542], .int .i64 t543] ?_; (with_reducible refine (spec_CanStillWin.calls kj26 t540 t541 t542 t543 t547 t548 _ A78.out).mono ?_); rintro e w99 ⟨rfl, hb⟩; refine ⟨_, rfl, ?_⟩; have n0_ := bbU BK516 hb; have n1_ := bbU BK535 hb; have n2_ := bbU BK544 hb; have n3_ := bsU hb; clear BK516; clear BK535; clear BK544; clear HB; have BK516 := n0_; have BK535 := n1_; have BK544 := n2_; have HB := n3_; clear n0_ n1_ n2_ n3_; (try clear hb); (try clear hb2); (try clear hk); (try clear hi); obtain ⟨hcz100_0, hcz100_1, hcz100_2, hfz100_0, hfz100_1, hfz100_2⟩ := b3U BK544) | ((with_reducible refine gate_callee (f := 19) rfl ?_); refine goU (some 199) Tryd.func19 #[.agg #[.int .i64 t540, .bool t541, .int .i64 t542], .int .i64 t543] ?_; (with_reducible refine (impl_FoulsNeeded.calls kj26 t540 t541 t542 t543 t549 t550 _ A79.out).mono ?_); rintro e w101 ⟨rfl, hb⟩; refine ⟨_, rfl, ?_⟩; have n0_ := bbU BK516 hb; have n1_ := bbU BK535 hb; have n2_ := bbU BK544 hb; have n3_ := bsU hb; clear BK516; clear BK535; clear BK544; clear HB; have BK516 := n0_; have BK535 := n1_; have BK544 := n2_; have HB := n3_; clear n0_ n1_ n2_ n3_; (try clear hb); (try clear hb2); (try clear hk); (try clear hi); obtain ⟨hcz102_0, hcz102_1, hcz102_2, hfz102_0, hfz102_1, hfz102_2⟩ := b3U BK544) | ((with_reducible refine gate_callee (f := 20) rfl ?_); refine goU (some 205) Tryd.func20 #[.agg #[.int .i64 t540, .bool t541, .int .i64 t542], .int .i64 t543] ?_; (with_reducible refine (spec_FoulsNeeded.calls kj26 t540 t541 t542 t543 t551 t552 _ A80.out).mono ?_); rintro e w103 ⟨rfl, hb⟩; refine ⟨_, rfl, ?_⟩; have n0_ := bbU BK516 hb; have n1_ := bbU BK535 hb; have n2_ := bbU BK544 hb; have n3_ := bsU hb; clear BK516; clear BK535; clear BK544; clear HB; have BK516 := n0_; have BK535 := n1_; have BK544 := n2_; have HB := n3_; clear n0_ n1_ n2_ n3_; (try clear hb); (try clear hb2); (try clear hk); (try clear hi)) | ((with_reducible refine gate_callee (f := 21) rfl ?_); refine goU (some 210) Tryd.func21 #[.slice A1 l1.length c1] ?_; (with_reducible refine (spec_DrawPlayFrame.calls kj26 _ _ l1 t553 t554 t555 t556 _ ?side1 ?side2 A81.out).mono ?_); (case side1 => repeat (first | exact (Kd.C_below HR1.out HB.out) | (with_reducible refine Kd.C_alloc ?_ _) | (with_reducible refine Kd.C_drewN ?_ _) | (with_reducible refine Kd.C_drew ?_))); (case side2 => exact HC1.out); rintro e w104 ⟨v557, rfl, ho0, hb⟩; refine ⟨_, rfl, ?_⟩; have n0_ := Aside0.mk (Kd.R_lower ho0 (below_size hbU)); have n1_ := bbU BK516 hb; have n2_ := bbU BK535 hb; have n3_ := bbU BK544 hb; have n4_ := bsU hb; clear BK516; clear BK535; clear BK544; clear HB; have HO558 := n0_; have BK516 := n1_; have BK535 := n2_; have BK544 := n3_; have HB := n4_; clear n0_ n1_ n2_ n3_ n4_; (try clear hb); (try clear hb2); (try clear hk); (try clear hi); (try clear ho0)) | ((with_reducible refine gate_dst (N := 37) rfl ?_); (try (refine gate_guard (by rfl) ?_; dsimp only)); refine bxU (cs := #[.int .i64 0, .bool false, .int .i64 0]) (t := 25) ?_; intro gb559 hg w105 hbox hb; have n0_ := Aside0.mk (Kd.R_below (by (with_reducible repeat (first | apply Kd.R_alloc | apply Kd.R_drewN | apply Kd.R_drew)); exact HO558.out) hb); have n1_ := bbU BK516 hb; have n2_ := bbU BK535 hb; have n3_ := bbU BK544 hb; have n4_ := bsU hb; have n5_ := Aside0.mk (hbox); have n6_ := geU hg; have n7_ := geU hg; have n8_ := neU BK516 hg; have n9_ := enU BK516 hg; have n10_ := neU BK535 hg; have n11_ := enU BK535 hg; have n12_ := neU BK544 hg; have n13_ := enU BK544 hg; clear HO558; clear BK516; clear BK535; clear BK544; clear HB; have HO558 := n0_; have BK516 := n1_; have BK535 := n2_; have BK544 := n3_; have HB := n4_; have BK559 := n5_; have GW559 := n6_; have GE559 := n7_; have NB516_559 := n8_; have NB559_516 := n9_; have NB535_559 := n10_; have NB559_535 := n11_; have NB544_559 := n12_; have NB559_544 := n13_; clear n0_ n1_ n2_ n3_ n4_ n5_ n6_ n7_ n8_ n9_ n10_ n11_ n12_ n13_; clear hb hbox hg; have hnb106 := NB559_516.out; have hnc106 := NB516_559.out; have hnb107 := NB559_535.out; have hnc107 := NB535_559.out; have hnb108 := NB559_544.out; have hnc108 := NB544_559.out; obtain ⟨hcz109_0, hcz109_1, hcz109_2, hfz109_0, hfz109_1, hfz109_2⟩ := b3U BK559; obtain ⟨Ao110, co110, eo110⟩ := Kd.R_slice HO558.out; subst eo110) | ((with_reducible refine gate_callee (f := 22) rfl ?_); refine goU (some 216) Tryd.func22 #[.agg #[.int .i64 t553, .bool t554, .int .i64 t555], .slice Ao110 t556.length co110] ?_; (with_reducible refine (impl_PlayFrame.calls kj26 t553 t554 t555 _ _ t556 t560 t563 _ ?side1 ?side2 A82.out).mono ?_); (case side1 => refine (Kd.R_reads' (e := 9) (base := w.heap.size) (ok := fun k_ => True) (n := t556.length) (c := co110) ?_).2.2; exact (by (with_reducible repeat (first | apply Kd.R_alloc | apply Kd.R_drewN | apply Kd.R_drew)); exact (Kd.R_mono (Kd.R_far (p := ⟨gb559, 2, none⟩) (Kd.R_far (p := ⟨gb559, 1, none⟩) (Kd.R_far (p := ⟨gb559, 0, none⟩) (Kd.R_types HO558.out BK559.out (by decide)) (fun _ hk => hk.2) (.int .i64 t553)) (fun _ hk => hk.2) (.bool t554)) (fun _ hk => hk.2) (.int .i64 t555)) (fun _ h_ => h_.1)))); (case side2 => exact (Kd.R_reads' HO558.out).2.1); rintro e w111 ⟨v561, rfl, ho0, hb⟩; refine ⟨_, rfl, ?_⟩; have n0_ := Aside0.mk (Kd.R_below (by (with_reducible repeat (first | apply Kd.R_alloc | apply Kd.R_drewN | apply Kd.R_drew)); exact (Kd.R_mono (Kd.R_far (p := ⟨gb559, 2, none⟩) (Kd.R_far (p := ⟨gb559, 1, none⟩) (Kd.R_far (p := ⟨gb559, 0, none⟩) (Kd.R_types HO558.out BK559.out (by decide)) (fun _ hk => hk.2) (.int .i64 t553)) (fun _ hk => hk.2) (.bool t554)) (fun _ hk => hk.2) (.int .i64 t555)) (fun _ h_ => h_.1))) hb); have n1_ := Aside0.mk (Kd.R_lower ho0 (below_size hbU)); have n2_ := bbU BK516 hb; have n3_ := bbU BK535 hb; have n4_ := bbU BK544 hb; have n5_ := Aside0.mk (blk_below (g := gb559) (o := .cells #[.int .i64 t553, .bool t554, .int .i64 t555] 25 (0, 0)) bkU hb); have n6_ := bsU hb; clear HO558; clear BK516; clear BK535; clear BK544; clear BK559; clear HB; have HO558 := n0_; have HO562 := n1_; have BK516 := n2_; have BK535 := n3_; have BK544 := n4_; have BK559 := n5_; have HB := n6_; clear n0_ n1_ n2_ n3_ n4_ n5_ n6_; (try clear hb); (try clear hb2); (try clear hk); (try clear hi); (try clear ho0); obtain ⟨hcz112_0, hcz112_1, hcz112_2, hfz112_0, hfz112_1, hfz112_2⟩ := b3U BK559) | ((with_reducible refine gate_callee (f := 23) rfl ?_); refine goU (some 222) Tryd.func23 #[.agg #[.int .i64 t553, .bool t554, .int .i64 t555], .slice Ao110 t556.length co110] ?_; (with_reducible refine (spec_PlayFrame.calls kj26 t553 t554 t555 _ _ t556 t564 t567 _ ?side1 ?side2 A83.out).mono ?_); (case side1 => repeat (first | exact (Kd.R_reads' HO558.out).2.2 | (with_reducible refine Kd.C_alloc ?_ _) | (with_reducible refine Kd.C_drewN ?_ _) | (with_reducible refine Kd.C_drew ?_))); (case side2 => exact (Kd.R_reads' HO558.out).2.1); rintro e w113 ⟨v565, rfl, ho0, hb⟩; refine ⟨_, rfl, ?_⟩; have n0_ := Aside0.mk (Kd.R_below (by (with_reducible repeat (first | apply Kd.R_alloc | apply Kd.R_drewN | apply Kd.R_drew)); exact HO558.out) hb); have n1_ := Aside0.mk (Kd.R_elder' (by (with_reducible repeat (first | apply Kd.R_alloc | apply Kd.R_drewN | apply Kd.R_drew)); exact HO562.out) (Kd.R_base ho0) hb); have n2_ := Aside0.mk (Kd.R_lower (Kd.R_new' ho0 (Kd.R_lt (by (with_reducible repeat (first | apply Kd.R_alloc | apply Kd.R_drewN | apply Kd.R_drew)); exact HO562.out))) (below_size hbU)); have n3_ := bbU BK516 hb; have n4_ := bbU BK535 hb; have n5_ := bbU BK544 hb; have n6_ := bbU BK559 hb; have n7_ := bsU hb; clear HO558; clear HO562; clear BK516; clear BK535; clear BK544; clear BK559; clear HB; have HO558 := n0_; have HO562 := n1_; have HO566 := n2_; have BK516 := n3_; have BK535 := n4_; have BK544 := n5_; have BK559 := n6_; have HB := n7_; clear n0_ n1_ n2_ n3_ n4_ n5_ n6_ n7_; (try clear hb); (try clear hb2); (try clear hk); (try clear hi); (try clear ho0)))
       (try simp only [Act.put, List.setIfInBounds_toArray, List.set_cons_zero, List.set_cons_succ])
       go_cut [270] from 9999 to 9999 (fun v270 wc => ∃ (kq : Nat) (x270_83 : Bool), v270 = .bool x270_83 ∧ Aside0 (laws_FnFramesCounted.j2 kq t534 t536 t537 t543 t545 t549 t550 t556 t560 t563 x270_83 t531 t532 t533 t540 t541 t542 t553 t554 t555 = some r) ∧ Aside0 (kq ≤ kj26) ∧ Aside0 (Kd.R Kd.string 9 wc w.heap.size (fun _ => True) (.slice Ao110 t556.length co110) t556) ∧ Aside0 (Kd.R (Kd.int .i64) 3 wc w.heap.size (fun _ => True) v561 t560) ∧ Aside0 (wc.heap[gb516]? = some (.cells #[.int .i64 t512, .bool t513, .int .i64 t514] 25 (0, 0))) ∧ Aside0 (wc.heap[gb535]? = some (.cells #[.int .i64 t531, .bool t532, .int .i64 t533] 25 (0, 0))) ∧ Aside0 (wc.heap[gb544]? = some (.cells #[.int .i64 t540, .bool t541, .int .i64 t542] 25 (0, 0))) ∧ Aside0 (wc.heap[gb559]? = some (.cells #[.int .i64 t553, .bool t554, .int .i64 t555] 25 (0, 0))) ∧ Aside0 (Below w.heap.size w wc))
       case first => as_aux_lemma =>
        have H := HC84.out
        clear HC84
        by_cases c114 : (t537 != t539) = true
        ·rw [if_pos c114] at H
         have c114b0 : (t537 != t539) = true := c114
         (try (have c114b1 : decide (t537 = t539) = false := by simpa using c114))
         (try (have c114b2 : (t537 == t539) = false := by simpa using c114))
         (try (have c114b3 : ¬ (t537 = t539) := by simpa using c114))
         clear c114
         (first | rw [c114b0] | (simp only [i64_w, i32_w]; rw [c114b0]) | skip)
         have H' := Aside0.mk H
         clear H
         go_wp2
         go_meet
         case rel => exact ⟨_, (true), eqU, H', ⟨by have := HJ9.out; have := HJ26.out; first | omega | exact Nat.le_refl _⟩, ⟨by (with_reducible repeat (first | apply Kd.R_alloc | apply Kd.R_drewN | apply Kd.R_drew)); exact HO558.out⟩, ⟨by (with_reducible repeat (first | apply Kd.R_alloc | apply Kd.R_drewN | apply Kd.R_drew)); exact Kd.R_mono HO562.out (fun _ hk => trivial)⟩, ⟨bkU⟩, ⟨bkU⟩, ⟨bkU⟩, ⟨bkU⟩, ⟨hbU⟩⟩
        ·rw [if_neg c114] at H
         have c114b0 : (t537 != t539) = false := by simpa using c114
         (try (have c114b1 : decide (t537 = t539) = true := by simpa using c114))
         (try (have c114b2 : (t537 == t539) = true := by simpa using c114))
         clear c114
         (first | rw [c114b0] | (simp only [i64_w, i32_w]; rw [c114b0]) | skip)
         by_cases c115 : t536 = t538
         ·rw [if_pos c115] at H
          have c115b0 : (t536 == t538) = true := beq_iff_eq.mpr c115
          have c115b1 : (t536 != t538) = false := bne_eq_false_iff_eq.mpr c115
          clear c115
          by_cases c116 : (t546 != t548) = true
          ·rw [if_pos c116] at H
           have c116b0 : (t546 != t548) = true := c116
           (try (have c116b1 : decide (t546 = t548) = false := by simpa using c116))
           (try (have c116b2 : (t546 == t548) = false := by simpa using c116))
           (try (have c116b3 : ¬ (t546 = t548) := by simpa using c116))
           clear c116
           have H' := Aside0.mk H
           clear H
           go_wp2
           go_meet
           case rel => exact ⟨_, (true), eqU, H', ⟨by have := HJ9.out; have := HJ26.out; first | omega | exact Nat.le_refl _⟩, ⟨by (with_reducible repeat (first | apply Kd.R_alloc | apply Kd.R_drewN | apply Kd.R_drew)); exact HO558.out⟩, ⟨by (with_reducible repeat (first | apply Kd.R_alloc | apply Kd.R_drewN | apply Kd.R_drew)); exact Kd.R_mono HO562.out (fun _ hk => trivial)⟩, ⟨bkU⟩, ⟨bkU⟩, ⟨bkU⟩, ⟨bkU⟩, ⟨hbU⟩⟩
          ·rw [if_neg c116] at H
           have c116b0 : (t546 != t548) = false := by simpa using c116
           (try (have c116b1 : decide (t546 = t548) = true := by simpa using c116))
           (try (have c116b2 : (t546 == t548) = true := by simpa using c116))
           clear c116
           by_cases c117 : (t545 != t547) = true
           ·rw [if_pos c117] at H
            have c117b0 : (t545 != t547) = true := c117
            (try (have c117b1 : decide (t545 = t547) = false := by simpa using c117))
            (try (have c117b2 : (t545 == t547) = false := by simpa using c117))
            (try (have c117b3 : ¬ (t545 = t547) := by simpa using c117))
            clear c117
            have H' := Aside0.mk H
            clear H
            go_wp2
            go_meet
            case rel => exact ⟨_, (true), eqU, H', ⟨by have := HJ9.out; have := HJ26.out; first | omega | exact Nat.le_refl _⟩, ⟨by (with_reducible repeat (first | apply Kd.R_alloc | apply Kd.R_drewN | apply Kd.R_drew)); exact HO558.out⟩, ⟨by (with_reducible repeat (first | apply Kd.R_alloc | apply Kd.R_drewN | apply Kd.R_drew)); exact Kd.R_mono HO562.out (fun _ hk => trivial)⟩, ⟨bkU⟩, ⟨bkU⟩, ⟨bkU⟩, ⟨bkU⟩, ⟨hbU⟩⟩
           ·rw [if_neg c117] at H
            have c117b0 : (t545 != t547) = false := by simpa using c117
            (try (have c117b1 : decide (t545 = t547) = true := by simpa using c117))
            (try (have c117b2 : (t545 == t547) = true := by simpa using c117))
            clear c117
            by_cases c118 : (t550 != t552) = true
            ·rw [if_pos c118] at H
             have c118b0 : (t550 != t552) = true := c118
             (try (have c118b1 : decide (t550 = t552) = false := by simpa using c118))
             (try (have c118b2 : (t550 == t552) = false := by simpa using c118))
             (try (have c118b3 : ¬ (t550 = t552) := by simpa using c118))
             clear c118
             have H' := Aside0.mk H
             clear H
             go_wp2
             go_meet
             case rel => exact ⟨_, (true), eqU, H', ⟨by have := HJ9.out; have := HJ26.out; first | omega | exact Nat.le_refl _⟩, ⟨by (with_reducible repeat (first | apply Kd.R_alloc | apply Kd.R_drewN | apply Kd.R_drew)); exact HO558.out⟩, ⟨by (with_reducible repeat (first | apply Kd.R_alloc | apply Kd.R_drewN | apply Kd.R_drew)); exact Kd.R_mono HO562.out (fun _ hk => trivial)⟩, ⟨bkU⟩, ⟨bkU⟩, ⟨bkU⟩, ⟨bkU⟩, ⟨hbU⟩⟩
            ·rw [if_neg c118] at H
             have c118b0 : (t550 != t552) = false := by simpa using c118
             (try (have c118b1 : decide (t550 = t552) = true := by simpa using c118))
             (try (have c118b2 : (t550 == t552) = true := by simpa using c118))
             clear c118
             by_cases c119 : t549 = t551
             ·rw [if_pos c119] at H
              have c119b0 : (t549 == t551) = true := beq_iff_eq.mpr c119
              have c119b1 : (t549 != t551) = false := bne_eq_false_iff_eq.mpr c119
              clear c119
              by_cases c120 : (t563 != t567) = true
              ·rw [if_pos c120] at H
               have c120b0 : (t563 != t567) = true := c120
               (try (have c120b1 : decide (t563 = t567) = false := by simpa using c120))
               (try (have c120b2 : (t563 == t567) = false := by simpa using c120))
               (try (have c120b3 : ¬ (t563 = t567) := by simpa using c120))
               clear c120
               have H' := Aside0.mk H
               clear H
               go_wp2
               go_meet
               case rel => exact ⟨_, (true), eqU, H', ⟨by have := HJ9.out; have := HJ26.out; first | omega | exact Nat.le_refl _⟩, ⟨by (with_reducible repeat (first | apply Kd.R_alloc | apply Kd.R_drewN | apply Kd.R_drew)); exact HO558.out⟩, ⟨by (with_reducible repeat (first | apply Kd.R_alloc | apply Kd.R_drewN | apply Kd.R_drew)); exact Kd.R_mono HO562.out (fun _ hk => trivial)⟩, ⟨bkU⟩, ⟨bkU⟩, ⟨bkU⟩, ⟨bkU⟩, ⟨hbU⟩⟩
              ·rw [if_neg c120] at H
               have c120b0 : (t563 != t567) = false := by simpa using c120
               (try (have c120b1 : decide (t563 = t567) = true := by simpa using c120))
               (try (have c120b2 : (t563 == t567) = true := by simpa using c120))
               clear c120
               replace H := Option.bind_eq_some_iff.mp H
               obtain ⟨t568, A1210, H⟩ := H
               (try dsimp only at H)
               have A121 := Aside0.mk A1210
               clear A1210
               by_cases c122 : t568 = true
               ·subst c122
                rw [if_pos rfl] at H
                by_cases c123 : t550 = true
                ·subst c123
                 rw [if_pos rfl] at H
                 have H' := Aside0.mk H
                 clear H
                 obtain ⟨Ao124, co124, eo124⟩ := Kd.R_slice HO562.out
                 subst eo124
                 obtain ⟨Ao125, co125, eo125⟩ := Kd.R_slice HO566.out
                 subst eo125
                 go_wp2_with (first | (go_at_call 24; (with_reducible refine (laws_bSame.calls kj26 _ _ t560 _ _ t564 true _ ?side1 ?side2 ?side3 ?side4 A121.out).mono ?_); (case side1 => repeat (first | exact (Kd.R_reads' HO562.out).2.2 | (with_reducible refine Kd.C_alloc ?_ _) | (with_reducible refine Kd.C_drewN ?_ _) | (with_reducible refine Kd.C_drew ?_))); (case side2 => exact (Kd.R_reads' HO562.out).2.1); (case side3 => repeat (first | exact (Kd.R_reads' HO566.out).2.2 | (with_reducible refine Kd.C_alloc ?_ _) | (with_reducible refine Kd.C_drewN ?_ _) | (with_reducible refine Kd.C_drew ?_))); (case side4 => exact (Kd.R_reads' HO566.out).2.1); rintro e w' ⟨rfl, ⟨nd, rfl⟩⟩))
                 go_meet
                 case rel => exact ⟨_, (!t546), eqU, H', ⟨by have := HJ9.out; have := HJ26.out; first | omega | exact Nat.le_refl _⟩, ⟨by (with_reducible repeat (first | apply Kd.R_alloc | apply Kd.R_drewN | apply Kd.R_drew)); exact HO558.out⟩, ⟨by (with_reducible repeat (first | apply Kd.R_alloc | apply Kd.R_drewN | apply Kd.R_drew)); exact Kd.R_mono HO562.out (fun _ hk => trivial)⟩, ⟨bkU⟩, ⟨bkU⟩, ⟨bkU⟩, ⟨bkU⟩, ⟨hbU⟩⟩
                ·replace c123 := Bool.eq_false_iff.mpr c123
                 subst c123
                 rw [if_neg (show ¬ (false = true) by decide)] at H
                 have H' := Aside0.mk H
                 clear H
                 obtain ⟨Ao126, co126, eo126⟩ := Kd.R_slice HO562.out
                 subst eo126
                 obtain ⟨Ao127, co127, eo127⟩ := Kd.R_slice HO566.out
                 subst eo127
                 go_wp2_with (first | (go_at_call 24; (with_reducible refine (laws_bSame.calls kj26 _ _ t560 _ _ t564 true _ ?side1 ?side2 ?side3 ?side4 A121.out).mono ?_); (case side1 => repeat (first | exact (Kd.R_reads' HO562.out).2.2 | (with_reducible refine Kd.C_alloc ?_ _) | (with_reducible refine Kd.C_drewN ?_ _) | (with_reducible refine Kd.C_drew ?_))); (case side2 => exact (Kd.R_reads' HO562.out).2.1); (case side3 => repeat (first | exact (Kd.R_reads' HO566.out).2.2 | (with_reducible refine Kd.C_alloc ?_ _) | (with_reducible refine Kd.C_drewN ?_ _) | (with_reducible refine Kd.C_drew ?_))); (case side4 => exact (Kd.R_reads' HO566.out).2.1); rintro e w' ⟨rfl, ⟨nd, rfl⟩⟩))
                 go_meet
                 case rel => exact ⟨_, (false), eqU, H', ⟨by have := HJ9.out; have := HJ26.out; first | omega | exact Nat.le_refl _⟩, ⟨by (with_reducible repeat (first | apply Kd.R_alloc | apply Kd.R_drewN | apply Kd.R_drew)); exact HO558.out⟩, ⟨by (with_reducible repeat (first | apply Kd.R_alloc | apply Kd.R_drewN | apply Kd.R_drew)); exact Kd.R_mono HO562.out (fun _ hk => trivial)⟩, ⟨bkU⟩, ⟨bkU⟩, ⟨bkU⟩, ⟨bkU⟩, ⟨hbU⟩⟩
               ·replace c122 := Bool.eq_false_iff.mpr c122
                subst c122
                rw [if_neg (show ¬ (false = true) by decide)] at H
                have H' := Aside0.mk H
                clear H
                obtain ⟨Ao128, co128, eo128⟩ := Kd.R_slice HO562.out
                subst eo128
                obtain ⟨Ao129, co129, eo129⟩ := Kd.R_slice HO566.out
                subst eo129
                go_wp2_with (first | (go_at_call 24; (with_reducible refine (laws_bSame.calls kj26 _ _ t560 _ _ t564 false _ ?side1 ?side2 ?side3 ?side4 A121.out).mono ?_); (case side1 => repeat (first | exact (Kd.R_reads' HO562.out).2.2 | (with_reducible refine Kd.C_alloc ?_ _) | (with_reducible refine Kd.C_drewN ?_ _) | (with_reducible refine Kd.C_drew ?_))); (case side2 => exact (Kd.R_reads' HO562.out).2.1); (case side3 => repeat (first | exact (Kd.R_reads' HO566.out).2.2 | (with_reducible refine Kd.C_alloc ?_ _) | (with_reducible refine Kd.C_drewN ?_ _) | (with_reducible refine Kd.C_drew ?_))); (case side4 => exact (Kd.R_reads' HO566.out).2.1); rintro e w' ⟨rfl, ⟨nd, rfl⟩⟩))
                go_meet
                case rel => exact ⟨_, (true), eqU, H', ⟨by have := HJ9.out; have := HJ26.out; first | omega | exact Nat.le_refl _⟩, ⟨by (with_reducible repeat (first | apply Kd.R_alloc | apply Kd.R_drewN | apply Kd.R_drew)); exact HO558.out⟩, ⟨by (with_reducible repeat (first | apply Kd.R_alloc | apply Kd.R_drewN | apply Kd.R_drew)); exact Kd.R_mono HO562.out (fun _ hk => trivial)⟩, ⟨bkU⟩, ⟨bkU⟩, ⟨bkU⟩, ⟨bkU⟩, ⟨hbU⟩⟩
             ·rw [if_neg c119] at H
              have c119b0 : (t549 == t551) = false := beq_eq_false_iff_ne.mpr c119
              have c119b1 : (t549 != t551) = true := bne_iff_ne.mpr c119
              have H' := Aside0.mk H
              clear H
              go_wp2
              go_meet
              case rel => exact ⟨_, (true), eqU, H', ⟨by have := HJ9.out; have := HJ26.out; first | omega | exact Nat.le_refl _⟩, ⟨by (with_reducible repeat (first | apply Kd.R_alloc | apply Kd.R_drewN | apply Kd.R_drew)); exact HO558.out⟩, ⟨by (with_reducible repeat (first | apply Kd.R_alloc | apply Kd.R_drewN | apply Kd.R_drew)); exact Kd.R_mono HO562.out (fun _ hk => trivial)⟩, ⟨bkU⟩, ⟨bkU⟩, ⟨bkU⟩, ⟨bkU⟩, ⟨hbU⟩⟩
         ·rw [if_neg c115] at H
          have c115b0 : (t536 == t538) = false := beq_eq_false_iff_ne.mpr c115
          have c115b1 : (t536 != t538) = true := bne_iff_ne.mpr c115
          have H' := Aside0.mk H
          clear H
          go_wp2
          go_meet
          case rel => exact ⟨_, (true), eqU, H', ⟨by have := HJ9.out; have := HJ26.out; first | omega | exact Nat.le_refl _⟩, ⟨by (with_reducible repeat (first | apply Kd.R_alloc | apply Kd.R_drewN | apply Kd.R_drew)); exact HO558.out⟩, ⟨by (with_reducible repeat (first | apply Kd.R_alloc | apply Kd.R_drewN | apply Kd.R_drew)); exact Kd.R_mono HO562.out (fun _ hk => trivial)⟩, ⟨bkU⟩, ⟨bkU⟩, ⟨bkU⟩, ⟨bkU⟩, ⟨hbU⟩⟩
       case rest => as_aux_lemma =>
        clear HC84
        (try clear c1); (try clear c4); (try clear c21); (try clear c21b0); (try clear c21b1); (try clear c21b2); (try clear c22); (try clear c22b0); (try clear c22b1); (try clear c23); (try clear c23b0); (try clear c23b1); (try clear c23b2); (try clear c24); (try clear c24b0); (try clear c24b1); (try clear c25); (try clear c26); (try clear c28); (try clear c32); (try clear c33); (try clear c34); (try clear c35); (try clear c35b0); (try clear c35b1); (try clear c36); (try clear c37); (try clear c37b0); (try clear c114); (try clear c114b0); (try clear c114b1); (try clear c114b2); (try clear c115); (try clear c115b0); (try clear c115b1); (try clear c116); (try clear c116b0); (try clear c116b1); (try clear c116b2); (try clear c117); (try clear c117b0); (try clear c117b1); (try clear c117b2); (try clear c118); (try clear c118b0); (try clear c118b1); (try clear c118b2); (try clear c119); (try clear c119b0); (try clear c119b1); (try clear c120); (try clear c120b0); (try clear c120b1); (try clear c120b2); (try clear c122); (try clear c123); (try clear hcz100_0); (try clear hcz100_1); (try clear hcz100_2); (try clear hcz102_0); (try clear hcz102_1); (try clear hcz102_2); (try clear hcz109_0); (try clear hcz109_1); (try clear hcz109_2); (try clear hcz112_0); (try clear hcz112_1); (try clear hcz112_2); (try clear hcz13_0); (try clear hcz13_1); (try clear hcz13_2); (try clear hcz15_0); (try clear hcz15_1); (try clear hcz15_2); (try clear hcz17_0); (try clear hcz17_1); (try clear hcz17_2); (try clear hcz19_0); (try clear hcz19_1); (try clear hcz19_2); (try clear hcz38_0); (try clear hcz38_1); (try clear hcz38_2); (try clear hcz41_0); (try clear hcz41_1); (try clear hcz41_2); (try clear hcz43_0); (try clear hcz43_1); (try clear hcz43_2); (try clear hcz46_0); (try clear hcz46_1); (try clear hcz46_2); (try clear hcz48_0); (try clear hcz48_1); (try clear hcz48_2); (try clear hcz51_0); (try clear hcz51_1); (try clear hcz51_2); (try clear hcz53_0); (try clear hcz53_1); (try clear hcz53_2); (try clear hcz56_0); (try clear hcz56_1); (try clear hcz56_2); (try clear hcz58_0); (try clear hcz58_1); (try clear hcz58_2); (try clear hcz61_0); (try clear hcz61_1); (try clear hcz61_2); (try clear hcz63_0); (try clear hcz63_1); (try clear hcz63_2); (try clear hcz66_0); (try clear hcz66_1); (try clear hcz66_2); (try clear hcz68_0); (try clear hcz68_1); (try clear hcz68_2); (try clear hcz71_0); (try clear hcz71_1); (try clear hcz71_2); (try clear hcz88_0); (try clear hcz88_1); (try clear hcz88_2); (try clear hcz90_0); (try clear hcz90_1); (try clear hcz90_2); (try clear hcz96_0); (try clear hcz96_1); (try clear hcz96_2); (try clear hcz98_0); (try clear hcz98_1); (try clear hcz98_2); (try clear hfz100_0); (try clear hfz100_1); (try clear hfz100_2); (try clear hfz102_0); (try clear hfz102_1); (try clear hfz102_2); (try clear hfz109_0); (try clear hfz109_1); (try clear hfz109_2); (try clear hfz112_0); (try clear hfz112_1); (try clear hfz112_2); (try clear hfz13_0); (try clear hfz13_1); (try clear hfz13_2); (try clear hfz15_0); (try clear hfz15_1); (try clear hfz15_2); (try clear hfz17_0); (try clear hfz17_1); (try clear hfz17_2); (try clear hfz19_0); (try clear hfz19_1); (try clear hfz19_2); (try clear hfz38_0); (try clear hfz38_1); (try clear hfz38_2); (try clear hfz41_0); (try clear hfz41_1); (try clear hfz41_2); (try clear hfz43_0); (try clear hfz43_1); (try clear hfz43_2); (try clear hfz46_0); (try clear hfz46_1); (try clear hfz46_2); (try clear hfz48_0); (try clear hfz48_1); (try clear hfz48_2); (try clear hfz51_0); (try clear hfz51_1); (try clear hfz51_2); (try clear hfz53_0); (try clear hfz53_1); (try clear hfz53_2); (try clear hfz56_0); (try clear hfz56_1); (try clear hfz56_2); (try clear hfz58_0); (try clear hfz58_1); (try clear hfz58_2); (try clear hfz61_0); (try clear hfz61_1); (try clear hfz61_2); (try clear hfz63_0); (try clear hfz63_1); (try clear hfz63_2); (try clear hfz66_0); (try clear hfz66_1); (try clear hfz66_2); (try clear hfz68_0); (try clear hfz68_1); (try clear hfz68_2); (try clear hfz71_0); (try clear hfz71_1); (try clear hfz71_2); (try clear hfz88_0); (try clear hfz88_1); (try clear hfz88_2); (try clear hfz90_0); (try clear hfz90_1); (try clear hfz90_2); (try clear hfz96_0); (try clear hfz96_1); (try clear hfz96_2); (try clear hfz98_0); (try clear hfz98_1); (try clear hfz98_2)
        obtain ⟨kq, x270_83, rfl, HA, HJ83, HO_38, HO_39, BK516, BK535, BK544, BK559, HB⟩ := hcut
        cases kq with
        | zero => exact absurd HA.out (by simp [laws_FnFramesCounted.j2])
        | succ kj83 =>
         have H := HA.out
         clear HA
         simp only [laws_FnFramesCounted.j2] at H
         by_cases c130 : x270_83 = true
         ·subst c130
          rw [if_pos rfl] at H
          obtain rfl := Option.some.inj H
          go_wp2
          go_ret
          exact ⟨by first | rfl | (simp [errW_none, errW_some] <;> rfl) | (simp [*, errW_none, errW_some] <;> rfl), hbU⟩
         ·replace c130 := Bool.eq_false_iff.mpr c130
          subst c130
          rw [if_neg (show ¬ (false = true) by decide)] at H
          have HC131 := Aside0.mk H
          clear H
          go_upto_if 271 with (fail)
          go_cut [] from 9999 to 9999 (fun wc => ∃ (kq : Nat), Aside0 (laws_FnFramesCounted.j5 kq t543 t545 t549 t550 t556 t560 t563 t540 t541 t542 t553 t554 t555 = some r) ∧ Aside0 (kq ≤ kj83) ∧ Aside0 (Kd.R Kd.string 9 wc w.heap.size (fun _ => True) (.slice Ao110 t556.length co110) t556) ∧ Aside0 (Kd.R (Kd.int .i64) 3 wc w.heap.size (fun _ => True) v561 t560) ∧ Aside0 (wc.heap[gb516]? = some (.cells #[.int .i64 t512, .bool t513, .int .i64 t514] 25 (0, 0))) ∧ Aside0 (wc.heap[gb535]? = some (.cells #[.int .i64 t531, .bool t532, .int .i64 t533] 25 (0, 0))) ∧ Aside0 (wc.heap[gb544]? = some (.cells #[.int .i64 t540, .bool t541, .int .i64 t542] 25 (0, 0))) ∧ Aside0 (wc.heap[gb559]? = some (.cells #[.int .i64 t553, .bool t554, .int .i64 t555] 25 (0, 0))) ∧ Aside0 (Below w.heap.size w wc))
          case first => as_aux_lemma =>
           have H := HC131.out
           clear HC131
           by_cases c132 : t537 = true
           ·subst c132
            rw [if_pos rfl] at H
            replace H := Option.bind_eq_some_iff.mp H
            obtain ⟨⟨t569, t570⟩, A1330, H⟩ := H
            (try dsimp only at H)
            have A133 := Aside0.mk A1330
            clear A1330
            replace H := Option.bind_eq_some_iff.mp H
            obtain ⟨⟨t571, t572⟩, A1340, H⟩ := H
            (try dsimp only at H)
            have A134 := Aside0.mk A1340
            clear A1340
            have HC135 := Aside0.mk H
            clear H
            have hnb136 := NB535_516.out
            have hnc136 := NB516_535.out
            have hnb137 := NB535_544.out
            have hnc137 := NB544_535.out
            have hnb138 := NB535_559.out
            have hnc138 := NB559_535.out
            obtain ⟨hcz139_0, hcz139_1, hcz139_2, hfz139_0, hfz139_1, hfz139_2⟩ := b3U BK535
            go_upto_region 32 with (first | ((with_reducible refine gate_callee (f := 25) rfl ?_); refine goU (some 274) Tryd.func25 #[.agg #[.int .i64 t531, .bool t532, .int .i64 t533]] ?_; (with_reducible refine (impl_BallsLeft.calls kj83 t531 t532 t533 t569 t570 _ A133.out).mono ?_); rintro e w140 ⟨rfl, hb⟩; refine ⟨_, rfl, ?_⟩; have n0_ := Aside0.mk (Kd.R_below (by (with_reducible repeat (first | apply Kd.R_alloc | apply Kd.R_drewN | apply Kd.R_drew)); exact HO_38.out) hb); have n1_ := Aside0.mk (Kd.R_below (by (with_reducible repeat (first | apply Kd.R_alloc | apply Kd.R_drewN | apply Kd.R_drew)); exact HO_39.out) hb); have n2_ := bbU BK516 hb; have n3_ := bbU BK535 hb; have n4_ := bbU BK544 hb; have n5_ := bbU BK559 hb; have n6_ := bsU hb; clear HO_38; clear HO_39; clear BK516; clear BK535; clear BK544; clear BK559; clear HB; have HO_38 := n0_; have HO_39 := n1_; have BK516 := n2_; have BK535 := n3_; have BK544 := n4_; have BK559 := n5_; have HB := n6_; clear n0_ n1_ n2_ n3_ n4_ n5_ n6_; (try clear hb); (try clear hb2); (try clear hk); (try clear hi); obtain ⟨hcz141_0, hcz141_1, hcz141_2, hfz141_0, hfz141_1, hfz141_2⟩ := b3U BK535) | ((with_reducible refine gate_callee (f := 26) rfl ?_); refine goU (some 279) Tryd.func26 #[.agg #[.int .i64 t531, .bool t532, .int .i64 t533]] ?_; (with_reducible refine (impl_NextBalls.calls kj83 t531 t532 t533 t571 t572 _ A134.out).mono ?_); rintro e w142 ⟨rfl, hb⟩; refine ⟨_, rfl, ?_⟩; have n0_ := Aside0.mk (Kd.R_below (by (with_reducible repeat (first | apply Kd.R_alloc | apply Kd.R_drewN | apply Kd.R_drew)); exact HO_38.out) hb); have n1_ := Aside0.mk (Kd.R_below (by (with_reducible repeat (first | apply Kd.R_alloc | apply Kd.R_drewN | apply Kd.R_drew)); exact HO_39.out) hb); have n2_ := bbU BK516 hb; have n3_ := bbU BK535 hb; have n4_ := bbU BK544 hb; have n5_ := bbU BK559 hb; have n6_ := bsU hb; clear HO_38; clear HO_39; clear BK516; clear BK535; clear BK544; clear BK559; clear HB; have HO_38 := n0_; have HO_39 := n1_; have BK516 := n2_; have BK535 := n3_; have BK544 := n4_; have BK559 := n5_; have HB := n6_; clear n0_ n1_ n2_ n3_ n4_ n5_ n6_; (try clear hb); (try clear hb2); (try clear hk); (try clear hi)))
            (try simp only [Act.put, List.setIfInBounds_toArray, List.set_cons_zero, List.set_cons_succ])
            go_cut [313] from 9999 to 9999 (fun v313 wc => ∃ (kq : Nat) (x313_134 : Bool), v313 = .bool x313_134 ∧ Aside0 (laws_FnFramesCounted.j3 kq t534 t536 t543 t545 t549 t550 t556 t560 t563 x313_134 t531 t532 t533 t540 t541 t542 t553 t554 t555 = some r) ∧ Aside0 (kq ≤ kj83) ∧ Aside0 (Kd.R Kd.string 9 wc w.heap.size (fun _ => True) (.slice Ao110 t556.length co110) t556) ∧ Aside0 (Kd.R (Kd.int .i64) 3 wc w.heap.size (fun _ => True) v561 t560) ∧ Aside0 (wc.heap[gb516]? = some (.cells #[.int .i64 t512, .bool t513, .int .i64 t514] 25 (0, 0))) ∧ Aside0 (wc.heap[gb535]? = some (.cells #[.int .i64 t531, .bool t532, .int .i64 t533] 25 (0, 0))) ∧ Aside0 (wc.heap[gb544]? = some (.cells #[.int .i64 t540, .bool t541, .int .i64 t542] 25 (0, 0))) ∧ Aside0 (wc.heap[gb559]? = some (.cells #[.int .i64 t553, .bool t554, .int .i64 t555] 25 (0, 0))) ∧ Aside0 (Below w.heap.size w wc))
            case first => as_aux_lemma =>
             have H := HC135.out
             clear HC135
             by_cases c143 : t570 = true
             ·subst c143
              rw [if_pos rfl] at H
              by_cases c144 : t572 = true
              ·subst c144
               rw [if_pos rfl] at H
               by_cases c145 : ((decide (t536 > 0)) != (decide (t534 ≤ t569))) = true
               ·rw [if_pos c145] at H
                have c145b0 : ((decide (t536 > 0)) != (decide (t534 ≤ t569))) = true := c145
                (try (have c145b1 : decide ((decide (t536 > 0)) = (decide (t534 ≤ t569))) = false := by simpa using c145))
                (try (have c145b2 : ((decide (t536 > 0)) == (decide (t534 ≤ t569))) = false := by simpa using c145))
                (try (have c145b3 : ¬ ((decide (t536 > 0)) = (decide (t534 ≤ t569))) := by simpa using c145))
                clear c145
                (first | rw [c145b0] | (simp only [i64_w, i32_w]; rw [c145b0]) | skip)
                have H' := Aside0.mk H
                clear H
                go_wp2
                go_meet
                case rel => exact ⟨_, (true), eqU, H', ⟨by have := HJ9.out; have := HJ26.out; have := HJ83.out; first | omega | exact Nat.le_refl _⟩, ⟨by (with_reducible repeat (first | apply Kd.R_alloc | apply Kd.R_drewN | apply Kd.R_drew)); exact HO_38.out⟩, ⟨by (with_reducible repeat (first | apply Kd.R_alloc | apply Kd.R_drewN | apply Kd.R_drew)); exact HO_39.out⟩, ⟨bkU⟩, ⟨bkU⟩, ⟨bkU⟩, ⟨bkU⟩, ⟨hbU⟩⟩
               ·rw [if_neg c145] at H
                have c145b0 : ((decide (t536 > 0)) != (decide (t534 ≤ t569))) = false := by simpa using c145
                (try (have c145b1 : decide ((decide (t536 > 0)) = (decide (t534 ≤ t569))) = true := by simpa using c145))
                (try (have c145b2 : ((decide (t536 > 0)) == (decide (t534 ≤ t569))) = true := by simpa using c145))
                clear c145
                (first | rw [c145b0] | (simp only [i64_w, i32_w]; rw [c145b0]) | skip)
                by_cases c146 : t534 = 0
                ·rw [if_pos c146] at H
                 have c146b0 : (t534 == 0) = true := beq_iff_eq.mpr c146
                 have c146b1 : (t534 != 0) = false := bne_eq_false_iff_eq.mpr c146
                 clear c146
                 by_cases c147 : t536 = 1
                 ·rw [if_pos c147] at H
                  have c147b0 : (t536 == 1) = true := beq_iff_eq.mpr c147
                  have c147b1 : (t536 != 1) = false := bne_eq_false_iff_eq.mpr c147
                  clear c147
                  by_cases c148 : t534 = 1
                  ·rw [if_pos c148] at H
                   have c148b0 : (t534 == 1) = true := beq_iff_eq.mpr c148
                   have c148b1 : (t534 != 1) = false := bne_eq_false_iff_eq.mpr c148
                   clear c148
                   have H' := Aside0.mk H
                   clear H
                   go_wp2
                   go_meet
                   case rel => exact ⟨_, ((t536 != (t571.size : Int))), eqU, H', ⟨by have := HJ9.out; have := HJ26.out; have := HJ83.out; first | omega | exact Nat.le_refl _⟩, ⟨by (with_reducible repeat (first | apply Kd.R_alloc | apply Kd.R_drewN | apply Kd.R_drew)); exact HO_38.out⟩, ⟨by (with_reducible repeat (first | apply Kd.R_alloc | apply Kd.R_drewN | apply Kd.R_drew)); exact HO_39.out⟩, ⟨bkU⟩, ⟨bkU⟩, ⟨bkU⟩, ⟨bkU⟩, ⟨hbU⟩⟩
                  ·rw [if_neg c148] at H
                   have c148b0 : (t534 == 1) = false := beq_eq_false_iff_ne.mpr c148
                   have c148b1 : (t534 != 1) = true := bne_iff_ne.mpr c148
                   have H' := Aside0.mk H
                   clear H
                   go_wp2
                   go_meet
                   case rel => exact ⟨_, (false), eqU, H', ⟨by have := HJ9.out; have := HJ26.out; have := HJ83.out; first | omega | exact Nat.le_refl _⟩, ⟨by (with_reducible repeat (first | apply Kd.R_alloc | apply Kd.R_drewN | apply Kd.R_drew)); exact HO_38.out⟩, ⟨by (with_reducible repeat (first | apply Kd.R_alloc | apply Kd.R_drewN | apply Kd.R_drew)); exact HO_39.out⟩, ⟨bkU⟩, ⟨bkU⟩, ⟨bkU⟩, ⟨bkU⟩, ⟨hbU⟩⟩
                 ·rw [if_neg c147] at H
                  have c147b0 : (t536 == 1) = false := beq_eq_false_iff_ne.mpr c147
                  have c147b1 : (t536 != 1) = true := bne_iff_ne.mpr c147
                  have H' := Aside0.mk H
                  clear H
                  go_wp2
                  go_meet
                  case rel => exact ⟨_, (true), eqU, H', ⟨by have := HJ9.out; have := HJ26.out; have := HJ83.out; first | omega | exact Nat.le_refl _⟩, ⟨by (with_reducible repeat (first | apply Kd.R_alloc | apply Kd.R_drewN | apply Kd.R_drew)); exact HO_38.out⟩, ⟨by (with_reducible repeat (first | apply Kd.R_alloc | apply Kd.R_drewN | apply Kd.R_drew)); exact HO_39.out⟩, ⟨bkU⟩, ⟨bkU⟩, ⟨bkU⟩, ⟨bkU⟩, ⟨hbU⟩⟩
                ·rw [if_neg c146] at H
                 have c146b0 : (t534 == 0) = false := beq_eq_false_iff_ne.mpr c146
                 have c146b1 : (t534 != 0) = true := bne_iff_ne.mpr c146
                 by_cases c149 : t534 = 1
                 ·rw [if_pos c149] at H
                  have c149b0 : (t534 == 1) = true := beq_iff_eq.mpr c149
                  have c149b1 : (t534 != 1) = false := bne_eq_false_iff_eq.mpr c149
                  clear c149
                  have H' := Aside0.mk H
                  clear H
                  go_wp2
                  go_meet
                  case rel => exact ⟨_, ((t536 != (t571.size : Int))), eqU, H', ⟨by have := HJ9.out; have := HJ26.out; have := HJ83.out; first | omega | exact Nat.le_refl _⟩, ⟨by (with_reducible repeat (first | apply Kd.R_alloc | apply Kd.R_drewN | apply Kd.R_drew)); exact HO_38.out⟩, ⟨by (with_reducible repeat (first | apply Kd.R_alloc | apply Kd.R_drewN | apply Kd.R_drew)); exact HO_39.out⟩, ⟨bkU⟩, ⟨bkU⟩, ⟨bkU⟩, ⟨bkU⟩, ⟨hbU⟩⟩
                 ·rw [if_neg c149] at H
                  have c149b0 : (t534 == 1) = false := beq_eq_false_iff_ne.mpr c149
                  have c149b1 : (t534 != 1) = true := bne_iff_ne.mpr c149
                  have H' := Aside0.mk H
                  clear H
                  go_wp2
                  go_meet
                  case rel => exact ⟨_, (false), eqU, H', ⟨by have := HJ9.out; have := HJ26.out; have := HJ83.out; first | omega | exact Nat.le_refl _⟩, ⟨by (with_reducible repeat (first | apply Kd.R_alloc | apply Kd.R_drewN | apply Kd.R_drew)); exact HO_38.out⟩, ⟨by (with_reducible repeat (first | apply Kd.R_alloc | apply Kd.R_drewN | apply Kd.R_drew)); exact HO_39.out⟩, ⟨bkU⟩, ⟨bkU⟩, ⟨bkU⟩, ⟨bkU⟩, ⟨hbU⟩⟩
              ·replace c144 := Bool.eq_false_iff.mpr c144
               subst c144
               rw [if_neg (show ¬ (false = true) by decide)] at H
               have H' := Aside0.mk H
               clear H
               go_wp2
               go_meet
               case rel => exact ⟨_, (true), eqU, H', ⟨by have := HJ9.out; have := HJ26.out; have := HJ83.out; first | omega | exact Nat.le_refl _⟩, ⟨by (with_reducible repeat (first | apply Kd.R_alloc | apply Kd.R_drewN | apply Kd.R_drew)); exact HO_38.out⟩, ⟨by (with_reducible repeat (first | apply Kd.R_alloc | apply Kd.R_drewN | apply Kd.R_drew)); exact HO_39.out⟩, ⟨bkU⟩, ⟨bkU⟩, ⟨bkU⟩, ⟨bkU⟩, ⟨hbU⟩⟩
             ·replace c143 := Bool.eq_false_iff.mpr c143
              subst c143
              rw [if_neg (show ¬ (false = true) by decide)] at H
              have H' := Aside0.mk H
              clear H
              go_wp2
              go_meet
              case rel => exact ⟨_, (true), eqU, H', ⟨by have := HJ9.out; have := HJ26.out; have := HJ83.out; first | omega | exact Nat.le_refl _⟩, ⟨by (with_reducible repeat (first | apply Kd.R_alloc | apply Kd.R_drewN | apply Kd.R_drew)); exact HO_38.out⟩, ⟨by (with_reducible repeat (first | apply Kd.R_alloc | apply Kd.R_drewN | apply Kd.R_drew)); exact HO_39.out⟩, ⟨bkU⟩, ⟨bkU⟩, ⟨bkU⟩, ⟨bkU⟩, ⟨hbU⟩⟩
            case rest => as_aux_lemma =>
             clear HC135
             (try clear c1); (try clear c4); (try clear c21); (try clear c21b0); (try clear c21b1); (try clear c21b2); (try clear c22); (try clear c22b0); (try clear c22b1); (try clear c23); (try clear c23b0); (try clear c23b1); (try clear c23b2); (try clear c24); (try clear c24b0); (try clear c24b1); (try clear c25); (try clear c26); (try clear c28); (try clear c32); (try clear c33); (try clear c34); (try clear c35); (try clear c35b0); (try clear c35b1); (try clear c36); (try clear c37); (try clear c37b0); (try clear c114); (try clear c114b0); (try clear c114b1); (try clear c114b2); (try clear c115); (try clear c115b0); (try clear c115b1); (try clear c116); (try clear c116b0); (try clear c116b1); (try clear c116b2); (try clear c117); (try clear c117b0); (try clear c117b1); (try clear c117b2); (try clear c118); (try clear c118b0); (try clear c118b1); (try clear c118b2); (try clear c119); (try clear c119b0); (try clear c119b1); (try clear c120); (try clear c120b0); (try clear c120b1); (try clear c120b2); (try clear c122); (try clear c123); (try clear c130); (try clear c132); (try clear c143); (try clear c144); (try clear c145); (try clear c145b0); (try clear c145b1); (try clear c145b2); (try clear c146); (try clear c146b0); (try clear c146b1); (try clear c147); (try clear c147b0); (try clear c147b1); (try clear c148); (try clear c148b0); (try clear c148b1); (try clear c149); (try clear c149b0); (try clear c149b1); (try clear hcz100_0); (try clear hcz100_1); (try clear hcz100_2); (try clear hcz102_0); (try clear hcz102_1); (try clear hcz102_2); (try clear hcz109_0); (try clear hcz109_1); (try clear hcz109_2); (try clear hcz112_0); (try clear hcz112_1); (try clear hcz112_2); (try clear hcz139_0); (try clear hcz139_1); (try clear hcz139_2); (try clear hcz13_0); (try clear hcz13_1); (try clear hcz13_2); (try clear hcz141_0); (try clear hcz141_1); (try clear hcz141_2); (try clear hcz15_0); (try clear hcz15_1); (try clear hcz15_2); (try clear hcz17_0); (try clear hcz17_1); (try clear hcz17_2); (try clear hcz19_0); (try clear hcz19_1); (try clear hcz19_2); (try clear hcz38_0); (try clear hcz38_1); (try clear hcz38_2); (try clear hcz41_0); (try clear hcz41_1); (try clear hcz41_2); (try clear hcz43_0); (try clear hcz43_1); (try clear hcz43_2); (try clear hcz46_0); (try clear hcz46_1); (try clear hcz46_2); (try clear hcz48_0); (try clear hcz48_1); (try clear hcz48_2); (try clear hcz51_0); (try clear hcz51_1); (try clear hcz51_2); (try clear hcz53_0); (try clear hcz53_1); (try clear hcz53_2); (try clear hcz56_0); (try clear hcz56_1); (try clear hcz56_2); (try clear hcz58_0); (try clear hcz58_1); (try clear hcz58_2); (try clear hcz61_0); (try clear hcz61_1); (try clear hcz61_2); (try clear hcz63_0); (try clear hcz63_1); (try clear hcz63_2); (try clear hcz66_0); (try clear hcz66_1); (try clear hcz66_2); (try clear hcz68_0); (try clear hcz68_1); (try clear hcz68_2); (try clear hcz71_0); (try clear hcz71_1); (try clear hcz71_2); (try clear hcz88_0); (try clear hcz88_1); (try clear hcz88_2); (try clear hcz90_0); (try clear hcz90_1); (try clear hcz90_2); (try clear hcz96_0); (try clear hcz96_1); (try clear hcz96_2); (try clear hcz98_0); (try clear hcz98_1); (try clear hcz98_2); (try clear hfz100_0); (try clear hfz100_1); (try clear hfz100_2); (try clear hfz102_0); (try clear hfz102_1); (try clear hfz102_2); (try clear hfz109_0); (try clear hfz109_1); (try clear hfz109_2); (try clear hfz112_0); (try clear hfz112_1); (try clear hfz112_2); (try clear hfz139_0); (try clear hfz139_1); (try clear hfz139_2); (try clear hfz13_0); (try clear hfz13_1); (try clear hfz13_2); (try clear hfz141_0); (try clear hfz141_1); (try clear hfz141_2); (try clear hfz15_0); (try clear hfz15_1); (try clear hfz15_2); (try clear hfz17_0); (try clear hfz17_1); (try clear hfz17_2); (try clear hfz19_0); (try clear hfz19_1); (try clear hfz19_2); (try clear hfz38_0); (try clear hfz38_1); (try clear hfz38_2); (try clear hfz41_0); (try clear hfz41_1); (try clear hfz41_2); (try clear hfz43_0); (try clear hfz43_1); (try clear hfz43_2); (try clear hfz46_0); (try clear hfz46_1); (try clear hfz46_2); (try clear hfz48_0); (try clear hfz48_1); (try clear hfz48_2); (try clear hfz51_0); (try clear hfz51_1); (try clear hfz51_2); (try clear hfz53_0); (try clear hfz53_1); (try clear hfz53_2); (try clear hfz56_0); (try clear hfz56_1); (try clear hfz56_2); (try clear hfz58_0); (try clear hfz58_1); (try clear hfz58_2); (try clear hfz61_0); (try clear hfz61_1); (try clear hfz61_2); (try clear hfz63_0); (try clear hfz63_1); (try clear hfz63_2); (try clear hfz66_0); (try clear hfz66_1); (try clear hfz66_2); (try clear hfz68_0); (try clear hfz68_1); (try clear hfz68_2); (try clear hfz71_0); (try clear hfz71_1); (try clear hfz71_2); (try clear hfz88_0); (try clear hfz88_1); (try clear hfz88_2); (try clear hfz90_0); (try clear hfz90_1); (try clear hfz90_2); (try clear hfz96_0); (try clear hfz96_1); (try clear hfz96_2); (try clear hfz98_0); (try clear hfz98_1); (try clear hfz98_2)
             obtain ⟨kq, x313_134, rfl, HA, HJ134, HO_38, HO_39, BK516, BK535, BK544, BK559, HB⟩ := hcut
             cases kq with
             | zero => exact absurd HA.out (by simp [laws_FnFramesCounted.j3])
             | succ kj134 =>
              have H := HA.out
              clear HA
              simp only [laws_FnFramesCounted.j3] at H
              by_cases c150 : x313_134 = true
              ·subst c150
               rw [if_pos rfl] at H
               obtain rfl := Option.some.inj H
               go_wp2
               go_ret
               exact ⟨by first | rfl | (simp [errW_none, errW_some] <;> rfl) | (simp [*, errW_none, errW_some] <;> rfl), hbU⟩
              ·replace c150 := Bool.eq_false_iff.mpr c150
               subst c150
               rw [if_neg (show ¬ (false = true) by decide)] at H
               have HC151 := Aside0.mk H
               clear H
               go_upto_region 34 with (fail)
               go_cut [319] from 9999 to 9999 (fun v319 wc => ∃ (kq : Nat) (x319_150 : Bool), v319 = .bool x319_150 ∧ Aside0 (laws_FnFramesCounted.j4 kq t534 t536 t543 t545 t549 t550 t556 t560 t563 x319_150 t531 t532 t533 t540 t541 t542 t553 t554 t555 = some r) ∧ Aside0 (kq ≤ kj134) ∧ Aside0 (Kd.R Kd.string 9 wc w.heap.size (fun _ => True) (.slice Ao110 t556.length co110) t556) ∧ Aside0 (Kd.R (Kd.int .i64) 3 wc w.heap.size (fun _ => True) v561 t560) ∧ Aside0 (wc.heap[gb516]? = some (.cells #[.int .i64 t512, .bool t513, .int .i64 t514] 25 (0, 0))) ∧ Aside0 (wc.heap[gb535]? = some (.cells #[.int .i64 t531, .bool t532, .int .i64 t533] 25 (0, 0))) ∧ Aside0 (wc.heap[gb544]? = some (.cells #[.int .i64 t540, .bool t541, .int .i64 t542] 25 (0, 0))) ∧ Aside0 (wc.heap[gb559]? = some (.cells #[.int .i64 t553, .bool t554, .int .i64 t555] 25 (0, 0))) ∧ Aside0 (Below w.heap.size w wc))
               case first => as_aux_lemma =>
                have H := HC151.out
                clear HC151
                by_cases c152 : t534 > 0
                ·rw [if_pos c152] at H
                 have c152b0 : decide (0 < t534) = true := decide_eq_true c152
                 clear c152
                 (first | rw [c152b0] | (simp only [i64_w, i32_w]; rw [c152b0]) | skip)
                 have H' := Aside0.mk H
                 clear H
                 go_wp2
                 go_meet
                 case rel => exact ⟨_, (decide (t536 > 0)), eqU, H', ⟨by have := HJ9.out; have := HJ26.out; have := HJ83.out; have := HJ134.out; first | omega | exact Nat.le_refl _⟩, ⟨by (with_reducible repeat (first | apply Kd.R_alloc | apply Kd.R_drewN | apply Kd.R_drew)); exact HO_38.out⟩, ⟨by (with_reducible repeat (first | apply Kd.R_alloc | apply Kd.R_drewN | apply Kd.R_drew)); exact HO_39.out⟩, ⟨bkU⟩, ⟨bkU⟩, ⟨bkU⟩, ⟨bkU⟩, ⟨hbU⟩⟩
                ·rw [if_neg c152] at H
                 have c152b0 : decide (0 < t534) = false := decide_eq_false c152
                 clear c152
                 (first | rw [c152b0] | (simp only [i64_w, i32_w]; rw [c152b0]) | skip)
                 have H' := Aside0.mk H
                 clear H
                 go_wp2
                 go_meet
                 case rel => exact ⟨_, (false), eqU, H', ⟨by have := HJ9.out; have := HJ26.out; have := HJ83.out; have := HJ134.out; first | omega | exact Nat.le_refl _⟩, ⟨by (with_reducible repeat (first | apply Kd.R_alloc | apply Kd.R_drewN | apply Kd.R_drew)); exact HO_38.out⟩, ⟨by (with_reducible repeat (first | apply Kd.R_alloc | apply Kd.R_drewN | apply Kd.R_drew)); exact HO_39.out⟩, ⟨bkU⟩, ⟨bkU⟩, ⟨bkU⟩, ⟨bkU⟩, ⟨hbU⟩⟩
               case rest => as_aux_lemma =>
                clear HC151
                (try clear c1); (try clear c4); (try clear c21); (try clear c21b0); (try clear c21b1); (try clear c21b2); (try clear c22); (try clear c22b0); (try clear c22b1); (try clear c23); (try clear c23b0); (try clear c23b1); (try clear c23b2); (try clear c24); (try clear c24b0); (try clear c24b1); (try clear c25); (try clear c26); (try clear c28); (try clear c32); (try clear c33); (try clear c34); (try clear c35); (try clear c35b0); (try clear c35b1); (try clear c36); (try clear c37); (try clear c37b0); (try clear c114); (try clear c114b0); (try clear c114b1); (try clear c114b2); (try clear c115); (try clear c115b0); (try clear c115b1); (try clear c116); (try clear c116b0); (try clear c116b1); (try clear c116b2); (try clear c117); (try clear c117b0); (try clear c117b1); (try clear c117b2); (try clear c118); (try clear c118b0); (try clear c118b1); (try clear c118b2); (try clear c119); (try clear c119b0); (try clear c119b1); (try clear c120); (try clear c120b0); (try clear c120b1); (try clear c120b2); (try clear c122); (try clear c123); (try clear c130); (try clear c132); (try clear c143); (try clear c144); (try clear c145); (try clear c145b0); (try clear c145b1); (try clear c145b2); (try clear c146); (try clear c146b0); (try clear c146b1); (try clear c147); (try clear c147b0); (try clear c147b1); (try clear c148); (try clear c148b0); (try clear c148b1); (try clear c149); (try clear c149b0); (try clear c149b1); (try clear c150); (try clear c152); (try clear c152b0); (try clear hcz100_0); (try clear hcz100_1); (try clear hcz100_2); (try clear hcz102_0); (try clear hcz102_1); (try clear hcz102_2); (try clear hcz109_0); (try clear hcz109_1); (try clear hcz109_2); (try clear hcz112_0); (try clear hcz112_1); (try clear hcz112_2); (try clear hcz139_0); (try clear hcz139_1); (try clear hcz139_2); (try clear hcz13_0); (try clear hcz13_1); (try clear hcz13_2); (try clear hcz141_0); (try clear hcz141_1); (try clear hcz141_2); (try clear hcz15_0); (try clear hcz15_1); (try clear hcz15_2); (try clear hcz17_0); (try clear hcz17_1); (try clear hcz17_2); (try clear hcz19_0); (try clear hcz19_1); (try clear hcz19_2); (try clear hcz38_0); (try clear hcz38_1); (try clear hcz38_2); (try clear hcz41_0); (try clear hcz41_1); (try clear hcz41_2); (try clear hcz43_0); (try clear hcz43_1); (try clear hcz43_2); (try clear hcz46_0); (try clear hcz46_1); (try clear hcz46_2); (try clear hcz48_0); (try clear hcz48_1); (try clear hcz48_2); (try clear hcz51_0); (try clear hcz51_1); (try clear hcz51_2); (try clear hcz53_0); (try clear hcz53_1); (try clear hcz53_2); (try clear hcz56_0); (try clear hcz56_1); (try clear hcz56_2); (try clear hcz58_0); (try clear hcz58_1); (try clear hcz58_2); (try clear hcz61_0); (try clear hcz61_1); (try clear hcz61_2); (try clear hcz63_0); (try clear hcz63_1); (try clear hcz63_2); (try clear hcz66_0); (try clear hcz66_1); (try clear hcz66_2); (try clear hcz68_0); (try clear hcz68_1); (try clear hcz68_2); (try clear hcz71_0); (try clear hcz71_1); (try clear hcz71_2); (try clear hcz88_0); (try clear hcz88_1); (try clear hcz88_2); (try clear hcz90_0); (try clear hcz90_1); (try clear hcz90_2); (try clear hcz96_0); (try clear hcz96_1); (try clear hcz96_2); (try clear hcz98_0); (try clear hcz98_1); (try clear hcz98_2); (try clear hfz100_0); (try clear hfz100_1); (try clear hfz100_2); (try clear hfz102_0); (try clear hfz102_1); (try clear hfz102_2); (try clear hfz109_0); (try clear hfz109_1); (try clear hfz109_2); (try clear hfz112_0); (try clear hfz112_1); (try clear hfz112_2); (try clear hfz139_0); (try clear hfz139_1); (try clear hfz139_2); (try clear hfz13_0); (try clear hfz13_1); (try clear hfz13_2); (try clear hfz141_0); (try clear hfz141_1); (try clear hfz141_2); (try clear hfz15_0); (try clear hfz15_1); (try clear hfz15_2); (try clear hfz17_0); (try clear hfz17_1); (try clear hfz17_2); (try clear hfz19_0); (try clear hfz19_1); (try clear hfz19_2); (try clear hfz38_0); (try clear hfz38_1); (try clear hfz38_2); (try clear hfz41_0); (try clear hfz41_1); (try clear hfz41_2); (try clear hfz43_0); (try clear hfz43_1); (try clear hfz43_2); (try clear hfz46_0); (try clear hfz46_1); (try clear hfz46_2); (try clear hfz48_0); (try clear hfz48_1); (try clear hfz48_2); (try clear hfz51_0); (try clear hfz51_1); (try clear hfz51_2); (try clear hfz53_0); (try clear hfz53_1); (try clear hfz53_2); (try clear hfz56_0); (try clear hfz56_1); (try clear hfz56_2); (try clear hfz58_0); (try clear hfz58_1); (try clear hfz58_2); (try clear hfz61_0); (try clear hfz61_1); (try clear hfz61_2); (try clear hfz63_0); (try clear hfz63_1); (try clear hfz63_2); (try clear hfz66_0); (try clear hfz66_1); (try clear hfz66_2); (try clear hfz68_0); (try clear hfz68_1); (try clear hfz68_2); (try clear hfz71_0); (try clear hfz71_1); (try clear hfz71_2); (try clear hfz88_0); (try clear hfz88_1); (try clear hfz88_2); (try clear hfz90_0); (try clear hfz90_1); (try clear hfz90_2); (try clear hfz96_0); (try clear hfz96_1); (try clear hfz96_2); (try clear hfz98_0); (try clear hfz98_1); (try clear hfz98_2)
                obtain ⟨kq, x319_150, rfl, HA, HJ150, HO_38, HO_39, BK516, BK535, BK544, BK559, HB⟩ := hcut
                cases kq with
                | zero => exact absurd HA.out (by simp [laws_FnFramesCounted.j4])
                | succ kj150 =>
                 have H := HA.out
                 clear HA
                 simp only [laws_FnFramesCounted.j4] at H
                 by_cases c153 : x319_150 = true
                 ·subst c153
                  rw [if_pos rfl] at H
                  replace H := Option.bind_eq_some_iff.mp H
                  obtain ⟨⟨t573, t574⟩, A1540, H⟩ := H
                  (try dsimp only at H)
                  have A154 := Aside0.mk A1540
                  clear A1540
                  by_cases c155 : t574 = true
                  ·subst c155
                   rw [if_pos rfl] at H
                   by_cases c156 : t573 > t536
                   ·rw [if_pos c156] at H
                    have c156b0 : decide (t536 < t573) = true := decide_eq_true c156
                    clear c156
                    obtain rfl := Option.some.inj H
                    have hnb157 := NB535_516.out
                    have hnc157 := NB516_535.out
                    have hnb158 := NB535_544.out
                    have hnc158 := NB544_535.out
                    have hnb159 := NB535_559.out
                    have hnc159 := NB559_535.out
                    obtain ⟨hcz160_0, hcz160_1, hcz160_2, hfz160_0, hfz160_1, hfz160_2⟩ := b3U BK535
                    go_wp2_with (first | ((with_reducible refine gate_callee (f := 14) rfl ?_); refine goU (some 324) Tryd.func14 #[.agg #[.int .i64 t531, .bool t532, .int .i64 t533], .int .i64 (wrap64 (t534 - 1))] ?_; (with_reducible refine (impl_CountBreaks.calls kj150 t531 t532 t533 (wrap64 (t534 - 1)) t573 true _ A154.out).mono ?_); rintro e w161 ⟨rfl, hb⟩; refine ⟨_, rfl, ?_⟩; have n0_ := Aside0.mk (Kd.R_below (by (with_reducible repeat (first | apply Kd.R_alloc | apply Kd.R_drewN | apply Kd.R_drew)); exact HO_38.out) hb); have n1_ := Aside0.mk (Kd.R_below (by (with_reducible repeat (first | apply Kd.R_alloc | apply Kd.R_drewN | apply Kd.R_drew)); exact HO_39.out) hb); have n2_ := bbU BK516 hb; have n3_ := bbU BK535 hb; have n4_ := bbU BK544 hb; have n5_ := bbU BK559 hb; have n6_ := bsU hb; clear HO_38; clear HO_39; clear BK516; clear BK535; clear BK544; clear BK559; clear HB; have HO_38 := n0_; have HO_39 := n1_; have BK516 := n2_; have BK535 := n3_; have BK544 := n4_; have BK559 := n5_; have HB := n6_; clear n0_ n1_ n2_ n3_ n4_ n5_ n6_; (try clear hb); (try clear hb2); (try clear hk); (try clear hi)))
                    go_ret
                    exact ⟨by first | rfl | (simp [errW_none, errW_some] <;> rfl) | (simp [*, errW_none, errW_some] <;> rfl), hbU⟩
                   ·rw [if_neg c156] at H
                    have c156b0 : decide (t536 < t573) = false := decide_eq_false c156
                    clear c156
                    by_cases c162 : t573 = 0
                    ·rw [if_pos c162] at H
                     exact absurd H (by simp)
                    ·rw [if_neg c162] at H
                     have c162b0 : (t573 == 0) = false := beq_eq_false_iff_ne.mpr c162
                     have c162b1 : (t573 != 0) = true := bne_iff_ne.mpr c162
                     by_cases c163 : (Int.tmod t536 t573) = 0
                     ·rw [if_pos c163] at H
                      have c163b0 : ((Int.tmod t536 t573) == 0) = true := beq_iff_eq.mpr c163
                      have c163b1 : ((Int.tmod t536 t573) != 0) = false := bne_eq_false_iff_eq.mpr c163
                      clear c163
                      have H' := Aside0.mk H
                      clear H
                      have hnb164 := NB535_516.out
                      have hnc164 := NB516_535.out
                      have hnb165 := NB535_544.out
                      have hnc165 := NB544_535.out
                      have hnb166 := NB535_559.out
                      have hnc166 := NB559_535.out
                      obtain ⟨hcz167_0, hcz167_1, hcz167_2, hfz167_0, hfz167_1, hfz167_2⟩ := b3U BK535
                      go_wp2_with (first | ((with_reducible refine gate_callee (f := 14) rfl ?_); refine goU (some 324) Tryd.func14 #[.agg #[.int .i64 t531, .bool t532, .int .i64 t533], .int .i64 (wrap64 (t534 - 1))] ?_; (with_reducible refine (impl_CountBreaks.calls kj150 t531 t532 t533 (wrap64 (t534 - 1)) t573 true _ A154.out).mono ?_); rintro e w168 ⟨rfl, hb⟩; refine ⟨_, rfl, ?_⟩; have n0_ := Aside0.mk (Kd.R_below (by (with_reducible repeat (first | apply Kd.R_alloc | apply Kd.R_drewN | apply Kd.R_drew)); exact HO_38.out) hb); have n1_ := Aside0.mk (Kd.R_below (by (with_reducible repeat (first | apply Kd.R_alloc | apply Kd.R_drewN | apply Kd.R_drew)); exact HO_39.out) hb); have n2_ := bbU BK516 hb; have n3_ := bbU BK535 hb; have n4_ := bbU BK544 hb; have n5_ := bbU BK559 hb; have n6_ := bsU hb; clear HO_38; clear HO_39; clear BK516; clear BK535; clear BK544; clear BK559; clear HB; have HO_38 := n0_; have HO_39 := n1_; have BK516 := n2_; have BK535 := n3_; have BK544 := n4_; have BK559 := n5_; have HB := n6_; clear n0_ n1_ n2_ n3_ n4_ n5_ n6_; (try clear hb); (try clear hb2); (try clear hk); (try clear hi)))
                      go_meet
                      case rel => exact ⟨_, H', ⟨by have := HJ9.out; have := HJ26.out; have := HJ83.out; have := HJ134.out; have := HJ150.out; first | omega | exact Nat.le_refl _⟩, ⟨by (with_reducible repeat (first | apply Kd.R_alloc | apply Kd.R_drewN | apply Kd.R_drew)); exact HO_38.out⟩, ⟨by (with_reducible repeat (first | apply Kd.R_alloc | apply Kd.R_drewN | apply Kd.R_drew)); exact HO_39.out⟩, ⟨bkU⟩, ⟨bkU⟩, ⟨bkU⟩, ⟨bkU⟩, ⟨hbU⟩⟩
                     ·rw [if_neg c163] at H
                      have c163b0 : ((Int.tmod t536 t573) == 0) = false := beq_eq_false_iff_ne.mpr c163
                      have c163b1 : ((Int.tmod t536 t573) != 0) = true := bne_iff_ne.mpr c163
                      obtain rfl := Option.some.inj H
                      have hnb169 := NB535_516.out
                      have hnc169 := NB516_535.out
                      have hnb170 := NB535_544.out
                      have hnc170 := NB544_535.out
                      have hnb171 := NB535_559.out
                      have hnc171 := NB559_535.out
                      obtain ⟨hcz172_0, hcz172_1, hcz172_2, hfz172_0, hfz172_1, hfz172_2⟩ := b3U BK535
                      go_wp2_with (first | ((with_reducible refine gate_callee (f := 14) rfl ?_); refine goU (some 324) Tryd.func14 #[.agg #[.int .i64 t531, .bool t532, .int .i64 t533], .int .i64 (wrap64 (t534 - 1))] ?_; (with_reducible refine (impl_CountBreaks.calls kj150 t531 t532 t533 (wrap64 (t534 - 1)) t573 true _ A154.out).mono ?_); rintro e w173 ⟨rfl, hb⟩; refine ⟨_, rfl, ?_⟩; have n0_ := Aside0.mk (Kd.R_below (by (with_reducible repeat (first | apply Kd.R_alloc | apply Kd.R_drewN | apply Kd.R_drew)); exact HO_38.out) hb); have n1_ := Aside0.mk (Kd.R_below (by (with_reducible repeat (first | apply Kd.R_alloc | apply Kd.R_drewN | apply Kd.R_drew)); exact HO_39.out) hb); have n2_ := bbU BK516 hb; have n3_ := bbU BK535 hb; have n4_ := bbU BK544 hb; have n5_ := bbU BK559 hb; have n6_ := bsU hb; clear HO_38; clear HO_39; clear BK516; clear BK535; clear BK544; clear BK559; clear HB; have HO_38 := n0_; have HO_39 := n1_; have BK516 := n2_; have BK535 := n3_; have BK544 := n4_; have BK559 := n5_; have HB := n6_; clear n0_ n1_ n2_ n3_ n4_ n5_ n6_; (try clear hb); (try clear hb2); (try clear hk); (try clear hi)))
                      go_ret
                      exact ⟨by first | rfl | (simp [errW_none, errW_some] <;> rfl) | (simp [*, errW_none, errW_some] <;> rfl), hbU⟩
                  ·replace c155 := Bool.eq_false_iff.mpr c155
                   subst c155
                   rw [if_neg (show ¬ (false = true) by decide)] at H
                   obtain rfl := Option.some.inj H
                   have hnb174 := NB535_516.out
                   have hnc174 := NB516_535.out
                   have hnb175 := NB535_544.out
                   have hnc175 := NB544_535.out
                   have hnb176 := NB535_559.out
                   have hnc176 := NB559_535.out
                   obtain ⟨hcz177_0, hcz177_1, hcz177_2, hfz177_0, hfz177_1, hfz177_2⟩ := b3U BK535
                   go_wp2_with (first | ((with_reducible refine gate_callee (f := 14) rfl ?_); refine goU (some 324) Tryd.func14 #[.agg #[.int .i64 t531, .bool t532, .int .i64 t533], .int .i64 (wrap64 (t534 - 1))] ?_; (with_reducible refine (impl_CountBreaks.calls kj150 t531 t532 t533 (wrap64 (t534 - 1)) t573 false _ A154.out).mono ?_); rintro e w178 ⟨rfl, hb⟩; refine ⟨_, rfl, ?_⟩; have n0_ := Aside0.mk (Kd.R_below (by (with_reducible repeat (first | apply Kd.R_alloc | apply Kd.R_drewN | apply Kd.R_drew)); exact HO_38.out) hb); have n1_ := Aside0.mk (Kd.R_below (by (with_reducible repeat (first | apply Kd.R_alloc | apply Kd.R_drewN | apply Kd.R_drew)); exact HO_39.out) hb); have n2_ := bbU BK516 hb; have n3_ := bbU BK535 hb; have n4_ := bbU BK544 hb; have n5_ := bbU BK559 hb; have n6_ := bsU hb; clear HO_38; clear HO_39; clear BK516; clear BK535; clear BK544; clear BK559; clear HB; have HO_38 := n0_; have HO_39 := n1_; have BK516 := n2_; have BK535 := n3_; have BK544 := n4_; have BK559 := n5_; have HB := n6_; clear n0_ n1_ n2_ n3_ n4_ n5_ n6_; (try clear hb); (try clear hb2); (try clear hk); (try clear hi)))
                   go_ret
                   exact ⟨by first | rfl | (simp [errW_none, errW_some] <;> rfl) | (simp [*, errW_none, errW_some] <;> rfl), hbU⟩
                 ·replace c153 := Bool.eq_false_iff.mpr c153
                  subst c153
                  rw [if_neg (show ¬ (false = true) by decide)] at H
                  have H' := Aside0.mk H
                  clear H
                  go_wp2
                  go_meet
                  case rel => exact ⟨_, H', ⟨by have := HJ9.out; have := HJ26.out; have := HJ83.out; have := HJ134.out; have := HJ150.out; first | omega | exact Nat.le_refl _⟩, ⟨by (with_reducible repeat (first | apply Kd.R_alloc | apply Kd.R_drewN | apply Kd.R_drew)); exact HO_38.out⟩, ⟨by (with_reducible repeat (first | apply Kd.R_alloc | apply Kd.R_drewN | apply Kd.R_drew)); exact HO_39.out⟩, ⟨bkU⟩, ⟨bkU⟩, ⟨bkU⟩, ⟨bkU⟩, ⟨hbU⟩⟩
           ·replace c132 := Bool.eq_false_iff.mpr c132
            subst c132
            rw [if_neg (show ¬ (false = true) by decide)] at H
            have H' := Aside0.mk H
            clear H
            go_wp2
            go_meet
            case rel => exact ⟨_, H', ⟨by have := HJ9.out; have := HJ26.out; have := HJ83.out; first | omega | exact Nat.le_refl _⟩, ⟨by (with_reducible repeat (first | apply Kd.R_alloc | apply Kd.R_drewN | apply Kd.R_drew)); exact HO_38.out⟩, ⟨by (with_reducible repeat (first | apply Kd.R_alloc | apply Kd.R_drewN | apply Kd.R_drew)); exact HO_39.out⟩, ⟨bkU⟩, ⟨bkU⟩, ⟨bkU⟩, ⟨bkU⟩, ⟨hbU⟩⟩
          case rest => as_aux_lemma =>
           clear HC131
           (try clear c1); (try clear c4); (try clear c21); (try clear c21b0); (try clear c21b1); (try clear c21b2); (try clear c22); (try clear c22b0); (try clear c22b1); (try clear c23); (try clear c23b0); (try clear c23b1); (try clear c23b2); (try clear c24); (try clear c24b0); (try clear c24b1); (try clear c25); (try clear c26); (try clear c28); (try clear c32); (try clear c33); (try clear c34); (try clear c35); (try clear c35b0); (try clear c35b1); (try clear c36); (try clear c37); (try clear c37b0); (try clear c114); (try clear c114b0); (try clear c114b1); (try clear c114b2); (try clear c115); (try clear c115b0); (try clear c115b1); (try clear c116); (try clear c116b0); (try clear c116b1); (try clear c116b2); (try clear c117); (try clear c117b0); (try clear c117b1); (try clear c117b2); (try clear c118); (try clear c118b0); (try clear c118b1); (try clear c118b2); (try clear c119); (try clear c119b0); (try clear c119b1); (try clear c120); (try clear c120b0); (try clear c120b1); (try clear c120b2); (try clear c122); (try clear c123); (try clear c130); (try clear c132); (try clear c143); (try clear c144); (try clear c145); (try clear c145b0); (try clear c145b1); (try clear c145b2); (try clear c146); (try clear c146b0); (try clear c146b1); (try clear c147); (try clear c147b0); (try clear c147b1); (try clear c148); (try clear c148b0); (try clear c148b1); (try clear c149); (try clear c149b0); (try clear c149b1); (try clear c150); (try clear c152); (try clear c152b0); (try clear c153); (try clear c155); (try clear c156); (try clear c156b0); (try clear c162); (try clear c162b0); (try clear c162b1); (try clear c163); (try clear c163b0); (try clear c163b1); (try clear hcz100_0); (try clear hcz100_1); (try clear hcz100_2); (try clear hcz102_0); (try clear hcz102_1); (try clear hcz102_2); (try clear hcz109_0); (try clear hcz109_1); (try clear hcz109_2); (try clear hcz112_0); (try clear hcz112_1); (try clear hcz112_2); (try clear hcz139_0); (try clear hcz139_1); (try clear hcz139_2); (try clear hcz13_0); (try clear hcz13_1); (try clear hcz13_2); (try clear hcz141_0); (try clear hcz141_1); (try clear hcz141_2); (try clear hcz15_0); (try clear hcz15_1); (try clear hcz15_2); (try clear hcz160_0); (try clear hcz160_1); (try clear hcz160_2); (try clear hcz167_0); (try clear hcz167_1); (try clear hcz167_2); (try clear hcz172_0); (try clear hcz172_1); (try clear hcz172_2); (try clear hcz177_0); (try clear hcz177_1); (try clear hcz177_2); (try clear hcz17_0); (try clear hcz17_1); (try clear hcz17_2); (try clear hcz19_0); (try clear hcz19_1); (try clear hcz19_2); (try clear hcz38_0); (try clear hcz38_1); (try clear hcz38_2); (try clear hcz41_0); (try clear hcz41_1); (try clear hcz41_2); (try clear hcz43_0); (try clear hcz43_1); (try clear hcz43_2); (try clear hcz46_0); (try clear hcz46_1); (try clear hcz46_2); (try clear hcz48_0); (try clear hcz48_1); (try clear hcz48_2); (try clear hcz51_0); (try clear hcz51_1); (try clear hcz51_2); (try clear hcz53_0); (try clear hcz53_1); (try clear hcz53_2); (try clear hcz56_0); (try clear hcz56_1); (try clear hcz56_2); (try clear hcz58_0); (try clear hcz58_1); (try clear hcz58_2); (try clear hcz61_0); (try clear hcz61_1); (try clear hcz61_2); (try clear hcz63_0); (try clear hcz63_1); (try clear hcz63_2); (try clear hcz66_0); (try clear hcz66_1); (try clear hcz66_2); (try clear hcz68_0); (try clear hcz68_1); (try clear hcz68_2); (try clear hcz71_0); (try clear hcz71_1); (try clear hcz71_2); (try clear hcz88_0); (try clear hcz88_1); (try clear hcz88_2); (try clear hcz90_0); (try clear hcz90_1); (try clear hcz90_2); (try clear hcz96_0); (try clear hcz96_1); (try clear hcz96_2); (try clear hcz98_0); (try clear hcz98_1); (try clear hcz98_2); (try clear hfz100_0); (try clear hfz100_1); (try clear hfz100_2); (try clear hfz102_0); (try clear hfz102_1); (try clear hfz102_2); (try clear hfz109_0); (try clear hfz109_1); (try clear hfz109_2); (try clear hfz112_0); (try clear hfz112_1); (try clear hfz112_2); (try clear hfz139_0); (try clear hfz139_1); (try clear hfz139_2); (try clear hfz13_0); (try clear hfz13_1); (try clear hfz13_2); (try clear hfz141_0); (try clear hfz141_1); (try clear hfz141_2); (try clear hfz15_0); (try clear hfz15_1); (try clear hfz15_2); (try clear hfz160_0); (try clear hfz160_1); (try clear hfz160_2); (try clear hfz167_0); (try clear hfz167_1); (try clear hfz167_2); (try clear hfz172_0); (try clear hfz172_1); (try clear hfz172_2); (try clear hfz177_0); (try clear hfz177_1); (try clear hfz177_2); (try clear hfz17_0); (try clear hfz17_1); (try clear hfz17_2); (try clear hfz19_0); (try clear hfz19_1); (try clear hfz19_2); (try clear hfz38_0); (try clear hfz38_1); (try clear hfz38_2); (try clear hfz41_0); (try clear hfz41_1); (try clear hfz41_2); (try clear hfz43_0); (try clear hfz43_1); (try clear hfz43_2); (try clear hfz46_0); (try clear hfz46_1); (try clear hfz46_2); (try clear hfz48_0); (try clear hfz48_1); (try clear hfz48_2); (try clear hfz51_0); (try clear hfz51_1); (try clear hfz51_2); (try clear hfz53_0); (try clear hfz53_1); (try clear hfz53_2); (try clear hfz56_0); (try clear hfz56_1); (try clear hfz56_2); (try clear hfz58_0); (try clear hfz58_1); (try clear hfz58_2); (try clear hfz61_0); (try clear hfz61_1); (try clear hfz61_2); (try clear hfz63_0); (try clear hfz63_1); (try clear hfz63_2); (try clear hfz66_0); (try clear hfz66_1); (try clear hfz66_2); (try clear hfz68_0); (try clear hfz68_1); (try clear hfz68_2); (try clear hfz71_0); (try clear hfz71_1); (try clear hfz71_2); (try clear hfz88_0); (try clear hfz88_1); (try clear hfz88_2); (try clear hfz90_0); (try clear hfz90_1); (try clear hfz90_2); (try clear hfz96_0); (try clear hfz96_1); (try clear hfz96_2); (try clear hfz98_0); (try clear hfz98_1); (try clear hfz98_2)
           obtain ⟨kq, HA, HJ130, HO_38, HO_39, BK516, BK535, BK544, BK559, HB⟩ := hcut
           cases kq with
           | zero => exact absurd HA.out (by simp [laws_FnFramesCounted.j5])
           | succ kj130 =>
            have H := HA.out
            clear HA
            simp only [laws_FnFramesCounted.j5] at H
            have HC179 := Aside0.mk H
            clear H
            go_upto_if 340 with (fail)
            go_cut [] from 9999 to 9999 (fun wc => ∃ (kq : Nat), Aside0 (laws_FnFramesCounted.j6 kq t556 t560 t563 t553 t554 t555 = some r) ∧ Aside0 (kq ≤ kj130) ∧ Aside0 (Kd.R Kd.string 9 wc w.heap.size (fun _ => True) (.slice Ao110 t556.length co110) t556) ∧ Aside0 (Kd.R (Kd.int .i64) 3 wc w.heap.size (fun _ => True) v561 t560) ∧ Aside0 (wc.heap[gb516]? = some (.cells #[.int .i64 t512, .bool t513, .int .i64 t514] 25 (0, 0))) ∧ Aside0 (wc.heap[gb535]? = some (.cells #[.int .i64 t531, .bool t532, .int .i64 t533] 25 (0, 0))) ∧ Aside0 (wc.heap[gb544]? = some (.cells #[.int .i64 t540, .bool t541, .int .i64 t542] 25 (0, 0))) ∧ Aside0 (wc.heap[gb559]? = some (.cells #[.int .i64 t553, .bool t554, .int .i64 t555] 25 (0, 0))) ∧ Aside0 (Below w.heap.size w wc))
            case first => as_aux_lemma =>
             have H := HC179.out
             clear HC179
             by_cases c180 : t550 = true
             ·subst c180
              rw [if_pos rfl] at H
              replace H := Option.bind_eq_some_iff.mp H
              obtain ⟨⟨t575, t576⟩, A1810, H⟩ := H
              (try dsimp only at H)
              have A181 := Aside0.mk A1810
              clear A1810
              by_cases c182 : t576 = true
              ·subst c182
               rw [if_pos rfl] at H
               by_cases c183 : (t545 != (t549 == 0)) = true
               ·rw [if_pos c183] at H
                have c183b0 : (t545 != (t549 == 0)) = true := c183
                (try (have c183b1 : decide (t545 = (t549 == 0)) = false := by simpa using c183))
                (try (have c183b2 : (t545 == (t549 == 0)) = false := by simpa using c183))
                (try (have c183b3 : ¬ (t545 = (t549 == 0)) := by simpa using c183))
                clear c183
                (first | rw [c183b0] | (simp only [i64_w, i32_w]; rw [c183b0]) | skip)
                obtain rfl := Option.some.inj H
                have hnb184 := NB544_516.out
                have hnc184 := NB516_544.out
                have hnb185 := NB544_535.out
                have hnc185 := NB535_544.out
                have hnb186 := NB544_559.out
                have hnc186 := NB559_544.out
                obtain ⟨hcz187_0, hcz187_1, hcz187_2, hfz187_0, hfz187_1, hfz187_2⟩ := b3U BK544
                go_wp2_with (first | ((with_reducible refine gate_callee (f := 12) rfl ?_); refine goU (some 343) Tryd.func12 #[.agg #[.int .i64 t540, .bool t541, .int .i64 t542]] ?_; (with_reducible refine (impl_PointsLeft.calls kj130 t540 t541 t542 t575 true _ A181.out).mono ?_); rintro e w188 ⟨rfl, hb⟩; refine ⟨_, rfl, ?_⟩; have n0_ := Aside0.mk (Kd.R_below (by (with_reducible repeat (first | apply Kd.R_alloc | apply Kd.R_drewN | apply Kd.R_drew)); exact HO_38.out) hb); have n1_ := Aside0.mk (Kd.R_below (by (with_reducible repeat (first | apply Kd.R_alloc | apply Kd.R_drewN | apply Kd.R_drew)); exact HO_39.out) hb); have n2_ := bbU BK516 hb; have n3_ := bbU BK535 hb; have n4_ := bbU BK544 hb; have n5_ := bbU BK559 hb; have n6_ := bsU hb; clear HO_38; clear HO_39; clear BK516; clear BK535; clear BK544; clear BK559; clear HB; have HO_38 := n0_; have HO_39 := n1_; have BK516 := n2_; have BK535 := n3_; have BK544 := n4_; have BK559 := n5_; have HB := n6_; clear n0_ n1_ n2_ n3_ n4_ n5_ n6_; (try clear hb); (try clear hb2); (try clear hk); (try clear hi)))
                go_ret
                exact ⟨by first | rfl | (simp [errW_none, errW_some] <;> rfl) | (simp [*, errW_none, errW_some] <;> rfl), hbU⟩
               ·rw [if_neg c183] at H
                have c183b0 : (t545 != (t549 == 0)) = false := by simpa using c183
                (try (have c183b1 : decide (t545 = (t549 == 0)) = true := by simpa using c183))
                (try (have c183b2 : (t545 == (t549 == 0)) = true := by simpa using c183))
                clear c183
                (first | rw [c183b0] | (simp only [i64_w, i32_w]; rw [c183b0]) | skip)
                by_cases c189 : (t545 != (decide (t575 > t543))) = true
                ·rw [if_pos c189] at H
                 have c189b0 : (t545 != (decide (t575 > t543))) = true := c189
                 (try (have c189b1 : decide (t545 = (decide (t575 > t543))) = false := by simpa using c189))
                 (try (have c189b2 : (t545 == (decide (t575 > t543))) = false := by simpa using c189))
                 (try (have c189b3 : ¬ (t545 = (decide (t575 > t543))) := by simpa using c189))
                 clear c189
                 obtain rfl := Option.some.inj H
                 have hnb190 := NB544_516.out
                 have hnc190 := NB516_544.out
                 have hnb191 := NB544_535.out
                 have hnc191 := NB535_544.out
                 have hnb192 := NB544_559.out
                 have hnc192 := NB559_544.out
                 obtain ⟨hcz193_0, hcz193_1, hcz193_2, hfz193_0, hfz193_1, hfz193_2⟩ := b3U BK544
                 go_wp2_with (first | ((with_reducible refine gate_callee (f := 12) rfl ?_); refine goU (some 343) Tryd.func12 #[.agg #[.int .i64 t540, .bool t541, .int .i64 t542]] ?_; (with_reducible refine (impl_PointsLeft.calls kj130 t540 t541 t542 t575 true _ A181.out).mono ?_); rintro e w194 ⟨rfl, hb⟩; refine ⟨_, rfl, ?_⟩; have n0_ := Aside0.mk (Kd.R_below (by (with_reducible repeat (first | apply Kd.R_alloc | apply Kd.R_drewN | apply Kd.R_drew)); exact HO_38.out) hb); have n1_ := Aside0.mk (Kd.R_below (by (with_reducible repeat (first | apply Kd.R_alloc | apply Kd.R_drewN | apply Kd.R_drew)); exact HO_39.out) hb); have n2_ := bbU BK516 hb; have n3_ := bbU BK535 hb; have n4_ := bbU BK544 hb; have n5_ := bbU BK559 hb; have n6_ := bsU hb; clear HO_38; clear HO_39; clear BK516; clear BK535; clear BK544; clear BK559; clear HB; have HO_38 := n0_; have HO_39 := n1_; have BK516 := n2_; have BK535 := n3_; have BK544 := n4_; have BK559 := n5_; have HB := n6_; clear n0_ n1_ n2_ n3_ n4_ n5_ n6_; (try clear hb); (try clear hb2); (try clear hk); (try clear hi)))
                 go_ret
                 exact ⟨by first | rfl | (simp [errW_none, errW_some] <;> rfl) | (simp [*, errW_none, errW_some] <;> rfl), hbU⟩
                ·rw [if_neg c189] at H
                 have c189b0 : (t545 != (decide (t575 > t543))) = false := by simpa using c189
                 (try (have c189b1 : decide (t545 = (decide (t575 > t543))) = true := by simpa using c189))
                 (try (have c189b2 : (t545 == (decide (t575 > t543))) = true := by simpa using c189))
                 clear c189
                 by_cases c195 : t549 < 0
                 ·rw [if_pos c195] at H
                  have c195b0 : decide (t549 < 0) = true := decide_eq_true c195
                  clear c195
                  obtain rfl := Option.some.inj H
                  have hnb196 := NB544_516.out
                  have hnc196 := NB516_544.out
                  have hnb197 := NB544_535.out
                  have hnc197 := NB535_544.out
                  have hnb198 := NB544_559.out
                  have hnc198 := NB559_544.out
                  obtain ⟨hcz199_0, hcz199_1, hcz199_2, hfz199_0, hfz199_1, hfz199_2⟩ := b3U BK544
                  go_wp2_with (first | ((with_reducible refine gate_callee (f := 12) rfl ?_); refine goU (some 343) Tryd.func12 #[.agg #[.int .i64 t540, .bool t541, .int .i64 t542]] ?_; (with_reducible refine (impl_PointsLeft.calls kj130 t540 t541 t542 t575 true _ A181.out).mono ?_); rintro e w200 ⟨rfl, hb⟩; refine ⟨_, rfl, ?_⟩; have n0_ := Aside0.mk (Kd.R_below (by (with_reducible repeat (first | apply Kd.R_alloc | apply Kd.R_drewN | apply Kd.R_drew)); exact HO_38.out) hb); have n1_ := Aside0.mk (Kd.R_below (by (with_reducible repeat (first | apply Kd.R_alloc | apply Kd.R_drewN | apply Kd.R_drew)); exact HO_39.out) hb); have n2_ := bbU BK516 hb; have n3_ := bbU BK535 hb; have n4_ := bbU BK544 hb; have n5_ := bbU BK559 hb; have n6_ := bsU hb; clear HO_38; clear HO_39; clear BK516; clear BK535; clear BK544; clear BK559; clear HB; have HO_38 := n0_; have HO_39 := n1_; have BK516 := n2_; have BK535 := n3_; have BK544 := n4_; have BK559 := n5_; have HB := n6_; clear n0_ n1_ n2_ n3_ n4_ n5_ n6_; (try clear hb); (try clear hb2); (try clear hk); (try clear hi)))
                  go_ret
                  exact ⟨by first | rfl | (simp [errW_none, errW_some] <;> rfl) | (simp [*, errW_none, errW_some] <;> rfl), hbU⟩
                 ·rw [if_neg c195] at H
                  have c195b0 : decide (t549 < 0) = false := decide_eq_false c195
                  clear c195
                  by_cases c201 : (wrap64 (t575 + (wrap64 (4 * t549)))) ≤ t543
                  ·rw [if_pos c201] at H
                   have c201b0 : decide ((wrap64 (t575 + (wrap64 (4 * t549)))) ≤ t543) = true := decide_eq_true c201
                   clear c201
                   obtain rfl := Option.some.inj H
                   have hnb202 := NB544_516.out
                   have hnc202 := NB516_544.out
                   have hnb203 := NB544_535.out
                   have hnc203 := NB535_544.out
                   have hnb204 := NB544_559.out
                   have hnc204 := NB559_544.out
                   obtain ⟨hcz205_0, hcz205_1, hcz205_2, hfz205_0, hfz205_1, hfz205_2⟩ := b3U BK544
                   go_wp2_with (first | ((with_reducible refine gate_callee (f := 12) rfl ?_); refine goU (some 343) Tryd.func12 #[.agg #[.int .i64 t540, .bool t541, .int .i64 t542]] ?_; (with_reducible refine (impl_PointsLeft.calls kj130 t540 t541 t542 t575 true _ A181.out).mono ?_); rintro e w206 ⟨rfl, hb⟩; refine ⟨_, rfl, ?_⟩; have n0_ := Aside0.mk (Kd.R_below (by (with_reducible repeat (first | apply Kd.R_alloc | apply Kd.R_drewN | apply Kd.R_drew)); exact HO_38.out) hb); have n1_ := Aside0.mk (Kd.R_below (by (with_reducible repeat (first | apply Kd.R_alloc | apply Kd.R_drewN | apply Kd.R_drew)); exact HO_39.out) hb); have n2_ := bbU BK516 hb; have n3_ := bbU BK535 hb; have n4_ := bbU BK544 hb; have n5_ := bbU BK559 hb; have n6_ := bsU hb; clear HO_38; clear HO_39; clear BK516; clear BK535; clear BK544; clear BK559; clear HB; have HO_38 := n0_; have HO_39 := n1_; have BK516 := n2_; have BK535 := n3_; have BK544 := n4_; have BK559 := n5_; have HB := n6_; clear n0_ n1_ n2_ n3_ n4_ n5_ n6_; (try clear hb); (try clear hb2); (try clear hk); (try clear hi)))
                   go_ret
                   exact ⟨by first | rfl | (simp [errW_none, errW_some] <;> rfl) | (simp [*, errW_none, errW_some] <;> rfl), hbU⟩
                  ·rw [if_neg c201] at H
                   have c201b0 : decide ((wrap64 (t575 + (wrap64 (4 * t549)))) ≤ t543) = false := decide_eq_false c201
                   clear c201
                   by_cases c207 : t549 > 0
                   ·rw [if_pos c207] at H
                    have c207b0 : decide (0 < t549) = true := decide_eq_true c207
                    clear c207
                    by_cases c208 : (wrap64 (t575 + (wrap64 (4 * (wrap64 (t549 - 1)))))) > t543
                    ·rw [if_pos c208] at H
                     have c208b0 : decide (t543 < (wrap64 (t575 + (wrap64 (4 * (wrap64 (t549 - 1))))))) = true := decide_eq_true c208
                     clear c208
                     obtain rfl := Option.some.inj H
                     have hnb209 := NB544_516.out
                     have hnc209 := NB516_544.out
                     have hnb210 := NB544_535.out
                     have hnc210 := NB535_544.out
                     have hnb211 := NB544_559.out
                     have hnc211 := NB559_544.out
                     obtain ⟨hcz212_0, hcz212_1, hcz212_2, hfz212_0, hfz212_1, hfz212_2⟩ := b3U BK544
                     go_wp2_with (first | ((with_reducible refine gate_callee (f := 12) rfl ?_); refine goU (some 343) Tryd.func12 #[.agg #[.int .i64 t540, .bool t541, .int .i64 t542]] ?_; (with_reducible refine (impl_PointsLeft.calls kj130 t540 t541 t542 t575 true _ A181.out).mono ?_); rintro e w213 ⟨rfl, hb⟩; refine ⟨_, rfl, ?_⟩; have n0_ := Aside0.mk (Kd.R_below (by (with_reducible repeat (first | apply Kd.R_alloc | apply Kd.R_drewN | apply Kd.R_drew)); exact HO_38.out) hb); have n1_ := Aside0.mk (Kd.R_below (by (with_reducible repeat (first | apply Kd.R_alloc | apply Kd.R_drewN | apply Kd.R_drew)); exact HO_39.out) hb); have n2_ := bbU BK516 hb; have n3_ := bbU BK535 hb; have n4_ := bbU BK544 hb; have n5_ := bbU BK559 hb; have n6_ := bsU hb; clear HO_38; clear HO_39; clear BK516; clear BK535; clear BK544; clear BK559; clear HB; have HO_38 := n0_; have HO_39 := n1_; have BK516 := n2_; have BK535 := n3_; have BK544 := n4_; have BK559 := n5_; have HB := n6_; clear n0_ n1_ n2_ n3_ n4_ n5_ n6_; (try clear hb); (try clear hb2); (try clear hk); (try clear hi)))
                     go_ret
                     exact ⟨by first | rfl | (simp [errW_none, errW_some] <;> rfl) | (simp [*, errW_none, errW_some] <;> rfl), hbU⟩
                    ·rw [if_neg c208] at H
                     have c208b0 : decide (t543 < (wrap64 (t575 + (wrap64 (4 * (wrap64 (t549 - 1))))))) = false := decide_eq_false c208
                     clear c208
                     have H' := Aside0.mk H
                     clear H
                     have hnb214 := NB544_516.out
                     have hnc214 := NB516_544.out
                     have hnb215 := NB544_535.out
                     have hnc215 := NB535_544.out
                     have hnb216 := NB544_559.out
                     have hnc216 := NB559_544.out
                     obtain ⟨hcz217_0, hcz217_1, hcz217_2, hfz217_0, hfz217_1, hfz217_2⟩ := b3U BK544
                     go_wp2_with (first | ((with_reducible refine gate_callee (f := 12) rfl ?_); refine goU (some 343) Tryd.func12 #[.agg #[.int .i64 t540, .bool t541, .int .i64 t542]] ?_; (with_reducible refine (impl_PointsLeft.calls kj130 t540 t541 t542 t575 true _ A181.out).mono ?_); rintro e w218 ⟨rfl, hb⟩; refine ⟨_, rfl, ?_⟩; have n0_ := Aside0.mk (Kd.R_below (by (with_reducible repeat (first | apply Kd.R_alloc | apply Kd.R_drewN | apply Kd.R_drew)); exact HO_38.out) hb); have n1_ := Aside0.mk (Kd.R_below (by (with_reducible repeat (first | apply Kd.R_alloc | apply Kd.R_drewN | apply Kd.R_drew)); exact HO_39.out) hb); have n2_ := bbU BK516 hb; have n3_ := bbU BK535 hb; have n4_ := bbU BK544 hb; have n5_ := bbU BK559 hb; have n6_ := bsU hb; clear HO_38; clear HO_39; clear BK516; clear BK535; clear BK544; clear BK559; clear HB; have HO_38 := n0_; have HO_39 := n1_; have BK516 := n2_; have BK535 := n3_; have BK544 := n4_; have BK559 := n5_; have HB := n6_; clear n0_ n1_ n2_ n3_ n4_ n5_ n6_; (try clear hb); (try clear hb2); (try clear hk); (try clear hi)))
                     go_meet
                     case rel => exact ⟨_, H', ⟨by have := HJ9.out; have := HJ26.out; have := HJ83.out; have := HJ130.out; first | omega | exact Nat.le_refl _⟩, ⟨by (with_reducible repeat (first | apply Kd.R_alloc | apply Kd.R_drewN | apply Kd.R_drew)); exact HO_38.out⟩, ⟨by (with_reducible repeat (first | apply Kd.R_alloc | apply Kd.R_drewN | apply Kd.R_drew)); exact HO_39.out⟩, ⟨bkU⟩, ⟨bkU⟩, ⟨bkU⟩, ⟨bkU⟩, ⟨hbU⟩⟩
                   ·rw [if_neg c207] at H
                    have c207b0 : decide (0 < t549) = false := decide_eq_false c207
                    clear c207
                    have H' := Aside0.mk H
                    clear H
                    have hnb219 := NB544_516.out
                    have hnc219 := NB516_544.out
                    have hnb220 := NB544_535.out
                    have hnc220 := NB535_544.out
                    have hnb221 := NB544_559.out
                    have hnc221 := NB559_544.out
                    obtain ⟨hcz222_0, hcz222_1, hcz222_2, hfz222_0, hfz222_1, hfz222_2⟩ := b3U BK544
                    go_wp2_with (first | ((with_reducible refine gate_callee (f := 12) rfl ?_); refine goU (some 343) Tryd.func12 #[.agg #[.int .i64 t540, .bool t541, .int .i64 t542]] ?_; (with_reducible refine (impl_PointsLeft.calls kj130 t540 t541 t542 t575 true _ A181.out).mono ?_); rintro e w223 ⟨rfl, hb⟩; refine ⟨_, rfl, ?_⟩; have n0_ := Aside0.mk (Kd.R_below (by (with_reducible repeat (first | apply Kd.R_alloc | apply Kd.R_drewN | apply Kd.R_drew)); exact HO_38.out) hb); have n1_ := Aside0.mk (Kd.R_below (by (with_reducible repeat (first | apply Kd.R_alloc | apply Kd.R_drewN | apply Kd.R_drew)); exact HO_39.out) hb); have n2_ := bbU BK516 hb; have n3_ := bbU BK535 hb; have n4_ := bbU BK544 hb; have n5_ := bbU BK559 hb; have n6_ := bsU hb; clear HO_38; clear HO_39; clear BK516; clear BK535; clear BK544; clear BK559; clear HB; have HO_38 := n0_; have HO_39 := n1_; have BK516 := n2_; have BK535 := n3_; have BK544 := n4_; have BK559 := n5_; have HB := n6_; clear n0_ n1_ n2_ n3_ n4_ n5_ n6_; (try clear hb); (try clear hb2); (try clear hk); (try clear hi)))
                    go_meet
                    case rel => exact ⟨_, H', ⟨by have := HJ9.out; have := HJ26.out; have := HJ83.out; have := HJ130.out; first | omega | exact Nat.le_refl _⟩, ⟨by (with_reducible repeat (first | apply Kd.R_alloc | apply Kd.R_drewN | apply Kd.R_drew)); exact HO_38.out⟩, ⟨by (with_reducible repeat (first | apply Kd.R_alloc | apply Kd.R_drewN | apply Kd.R_drew)); exact HO_39.out⟩, ⟨bkU⟩, ⟨bkU⟩, ⟨bkU⟩, ⟨bkU⟩, ⟨hbU⟩⟩
              ·replace c182 := Bool.eq_false_iff.mpr c182
               subst c182
               rw [if_neg (show ¬ (false = true) by decide)] at H
               obtain rfl := Option.some.inj H
               have hnb224 := NB544_516.out
               have hnc224 := NB516_544.out
               have hnb225 := NB544_535.out
               have hnc225 := NB535_544.out
               have hnb226 := NB544_559.out
               have hnc226 := NB559_544.out
               obtain ⟨hcz227_0, hcz227_1, hcz227_2, hfz227_0, hfz227_1, hfz227_2⟩ := b3U BK544
               go_wp2_with (first | ((with_reducible refine gate_callee (f := 12) rfl ?_); refine goU (some 343) Tryd.func12 #[.agg #[.int .i64 t540, .bool t541, .int .i64 t542]] ?_; (with_reducible refine (impl_PointsLeft.calls kj130 t540 t541 t542 t575 false _ A181.out).mono ?_); rintro e w228 ⟨rfl, hb⟩; refine ⟨_, rfl, ?_⟩; have n0_ := Aside0.mk (Kd.R_below (by (with_reducible repeat (first | apply Kd.R_alloc | apply Kd.R_drewN | apply Kd.R_drew)); exact HO_38.out) hb); have n1_ := Aside0.mk (Kd.R_below (by (with_reducible repeat (first | apply Kd.R_alloc | apply Kd.R_drewN | apply Kd.R_drew)); exact HO_39.out) hb); have n2_ := bbU BK516 hb; have n3_ := bbU BK535 hb; have n4_ := bbU BK544 hb; have n5_ := bbU BK559 hb; have n6_ := bsU hb; clear HO_38; clear HO_39; clear BK516; clear BK535; clear BK544; clear BK559; clear HB; have HO_38 := n0_; have HO_39 := n1_; have BK516 := n2_; have BK535 := n3_; have BK544 := n4_; have BK559 := n5_; have HB := n6_; clear n0_ n1_ n2_ n3_ n4_ n5_ n6_; (try clear hb); (try clear hb2); (try clear hk); (try clear hi)))
               go_ret
               exact ⟨by first | rfl | (simp [errW_none, errW_some] <;> rfl) | (simp [*, errW_none, errW_some] <;> rfl), hbU⟩
             ·replace c180 := Bool.eq_false_iff.mpr c180
              subst c180
              rw [if_neg (show ¬ (false = true) by decide)] at H
              have H' := Aside0.mk H
              clear H
              go_wp2
              go_meet
              case rel => exact ⟨_, H', ⟨by have := HJ9.out; have := HJ26.out; have := HJ83.out; have := HJ130.out; first | omega | exact Nat.le_refl _⟩, ⟨by (with_reducible repeat (first | apply Kd.R_alloc | apply Kd.R_drewN | apply Kd.R_drew)); exact HO_38.out⟩, ⟨by (with_reducible repeat (first | apply Kd.R_alloc | apply Kd.R_drewN | apply Kd.R_drew)); exact HO_39.out⟩, ⟨bkU⟩, ⟨bkU⟩, ⟨bkU⟩, ⟨bkU⟩, ⟨hbU⟩⟩
            case rest => as_aux_lemma =>
             clear HC179
             (try clear c1); (try clear c4); (try clear c21); (try clear c21b0); (try clear c21b1); (try clear c21b2); (try clear c22); (try clear c22b0); (try clear c22b1); (try clear c23); (try clear c23b0); (try clear c23b1); (try clear c23b2); (try clear c24); (try clear c24b0); (try clear c24b1); (try clear c25); (try clear c26); (try clear c28); (try clear c32); (try clear c33); (try clear c34); (try clear c35); (try clear c35b0); (try clear c35b1); (try clear c36); (try clear c37); (try clear c37b0); (try clear c114); (try clear c114b0); (try clear c114b1); (try clear c114b2); (try clear c115); (try clear c115b0); (try clear c115b1); (try clear c116); (try clear c116b0); (try clear c116b1); (try clear c116b2); (try clear c117); (try clear c117b0); (try clear c117b1); (try clear c117b2); (try clear c118); (try clear c118b0); (try clear c118b1); (try clear c118b2); (try clear c119); (try clear c119b0); (try clear c119b1); (try clear c120); (try clear c120b0); (try clear c120b1); (try clear c120b2); (try clear c122); (try clear c123); (try clear c130); (try clear c132); (try clear c143); (try clear c144); (try clear c145); (try clear c145b0); (try clear c145b1); (try clear c145b2); (try clear c146); (try clear c146b0); (try clear c146b1); (try clear c147); (try clear c147b0); (try clear c147b1); (try clear c148); (try clear c148b0); (try clear c148b1); (try clear c149); (try clear c149b0); (try clear c149b1); (try clear c150); (try clear c152); (try clear c152b0); (try clear c153); (try clear c155); (try clear c156); (try clear c156b0); (try clear c162); (try clear c162b0); (try clear c162b1); (try clear c163); (try clear c163b0); (try clear c163b1); (try clear c180); (try clear c182); (try clear c183); (try clear c183b0); (try clear c183b1); (try clear c183b2); (try clear c189); (try clear c189b0); (try clear c189b1); (try clear c189b2); (try clear c195); (try clear c195b0); (try clear c201); (try clear c201b0); (try clear c207); (try clear c207b0); (try clear c208); (try clear c208b0); (try clear hcz100_0); (try clear hcz100_1); (try clear hcz100_2); (try clear hcz102_0); (try clear hcz102_1); (try clear hcz102_2); (try clear hcz109_0); (try clear hcz109_1); (try clear hcz109_2); (try clear hcz112_0); (try clear hcz112_1); (try clear hcz112_2); (try clear hcz139_0); (try clear hcz139_1); (try clear hcz139_2); (try clear hcz13_0); (try clear hcz13_1); (try clear hcz13_2); (try clear hcz141_0); (try clear hcz141_1); (try clear hcz141_2); (try clear hcz15_0); (try clear hcz15_1); (try clear hcz15_2); (try clear hcz160_0); (try clear hcz160_1); (try clear hcz160_2); (try clear hcz167_0); (try clear hcz167_1); (try clear hcz167_2); (try clear hcz172_0); (try clear hcz172_1); (try clear hcz172_2); (try clear hcz177_0); (try clear hcz177_1); (try clear hcz177_2); (try clear hcz17_0); (try clear hcz17_1); (try clear hcz17_2); (try clear hcz187_0); (try clear hcz187_1); (try clear hcz187_2); (try clear hcz193_0); (try clear hcz193_1); (try clear hcz193_2); (try clear hcz199_0); (try clear hcz199_1); (try clear hcz199_2); (try clear hcz19_0); (try clear hcz19_1); (try clear hcz19_2); (try clear hcz205_0); (try clear hcz205_1); (try clear hcz205_2); (try clear hcz212_0); (try clear hcz212_1); (try clear hcz212_2); (try clear hcz217_0); (try clear hcz217_1); (try clear hcz217_2); (try clear hcz222_0); (try clear hcz222_1); (try clear hcz222_2); (try clear hcz227_0); (try clear hcz227_1); (try clear hcz227_2); (try clear hcz38_0); (try clear hcz38_1); (try clear hcz38_2); (try clear hcz41_0); (try clear hcz41_1); (try clear hcz41_2); (try clear hcz43_0); (try clear hcz43_1); (try clear hcz43_2); (try clear hcz46_0); (try clear hcz46_1); (try clear hcz46_2); (try clear hcz48_0); (try clear hcz48_1); (try clear hcz48_2); (try clear hcz51_0); (try clear hcz51_1); (try clear hcz51_2); (try clear hcz53_0); (try clear hcz53_1); (try clear hcz53_2); (try clear hcz56_0); (try clear hcz56_1); (try clear hcz56_2); (try clear hcz58_0); (try clear hcz58_1); (try clear hcz58_2); (try clear hcz61_0); (try clear hcz61_1); (try clear hcz61_2); (try clear hcz63_0); (try clear hcz63_1); (try clear hcz63_2); (try clear hcz66_0); (try clear hcz66_1); (try clear hcz66_2); (try clear hcz68_0); (try clear hcz68_1); (try clear hcz68_2); (try clear hcz71_0); (try clear hcz71_1); (try clear hcz71_2); (try clear hcz88_0); (try clear hcz88_1); (try clear hcz88_2); (try clear hcz90_0); (try clear hcz90_1); (try clear hcz90_2); (try clear hcz96_0); (try clear hcz96_1); (try clear hcz96_2); (try clear hcz98_0); (try clear hcz98_1); (try clear hcz98_2); (try clear hfz100_0); (try clear hfz100_1); (try clear hfz100_2); (try clear hfz102_0); (try clear hfz102_1); (try clear hfz102_2); (try clear hfz109_0); (try clear hfz109_1); (try clear hfz109_2); (try clear hfz112_0); (try clear hfz112_1); (try clear hfz112_2); (try clear hfz139_0); (try clear hfz139_1); (try clear hfz139_2); (try clear hfz13_0); (try clear hfz13_1); (try clear hfz13_2); (try clear hfz141_0); (try clear hfz141_1); (try clear hfz141_2); (try clear hfz15_0); (try clear hfz15_1); (try clear hfz15_2); (try clear hfz160_0); (try clear hfz160_1); (try clear hfz160_2); (try clear hfz167_0); (try clear hfz167_1); (try clear hfz167_2); (try clear hfz172_0); (try clear hfz172_1); (try clear hfz172_2); (try clear hfz177_0); (try clear hfz177_1); (try clear hfz177_2); (try clear hfz17_0); (try clear hfz17_1); (try clear hfz17_2); (try clear hfz187_0); (try clear hfz187_1); (try clear hfz187_2); (try clear hfz193_0); (try clear hfz193_1); (try clear hfz193_2); (try clear hfz199_0); (try clear hfz199_1); (try clear hfz199_2); (try clear hfz19_0); (try clear hfz19_1); (try clear hfz19_2); (try clear hfz205_0); (try clear hfz205_1); (try clear hfz205_2); (try clear hfz212_0); (try clear hfz212_1); (try clear hfz212_2); (try clear hfz217_0); (try clear hfz217_1); (try clear hfz217_2); (try clear hfz222_0); (try clear hfz222_1); (try clear hfz222_2); (try clear hfz227_0); (try clear hfz227_1); (try clear hfz227_2); (try clear hfz38_0); (try clear hfz38_1); (try clear hfz38_2); (try clear hfz41_0); (try clear hfz41_1); (try clear hfz41_2); (try clear hfz43_0); (try clear hfz43_1); (try clear hfz43_2); (try clear hfz46_0); (try clear hfz46_1); (try clear hfz46_2); (try clear hfz48_0); (try clear hfz48_1); (try clear hfz48_2); (try clear hfz51_0); (try clear hfz51_1); (try clear hfz51_2); (try clear hfz53_0); (try clear hfz53_1); (try clear hfz53_2); (try clear hfz56_0); (try clear hfz56_1); (try clear hfz56_2); (try clear hfz58_0); (try clear hfz58_1); (try clear hfz58_2); (try clear hfz61_0); (try clear hfz61_1); (try clear hfz61_2); (try clear hfz63_0); (try clear hfz63_1); (try clear hfz63_2); (try clear hfz66_0); (try clear hfz66_1); (try clear hfz66_2); (try clear hfz68_0); (try clear hfz68_1); (try clear hfz68_2); (try clear hfz71_0); (try clear hfz71_1); (try clear hfz71_2); (try clear hfz88_0); (try clear hfz88_1); (try clear hfz88_2); (try clear hfz90_0); (try clear hfz90_1); (try clear hfz90_2); (try clear hfz96_0); (try clear hfz96_1); (try clear hfz96_2); (try clear hfz98_0); (try clear hfz98_1); (try clear hfz98_2)
             obtain ⟨kq, HA, HJ178, HO_38, HO_39, BK516, BK535, BK544, BK559, HB⟩ := hcut
             cases kq with
             | zero => exact absurd HA.out (by simp [laws_FnFramesCounted.j6])
             | succ kj178 =>
              have H := HA.out
              clear HA
              simp only [laws_FnFramesCounted.j6] at H
              by_cases c229 : t563 = true
              ·subst c229
               rw [if_pos rfl] at H
               by_cases c230 : (t560.length : Int) = 2
               ·rw [if_pos c230] at H
                have c230b0 : ((t560.length : Int) == 2) = true := beq_iff_eq.mpr c230
                have c230b1 : ((t560.length : Int) != 2) = false := bne_eq_false_iff_eq.mpr c230
                clear c230
                have H' := Aside0.mk H
                clear H
                obtain ⟨Ao231, co231, eo231⟩ := Kd.R_slice HO_39.out
                subst eo231
                have hnb232 := NB559_516.out
                have hnc232 := NB516_559.out
                have hnb233 := NB559_535.out
                have hnc233 := NB535_559.out
                have hnb234 := NB559_544.out
                have hnc234 := NB544_559.out
                obtain ⟨hcz235_0, hcz235_1, hcz235_2, hfz235_0, hfz235_1, hfz235_2⟩ := b3U BK559
                go_wp2_with (first | ((with_reducible refine gate_dst (N := 51) rfl ?_); (try (refine gate_guard (by rfl) ?_; dsimp only)); refine bxU (cs := #[.int .i64 0, .bool false, .int .i64 0]) (t := 25) ?_; intro gb577 hg w236 hbox hb; have n0_ := Aside0.mk (Kd.R_below (by (with_reducible repeat (first | apply Kd.R_alloc | apply Kd.R_drewN | apply Kd.R_drew)); exact HO_38.out) hb); have n1_ := Aside0.mk (Kd.R_below (by (with_reducible repeat (first | apply Kd.R_alloc | apply Kd.R_drewN | apply Kd.R_drew)); exact HO_39.out) hb); have n2_ := bbU BK516 hb; have n3_ := bbU BK535 hb; have n4_ := bbU BK544 hb; have n5_ := bbU BK559 hb; have n6_ := bsU hb; have n7_ := Aside0.mk (hbox); have n8_ := geU hg; have n9_ := geU hg; have n10_ := neU BK516 hg; have n11_ := enU BK516 hg; have n12_ := neU BK535 hg; have n13_ := enU BK535 hg; have n14_ := neU BK544 hg; have n15_ := enU BK544 hg; have n16_ := neU BK559 hg; have n17_ := enU BK559 hg; clear HO_38; clear HO_39; clear BK516; clear BK535; clear BK544; clear BK559; clear HB; have HO_38 := n0_; have HO_39 := n1_; have BK516 := n2_; have BK535 := n3_; have BK544 := n4_; have BK559 := n5_; have HB := n6_; have BK577 := n7_; have GW577 := n8_; have GE577 := n9_; have NB516_577 := n10_; have NB577_516 := n11_; have NB535_577 := n12_; have NB577_535 := n13_; have NB544_577 := n14_; have NB577_544 := n15_; have NB559_577 := n16_; have NB577_559 := n17_; clear n0_ n1_ n2_ n3_ n4_ n5_ n6_ n7_ n8_ n9_ n10_ n11_ n12_ n13_ n14_ n15_ n16_ n17_; clear hb hbox hg; have hnb237 := NB577_516.out; have hnc237 := NB516_577.out; have hnb238 := NB577_535.out; have hnc238 := NB535_577.out; have hnb239 := NB577_544.out; have hnc239 := NB544_577.out; have hnb240 := NB577_559.out; have hnc240 := NB559_577.out; obtain ⟨hcz241_0, hcz241_1, hcz241_2, hfz241_0, hfz241_1, hfz241_2⟩ := b3U BK577))
                go_loopg [52, 53, 393] kj178 (fun kq v52 v53 v393 w' => ∃ (x52_6 : Int) (x53_6 : Int) (x393_6 : Int) (x578000_6 : Int) (x578001_6 : Bool) (x578002_6 : Int), v52 = .int .i64 x52_6 ∧ v53 = .int .i64 x53_6 ∧ v393 = .int .i64 x393_6 ∧ Aside0 (laws_FnFramesCounted.l0 kq t560 x52_6 x53_6 t556 (t556.length : Int) x393_6 x578000_6 x578001_6 x578002_6 = some r) ∧ Aside0 (kq ≤ kj178) ∧ Aside0 (Kd.R (Kd.int .i64) 3 w' w.heap.size (fun _ => True) (.slice Ao231 t560.length co231) t560) ∧ Aside0 (Kd.R Kd.string 9 w' w.heap.size (fun _ => True) (.slice Ao110 t556.length co110) t556) ∧ Aside0 (w'.heap[gb516]? = some (.cells #[.int .i64 t512, .bool t513, .int .i64 t514] 25 (0, 0))) ∧ Aside0 (w'.heap[gb535]? = some (.cells #[.int .i64 t531, .bool t532, .int .i64 t533] 25 (0, 0))) ∧ Aside0 (w'.heap[gb544]? = some (.cells #[.int .i64 t540, .bool t541, .int .i64 t542] 25 (0, 0))) ∧ Aside0 (w'.heap[gb559]? = some (.cells #[.int .i64 t553, .bool t554, .int .i64 t555] 25 (0, 0))) ∧ Aside0 (w'.heap[gb577]? = some (.cells #[.int .i64 x578000_6, .bool x578001_6, .int .i64 x578002_6] 25 (0, 0))) ∧ Aside0 (Below w.heap.size w w'))
                case atStart => exact ⟨(0), (0), (0), (t553), (t554), (t555), eqU, eqU, eqU, H', ⟨Nat.le_refl _⟩, ⟨by (with_reducible repeat (first | apply Kd.R_alloc | apply Kd.R_drewN | apply Kd.R_drew)); exact Kd.R_mono (Kd.R_far (p := ⟨gb577, 2, none⟩) (Kd.R_far (p := ⟨gb577, 1, none⟩) (Kd.R_far (p := ⟨gb577, 0, none⟩) (Kd.R_types HO_39.out BK577.out (by decide)) (fun _ hk => hk.2) (.int .i64 t553)) (fun _ hk => hk.2) (.bool t554)) (fun _ hk => hk.2) (.int .i64 t555)) (fun _ hk => trivial)⟩, ⟨by (with_reducible repeat (first | apply Kd.R_alloc | apply Kd.R_drewN | apply Kd.R_drew)); exact Kd.R_mono (Kd.R_far (p := ⟨gb577, 2, none⟩) (Kd.R_far (p := ⟨gb577, 1, none⟩) (Kd.R_far (p := ⟨gb577, 0, none⟩) (Kd.R_types HO_38.out BK577.out (by decide)) (fun _ hk => hk.2) (.int .i64 t553)) (fun _ hk => hk.2) (.bool t554)) (fun _ hk => hk.2) (.int .i64 t555)) (fun _ hk => trivial)⟩, ⟨bkU⟩, ⟨bkU⟩, ⟨bkU⟩, ⟨bkU⟩, ⟨bkU⟩, ⟨hbU⟩⟩
                case round => as_aux_lemma =>
                 clear H'
                 (try clear c1); (try clear c4); (try clear c21); (try clear c21b0); (try clear c21b1); (try clear c21b2); (try clear c22); (try clear c22b0); (try clear c22b1); (try clear c23); (try clear c23b0); (try clear c23b1); (try clear c23b2); (try clear c24); (try clear c24b0); (try clear c24b1); (try clear c25); (try clear c26); (try clear c28); (try clear c32); (try clear c33); (try clear c34); (try clear c35); (try clear c35b0); (try clear c35b1); (try clear c36); (try clear c37); (try clear c37b0); (try clear c114); (try clear c114b0); (try clear c114b1); (try clear c114b2); (try clear c115); (try clear c115b0); (try clear c115b1); (try clear c116); (try clear c116b0); (try clear c116b1); (try clear c116b2); (try clear c117); (try clear c117b0); (try clear c117b1); (try clear c117b2); (try clear c118); (try clear c118b0); (try clear c118b1); (try clear c118b2); (try clear c119); (try clear c119b0); (try clear c119b1); (try clear c120); (try clear c120b0); (try clear c120b1); (try clear c120b2); (try clear c122); (try clear c123); (try clear c130); (try clear c132); (try clear c143); (try clear c144); (try clear c145); (try clear c145b0); (try clear c145b1); (try clear c145b2); (try clear c146); (try clear c146b0); (try clear c146b1); (try clear c147); (try clear c147b0); (try clear c147b1); (try clear c148); (try clear c148b0); (try clear c148b1); (try clear c149); (try clear c149b0); (try clear c149b1); (try clear c150); (try clear c152); (try clear c152b0); (try clear c153); (try clear c155); (try clear c156); (try clear c156b0); (try clear c162); (try clear c162b0); (try clear c162b1); (try clear c163); (try clear c163b0); (try clear c163b1); (try clear c180); (try clear c182); (try clear c183); (try clear c183b0); (try clear c183b1); (try clear c183b2); (try clear c189); (try clear c189b0); (try clear c189b1); (try clear c189b2); (try clear c195); (try clear c195b0); (try clear c201); (try clear c201b0); (try clear c207); (try clear c207b0); (try clear c208); (try clear c208b0); (try clear c229); (try clear c230); (try clear c230b0); (try clear c230b1); (try clear hcz100_0); (try clear hcz100_1); (try clear hcz100_2); (try clear hcz102_0); (try clear hcz102_1); (try clear hcz102_2); (try clear hcz109_0); (try clear hcz109_1); (try clear hcz109_2); (try clear hcz112_0); (try clear hcz112_1); (try clear hcz112_2); (try clear hcz139_0); (try clear hcz139_1); (try clear hcz139_2); (try clear hcz13_0); (try clear hcz13_1); (try clear hcz13_2); (try clear hcz141_0); (try clear hcz141_1); (try clear hcz141_2); (try clear hcz15_0); (try clear hcz15_1); (try clear hcz15_2); (try clear hcz160_0); (try clear hcz160_1); (try clear hcz160_2); (try clear hcz167_0); (try clear hcz167_1); (try clear hcz167_2); (try clear hcz172_0); (try clear hcz172_1); (try clear hcz172_2); (try clear hcz177_0); (try clear hcz177_1); (try clear hcz177_2); (try clear hcz17_0); (try clear hcz17_1); (try clear hcz17_2); (try clear hcz187_0); (try clear hcz187_1); (try clear hcz187_2); (try clear hcz193_0); (try clear hcz193_1); (try clear hcz193_2); (try clear hcz199_0); (try clear hcz199_1); (try clear hcz199_2); (try clear hcz19_0); (try clear hcz19_1); (try clear hcz19_2); (try clear hcz205_0); (try clear hcz205_1); (try clear hcz205_2); (try clear hcz212_0); (try clear hcz212_1); (try clear hcz212_2); (try clear hcz217_0); (try clear hcz217_1); (try clear hcz217_2); (try clear hcz222_0); (try clear hcz222_1); (try clear hcz222_2); (try clear hcz227_0); (try clear hcz227_1); (try clear hcz227_2); (try clear hcz235_0); (try clear hcz235_1); (try clear hcz235_2); (try clear hcz241_0); (try clear hcz241_1); (try clear hcz241_2); (try clear hcz38_0); (try clear hcz38_1); (try clear hcz38_2); (try clear hcz41_0); (try clear hcz41_1); (try clear hcz41_2); (try clear hcz43_0); (try clear hcz43_1); (try clear hcz43_2); (try clear hcz46_0); (try clear hcz46_1); (try clear hcz46_2); (try clear hcz48_0); (try clear hcz48_1); (try clear hcz48_2); (try clear hcz51_0); (try clear hcz51_1); (try clear hcz51_2); (try clear hcz53_0); (try clear hcz53_1); (try clear hcz53_2); (try clear hcz56_0); (try clear hcz56_1); (try clear hcz56_2); (try clear hcz58_0); (try clear hcz58_1); (try clear hcz58_2); (try clear hcz61_0); (try clear hcz61_1); (try clear hcz61_2); (try clear hcz63_0); (try clear hcz63_1); (try clear hcz63_2); (try clear hcz66_0); (try clear hcz66_1); (try clear hcz66_2); (try clear hcz68_0); (try clear hcz68_1); (try clear hcz68_2); (try clear hcz71_0); (try clear hcz71_1); (try clear hcz71_2); (try clear hcz88_0); (try clear hcz88_1); (try clear hcz88_2); (try clear hcz90_0); (try clear hcz90_1); (try clear hcz90_2); (try clear hcz96_0); (try clear hcz96_1); (try clear hcz96_2); (try clear hcz98_0); (try clear hcz98_1); (try clear hcz98_2); (try clear hfz100_0); (try clear hfz100_1); (try clear hfz100_2); (try clear hfz102_0); (try clear hfz102_1); (try clear hfz102_2); (try clear hfz109_0); (try clear hfz109_1); (try clear hfz109_2); (try clear hfz112_0); (try clear hfz112_1); (try clear hfz112_2); (try clear hfz139_0); (try clear hfz139_1); (try clear hfz139_2); (try clear hfz13_0); (try clear hfz13_1); (try clear hfz13_2); (try clear hfz141_0); (try clear hfz141_1); (try clear hfz141_2); (try clear hfz15_0); (try clear hfz15_1); (try clear hfz15_2); (try clear hfz160_0); (try clear hfz160_1); (try clear hfz160_2); (try clear hfz167_0); (try clear hfz167_1); (try clear hfz167_2); (try clear hfz172_0); (try clear hfz172_1); (try clear hfz172_2); (try clear hfz177_0); (try clear hfz177_1); (try clear hfz177_2); (try clear hfz17_0); (try clear hfz17_1); (try clear hfz17_2); (try clear hfz187_0); (try clear hfz187_1); (try clear hfz187_2); (try clear hfz193_0); (try clear hfz193_1); (try clear hfz193_2); (try clear hfz199_0); (try clear hfz199_1); (try clear hfz199_2); (try clear hfz19_0); (try clear hfz19_1); (try clear hfz19_2); (try clear hfz205_0); (try clear hfz205_1); (try clear hfz205_2); (try clear hfz212_0); (try clear hfz212_1); (try clear hfz212_2); (try clear hfz217_0); (try clear hfz217_1); (try clear hfz217_2); (try clear hfz222_0); (try clear hfz222_1); (try clear hfz222_2); (try clear hfz227_0); (try clear hfz227_1); (try clear hfz227_2); (try clear hfz235_0); (try clear hfz235_1); (try clear hfz235_2); (try clear hfz241_0); (try clear hfz241_1); (try clear hfz241_2); (try clear hfz38_0); (try clear hfz38_1); (try clear hfz38_2); (try clear hfz41_0); (try clear hfz41_1); (try clear hfz41_2); (try clear hfz43_0); (try clear hfz43_1); (try clear hfz43_2); (try clear hfz46_0); (try clear hfz46_1); (try clear hfz46_2); (try clear hfz48_0); (try clear hfz48_1); (try clear hfz48_2); (try clear hfz51_0); (try clear hfz51_1); (try clear hfz51_2); (try clear hfz53_0); (try clear hfz53_1); (try clear hfz53_2); (try clear hfz56_0); (try clear hfz56_1); (try clear hfz56_2); (try clear hfz58_0); (try clear hfz58_1); (try clear hfz58_2); (try clear hfz61_0); (try clear hfz61_1); (try clear hfz61_2); (try clear hfz63_0); (try clear hfz63_1); (try clear hfz63_2); (try clear hfz66_0); (try clear hfz66_1); (try clear hfz66_2); (try clear hfz68_0); (try clear hfz68_1); (try clear hfz68_2); (try clear hfz71_0); (try clear hfz71_1); (try clear hfz71_2); (try clear hfz88_0); (try clear hfz88_1); (try clear hfz88_2); (try clear hfz90_0); (try clear hfz90_1); (try clear hfz90_2); (try clear hfz96_0); (try clear hfz96_1); (try clear hfz96_2); (try clear hfz98_0); (try clear hfz98_1); (try clear hfz98_2)
                 obtain ⟨x52_6, x53_6, x393_6, x578000_6, x578001_6, x578002_6, rfl, rfl, rfl, HA, HK6, HO_39, HO_391, BK516, BK535, BK544, BK559, BK577, HB⟩ := hrel
                 cases gk with
                 | zero => exact absurd HA.out (by simp [laws_FnFramesCounted.l0])
                 | succ k6 =>
                  have H := HA.out
                  clear HA
                  simp only [laws_FnFramesCounted.l0] at H
                  by_cases c242 : x393_6 < (t556.length : Int)
                  ·rw [if_pos c242] at H
                   have c242b0 : decide (x393_6 < (t556.length : Int)) = true := decide_eq_true c242
                   clear c242
                   by_cases c243 : 0 ≤ x393_6
                   ·rw [if_pos c243] at H
                    have c243b0 : decide (0 ≤ x393_6) = true := decide_eq_true c243
                    clear c243
                    by_cases c244 : x393_6 < (t556.length : Int)
                    ·rw [if_pos c244] at H
                     have c244b0 : decide (x393_6 < (t556.length : Int)) = true := decide_eq_true c244
                     clear c244
                     replace H := Option.bind_eq_some_iff.mp H
                     obtain ⟨⟨t581, t582⟩, A2450, H⟩ := H
                     (try dsimp only at H)
                     have A245 := Aside0.mk A2450
                     clear A2450
                     replace H := Option.bind_eq_some_iff.mp H
                     obtain ⟨⟨t583, t584, t585, t586⟩, A2460, H⟩ := H
                     (try dsimp only at H)
                     have A246 := Aside0.mk A2460
                     clear A2460
                     replace H := Option.bind_eq_some_iff.mp H
                     obtain ⟨⟨t588, t589, t590, t591⟩, A2470, H⟩ := H
                     (try dsimp only at H)
                     have A247 := Aside0.mk A2470
                     clear A2470
                     have HC248 := Aside0.mk H
                     clear H
                     have p580 : 0 ≤ (x393_6 : Int) := of_decide_eq_true (by first | (with_reducible assumption) | assumption)
                     have q580 : x393_6 < (t556.length : Int) := of_decide_eq_true (by first | (with_reducible assumption) | assumption)
                     obtain ⟨ad580, e580, hx580_0⟩ := Kd.at_string (Kd.R_reads' HO_391.out).2.2 x393_6 p580 q580
                     cases e580
                     replace p580 := eq_true p580
                     replace q580 := eq_true q580
                     go_upto_region 52 with (first | ((with_reducible refine gate_callee (f := 11) rfl ?_); refine goU (some 400) Tryd.func11 #[.string (rdOf ByteArray.empty t556 x393_6)] ?_; (with_reducible refine (impl_PointsOf.calls k6 (rdOf ByteArray.empty t556 x393_6) t581 t582 _ A245.out).mono ?_); rintro e w249 ⟨rfl, hb⟩; refine ⟨_, rfl, ?_⟩; have n0_ := Aside0.mk (Kd.R_below (by (with_reducible repeat (first | apply Kd.R_alloc | apply Kd.R_drewN | apply Kd.R_drew)); exact HO_39.out) hb); have n1_ := Aside0.mk (Kd.R_below (by (with_reducible repeat (first | apply Kd.R_alloc | apply Kd.R_drewN | apply Kd.R_drew)); exact HO_391.out) hb); have n2_ := bbU BK516 hb; have n3_ := bbU BK535 hb; have n4_ := bbU BK544 hb; have n5_ := bbU BK559 hb; have n6_ := bbU BK577 hb; have n7_ := bsU hb; clear HO_39; clear HO_391; clear BK516; clear BK535; clear BK544; clear BK559; clear BK577; clear HB; have HO_39 := n0_; have HO_391 := n1_; have BK516 := n2_; have BK535 := n3_; have BK544 := n4_; have BK559 := n5_; have BK577 := n6_; have HB := n7_; clear n0_ n1_ n2_ n3_ n4_ n5_ n6_ n7_; (try clear hb); (try clear hb2); (try clear hk); (try clear hi); have hnb250 := NB577_516.out; have hnc250 := NB516_577.out; have hnb251 := NB577_535.out; have hnc251 := NB535_577.out; have hnb252 := NB577_544.out; have hnc252 := NB544_577.out; have hnb253 := NB577_559.out; have hnc253 := NB559_577.out; obtain ⟨hcz254_0, hcz254_1, hcz254_2, hfz254_0, hfz254_1, hfz254_2⟩ := b3U BK577) | ((with_reducible refine gate_callee (f := 27) rfl ?_); refine goU (some 406) Tryd.func27 #[.agg #[.int .i64 x578000_6, .bool x578001_6, .int .i64 x578002_6], .string (rdOf ByteArray.empty t556 x393_6)] ?_; (with_reducible refine (impl_FrameAfter.calls k6 x578000_6 x578001_6 x578002_6 (rdOf ByteArray.empty t556 x393_6) t583 t584 t585 t586 _ A246.out).mono ?_); rintro e w255 ⟨rfl, hb⟩; refine ⟨_, rfl, ?_⟩; have n0_ := Aside0.mk (Kd.R_below (by (with_reducible repeat (first | apply Kd.R_alloc | apply Kd.R_drewN | apply Kd.R_drew)); exact HO_39.out) hb); have n1_ := Aside0.mk (Kd.R_below (by (with_reducible repeat (first | apply Kd.R_alloc | apply Kd.R_drewN | apply Kd.R_drew)); exact HO_391.out) hb); have n2_ := bbU BK516 hb; have n3_ := bbU BK535 hb; have n4_ := bbU BK544 hb; have n5_ := bbU BK559 hb; have n6_ := bbU BK577 hb; have n7_ := bsU hb; clear HO_39; clear HO_391; clear BK516; clear BK535; clear BK544; clear BK559; clear BK577; clear HB; have HO_39 := n0_; have HO_391 := n1_; have BK516 := n2_; have BK535 := n3_; have BK544 := n4_; have BK559 := n5_; have BK577 := n6_; have HB := n7_; clear n0_ n1_ n2_ n3_ n4_ n5_ n6_ n7_; (try clear hb); (try clear hb2); (try clear hk); (try clear hi)) | ((with_reducible refine gate_dst (N := 58) rfl ?_); (try (refine gate_guard (by rfl) ?_; dsimp only)); refine bxU (cs := #[.int .i64 0, .bool false, .int .i64 0]) (t := 25) ?_; intro gb587 hg w256 hbox hb; have n0_ := Aside0.mk (Kd.R_below (by (with_reducible repeat (first | apply Kd.R_alloc | apply Kd.R_drewN | apply Kd.R_drew)); exact HO_39.out) hb); have n1_ := Aside0.mk (Kd.R_below (by (with_reducible repeat (first | apply Kd.R_alloc | apply Kd.R_drewN | apply Kd.R_drew)); exact HO_391.out) hb); have n2_ := bbU BK516 hb; have n3_ := bbU BK535 hb; have n4_ := bbU BK544 hb; have n5_ := bbU BK559 hb; have n6_ := bbU BK577 hb; have n7_ := bsU hb; have n8_ := Aside0.mk (hbox); have n9_ := geU hg; have n10_ := geU hg; have n11_ := neU BK516 hg; have n12_ := enU BK516 hg; have n13_ := neU BK535 hg; have n14_ := enU BK535 hg; have n15_ := neU BK544 hg; have n16_ := enU BK544 hg; have n17_ := neU BK559 hg; have n18_ := enU BK559 hg; have n19_ := neU BK577 hg; have n20_ := enU BK577 hg; clear HO_39; clear HO_391; clear BK516; clear BK535; clear BK544; clear BK559; clear BK577; clear HB; have HO_39 := n0_; have HO_391 := n1_; have BK516 := n2_; have BK535 := n3_; have BK544 := n4_; have BK559 := n5_; have BK577 := n6_; have HB := n7_; have BK587 := n8_; have GW587 := n9_; have GE587 := n10_; have NB516_587 := n11_; have NB587_516 := n12_; have NB535_587 := n13_; have NB587_535 := n14_; have NB544_587 := n15_; have NB587_544 := n16_; have NB559_587 := n17_; have NB587_559 := n18_; have NB577_587 := n19_; have NB587_577 := n20_; clear n0_ n1_ n2_ n3_ n4_ n5_ n6_ n7_ n8_ n9_ n10_ n11_ n12_ n13_ n14_ n15_ n16_ n17_ n18_ n19_ n20_; clear hb hbox hg; have hnb257 := NB587_516.out; have hnc257 := NB516_587.out; have hnb258 := NB587_535.out; have hnc258 := NB535_587.out; have hnb259 := NB587_544.out; have hnc259 := NB544_587.out; have hnb260 := NB587_559.out; have hnc260 := NB559_587.out; have hnb261 := NB587_577.out; have hnc261 := NB577_587.out; obtain ⟨hcz262_0, hcz262_1, hcz262_2, hfz262_0, hfz262_1, hfz262_2⟩ := b3U BK587) | ((with_reducible refine gate_callee (f := 28) rfl ?_); refine goU (some 411) Tryd.func28 #[.agg #[.int .i64 t583, .bool t584, .int .i64 t585]] ?_; (with_reducible refine (impl_MissBall.calls k6 t583 t584 t585 t588 t589 t590 t591 _ A247.out).mono ?_); rintro e w263 ⟨rfl, hb⟩; refine ⟨_, rfl, ?_⟩; have n0_ := Aside0.mk (Kd.R_below (by (with_reducible repeat (first | apply Kd.R_alloc | apply Kd.R_drewN | apply Kd.R_drew)); exact (Kd.R_mono (Kd.R_far (p := ⟨gb587, 2, none⟩) (Kd.R_far (p := ⟨gb587, 1, none⟩) (Kd.R_far (p := ⟨gb587, 0, none⟩) (Kd.R_types HO_39.out BK587.out (by decide)) (fun _ hk => hk.2) (.int .i64 t583)) (fun _ hk => hk.2) (.bool t584)) (fun _ hk => hk.2) (.int .i64 t585)) (fun _ h_ => h_.1))) hb); have n1_ := Aside0.mk (Kd.R_below (by (with_reducible repeat (first | apply Kd.R_alloc | apply Kd.R_drewN | apply Kd.R_drew)); exact (Kd.R_mono (Kd.R_far (p := ⟨gb587, 2, none⟩) (Kd.R_far (p := ⟨gb587, 1, none⟩) (Kd.R_far (p := ⟨gb587, 0, none⟩) (Kd.R_types HO_391.out BK587.out (by decide)) (fun _ hk => hk.2) (.int .i64 t583)) (fun _ hk => hk.2) (.bool t584)) (fun _ hk => hk.2) (.int .i64 t585)) (fun _ h_ => h_.1))) hb); have n2_ := bbU BK516 hb; have n3_ := bbU BK535 hb; have n4_ := bbU BK544 hb; have n5_ := bbU BK559 hb; have n6_ := bbU BK577 hb; have n7_ := Aside0.mk (blk_below (g := gb587) (o := .cells #[.int .i64 t583, .bool t584, .int .i64 t585] 25 (0, 0)) bkU hb); have n8_ := bsU hb; clear HO_39; clear HO_391; clear BK516; clear BK535; clear BK544; clear BK559; clear BK577; clear BK587; clear HB; have HO_39 := n0_; have HO_391 := n1_; have BK516 := n2_; have BK535 := n3_; have BK544 := n4_; have BK559 := n5_; have BK577 := n6_; have BK587 := n7_; have HB := n8_; clear n0_ n1_ n2_ n3_ n4_ n5_ n6_ n7_ n8_; (try clear hb); (try clear hb2); (try clear hk); (try clear hi)) | ((with_reducible refine gate_dst (N := 60) rfl ?_); (try (refine gate_guard (by rfl) ?_; dsimp only)); refine bxU (cs := #[.int .i64 0, .bool false, .int .i64 0]) (t := 25) ?_; intro gb592 hg w264 hbox hb; have n0_ := Aside0.mk (Kd.R_below (by (with_reducible repeat (first | apply Kd.R_alloc | apply Kd.R_drewN | apply Kd.R_drew)); exact HO_39.out) hb); have n1_ := Aside0.mk (Kd.R_below (by (with_reducible repeat (first | apply Kd.R_alloc | apply Kd.R_drewN | apply Kd.R_drew)); exact HO_391.out) hb); have n2_ := bbU BK516 hb; have n3_ := bbU BK535 hb; have n4_ := bbU BK544 hb; have n5_ := bbU BK559 hb; have n6_ := bbU BK577 hb; have n7_ := bbU BK587 hb; have n8_ := bsU hb; have n9_ := Aside0.mk (hbox); have n10_ := geU hg; have n11_ := geU hg; have n12_ := neU BK516 hg; have n13_ := enU BK516 hg; have n14_ := neU BK535 hg; have n15_ := enU BK535 hg; have n16_ := neU BK544 hg; have n17_ := enU BK544 hg; have n18_ := neU BK559 hg; have n19_ := enU BK559 hg; have n20_ := neU BK577 hg; have n21_ := enU BK577 hg; have n22_ := neU BK587 hg; have n23_ := enU BK587 hg; clear HO_39; clear HO_391; clear BK516; clear BK535; clear BK544; clear BK559; clear BK577; clear BK587; clear HB; have HO_39 := n0_; have HO_391 := n1_; have BK516 := n2_; have BK535 := n3_; have BK544 := n4_; have BK559 := n5_; have BK577 := n6_; have BK587 := n7_; have HB := n8_; have BK592 := n9_; have GW592 := n10_; have GE592 := n11_; have NB516_592 := n12_; have NB592_516 := n13_; have NB535_592 := n14_; have NB592_535 := n15_; have NB544_592 := n16_; have NB592_544 := n17_; have NB559_592 := n18_; have NB592_559 := n19_; have NB577_592 := n20_; have NB592_577 := n21_; have NB587_592 := n22_; have NB592_587 := n23_; clear n0_ n1_ n2_ n3_ n4_ n5_ n6_ n7_ n8_ n9_ n10_ n11_ n12_ n13_ n14_ n15_ n16_ n17_ n18_ n19_ n20_ n21_ n22_ n23_; clear hb hbox hg; have hnb265 := NB592_516.out; have hnc265 := NB516_592.out; have hnb266 := NB592_535.out; have hnc266 := NB535_592.out; have hnb267 := NB592_544.out; have hnc267 := NB544_592.out; have hnb268 := NB592_559.out; have hnc268 := NB559_592.out; have hnb269 := NB592_577.out; have hnc269 := NB577_592.out; have hnb270 := NB592_587.out; have hnc270 := NB587_592.out; obtain ⟨hcz271_0, hcz271_1, hcz271_2, hfz271_0, hfz271_1, hfz271_2⟩ := b3U BK592))
                     (try simp only [Act.put, List.setIfInBounds_toArray, List.set_cons_zero, List.set_cons_succ])
                     go_cut [423] from 9999 to 9999 (fun v423 wc => ∃ (kq : Nat) (x423_247 : Bool), v423 = .bool x423_247 ∧ Aside0 (laws_FnFramesCounted.j8 kq t560 x52_6 x53_6 x393_6 t581 t556 (t556.length : Int) x393_6 x423_247 t588 t589 t590 = some r) ∧ Aside0 (kq ≤ k6) ∧ Aside0 (Kd.R (Kd.int .i64) 3 wc w.heap.size (fun _ => True) (.slice Ao231 t560.length co231) t560) ∧ Aside0 (Kd.R Kd.string 9 wc w.heap.size (fun _ => True) (.slice (some ad580) t556.length co110) t556) ∧ Aside0 (wc.heap[gb516]? = some (.cells #[.int .i64 t512, .bool t513, .int .i64 t514] 25 (0, 0))) ∧ Aside0 (wc.heap[gb535]? = some (.cells #[.int .i64 t531, .bool t532, .int .i64 t533] 25 (0, 0))) ∧ Aside0 (wc.heap[gb544]? = some (.cells #[.int .i64 t540, .bool t541, .int .i64 t542] 25 (0, 0))) ∧ Aside0 (wc.heap[gb559]? = some (.cells #[.int .i64 t553, .bool t554, .int .i64 t555] 25 (0, 0))) ∧ Aside0 (wc.heap[gb577]? = some (.cells #[.int .i64 x578000_6, .bool x578001_6, .int .i64 x578002_6] 25 (0, 0))) ∧ Aside0 (wc.heap[gb587]? = some (.cells #[.int .i64 t583, .bool t584, .int .i64 t585] 25 (0, 0))) ∧ Aside0 (wc.heap[gb592]? = some (.cells #[.int .i64 t588, .bool t589, .int .i64 t590] 25 (0, 0))) ∧ Aside0 (Below w.heap.size w wc))
                     case first => as_aux_lemma =>
                      have H := HC248.out
                      clear HC248
                      by_cases c272 : t582 = true
                      ·subst c272
                       rw [if_pos rfl] at H
                       by_cases c273 : t586 = true
                       ·subst c273
                        rw [if_pos rfl] at H
                        have H' := Aside0.mk H
                        clear H
                        go_wp2
                        go_meet
                        case rel => exact ⟨_, (!t591), eqU, H', ⟨by have := HJ9.out; have := HJ26.out; have := HJ83.out; have := HJ130.out; have := HJ178.out; have := HK6.out; first | omega | exact Nat.le_refl _⟩, ⟨by (with_reducible repeat (first | apply Kd.R_alloc | apply Kd.R_drewN | apply Kd.R_drew)); exact Kd.R_mono (Kd.R_far (p := ⟨gb592, 2, none⟩) (Kd.R_far (p := ⟨gb592, 1, none⟩) (Kd.R_far (p := ⟨gb592, 0, none⟩) (Kd.R_types HO_39.out BK592.out (by decide)) (fun _ hk => hk.2) (.int .i64 t588)) (fun _ hk => hk.2) (.bool t589)) (fun _ hk => hk.2) (.int .i64 t590)) (fun _ hk => trivial)⟩, ⟨by (with_reducible repeat (first | apply Kd.R_alloc | apply Kd.R_drewN | apply Kd.R_drew)); exact Kd.R_mono (Kd.R_far (p := ⟨gb592, 2, none⟩) (Kd.R_far (p := ⟨gb592, 1, none⟩) (Kd.R_far (p := ⟨gb592, 0, none⟩) (Kd.R_types HO_391.out BK592.out (by decide)) (fun _ hk => hk.2) (.int .i64 t588)) (fun _ hk => hk.2) (.bool t589)) (fun _ hk => hk.2) (.int .i64 t590)) (fun _ hk => trivial)⟩, ⟨bkU⟩, ⟨bkU⟩, ⟨bkU⟩, ⟨bkU⟩, ⟨bkU⟩, ⟨bkU⟩, ⟨bkU⟩, ⟨hbU⟩⟩
                       ·replace c273 := Bool.eq_false_iff.mpr c273
                        subst c273
                        rw [if_neg (show ¬ (false = true) by decide)] at H
                        have H' := Aside0.mk H
                        clear H
                        go_wp2
                        go_meet
                        case rel => exact ⟨_, (true), eqU, H', ⟨by have := HJ9.out; have := HJ26.out; have := HJ83.out; have := HJ130.out; have := HJ178.out; have := HK6.out; first | omega | exact Nat.le_refl _⟩, ⟨by (with_reducible repeat (first | apply Kd.R_alloc | apply Kd.R_drewN | apply Kd.R_drew)); exact Kd.R_mono (Kd.R_far (p := ⟨gb592, 2, none⟩) (Kd.R_far (p := ⟨gb592, 1, none⟩) (Kd.R_far (p := ⟨gb592, 0, none⟩) (Kd.R_types HO_39.out BK592.out (by decide)) (fun _ hk => hk.2) (.int .i64 t588)) (fun _ hk => hk.2) (.bool t589)) (fun _ hk => hk.2) (.int .i64 t590)) (fun _ hk => trivial)⟩, ⟨by (with_reducible repeat (first | apply Kd.R_alloc | apply Kd.R_drewN | apply Kd.R_drew)); exact Kd.R_mono (Kd.R_far (p := ⟨gb592, 2, none⟩) (Kd.R_far (p := ⟨gb592, 1, none⟩) (Kd.R_far (p := ⟨gb592, 0, none⟩) (Kd.R_types HO_391.out BK592.out (by decide)) (fun _ hk => hk.2) (.int .i64 t588)) (fun _ hk => hk.2) (.bool t589)) (fun _ hk => hk.2) (.int .i64 t590)) (fun _ hk => trivial)⟩, ⟨bkU⟩, ⟨bkU⟩, ⟨bkU⟩, ⟨bkU⟩, ⟨bkU⟩, ⟨bkU⟩, ⟨bkU⟩, ⟨hbU⟩⟩
                      ·replace c272 := Bool.eq_false_iff.mpr c272
                       subst c272
                       rw [if_neg (show ¬ (false = true) by decide)] at H
                       have H' := Aside0.mk H
                       clear H
                       go_wp2
                       go_meet
                       case rel => exact ⟨_, (true), eqU, H', ⟨by have := HJ9.out; have := HJ26.out; have := HJ83.out; have := HJ130.out; have := HJ178.out; have := HK6.out; first | omega | exact Nat.le_refl _⟩, ⟨by (with_reducible repeat (first | apply Kd.R_alloc | apply Kd.R_drewN | apply Kd.R_drew)); exact Kd.R_mono (Kd.R_far (p := ⟨gb592, 2, none⟩) (Kd.R_far (p := ⟨gb592, 1, none⟩) (Kd.R_far (p := ⟨gb592, 0, none⟩) (Kd.R_types HO_39.out BK592.out (by decide)) (fun _ hk => hk.2) (.int .i64 t588)) (fun _ hk => hk.2) (.bool t589)) (fun _ hk => hk.2) (.int .i64 t590)) (fun _ hk => trivial)⟩, ⟨by (with_reducible repeat (first | apply Kd.R_alloc | apply Kd.R_drewN | apply Kd.R_drew)); exact Kd.R_mono (Kd.R_far (p := ⟨gb592, 2, none⟩) (Kd.R_far (p := ⟨gb592, 1, none⟩) (Kd.R_far (p := ⟨gb592, 0, none⟩) (Kd.R_types HO_391.out BK592.out (by decide)) (fun _ hk => hk.2) (.int .i64 t588)) (fun _ hk => hk.2) (.bool t589)) (fun _ hk => hk.2) (.int .i64 t590)) (fun _ hk => trivial)⟩, ⟨bkU⟩, ⟨bkU⟩, ⟨bkU⟩, ⟨bkU⟩, ⟨bkU⟩, ⟨bkU⟩, ⟨bkU⟩, ⟨hbU⟩⟩
                     case rest => as_aux_lemma =>
                      clear HC248
                      (try clear c1); (try clear c4); (try clear c21); (try clear c21b0); (try clear c21b1); (try clear c21b2); (try clear c22); (try clear c22b0); (try clear c22b1); (try clear c23); (try clear c23b0); (try clear c23b1); (try clear c23b2); (try clear c24); (try clear c24b0); (try clear c24b1); (try clear c25); (try clear c26); (try clear c28); (try clear c32); (try clear c33); (try clear c34); (try clear c35); (try clear c35b0); (try clear c35b1); (try clear c36); (try clear c37); (try clear c37b0); (try clear c114); (try clear c114b0); (try clear c114b1); (try clear c114b2); (try clear c115); (try clear c115b0); (try clear c115b1); (try clear c116); (try clear c116b0); (try clear c116b1); (try clear c116b2); (try clear c117); (try clear c117b0); (try clear c117b1); (try clear c117b2); (try clear c118); (try clear c118b0); (try clear c118b1); (try clear c118b2); (try clear c119); (try clear c119b0); (try clear c119b1); (try clear c120); (try clear c120b0); (try clear c120b1); (try clear c120b2); (try clear c122); (try clear c123); (try clear c130); (try clear c132); (try clear c143); (try clear c144); (try clear c145); (try clear c145b0); (try clear c145b1); (try clear c145b2); (try clear c146); (try clear c146b0); (try clear c146b1); (try clear c147); (try clear c147b0); (try clear c147b1); (try clear c148); (try clear c148b0); (try clear c148b1); (try clear c149); (try clear c149b0); (try clear c149b1); (try clear c150); (try clear c152); (try clear c152b0); (try clear c153); (try clear c155); (try clear c156); (try clear c156b0); (try clear c162); (try clear c162b0); (try clear c162b1); (try clear c163); (try clear c163b0); (try clear c163b1); (try clear c180); (try clear c182); (try clear c183); (try clear c183b0); (try clear c183b1); (try clear c183b2); (try clear c189); (try clear c189b0); (try clear c189b1); (try clear c189b2); (try clear c195); (try clear c195b0); (try clear c201); (try clear c201b0); (try clear c207); (try clear c207b0); (try clear c208); (try clear c208b0); (try clear c229); (try clear c230); (try clear c230b0); (try clear c230b1); (try clear c242); (try clear c242b0); (try clear c243); (try clear c243b0); (try clear c244); (try clear c244b0); (try clear c272); (try clear c273); (try clear hcz100_0); (try clear hcz100_1); (try clear hcz100_2); (try clear hcz102_0); (try clear hcz102_1); (try clear hcz102_2); (try clear hcz109_0); (try clear hcz109_1); (try clear hcz109_2); (try clear hcz112_0); (try clear hcz112_1); (try clear hcz112_2); (try clear hcz139_0); (try clear hcz139_1); (try clear hcz139_2); (try clear hcz13_0); (try clear hcz13_1); (try clear hcz13_2); (try clear hcz141_0); (try clear hcz141_1); (try clear hcz141_2); (try clear hcz15_0); (try clear hcz15_1); (try clear hcz15_2); (try clear hcz160_0); (try clear hcz160_1); (try clear hcz160_2); (try clear hcz167_0); (try clear hcz167_1); (try clear hcz167_2); (try clear hcz172_0); (try clear hcz172_1); (try clear hcz172_2); (try clear hcz177_0); (try clear hcz177_1); (try clear hcz177_2); (try clear hcz17_0); (try clear hcz17_1); (try clear hcz17_2); (try clear hcz187_0); (try clear hcz187_1); (try clear hcz187_2); (try clear hcz193_0); (try clear hcz193_1); (try clear hcz193_2); (try clear hcz199_0); (try clear hcz199_1); (try clear hcz199_2); (try clear hcz19_0); (try clear hcz19_1); (try clear hcz19_2); (try clear hcz205_0); (try clear hcz205_1); (try clear hcz205_2); (try clear hcz212_0); (try clear hcz212_1); (try clear hcz212_2); (try clear hcz217_0); (try clear hcz217_1); (try clear hcz217_2); (try clear hcz222_0); (try clear hcz222_1); (try clear hcz222_2); (try clear hcz227_0); (try clear hcz227_1); (try clear hcz227_2); (try clear hcz235_0); (try clear hcz235_1); (try clear hcz235_2); (try clear hcz241_0); (try clear hcz241_1); (try clear hcz241_2); (try clear hcz254_0); (try clear hcz254_1); (try clear hcz254_2); (try clear hcz262_0); (try clear hcz262_1); (try clear hcz262_2); (try clear hcz271_0); (try clear hcz271_1); (try clear hcz271_2); (try clear hcz38_0); (try clear hcz38_1); (try clear hcz38_2); (try clear hcz41_0); (try clear hcz41_1); (try clear hcz41_2); (try clear hcz43_0); (try clear hcz43_1); (try clear hcz43_2); (try clear hcz46_0); (try clear hcz46_1); (try clear hcz46_2); (try clear hcz48_0); (try clear hcz48_1); (try clear hcz48_2); (try clear hcz51_0); (try clear hcz51_1); (try clear hcz51_2); (try clear hcz53_0); (try clear hcz53_1); (try clear hcz53_2); (try clear hcz56_0); (try clear hcz56_1); (try clear hcz56_2); (try clear hcz58_0); (try clear hcz58_1); (try clear hcz58_2); (try clear hcz61_0); (try clear hcz61_1); (try clear hcz61_2); (try clear hcz63_0); (try clear hcz63_1); (try clear hcz63_2); (try clear hcz66_0); (try clear hcz66_1); (try clear hcz66_2); (try clear hcz68_0); (try clear hcz68_1); (try clear hcz68_2); (try clear hcz71_0); (try clear hcz71_1); (try clear hcz71_2); (try clear hcz88_0); (try clear hcz88_1); (try clear hcz88_2); (try clear hcz90_0); (try clear hcz90_1); (try clear hcz90_2); (try clear hcz96_0); (try clear hcz96_1); (try clear hcz96_2); (try clear hcz98_0); (try clear hcz98_1); (try clear hcz98_2); (try clear hfz100_0); (try clear hfz100_1); (try clear hfz100_2); (try clear hfz102_0); (try clear hfz102_1); (try clear hfz102_2); (try clear hfz109_0); (try clear hfz109_1); (try clear hfz109_2); (try clear hfz112_0); (try clear hfz112_1); (try clear hfz112_2); (try clear hfz139_0); (try clear hfz139_1); (try clear hfz139_2); (try clear hfz13_0); (try clear hfz13_1); (try clear hfz13_2); (try clear hfz141_0); (try clear hfz141_1); (try clear hfz141_2); (try clear hfz15_0); (try clear hfz15_1); (try clear hfz15_2); (try clear hfz160_0); (try clear hfz160_1); (try clear hfz160_2); (try clear hfz167_0); (try clear hfz167_1); (try clear hfz167_2); (try clear hfz172_0); (try clear hfz172_1); (try clear hfz172_2); (try clear hfz177_0); (try clear hfz177_1); (try clear hfz177_2); (try clear hfz17_0); (try clear hfz17_1); (try clear hfz17_2); (try clear hfz187_0); (try clear hfz187_1); (try clear hfz187_2); (try clear hfz193_0); (try clear hfz193_1); (try clear hfz193_2); (try clear hfz199_0); (try clear hfz199_1); (try clear hfz199_2); (try clear hfz19_0); (try clear hfz19_1); (try clear hfz19_2); (try clear hfz205_0); (try clear hfz205_1); (try clear hfz205_2); (try clear hfz212_0); (try clear hfz212_1); (try clear hfz212_2); (try clear hfz217_0); (try clear hfz217_1); (try clear hfz217_2); (try clear hfz222_0); (try clear hfz222_1); (try clear hfz222_2); (try clear hfz227_0); (try clear hfz227_1); (try clear hfz227_2); (try clear hfz235_0); (try clear hfz235_1); (try clear hfz235_2); (try clear hfz241_0); (try clear hfz241_1); (try clear hfz241_2); (try clear hfz254_0); (try clear hfz254_1); (try clear hfz254_2); (try clear hfz262_0); (try clear hfz262_1); (try clear hfz262_2); (try clear hfz271_0); (try clear hfz271_1); (try clear hfz271_2); (try clear hfz38_0); (try clear hfz38_1); (try clear hfz38_2); (try clear hfz41_0); (try clear hfz41_1); (try clear hfz41_2); (try clear hfz43_0); (try clear hfz43_1); (try clear hfz43_2); (try clear hfz46_0); (try clear hfz46_1); (try clear hfz46_2); (try clear hfz48_0); (try clear hfz48_1); (try clear hfz48_2); (try clear hfz51_0); (try clear hfz51_1); (try clear hfz51_2); (try clear hfz53_0); (try clear hfz53_1); (try clear hfz53_2); (try clear hfz56_0); (try clear hfz56_1); (try clear hfz56_2); (try clear hfz58_0); (try clear hfz58_1); (try clear hfz58_2); (try clear hfz61_0); (try clear hfz61_1); (try clear hfz61_2); (try clear hfz63_0); (try clear hfz63_1); (try clear hfz63_2); (try clear hfz66_0); (try clear hfz66_1); (try clear hfz66_2); (try clear hfz68_0); (try clear hfz68_1); (try clear hfz68_2); (try clear hfz71_0); (try clear hfz71_1); (try clear hfz71_2); (try clear hfz88_0); (try clear hfz88_1); (try clear hfz88_2); (try clear hfz90_0); (try clear hfz90_1); (try clear hfz90_2); (try clear hfz96_0); (try clear hfz96_1); (try clear hfz96_2); (try clear hfz98_0); (try clear hfz98_1); (try clear hfz98_2); (try clear hx580_0); (try clear p580); (try clear q580)
                      obtain ⟨kq, x423_247, rfl, HA, HJ247, HO_39, HO_391, BK516, BK535, BK544, BK559, BK577, BK587, BK592, HB⟩ := hcut
                      cases kq with
                      | zero => exact absurd HA.out (by simp [laws_FnFramesCounted.j8])
                      | succ kj247 =>
                       have H := HA.out
                       clear HA
                       simp only [laws_FnFramesCounted.j8] at H
                       by_cases c274 : x423_247 = true
                       ·subst c274
                        rw [if_pos rfl] at H
                        obtain rfl := Option.some.inj H
                        go_wp2
                        go_ret
                        exact ⟨by first | rfl | (simp [errW_none, errW_some] <;> rfl) | (simp [*, errW_none, errW_some] <;> rfl), hbU⟩
                       ·replace c274 := Bool.eq_false_iff.mpr c274
                        subst c274
                        rw [if_neg (show ¬ (false = true) by decide)] at H
                        by_cases c275 : (Int.tmod x393_6 2) = 0
                        ·rw [if_pos c275] at H
                         have c275b0 : ((Int.tmod x393_6 2) == 0) = true := beq_iff_eq.mpr c275
                         have c275b1 : ((Int.tmod x393_6 2) != 0) = false := bne_eq_false_iff_eq.mpr c275
                         clear c275
                         have H' := Aside0.mk H
                         clear H
                         have hnb276 := NB592_516.out
                         have hnc276 := NB516_592.out
                         have hnb277 := NB592_535.out
                         have hnc277 := NB535_592.out
                         have hnb278 := NB592_544.out
                         have hnc278 := NB544_592.out
                         have hnb279 := NB592_559.out
                         have hnc279 := NB559_592.out
                         have hnb280 := NB592_577.out
                         have hnc280 := NB577_592.out
                         have hnb281 := NB592_587.out
                         have hnc281 := NB587_592.out
                         obtain ⟨hcz282_0, hcz282_1, hcz282_2, hfz282_0, hfz282_1, hfz282_2⟩ := b3U BK592
                         have hnb283 := NB577_516.out
                         have hnc283 := NB516_577.out
                         have hnb284 := NB577_535.out
                         have hnc284 := NB535_577.out
                         have hnb285 := NB577_544.out
                         have hnc285 := NB544_577.out
                         have hnb286 := NB577_559.out
                         have hnc286 := NB559_577.out
                         have hnb287 := NB577_587.out
                         have hnc287 := NB587_577.out
                         obtain ⟨hcz288_0, hcz288_1, hcz288_2, hfz288_0, hfz288_1, hfz288_2⟩ := b3U BK577
                         go_wp2
                         go_roundg kj247
                         case measure => have := HJ9.out; have := HJ26.out; have := HJ83.out; have := HJ130.out; have := HJ178.out; have := HK6.out; have := HJ247.out; omega
                         case rel => exact ⟨(wrap64 (x52_6 + t581)), (x53_6), (wrap64 (x393_6 + 1)), (t588), (t589), (t590), eqU, eqU, eqU, H', ⟨by have := HJ9.out; have := HJ26.out; have := HJ83.out; have := HJ130.out; have := HJ178.out; have := HK6.out; have := HJ247.out; omega⟩, ⟨by (with_reducible repeat (first | apply Kd.R_alloc | apply Kd.R_drewN | apply Kd.R_drew)); exact Kd.R_mono (Kd.R_far (p := ⟨gb577, 2, none⟩) (Kd.R_far (p := ⟨gb577, 1, none⟩) (Kd.R_far (p := ⟨gb577, 0, none⟩) (Kd.R_types HO_39.out BK577.out (by decide)) (fun _ hk => hk.2) (.int .i64 t588)) (fun _ hk => hk.2) (.bool t589)) (fun _ hk => hk.2) (.int .i64 t590)) (fun _ hk => trivial)⟩, ⟨by (with_reducible repeat (first | apply Kd.R_alloc | apply Kd.R_drewN | apply Kd.R_drew)); exact Kd.R_mono (Kd.R_far (p := ⟨gb577, 2, none⟩) (Kd.R_far (p := ⟨gb577, 1, none⟩) (Kd.R_far (p := ⟨gb577, 0, none⟩) (Kd.R_types HO_391.out BK577.out (by decide)) (fun _ hk => hk.2) (.int .i64 t588)) (fun _ hk => hk.2) (.bool t589)) (fun _ hk => hk.2) (.int .i64 t590)) (fun _ hk => trivial)⟩, ⟨bkU⟩, ⟨bkU⟩, ⟨bkU⟩, ⟨bkU⟩, ⟨bkU⟩, ⟨hbU⟩⟩
                        ·rw [if_neg c275] at H
                         have c275b0 : ((Int.tmod x393_6 2) == 0) = false := beq_eq_false_iff_ne.mpr c275
                         have c275b1 : ((Int.tmod x393_6 2) != 0) = true := bne_iff_ne.mpr c275
                         have H' := Aside0.mk H
                         clear H
                         have hnb289 := NB592_516.out
                         have hnc289 := NB516_592.out
                         have hnb290 := NB592_535.out
                         have hnc290 := NB535_592.out
                         have hnb291 := NB592_544.out
                         have hnc291 := NB544_592.out
                         have hnb292 := NB592_559.out
                         have hnc292 := NB559_592.out
                         have hnb293 := NB592_577.out
                         have hnc293 := NB577_592.out
                         have hnb294 := NB592_587.out
                         have hnc294 := NB587_592.out
                         obtain ⟨hcz295_0, hcz295_1, hcz295_2, hfz295_0, hfz295_1, hfz295_2⟩ := b3U BK592
                         have hnb296 := NB577_516.out
                         have hnc296 := NB516_577.out
                         have hnb297 := NB577_535.out
                         have hnc297 := NB535_577.out
                         have hnb298 := NB577_544.out
                         have hnc298 := NB544_577.out
                         have hnb299 := NB577_559.out
                         have hnc299 := NB559_577.out
                         have hnb300 := NB577_587.out
                         have hnc300 := NB587_577.out
                         obtain ⟨hcz301_0, hcz301_1, hcz301_2, hfz301_0, hfz301_1, hfz301_2⟩ := b3U BK577
                         go_wp2
                         go_roundg kj247
                         case measure => have := HJ9.out; have := HJ26.out; have := HJ83.out; have := HJ130.out; have := HJ178.out; have := HK6.out; have := HJ247.out; omega
                         case rel => exact ⟨(x52_6), (wrap64 (x53_6 + t581)), (wrap64 (x393_6 + 1)), (t588), (t589), (t590), eqU, eqU, eqU, H', ⟨by have := HJ9.out; have := HJ26.out; have := HJ83.out; have := HJ130.out; have := HJ178.out; have := HK6.out; have := HJ247.out; omega⟩, ⟨by (with_reducible repeat (first | apply Kd.R_alloc | apply Kd.R_drewN | apply Kd.R_drew)); exact Kd.R_mono (Kd.R_far (p := ⟨gb577, 2, none⟩) (Kd.R_far (p := ⟨gb577, 1, none⟩) (Kd.R_far (p := ⟨gb577, 0, none⟩) (Kd.R_types HO_39.out BK577.out (by decide)) (fun _ hk => hk.2) (.int .i64 t588)) (fun _ hk => hk.2) (.bool t589)) (fun _ hk => hk.2) (.int .i64 t590)) (fun _ hk => trivial)⟩, ⟨by (with_reducible repeat (first | apply Kd.R_alloc | apply Kd.R_drewN | apply Kd.R_drew)); exact Kd.R_mono (Kd.R_far (p := ⟨gb577, 2, none⟩) (Kd.R_far (p := ⟨gb577, 1, none⟩) (Kd.R_far (p := ⟨gb577, 0, none⟩) (Kd.R_types HO_391.out BK577.out (by decide)) (fun _ hk => hk.2) (.int .i64 t588)) (fun _ hk => hk.2) (.bool t589)) (fun _ hk => hk.2) (.int .i64 t590)) (fun _ hk => trivial)⟩, ⟨bkU⟩, ⟨bkU⟩, ⟨bkU⟩, ⟨bkU⟩, ⟨bkU⟩, ⟨hbU⟩⟩
                    ·rw [if_neg c244] at H
                     exact absurd H (by simp)
                   ·rw [if_neg c243] at H
                    exact absurd H (by simp)
                  ·rw [if_neg c242] at H
                   have c242b0 : decide (x393_6 < (t556.length : Int)) = false := decide_eq_false c242
                   clear c242
                   by_cases c302 : 0 < (t560.length : Int)
                   ·rw [if_pos c302] at H
                    have c302b0 : decide (0 < (t560.length : Int)) = true := decide_eq_true c302
                    have c302b1 : decide (0 < t560.length) = true := decide_eq_true (by omega)
                    clear c302
                    by_cases c303 : (rd t560 0) = x52_6
                    ·rw [if_pos c303] at H
                     have c303b0 : ((rd t560 0) == x52_6) = true := beq_iff_eq.mpr c303
                     have c303b1 : ((rd t560 0) != x52_6) = false := bne_eq_false_iff_eq.mpr c303
                     clear c303
                     by_cases c304 : 1 < (t560.length : Int)
                     ·rw [if_pos c304] at H
                      have c304b0 : decide (1 < (t560.length : Int)) = true := decide_eq_true c304
                      have c304b1 : decide (1 < t560.length) = true := decide_eq_true (by omega)
                      clear c304
                      by_cases c305 : (rd t560 1) = x53_6
                      ·rw [if_pos c305] at H
                       have c305b0 : ((rd t560 1) == x53_6) = true := beq_iff_eq.mpr c305
                       have c305b1 : ((rd t560 1) != x53_6) = false := bne_eq_false_iff_eq.mpr c305
                       clear c305
                       obtain rfl := Option.some.inj H
                       have p578 : 0 ≤ (0 : Int) := (by omega)
                       have q578 : 0 < (t560.length : Int) := of_decide_eq_true (by first | (with_reducible assumption) | assumption)
                       obtain ⟨ad578, e578, hx578_0⟩ := Kd.at_int (Kd.R_reads' HO_39.out).2.2 0 p578 q578
                       cases e578
                       have qi578 : (0 < t560.length) = True := eq_true (by omega)
                       (try rw [show ((0 : Int)).toNat = 0 from rfl] at hx578_0)
                       (try rw [Addr.add_zero'] at hx578_0)
                       replace p578 := eq_true p578
                       replace q578 := eq_true q578
                       have p579 : 0 ≤ (1 : Int) := (by omega)
                       have q579 : 1 < (t560.length : Int) := of_decide_eq_true (by first | (with_reducible assumption) | assumption)
                       obtain ⟨ad579, e579, hx579_0⟩ := Kd.at_int (Kd.R_reads' HO_39.out).2.2 1 p579 q579
                       obtain rfl : ad578 = ad579 := (by injection e579)
                       (try simp only [show (1 : Int).toNat = 1 from rfl, Nat.reduceMul, Nat.reduceEqDiff, Go.Addr.add, ↓reduceIte] at hx579_0)
                       have qi579 : (1 < t560.length) = True := eq_true (by omega)
                       (try rw [show ((1 : Int)).toNat = 1 from rfl] at hx579_0)
                       replace p579 := eq_true p579
                       replace q579 := eq_true q579
                       go_wp2
                       go_ret
                       exact ⟨by first | rfl | (simp [errW_none, errW_some] <;> rfl) | (simp [*, errW_none, errW_some] <;> rfl), hbU⟩
                      ·rw [if_neg c305] at H
                       have c305b0 : ((rd t560 1) == x53_6) = false := beq_eq_false_iff_ne.mpr c305
                       have c305b1 : ((rd t560 1) != x53_6) = true := bne_iff_ne.mpr c305
                       obtain rfl := Option.some.inj H
                       have p578 : 0 ≤ (0 : Int) := (by omega)
                       have q578 : 0 < (t560.length : Int) := of_decide_eq_true (by first | (with_reducible assumption) | assumption)
                       obtain ⟨ad578, e578, hx578_0⟩ := Kd.at_int (Kd.R_reads' HO_39.out).2.2 0 p578 q578
                       cases e578
                       have qi578 : (0 < t560.length) = True := eq_true (by omega)
                       (try rw [show ((0 : Int)).toNat = 0 from rfl] at hx578_0)
                       (try rw [Addr.add_zero'] at hx578_0)
                       replace p578 := eq_true p578
                       replace q578 := eq_true q578
                       have p579 : 0 ≤ (1 : Int) := (by omega)
                       have q579 : 1 < (t560.length : Int) := of_decide_eq_true (by first | (with_reducible assumption) | assumption)
                       obtain ⟨ad579, e579, hx579_0⟩ := Kd.at_int (Kd.R_reads' HO_39.out).2.2 1 p579 q579
                       obtain rfl : ad578 = ad579 := (by injection e579)
                       (try simp only [show (1 : Int).toNat = 1 from rfl, Nat.reduceMul, Nat.reduceEqDiff, Go.Addr.add, ↓reduceIte] at hx579_0)
                       have qi579 : (1 < t560.length) = True := eq_true (by omega)
                       (try rw [show ((1 : Int)).toNat = 1 from rfl] at hx579_0)
                       replace p579 := eq_true p579
                       replace q579 := eq_true q579
                       go_wp2
                       go_ret
                       exact ⟨by first | rfl | (simp [errW_none, errW_some] <;> rfl) | (simp [*, errW_none, errW_some] <;> rfl), hbU⟩
                     ·rw [if_neg c304] at H
                      exact absurd H (by simp)
                    ·rw [if_neg c303] at H
                     have c303b0 : ((rd t560 0) == x52_6) = false := beq_eq_false_iff_ne.mpr c303
                     have c303b1 : ((rd t560 0) != x52_6) = true := bne_iff_ne.mpr c303
                     obtain rfl := Option.some.inj H
                     have p578 : 0 ≤ (0 : Int) := (by omega)
                     have q578 : 0 < (t560.length : Int) := of_decide_eq_true (by first | (with_reducible assumption) | assumption)
                     obtain ⟨ad578, e578, hx578_0⟩ := Kd.at_int (Kd.R_reads' HO_39.out).2.2 0 p578 q578
                     cases e578
                     have qi578 : (0 < t560.length) = True := eq_true (by omega)
                     (try rw [show ((0 : Int)).toNat = 0 from rfl] at hx578_0)
                     (try rw [Addr.add_zero'] at hx578_0)
                     replace p578 := eq_true p578
                     replace q578 := eq_true q578
                     go_wp2
                     go_ret
                     exact ⟨by first | rfl | (simp [errW_none, errW_some] <;> rfl) | (simp [*, errW_none, errW_some] <;> rfl), hbU⟩
                   ·rw [if_neg c302] at H
                    exact absurd H (by simp)
               ·rw [if_neg c230] at H
                have c230b0 : ((t560.length : Int) == 2) = false := beq_eq_false_iff_ne.mpr c230
                have c230b1 : ((t560.length : Int) != 2) = true := bne_iff_ne.mpr c230
                obtain rfl := Option.some.inj H
                obtain ⟨Ao306, co306, eo306⟩ := Kd.R_slice HO_39.out
                subst eo306
                go_wp2
                go_ret
                exact ⟨by first | rfl | (simp [errW_none, errW_some] <;> rfl) | (simp [*, errW_none, errW_some] <;> rfl), hbU⟩
              ·replace c229 := Bool.eq_false_iff.mpr c229
               subst c229
               rw [if_neg (show ¬ (false = true) by decide)] at H
               obtain rfl := Option.some.inj H
               go_wp2
               go_ret
               exact ⟨by first | rfl | (simp [errW_none, errW_some] <;> rfl) | (simp [*, errW_none, errW_some] <;> rfl), hbU⟩
def laws_FnFramesCounted.Pure : Prop := ∀ (l0 : List Int) (l1 : List Int), l0.length ≤ maxLen → l0.length * 1 ≤ 140737488351232 → (∀ x ∈ l0, (Lit.int .u8 x).wf = true) → l1.length ≤ maxLen → l1.length * 1 ≤ 140737488351232 → (∀ x ∈ l1, (Lit.int .u8 x).wf = true) → ∃ k, laws_FnFramesCounted.f k l0 l1 = some true
theorem laws_FnFramesCounted.walk (P : laws_FnFramesCounted.Pure) (a0 : Option Addr) (len0 cap0 : Nat) (z0 : List Int) (a1 : Option Addr) (len1 cap1 : Nat) (z1 : List Int) (w : World) (w0 : (a0 = none ∧ len0 = 0 ∧ cap0 = 0 ∧ z0 = []) ∨ ∃ x, a0 = some x ∧ len0 ≤ cap0 ∧ cap0 ≤ maxLen ∧ z0.length = cap0 ∧ (∀ i, i < z0.length → w.cell? (x.add i) = some (.int .u8 (z0.getD i 0))) ∧ ∀ n ∈ z0, (Lit.int .u8 n).wf = true) (y0 : len0 * 1 ≤ 140737488351232) (w1 : (a1 = none ∧ len1 = 0 ∧ cap1 = 0 ∧ z1 = []) ∨ ∃ x, a1 = some x ∧ len1 ≤ cap1 ∧ cap1 ≤ maxLen ∧ z1.length = cap1 ∧ (∀ i, i < z1.length → w.cell? (x.add i) = some (.int .u8 (z1.getD i 0))) ∧ ∀ n ∈ z1, (Lit.int .u8 n).wf = true) (y1 : len1 * 1 ≤ 140737488351232) :
  Calls Tryd.prog 3 #[.slice a0 len0 cap0, .slice a1 len1 cap1] w fun e w' => e = .returned (.bool true) ∧ Below w.heap.size w w' := by
 obtain ⟨l0, rfl, hr0, hm0, hw0, hc0⟩ := ReadsInt.ofRowC w0
 obtain ⟨l1, rfl, hr1, hm1, hw1, hc1⟩ := ReadsInt.ofRowC w1
 obtain ⟨k, h⟩ := P l0 l1 hm0 y0 hw0 hm1 y1 hw1
 refine (laws_FnFramesCounted.calls k _ _ l0 _ _ l1 true w (Kd.C_of_reads (d := (0 : Int)) (h1 := fun _ => rfl) hr0) hc0 (Kd.C_of_reads (d := (0 : Int)) (h1 := fun _ => rfl) hr1) hc1 h).mono ?_
 rintro e w' ⟨rfl, hd⟩
 exact ⟨rfl, hd⟩
end Go.Proofs.YtcmlmjgoidpabaaDoor.MFnFramesCounted

