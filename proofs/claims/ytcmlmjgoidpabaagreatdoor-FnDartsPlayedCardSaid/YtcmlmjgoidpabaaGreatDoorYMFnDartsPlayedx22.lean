/- Walks of the functions that the law reaches: each comes to just what the function that is told of it tells, for all arguments. -/
import Derived.Test.YtcmlmjgoidpabaaGreatDoorYMFnDartsPlayedx22a
import Derived.Deep.CutRange
namespace Go.Proofs.YtcmlmjgoidpabaaGreatDoor.MFnDartsPlayed
open Go.RowKit Go.Proofs.YtcmlmjgoidpabaaGreatDoorW.PrintWords Go.Proofs.YtcmlmjgoidpabaaGreatDoorW.PrintLast Go.Proofs.YtcmlmjgoidpabaaGreatDoorW.PrintMore
attribute [local go_sem] max2_int min2_int max_two min_two max_three min_three max_four min_four
set_option linter.unusedVariables false
set_option linter.unusedSimpArgs false
attribute [local go_sem high] eqA52
set_option maxHeartbeats 400000000 in
set_option maxRecDepth 100000 in
theorem laws_FnDartsPlayed.calls (k : Nat) (A0 : Option Addr) (c0 : Nat) (l0 : List Int) (A1 : Option Addr) (c1 : Nat) (l1 : List Int) (r : Bool) (w : World) (hr0 : Kd.C (Kd.int .u8) w A0 l0.length l0) (hc0 : l0.length ≤ c0) (hr1 : Kd.C (Kd.int .u8) w A1 l1.length l1) (hc1 : l1.length ≤ c1) (h : laws_FnDartsPlayed.f k l0 l1 = some r) :
    Calls Tryz.prog 4 #[.slice A0 l0.length c0, .slice A1 l1.length c1] w fun e w' => e = .returned (.bool r) ∧ Below w.heap.size w w' := by
 have hu52 := Tryz.underlying52
 have HR0 := aU hr0
 have HC0 := aU hc0
 clear hr0 hc0
 have HR1 := aU hr1
 have HC1 := aU hc1
 clear hr1 hc1
 have HB := aU (Below.refl w.heap.size w)
 have H : ((laws_big.f l0 l1).bind fun t709 => (if t709 = true then (some true) else (laws_FnDartsPlayed.j0 k l0 l1))) = some r := h
 clear h
 replace H := bindS H
 obtain ⟨t709, A3, H⟩ := H
 (try dsimp only at H)
 have HC4 := aU H
 clear H
 go_enter Tryz.func4, Tryz.ntmps4
 go_upto_if 96 with (first | ((with_reducible refine gcU 5 rfl ?_); refine goU (some 96) Tryz.func5 #[.slice A0 l0.length c0, .slice A1 l1.length c1] ?_; (with_reducible refine (laws_big.calls _ _ l0 _ _ l1 t709 _ ?side1 ?side2 ?side3 ?side4 A3.out).mono ?_); (case side1 => repeat (first | exact HR0.out | (with_reducible refine Kd.C_alloc ?_ _) | (with_reducible refine Kd.C_drewN ?_ _) | (with_reducible refine Kd.C_drew ?_))); (case side2 => exact HC0.out); (case side3 => repeat (first | exact HR1.out | (with_reducible refine Kd.C_alloc ?_ _) | (with_reducible refine Kd.C_drewN ?_ _) | (with_reducible refine Kd.C_drew ?_))); (case side4 => exact HC1.out); rintro e w' ⟨rfl, ⟨nd, rfl⟩⟩; refine ⟨_, rfl, ?_⟩))
 (try simp only [Act.put, List.setIfInBounds_toArray, List.set_cons_zero, List.set_cons_succ])
 go_cut [] from 9999 to 9999 (fun wc => ∃ (kq : Nat), Aside0 (laws_FnDartsPlayed.j0 kq l0 l1 = some r) ∧ Aside0 (kq ≤ k) ∧ Aside0 (Below w.heap.size w wc))
 case first => as_aux_lemma =>
  have H := HC4.out
  clear HC4
  by_cases c5 : t709 = true
  ·subst c5
   rw [if_pos rfl] at H
   obtain rfl := Option.some.inj H
   go_wp2
   go_ret
   exact ⟨errU, hbU⟩
  replace c5 := Bool.eq_false_iff.mpr c5
  subst c5
  rw [if_neg (show ¬ (false = true) by decide)] at H
  have H' := aU H
  clear H
  go_wp2
  go_meet
  case rel => exact ⟨_, H', ⟨by first | omega | exact Nat.le_refl _⟩, ⟨hbU⟩⟩
 case rest => as_aux_lemma =>
  clear HC4
  obtain ⟨kq, HA, HJ3, HB⟩ := hcut
  cases kq with
  | zero => exact absurd HA.out (by simp [laws_FnDartsPlayed.j0])
  | succ kj3 =>
   have H := HA.out
   clear HA
   simp only [laws_FnDartsPlayed.j0] at H
   replace H := bindS H
   obtain ⟨⟨t710, t711⟩, A6, H⟩ := H
   (try dsimp only at H)
   replace H := bindS H
   obtain ⟨⟨t714, t715⟩, A7, H⟩ := H
   (try dsimp only at H)
   replace H := bindS H
   obtain ⟨⟨t716, t717⟩, A8, H⟩ := H
   (try dsimp only at H)
   replace H := bindS H
   obtain ⟨⟨t718, t719⟩, A9, H⟩ := H
   (try dsimp only at H)
   replace H := bindS H
   obtain ⟨⟨t720, t721⟩, A10, H⟩ := H
   (try dsimp only at H)
   have HC11 := aU H
   clear H
   go_upto_region 8 with (first | ((with_reducible refine gcU 39 rfl ?_); refine goU (some 99) Tryz.func39 #[.slice A0 l0.length c0] ?_; (with_reducible refine (spec_DrawLeftAfter.calls kj3 _ _ l0 t710 t711 _ ?side1 ?side2 A6.out).mono ?_); (case side1 => repeat (first | exact (Kd.C_below HR0.out HB.out) | (with_reducible refine Kd.C_alloc ?_ _) | (with_reducible refine Kd.C_drewN ?_ _) | (with_reducible refine Kd.C_drew ?_))); (case side2 => exact HC0.out); rintro e w12 ⟨v712, rfl, ho0, hb⟩; refine ⟨_, rfl, ?_⟩; have HO713 := aU (Kd.R_lower ho0 (below_size hbU)); replace HB := bsU hb; (try clear ho0 hb); obtain ⟨Ao13, co13, eo13⟩ := Kd.R_slice HO713.out; subst eo13) | ((with_reducible refine gcU 40 rfl ?_); refine goU (some 105) Tryz.func40 #[.int .i64 t710, .slice Ao13 t711.length co13] ?_; (with_reducible refine (impl_LeftAfter.calls kj3 t710 _ _ t711 t714 t715 _ ?side1 ?side2 A7.out).mono ?_); (case side1 => exact rcU HO713); (case side2 => exact (Kd.R_reads' HO713.out).2.1); rintro e w14 ⟨rfl, hb⟩; refine ⟨_, rfl, ?_⟩; replace HO713 := aU (Kd.R_below (roU HO713) hb); replace HB := bsU hb; (try clear hb)) | ((with_reducible refine gcU 41 rfl ?_); refine goU (some 111) Tryz.func41 #[.int .i64 t710, .slice Ao13 t711.length co13] ?_; (with_reducible refine (spec_LeftAfter.calls kj3 t710 _ _ t711 t716 t717 _ ?side1 ?side2 A8.out).mono ?_); (case side1 => exact rcU HO713); (case side2 => exact (Kd.R_reads' HO713.out).2.1); rintro e w15 ⟨rfl, hb⟩; refine ⟨_, rfl, ?_⟩; replace HO713 := aU (Kd.R_below (roU HO713) hb); replace HB := bsU hb; (try clear hb)) | ((with_reducible refine gcU 42 rfl ?_); refine goU (some 117) Tryz.func42 #[.int .i64 t710, .slice Ao13 t711.length co13] ?_; (with_reducible refine (impl_IsBust.calls kj3 t710 _ _ t711 t718 t719 _ ?side1 ?side2 A9.out).mono ?_); (case side1 => exact rcU HO713); (case side2 => exact (Kd.R_reads' HO713.out).2.1); rintro e w16 ⟨rfl, hb⟩; refine ⟨_, rfl, ?_⟩; replace HO713 := aU (Kd.R_below (roU HO713) hb); replace HB := bsU hb; (try clear hb)) | ((with_reducible refine gcU 43 rfl ?_); refine goU (some 123) Tryz.func43 #[.int .i64 t710, .slice Ao13 t711.length co13] ?_; (with_reducible refine (spec_IsBust.calls kj3 t710 _ _ t711 t720 t721 _ ?side1 ?side2 A10.out).mono ?_); (case side1 => exact rcU HO713); (case side2 => exact (Kd.R_reads' HO713.out).2.1); rintro e w17 ⟨rfl, hb⟩; refine ⟨_, rfl, ?_⟩; replace HO713 := aU (Kd.R_below (roU HO713) hb); replace HB := bsU hb; (try clear hb)))
   (try simp only [Act.put, List.setIfInBounds_toArray, List.set_cons_zero, List.set_cons_succ])
   go_cut [148] from 9999 to 9999 (fun v148 wc => ∃ (kq : Nat) (x148_10 : Bool), v148 = .bool x148_10 ∧ Aside0 (laws_FnDartsPlayed.j1 kq l1 t710 t711 t714 t715 t718 x148_10 = some r) ∧ Aside0 (kq ≤ kj3) ∧ Aside0 (Kd.R k52 52 wc w.heap.size (fun _ => True) (.slice Ao13 t711.length co13) t711) ∧ Aside0 (Below w.heap.size w wc))
   case first => as_aux_lemma =>
    have H := HC11.out
    clear HC11
    replace H := ifN H
    obtain ⟨c18, H⟩ := H
    have c18b0 : (t715 != t717) = false := by simpa using c18
    (try (have c18b1 : decide (t715 = t717) = true := by simpa using c18))
    (try (have c18b2 : (t715 == t717) = true := by simpa using c18))
    clear c18
    (first | rw [c18b0] | (simp only [i64_w, i32_w]; rw [c18b0]) | skip)
    replace H := ifS H
    obtain ⟨c19, H⟩ := H
    have c19b0 : (t714 == t716) = true := beq_iff_eq.mpr c19
    have c19b1 : (t714 != t716) = false := bne_eq_false_iff_eq.mpr c19
    clear c19
    replace H := ifN H
    obtain ⟨c20, H⟩ := H
    have c20b0 : (t719 != t721) = false := by simpa using c20
    (try (have c20b1 : decide (t719 = t721) = true := by simpa using c20))
    (try (have c20b2 : (t719 == t721) = true := by simpa using c20))
    clear c20
    replace H := ifN H
    obtain ⟨c21, H⟩ := H
    have c21b0 : (t718 != t720) = false := by simpa using c21
    (try (have c21b1 : decide (t718 = t720) = true := by simpa using c21))
    (try (have c21b2 : (t718 == t720) = true := by simpa using c21))
    clear c21
    have H' := aU H
    clear H
    go_wp2
    go_meet
    case rel => exact ⟨_, ((t719 != t715)), eqU, H', ⟨by have := HJ3.out; first | omega | exact Nat.le_refl _⟩, ⟨roU HO713⟩, ⟨hbU⟩⟩
   case rest => as_aux_lemma =>
    clear HC11
    obtain ⟨kq, x148_10, rfl, HA, HJ10, HO_6, HB⟩ := hcut
    cases kq with
    | zero => exact absurd HA.out (by simp [laws_FnDartsPlayed.j1])
    | succ kj10 =>
     have H := HA.out
     clear HA
     simp only [laws_FnDartsPlayed.j1] at H
     have HC22 := aU H
     clear H
     go_upto_if 148 with (fail)
     go_cut [] from 9999 to 9999 (fun wc => ∃ (kq : Nat), Aside0 (laws_FnDartsPlayed.j2 kq l1 t710 t711 t714 t715 t718 = some r) ∧ Aside0 (kq ≤ kj10) ∧ Aside0 (Kd.R k52 52 wc w.heap.size (fun _ => True) (.slice Ao13 t711.length co13) t711) ∧ Aside0 (Below w.heap.size w wc))
     case first => as_aux_lemma =>
      have H := HC22.out
      clear HC22
      by_cases c23 : x148_10 = true
      ·subst c23
       rw [if_pos rfl] at H
       exact absurd H (by simp)
      replace c23 := Bool.eq_false_iff.mpr c23
      subst c23
      rw [if_neg (show ¬ (false = true) by decide)] at H
      have H' := aU H
      clear H
      go_wp2
      go_meet
      case rel => exact ⟨_, H', ⟨by have := HJ3.out; have := HJ10.out; first | omega | exact Nat.le_refl _⟩, ⟨roU HO_6⟩, ⟨hbU⟩⟩
     case rest => as_aux_lemma =>
      clear HC22
      obtain ⟨kq, HA, HJ21, HO_6, HB⟩ := hcut
      cases kq with
      | zero => exact absurd HA.out (by simp [laws_FnDartsPlayed.j2])
      | succ kj21 =>
       have H := HA.out
       clear HA
       simp only [laws_FnDartsPlayed.j2] at H
       have HC24 := aU H
       clear H
       go_upto_if 149 with (fail)
       go_cut [] from 9999 to 9999 (fun wc => ∃ (kq : Nat), Aside0 (laws_FnDartsPlayed.j3 kq l1 = some r) ∧ Aside0 (kq ≤ kj21) ∧ Aside0 (Below w.heap.size w wc))
       case first => as_aux_lemma =>
        have H := HC24.out
        clear HC24
        by_cases c25 : t715 = true
        rotate_left
        ·replace c25 := Bool.eq_false_iff.mpr c25
         subst c25
         rw [if_neg (show ¬ (false = true) by decide)] at H
         have H' := aU H
         clear H
         go_wp2
         go_meet
         case rel => exact ⟨_, H', ⟨by have := HJ3.out; have := HJ10.out; have := HJ21.out; first | omega | exact Nat.le_refl _⟩, ⟨hbU⟩⟩
        subst c25
        rw [if_pos rfl] at H
        replace H := bindS H
        obtain ⟨⟨t722, t723⟩, A26, H⟩ := H
        (try dsimp only at H)
        by_cases c27 : t723 = true
        rotate_left
        ·replace c27 := Bool.eq_false_iff.mpr c27
         subst c27
         rw [if_neg (show ¬ (false = true) by decide)] at H
         exact absurd H (by simp)
        subst c27
        rw [if_pos rfl] at H
        replace H := ifN H
        obtain ⟨c28, H⟩ := H
        have c28b0 : decide ((t711.length : Int) < 1) = false := decide_eq_false c28
        have c28b1 : decide (t711.length < 1) = false := decide_eq_false (by omega)
        clear c28
        (first | rw [c28b0] | (simp only [i64_w, i32_w]; rw [c28b0]) | skip)
        replace H := ifN H
        obtain ⟨c29, H⟩ := H
        have c29b0 : decide (3 < (t711.length : Int)) = false := decide_eq_false c29
        have c29b1 : decide (3 < t711.length) = false := decide_eq_false (by omega)
        clear c29
        by_cases c30 : t718 = true
        ·subst c30
         rw [if_pos rfl] at H
         replace H := ifS H
         obtain ⟨c31, H⟩ := H
         have c31b0 : (t714 == t710) = true := beq_iff_eq.mpr c31
         have c31b1 : (t714 != t710) = false := bne_eq_false_iff_eq.mpr c31
         clear c31
         by_cases c32 : t714 = 1
         rotate_left
         ·rw [if_neg c32] at H
          have c32b0 : (t714 == 1) = false := beq_eq_false_iff_ne.mpr c32
          have c32b1 : (t714 != 1) = true := bne_iff_ne.mpr c32
          have H' := aU H
          clear H
          go_wp2_with (first | ((with_reducible refine gcU 44 rfl ?_); refine goU (some 152) Tryz.func44 #[.slice Ao13 t711.length co13] ?_; (with_reducible refine (laws_bAll.calls kj21 _ _ t711 t722 true _ ?side1 ?side2 A26.out).mono ?_); (case side1 => exact rcU HO_6); (case side2 => exact (Kd.R_reads' HO_6.out).2.1); rintro e w35 ⟨rfl, hb⟩; refine ⟨_, rfl, ?_⟩; replace HO_6 := aU (Kd.R_below (roU HO_6) hb); replace HB := bsU hb; (try clear hb)))
          go_meet
          case rel => exact ⟨_, H', ⟨by have := HJ3.out; have := HJ10.out; have := HJ21.out; first | omega | exact Nat.le_refl _⟩, ⟨hbU⟩⟩
         rw [if_pos c32] at H
         have c32b0 : (t714 == 1) = true := beq_iff_eq.mpr c32
         have c32b1 : (t714 != 1) = false := bne_eq_false_iff_eq.mpr c32
         clear c32
         replace H := ifS H
         obtain ⟨c33, H⟩ := H
         have c33b0 : (t710 == 1) = true := beq_iff_eq.mpr c33
         have c33b1 : (t710 != 1) = false := bne_eq_false_iff_eq.mpr c33
         clear c33
         have H' := aU H
         clear H
         go_wp2_with (first | ((with_reducible refine gcU 44 rfl ?_); refine goU (some 152) Tryz.func44 #[.slice Ao13 t711.length co13] ?_; (with_reducible refine (laws_bAll.calls kj21 _ _ t711 t722 true _ ?side1 ?side2 A26.out).mono ?_); (case side1 => exact rcU HO_6); (case side2 => exact (Kd.R_reads' HO_6.out).2.1); rintro e w34 ⟨rfl, hb⟩; refine ⟨_, rfl, ?_⟩; replace HO_6 := aU (Kd.R_below (roU HO_6) hb); replace HB := bsU hb; (try clear hb)))
         go_meet
         case rel => exact ⟨_, H', ⟨by have := HJ3.out; have := HJ10.out; have := HJ21.out; first | omega | exact Nat.le_refl _⟩, ⟨hbU⟩⟩
        replace c30 := Bool.eq_false_iff.mpr c30
        subst c30
        rw [if_neg (show ¬ (false = true) by decide)] at H
        replace H := ifS H
        obtain ⟨c36, H⟩ := H
        have c36b0 : (t714 == (wrap64 (t710 - t722))) = true := beq_iff_eq.mpr c36
        have c36b1 : (t714 != (wrap64 (t710 - t722))) = false := bne_eq_false_iff_eq.mpr c36
        clear c36
        by_cases c37 : t714 = 1
        rotate_left
        ·rw [if_neg c37] at H
         have c37b0 : (t714 == 1) = false := beq_eq_false_iff_ne.mpr c37
         have c37b1 : (t714 != 1) = true := bne_iff_ne.mpr c37
         by_cases c46 : t714 = 0
         rotate_left
         ·rw [if_neg c46] at H
          have c46b0 : (t714 == 0) = false := beq_eq_false_iff_ne.mpr c46
          have c46b1 : (t714 != 0) = true := bne_iff_ne.mpr c46
          have H' := aU H
          clear H
          go_wp2_with (first | ((with_reducible refine gcU 44 rfl ?_); refine goU (some 152) Tryz.func44 #[.slice Ao13 t711.length co13] ?_; (with_reducible refine (laws_bAll.calls kj21 _ _ t711 t722 true _ ?side1 ?side2 A26.out).mono ?_); (case side1 => exact rcU HO_6); (case side2 => exact (Kd.R_reads' HO_6.out).2.1); rintro e w52 ⟨rfl, hb⟩; refine ⟨_, rfl, ?_⟩; replace HO_6 := aU (Kd.R_below (roU HO_6) hb); replace HB := bsU hb; (try clear hb)))
          go_meet
          case rel => exact ⟨_, H', ⟨by have := HJ3.out; have := HJ10.out; have := HJ21.out; first | omega | exact Nat.le_refl _⟩, ⟨hbU⟩⟩
         rw [if_pos c46] at H
         have c46b0 : (t714 == 0) = true := beq_iff_eq.mpr c46
         have c46b1 : (t714 != 0) = false := bne_eq_false_iff_eq.mpr c46
         clear c46
         obtain ⟨ji47, hji47⟩ : ∃ j_ : Int, (wrap64 ((t711.length : Int) - 1)) = j_ := ⟨_, rfl⟩
         replace H : (if 0 ≤ (ji47) then (if (ji47) < (t711.length : Int) then (if ((rd_T52 t711 (ji47)).f1) = 2 then (laws_FnDartsPlayed.j3 kj21 l1) else (none)) else (none)) else (none)) = some r := by first | (rw [hji47] at H; exact H) | (simp only [hji47] at H ⊢; exact H)
         (try rw [hji47] at A26)
         have hji47w : (IntKind.i64.wrap ((t711.length : Int) - 1)) = ji47 := (i64_w _).trans hji47
         replace H := ifS H
         obtain ⟨c48, H⟩ := H
         have c48b0 : decide (0 ≤ (ji47)) = true := decide_eq_true c48
         clear c48
         replace H := ifS H
         obtain ⟨c49, H⟩ := H
         have c49b0 : decide ((ji47) < (t711.length : Int)) = true := decide_eq_true c49
         clear c49
         replace H := ifS H
         obtain ⟨c50, H⟩ := H
         have c50b0 : (((rd_T52 t711 (ji47)).f1) == 2) = true := beq_iff_eq.mpr c50
         have c50b1 : (((rd_T52 t711 (ji47)).f1) != 2) = false := bne_eq_false_iff_eq.mpr c50
         clear c50
         have H' := aU H
         clear H
         go_wp2_with (first | ((with_reducible refine gcU 44 rfl ?_); refine goU (some 152) Tryz.func44 #[.slice Ao13 t711.length co13] ?_; (with_reducible refine (laws_bAll.calls kj21 _ _ t711 t722 true _ ?side1 ?side2 A26.out).mono ?_); (case side1 => exact rcU HO_6); (case side2 => exact (Kd.R_reads' HO_6.out).2.1); rintro e w51 ⟨rfl, hb⟩; refine ⟨_, rfl, ?_⟩; replace HO_6 := aU (Kd.R_below (roU HO_6) hb); replace HB := bsU hb; (try clear hb); have p725 : 0 ≤ ((ji47) : Int) := dU; have q725 : (ji47) < (t711.length : Int) := dU; obtain ⟨ad725, e725, hx725_0, hx725_1⟩ := at_T52 (Kd.R_reads' HO_6.out).2.2 (ji47) p725 q725; cases e725; replace p725 := eq_true p725; replace q725 := eq_true q725))
         go_meet
         case rel => exact ⟨_, H', ⟨by have := HJ3.out; have := HJ10.out; have := HJ21.out; first | omega | exact Nat.le_refl _⟩, ⟨hbU⟩⟩
        rw [if_pos c37] at H
        have c37b0 : (t714 == 1) = true := beq_iff_eq.mpr c37
        have c37b1 : (t714 != 1) = false := bne_eq_false_iff_eq.mpr c37
        clear c37
        replace H := ifS H
        obtain ⟨c38, H⟩ := H
        have c38b0 : (t710 == 1) = true := beq_iff_eq.mpr c38
        have c38b1 : (t710 != 1) = false := bne_eq_false_iff_eq.mpr c38
        clear c38
        by_cases c39 : t714 = 0
        rotate_left
        ·rw [if_neg c39] at H
         have c39b0 : (t714 == 0) = false := beq_eq_false_iff_ne.mpr c39
         have c39b1 : (t714 != 0) = true := bne_iff_ne.mpr c39
         have H' := aU H
         clear H
         go_wp2_with (first | ((with_reducible refine gcU 44 rfl ?_); refine goU (some 152) Tryz.func44 #[.slice Ao13 t711.length co13] ?_; (with_reducible refine (laws_bAll.calls kj21 _ _ t711 t722 true _ ?side1 ?side2 A26.out).mono ?_); (case side1 => exact rcU HO_6); (case side2 => exact (Kd.R_reads' HO_6.out).2.1); rintro e w45 ⟨rfl, hb⟩; refine ⟨_, rfl, ?_⟩; replace HO_6 := aU (Kd.R_below (roU HO_6) hb); replace HB := bsU hb; (try clear hb)))
         go_meet
         case rel => exact ⟨_, H', ⟨by have := HJ3.out; have := HJ10.out; have := HJ21.out; first | omega | exact Nat.le_refl _⟩, ⟨hbU⟩⟩
        rw [if_pos c39] at H
        have c39b0 : (t714 == 0) = true := beq_iff_eq.mpr c39
        have c39b1 : (t714 != 0) = false := bne_eq_false_iff_eq.mpr c39
        clear c39
        obtain ⟨ji40, hji40⟩ : ∃ j_ : Int, (wrap64 ((t711.length : Int) - 1)) = j_ := ⟨_, rfl⟩
        replace H : (if 0 ≤ (ji40) then (if (ji40) < (t711.length : Int) then (if ((rd_T52 t711 (ji40)).f1) = 2 then (laws_FnDartsPlayed.j3 kj21 l1) else (none)) else (none)) else (none)) = some r := by first | (rw [hji40] at H; exact H) | (simp only [hji40] at H ⊢; exact H)
        (try rw [hji40] at A26)
        have hji40w : (IntKind.i64.wrap ((t711.length : Int) - 1)) = ji40 := (i64_w _).trans hji40
        replace H := ifS H
        obtain ⟨c41, H⟩ := H
        have c41b0 : decide (0 ≤ (ji40)) = true := decide_eq_true c41
        clear c41
        replace H := ifS H
        obtain ⟨c42, H⟩ := H
        have c42b0 : decide ((ji40) < (t711.length : Int)) = true := decide_eq_true c42
        clear c42
        replace H := ifS H
        obtain ⟨c43, H⟩ := H
        have c43b0 : (((rd_T52 t711 (ji40)).f1) == 2) = true := beq_iff_eq.mpr c43
        have c43b1 : (((rd_T52 t711 (ji40)).f1) != 2) = false := bne_eq_false_iff_eq.mpr c43
        clear c43
        have H' := aU H
        clear H
        go_wp2_with (first | ((with_reducible refine gcU 44 rfl ?_); refine goU (some 152) Tryz.func44 #[.slice Ao13 t711.length co13] ?_; (with_reducible refine (laws_bAll.calls kj21 _ _ t711 t722 true _ ?side1 ?side2 A26.out).mono ?_); (case side1 => exact rcU HO_6); (case side2 => exact (Kd.R_reads' HO_6.out).2.1); rintro e w44 ⟨rfl, hb⟩; refine ⟨_, rfl, ?_⟩; replace HO_6 := aU (Kd.R_below (roU HO_6) hb); replace HB := bsU hb; (try clear hb); have p724 : 0 ≤ ((ji40) : Int) := dU; have q724 : (ji40) < (t711.length : Int) := dU; obtain ⟨ad724, e724, hx724_0, hx724_1⟩ := at_T52 (Kd.R_reads' HO_6.out).2.2 (ji40) p724 q724; cases e724; replace p724 := eq_true p724; replace q724 := eq_true q724))
        go_meet
        case rel => exact ⟨_, H', ⟨by have := HJ3.out; have := HJ10.out; have := HJ21.out; first | omega | exact Nat.le_refl _⟩, ⟨hbU⟩⟩
       case rest => as_aux_lemma =>
        clear HC24
        obtain ⟨kq, HA, HJ23, HB⟩ := hcut
        cases kq with
        | zero => exact absurd HA.out (by simp [laws_FnDartsPlayed.j3])
        | succ kj23 =>
         have H := HA.out
         clear HA
         simp only [laws_FnDartsPlayed.j3] at H
         replace H := bindS H
         obtain ⟨⟨t726, t727⟩, A53, H⟩ := H
         (try dsimp only at H)
         replace H := bindS H
         obtain ⟨⟨t730, t731⟩, A54, H⟩ := H
         (try dsimp only at H)
         replace H := bindS H
         obtain ⟨⟨t734, t735⟩, A55, H⟩ := H
         (try dsimp only at H)
         replace H := bindS H
         obtain ⟨t738, A56, H⟩ := H
         (try dsimp only at H)
         replace H := bindS H
         obtain ⟨⟨t741, t742⟩, A57, H⟩ := H
         (try dsimp only at H)
         replace H := bindS H
         obtain ⟨⟨t743, t744⟩, A58, H⟩ := H
         (try dsimp only at H)
         replace H := bindS H
         obtain ⟨⟨t745, t746⟩, A59, H⟩ := H
         (try dsimp only at H)
         replace H := bindS H
         obtain ⟨⟨t747, t748⟩, A60, H⟩ := H
         (try dsimp only at H)
         replace H := bindS H
         obtain ⟨t749, A61, H⟩ := H
         (try dsimp only at H)
         replace H := bindS H
         obtain ⟨⟨t750, t751⟩, A62, H⟩ := H
         (try dsimp only at H)
         replace H := bindS H
         obtain ⟨⟨t754, t755⟩, A63, H⟩ := H
         (try dsimp only at H)
         replace H := bindS H
         obtain ⟨⟨t758, t759⟩, A64, H⟩ := H
         (try dsimp only at H)
         replace H := bindS H
         obtain ⟨⟨t761, t762⟩, A65, H⟩ := H
         (try dsimp only at H)
         replace H := bindS H
         obtain ⟨⟨t763, t764⟩, A66, H⟩ := H
         (try dsimp only at H)
         replace H := bindS H
         obtain ⟨t765, A67, H⟩ := H
         (try dsimp only at H)
         replace H := bindS H
         obtain ⟨⟨t766, t767, t768⟩, A68, H⟩ := H
         (try dsimp only at H)
         replace H := bindS H
         obtain ⟨⟨t770, t771, t772⟩, A69, H⟩ := H
         (try dsimp only at H)
         replace H := bindS H
         obtain ⟨t774, A70, H⟩ := H
         (try dsimp only at H)
         replace H := bindS H
         obtain ⟨⟨t775, t776, t777⟩, A71, H⟩ := H
         (try dsimp only at H)
         replace H := bindS H
         obtain ⟨⟨t778, t779, t780⟩, A72, H⟩ := H
         (try dsimp only at H)
         replace H := bindS H
         obtain ⟨⟨t781, t782⟩, A73, H⟩ := H
         (try dsimp only at H)
         replace H := bindS H
         obtain ⟨⟨t783, t784⟩, A74, H⟩ := H
         (try dsimp only at H)
         replace H := bindS H
         obtain ⟨⟨t785, t786⟩, A75, H⟩ := H
         (try dsimp only at H)
         replace H := bindS H
         obtain ⟨t787, A76, H⟩ := H
         (try dsimp only at H)
         replace H := bindS H
         obtain ⟨⟨t788, t789, t790⟩, A77, H⟩ := H
         (try dsimp only at H)
         replace H := bindS H
         obtain ⟨⟨t791, t792, t793⟩, A78, H⟩ := H
         (try dsimp only at H)
         have HC79 := aU H
         clear H
         go_upto_region 40 with (first | ((with_reducible refine gcU 45 rfl ?_); refine goU (some 214) Tryz.func45 #[.slice A1 l1.length c1] ?_; (with_reducible refine (spec_DrawPlayLeg.calls kj23 _ _ l1 t726 t727 _ ?side1 ?side2 A53.out).mono ?_); (case side1 => repeat (first | exact (Kd.C_below HR1.out HB.out) | (with_reducible refine Kd.C_alloc ?_ _) | (with_reducible refine Kd.C_drewN ?_ _) | (with_reducible refine Kd.C_drew ?_))); (case side2 => exact HC1.out); rintro e w80 ⟨v728, rfl, ho0, hb⟩; refine ⟨_, rfl, ?_⟩; have HO729 := aU (Kd.S_lower ho0 (below_size hbU)); replace HB := bsU hb; (try clear ho0 hb); obtain ⟨Ao81, co81, eo81⟩ := Kd.S_slice HO729.out; subst eo81) | ((with_reducible refine gcU 46 rfl ?_); refine goU (some 220) Tryz.func46 #[.int .i64 t726, .slice Ao81 t727.length co81] ?_; (with_reducible refine (impl_PlayLeg.calls kj23 t726 _ _ t727 t730 t731 _ ?side1 ?side2 A54.out).mono ?_); (case side1 => exact scU HO729); (case side2 => exact (Kd.S_reads' HO729.out).2.1); rintro e w82 ⟨v732, rfl, ho0, hb⟩; refine ⟨_, rfl, ?_⟩; replace HO729 := aU (Kd.S_below (soU HO729) hb); have HO733 := aU (Kd.R_lower ho0 (below_size hbU)); replace HB := bsU hb; (try clear ho0 hb)) | ((with_reducible refine gcU 47 rfl ?_); refine goU (some 226) Tryz.func47 #[.int .i64 t726, .slice Ao81 t727.length co81] ?_; (with_reducible refine (spec_PlayLeg.calls kj23 t726 _ _ t727 t734 t735 _ ?side1 ?side2 A55.out).mono ?_); (case side1 => exact scU HO729); (case side2 => exact (Kd.S_reads' HO729.out).2.1); rintro e w83 ⟨v736, rfl, ho0, hb⟩; refine ⟨_, rfl, ?_⟩; replace HO729 := aU (Kd.S_below (soU HO729) hb); have HO737 := aU (Kd.R_lower (Kd.R_new' ho0 (Kd.R_lt (roU HO733))) (below_size hbU)); replace HO733 := aU (Kd.R_elder' (roU HO733) (Kd.R_base ho0) hb); replace HB := bsU hb; (try clear ho0 hb)) | ((with_reducible refine gcU 48 rfl ?_); refine goU (some 230) Tryz.func48 #[.slice A1 l1.length c1] ?_; (with_reducible refine (spec_DrawScoreOf.calls kj23 _ _ l1 t738 _ ?side1 ?side2 A56.out).mono ?_); (case side1 => repeat (first | exact (Kd.C_below HR1.out HB.out) | (with_reducible refine Kd.C_alloc ?_ _) | (with_reducible refine Kd.C_drewN ?_ _) | (with_reducible refine Kd.C_drew ?_))); (case side2 => exact HC1.out); rintro e w84 ⟨v739, rfl, ho0, hb⟩; refine ⟨_, rfl, ?_⟩; replace HO729 := aU (Kd.S_elder' (soU HO729) (Kd.R_base ho0) hb); replace HO733 := aU (Kd.R_below (roU HO733) hb); replace HO737 := aU (Kd.R_below (roU HO737) hb); have HO740 := aU (Kd.R_lower ho0 (below_size hbU)); replace HB := bsU hb; (try clear ho0 hb); obtain ⟨Ao85, co85, eo85⟩ := Kd.R_slice HO740.out; subst eo85) | ((with_reducible refine gcU 49 rfl ?_); refine goU (some 233) Tryz.func49 #[.slice Ao85 t738.length co85] ?_; (with_reducible refine (impl_ScoreOf.calls kj23 _ _ t738 t741 t742 _ ?side1 ?side2 A57.out).mono ?_); (case side1 => exact rcU HO740); (case side2 => exact (Kd.R_reads' HO740.out).2.1); rintro e w86 ⟨rfl, hb⟩; refine ⟨_, rfl, ?_⟩; replace HO729 := aU (Kd.S_below (soU HO729) hb); replace HO733 := aU (Kd.R_below (roU HO733) hb); replace HO737 := aU (Kd.R_below (roU HO737) hb); replace HO740 := aU (Kd.R_below (roU HO740) hb); replace HB := bsU hb; (try clear hb)) | ((with_reducible refine gcU 50 rfl ?_); refine goU (some 238) Tryz.func50 #[.slice Ao85 t738.length co85] ?_; (with_reducible refine (spec_ScoreOf.calls kj23 _ _ t738 t743 t744 _ ?side1 ?side2 A58.out).mono ?_); (case side1 => exact rcU HO740); (case side2 => exact (Kd.R_reads' HO740.out).2.1); rintro e w87 ⟨rfl, hb⟩; refine ⟨_, rfl, ?_⟩; replace HO729 := aU (Kd.S_below (soU HO729) hb); replace HO733 := aU (Kd.R_below (roU HO733) hb); replace HO737 := aU (Kd.R_below (roU HO737) hb); replace HO740 := aU (Kd.R_below (roU HO740) hb); replace HB := bsU hb; (try clear hb)) | ((with_reducible refine gcU 51 rfl ?_); refine goU (some 243) Tryz.func51 #[.slice Ao85 t738.length co85] ?_; (with_reducible refine (impl_DartsText.calls kj23 _ _ t738 t745 t746 _ ?side1 ?side2 A59.out).mono ?_); (case side1 => exact rcU HO740); (case side2 => exact (Kd.R_reads' HO740.out).2.1); rintro e w88 ⟨rfl, hb⟩; refine ⟨_, rfl, ?_⟩; replace HO729 := aU (Kd.S_below (soU HO729) hb); replace HO733 := aU (Kd.R_below (roU HO733) hb); replace HO737 := aU (Kd.R_below (roU HO737) hb); replace HO740 := aU (Kd.R_below (roU HO740) hb); replace HB := bsU hb; (try clear hb)) | ((with_reducible refine gcU 52 rfl ?_); refine goU (some 248) Tryz.func52 #[.slice Ao85 t738.length co85] ?_; (with_reducible refine (spec_DartsText.calls kj23 _ _ t738 t747 t748 _ ?side1 ?side2 A60.out).mono ?_); (case side1 => exact rcU HO740); (case side2 => exact (Kd.R_reads' HO740.out).2.1); rintro e w89 ⟨rfl, hb⟩; refine ⟨_, rfl, ?_⟩; replace HO729 := aU (Kd.S_below (soU HO729) hb); replace HO733 := aU (Kd.R_below (roU HO733) hb); replace HO737 := aU (Kd.R_below (roU HO737) hb); replace HO740 := aU (Kd.R_below (roU HO740) hb); replace HB := bsU hb; (try clear hb)) | ((with_reducible refine gcU 53 rfl ?_); refine goU (some 252) Tryz.func53 #[.slice A1 l1.length c1] ?_; (with_reducible refine (spec_DrawParseDarts.calls kj23 _ _ l1 t749 _ ?side1 ?side2 A61.out).mono ?_); (case side1 => repeat (first | exact (Kd.C_below HR1.out HB.out) | (with_reducible refine Kd.C_alloc ?_ _) | (with_reducible refine Kd.C_drewN ?_ _) | (with_reducible refine Kd.C_drew ?_))); (case side2 => exact HC1.out); rintro e w90 ⟨rfl, hb⟩; refine ⟨_, rfl, ?_⟩; replace HO729 := aU (Kd.S_below (soU HO729) hb); replace HO733 := aU (Kd.R_below (roU HO733) hb); replace HO737 := aU (Kd.R_below (roU HO737) hb); replace HO740 := aU (Kd.R_below (roU HO740) hb); replace HB := bsU hb; (try clear hb)) | ((with_reducible refine gcU 54 rfl ?_); refine goU (some 255) Tryz.func54 #[.string t749] ?_; (with_reducible refine (impl_ParseDarts.calls kj23 t749 t750 t751 _ A62.out).mono ?_); rintro e w91 ⟨v752, rfl, ho0, hb⟩; refine ⟨_, rfl, ?_⟩; replace HO729 := aU (Kd.S_elder' (soU HO729) (Kd.R_base ho0) hb); replace HO733 := aU (Kd.R_below (roU HO733) hb); replace HO737 := aU (Kd.R_below (roU HO737) hb); have HO753 := aU (Kd.R_lower (Kd.R_new' ho0 (Kd.R_lt (roU HO740))) (below_size hbU)); replace HO740 := aU (Kd.R_elder' (roU HO740) (Kd.R_base ho0) hb); replace HB := bsU hb; (try clear ho0 hb)) | ((with_reducible refine gcU 55 rfl ?_); refine goU (some 260) Tryz.func55 #[.string t749] ?_; (with_reducible refine (spec_ParseDarts.calls kj23 t749 t754 t755 _ A63.out).mono ?_); rintro e w92 ⟨v756, rfl, ho0, hb⟩; refine ⟨_, rfl, ?_⟩; replace HO729 := aU (Kd.S_elder' (soU HO729) (Kd.R_base ho0) hb); replace HO733 := aU (Kd.R_below (roU HO733) hb); replace HO737 := aU (Kd.R_below (roU HO737) hb); have HO757 := aU (Kd.R_lower (Kd.R_new' (Kd.R_new' ho0 (Kd.R_lt (roU HO740))) (Kd.R_lt (roU HO753))) (below_size hbU)); replace HO740 := aU (Kd.R_elder' (roU HO740) (Kd.R_base ho0) hb); replace HO753 := aU (Kd.R_elder' (roU HO753) (Kd.R_base ho0) hb); replace HB := bsU hb; (try clear ho0 hb)) | ((with_reducible refine gcU 56 rfl ?_); refine goU (some 264) Tryz.func56 #[.slice A1 l1.length c1] ?_; (with_reducible refine (spec_DrawIsDart.calls _ _ l1 t758 t759 _ ?side1 ?side2 A64.out).mono ?_); (case side1 => repeat (first | exact (Kd.C_below HR1.out HB.out) | (with_reducible refine Kd.C_alloc ?_ _) | (with_reducible refine Kd.C_drewN ?_ _) | (with_reducible refine Kd.C_drew ?_))); (case side2 => exact HC1.out); rintro e w93 ⟨rfl, hb⟩; refine ⟨_, rfl, ?_⟩; replace HO729 := aU (Kd.S_below (soU HO729) hb); replace HO733 := aU (Kd.R_below (roU HO733) hb); replace HO737 := aU (Kd.R_below (roU HO737) hb); replace HO740 := aU (Kd.R_below (roU HO740) hb); replace HO753 := aU (Kd.R_below (roU HO753) hb); replace HO757 := aU (Kd.R_below (roU HO757) hb); replace HB := bsU hb; (try clear hb)) | ((with_reducible refine gdU 37 rfl ?_); (try (refine gate_guard (by rfl) ?_; dsimp only)); refine bxU (cs := #[.int .i64 0, .int .i64 0]) (t := 52) ?_; intro gb760 hg w94 hbox hb; replace HO729 := aU (Kd.S_below (Kd.S_elderB (soU HO729) gb760 (Nat.le_of_eq hg.symm)) hb); replace HO733 := aU (Kd.R_below (roU HO733) hb); replace HO737 := aU (Kd.R_below (roU HO737) hb); replace HO740 := aU (Kd.R_below (Kd.R_elderB (roU HO740) gb760 (Nat.le_of_eq hg.symm)) hb); replace HO753 := aU (Kd.R_below (Kd.R_elderB (roU HO753) gb760 (Nat.le_of_eq hg.symm)) hb); replace HO757 := aU (Kd.R_below (Kd.R_elderB (roU HO757) gb760 (Nat.le_of_eq hg.symm)) hb); have BK760 := aU (hbox); have GW760 := geU hg; have GE760 := geU hg; replace HB := bsU hb; clear hb hbox hg; obtain ⟨hcz95_0, hcz95_1, hfz95_0, hfz95_1⟩ := b2U BK760) | ((with_reducible refine gcU 57 rfl ?_); refine goU (some 267) Tryz.func57 #[.agg #[.int .i64 t758, .int .i64 t759]] ?_; (with_reducible refine (impl_DartText.calls t758 t759 t761 t762 _ A65.out).mono ?_); rintro e w96 ⟨rfl, hb⟩; refine ⟨_, rfl, ?_⟩; replace HO729 := aU (Kd.S_below (by (with_reducible repeat (first | apply Kd.S_alloc | apply Kd.S_drewN | apply Kd.S_drew)); exact (Kd.S_mono (Kd.S_far (p := ⟨gb760, 1, none⟩) (Kd.S_far (p := ⟨gb760, 0, none⟩) (Kd.S_mono HO729.out (fun k_ hk => (⟨hk, hk.2⟩ : _ ∧ k_ ≠ gb760))) (fun _ hk => hk.2) (.int .i64 t758)) (fun _ hk => hk.2) (.int .i64 t759)) (fun _ h_ => h_.1))) hb); replace HO733 := aU (Kd.R_below (by (with_reducible repeat (first | apply Kd.R_alloc | apply Kd.R_drewN | apply Kd.R_drew)); exact (Kd.R_mono (Kd.R_far (p := ⟨gb760, 1, none⟩) (Kd.R_far (p := ⟨gb760, 0, none⟩) (Kd.R_types HO733.out BK760.out (by decide)) (fun _ hk => hk.2) (.int .i64 t758)) (fun _ hk => hk.2) (.int .i64 t759)) (fun _ h_ => h_.1))) hb); replace HO737 := aU (Kd.R_below (by (with_reducible repeat (first | apply Kd.R_alloc | apply Kd.R_drewN | apply Kd.R_drew)); exact (Kd.R_mono (Kd.R_far (p := ⟨gb760, 1, none⟩) (Kd.R_far (p := ⟨gb760, 0, none⟩) (Kd.R_types HO737.out BK760.out (by decide)) (fun _ hk => hk.2) (.int .i64 t758)) (fun _ hk => hk.2) (.int .i64 t759)) (fun _ h_ => h_.1))) hb); replace HO740 := aU (Kd.R_below (by (with_reducible repeat (first | apply Kd.R_alloc | apply Kd.R_drewN | apply Kd.R_drew)); exact (Kd.R_mono (Kd.R_far (p := ⟨gb760, 1, none⟩) (Kd.R_far (p := ⟨gb760, 0, none⟩) (Kd.R_mono HO740.out (fun k_ hk => (⟨hk, hk.2⟩ : _ ∧ k_ ≠ gb760))) (fun _ hk => hk.2) (.int .i64 t758)) (fun _ hk => hk.2) (.int .i64 t759)) (fun _ h_ => h_.1))) hb); replace HO753 := aU (Kd.R_below (by (with_reducible repeat (first | apply Kd.R_alloc | apply Kd.R_drewN | apply Kd.R_drew)); exact (Kd.R_mono (Kd.R_far (p := ⟨gb760, 1, none⟩) (Kd.R_far (p := ⟨gb760, 0, none⟩) (Kd.R_mono HO753.out (fun k_ hk => (⟨hk, hk.2⟩ : _ ∧ k_ ≠ gb760))) (fun _ hk => hk.2) (.int .i64 t758)) (fun _ hk => hk.2) (.int .i64 t759)) (fun _ h_ => h_.1))) hb); replace HO757 := aU (Kd.R_below (by (with_reducible repeat (first | apply Kd.R_alloc | apply Kd.R_drewN | apply Kd.R_drew)); exact (Kd.R_mono (Kd.R_far (p := ⟨gb760, 1, none⟩) (Kd.R_far (p := ⟨gb760, 0, none⟩) (Kd.R_mono HO757.out (fun k_ hk => (⟨hk, hk.2⟩ : _ ∧ k_ ≠ gb760))) (fun _ hk => hk.2) (.int .i64 t758)) (fun _ hk => hk.2) (.int .i64 t759)) (fun _ h_ => h_.1))) hb); replace BK760 := aU (blk_below (g := gb760) (o := .cells #[.int .i64 t758, .int .i64 t759] 52 (0, 0)) bkU hb); replace HB := bsU hb; (try clear hb); obtain ⟨hcz97_0, hcz97_1, hfz97_0, hfz97_1⟩ := b2U BK760) | ((with_reducible refine gcU 58 rfl ?_); refine goU (some 272) Tryz.func58 #[.agg #[.int .i64 t758, .int .i64 t759]] ?_; (with_reducible refine (spec_DartText.calls kj23 t758 t759 t763 t764 _ A66.out).mono ?_); rintro e w98 ⟨rfl, hb⟩; refine ⟨_, rfl, ?_⟩; replace HO729 := aU (Kd.S_below (soU HO729) hb); replace HO733 := aU (Kd.R_below (roU HO733) hb); replace HO737 := aU (Kd.R_below (roU HO737) hb); replace HO740 := aU (Kd.R_below (roU HO740) hb); replace HO753 := aU (Kd.R_below (roU HO753) hb); replace HO757 := aU (Kd.R_below (roU HO757) hb); replace BK760 := bbU BK760 hb; replace HB := bsU hb; (try clear hb)) | ((with_reducible refine gcU 59 rfl ?_); refine goU (some 276) Tryz.func59 #[.slice A1 l1.length c1] ?_; (with_reducible refine (spec_DrawParseDart.calls kj23 _ _ l1 t765 _ ?side1 ?side2 A67.out).mono ?_); (case side1 => repeat (first | exact (Kd.C_below HR1.out HB.out) | (with_reducible refine Kd.C_alloc ?_ _) | (with_reducible refine Kd.C_drewN ?_ _) | (with_reducible refine Kd.C_drew ?_))); (case side2 => exact HC1.out); rintro e w99 ⟨rfl, hb⟩; refine ⟨_, rfl, ?_⟩; replace HO729 := aU (Kd.S_below (soU HO729) hb); replace HO733 := aU (Kd.R_below (roU HO733) hb); replace HO737 := aU (Kd.R_below (roU HO737) hb); replace HO740 := aU (Kd.R_below (roU HO740) hb); replace HO753 := aU (Kd.R_below (roU HO753) hb); replace HO757 := aU (Kd.R_below (roU HO757) hb); replace BK760 := bbU BK760 hb; replace HB := bsU hb; (try clear hb)) | ((with_reducible refine gcU 60 rfl ?_); refine goU (some 279) Tryz.func60 #[.string t765] ?_; (with_reducible refine (impl_ParseDart.calls kj23 t765 t766 t767 t768 _ A68.out).mono ?_); rintro e w100 ⟨rfl, hb⟩; refine ⟨_, rfl, ?_⟩; replace HO729 := aU (Kd.S_below (soU HO729) hb); replace HO733 := aU (Kd.R_below (roU HO733) hb); replace HO737 := aU (Kd.R_below (roU HO737) hb); replace HO740 := aU (Kd.R_below (roU HO740) hb); replace HO753 := aU (Kd.R_below (roU HO753) hb); replace HO757 := aU (Kd.R_below (roU HO757) hb); replace BK760 := bbU BK760 hb; replace HB := bsU hb; (try clear hb)) | ((with_reducible refine gdU 43 rfl ?_); (try (refine gate_guard (by rfl) ?_; dsimp only)); refine bxU (cs := #[.int .i64 0, .int .i64 0]) (t := 52) ?_; intro gb769 hg w101 hbox hb; replace HO729 := aU (Kd.S_below (Kd.S_elderB (soU HO729) gb769 (Nat.le_of_eq hg.symm)) hb); replace HO733 := aU (Kd.R_below (roU HO733) hb); replace HO737 := aU (Kd.R_below (roU HO737) hb); replace HO740 := aU (Kd.R_below (Kd.R_elderB (roU HO740) gb769 (Nat.le_of_eq hg.symm)) hb); replace HO753 := aU (Kd.R_below (Kd.R_elderB (roU HO753) gb769 (Nat.le_of_eq hg.symm)) hb); replace HO757 := aU (Kd.R_below (Kd.R_elderB (roU HO757) gb769 (Nat.le_of_eq hg.symm)) hb); have BK769 := aU (hbox); have GW769 := geU hg; have GE769 := geU hg; replace HB := bsU hb; have NB760_769 := neU BK760 hg; have NB769_760 := enU BK760 hg; replace BK760 := bbU BK760 hb; clear hb hbox hg; have hnb102 := NB769_760.out; have hnc102 := NB760_769.out; obtain ⟨hcz103_0, hcz103_1, hfz103_0, hfz103_1⟩ := b2U BK769) | ((with_reducible refine gcU 61 rfl ?_); refine goU (some 284) Tryz.func61 #[.string t765] ?_; (with_reducible refine (spec_ParseDart.calls kj23 t765 t770 t771 t772 _ A69.out).mono ?_); rintro e w104 ⟨rfl, hb⟩; refine ⟨_, rfl, ?_⟩; replace HO729 := aU (Kd.S_below (by (with_reducible repeat (first | apply Kd.S_alloc | apply Kd.S_drewN | apply Kd.S_drew)); exact (Kd.S_mono (Kd.S_far (p := ⟨gb769, 1, none⟩) (Kd.S_far (p := ⟨gb769, 0, none⟩) (Kd.S_mono HO729.out (fun k_ hk => (⟨hk, hk.2⟩ : _ ∧ k_ ≠ gb769))) (fun _ hk => hk.2) (.int .i64 t766)) (fun _ hk => hk.2) (.int .i64 t767)) (fun _ h_ => h_.1))) hb); replace HO733 := aU (Kd.R_below (by (with_reducible repeat (first | apply Kd.R_alloc | apply Kd.R_drewN | apply Kd.R_drew)); exact (Kd.R_mono (Kd.R_far (p := ⟨gb769, 1, none⟩) (Kd.R_far (p := ⟨gb769, 0, none⟩) (Kd.R_types HO733.out BK769.out (by decide)) (fun _ hk => hk.2) (.int .i64 t766)) (fun _ hk => hk.2) (.int .i64 t767)) (fun _ h_ => h_.1))) hb); replace HO737 := aU (Kd.R_below (by (with_reducible repeat (first | apply Kd.R_alloc | apply Kd.R_drewN | apply Kd.R_drew)); exact (Kd.R_mono (Kd.R_far (p := ⟨gb769, 1, none⟩) (Kd.R_far (p := ⟨gb769, 0, none⟩) (Kd.R_types HO737.out BK769.out (by decide)) (fun _ hk => hk.2) (.int .i64 t766)) (fun _ hk => hk.2) (.int .i64 t767)) (fun _ h_ => h_.1))) hb); replace HO740 := aU (Kd.R_below (by (with_reducible repeat (first | apply Kd.R_alloc | apply Kd.R_drewN | apply Kd.R_drew)); exact (Kd.R_mono (Kd.R_far (p := ⟨gb769, 1, none⟩) (Kd.R_far (p := ⟨gb769, 0, none⟩) (Kd.R_mono HO740.out (fun k_ hk => (⟨hk, hk.2⟩ : _ ∧ k_ ≠ gb769))) (fun _ hk => hk.2) (.int .i64 t766)) (fun _ hk => hk.2) (.int .i64 t767)) (fun _ h_ => h_.1))) hb); replace HO753 := aU (Kd.R_below (by (with_reducible repeat (first | apply Kd.R_alloc | apply Kd.R_drewN | apply Kd.R_drew)); exact (Kd.R_mono (Kd.R_far (p := ⟨gb769, 1, none⟩) (Kd.R_far (p := ⟨gb769, 0, none⟩) (Kd.R_mono HO753.out (fun k_ hk => (⟨hk, hk.2⟩ : _ ∧ k_ ≠ gb769))) (fun _ hk => hk.2) (.int .i64 t766)) (fun _ hk => hk.2) (.int .i64 t767)) (fun _ h_ => h_.1))) hb); replace HO757 := aU (Kd.R_below (by (with_reducible repeat (first | apply Kd.R_alloc | apply Kd.R_drewN | apply Kd.R_drew)); exact (Kd.R_mono (Kd.R_far (p := ⟨gb769, 1, none⟩) (Kd.R_far (p := ⟨gb769, 0, none⟩) (Kd.R_mono HO757.out (fun k_ hk => (⟨hk, hk.2⟩ : _ ∧ k_ ≠ gb769))) (fun _ hk => hk.2) (.int .i64 t766)) (fun _ hk => hk.2) (.int .i64 t767)) (fun _ h_ => h_.1))) hb); replace BK760 := bbU BK760 hb; replace BK769 := aU (blk_below (g := gb769) (o := .cells #[.int .i64 t766, .int .i64 t767] 52 (0, 0)) bkU hb); replace HB := bsU hb; (try clear hb)) | ((with_reducible refine gdU 45 rfl ?_); (try (refine gate_guard (by rfl) ?_; dsimp only)); refine bxU (cs := #[.int .i64 0, .int .i64 0]) (t := 52) ?_; intro gb773 hg w105 hbox hb; replace HO729 := aU (Kd.S_below (Kd.S_elderB (soU HO729) gb773 (Nat.le_of_eq hg.symm)) hb); replace HO733 := aU (Kd.R_below (roU HO733) hb); replace HO737 := aU (Kd.R_below (roU HO737) hb); replace HO740 := aU (Kd.R_below (Kd.R_elderB (roU HO740) gb773 (Nat.le_of_eq hg.symm)) hb); replace HO753 := aU (Kd.R_below (Kd.R_elderB (roU HO753) gb773 (Nat.le_of_eq hg.symm)) hb); replace HO757 := aU (Kd.R_below (Kd.R_elderB (roU HO757) gb773 (Nat.le_of_eq hg.symm)) hb); have BK773 := aU (hbox); have GW773 := geU hg; have GE773 := geU hg; replace HB := bsU hb; have NB760_773 := neU BK760 hg; have NB773_760 := enU BK760 hg; replace BK760 := bbU BK760 hb; have NB769_773 := neU BK769 hg; have NB773_769 := enU BK769 hg; replace BK769 := bbU BK769 hb; clear hb hbox hg; have hnb106 := NB773_760.out; have hnc106 := NB760_773.out; have hnb107 := NB773_769.out; have hnc107 := NB769_773.out; obtain ⟨hcz108_0, hcz108_1, hfz108_0, hfz108_1⟩ := b2U BK773) | ((with_reducible refine gcU 62 rfl ?_); refine goU (some 288) Tryz.func62 #[.slice A1 l1.length c1] ?_; (with_reducible refine (spec_DrawBesideOf.calls _ _ l1 t774 _ ?side1 ?side2 A70.out).mono ?_); (case side1 => exact Kd.C_below HR1.out hbU); (case side2 => exact HC1.out); rintro e w109 ⟨rfl, hb⟩; refine ⟨_, rfl, ?_⟩; replace HO729 := aU (Kd.S_below (by (with_reducible repeat (first | apply Kd.S_alloc | apply Kd.S_drewN | apply Kd.S_drew)); exact (Kd.S_mono (Kd.S_far (p := ⟨gb773, 1, none⟩) (Kd.S_far (p := ⟨gb773, 0, none⟩) (Kd.S_mono HO729.out (fun k_ hk => (⟨hk, hk.2⟩ : _ ∧ k_ ≠ gb773))) (fun _ hk => hk.2) (.int .i64 t770)) (fun _ hk => hk.2) (.int .i64 t771)) (fun _ h_ => h_.1))) hb); replace HO733 := aU (Kd.R_below (by (with_reducible repeat (first | apply Kd.R_alloc | apply Kd.R_drewN | apply Kd.R_drew)); exact (Kd.R_mono (Kd.R_far (p := ⟨gb773, 1, none⟩) (Kd.R_far (p := ⟨gb773, 0, none⟩) (Kd.R_types HO733.out BK773.out (by decide)) (fun _ hk => hk.2) (.int .i64 t770)) (fun _ hk => hk.2) (.int .i64 t771)) (fun _ h_ => h_.1))) hb); replace HO737 := aU (Kd.R_below (by (with_reducible repeat (first | apply Kd.R_alloc | apply Kd.R_drewN | apply Kd.R_drew)); exact (Kd.R_mono (Kd.R_far (p := ⟨gb773, 1, none⟩) (Kd.R_far (p := ⟨gb773, 0, none⟩) (Kd.R_types HO737.out BK773.out (by decide)) (fun _ hk => hk.2) (.int .i64 t770)) (fun _ hk => hk.2) (.int .i64 t771)) (fun _ h_ => h_.1))) hb); replace HO740 := aU (Kd.R_below (by (with_reducible repeat (first | apply Kd.R_alloc | apply Kd.R_drewN | apply Kd.R_drew)); exact (Kd.R_mono (Kd.R_far (p := ⟨gb773, 1, none⟩) (Kd.R_far (p := ⟨gb773, 0, none⟩) (Kd.R_mono HO740.out (fun k_ hk => (⟨hk, hk.2⟩ : _ ∧ k_ ≠ gb773))) (fun _ hk => hk.2) (.int .i64 t770)) (fun _ hk => hk.2) (.int .i64 t771)) (fun _ h_ => h_.1))) hb); replace HO753 := aU (Kd.R_below (by (with_reducible repeat (first | apply Kd.R_alloc | apply Kd.R_drewN | apply Kd.R_drew)); exact (Kd.R_mono (Kd.R_far (p := ⟨gb773, 1, none⟩) (Kd.R_far (p := ⟨gb773, 0, none⟩) (Kd.R_mono HO753.out (fun k_ hk => (⟨hk, hk.2⟩ : _ ∧ k_ ≠ gb773))) (fun _ hk => hk.2) (.int .i64 t770)) (fun _ hk => hk.2) (.int .i64 t771)) (fun _ h_ => h_.1))) hb); replace HO757 := aU (Kd.R_below (by (with_reducible repeat (first | apply Kd.R_alloc | apply Kd.R_drewN | apply Kd.R_drew)); exact (Kd.R_mono (Kd.R_far (p := ⟨gb773, 1, none⟩) (Kd.R_far (p := ⟨gb773, 0, none⟩) (Kd.R_mono HO757.out (fun k_ hk => (⟨hk, hk.2⟩ : _ ∧ k_ ≠ gb773))) (fun _ hk => hk.2) (.int .i64 t770)) (fun _ hk => hk.2) (.int .i64 t771)) (fun _ h_ => h_.1))) hb); replace BK760 := bbU BK760 hb; replace BK769 := bbU BK769 hb; replace BK773 := aU (blk_below (g := gb773) (o := .cells #[.int .i64 t770, .int .i64 t771] 52 (0, 0)) bkU hb); replace HB := bsU hb; (try clear hb)) | ((with_reducible refine gcU 63 rfl ?_); refine goU (some 291) Tryz.func63 #[.int .i64 t774] ?_; (with_reducible refine (impl_BesideOf.calls kj23 t774 t775 t776 t777 _ A71.out).mono ?_); rintro e w110 ⟨rfl, hb⟩; refine ⟨_, rfl, ?_⟩; replace HO729 := aU (Kd.S_below (soU HO729) hb); replace HO733 := aU (Kd.R_below (roU HO733) hb); replace HO737 := aU (Kd.R_below (roU HO737) hb); replace HO740 := aU (Kd.R_below (roU HO740) hb); replace HO753 := aU (Kd.R_below (roU HO753) hb); replace HO757 := aU (Kd.R_below (roU HO757) hb); replace BK760 := bbU BK760 hb; replace BK769 := bbU BK769 hb; replace BK773 := bbU BK773 hb; replace HB := bsU hb; (try clear hb)) | ((with_reducible refine gcU 64 rfl ?_); refine goU (some 297) Tryz.func64 #[.int .i64 t774] ?_; (with_reducible refine (spec_BesideOf.calls kj23 t774 t778 t779 t780 _ A72.out).mono ?_); rintro e w111 ⟨rfl, hb⟩; refine ⟨_, rfl, ?_⟩; replace HO729 := aU (Kd.S_below (soU HO729) hb); replace HO733 := aU (Kd.R_below (roU HO733) hb); replace HO737 := aU (Kd.R_below (roU HO737) hb); replace HO740 := aU (Kd.R_below (roU HO740) hb); replace HO753 := aU (Kd.R_below (roU HO753) hb); replace HO757 := aU (Kd.R_below (roU HO757) hb); replace BK760 := bbU BK760 hb; replace BK769 := bbU BK769 hb; replace BK773 := bbU BK773 hb; replace HB := bsU hb; (try clear hb)) | ((with_reducible refine gcU 65 rfl ?_); refine goU (some 303) Tryz.func65 #[.slice A1 l1.length c1] ?_; (with_reducible refine (spec_DrawStepsAround.calls _ _ l1 t781 t782 _ ?side1 ?side2 A73.out).mono ?_); (case side1 => repeat (first | exact (Kd.C_below HR1.out HB.out) | (with_reducible refine Kd.C_alloc ?_ _) | (with_reducible refine Kd.C_drewN ?_ _) | (with_reducible refine Kd.C_drew ?_))); (case side2 => exact HC1.out); rintro e w112 ⟨rfl, hb⟩; refine ⟨_, rfl, ?_⟩; replace HO729 := aU (Kd.S_below (soU HO729) hb); replace HO733 := aU (Kd.R_below (roU HO733) hb); replace HO737 := aU (Kd.R_below (roU HO737) hb); replace HO740 := aU (Kd.R_below (roU HO740) hb); replace HO753 := aU (Kd.R_below (roU HO753) hb); replace HO757 := aU (Kd.R_below (roU HO757) hb); replace BK760 := bbU BK760 hb; replace BK769 := bbU BK769 hb; replace BK773 := bbU BK773 hb; replace HB := bsU hb; (try clear hb)) | ((with_reducible refine gcU 66 rfl ?_); refine goU (some 309) Tryz.func66 #[.int .i64 t781, .int .i64 t782] ?_; (with_reducible refine (impl_StepsAround.calls kj23 t781 t782 t783 t784 _ A74.out).mono ?_); rintro e w113 ⟨rfl, hb⟩; refine ⟨_, rfl, ?_⟩; replace HO729 := aU (Kd.S_below (soU HO729) hb); replace HO733 := aU (Kd.R_below (roU HO733) hb); replace HO737 := aU (Kd.R_below (roU HO737) hb); replace HO740 := aU (Kd.R_below (roU HO740) hb); replace HO753 := aU (Kd.R_below (roU HO753) hb); replace HO757 := aU (Kd.R_below (roU HO757) hb); replace BK760 := bbU BK760 hb; replace BK769 := bbU BK769 hb; replace BK773 := bbU BK773 hb; replace HB := bsU hb; (try clear hb)) | ((with_reducible refine gcU 67 rfl ?_); refine goU (some 315) Tryz.func67 #[.int .i64 t781, .int .i64 t782] ?_; (with_reducible refine (spec_StepsAround.calls kj23 t781 t782 t785 t786 _ A75.out).mono ?_); rintro e w114 ⟨rfl, hb⟩; refine ⟨_, rfl, ?_⟩; replace HO729 := aU (Kd.S_below (soU HO729) hb); replace HO733 := aU (Kd.R_below (roU HO733) hb); replace HO737 := aU (Kd.R_below (roU HO737) hb); replace HO740 := aU (Kd.R_below (roU HO740) hb); replace HO753 := aU (Kd.R_below (roU HO753) hb); replace HO757 := aU (Kd.R_below (roU HO757) hb); replace BK760 := bbU BK760 hb; replace BK769 := bbU BK769 hb; replace BK773 := bbU BK773 hb; replace HB := bsU hb; (try clear hb)) | ((with_reducible refine gcU 68 rfl ?_); refine goU (some 319) Tryz.func68 #[.slice A1 l1.length c1] ?_; (with_reducible refine (spec_DrawBestArc.calls _ _ l1 t787 _ ?side1 ?side2 A76.out).mono ?_); (case side1 => repeat (first | exact (Kd.C_below HR1.out HB.out) | (with_reducible refine Kd.C_alloc ?_ _) | (with_reducible refine Kd.C_drewN ?_ _) | (with_reducible refine Kd.C_drew ?_))); (case side2 => exact HC1.out); rintro e w115 ⟨rfl, hb⟩; refine ⟨_, rfl, ?_⟩; replace HO729 := aU (Kd.S_below (soU HO729) hb); replace HO733 := aU (Kd.R_below (roU HO733) hb); replace HO737 := aU (Kd.R_below (roU HO737) hb); replace HO740 := aU (Kd.R_below (roU HO740) hb); replace HO753 := aU (Kd.R_below (roU HO753) hb); replace HO757 := aU (Kd.R_below (roU HO757) hb); replace BK760 := bbU BK760 hb; replace BK769 := bbU BK769 hb; replace BK773 := bbU BK773 hb; replace HB := bsU hb; (try clear hb)) | ((with_reducible refine gcU 69 rfl ?_); refine goU (some 322) Tryz.func69 #[.int .i64 t787] ?_; (with_reducible refine (impl_BestArc.calls kj23 t787 t788 t789 t790 _ A77.out).mono ?_); rintro e w116 ⟨rfl, hb⟩; refine ⟨_, rfl, ?_⟩; replace HO729 := aU (Kd.S_below (soU HO729) hb); replace HO733 := aU (Kd.R_below (roU HO733) hb); replace HO737 := aU (Kd.R_below (roU HO737) hb); replace HO740 := aU (Kd.R_below (roU HO740) hb); replace HO753 := aU (Kd.R_below (roU HO753) hb); replace HO757 := aU (Kd.R_below (roU HO757) hb); replace BK760 := bbU BK760 hb; replace BK769 := bbU BK769 hb; replace BK773 := bbU BK773 hb; replace HB := bsU hb; (try clear hb)) | ((with_reducible refine gcU 70 rfl ?_); refine goU (some 328) Tryz.func70 #[.int .i64 t787] ?_; (with_reducible refine (spec_BestArc.calls kj23 t787 t791 t792 t793 _ A78.out).mono ?_); rintro e w117 ⟨rfl, hb⟩; refine ⟨_, rfl, ?_⟩; replace HO729 := aU (Kd.S_below (soU HO729) hb); replace HO733 := aU (Kd.R_below (roU HO733) hb); replace HO737 := aU (Kd.R_below (roU HO737) hb); replace HO740 := aU (Kd.R_below (roU HO740) hb); replace HO753 := aU (Kd.R_below (roU HO753) hb); replace HO757 := aU (Kd.R_below (roU HO757) hb); replace BK760 := bbU BK760 hb; replace BK769 := bbU BK769 hb; replace BK773 := bbU BK773 hb; replace HB := bsU hb; (try clear hb)))
         (try simp only [Act.put, List.setIfInBounds_toArray, List.set_cons_zero, List.set_cons_succ])
         go_cut [444] from 9999 to 9999 (fun v444 wc => ∃ (kq : Nat) (x444_78 : Bool), v444 = .bool x444_78 ∧ Aside0 (laws_FnDartsPlayed.j4 kq t726 t727 t730 t731 t738 t741 t742 t745 t746 t749 t750 t751 t761 t762 t765 t768 t774 t775 t776 t777 t781 t782 t783 t784 t787 t788 t789 t790 x444_78 t758 t759 t766 t767 = some r) ∧ Aside0 (kq ≤ kj23) ∧ Aside0 (Kd.S (Kd.slice 52 k52) 45 wc w.heap.size (fun k_ => some k_ ≠ ((.slice Ao85 t738.length co85) : Value).ownBlock ∧ some k_ ≠ (v752 : Value).ownBlock ∧ k_ ≠ gb760 ∧ k_ ≠ gb769 ∧ k_ ≠ gb773) (.slice Ao81 t727.length co81) t727) ∧ Aside0 (Kd.R (Kd.int .i64) 3 wc w.heap.size (fun _ => True) v732 t730) ∧ Aside0 (Kd.R k52 52 wc w.heap.size (fun k_ => some k_ ≠ (v752 : Value).ownBlock ∧ k_ ≠ gb760 ∧ k_ ≠ gb769 ∧ k_ ≠ gb773) (.slice Ao85 t738.length co85) t738) ∧ Aside0 (Kd.R k52 52 wc w.heap.size (fun k_ => some k_ ≠ ((.slice Ao85 t738.length co85) : Value).ownBlock ∧ k_ ≠ gb760 ∧ k_ ≠ gb769 ∧ k_ ≠ gb773) v752 t750) ∧ Aside0 (wc.heap[gb760]? = some (.cells #[.int .i64 t758, .int .i64 t759] 52 (0, 0))) ∧ Aside0 (wc.heap[gb769]? = some (.cells #[.int .i64 t766, .int .i64 t767] 52 (0, 0))) ∧ Aside0 (wc.heap[gb773]? = some (.cells #[.int .i64 t770, .int .i64 t771] 52 (0, 0))) ∧ Aside0 (Below w.heap.size w wc))
         case first => as_aux_lemma =>
          have H := HC79.out
          clear HC79
          by_cases c118 : (t731 != t735) = true
          ·rw [if_pos c118] at H
           have c118b0 : (t731 != t735) = true := c118
           (try (have c118b1 : decide (t731 = t735) = false := by simpa using c118))
           (try (have c118b2 : (t731 == t735) = false := by simpa using c118))
           (try (have c118b3 : ¬ (t731 = t735) := by simpa using c118))
           clear c118
           (first | rw [c118b0] | (simp only [i64_w, i32_w]; rw [c118b0]) | skip)
           exact absurd H (by simp)
          rw [if_neg c118] at H
          have c118b0 : (t731 != t735) = false := by simpa using c118
          (try (have c118b1 : decide (t731 = t735) = true := by simpa using c118))
          (try (have c118b2 : (t731 == t735) = true := by simpa using c118))
          clear c118
          (first | rw [c118b0] | (simp only [i64_w, i32_w]; rw [c118b0]) | skip)
          replace H := bindS H
          obtain ⟨t794, A119, H⟩ := H
          (try dsimp only at H)
          by_cases c120 : t794 = true
          rotate_left
          ·replace c120 := Bool.eq_false_iff.mpr c120
           subst c120
           rw [if_neg (show ¬ (false = true) by decide)] at H
           exact absurd H (by simp)
          subst c120
          rw [if_pos rfl] at H
          by_cases c121 : (t742 != t744) = true
          ·rw [if_pos c121] at H
           have c121b0 : (t742 != t744) = true := c121
           (try (have c121b1 : decide (t742 = t744) = false := by simpa using c121))
           (try (have c121b2 : (t742 == t744) = false := by simpa using c121))
           (try (have c121b3 : ¬ (t742 = t744) := by simpa using c121))
           clear c121
           exact absurd H (by simp)
          rw [if_neg c121] at H
          have c121b0 : (t742 != t744) = false := by simpa using c121
          (try (have c121b1 : decide (t742 = t744) = true := by simpa using c121))
          (try (have c121b2 : (t742 == t744) = true := by simpa using c121))
          clear c121
          by_cases c122 : t741 = t743
          rotate_left
          ·rw [if_neg c122] at H
           have c122b0 : (t741 == t743) = false := beq_eq_false_iff_ne.mpr c122
           have c122b1 : (t741 != t743) = true := bne_iff_ne.mpr c122
           exact absurd H (by simp)
          rw [if_pos c122] at H
          have c122b0 : (t741 == t743) = true := beq_iff_eq.mpr c122
          have c122b1 : (t741 != t743) = false := bne_eq_false_iff_eq.mpr c122
          clear c122
          by_cases c123 : (t746 != t748) = true
          ·rw [if_pos c123] at H
           have c123b0 : (t746 != t748) = true := c123
           (try (have c123b1 : decide (t746 = t748) = false := by simpa using c123))
           (try (have c123b2 : (t746 == t748) = false := by simpa using c123))
           (try (have c123b3 : ¬ (t746 = t748) := by simpa using c123))
           clear c123
           exact absurd H (by simp)
          rw [if_neg c123] at H
          have c123b0 : (t746 != t748) = false := by simpa using c123
          (try (have c123b1 : decide (t746 = t748) = true := by simpa using c123))
          (try (have c123b2 : (t746 == t748) = true := by simpa using c123))
          clear c123
          by_cases c124 : t745.toList = t747.toList
          rotate_left
          ·rw [if_neg c124] at H
           have c124b0 : (t745.toList == t747.toList) = false := beq_eq_false_iff_ne.mpr c124
           have c124b1 : (t745.toList != t747.toList) = true := bne_iff_ne.mpr c124
           exact absurd H (by simp)
          rw [if_pos c124] at H
          have c124b0 : (t745.toList == t747.toList) = true := beq_iff_eq.mpr c124
          have c124b1 : (t745.toList != t747.toList) = false := bne_eq_false_iff_eq.mpr c124
          clear c124
          by_cases c125 : (t751 != t755) = true
          ·rw [if_pos c125] at H
           have c125b0 : (t751 != t755) = true := c125
           (try (have c125b1 : decide (t751 = t755) = false := by simpa using c125))
           (try (have c125b2 : (t751 == t755) = false := by simpa using c125))
           (try (have c125b3 : ¬ (t751 = t755) := by simpa using c125))
           clear c125
           exact absurd H (by simp)
          rw [if_neg c125] at H
          have c125b0 : (t751 != t755) = false := by simpa using c125
          (try (have c125b1 : decide (t751 = t755) = true := by simpa using c125))
          (try (have c125b2 : (t751 == t755) = true := by simpa using c125))
          clear c125
          replace H := bindS H
          obtain ⟨t795, A126, H⟩ := H
          (try dsimp only at H)
          by_cases c127 : t795 = true
          rotate_left
          ·replace c127 := Bool.eq_false_iff.mpr c127
           subst c127
           rw [if_neg (show ¬ (false = true) by decide)] at H
           exact absurd H (by simp)
          subst c127
          rw [if_pos rfl] at H
          by_cases c128 : (t762 != t764) = true
          ·rw [if_pos c128] at H
           have c128b0 : (t762 != t764) = true := c128
           (try (have c128b1 : decide (t762 = t764) = false := by simpa using c128))
           (try (have c128b2 : (t762 == t764) = false := by simpa using c128))
           (try (have c128b3 : ¬ (t762 = t764) := by simpa using c128))
           clear c128
           exact absurd H (by simp)
          rw [if_neg c128] at H
          have c128b0 : (t762 != t764) = false := by simpa using c128
          (try (have c128b1 : decide (t762 = t764) = true := by simpa using c128))
          (try (have c128b2 : (t762 == t764) = true := by simpa using c128))
          clear c128
          by_cases c129 : t761.toList = t763.toList
          rotate_left
          ·rw [if_neg c129] at H
           have c129b0 : (t761.toList == t763.toList) = false := beq_eq_false_iff_ne.mpr c129
           have c129b1 : (t761.toList != t763.toList) = true := bne_iff_ne.mpr c129
           exact absurd H (by simp)
          rw [if_pos c129] at H
          have c129b0 : (t761.toList == t763.toList) = true := beq_iff_eq.mpr c129
          have c129b1 : (t761.toList != t763.toList) = false := bne_eq_false_iff_eq.mpr c129
          clear c129
          by_cases c130 : (t768 != t772) = true
          ·rw [if_pos c130] at H
           have c130b0 : (t768 != t772) = true := c130
           (try (have c130b1 : decide (t768 = t772) = false := by simpa using c130))
           (try (have c130b2 : (t768 == t772) = false := by simpa using c130))
           (try (have c130b3 : ¬ (t768 = t772) := by simpa using c130))
           clear c130
           exact absurd H (by simp)
          rw [if_neg c130] at H
          have c130b0 : (t768 != t772) = false := by simpa using c130
          (try (have c130b1 : decide (t768 = t772) = true := by simpa using c130))
          (try (have c130b2 : (t768 == t772) = true := by simpa using c130))
          clear c130
          by_cases c131 : (!(t766 == t770) || (!(t767 == t771))) = true
          ·rw [if_pos c131] at H
           have c131b0 : (!(t766 == t770) || (!(t767 == t771))) = true := c131
           clear c131
           exact absurd H (by simp)
          rw [if_neg c131] at H
          have c131b0 : (!(t766 == t770) || (!(t767 == t771))) = false := by simpa using c131
          clear c131
          by_cases c132 : (t777 != t780) = true
          ·rw [if_pos c132] at H
           have c132b0 : (t777 != t780) = true := c132
           (try (have c132b1 : decide (t777 = t780) = false := by simpa using c132))
           (try (have c132b2 : (t777 == t780) = false := by simpa using c132))
           (try (have c132b3 : ¬ (t777 = t780) := by simpa using c132))
           clear c132
           exact absurd H (by simp)
          rw [if_neg c132] at H
          have c132b0 : (t777 != t780) = false := by simpa using c132
          (try (have c132b1 : decide (t777 = t780) = true := by simpa using c132))
          (try (have c132b2 : (t777 == t780) = true := by simpa using c132))
          clear c132
          by_cases c133 : t775 = t778
          rotate_left
          ·rw [if_neg c133] at H
           have c133b0 : (t775 == t778) = false := beq_eq_false_iff_ne.mpr c133
           have c133b1 : (t775 != t778) = true := bne_iff_ne.mpr c133
           exact absurd H (by simp)
          rw [if_pos c133] at H
          have c133b0 : (t775 == t778) = true := beq_iff_eq.mpr c133
          have c133b1 : (t775 != t778) = false := bne_eq_false_iff_eq.mpr c133
          clear c133
          by_cases c134 : t776 = t779
          rotate_left
          ·rw [if_neg c134] at H
           have c134b0 : (t776 == t779) = false := beq_eq_false_iff_ne.mpr c134
           have c134b1 : (t776 != t779) = true := bne_iff_ne.mpr c134
           exact absurd H (by simp)
          rw [if_pos c134] at H
          have c134b0 : (t776 == t779) = true := beq_iff_eq.mpr c134
          have c134b1 : (t776 != t779) = false := bne_eq_false_iff_eq.mpr c134
          clear c134
          by_cases c135 : (t784 != t786) = true
          ·rw [if_pos c135] at H
           have c135b0 : (t784 != t786) = true := c135
           (try (have c135b1 : decide (t784 = t786) = false := by simpa using c135))
           (try (have c135b2 : (t784 == t786) = false := by simpa using c135))
           (try (have c135b3 : ¬ (t784 = t786) := by simpa using c135))
           clear c135
           exact absurd H (by simp)
          rw [if_neg c135] at H
          have c135b0 : (t784 != t786) = false := by simpa using c135
          (try (have c135b1 : decide (t784 = t786) = true := by simpa using c135))
          (try (have c135b2 : (t784 == t786) = true := by simpa using c135))
          clear c135
          by_cases c136 : t783 = t785
          rotate_left
          ·rw [if_neg c136] at H
           have c136b0 : (t783 == t785) = false := beq_eq_false_iff_ne.mpr c136
           have c136b1 : (t783 != t785) = true := bne_iff_ne.mpr c136
           exact absurd H (by simp)
          rw [if_pos c136] at H
          have c136b0 : (t783 == t785) = true := beq_iff_eq.mpr c136
          have c136b1 : (t783 != t785) = false := bne_eq_false_iff_eq.mpr c136
          clear c136
          by_cases c137 : (t790 != t793) = true
          ·rw [if_pos c137] at H
           have c137b0 : (t790 != t793) = true := c137
           (try (have c137b1 : decide (t790 = t793) = false := by simpa using c137))
           (try (have c137b2 : (t790 == t793) = false := by simpa using c137))
           (try (have c137b3 : ¬ (t790 = t793) := by simpa using c137))
           clear c137
           exact absurd H (by simp)
          rw [if_neg c137] at H
          have c137b0 : (t790 != t793) = false := by simpa using c137
          (try (have c137b1 : decide (t790 = t793) = true := by simpa using c137))
          (try (have c137b2 : (t790 == t793) = true := by simpa using c137))
          clear c137
          by_cases c138 : t788 = t791
          rotate_left
          ·rw [if_neg c138] at H
           have c138b0 : (t788 == t791) = false := beq_eq_false_iff_ne.mpr c138
           have c138b1 : (t788 != t791) = true := bne_iff_ne.mpr c138
           exact absurd H (by simp)
          rw [if_pos c138] at H
          have c138b0 : (t788 == t791) = true := beq_iff_eq.mpr c138
          have c138b1 : (t788 != t791) = false := bne_eq_false_iff_eq.mpr c138
          clear c138
          by_cases c139 : t789 = t792
          rotate_left
          ·rw [if_neg c139] at H
           have c139b0 : (t789 == t792) = false := beq_eq_false_iff_ne.mpr c139
           have c139b1 : (t789 != t792) = true := bne_iff_ne.mpr c139
           exact absurd H (by simp)
          rw [if_pos c139] at H
          have c139b0 : (t789 == t792) = true := beq_iff_eq.mpr c139
          have c139b1 : (t789 != t792) = false := bne_eq_false_iff_eq.mpr c139
          clear c139
          replace H := bindS H
          obtain ⟨t796, A140, H⟩ := H
          (try dsimp only at H)
          by_cases c141 : (t762 != t796) = true
          ·rw [if_pos c141] at H
           have c141b0 : (t762 != t796) = true := c141
           (try (have c141b1 : decide (t762 = t796) = false := by simpa using c141))
           (try (have c141b2 : (t762 == t796) = false := by simpa using c141))
           (try (have c141b3 : ¬ (t762 = t796) := by simpa using c141))
           clear c141
           exact absurd H (by simp)
          rw [if_neg c141] at H
          have c141b0 : (t762 != t796) = false := by simpa using c141
          (try (have c141b1 : decide (t762 = t796) = true := by simpa using c141))
          (try (have c141b2 : (t762 == t796) = true := by simpa using c141))
          clear c141
          replace H := bindS H
          obtain ⟨t797, A142, H⟩ := H
          (try dsimp only at H)
          replace H := bindS H
          obtain ⟨t798, A143, H⟩ := H
          (try dsimp only at H)
          have H' := aU H
          clear H
          try go_wp2
          replace HO729 := aU (Kd.S_drew HO729.out)
          replace HO733 := aU (Kd.R_drew HO733.out)
          replace HO737 := aU (Kd.R_drew HO737.out)
          replace HO740 := aU (Kd.R_drew HO740.out)
          replace HO753 := aU (Kd.R_drew HO753.out)
          replace HO757 := aU (Kd.R_drew HO757.out)
          replace BK760 := aU (blk_drew BK760.out)
          replace BK769 := aU (blk_drew BK769.out)
          replace BK773 := aU (blk_drew BK773.out)
          replace HB := aU (below_drew1 HB.out)
          obtain ⟨Ao145, co145, eo145⟩ := Kd.R_slice HO733.out
          (first | subst eo145 | (injection eo145 with f1_ f2_ f3_; have f4_ := f1_.symm; have f5_ := f3_.symm; clear f1_ f2_ f3_; subst f4_; subst f5_))
          obtain ⟨Ao146, co146, eo146⟩ := Kd.R_slice HO737.out
          (first | subst eo146 | (injection eo146 with f1_ f2_ f3_; have f4_ := f1_.symm; have f5_ := f3_.symm; clear f1_ f2_ f3_; subst f4_; subst f5_))
          refine start_ (n := 113) (S := fun w' => w'.cell? ⟨gb769, 0, none⟩ = some (.int .i64 t766) ∧ w'.cell? ⟨gb769, 1, none⟩ = some (.int .i64 t767) ∧ w'.cell? ⟨gb773, 0, none⟩ = some (.int .i64 t770) ∧ w'.cell? ⟨gb773, 1, none⟩ = some (.int .i64 t771) ∧ w'.cell? ⟨gb760, 0, none⟩ = some (.int .i64 t758) ∧ w'.cell? ⟨gb760, 1, none⟩ = some (.int .i64 t759)) (ds := []) #[false, false, false, false, false, false, false, false, false, false, false, false, false, false, false, false, false, false, false, false, false, false, false, false, false, false, false, false, false, false, false, false, false, false, false, false, false, false, false, false, false, false, false, false, false, false, false, false, false, false, false, false, false, false, false, false, false, false, false, false, false, false, false, false, false, false, false, false, false, false, false, false, false, false, false, false, false, false, false, false, false, false, false, false, false, false, false, false, false, false, false, false, false, false, false, false, false, false, false, false, false, false, false, false, false, false, false, false, false, false, false, false, false] (by kernel_rfl) rfl rfl ⟨(blk_cell BK769.out 0).trans rfl, (blk_cell BK769.out 1).trans rfl, (blk_cell BK773.out 0).trans rfl, (blk_cell BK773.out 1).trans rfl, (blk_cell BK760.out 0).trans rfl, (blk_cell BK760.out 1).trans rfl⟩ (fun hHeld => ?_); refine with_tabW laws_FnDartsPlayed.tab40 laws_FnDartsPlayed.bits40 (fun HT_ HW_ => ?_)
          generalize w117.drew = w144 at HO729 HO733 HO737 HO740 HO753 HO757 BK760 BK769 BK773 HB hHeld ⊢
          refine puU 0 332 HT_ ?_
          refine puU 1 333 HT_ ?_
          refine puU 2 334 HT_ ?_
          refine puU 3 335 HT_ ?_
          refine puU 4 336 HT_ ?_
          refine puU 5 337 HT_ ?_
          refine onU 6 (some 338) HT_ (fun K hK => ?_)
          refine goes_ Tryz.func71 (by kernel_rfl) rfl #[.slice Ao145 t730.length co145, .slice Ao146 t734.length co146] (by rfl) rfl rfl arU ?_
          with_reducible refine (laws_bSame.calls kj23 _ _ t730 _ _ t734 true _ ?side1 ?side2 ?side3 ?side4 A119.out).mono ?_
          (case side1 => exact rcU HO733)
          (case side2 => exact (Kd.R_reads' HO733.out).2.1)
          (case side3 => exact rcU HO737)
          (case side4 => exact (Kd.R_reads' HO737.out).2.1)
          rintro e w' ⟨rfl, ⟨nd, rfl⟩⟩
          refine ⟨_, rfl, ?_⟩
          obtain ⟨Ao147, co147, eo147⟩ := Kd.R_slice HO753.out
          (first | subst eo147 | (injection eo147 with f1_ f2_ f3_; have f4_ := f1_.symm; have f5_ := f3_.symm; clear f1_ f2_ f3_; subst f4_; subst f5_))
          obtain ⟨Ao148, co148, eo148⟩ := Kd.R_slice HO757.out
          (first | subst eo148 | (injection eo148 with f1_ f2_ f3_; have f4_ := f1_.symm; have f5_ := f3_.symm; clear f1_ f2_ f3_; subst f4_; subst f5_))
          refine hK.out _ _ ⟨(blk_cell BK769.out 0).trans rfl, (blk_cell BK769.out 1).trans rfl, (blk_cell BK773.out 0).trans rfl, (blk_cell BK773.out 1).trans rfl, (blk_cell BK760.out 0).trans rfl, (blk_cell BK760.out 1).trans rfl⟩ (fun hHeld => ?_)
          clear hK K
          refine nmU 338 ?_
          refine puU 7 339 HT_ ?_
          refine puU 8 340 HT_ ?_
          refine puU 9 341 HT_ ?_
          refine puU 10 342 HT_ ?_
          as_aux_lemma =>
           refine puU 11 343 HT_ ?_
           refine puU 12 344 HT_ ?_
           refine puU 13 345 HT_ ?_
           refine puU 14 346 HT_ ?_
           refine puU 15 347 HT_ ?_
           refine puU 16 348 HT_ ?_
           refine puU 17 349 HT_ ?_
           refine puU 18 350 HT_ ?_
           refine puU 19 351 HT_ ?_
           refine puU 20 352 HT_ ?_
           as_aux_lemma =>
            refine puU 21 353 HT_ ?_
            refine puU 22 354 HT_ ?_
            refine puU 23 355 HT_ ?_
            refine puU 24 356 HT_ ?_
            refine puU 25 357 HT_ ?_
            refine puU 26 358 HT_ ?_
            refine puU 27 359 HT_ ?_
            refine puU 28 360 HT_ ?_
            refine puU 29 361 HT_ ?_
            refine puU 30 362 HT_ ?_
            as_aux_lemma =>
             refine puU 31 363 HT_ ?_
             refine puU 32 364 HT_ ?_
             refine puU 33 365 HT_ ?_
             refine puU 34 366 HT_ ?_
             refine puU 35 367 HT_ ?_
             refine puU 36 368 HT_ ?_
             refine onU 37 (some 369) HT_ (fun K hK => ?_)
             refine goes_ Tryz.func72 (by kernel_rfl) rfl #[.slice Ao147 t750.length co147, .slice Ao148 t754.length co148] (by rfl) rfl rfl arU ?_
             with_reducible refine (laws_bDarts.calls kj23 _ _ t750 _ _ t754 true _ ?side1 ?side2 ?side3 ?side4 A126.out).mono ?_
             (case side1 => exact rcU HO753)
             (case side2 => exact (Kd.R_reads' HO753.out).2.1)
             (case side3 => exact rcU HO757)
             (case side4 => exact (Kd.R_reads' HO757.out).2.1)
             rintro e w' ⟨rfl, ⟨nd, rfl⟩⟩
             refine ⟨_, rfl, ?_⟩
             refine hK.out _ _ ⟨(blk_cell BK769.out 0).trans rfl, (blk_cell BK769.out 1).trans rfl, (blk_cell BK773.out 0).trans rfl, (blk_cell BK773.out 1).trans rfl, (blk_cell BK760.out 0).trans rfl, (blk_cell BK760.out 1).trans rfl⟩ (fun hHeld => ?_)
             clear hK K
             refine nmU 369 ?_
             refine puU 38 370 HT_ ?_
             refine puU 39 371 HT_ ?_
             refine puU 40 372 HT_ ?_
             refine puU 41 373 HT_ ?_
             as_aux_lemma =>
              refine puU 42 374 HT_ ?_
              refine puU 43 375 HT_ ?_
              refine puU 44 376 HT_ ?_
              refine puU 45 377 HT_ ?_
              refine puU 46 378 HT_ ?_
              refine puU 47 379 HT_ ?_
              refine puU 48 380 HT_ ?_
              refine puU 49 381 HT_ ?_
              refine puU 50 382 HT_ ?_
              refine puU 51 383 HT_ ?_
              as_aux_lemma =>
               refine puU 52 384 HT_ ?_
               refine puU 53 385 HT_ ?_
               refine puU 54 386 HT_ ?_
               refine puU 55 387 HT_ ?_
               refine tkU 56 388 HT_ HW_ hHeld ?_
               refine tkU 57 389 HT_ HW_ hHeld ?_
               refine puU 58 390 HT_ ?_
               refine puU 59 391 HT_ ?_
               refine puU 60 392 HT_ ?_
               refine puU 61 393 HT_ ?_
               as_aux_lemma =>
                refine puU 62 394 HT_ ?_
                refine puU 63 395 HT_ ?_
                refine puU 64 396 HT_ ?_
                refine puU 65 397 HT_ ?_
                refine puU 66 398 HT_ ?_
                refine puU 67 399 HT_ ?_
                refine puU 68 400 HT_ ?_
                refine puU 69 401 HT_ ?_
                refine puU 70 402 HT_ ?_
                refine puU 71 403 HT_ ?_
                as_aux_lemma =>
                 refine puU 72 404 HT_ ?_
                 refine puU 73 405 HT_ ?_
                 refine puU 74 406 HT_ ?_
                 refine puU 75 407 HT_ ?_
                 refine puU 76 408 HT_ ?_
                 refine puU 77 409 HT_ ?_
                 refine puU 78 410 HT_ ?_
                 refine puU 79 411 HT_ ?_
                 refine puU 80 412 HT_ ?_
                 refine puU 81 413 HT_ ?_
                 as_aux_lemma =>
                  refine puU 82 414 HT_ ?_
                  refine puU 83 415 HT_ ?_
                  refine puU 84 416 HT_ ?_
                  refine puU 85 417 HT_ ?_
                  refine puU 86 418 HT_ ?_
                  refine puU 87 419 HT_ ?_
                  refine puU 88 420 HT_ ?_
                  refine puU 89 421 HT_ ?_
                  refine puU 90 422 HT_ ?_
                  refine puU 91 423 HT_ ?_
                  as_aux_lemma =>
                   refine puU 92 424 HT_ ?_
                   refine puU 93 425 HT_ ?_
                   refine puU 94 426 HT_ ?_
                   refine puU 95 427 HT_ ?_
                   refine puU 96 428 HT_ ?_
                   refine puU 97 429 HT_ ?_
                   refine puU 98 430 HT_ ?_
                   refine puU 99 431 HT_ ?_
                   refine puU 100 432 HT_ ?_
                   refine puU 101 433 HT_ ?_
                   as_aux_lemma =>
                    refine tkU 102 434 HT_ HW_ hHeld ?_
                    refine onU 103 (some 435) HT_ (fun K hK => ?_)
                    refine goes_ Tryz.func73 (by kernel_rfl) rfl #[.agg #[.int .i64 t758, .int .i64 t759]] (by rfl) rfl rfl arU ?_
                    with_reducible refine (impl_IsDart.calls t758 t759 t796 _ A140.out).mono ?_
                    rintro e w149 ⟨rfl, hb⟩
                    refine ⟨_, rfl, ?_⟩
                    replace HO729 := aU (Kd.S_below (soU HO729) hb)
                    replace HO733 := aU (Kd.R_below (roU HO733) hb)
                    replace HO737 := aU (Kd.R_below (roU HO737) hb)
                    replace HO740 := aU (Kd.R_below (roU HO740) hb)
                    replace HO753 := aU (Kd.R_below (roU HO753) hb)
                    replace HO757 := aU (Kd.R_below (roU HO757) hb)
                    replace BK760 := bbU BK760 hb
                    replace BK769 := bbU BK769 hb
                    replace BK773 := bbU BK773 hb
                    replace HB := bsU hb
                    (try clear hb)
                    refine hK.out _ _ ⟨(blk_cell BK769.out 0).trans rfl, (blk_cell BK769.out 1).trans rfl, (blk_cell BK773.out 0).trans rfl, (blk_cell BK773.out 1).trans rfl, (blk_cell BK760.out 0).trans rfl, (blk_cell BK760.out 1).trans rfl⟩ (fun hHeld => ?_)
                    clear hK K
                    refine nmU 435 ?_
                    refine puU 104 436 HT_ ?_
                    refine puU 105 437 HT_ ?_
                    refine puU 106 438 HT_ ?_
                    refine tkU 107 439 HT_ HW_ hHeld ?_
                    refine tkU 109 441 HT_ HW_ hHeld ?_
                    refine onU 108 (some 440) HT_ (fun K hK => ?_)
                    refine goes_ Tryz.func73 (by kernel_rfl) rfl #[.agg #[.int .i64 t758, .int .i64 t759]] (by rfl) rfl rfl arU ?_
                    with_reducible refine (impl_IsDart.calls t758 t759 t797 _ A142.out).mono ?_
                    rintro e w150 ⟨rfl, hb⟩
                    refine ⟨_, rfl, ?_⟩
                    replace HO729 := aU (Kd.S_below (soU HO729) hb)
                    replace HO733 := aU (Kd.R_below (roU HO733) hb)
                    replace HO737 := aU (Kd.R_below (roU HO737) hb)
                    replace HO740 := aU (Kd.R_below (roU HO740) hb)
                    replace HO753 := aU (Kd.R_below (roU HO753) hb)
                    replace HO757 := aU (Kd.R_below (roU HO757) hb)
                    replace BK760 := bbU BK760 hb
                    replace BK769 := bbU BK769 hb
                    replace BK773 := bbU BK773 hb
                    replace HB := bsU hb
                    (try clear hb)
                    refine hK.out _ _ ⟨(blk_cell BK769.out 0).trans rfl, (blk_cell BK769.out 1).trans rfl, (blk_cell BK773.out 0).trans rfl, (blk_cell BK773.out 1).trans rfl, (blk_cell BK760.out 0).trans rfl, (blk_cell BK760.out 1).trans rfl⟩ (fun hHeld => ?_)
                    clear hK K
                    refine nmU 440 ?_
                    refine onU 110 (some 442) HT_ (fun K hK => ?_)
                    refine goes_ Tryz.func74 (by kernel_rfl) rfl #[.agg #[.int .i64 t758, .int .i64 t759]] (by rfl) rfl rfl arU ?_
                    with_reducible refine (spec_IsDart.calls t758 t759 t798 _ A143.out).mono ?_
                    rintro e w151 ⟨rfl, hb⟩
                    refine ⟨_, rfl, ?_⟩
                    replace HO729 := aU (Kd.S_below (soU HO729) hb)
                    replace HO733 := aU (Kd.R_below (roU HO733) hb)
                    replace HO737 := aU (Kd.R_below (roU HO737) hb)
                    replace HO740 := aU (Kd.R_below (roU HO740) hb)
                    replace HO753 := aU (Kd.R_below (roU HO753) hb)
                    replace HO757 := aU (Kd.R_below (roU HO757) hb)
                    replace BK760 := bbU BK760 hb
                    replace BK769 := bbU BK769 hb
                    replace BK773 := bbU BK773 hb
                    replace HB := bsU hb
                    (try clear hb)
                    refine hK.out _ _ ⟨(blk_cell BK769.out 0).trans rfl, (blk_cell BK769.out 1).trans rfl, (blk_cell BK773.out 0).trans rfl, (blk_cell BK773.out 1).trans rfl, (blk_cell BK760.out 0).trans rfl, (blk_cell BK760.out 1).trans rfl⟩ (fun hHeld => ?_)
                    clear hK K
                    refine nmU 442 ?_
                    refine puU 111 443 HT_ ?_
                    refine puU 112 444 HT_ ?_
                    refine dnU HT_ ?_
                    try go_wp2
                    go_meet
                    case rel => exact ⟨_, ((t797 != t798)), eqU, H', ⟨by have := HJ3.out; have := HJ10.out; have := HJ21.out; have := HJ23.out; first | omega | exact Nat.le_refl _⟩, ⟨by (with_reducible repeat (first | apply Kd.S_alloc | apply Kd.S_drewN | apply Kd.S_drew)); exact Kd.S_mono HO729.out (fun _ hk => ⟨hk.1.1.1.1.1.2, ⟨hk.1.1.1.1.2, ⟨hk.1.1.2, ⟨hk.1.2, hk.2⟩⟩⟩⟩)⟩, ⟨by (with_reducible repeat (first | apply Kd.R_alloc | apply Kd.R_drewN | apply Kd.R_drew)); exact Kd.R_mono HO733.out (fun _ hk => trivial)⟩, ⟨by (with_reducible repeat (first | apply Kd.R_alloc | apply Kd.R_drewN | apply Kd.R_drew)); exact Kd.R_mono HO740.out (fun _ hk => ⟨hk.1.1.1.1.2, ⟨hk.1.1.2, ⟨hk.1.2, hk.2⟩⟩⟩)⟩, ⟨by (with_reducible repeat (first | apply Kd.R_alloc | apply Kd.R_drewN | apply Kd.R_drew)); exact Kd.R_mono HO753.out (fun _ hk => ⟨hk.1.1.1.1.2, ⟨hk.1.1.2, ⟨hk.1.2, hk.2⟩⟩⟩)⟩, ⟨bkU⟩, ⟨bkU⟩, ⟨bkU⟩, ⟨hbU⟩⟩
         case rest => as_aux_lemma =>
          clear HC79
          obtain ⟨kq, x444_78, rfl, HA, HJ78, HO_18, HO_19, HO_23, HO_33, BK760, BK769, BK773, HB⟩ := hcut
          cases kq with
          | zero => exact absurd HA.out (by simp [laws_FnDartsPlayed.j4])
          | succ kj78 =>
           have H := HA.out
           clear HA
           simp only [laws_FnDartsPlayed.j4] at H
           have HC152 := aU H
           clear H
           go_upto_if 444 with (fail)
           go_cut [] from 9999 to 9999 (fun wc => ∃ (kq : Nat), Aside0 (laws_FnDartsPlayed.j5 kq t726 t727 t730 t731 t738 t741 t742 t745 t746 t749 t750 t751 t761 t762 t765 t768 t774 t775 t776 t777 t781 t782 t783 t784 t787 t788 t789 t790 t758 t759 t766 t767 = some r) ∧ Aside0 (kq ≤ kj78) ∧ Aside0 (Kd.S (Kd.slice 52 k52) 45 wc w.heap.size (fun k_ => some k_ ≠ ((.slice Ao85 t738.length co85) : Value).ownBlock ∧ some k_ ≠ (v752 : Value).ownBlock ∧ k_ ≠ gb760 ∧ k_ ≠ gb769 ∧ k_ ≠ gb773) (.slice Ao81 t727.length co81) t727) ∧ Aside0 (Kd.R (Kd.int .i64) 3 wc w.heap.size (fun _ => True) v732 t730) ∧ Aside0 (Kd.R k52 52 wc w.heap.size (fun k_ => some k_ ≠ (v752 : Value).ownBlock ∧ k_ ≠ gb760 ∧ k_ ≠ gb769 ∧ k_ ≠ gb773) (.slice Ao85 t738.length co85) t738) ∧ Aside0 (Kd.R k52 52 wc w.heap.size (fun k_ => some k_ ≠ ((.slice Ao85 t738.length co85) : Value).ownBlock ∧ k_ ≠ gb760 ∧ k_ ≠ gb769 ∧ k_ ≠ gb773) v752 t750) ∧ Aside0 (wc.heap[gb760]? = some (.cells #[.int .i64 t758, .int .i64 t759] 52 (0, 0))) ∧ Aside0 (wc.heap[gb769]? = some (.cells #[.int .i64 t766, .int .i64 t767] 52 (0, 0))) ∧ Aside0 (wc.heap[gb773]? = some (.cells #[.int .i64 t770, .int .i64 t771] 52 (0, 0))) ∧ Aside0 (Below w.heap.size w wc))
           case first => as_aux_lemma =>
            have H := HC152.out
            clear HC152
            by_cases c153 : x444_78 = true
            ·subst c153
             rw [if_pos rfl] at H
             exact absurd H (by simp)
            replace c153 := Bool.eq_false_iff.mpr c153
            subst c153
            rw [if_neg (show ¬ (false = true) by decide)] at H
            have H' := aU H
            clear H
            go_wp2
            go_meet
            case rel => exact ⟨_, H', ⟨by have := HJ3.out; have := HJ10.out; have := HJ21.out; have := HJ23.out; have := HJ78.out; first | omega | exact Nat.le_refl _⟩, ⟨soU HO_18⟩, ⟨roU HO_19⟩, ⟨roU HO_23⟩, ⟨roU HO_33⟩, ⟨bkU⟩, ⟨bkU⟩, ⟨bkU⟩, ⟨hbU⟩⟩
           case rest => as_aux_lemma =>
            clear HC152
            obtain ⟨kq, HA, HJ151, HO_18, HO_19, HO_23, HO_33, BK760, BK769, BK773, HB⟩ := hcut
            cases kq with
            | zero => exact absurd HA.out (by simp [laws_FnDartsPlayed.j5])
            | succ kj151 =>
             have H := HA.out
             clear HA
             simp only [laws_FnDartsPlayed.j5] at H
             have HC154 := aU H
             clear H
             go_upto_if 445 with (fail)
             go_cut [] from 9999 to 9999 (fun wc => ∃ (kq : Nat), Aside0 (laws_FnDartsPlayed.j9 kq t738 t741 t742 t745 t746 t749 t750 t751 t761 t762 t765 t768 t774 t775 t776 t777 t781 t782 t783 t784 t787 t788 t789 t790 t758 t759 t766 t767 = some r) ∧ Aside0 (kq ≤ kj151) ∧ Aside0 (Kd.R k52 52 wc w.heap.size (fun k_ => some k_ ≠ (v752 : Value).ownBlock ∧ k_ ≠ gb760 ∧ k_ ≠ gb769 ∧ k_ ≠ gb773) (.slice Ao85 t738.length co85) t738) ∧ Aside0 (Kd.R k52 52 wc w.heap.size (fun k_ => some k_ ≠ ((.slice Ao85 t738.length co85) : Value).ownBlock ∧ k_ ≠ gb760 ∧ k_ ≠ gb769 ∧ k_ ≠ gb773) v752 t750) ∧ Aside0 (wc.heap[gb760]? = some (.cells #[.int .i64 t758, .int .i64 t759] 52 (0, 0))) ∧ Aside0 (wc.heap[gb769]? = some (.cells #[.int .i64 t766, .int .i64 t767] 52 (0, 0))) ∧ Aside0 (wc.heap[gb773]? = some (.cells #[.int .i64 t770, .int .i64 t771] 52 (0, 0))) ∧ Aside0 (Below w.heap.size w wc))
             case first => as_aux_lemma =>
              have H := HC154.out
              clear HC154
              by_cases c155 : t731 = true
              rotate_left
              ·replace c155 := Bool.eq_false_iff.mpr c155
               subst c155
               rw [if_neg (show ¬ (false = true) by decide)] at H
               have H' := aU H
               clear H
               go_wp2
               go_meet
               case rel => exact ⟨_, H', ⟨by have := HJ3.out; have := HJ10.out; have := HJ21.out; have := HJ23.out; have := HJ78.out; have := HJ151.out; first | omega | exact Nat.le_refl _⟩, ⟨roU HO_23⟩, ⟨roU HO_33⟩, ⟨bkU⟩, ⟨bkU⟩, ⟨bkU⟩, ⟨hbU⟩⟩
              subst c155
              rw [if_pos rfl] at H
              have HC156 := aU H
              clear H
              go_upto_region 43 with (fail)
              go_cut [458] from 9999 to 9999 (fun v458 wc => ∃ (kq : Nat) (x458_155 : Bool), v458 = .bool x458_155 ∧ Aside0 (laws_FnDartsPlayed.j6 kq t727 t730 t738 t741 t742 t745 t746 t749 t750 t751 t761 t762 t765 t768 t774 t775 t776 t777 t781 t782 t783 t784 t787 t788 t789 t790 x458_155 t758 t759 t766 t767 = some r) ∧ Aside0 (kq ≤ kj151) ∧ Aside0 (Kd.S (Kd.slice 52 k52) 45 wc w.heap.size (fun k_ => some k_ ≠ ((.slice Ao85 t738.length co85) : Value).ownBlock ∧ some k_ ≠ (v752 : Value).ownBlock ∧ k_ ≠ gb760 ∧ k_ ≠ gb769 ∧ k_ ≠ gb773) (.slice Ao81 t727.length co81) t727) ∧ Aside0 (Kd.R (Kd.int .i64) 3 wc w.heap.size (fun _ => True) v732 t730) ∧ Aside0 (Kd.R k52 52 wc w.heap.size (fun k_ => some k_ ≠ (v752 : Value).ownBlock ∧ k_ ≠ gb760 ∧ k_ ≠ gb769 ∧ k_ ≠ gb773) (.slice Ao85 t738.length co85) t738) ∧ Aside0 (Kd.R k52 52 wc w.heap.size (fun k_ => some k_ ≠ ((.slice Ao85 t738.length co85) : Value).ownBlock ∧ k_ ≠ gb760 ∧ k_ ≠ gb769 ∧ k_ ≠ gb773) v752 t750) ∧ Aside0 (wc.heap[gb760]? = some (.cells #[.int .i64 t758, .int .i64 t759] 52 (0, 0))) ∧ Aside0 (wc.heap[gb769]? = some (.cells #[.int .i64 t766, .int .i64 t767] 52 (0, 0))) ∧ Aside0 (wc.heap[gb773]? = some (.cells #[.int .i64 t770, .int .i64 t771] 52 (0, 0))) ∧ Aside0 (Below w.heap.size w wc))
              case first => as_aux_lemma =>
               have H := HC156.out
               clear HC156
               replace H := ifS H
               obtain ⟨c157, H⟩ := H
               have c157b0 : ((t730.length : Int) == (wrap64 ((t727.length : Int) + 1))) = true := beq_iff_eq.mpr c157
               have c157b1 : ((t730.length : Int) != (wrap64 ((t727.length : Int) + 1))) = false := bne_eq_false_iff_eq.mpr c157
               clear c157
               (first | rw [c157b0] | (simp only [i64_w, i32_w]; rw [c157b0]) | skip)
               replace H := ifS H
               obtain ⟨c158, H⟩ := H
               have c158b0 : decide (0 < (t730.length : Int)) = true := decide_eq_true c158
               have c158b1 : decide (0 < t730.length) = true := decide_eq_true (by omega)
               clear c158
               have H' := aU H
               clear H
               obtain ⟨Ao159, co159, eo159⟩ := Kd.R_slice HO_19.out
               subst eo159
               have p799 : 0 ≤ (0 : Int) := (by omega)
               have q799 : 0 < (t730.length : Int) := dU
               obtain ⟨ad799, e799, hx799_0⟩ := Kd.at_int (Kd.R_reads' HO_19.out).2.2 0 p799 q799
               cases e799
               have qi799 : (0 < t730.length) = True := eq_true (by omega)
               (try rw [show ((0 : Int)).toNat = 0 from rfl] at hx799_0)
               (try rw [Addr.add_zero'] at hx799_0)
               replace p799 := eq_true p799
               replace q799 := eq_true q799
               go_wp2
               go_meet
               case rel => exact ⟨_, (((rd t730 0) != t726)), eqU, H', ⟨by have := HJ3.out; have := HJ10.out; have := HJ21.out; have := HJ23.out; have := HJ78.out; have := HJ151.out; first | omega | exact Nat.le_refl _⟩, ⟨soU HO_18⟩, ⟨roU HO_19⟩, ⟨roU HO_23⟩, ⟨roU HO_33⟩, ⟨bkU⟩, ⟨bkU⟩, ⟨bkU⟩, ⟨hbU⟩⟩
              case rest => as_aux_lemma =>
               clear HC156
               (try clear c155)
               obtain ⟨kq, x458_155, rfl, HA, HJ155, HO_18, HO_19, HO_23, HO_33, BK760, BK769, BK773, HB⟩ := hcut
               cases kq with
               | zero => exact absurd HA.out (by simp [laws_FnDartsPlayed.j6])
               | succ kj155 =>
                have H := HA.out
                clear HA
                simp only [laws_FnDartsPlayed.j6] at H
                have HC160 := aU H
                clear H
                go_upto_if 458 with (fail)
                go_cut [] from 9999 to 9999 (fun wc => ∃ (kq : Nat), Aside0 (laws_FnDartsPlayed.j7 kq t727 t730 t738 t741 t742 t745 t746 t749 t750 t751 t761 t762 t765 t768 t774 t775 t776 t777 t781 t782 t783 t784 t787 t788 t789 t790 t758 t759 t766 t767 = some r) ∧ Aside0 (kq ≤ kj155) ∧ Aside0 (Kd.S (Kd.slice 52 k52) 45 wc w.heap.size (fun k_ => some k_ ≠ ((.slice Ao85 t738.length co85) : Value).ownBlock ∧ some k_ ≠ (v752 : Value).ownBlock ∧ k_ ≠ gb760 ∧ k_ ≠ gb769 ∧ k_ ≠ gb773) (.slice Ao81 t727.length co81) t727) ∧ Aside0 (Kd.R (Kd.int .i64) 3 wc w.heap.size (fun _ => True) v732 t730) ∧ Aside0 (Kd.R k52 52 wc w.heap.size (fun k_ => some k_ ≠ (v752 : Value).ownBlock ∧ k_ ≠ gb760 ∧ k_ ≠ gb769 ∧ k_ ≠ gb773) (.slice Ao85 t738.length co85) t738) ∧ Aside0 (Kd.R k52 52 wc w.heap.size (fun k_ => some k_ ≠ ((.slice Ao85 t738.length co85) : Value).ownBlock ∧ k_ ≠ gb760 ∧ k_ ≠ gb769 ∧ k_ ≠ gb773) v752 t750) ∧ Aside0 (wc.heap[gb760]? = some (.cells #[.int .i64 t758, .int .i64 t759] 52 (0, 0))) ∧ Aside0 (wc.heap[gb769]? = some (.cells #[.int .i64 t766, .int .i64 t767] 52 (0, 0))) ∧ Aside0 (wc.heap[gb773]? = some (.cells #[.int .i64 t770, .int .i64 t771] 52 (0, 0))) ∧ Aside0 (Below w.heap.size w wc))
                case first => as_aux_lemma =>
                 have H := HC160.out
                 clear HC160
                 by_cases c161 : x458_155 = true
                 ·subst c161
                  rw [if_pos rfl] at H
                  exact absurd H (by simp)
                 replace c161 := Bool.eq_false_iff.mpr c161
                 subst c161
                 rw [if_neg (show ¬ (false = true) by decide)] at H
                 have H' := aU H
                 clear H
                 go_wp2
                 go_meet
                 case rel => exact ⟨_, H', ⟨by have := HJ3.out; have := HJ10.out; have := HJ21.out; have := HJ23.out; have := HJ78.out; have := HJ151.out; have := HJ155.out; first | omega | exact Nat.le_refl _⟩, ⟨soU HO_18⟩, ⟨roU HO_19⟩, ⟨roU HO_23⟩, ⟨roU HO_33⟩, ⟨bkU⟩, ⟨bkU⟩, ⟨bkU⟩, ⟨hbU⟩⟩
                case rest => as_aux_lemma =>
                 clear HC160
                 obtain ⟨kq, HA, HJ159, HO_18, HO_19, HO_23, HO_33, BK760, BK769, BK773, HB⟩ := hcut
                 cases kq with
                 | zero => exact absurd HA.out (by simp [laws_FnDartsPlayed.j7])
                 | succ kj159 =>
                  have H := HA.out
                  clear HA
                  simp only [laws_FnDartsPlayed.j7] at H
                  have H' := aU H
                  clear H
                  go_wp2
                  (try simp only [Act.put, List.setIfInBounds_toArray, List.set_cons_zero, List.set_cons_succ])
                  change Code.wp _ _ _ (Act.mk _ _) _
                  go_loopg [461] kj159 (fun kq v461 w' => ∃ (x461_9 : Int), v461 = .int .i64 x461_9 ∧ Aside0 (laws_FnDartsPlayed.l0 kq t730 t738 t741 t742 t745 t746 t749 t750 t751 t761 t762 t765 t768 t774 t775 t776 t777 t781 t782 t783 t784 t787 t788 t789 t790 t727 (t727.length : Int) x461_9 t758 t759 t766 t767 = some r) ∧ Aside0 (kq ≤ kj159) ∧ Aside0 (Kd.R (Kd.int .i64) 3 w' w.heap.size (fun _ => True) v732 t730) ∧ Aside0 (Kd.R k52 52 w' w.heap.size (fun k_ => some k_ ≠ (v752 : Value).ownBlock ∧ k_ ≠ gb760 ∧ k_ ≠ gb769 ∧ k_ ≠ gb773) (.slice Ao85 t738.length co85) t738) ∧ Aside0 (Kd.R k52 52 w' w.heap.size (fun k_ => some k_ ≠ ((.slice Ao85 t738.length co85) : Value).ownBlock ∧ k_ ≠ gb760 ∧ k_ ≠ gb769 ∧ k_ ≠ gb773) v752 t750) ∧ Aside0 (Kd.S (Kd.slice 52 k52) 45 w' w.heap.size (fun k_ => some k_ ≠ ((.slice Ao85 t738.length co85) : Value).ownBlock ∧ some k_ ≠ (v752 : Value).ownBlock ∧ k_ ≠ gb760 ∧ k_ ≠ gb769 ∧ k_ ≠ gb773) (.slice Ao81 t727.length co81) t727) ∧ Aside0 (w'.heap[gb760]? = some (.cells #[.int .i64 t758, .int .i64 t759] 52 (0, 0))) ∧ Aside0 (w'.heap[gb769]? = some (.cells #[.int .i64 t766, .int .i64 t767] 52 (0, 0))) ∧ Aside0 (w'.heap[gb773]? = some (.cells #[.int .i64 t770, .int .i64 t771] 52 (0, 0))) ∧ Aside0 (Below w.heap.size w w'))
                  case atStart => exact ⟨(0), eqU, H', ⟨Nat.le_refl _⟩, ⟨roU HO_19⟩, ⟨roU HO_23⟩, ⟨roU HO_33⟩, ⟨soU HO_18⟩, ⟨bkU⟩, ⟨bkU⟩, ⟨bkU⟩, ⟨hbU⟩⟩
                  case round => as_aux_lemma =>
                   clear H'
                   obtain ⟨x461_9, rfl, HA, HK9, HO_19, HO_23, HO_33, HO_459, BK760, BK769, BK773, HB⟩ := hrel
                   cases gk with
                   | zero => exact absurd HA.out (by simp [laws_FnDartsPlayed.l0])
                   | succ k9 =>
                    have H := HA.out
                    clear HA
                    simp only [laws_FnDartsPlayed.l0] at H
                    by_cases c162 : x461_9 < (t727.length : Int)
                    rotate_left
                    ·rw [if_neg c162] at H
                     have c162b0 : decide (x461_9 < (t727.length : Int)) = false := decide_eq_false c162
                     clear c162
                     have H' := aU H
                     clear H
                     go_wp2
                     go_meet
                     case rel => exact ⟨_, H', ⟨by have := HJ3.out; have := HJ10.out; have := HJ21.out; have := HJ23.out; have := HJ78.out; have := HJ151.out; have := HJ155.out; have := HJ159.out; have := HK9.out; first | omega | exact Nat.le_refl _⟩, ⟨roU HO_23⟩, ⟨roU HO_33⟩, ⟨bkU⟩, ⟨bkU⟩, ⟨bkU⟩, ⟨hbU⟩⟩
                    rw [if_pos c162] at H
                    have c162b0 : decide (x461_9 < (t727.length : Int)) = true := decide_eq_true c162
                    clear c162
                    replace H := ifS H
                    obtain ⟨c163, H⟩ := H
                    have c163b0 : decide (0 ≤ x461_9) = true := decide_eq_true c163
                    clear c163
                    replace H := ifS H
                    obtain ⟨c164, H⟩ := H
                    have c164b0 : decide (x461_9 < (t727.length : Int)) = true := decide_eq_true c164
                    clear c164
                    replace H := ifS H
                    obtain ⟨c165, H⟩ := H
                    have c165b0 : decide (x461_9 < (t730.length : Int)) = true := decide_eq_true c165
                    clear c165
                    replace H := bindS H
                    obtain ⟨⟨t802, t803⟩, A166, H⟩ := H
                    (try dsimp only at H)
                    by_cases c167 : t803 = true
                    rotate_left
                    ·replace c167 := Bool.eq_false_iff.mpr c167
                     subst c167
                     rw [if_neg (show ¬ (false = true) by decide)] at H
                     exact absurd H (by simp)
                    subst c167
                    rw [if_pos rfl] at H
                    obtain ⟨ji168, hji168⟩ : ∃ j_ : Int, (wrap64 (x461_9 + 1)) = j_ := ⟨_, rfl⟩
                    replace H : (if 0 ≤ (ji168) then (if (ji168) < (t730.length : Int) then (if t802 = (rd t730 (ji168)) then (if t802 > (rd t730 x461_9) then (none) else (laws_FnDartsPlayed.l0 k9 t730 t738 t741 t742 t745 t746 t749 t750 t751 t761 t762 t765 t768 t774 t775 t776 t777 t781 t782 t783 t784 t787 t788 t789 t790 t727 (t727.length : Int) ji168 t758 t759 t766 t767)) else (none)) else (none)) else (none)) = some r := by first | (rw [hji168] at H; exact H) | (simp only [hji168] at H ⊢; exact H)
                    (try rw [hji168] at A166)
                    have hji168w : (IntKind.i64.wrap (x461_9 + 1)) = ji168 := (i64_w _).trans hji168
                    replace H := ifS H
                    obtain ⟨c169, H⟩ := H
                    have c169b0 : decide (0 ≤ (ji168)) = true := decide_eq_true c169
                    clear c169
                    replace H := ifS H
                    obtain ⟨c170, H⟩ := H
                    have c170b0 : decide ((ji168) < (t730.length : Int)) = true := decide_eq_true c170
                    clear c170
                    replace H := ifS H
                    obtain ⟨c171, H⟩ := H
                    have c171b0 : (t802 == (rd t730 (ji168))) = true := beq_iff_eq.mpr c171
                    have c171b1 : (t802 != (rd t730 (ji168))) = false := bne_eq_false_iff_eq.mpr c171
                    clear c171
                    replace H := ifN H
                    obtain ⟨c172, H⟩ := H
                    have c172b0 : decide ((rd t730 x461_9) < t802) = false := decide_eq_false c172
                    clear c172
                    have H' := aU H
                    clear H
                    have p800 : 0 ≤ (x461_9 : Int) := dU
                    have q800 : x461_9 < (t727.length : Int) := dU
                    obtain ⟨ad800, A800_0, c800_0, e800, hx800_0, hl800_0, hi800_0⟩ := at_L3 (Kd.S_reads' HO_459.out).2.2 x461_9 p800 q800
                    cases e800
                    obtain ⟨ce800, hce800, hMe800, hcc800⟩ := Kd.S_get HO_459.out [] x461_9 p800 (by first | exact q800 | exact dU | (have e_ := (Kd.S_reads' HO_459.out).1; omega))
                    obtain ⟨ve800_0, rfl, ge800_0⟩ := hMe800
                    have hv800_0 := hcc800 0 _ rfl
                    rw [Nat.add_zero, show ((Kd.slice 52 k52)).sz = 1 from rfl, Nat.mul_one] at hv800_0
                    replace hv800_0 := Option.some.inj (hv800_0.symm.trans hx800_0)
                    rw [hv800_0] at ge800_0
                    have HL800_0 := aU (show Kd.R k52 52 _ _ _ _ (rd_L3 t727 x461_9) from ge800_0)
                    clear hv800_0 ge800_0 hcc800 hce800
                    have HR800_0 := aU hi800_0
                    have HC800_0 := aU hl800_0
                    clear hi800_0 hl800_0
                    replace p800 := eq_true p800
                    replace q800 := eq_true q800
                    obtain ⟨Ao173, co173, eo173⟩ := Kd.R_slice HO_19.out
                    subst eo173
                    have p801 : 0 ≤ (x461_9 : Int) := dU
                    have q801 : x461_9 < (t730.length : Int) := dU
                    obtain ⟨ad801, e801, hx801_0⟩ := Kd.at_int (Kd.R_reads' HO_19.out).2.2 x461_9 p801 q801
                    cases e801
                    replace p801 := eq_true p801
                    replace q801 := eq_true q801
                    go_wp2_with (first | ((with_reducible refine gcU 40 rfl ?_); refine goU (some 472) Tryz.func40 #[.int .i64 (rd t730 x461_9), .slice A800_0 (rd_L3 t727 x461_9).length c800_0] ?_; (with_reducible refine (impl_LeftAfter.calls k9 (rd t730 x461_9) _ _ (rd_L3 t727 x461_9) t802 true _ ?side1 ?side2 A166.out).mono ?_); (case side1 => repeat (first | exact (by repeat (first | (with_reducible exact HR800_0.out) | (with_reducible refine Kd.C_alloc ?_ _) | (with_reducible refine Kd.C_drewN ?_ _) | (with_reducible refine Kd.C_drew ?_) | exact HR800_0.out)) | (with_reducible refine Kd.C_alloc ?_ _) | (with_reducible refine Kd.C_drewN ?_ _) | (with_reducible refine Kd.C_drew ?_))); (case side2 => exact HC800_0.out); rintro e w174 ⟨rfl, hb⟩; refine ⟨_, rfl, ?_⟩; replace HO_19 := aU (Kd.R_below (roU HO_19) hb); replace HO_23 := aU (Kd.R_below (roU HO_23) hb); replace HO_33 := aU (Kd.R_below (roU HO_33) hb); replace HO_459 := aU (Kd.S_below (soU HO_459) hb); replace HL800_0 := aU (Kd.R_below (roU HL800_0) hb); replace BK760 := bbU BK760 hb; replace BK769 := bbU BK769 hb; replace BK773 := bbU BK773 hb; replace HR800_0 := aU (Kd.C_below (by repeat (first | (with_reducible exact HR800_0.out) | (with_reducible refine Kd.C_alloc ?_ _) | (with_reducible refine Kd.C_drewN ?_ _) | (with_reducible refine Kd.C_drew ?_) | exact HR800_0.out)) hb); replace HB := bsU hb; (try clear hb); have p804 : 0 ≤ ((ji168) : Int) := dU; have q804 : (ji168) < (t730.length : Int) := dU; obtain ⟨ad804, e804, hx804_0⟩ := Kd.at_int (Kd.R_reads' HO_19.out).2.2 (ji168) p804 q804; obtain rfl : ad801 = ad804 := (by injection e804); replace p804 := eq_true p804; replace q804 := eq_true q804; have p805 : 0 ≤ (x461_9 : Int) := dU; have q805 : x461_9 < (t730.length : Int) := dU; obtain ⟨ad805, e805, hx805_0⟩ := Kd.at_int (Kd.R_reads' HO_19.out).2.2 x461_9 p805 q805; obtain rfl : ad801 = ad805 := (by injection e805); replace p805 := eq_true p805; replace q805 := eq_true q805))
                    go_roundg k9
                    case measure => have := HJ3.out; have := HJ10.out; have := HJ21.out; have := HJ23.out; have := HJ78.out; have := HJ151.out; have := HJ155.out; have := HJ159.out; have := HK9.out; omega
                    case rel => exact ⟨(ji168), (by first | rfl | (simp; done) | (simp only [← hji168] <;> (first | rfl | simp)) | (simp [*]; done)), H', ⟨by have := HJ3.out; have := HJ10.out; have := HJ21.out; have := HJ23.out; have := HJ78.out; have := HJ151.out; have := HJ155.out; have := HJ159.out; have := HK9.out; omega⟩, ⟨roU HO_19⟩, ⟨roU HO_23⟩, ⟨roU HO_33⟩, ⟨soU HO_459⟩, ⟨bkU⟩, ⟨bkU⟩, ⟨bkU⟩, ⟨hbU⟩⟩
             case rest => as_aux_lemma =>
              clear HC154
              obtain ⟨kq, HA, HJ153, HO_23, HO_33, BK760, BK769, BK773, HB⟩ := hcut
              cases kq with
              | zero => exact absurd HA.out (by simp [laws_FnDartsPlayed.j9])
              | succ kj153 =>
               have H := HA.out
               clear HA
               simp only [laws_FnDartsPlayed.j9] at H
               have HC175 := aU H
               clear H
               go_upto_if 495 with (fail)
               go_cut [] from 9999 to 9999 (fun wc => ∃ (kq : Nat), Aside0 (laws_FnDartsPlayed.j10 kq t738 t745 t746 t749 t750 t751 t761 t762 t765 t768 t774 t775 t776 t777 t781 t782 t783 t784 t787 t788 t789 t790 t758 t759 t766 t767 = some r) ∧ Aside0 (kq ≤ kj153) ∧ Aside0 (Kd.R k52 52 wc w.heap.size (fun k_ => some k_ ≠ (v752 : Value).ownBlock ∧ k_ ≠ gb760 ∧ k_ ≠ gb769 ∧ k_ ≠ gb773) (.slice Ao85 t738.length co85) t738) ∧ Aside0 (Kd.R k52 52 wc w.heap.size (fun k_ => some k_ ≠ ((.slice Ao85 t738.length co85) : Value).ownBlock ∧ k_ ≠ gb760 ∧ k_ ≠ gb769 ∧ k_ ≠ gb773) v752 t750) ∧ Aside0 (wc.heap[gb760]? = some (.cells #[.int .i64 t758, .int .i64 t759] 52 (0, 0))) ∧ Aside0 (wc.heap[gb769]? = some (.cells #[.int .i64 t766, .int .i64 t767] 52 (0, 0))) ∧ Aside0 (wc.heap[gb773]? = some (.cells #[.int .i64 t770, .int .i64 t771] 52 (0, 0))) ∧ Aside0 (Below w.heap.size w wc))
               case first => as_aux_lemma =>
                have H := HC175.out
                clear HC175
                by_cases c176 : t742 = true
                rotate_left
                ·replace c176 := Bool.eq_false_iff.mpr c176
                 subst c176
                 rw [if_neg (show ¬ (false = true) by decide)] at H
                 have H' := aU H
                 clear H
                 go_wp2
                 go_meet
                 case rel => exact ⟨_, H', ⟨by have := HJ3.out; have := HJ10.out; have := HJ21.out; have := HJ23.out; have := HJ78.out; have := HJ151.out; have := HJ153.out; first | omega | exact Nat.le_refl _⟩, ⟨roU HO_23⟩, ⟨roU HO_33⟩, ⟨bkU⟩, ⟨bkU⟩, ⟨bkU⟩, ⟨hbU⟩⟩
                subst c176
                rw [if_pos rfl] at H
                replace H := bindS H
                obtain ⟨⟨t806, t807⟩, A177, H⟩ := H
                (try dsimp only at H)
                by_cases c178 : t807 = true
                rotate_left
                ·replace c178 := Bool.eq_false_iff.mpr c178
                 subst c178
                 rw [if_neg (show ¬ (false = true) by decide)] at H
                 exact absurd H (by simp)
                subst c178
                rw [if_pos rfl] at H
                replace H := ifS H
                obtain ⟨c179, H⟩ := H
                have c179b0 : (t806 == t741) = true := beq_iff_eq.mpr c179
                have c179b1 : (t806 != t741) = false := bne_eq_false_iff_eq.mpr c179
                clear c179
                (first | rw [c179b0] | (simp only [i64_w, i32_w]; rw [c179b0]) | skip)
                replace H := ifN H
                obtain ⟨c180, H⟩ := H
                have c180b0 : (t746 != (decide ((t738.length : Int) > 0))) = false := by simpa using c180
                have c180e0 : t746 = decide ((t738.length : Int) > 0) := bne_eq_false_iff_eq.mp c180b0
                have c180e1 : decide ((0 : Int) < (t738.length : Int)) = t746 := c180e0.symm
                have c180e2 : decide (0 < t738.length) = t746 := by rw [c180e0]; exact decide_eq_decide.2 (by omega)
                have c180e3 : (!t738.isEmpty) = t746 := by rw [← c180e2]; cases t738 <;> simp
                have c180e4 : t738.isEmpty = !t746 := by rw [← c180e3]; simp
                have c180e5 : (0 < t738.length) = (t746 = true) := by rw [← c180e2]; simp
                clear c180e0
                (try (have c180b1 : decide (t746 = (decide ((t738.length : Int) > 0))) = true := by simpa using c180))
                (try (have c180b2 : (t746 == (decide ((t738.length : Int) > 0))) = true := by simpa using c180))
                clear c180
                have H' := aU H
                clear H
                go_wp2_with (first | ((with_reducible refine gcU 44 rfl ?_); refine goU (some 498) Tryz.func44 #[.slice Ao85 t738.length co85] ?_; (with_reducible refine (laws_bAll.calls kj153 _ _ t738 t806 true _ ?side1 ?side2 A177.out).mono ?_); (case side1 => exact rcU HO_23); (case side2 => exact (Kd.R_reads' HO_23.out).2.1); rintro e w181 ⟨rfl, hb⟩; refine ⟨_, rfl, ?_⟩; replace HO_23 := aU (Kd.R_below (roU HO_23) hb); replace HO_33 := aU (Kd.R_below (roU HO_33) hb); replace BK760 := bbU BK760 hb; replace BK769 := bbU BK769 hb; replace BK773 := bbU BK773 hb; replace HB := bsU hb; (try clear hb)))
                go_meet
                case rel => exact ⟨_, H', ⟨by have := HJ3.out; have := HJ10.out; have := HJ21.out; have := HJ23.out; have := HJ78.out; have := HJ151.out; have := HJ153.out; first | omega | exact Nat.le_refl _⟩, ⟨roU HO_23⟩, ⟨roU HO_33⟩, ⟨bkU⟩, ⟨bkU⟩, ⟨bkU⟩, ⟨hbU⟩⟩
               case rest => as_aux_lemma =>
                clear HC175
                obtain ⟨kq, HA, HJ174, HO_23, HO_33, BK760, BK769, BK773, HB⟩ := hcut
                cases kq with
                | zero => exact absurd HA.out (by simp [laws_FnDartsPlayed.j10])
                | succ kj174 =>
                 have H := HA.out
                 clear HA
                 simp only [laws_FnDartsPlayed.j10] at H
                 have HC182 := aU H
                 clear H
                 go_upto_if 515 with (fail)
                 go_cut [] from 9999 to 9999 (fun wc => ∃ (kq : Nat), Aside0 (laws_FnDartsPlayed.j11 kq t749 t750 t751 t761 t762 t765 t768 t774 t775 t776 t777 t781 t782 t783 t784 t787 t788 t789 t790 t758 t759 t766 t767 = some r) ∧ Aside0 (kq ≤ kj174) ∧ Aside0 (Kd.R k52 52 wc w.heap.size (fun k_ => k_ ≠ gb760 ∧ k_ ≠ gb769 ∧ k_ ≠ gb773) v752 t750) ∧ Aside0 (wc.heap[gb760]? = some (.cells #[.int .i64 t758, .int .i64 t759] 52 (0, 0))) ∧ Aside0 (wc.heap[gb769]? = some (.cells #[.int .i64 t766, .int .i64 t767] 52 (0, 0))) ∧ Aside0 (wc.heap[gb773]? = some (.cells #[.int .i64 t770, .int .i64 t771] 52 (0, 0))) ∧ Aside0 (Below w.heap.size w wc))
                 case first => as_aux_lemma =>
                  have H := HC182.out
                  clear HC182
                  by_cases c183 : t746 = true
                  rotate_left
                  ·replace c183 := Bool.eq_false_iff.mpr c183
                   subst c183
                   rw [if_neg (show ¬ (false = true) by decide)] at H
                   have H' := aU H
                   clear H
                   go_wp2
                   go_meet
                   case rel => exact ⟨_, H', ⟨by have := HJ3.out; have := HJ10.out; have := HJ21.out; have := HJ23.out; have := HJ78.out; have := HJ151.out; have := HJ153.out; have := HJ174.out; first | omega | exact Nat.le_refl _⟩, ⟨by (with_reducible repeat (first | apply Kd.R_alloc | apply Kd.R_drewN | apply Kd.R_drew)); exact Kd.R_mono HO_33.out (fun _ hk => ⟨hk.2.1, ⟨hk.2.2.1, hk.2.2.2⟩⟩)⟩, ⟨bkU⟩, ⟨bkU⟩, ⟨bkU⟩, ⟨hbU⟩⟩
                  subst c183
                  rw [if_pos rfl] at H
                  replace H := bindS H
                  obtain ⟨⟨t808, t809⟩, A184, H⟩ := H
                  (try dsimp only at H)
                  by_cases c185 : t809 = true
                  rotate_left
                  ·replace c185 := Bool.eq_false_iff.mpr c185
                   subst c185
                   rw [if_neg (show ¬ (false = true) by decide)] at H
                   exact absurd H (by simp)
                  subst c185
                  rw [if_pos rfl] at H
                  replace H := bindS H
                  obtain ⟨t812, A186, H⟩ := H
                  (try dsimp only at H)
                  by_cases c187 : t812 = true
                  rotate_left
                  ·replace c187 := Bool.eq_false_iff.mpr c187
                   subst c187
                   rw [if_neg (show ¬ (false = true) by decide)] at H
                   exact absurd H (by simp)
                  subst c187
                  rw [if_pos rfl] at H
                  have H' := aU H
                  clear H
                  go_wp2_with (first | ((with_reducible refine gcU 54 rfl ?_); refine goU (some 518) Tryz.func54 #[.string t745] ?_; (with_reducible refine (impl_ParseDarts.calls kj174 t745 t808 true _ A184.out).mono ?_); rintro e w188 ⟨v810, rfl, ho0, hb⟩; refine ⟨_, rfl, ?_⟩; have HO811 := aU (Kd.R_lower (Kd.R_newB (Kd.R_newB (Kd.R_newB (Kd.R_new' (Kd.R_new' ho0 (Kd.R_lt (roU HO_23))) (Kd.R_lt (roU HO_33))) (g := gb760) (o := .cells #[.int .i64 t758, .int .i64 t759] 52 (0, 0)) bkU) (g := gb769) (o := .cells #[.int .i64 t766, .int .i64 t767] 52 (0, 0)) bkU) (g := gb773) (o := .cells #[.int .i64 t770, .int .i64 t771] 52 (0, 0)) bkU) (below_size hbU)); replace HO_23 := aU (Kd.R_elder' (roU HO_23) (Kd.R_base ho0) hb); replace HO_33 := aU (Kd.R_elder' (roU HO_33) (Kd.R_base ho0) hb); replace BK760 := bbU BK760 hb; replace BK769 := bbU BK769 hb; replace BK773 := bbU BK773 hb; replace HB := bsU hb; (try clear ho0 hb); obtain ⟨Ao189, co189, eo189⟩ := Kd.R_slice HO811.out; subst eo189) | (go_at_call 72; (with_reducible refine (laws_bDarts.calls kj174 _ _ t808 _ _ t738 true _ ?side1 ?side2 ?side3 ?side4 A186.out).mono ?_); (case side1 => exact rcU HO811); (case side2 => exact (Kd.R_reads' HO811.out).2.1); (case side3 => exact rcU HO_23); (case side4 => exact (Kd.R_reads' HO_23.out).2.1); rintro e w' ⟨rfl, ⟨nd, rfl⟩⟩))
                  go_meet
                  case rel => exact ⟨_, H', ⟨by have := HJ3.out; have := HJ10.out; have := HJ21.out; have := HJ23.out; have := HJ78.out; have := HJ151.out; have := HJ153.out; have := HJ174.out; first | omega | exact Nat.le_refl _⟩, ⟨by (with_reducible repeat (first | apply Kd.R_alloc | apply Kd.R_drewN | apply Kd.R_drew)); exact Kd.R_mono HO_33.out (fun _ hk => ⟨hk.1.2.1, ⟨hk.1.2.2.1, hk.1.2.2.2⟩⟩)⟩, ⟨bkU⟩, ⟨bkU⟩, ⟨bkU⟩, ⟨hbU⟩⟩
                 case rest => as_aux_lemma =>
                  clear HC182
                  obtain ⟨kq, HA, HJ181, HO_33, BK760, BK769, BK773, HB⟩ := hcut
                  cases kq with
                  | zero => exact absurd HA.out (by simp [laws_FnDartsPlayed.j11])
                  | succ kj181 =>
                   have H := HA.out
                   clear HA
                   simp only [laws_FnDartsPlayed.j11] at H
                   have HC190 := aU H
                   clear H
                   go_upto_if 529 with (fail)
                   go_cut [] from 9999 to 9999 (fun wc => ∃ (kq : Nat), Aside0 (laws_FnDartsPlayed.j12 kq t761 t762 t765 t768 t774 t775 t776 t777 t781 t782 t783 t784 t787 t788 t789 t790 t758 t759 t766 t767 = some r) ∧ Aside0 (kq ≤ kj181) ∧ Aside0 (wc.heap[gb760]? = some (.cells #[.int .i64 t758, .int .i64 t759] 52 (0, 0))) ∧ Aside0 (wc.heap[gb769]? = some (.cells #[.int .i64 t766, .int .i64 t767] 52 (0, 0))) ∧ Aside0 (wc.heap[gb773]? = some (.cells #[.int .i64 t770, .int .i64 t771] 52 (0, 0))) ∧ Aside0 (Below w.heap.size w wc))
                   case first => as_aux_lemma =>
                    have H := HC190.out
                    clear HC190
                    by_cases c191 : t751 = true
                    rotate_left
                    ·replace c191 := Bool.eq_false_iff.mpr c191
                     subst c191
                     rw [if_neg (show ¬ (false = true) by decide)] at H
                     have H' := aU H
                     clear H
                     go_wp2
                     go_meet
                     case rel => exact ⟨_, H', ⟨by have := HJ3.out; have := HJ10.out; have := HJ21.out; have := HJ23.out; have := HJ78.out; have := HJ151.out; have := HJ153.out; have := HJ174.out; have := HJ181.out; first | omega | exact Nat.le_refl _⟩, ⟨bkU⟩, ⟨bkU⟩, ⟨bkU⟩, ⟨hbU⟩⟩
                    subst c191
                    rw [if_pos rfl] at H
                    replace H := bindS H
                    obtain ⟨⟨t813, t814⟩, A192, H⟩ := H
                    (try dsimp only at H)
                    by_cases c193 : t814 = true
                    rotate_left
                    ·replace c193 := Bool.eq_false_iff.mpr c193
                     subst c193
                     rw [if_neg (show ¬ (false = true) by decide)] at H
                     exact absurd H (by simp)
                    subst c193
                    rw [if_pos rfl] at H
                    replace H := ifS H
                    obtain ⟨c194, H⟩ := H
                    have c194b0 : (t813.toList == t749.toList) = true := beq_iff_eq.mpr c194
                    have c194b1 : (t813.toList != t749.toList) = false := bne_eq_false_iff_eq.mpr c194
                    clear c194
                    (first | rw [c194b0] | (simp only [i64_w, i32_w]; rw [c194b0]) | skip)
                    have H' := aU H
                    clear H
                    obtain ⟨Ao195, co195, eo195⟩ := Kd.R_slice HO_33.out
                    subst eo195
                    go_wp2_with (first | ((with_reducible refine gcU 51 rfl ?_); refine goU (some 532) Tryz.func51 #[.slice Ao195 t750.length co195] ?_; (with_reducible refine (impl_DartsText.calls kj181 _ _ t750 t813 true _ ?side1 ?side2 A192.out).mono ?_); (case side1 => exact rcU HO_33); (case side2 => exact (Kd.R_reads' HO_33.out).2.1); rintro e w196 ⟨rfl, hb⟩; refine ⟨_, rfl, ?_⟩; replace HO_33 := aU (Kd.R_below (roU HO_33) hb); replace BK760 := bbU BK760 hb; replace BK769 := bbU BK769 hb; replace BK773 := bbU BK773 hb; replace HB := bsU hb; (try clear hb)))
                    go_meet
                    case rel => exact ⟨_, H', ⟨by have := HJ3.out; have := HJ10.out; have := HJ21.out; have := HJ23.out; have := HJ78.out; have := HJ151.out; have := HJ153.out; have := HJ174.out; have := HJ181.out; first | omega | exact Nat.le_refl _⟩, ⟨bkU⟩, ⟨bkU⟩, ⟨bkU⟩, ⟨hbU⟩⟩
                   case rest => as_aux_lemma =>
                    clear HC190
                    obtain ⟨kq, HA, HJ189, BK760, BK769, BK773, HB⟩ := hcut
                    cases kq with
                    | zero => exact absurd HA.out (by simp [laws_FnDartsPlayed.j12])
                    | succ kj189 =>
                     have H := HA.out
                     clear HA
                     simp only [laws_FnDartsPlayed.j12] at H
                     have HC197 := aU H
                     clear H
                     go_upto_if 542 with (fail)
                     go_cut [] from 9999 to 9999 (fun wc => ∃ (kq : Nat), Aside0 (laws_FnDartsPlayed.j13 kq t765 t768 t774 t775 t776 t777 t781 t782 t783 t784 t787 t788 t789 t790 t766 t767 = some r) ∧ Aside0 (kq ≤ kj189) ∧ Aside0 (wc.heap[gb760]? = some (.cells #[.int .i64 t758, .int .i64 t759] 52 (0, 0))) ∧ Aside0 (wc.heap[gb769]? = some (.cells #[.int .i64 t766, .int .i64 t767] 52 (0, 0))) ∧ Aside0 (wc.heap[gb773]? = some (.cells #[.int .i64 t770, .int .i64 t771] 52 (0, 0))) ∧ Aside0 (Below w.heap.size w wc))
                     case first => as_aux_lemma =>
                      have H := HC197.out
                      clear HC197
                      by_cases c198 : t762 = true
                      rotate_left
                      ·replace c198 := Bool.eq_false_iff.mpr c198
                       subst c198
                       rw [if_neg (show ¬ (false = true) by decide)] at H
                       have H' := aU H
                       clear H
                       go_wp2
                       go_meet
                       case rel => exact ⟨_, H', ⟨by have := HJ3.out; have := HJ10.out; have := HJ21.out; have := HJ23.out; have := HJ78.out; have := HJ151.out; have := HJ153.out; have := HJ174.out; have := HJ181.out; have := HJ189.out; first | omega | exact Nat.le_refl _⟩, ⟨bkU⟩, ⟨bkU⟩, ⟨bkU⟩, ⟨hbU⟩⟩
                      subst c198
                      rw [if_pos rfl] at H
                      replace H := bindS H
                      obtain ⟨⟨t815, t816, t817⟩, A199, H⟩ := H
                      (try dsimp only at H)
                      by_cases c200 : t817 = true
                      rotate_left
                      ·replace c200 := Bool.eq_false_iff.mpr c200
                       subst c200
                       rw [if_neg (show ¬ (false = true) by decide)] at H
                       exact absurd H (by simp)
                      subst c200
                      rw [if_pos rfl] at H
                      replace H := ifN H
                      obtain ⟨c201, H⟩ := H
                      have c201b0 : (!(t815 == t758) || (!(t816 == t759))) = false := by simpa using c201
                      clear c201
                      (first | rw [c201b0] | (simp only [i64_w, i32_w]; rw [c201b0]) | skip)
                      have H' := aU H
                      clear H
                      go_wp2_with (first | ((with_reducible refine gcU 60 rfl ?_); refine goU (some 545) Tryz.func60 #[.string t761] ?_; (with_reducible refine (impl_ParseDart.calls kj189 t761 t815 t816 true _ A199.out).mono ?_); rintro e w202 ⟨rfl, hb⟩; refine ⟨_, rfl, ?_⟩; replace BK760 := bbU BK760 hb; replace BK769 := bbU BK769 hb; replace BK773 := bbU BK773 hb; replace HB := bsU hb; (try clear hb)) | ((with_reducible refine gdU 77 rfl ?_); (try (refine gate_guard (by rfl) ?_; dsimp only)); refine bxU (cs := #[.int .i64 0, .int .i64 0]) (t := 52) ?_; intro gb818 hg w203 hbox hb; have BK818 := aU (hbox); have GW818 := geU hg; have GE818 := geU hg; replace HB := bsU hb; have NB760_818 := neU BK760 hg; have NB818_760 := enU BK760 hg; replace BK760 := bbU BK760 hb; have NB769_818 := neU BK769 hg; have NB818_769 := enU BK769 hg; replace BK769 := bbU BK769 hb; have NB773_818 := neU BK773 hg; have NB818_773 := enU BK773 hg; replace BK773 := bbU BK773 hb; clear hb hbox hg; have hnb204 := NB818_760.out; have hnc204 := NB760_818.out; have hnb205 := NB818_769.out; have hnc205 := NB769_818.out; have hnb206 := NB818_773.out; have hnc206 := NB773_818.out; obtain ⟨hcz207_0, hcz207_1, hfz207_0, hfz207_1⟩ := b2U BK818; have hnb208 := NB760_769.out; have hnc208 := NB769_760.out; have hnb209 := NB760_773.out; have hnc209 := NB773_760.out; obtain ⟨hcz210_0, hcz210_1, hfz210_0, hfz210_1⟩ := b2U BK760))
                      go_meet
                      case rel => exact ⟨_, H', ⟨by have := HJ3.out; have := HJ10.out; have := HJ21.out; have := HJ23.out; have := HJ78.out; have := HJ151.out; have := HJ153.out; have := HJ174.out; have := HJ181.out; have := HJ189.out; first | omega | exact Nat.le_refl _⟩, ⟨bkU⟩, ⟨bkU⟩, ⟨bkU⟩, ⟨hbU⟩⟩
                     case rest => as_aux_lemma =>
                      clear HC197
                      obtain ⟨kq, HA, HJ196, BK760, BK769, BK773, HB⟩ := hcut
                      cases kq with
                      | zero => exact absurd HA.out (by simp [laws_FnDartsPlayed.j13])
                      | succ kj196 =>
                       have H := HA.out
                       clear HA
                       simp only [laws_FnDartsPlayed.j13] at H
                       have HC211 := aU H
                       clear H
                       go_upto_if 555 with (fail)
                       go_cut [] from 9999 to 9999 (fun wc => ∃ (kq : Nat), Aside0 (laws_FnDartsPlayed.j14 kq t774 t775 t776 t777 t781 t782 t783 t784 t787 t788 t789 t790 = some r) ∧ Aside0 (kq ≤ kj196) ∧ Aside0 (wc.heap[gb760]? = some (.cells #[.int .i64 t758, .int .i64 t759] 52 (0, 0))) ∧ Aside0 (wc.heap[gb769]? = some (.cells #[.int .i64 t766, .int .i64 t767] 52 (0, 0))) ∧ Aside0 (wc.heap[gb773]? = some (.cells #[.int .i64 t770, .int .i64 t771] 52 (0, 0))) ∧ Aside0 (Below w.heap.size w wc))
                       case first => as_aux_lemma =>
                        have H := HC211.out
                        clear HC211
                        by_cases c212 : t768 = true
                        rotate_left
                        ·replace c212 := Bool.eq_false_iff.mpr c212
                         subst c212
                         rw [if_neg (show ¬ (false = true) by decide)] at H
                         have H' := aU H
                         clear H
                         go_wp2
                         go_meet
                         case rel => exact ⟨_, H', ⟨by have := HJ3.out; have := HJ10.out; have := HJ21.out; have := HJ23.out; have := HJ78.out; have := HJ151.out; have := HJ153.out; have := HJ174.out; have := HJ181.out; have := HJ189.out; have := HJ196.out; first | omega | exact Nat.le_refl _⟩, ⟨bkU⟩, ⟨bkU⟩, ⟨bkU⟩, ⟨hbU⟩⟩
                        subst c212
                        rw [if_pos rfl] at H
                        replace H := bindS H
                        obtain ⟨⟨t819, t820⟩, A213, H⟩ := H
                        (try dsimp only at H)
                        by_cases c214 : t820 = true
                        rotate_left
                        ·replace c214 := Bool.eq_false_iff.mpr c214
                         subst c214
                         rw [if_neg (show ¬ (false = true) by decide)] at H
                         exact absurd H (by simp)
                        subst c214
                        rw [if_pos rfl] at H
                        replace H := ifS H
                        obtain ⟨c215, H⟩ := H
                        have c215b0 : (t819.toList == t765.toList) = true := beq_iff_eq.mpr c215
                        have c215b1 : (t819.toList != t765.toList) = false := bne_eq_false_iff_eq.mpr c215
                        clear c215
                        (first | rw [c215b0] | (simp only [i64_w, i32_w]; rw [c215b0]) | skip)
                        have H' := aU H
                        clear H
                        have hnb216 := NB769_760.out
                        have hnc216 := NB760_769.out
                        have hnb217 := NB769_773.out
                        have hnc217 := NB773_769.out
                        have hcz218_0 : wc.cell? ⟨gb769, 0, none⟩ = some (.int .i64 t766) := (blk_cell BK769.out 0).trans rfl
                        have hcz218_1 : wc.cell? ⟨gb769, 1, none⟩ = some (.int .i64 t767) := (blk_cell BK769.out 1).trans rfl
                        have hfz218_0 := blk_frozen BK769.out 0
                        have hfz218_1 := blk_frozen BK769.out 1
                        go_wp2_with (first | ((with_reducible refine gcU 57 rfl ?_); refine goU (some 558) Tryz.func57 #[.agg #[.int .i64 t766, .int .i64 t767]] ?_; (with_reducible refine (impl_DartText.calls t766 t767 t819 true _ A213.out).mono ?_); rintro e w219 ⟨rfl, hb⟩; refine ⟨_, rfl, ?_⟩; replace BK760 := bbU BK760 hb; replace BK769 := bbU BK769 hb; replace BK773 := bbU BK773 hb; replace HB := bsU hb; (try clear hb)))
                        go_meet
                        case rel => exact ⟨_, H', ⟨by have := HJ3.out; have := HJ10.out; have := HJ21.out; have := HJ23.out; have := HJ78.out; have := HJ151.out; have := HJ153.out; have := HJ174.out; have := HJ181.out; have := HJ189.out; have := HJ196.out; first | omega | exact Nat.le_refl _⟩, ⟨bkU⟩, ⟨bkU⟩, ⟨bkU⟩, ⟨hbU⟩⟩
                       case rest => as_aux_lemma =>
                        clear HC211
                        obtain ⟨kq, HA, HJ210, BK760, BK769, BK773, HB⟩ := hcut
                        cases kq with
                        | zero => exact absurd HA.out (by simp [laws_FnDartsPlayed.j14])
                        | succ kj210 =>
                         have H := HA.out
                         clear HA
                         simp only [laws_FnDartsPlayed.j14] at H
                         have HC220 := aU H
                         clear H
                         go_upto_if 568 with (fail)
                         go_cut [] from 9999 to 9999 (fun wc => ∃ (kq : Nat), Aside0 (laws_FnDartsPlayed.j15 kq t781 t782 t783 t784 t787 t788 t789 t790 = some r) ∧ Aside0 (kq ≤ kj210) ∧ Aside0 (wc.heap[gb760]? = some (.cells #[.int .i64 t758, .int .i64 t759] 52 (0, 0))) ∧ Aside0 (wc.heap[gb769]? = some (.cells #[.int .i64 t766, .int .i64 t767] 52 (0, 0))) ∧ Aside0 (wc.heap[gb773]? = some (.cells #[.int .i64 t770, .int .i64 t771] 52 (0, 0))) ∧ Aside0 (Below w.heap.size w wc))
                         case first => as_aux_lemma =>
                          have H := HC220.out
                          clear HC220
                          by_cases c221 : t777 = true
                          rotate_left
                          ·replace c221 := Bool.eq_false_iff.mpr c221
                           subst c221
                           rw [if_neg (show ¬ (false = true) by decide)] at H
                           have H' := aU H
                           clear H
                           go_wp2
                           go_meet
                           case rel => exact ⟨_, H', ⟨by have := HJ3.out; have := HJ10.out; have := HJ21.out; have := HJ23.out; have := HJ78.out; have := HJ151.out; have := HJ153.out; have := HJ174.out; have := HJ181.out; have := HJ189.out; have := HJ196.out; have := HJ210.out; first | omega | exact Nat.le_refl _⟩, ⟨bkU⟩, ⟨bkU⟩, ⟨bkU⟩, ⟨hbU⟩⟩
                          subst c221
                          rw [if_pos rfl] at H
                          replace H := bindS H
                          obtain ⟨⟨t821, t822, t823⟩, A222, H⟩ := H
                          (try dsimp only at H)
                          replace H := bindS H
                          obtain ⟨⟨t824, t825⟩, A223, H⟩ := H
                          (try dsimp only at H)
                          by_cases c224 : t823 = true
                          rotate_left
                          ·replace c224 := Bool.eq_false_iff.mpr c224
                           subst c224
                           rw [if_neg (show ¬ (false = true) by decide)] at H
                           exact absurd H (by simp)
                          subst c224
                          rw [if_pos rfl] at H
                          replace H := ifS H
                          obtain ⟨c225, H⟩ := H
                          have c225b0 : (t821 == t774) = true := beq_iff_eq.mpr c225
                          have c225b1 : (t821 != t774) = false := bne_eq_false_iff_eq.mpr c225
                          clear c225
                          (first | rw [c225b0] | (simp only [i64_w, i32_w]; rw [c225b0]) | skip)
                          replace H := ifN H
                          obtain ⟨c226, H⟩ := H
                          have c226b0 : (t822 == t774) = false := beq_eq_false_iff_ne.mpr c226
                          have c226b1 : (t822 != t774) = true := bne_iff_ne.mpr c226
                          by_cases c227 : t825 = true
                          rotate_left
                          ·replace c227 := Bool.eq_false_iff.mpr c227
                           subst c227
                           rw [if_neg (show ¬ (false = true) by decide)] at H
                           exact absurd H (by simp)
                          subst c227
                          rw [if_pos rfl] at H
                          replace H := ifS H
                          obtain ⟨c228, H⟩ := H
                          have c228b0 : (t824 == 2) = true := beq_iff_eq.mpr c228
                          have c228b1 : (t824 != 2) = false := bne_eq_false_iff_eq.mpr c228
                          clear c228
                          have H' := aU H
                          clear H
                          go_wp2_with (first | ((with_reducible refine gcU 63 rfl ?_); refine goU (some 571) Tryz.func63 #[.int .i64 t776] ?_; (with_reducible refine (impl_BesideOf.calls kj210 t776 t821 t822 true _ A222.out).mono ?_); rintro e w229 ⟨rfl, hb⟩; refine ⟨_, rfl, ?_⟩; replace BK760 := bbU BK760 hb; replace BK769 := bbU BK769 hb; replace BK773 := bbU BK773 hb; replace HB := bsU hb; (try clear hb)) | ((with_reducible refine gcU 66 rfl ?_); refine goU (some 578) Tryz.func66 #[.int .i64 t775, .int .i64 t776] ?_; (with_reducible refine (impl_StepsAround.calls kj210 t775 t776 t824 true _ A223.out).mono ?_); rintro e w230 ⟨rfl, hb⟩; refine ⟨_, rfl, ?_⟩; replace BK760 := bbU BK760 hb; replace BK769 := bbU BK769 hb; replace BK773 := bbU BK773 hb; replace HB := bsU hb; (try clear hb)))
                          go_meet
                          case rel => exact ⟨_, H', ⟨by have := HJ3.out; have := HJ10.out; have := HJ21.out; have := HJ23.out; have := HJ78.out; have := HJ151.out; have := HJ153.out; have := HJ174.out; have := HJ181.out; have := HJ189.out; have := HJ196.out; have := HJ210.out; first | omega | exact Nat.le_refl _⟩, ⟨bkU⟩, ⟨bkU⟩, ⟨bkU⟩, ⟨hbU⟩⟩
                         case rest => as_aux_lemma =>
                          clear HC220
                          obtain ⟨kq, HA, HJ219, BK760, BK769, BK773, HB⟩ := hcut
                          cases kq with
                          | zero => exact absurd HA.out (by simp [laws_FnDartsPlayed.j15])
                          | succ kj219 =>
                           have H := HA.out
                           clear HA
                           simp only [laws_FnDartsPlayed.j15] at H
                           have HC231 := aU H
                           clear H
                           go_upto_if 601 with (fail)
                           go_cut [] from 9999 to 9999 (fun wc => ∃ (kq : Nat), Aside0 (laws_FnDartsPlayed.j16 kq t787 t788 t789 t790 = some r) ∧ Aside0 (kq ≤ kj219) ∧ Aside0 (wc.heap[gb760]? = some (.cells #[.int .i64 t758, .int .i64 t759] 52 (0, 0))) ∧ Aside0 (wc.heap[gb769]? = some (.cells #[.int .i64 t766, .int .i64 t767] 52 (0, 0))) ∧ Aside0 (wc.heap[gb773]? = some (.cells #[.int .i64 t770, .int .i64 t771] 52 (0, 0))) ∧ Aside0 (Below w.heap.size w wc))
                           case first => as_aux_lemma =>
                            have H := HC231.out
                            clear HC231
                            by_cases c232 : t784 = true
                            rotate_left
                            ·replace c232 := Bool.eq_false_iff.mpr c232
                             subst c232
                             rw [if_neg (show ¬ (false = true) by decide)] at H
                             have H' := aU H
                             clear H
                             go_wp2
                             go_meet
                             case rel => exact ⟨_, H', ⟨by have := HJ3.out; have := HJ10.out; have := HJ21.out; have := HJ23.out; have := HJ78.out; have := HJ151.out; have := HJ153.out; have := HJ174.out; have := HJ181.out; have := HJ189.out; have := HJ196.out; have := HJ210.out; have := HJ219.out; first | omega | exact Nat.le_refl _⟩, ⟨bkU⟩, ⟨bkU⟩, ⟨bkU⟩, ⟨hbU⟩⟩
                            subst c232
                            rw [if_pos rfl] at H
                            replace H := bindS H
                            obtain ⟨⟨t826, t827⟩, A233, H⟩ := H
                            (try dsimp only at H)
                            by_cases c234 : t827 = true
                            rotate_left
                            ·replace c234 := Bool.eq_false_iff.mpr c234
                             subst c234
                             rw [if_neg (show ¬ (false = true) by decide)] at H
                             exact absurd H (by simp)
                            subst c234
                            rw [if_pos rfl] at H
                            replace H := ifS H
                            obtain ⟨c235, H⟩ := H
                            have c235b0 : (t826 == t783) = true := beq_iff_eq.mpr c235
                            have c235b1 : (t826 != t783) = false := bne_eq_false_iff_eq.mpr c235
                            clear c235
                            (first | rw [c235b0] | (simp only [i64_w, i32_w]; rw [c235b0]) | skip)
                            replace H := ifN H
                            obtain ⟨c236, H⟩ := H
                            have c236b0 : decide (t783 < 0) = false := decide_eq_false c236
                            clear c236
                            replace H := ifN H
                            obtain ⟨c237, H⟩ := H
                            have c237b0 : decide (10 < t783) = false := decide_eq_false c237
                            clear c237
                            replace H := ifN H
                            obtain ⟨c238, H⟩ := H
                            have c238b0 : ((t783 == 0) != (t781 == t782)) = false := by simpa using c238
                            (try (have c238b1 : decide ((t783 == 0) = (t781 == t782)) = true := by simpa using c238))
                            (try (have c238b2 : ((t783 == 0) == (t781 == t782)) = true := by simpa using c238))
                            clear c238
                            have H' := aU H
                            clear H
                            go_wp2_with (first | ((with_reducible refine gcU 66 rfl ?_); refine goU (some 605) Tryz.func66 #[.int .i64 t782, .int .i64 t781] ?_; (with_reducible refine (impl_StepsAround.calls kj219 t782 t781 t826 true _ A233.out).mono ?_); rintro e w239 ⟨rfl, hb⟩; refine ⟨_, rfl, ?_⟩; replace BK760 := bbU BK760 hb; replace BK769 := bbU BK769 hb; replace BK773 := bbU BK773 hb; replace HB := bsU hb; (try clear hb)))
                            go_meet
                            case rel => exact ⟨_, H', ⟨by have := HJ3.out; have := HJ10.out; have := HJ21.out; have := HJ23.out; have := HJ78.out; have := HJ151.out; have := HJ153.out; have := HJ174.out; have := HJ181.out; have := HJ189.out; have := HJ196.out; have := HJ210.out; have := HJ219.out; first | omega | exact Nat.le_refl _⟩, ⟨bkU⟩, ⟨bkU⟩, ⟨bkU⟩, ⟨hbU⟩⟩
                           case rest => as_aux_lemma =>
                            clear HC231
                            obtain ⟨kq, HA, HJ230, BK760, BK769, BK773, HB⟩ := hcut
                            cases kq with
                            | zero => exact absurd HA.out (by simp [laws_FnDartsPlayed.j16])
                            | succ kj230 =>
                             have H := HA.out
                             clear HA
                             simp only [laws_FnDartsPlayed.j16] at H
                             by_cases c240 : t790 = true
                             rotate_left
                             ·replace c240 := Bool.eq_false_iff.mpr c240
                              subst c240
                              rw [if_neg (show ¬ (false = true) by decide)] at H
                              obtain rfl := Option.some.inj H
                              go_wp2
                              go_ret
                              exact ⟨errU, hbU⟩
                             subst c240
                             rw [if_pos rfl] at H
                             have H' := aU H
                             clear H
                             go_wp2
                             (try simp only [Act.put, List.setIfInBounds_toArray, List.set_cons_zero, List.set_cons_succ])
                             change Code.wp _ _ _ (Act.mk _ _) _
                             go_loopg [88, 89, 90] kj230 (fun kq v88 v89 v90 w' => ∃ (x88_15 : Int) (x89_15 : Int) (x90_15 : Int), v88 = .int .i64 x88_15 ∧ v89 = .int .i64 x89_15 ∧ v90 = .int .i64 x90_15 ∧ Aside0 (laws_FnDartsPlayed.l1 kq t787 t788 t789 x88_15 x89_15 x90_15 = some r) ∧ Aside0 (kq ≤ kj230) ∧ Aside0 (w'.heap[gb760]? = some (.cells #[.int .i64 t758, .int .i64 t759] 52 (0, 0))) ∧ Aside0 (w'.heap[gb769]? = some (.cells #[.int .i64 t766, .int .i64 t767] 52 (0, 0))) ∧ Aside0 (w'.heap[gb773]? = some (.cells #[.int .i64 t770, .int .i64 t771] 52 (0, 0))) ∧ Aside0 (Below w.heap.size w w'))
                             case atStart => exact ⟨(0), (t788), (0), eqU, eqU, eqU, H', ⟨Nat.le_refl _⟩, ⟨bkU⟩, ⟨bkU⟩, ⟨bkU⟩, ⟨hbU⟩⟩
                             case round => as_aux_lemma =>
                              clear H'
                              (try clear c240)
                              obtain ⟨x88_15, x89_15, x90_15, rfl, rfl, rfl, HA, HK15, BK760, BK769, BK773, HB⟩ := hrel
                              cases gk with
                              | zero => exact absurd HA.out (by simp [laws_FnDartsPlayed.l1])
                              | succ k15 =>
                               have H := HA.out
                               clear HA
                               simp only [laws_FnDartsPlayed.l1] at H
                               by_cases c241 : x90_15 < t787
                               ·rw [if_pos c241] at H
                                have c241b0 : decide (x90_15 < t787) = true := decide_eq_true c241
                                clear c241
                                replace H := bindS H
                                obtain ⟨⟨t828, t829, t830⟩, A242, H⟩ := H
                                (try dsimp only at H)
                                by_cases c243 : t830 = true
                                rotate_left
                                ·replace c243 := Bool.eq_false_iff.mpr c243
                                 subst c243
                                 rw [if_neg (show ¬ (false = true) by decide)] at H
                                 exact absurd H (by simp)
                                subst c243
                                rw [if_pos rfl] at H
                                have H' := aU H
                                clear H
                                go_wp2_with (first | ((with_reducible refine gcU 63 rfl ?_); refine goU (some 643) Tryz.func63 #[.int .i64 x89_15] ?_; (with_reducible refine (impl_BesideOf.calls k15 x89_15 t828 t829 true _ A242.out).mono ?_); rintro e w244 ⟨rfl, hb⟩; refine ⟨_, rfl, ?_⟩; replace BK760 := bbU BK760 hb; replace BK769 := bbU BK769 hb; replace BK773 := bbU BK773 hb; replace HB := bsU hb; (try clear hb)))
                                go_roundg k15
                                case measure => have := HJ3.out; have := HJ10.out; have := HJ21.out; have := HJ23.out; have := HJ78.out; have := HJ151.out; have := HJ153.out; have := HJ174.out; have := HJ181.out; have := HJ189.out; have := HJ196.out; have := HJ210.out; have := HJ219.out; have := HJ230.out; have := HK15.out; omega
                                case rel => exact ⟨(wrap64 (x88_15 + x89_15)), (t829), (wrap64 (x90_15 + 1)), eqU, eqU, eqU, H', ⟨by have := HJ3.out; have := HJ10.out; have := HJ21.out; have := HJ23.out; have := HJ78.out; have := HJ151.out; have := HJ153.out; have := HJ174.out; have := HJ181.out; have := HJ189.out; have := HJ196.out; have := HJ210.out; have := HJ219.out; have := HJ230.out; have := HK15.out; omega⟩, ⟨bkU⟩, ⟨bkU⟩, ⟨bkU⟩, ⟨hbU⟩⟩
                               rw [if_neg c241] at H
                               have c241b0 : decide (x90_15 < t787) = false := decide_eq_false c241
                               clear c241
                               replace H := ifS H
                               obtain ⟨c245, H⟩ := H
                               have c245b0 : (x88_15 == t789) = true := beq_iff_eq.mpr c245
                               have c245b1 : (x88_15 != t789) = false := bne_eq_false_iff_eq.mpr c245
                               clear c245
                               by_cases c246 : t787 = 20
                               rotate_left
                               ·rw [if_neg c246] at H
                                have c246b0 : (t787 == 20) = false := beq_eq_false_iff_ne.mpr c246
                                have c246b1 : (t787 != 20) = true := bne_iff_ne.mpr c246
                                obtain rfl := Option.some.inj H
                                go_wp2
                                go_ret
                                exact ⟨errU, hbU⟩
                               rw [if_pos c246] at H
                               have c246b0 : (t787 == 20) = true := beq_iff_eq.mpr c246
                               have c246b1 : (t787 != 20) = false := bne_eq_false_iff_eq.mpr c246
                               clear c246
                               replace H := ifS H
                               obtain ⟨c247, H⟩ := H
                               have c247b0 : (t789 == 210) = true := beq_iff_eq.mpr c247
                               have c247b1 : (t789 != 210) = false := bne_eq_false_iff_eq.mpr c247
                               clear c247
                               replace H := ifS H
                               obtain ⟨c248, H⟩ := H
                               have c248b0 : (t788 == 20) = true := beq_iff_eq.mpr c248
                               have c248b1 : (t788 != 20) = false := bne_eq_false_iff_eq.mpr c248
                               clear c248
                               obtain rfl := Option.some.inj H
                               go_wp2
                               go_ret
                               exact ⟨errU, hbU⟩
def laws_FnDartsPlayed.Pure : Prop := ∀ (l0 : List Int) (l1 : List Int), l0.length ≤ maxLen → l0.length * 1 ≤ 140737488351232 → (∀ x ∈ l0, (Lit.int .u8 x).wf = true) → l1.length ≤ maxLen → l1.length * 1 ≤ 140737488351232 → (∀ x ∈ l1, (Lit.int .u8 x).wf = true) → ∃ k, laws_FnDartsPlayed.f k l0 l1 = some true
theorem laws_FnDartsPlayed.walk (P : laws_FnDartsPlayed.Pure) (a0 : Option Addr) (len0 cap0 : Nat) (z0 : List Int) (a1 : Option Addr) (len1 cap1 : Nat) (z1 : List Int) (w : World) (w0 : (a0 = none ∧ len0 = 0 ∧ cap0 = 0 ∧ z0 = []) ∨ ∃ x, a0 = some x ∧ len0 ≤ cap0 ∧ cap0 ≤ maxLen ∧ z0.length = cap0 ∧ (∀ i, i < z0.length → w.cell? (x.add i) = some (.int .u8 (z0.getD i 0))) ∧ ∀ n ∈ z0, (Lit.int .u8 n).wf = true) (y0 : len0 * 1 ≤ 140737488351232) (w1 : (a1 = none ∧ len1 = 0 ∧ cap1 = 0 ∧ z1 = []) ∨ ∃ x, a1 = some x ∧ len1 ≤ cap1 ∧ cap1 ≤ maxLen ∧ z1.length = cap1 ∧ (∀ i, i < z1.length → w.cell? (x.add i) = some (.int .u8 (z1.getD i 0))) ∧ ∀ n ∈ z1, (Lit.int .u8 n).wf = true) (y1 : len1 * 1 ≤ 140737488351232) :
    Calls Tryz.prog 4 #[.slice a0 len0 cap0, .slice a1 len1 cap1] w fun e w' => e = .returned (.bool true) ∧ Below w.heap.size w w' := by
 obtain ⟨l0, rfl, hr0, hm0, hw0, hc0⟩ := ReadsInt.ofRowC w0
 obtain ⟨l1, rfl, hr1, hm1, hw1, hc1⟩ := ReadsInt.ofRowC w1
 obtain ⟨k, h⟩ := P l0 l1 hm0 y0 hw0 hm1 y1 hw1
 refine (laws_FnDartsPlayed.calls k _ _ l0 _ _ l1 true w (Kd.C_of_reads (d := (0 : Int)) (h1 := fun _ => rfl) hr0) hc0 (Kd.C_of_reads (d := (0 : Int)) (h1 := fun _ => rfl) hr1) hc1 h).mono ?_
 rintro e w' ⟨rfl, hd⟩
 exact ⟨rfl, hd⟩
end Go.Proofs.YtcmlmjgoidpabaaGreatDoor.MFnDartsPlayed

