/- Walks of the functions that the law reaches: each comes to just what the function that is told of it tells, for all arguments. -/
import Derived.Test.YtcmlmjgoidpabaaGreatDoorYMFnDartsPlayedx6
namespace Go.Proofs.YtcmlmjgoidpabaaGreatDoor.MFnDartsPlayed
open Go.RowKit Go.Proofs.YtcmlmjgoidpabaaGreatDoorW.PrintWords Go.Proofs.YtcmlmjgoidpabaaGreatDoorW.PrintLast Go.Proofs.YtcmlmjgoidpabaaGreatDoorW.PrintMore
attribute [local go_sem] max2_int min2_int max_two min_two max_three min_three max_four min_four
set_option linter.unusedVariables false
set_option linter.unusedSimpArgs false
mutual
def spec_daVisit.l0 : Nat → Int → List (S52) → Int → List (S52) → Int → Int → Option (Int × Bool × Bool)
 | 0, _, _, _, _, _, _ => none
 | k + 1, x0, x1, x7, x12, x13, x14 => if x14 < x13 then (if 0 ≤ x14 then (if x14 < (x12.length : Int) then (if (wrap64 (x7 - (wrap64 (((rd_T52 x12 x14).f0) * ((rd_T52 x12 x14).f1))))) < 0 then (spec_daVisit.j1 k x0 x1 (wrap64 (x7 - (wrap64 (((rd_T52 x12 x14).f0) * ((rd_T52 x12 x14).f1))))) (x14 == (wrap64 ((x1.length : Int) - 1))) x12 x13 x14 true) else (if (wrap64 (x7 - (wrap64 (((rd_T52 x12 x14).f0) * ((rd_T52 x12 x14).f1))))) = 1 then (spec_daVisit.j1 k x0 x1 (wrap64 (x7 - (wrap64 (((rd_T52 x12 x14).f0) * ((rd_T52 x12 x14).f1))))) (x14 == (wrap64 ((x1.length : Int) - 1))) x12 x13 x14 true) else (if (wrap64 (x7 - (wrap64 (((rd_T52 x12 x14).f0) * ((rd_T52 x12 x14).f1))))) = 0 then (spec_daVisit.j1 k x0 x1 (wrap64 (x7 - (wrap64 (((rd_T52 x12 x14).f0) * ((rd_T52 x12 x14).f1))))) (x14 == (wrap64 ((x1.length : Int) - 1))) x12 x13 x14 (((rd_T52 x12 x14).f1) != 2)) else (spec_daVisit.j1 k x0 x1 (wrap64 (x7 - (wrap64 (((rd_T52 x12 x14).f0) * ((rd_T52 x12 x14).f1))))) (x14 == (wrap64 ((x1.length : Int) - 1))) x12 x13 x14 false)))) else (none)) else (none)) else (some (x7, false, true))
def spec_daVisit.j1 : Nat → Int → List (S52) → Int → Bool → List (S52) → Int → Int → Bool → Option (Int × Bool × Bool)
 | 0, _, _, _, _, _, _, _, _ => none
 | k + 1, x0, x1, x7, x10, x12, x13, x14, x31 => if x31 = true then (some (x0, true, x10)) else (if x7 = 0 then (some (0, false, x10)) else (spec_daVisit.l0 k x0 x1 x7 x12 x13 (wrap64 (x14 + 1))))
end
def spec_daVisit.f (k : Nat) (a0 : Int) (l1 : List (S52)) : Option (Int × Bool × Bool) := spec_daVisit.l0 k a0 l1 a0 l1 (l1.length : Int) 0
theorem spec_daVisit.mono_l : ∀ k, (∀ y0 y1 y2 y3 y4 y5, LeO (spec_daVisit.l0 k y0 y1 y2 y3 y4 y5) (spec_daVisit.l0 (k + 1) y0 y1 y2 y3 y4 y5)) ∧ (∀ y0 y1 y2 y3 y4 y5 y6 y7, LeO (spec_daVisit.j1 k y0 y1 y2 y3 y4 y5 y6 y7) (spec_daVisit.j1 (k + 1) y0 y1 y2 y3 y4 y5 y6 y7))
 | 0 => ⟨fun _ _ _ _ _ _ r h => by simp [spec_daVisit.l0] at h, fun _ _ _ _ _ _ _ _ r h => by simp [spec_daVisit.j1] at h⟩
 | k + 1 => by
  obtain ⟨ih0, ih1⟩ := spec_daVisit.mono_l k
  refine ⟨?_, ?_⟩
  all_goals intros
  all_goals first | unfold spec_daVisit.l0 | unfold spec_daVisit.j1
  all_goals repeat' first
  | (with_reducible exact ih0 _ _ _ _ _ _)
  | (with_reducible exact ih1 _ _ _ _ _ _ _ _)
  | (with_reducible exact LeO.refl _)
  | (with_reducible exact LeO.none _)
  | (with_reducible refine LeO.ite ?_ ?_)
  | (with_reducible refine LeO.bind ?_ (fun _ => ?_))
theorem spec_daVisit.mono : ∀ a0 a1 k, LeO (spec_daVisit.f k a0 a1) (spec_daVisit.f (k + 1) a0 a1) := by
 intro a0 a1 k
 obtain ⟨ih0, ih1⟩ := spec_daVisit.mono_l k
 unfold spec_daVisit.f
 repeat' first
   | (with_reducible exact ih0 _ _ _ _ _ _)
   | (with_reducible exact ih1 _ _ _ _ _ _ _ _)
   | (with_reducible exact LeO.refl _)
   | (with_reducible exact LeO.none _)
   | (with_reducible refine LeO.ite ?_ ?_)
   | (with_reducible refine LeO.bind ?_ (fun _ => ?_))
set_option maxHeartbeats 8000000 in
set_option maxRecDepth 100000 in
theorem spec_daVisit.calls (k : Nat) (a0 : Int) (A1 : Option Addr) (c1 : Nat) (l1 : List (S52)) (r1 : Int) (r2 : Bool) (r3 : Bool) (w : World) (hr1 : Kd.C k52 w A1 l1.length l1) (hc1 : l1.length ≤ c1) (h : spec_daVisit.f k a0 l1 = some (r1, r2, r3)) :
  Calls Tryz.prog 103 #[.int .i64 a0, .slice A1 l1.length c1] w fun e w' => e = .returned (.tuple #[.int .i64 r1, .bool r2, .bool r3]) ∧ Below w.heap.size w w' := by
 have hu52 := Tryz.underlying52
 have HR1 := aU hr1
 have HC1 := aU hc1
 clear hr1 hc1
 have HB := aU (Below.refl w.heap.size w)
 have H : (spec_daVisit.l0 k a0 l1 a0 l1 (l1.length : Int) 0) = some (r1, r2, r3) := h
 clear h
 have H' := aU H
 clear H
 go_enter Tryz.func103, Tryz.ntmps103
 go_wp2
 go_loopg [7, 14] k (fun kq v7 v14 w' => ∃ (x7_1 : Int) (x14_1 : Int), v7 = .int .i64 x7_1 ∧ v14 = .int .i64 x14_1 ∧ Aside0 (spec_daVisit.l0 kq a0 l1 x7_1 l1 (l1.length : Int) x14_1 = some (r1, r2, r3)) ∧ Aside0 (kq ≤ k) ∧ Aside0 (Below w.heap.size w w'))
 case atStart => exact ⟨(a0), (0), eqU, eqU, H', ⟨Nat.le_refl _⟩, ⟨hbU⟩⟩
 case round =>
  clear H'
  obtain ⟨x7_1, x14_1, rfl, rfl, HA, HK1, HB⟩ := hrel
  cases gk with
  | zero => exact absurd HA.out (by simp [spec_daVisit.l0])
  | succ k1 =>
   have H := HA.out
   clear HA
   simp only [spec_daVisit.l0] at H
   by_cases c3 : x14_1 < (l1.length : Int)
   ·rw [if_pos c3] at H
    have c3b0 : decide (x14_1 < (l1.length : Int)) = true := decide_eq_true c3
    clear c3
    replace H := ifS H
    obtain ⟨c4, H⟩ := H
    have c4b0 : decide (0 ≤ x14_1) = true := decide_eq_true c4
    clear c4
    replace H := ifS H
    obtain ⟨c5, H⟩ := H
    have c5b0 : decide (x14_1 < (l1.length : Int)) = true := decide_eq_true c5
    clear c5
    have HC6 := aU H
    clear H
    have p284 : 0 ≤ (x14_1 : Int) := dU
    have q284 : x14_1 < (l1.length : Int) := dU
    obtain ⟨ad284, e284, hx284_0, hx284_1⟩ := at_T52 HR1.out x14_1 p284 q284
    cases e284
    replace hx284_0 := (HB.out.cell (World.block_lt_of_cell? w _ hx284_0)).trans hx284_0
    replace hx284_1 := (HB.out.cell (World.block_lt_of_cell? w _ hx284_1)).trans hx284_1
    replace p284 := eq_true p284
    replace q284 := eq_true q284
    go_upto_region 7 with (first | ((with_reducible refine gdU 9 rfl ?_); refine bxU (cs := #[.int .i64 0, .int .i64 0]) (t := 52) ?_; intro gb285 hg w7 hbox hb; have BK285 := aU (hbox); have GW285 := geU hg; have GE285 := geU hg; replace HB := bsU hb; clear hb hbox hg; obtain ⟨hcz8_0, hcz8_1, hfz8_0, hfz8_1⟩ := b2U BK285))
    (try simp only [Act.put, List.setIfInBounds_toArray, List.set_cons_zero, List.set_cons_succ])
    go_cut [31] (fun v31 wc => ∃ (kq : Nat) (x31_5 : Bool), v31 = .bool x31_5 ∧ Aside0 (spec_daVisit.j1 kq a0 l1 (wrap64 (x7_1 - (wrap64 (((rd_T52 l1 x14_1).f0) * ((rd_T52 l1 x14_1).f1))))) (x14_1 == (wrap64 ((l1.length : Int) - 1))) l1 (l1.length : Int) x14_1 x31_5 = some (r1, r2, r3)) ∧ Aside0 (kq ≤ k1) ∧ Aside0 (wc.heap[gb285]? = some (.cells #[.int .i64 ((rd_T52 l1 x14_1).f0), .int .i64 ((rd_T52 l1 x14_1).f1)] 52 (0, 0))) ∧ Aside0 (Below w.heap.size w wc))
    case first =>
     have H := HC6.out
     clear HC6
     by_cases c9 : (wrap64 (x7_1 - (wrap64 (((rd_T52 l1 x14_1).f0) * ((rd_T52 l1 x14_1).f1))))) < 0
     ·rw [if_pos c9] at H
      have c9b0 : decide ((wrap64 (x7_1 - (wrap64 (((rd_T52 l1 x14_1).f0) * ((rd_T52 l1 x14_1).f1))))) < 0) = true := decide_eq_true c9
      clear c9
      (first | rw [c9b0] | (simp only [i64_w, i32_w]; rw [c9b0]) | skip)
      have H' := aU H
      clear H
      go_wp2
      go_meet
      case rel => exact ⟨_, (true), eqU, H', ⟨by have := HK1.out; first | omega | exact Nat.le_refl _⟩, ⟨bkU⟩, ⟨hbU⟩⟩
     ·rw [if_neg c9] at H
      have c9b0 : decide ((wrap64 (x7_1 - (wrap64 (((rd_T52 l1 x14_1).f0) * ((rd_T52 l1 x14_1).f1))))) < 0) = false := decide_eq_false c9
      clear c9
      (first | rw [c9b0] | (simp only [i64_w, i32_w]; rw [c9b0]) | skip)
      by_cases c10 : (wrap64 (x7_1 - (wrap64 (((rd_T52 l1 x14_1).f0) * ((rd_T52 l1 x14_1).f1))))) = 1
      ·rw [if_pos c10] at H
       have c10b0 : ((wrap64 (x7_1 - (wrap64 (((rd_T52 l1 x14_1).f0) * ((rd_T52 l1 x14_1).f1))))) == 1) = true := beq_iff_eq.mpr c10
       have c10b1 : ((wrap64 (x7_1 - (wrap64 (((rd_T52 l1 x14_1).f0) * ((rd_T52 l1 x14_1).f1))))) != 1) = false := bne_eq_false_iff_eq.mpr c10
       clear c10
       have H' := aU H
       clear H
       go_wp2
       go_meet
       case rel => exact ⟨_, (true), eqU, H', ⟨by have := HK1.out; first | omega | exact Nat.le_refl _⟩, ⟨bkU⟩, ⟨hbU⟩⟩
      ·rw [if_neg c10] at H
       have c10b0 : ((wrap64 (x7_1 - (wrap64 (((rd_T52 l1 x14_1).f0) * ((rd_T52 l1 x14_1).f1))))) == 1) = false := beq_eq_false_iff_ne.mpr c10
       have c10b1 : ((wrap64 (x7_1 - (wrap64 (((rd_T52 l1 x14_1).f0) * ((rd_T52 l1 x14_1).f1))))) != 1) = true := bne_iff_ne.mpr c10
       by_cases c11 : (wrap64 (x7_1 - (wrap64 (((rd_T52 l1 x14_1).f0) * ((rd_T52 l1 x14_1).f1))))) = 0
       ·rw [if_pos c11] at H
        have c11b0 : ((wrap64 (x7_1 - (wrap64 (((rd_T52 l1 x14_1).f0) * ((rd_T52 l1 x14_1).f1))))) == 0) = true := beq_iff_eq.mpr c11
        have c11b1 : ((wrap64 (x7_1 - (wrap64 (((rd_T52 l1 x14_1).f0) * ((rd_T52 l1 x14_1).f1))))) != 0) = false := bne_eq_false_iff_eq.mpr c11
        clear c11
        have H' := aU H
        clear H
        have hcz12_0 : w7.cell? ⟨gb285, 0, none⟩ = some (.int .i64 0) := (blk_cell BK285.out 0).trans rfl
        have hcz12_1 : w7.cell? ⟨gb285, 1, none⟩ = some (.int .i64 0) := (blk_cell BK285.out 1).trans rfl
        have hfz12_0 := blk_frozen BK285.out 0
        have hfz12_1 := blk_frozen BK285.out 1
        go_wp2
        go_meet
        case rel => exact ⟨_, ((((rd_T52 l1 x14_1).f1) != 2)), eqU, H', ⟨by have := HK1.out; first | omega | exact Nat.le_refl _⟩, ⟨bkU⟩, ⟨hbU⟩⟩
       ·rw [if_neg c11] at H
        have c11b0 : ((wrap64 (x7_1 - (wrap64 (((rd_T52 l1 x14_1).f0) * ((rd_T52 l1 x14_1).f1))))) == 0) = false := beq_eq_false_iff_ne.mpr c11
        have c11b1 : ((wrap64 (x7_1 - (wrap64 (((rd_T52 l1 x14_1).f0) * ((rd_T52 l1 x14_1).f1))))) != 0) = true := bne_iff_ne.mpr c11
        have H' := aU H
        clear H
        go_wp2
        go_meet
        case rel => exact ⟨_, (false), eqU, H', ⟨by have := HK1.out; first | omega | exact Nat.le_refl _⟩, ⟨bkU⟩, ⟨hbU⟩⟩
    case rest =>
     clear HC6
     (try clear c3b0); (try clear c4b0); (try clear c5b0); (try clear hcz8_0); (try clear hcz8_1); (try clear hfz8_0); (try clear hfz8_1); (try clear hx284_0); (try clear hx284_1); (try clear p284); (try clear q284)
     obtain ⟨kq, x31_5, rfl, HA, HJ5, BK285, HB⟩ := hcut
     cases kq with
     | zero => exact absurd HA.out (by simp [spec_daVisit.j1])
     | succ kj5 =>
      have H := HA.out
      clear HA
      simp only [spec_daVisit.j1] at H
      by_cases c13 : x31_5 = true
      ·subst c13
       rw [if_pos rfl] at H
       simp only [Option.some.injEq, Prod.mk.injEq] at H
       obtain ⟨rfl, rfl, rfl⟩ := H
       go_wp2
       go_ret3
       exact ⟨errU, hbU⟩
      ·replace c13 := Bool.eq_false_iff.mpr c13
       subst c13
       rw [if_neg (show ¬ (false = true) by decide)] at H
       by_cases c14 : (wrap64 (x7_1 - (wrap64 (((rd_T52 l1 x14_1).f0) * ((rd_T52 l1 x14_1).f1))))) = 0
       ·rw [if_pos c14] at H
        have c14b0 : ((wrap64 (x7_1 - (wrap64 (((rd_T52 l1 x14_1).f0) * ((rd_T52 l1 x14_1).f1))))) == 0) = true := beq_iff_eq.mpr c14
        have c14b1 : ((wrap64 (x7_1 - (wrap64 (((rd_T52 l1 x14_1).f0) * ((rd_T52 l1 x14_1).f1))))) != 0) = false := bne_eq_false_iff_eq.mpr c14
        clear c14
        simp only [Option.some.injEq, Prod.mk.injEq] at H
        obtain ⟨rfl, rfl, rfl⟩ := H
        go_wp2
        go_ret3
        exact ⟨errU, hbU⟩
       ·rw [if_neg c14] at H
        have c14b0 : ((wrap64 (x7_1 - (wrap64 (((rd_T52 l1 x14_1).f0) * ((rd_T52 l1 x14_1).f1))))) == 0) = false := beq_eq_false_iff_ne.mpr c14
        have c14b1 : ((wrap64 (x7_1 - (wrap64 (((rd_T52 l1 x14_1).f0) * ((rd_T52 l1 x14_1).f1))))) != 0) = true := bne_iff_ne.mpr c14
        have H' := aU H
        clear H
        go_wp2
        go_roundg kj5
        case measure => have := HK1.out; have := HJ5.out; omega
        case rel => exact ⟨((wrap64 (x7_1 - (wrap64 (((rd_T52 l1 x14_1).f0) * ((rd_T52 l1 x14_1).f1)))))), (wrap64 (x14_1 + 1)), eqU, eqU, H', ⟨by have := HK1.out; have := HJ5.out; omega⟩, ⟨hbU⟩⟩
   ·rw [if_neg c3] at H
    have c3b0 : decide (x14_1 < (l1.length : Int)) = false := decide_eq_false c3
    clear c3
    simp only [Option.some.injEq, Prod.mk.injEq] at H
    obtain ⟨rfl, rfl, rfl⟩ := H
    go_wp2
    go_ret3
    exact ⟨errU, hbU⟩
def spec_LeftAfter.f (k : Nat) (a0 : Int) (l1 : List (S52)) : Option (Int × Bool) := (spec_daAsked.f k a0 l1).bind fun t286 => (if t286 = true then ((spec_daVisit.f k a0 l1).bind fun bt287 => (if bt287.2.2 = true then (some (bt287.1, true)) else (some (0, false)))) else (some (0, false)))
theorem spec_LeftAfter.mono : ∀ a0 a1 k, LeO (spec_LeftAfter.f k a0 a1) (spec_LeftAfter.f (k + 1) a0 a1) := by
 intro a0 a1 k
 unfold spec_LeftAfter.f
 repeat' first
   | (with_reducible exact spec_daAsked.mono _ _ _)
   | (with_reducible exact spec_daVisit.mono _ _ _)
   | (with_reducible exact LeO.refl _)
   | (with_reducible exact LeO.none _)
   | (with_reducible refine LeO.ite ?_ ?_)
   | (with_reducible refine LeO.bind ?_ (fun _ => ?_))
set_option maxHeartbeats 8000000 in
set_option maxRecDepth 100000 in
theorem spec_LeftAfter.calls (k : Nat) (a0 : Int) (A1 : Option Addr) (c1 : Nat) (l1 : List (S52)) (r1 : Int) (r2 : Bool) (w : World) (hr1 : Kd.C k52 w A1 l1.length l1) (hc1 : l1.length ≤ c1) (h : spec_LeftAfter.f k a0 l1 = some (r1, r2)) :
  Calls Tryz.prog 41 #[.int .i64 a0, .slice A1 l1.length c1] w fun e w' => e = .returned (.tuple #[.int .i64 r1, .bool r2]) ∧ Below w.heap.size w w' := by
 have HR1 := aU hr1
 have HC1 := aU hc1
 clear hr1 hc1
 have HB := aU (Below.refl w.heap.size w)
 have H : ((spec_daAsked.f k a0 l1).bind fun t286 => (if t286 = true then ((spec_daVisit.f k a0 l1).bind fun bt287 => (if bt287.2.2 = true then (some (bt287.1, true)) else (some (0, false)))) else (some (0, false)))) = some (r1, r2) := h
 clear h
 replace H := bindS H
 obtain ⟨t286, A3, H⟩ := H
 (try dsimp only at H)
 by_cases c4 : t286 = true
 ·subst c4
  rw [if_pos rfl] at H
  replace H := bindS H
  obtain ⟨⟨t287, t288, t289⟩, A5, H⟩ := H
  (try dsimp only at H)
  by_cases c6 : t289 = true
  ·subst c6
   rw [if_pos rfl] at H
   simp only [Option.some.injEq, Prod.mk.injEq] at H
   obtain ⟨rfl, rfl⟩ := H
   go_enter Tryz.func41, Tryz.ntmps41
   go_wp2_with (first | ((with_reducible refine gcU 102 rfl ?_); refine goU (some 11) Tryz.func102 #[.int .i64 a0, .slice A1 l1.length c1] ?_; (with_reducible refine (spec_daAsked.calls k a0 _ _ l1 true _ ?side1 ?side2 A3.out).mono ?_); (case side1 => repeat (first | exact HR1.out | (with_reducible refine Kd.C_alloc ?_ _) | (with_reducible refine Kd.C_drewN ?_ _) | (with_reducible refine Kd.C_drew ?_))); (case side2 => exact HC1.out); rintro e w7 ⟨rfl, hb⟩; refine ⟨_, rfl, ?_⟩; replace HB := bsU hb; (try clear hb)) | ((with_reducible refine gcU 103 rfl ?_); refine goU (some 16) Tryz.func103 #[.int .i64 a0, .slice A1 l1.length c1] ?_; (with_reducible refine (spec_daVisit.calls k a0 _ _ l1 t287 t288 true _ ?side1 ?side2 A5.out).mono ?_); (case side1 => repeat (first | exact (Kd.C_below HR1.out HB.out) | (with_reducible refine Kd.C_alloc ?_ _) | (with_reducible refine Kd.C_drewN ?_ _) | (with_reducible refine Kd.C_drew ?_))); (case side2 => exact HC1.out); rintro e w8 ⟨rfl, hb⟩; refine ⟨_, rfl, ?_⟩; replace HB := bsU hb; (try clear hb)))
   go_ret2
   exact ⟨errU, hbU⟩
  ·replace c6 := Bool.eq_false_iff.mpr c6
   subst c6
   rw [if_neg (show ¬ (false = true) by decide)] at H
   simp only [Option.some.injEq, Prod.mk.injEq] at H
   obtain ⟨rfl, rfl⟩ := H
   go_enter Tryz.func41, Tryz.ntmps41
   go_wp2_with (first | ((with_reducible refine gcU 102 rfl ?_); refine goU (some 11) Tryz.func102 #[.int .i64 a0, .slice A1 l1.length c1] ?_; (with_reducible refine (spec_daAsked.calls k a0 _ _ l1 true _ ?side1 ?side2 A3.out).mono ?_); (case side1 => repeat (first | exact HR1.out | (with_reducible refine Kd.C_alloc ?_ _) | (with_reducible refine Kd.C_drewN ?_ _) | (with_reducible refine Kd.C_drew ?_))); (case side2 => exact HC1.out); rintro e w9 ⟨rfl, hb⟩; refine ⟨_, rfl, ?_⟩; replace HB := bsU hb; (try clear hb)) | ((with_reducible refine gcU 103 rfl ?_); refine goU (some 16) Tryz.func103 #[.int .i64 a0, .slice A1 l1.length c1] ?_; (with_reducible refine (spec_daVisit.calls k a0 _ _ l1 t287 t288 false _ ?side1 ?side2 A5.out).mono ?_); (case side1 => repeat (first | exact (Kd.C_below HR1.out HB.out) | (with_reducible refine Kd.C_alloc ?_ _) | (with_reducible refine Kd.C_drewN ?_ _) | (with_reducible refine Kd.C_drew ?_))); (case side2 => exact HC1.out); rintro e w10 ⟨rfl, hb⟩; refine ⟨_, rfl, ?_⟩; replace HB := bsU hb; (try clear hb)))
   go_ret2
   exact ⟨errU, hbU⟩
 ·replace c4 := Bool.eq_false_iff.mpr c4
  subst c4
  rw [if_neg (show ¬ (false = true) by decide)] at H
  simp only [Option.some.injEq, Prod.mk.injEq] at H
  obtain ⟨rfl, rfl⟩ := H
  go_enter Tryz.func41, Tryz.ntmps41
  go_wp2_with (first | ((with_reducible refine gcU 102 rfl ?_); refine goU (some 11) Tryz.func102 #[.int .i64 a0, .slice A1 l1.length c1] ?_; (with_reducible refine (spec_daAsked.calls k a0 _ _ l1 false _ ?side1 ?side2 A3.out).mono ?_); (case side1 => repeat (first | exact HR1.out | (with_reducible refine Kd.C_alloc ?_ _) | (with_reducible refine Kd.C_drewN ?_ _) | (with_reducible refine Kd.C_drew ?_))); (case side2 => exact HC1.out); rintro e w11 ⟨rfl, hb⟩; refine ⟨_, rfl, ?_⟩; replace HB := bsU hb; (try clear hb)))
  go_ret2
  exact ⟨errU, hbU⟩
def impl_IsBust.f (k : Nat) (a0 : Int) (l1 : List (S52)) : Option (Bool × Bool) := (impl_visitLeaves.f k a0 l1).bind fun bt290 => (some (bt290.2.1, bt290.2.2))
theorem impl_IsBust.mono : ∀ a0 a1 k, LeO (impl_IsBust.f k a0 a1) (impl_IsBust.f (k + 1) a0 a1) := by
 intro a0 a1 k
 unfold impl_IsBust.f
 repeat' first
   | (with_reducible exact impl_visitLeaves.mono _ _ _)
   | (with_reducible exact LeO.refl _)
   | (with_reducible exact LeO.none _)
   | (with_reducible refine LeO.ite ?_ ?_)
   | (with_reducible refine LeO.bind ?_ (fun _ => ?_))
set_option maxHeartbeats 8000000 in
set_option maxRecDepth 100000 in
theorem impl_IsBust.calls (k : Nat) (a0 : Int) (A1 : Option Addr) (c1 : Nat) (l1 : List (S52)) (r1 : Bool) (r2 : Bool) (w : World) (hr1 : Kd.C k52 w A1 l1.length l1) (hc1 : l1.length ≤ c1) (h : impl_IsBust.f k a0 l1 = some (r1, r2)) :
  Calls Tryz.prog 42 #[.int .i64 a0, .slice A1 l1.length c1] w fun e w' => e = .returned (.tuple #[.bool r1, .bool r2]) ∧ Below w.heap.size w w' := by
 have HR1 := aU hr1
 have HC1 := aU hc1
 clear hr1 hc1
 have HB := aU (Below.refl w.heap.size w)
 have H : ((impl_visitLeaves.f k a0 l1).bind fun bt290 => (some (bt290.2.1, bt290.2.2))) = some (r1, r2) := h
 clear h
 replace H := bindS H
 obtain ⟨⟨t290, t291, t292⟩, A3, H⟩ := H
 (try dsimp only at H)
 simp only [Option.some.injEq, Prod.mk.injEq] at H
 obtain ⟨rfl, rfl⟩ := H
 go_enter Tryz.func42, Tryz.ntmps42
 go_wp2_with (first | ((with_reducible refine gcU 101 rfl ?_); refine goU (some 12) Tryz.func101 #[.int .i64 a0, .slice A1 l1.length c1] ?_; (with_reducible refine (impl_visitLeaves.calls k a0 _ _ l1 t290 t291 t292 _ ?side1 ?side2 A3.out).mono ?_); (case side1 => repeat (first | exact HR1.out | (with_reducible refine Kd.C_alloc ?_ _) | (with_reducible refine Kd.C_drewN ?_ _) | (with_reducible refine Kd.C_drew ?_))); (case side2 => exact HC1.out); rintro e w4 ⟨rfl, hb⟩; refine ⟨_, rfl, ?_⟩; replace HB := bsU hb; (try clear hb)))
 go_ret2
 exact ⟨errU, hbU⟩
def spec_IsBust.f (k : Nat) (a0 : Int) (l1 : List (S52)) : Option (Bool × Bool) := (spec_daAsked.f k a0 l1).bind fun t293 => (if t293 = true then ((spec_daVisit.f k a0 l1).bind fun bt294 => (if bt294.2.2 = true then (some (bt294.2.1, true)) else (some (false, false)))) else (some (false, false)))
theorem spec_IsBust.mono : ∀ a0 a1 k, LeO (spec_IsBust.f k a0 a1) (spec_IsBust.f (k + 1) a0 a1) := by
 intro a0 a1 k
 unfold spec_IsBust.f
 repeat' first
   | (with_reducible exact spec_daAsked.mono _ _ _)
   | (with_reducible exact spec_daVisit.mono _ _ _)
   | (with_reducible exact LeO.refl _)
   | (with_reducible exact LeO.none _)
   | (with_reducible refine LeO.ite ?_ ?_)
   | (with_reducible refine LeO.bind ?_ (fun _ => ?_))
set_option maxHeartbeats 8000000 in
set_option maxRecDepth 100000 in
theorem spec_IsBust.calls (k : Nat) (a0 : Int) (A1 : Option Addr) (c1 : Nat) (l1 : List (S52)) (r1 : Bool) (r2 : Bool) (w : World) (hr1 : Kd.C k52 w A1 l1.length l1) (hc1 : l1.length ≤ c1) (h : spec_IsBust.f k a0 l1 = some (r1, r2)) :
  Calls Tryz.prog 43 #[.int .i64 a0, .slice A1 l1.length c1] w fun e w' => e = .returned (.tuple #[.bool r1, .bool r2]) ∧ Below w.heap.size w w' := by
 have HR1 := aU hr1
 have HC1 := aU hc1
 clear hr1 hc1
 have HB := aU (Below.refl w.heap.size w)
 have H : ((spec_daAsked.f k a0 l1).bind fun t293 => (if t293 = true then ((spec_daVisit.f k a0 l1).bind fun bt294 => (if bt294.2.2 = true then (some (bt294.2.1, true)) else (some (false, false)))) else (some (false, false)))) = some (r1, r2) := h
 clear h
 replace H := bindS H
 obtain ⟨t293, A3, H⟩ := H
 (try dsimp only at H)
 by_cases c4 : t293 = true
 ·subst c4
  rw [if_pos rfl] at H
  replace H := bindS H
  obtain ⟨⟨t294, t295, t296⟩, A5, H⟩ := H
  (try dsimp only at H)
  by_cases c6 : t296 = true
  ·subst c6
   rw [if_pos rfl] at H
   simp only [Option.some.injEq, Prod.mk.injEq] at H
   obtain ⟨rfl, rfl⟩ := H
   go_enter Tryz.func43, Tryz.ntmps43
   go_wp2_with (first | ((with_reducible refine gcU 102 rfl ?_); refine goU (some 11) Tryz.func102 #[.int .i64 a0, .slice A1 l1.length c1] ?_; (with_reducible refine (spec_daAsked.calls k a0 _ _ l1 true _ ?side1 ?side2 A3.out).mono ?_); (case side1 => repeat (first | exact HR1.out | (with_reducible refine Kd.C_alloc ?_ _) | (with_reducible refine Kd.C_drewN ?_ _) | (with_reducible refine Kd.C_drew ?_))); (case side2 => exact HC1.out); rintro e w7 ⟨rfl, hb⟩; refine ⟨_, rfl, ?_⟩; replace HB := bsU hb; (try clear hb)) | ((with_reducible refine gcU 103 rfl ?_); refine goU (some 16) Tryz.func103 #[.int .i64 a0, .slice A1 l1.length c1] ?_; (with_reducible refine (spec_daVisit.calls k a0 _ _ l1 t294 t295 true _ ?side1 ?side2 A5.out).mono ?_); (case side1 => repeat (first | exact (Kd.C_below HR1.out HB.out) | (with_reducible refine Kd.C_alloc ?_ _) | (with_reducible refine Kd.C_drewN ?_ _) | (with_reducible refine Kd.C_drew ?_))); (case side2 => exact HC1.out); rintro e w8 ⟨rfl, hb⟩; refine ⟨_, rfl, ?_⟩; replace HB := bsU hb; (try clear hb)))
   go_ret2
   exact ⟨errU, hbU⟩
  ·replace c6 := Bool.eq_false_iff.mpr c6
   subst c6
   rw [if_neg (show ¬ (false = true) by decide)] at H
   simp only [Option.some.injEq, Prod.mk.injEq] at H
   obtain ⟨rfl, rfl⟩ := H
   go_enter Tryz.func43, Tryz.ntmps43
   go_wp2_with (first | ((with_reducible refine gcU 102 rfl ?_); refine goU (some 11) Tryz.func102 #[.int .i64 a0, .slice A1 l1.length c1] ?_; (with_reducible refine (spec_daAsked.calls k a0 _ _ l1 true _ ?side1 ?side2 A3.out).mono ?_); (case side1 => repeat (first | exact HR1.out | (with_reducible refine Kd.C_alloc ?_ _) | (with_reducible refine Kd.C_drewN ?_ _) | (with_reducible refine Kd.C_drew ?_))); (case side2 => exact HC1.out); rintro e w9 ⟨rfl, hb⟩; refine ⟨_, rfl, ?_⟩; replace HB := bsU hb; (try clear hb)) | ((with_reducible refine gcU 103 rfl ?_); refine goU (some 16) Tryz.func103 #[.int .i64 a0, .slice A1 l1.length c1] ?_; (with_reducible refine (spec_daVisit.calls k a0 _ _ l1 t294 t295 false _ ?side1 ?side2 A5.out).mono ?_); (case side1 => repeat (first | exact (Kd.C_below HR1.out HB.out) | (with_reducible refine Kd.C_alloc ?_ _) | (with_reducible refine Kd.C_drewN ?_ _) | (with_reducible refine Kd.C_drew ?_))); (case side2 => exact HC1.out); rintro e w10 ⟨rfl, hb⟩; refine ⟨_, rfl, ?_⟩; replace HB := bsU hb; (try clear hb)))
   go_ret2
   exact ⟨errU, hbU⟩
 ·replace c4 := Bool.eq_false_iff.mpr c4
  subst c4
  rw [if_neg (show ¬ (false = true) by decide)] at H
  simp only [Option.some.injEq, Prod.mk.injEq] at H
  obtain ⟨rfl, rfl⟩ := H
  go_enter Tryz.func43, Tryz.ntmps43
  go_wp2_with (first | ((with_reducible refine gcU 102 rfl ?_); refine goU (some 11) Tryz.func102 #[.int .i64 a0, .slice A1 l1.length c1] ?_; (with_reducible refine (spec_daAsked.calls k a0 _ _ l1 false _ ?side1 ?side2 A3.out).mono ?_); (case side1 => repeat (first | exact HR1.out | (with_reducible refine Kd.C_alloc ?_ _) | (with_reducible refine Kd.C_drewN ?_ _) | (with_reducible refine Kd.C_drew ?_))); (case side2 => exact HC1.out); rintro e w11 ⟨rfl, hb⟩; refine ⟨_, rfl, ?_⟩; replace HB := bsU hb; (try clear hb)))
  go_ret2
  exact ⟨errU, hbU⟩
def laws_bAll.l0 : Nat → Int → List (S52) → Int → Int → Option (Int × Bool)
 | 0, _, _, _, _ => none
 | k + 1, x4, x7, x8, x9 => if x9 < x8 then (if 0 ≤ x9 then (if x9 < (x7.length : Int) then ((impl_IsDart.f ((rd_T52 x7 x9).f0) ((rd_T52 x7 x9).f1)).bind fun t299 => (if t299 = true then (laws_bAll.l0 k (wrap64 (x4 + (wrap64 (((rd_T52 x7 x9).f0) * ((rd_T52 x7 x9).f1))))) x7 x8 (wrap64 (x9 + 1))) else (some (0, false)))) else (none)) else (none)) else (some (x4, true))
def laws_bAll.f (k : Nat) (l0 : List (S52)) : Option (Int × Bool) := laws_bAll.l0 k 0 l0 (l0.length : Int) 0
theorem laws_bAll.mono_l : ∀ k, (∀ y0 y1 y2 y3, LeO (laws_bAll.l0 k y0 y1 y2 y3) (laws_bAll.l0 (k + 1) y0 y1 y2 y3))
 | 0 => fun _ _ _ _ r h => by simp [laws_bAll.l0] at h
 | k + 1 => by
  have ih0 := laws_bAll.mono_l k
  all_goals intros
  all_goals first | unfold laws_bAll.l0
  all_goals repeat' first
  | (with_reducible exact ih0 _ _ _ _)
  | (with_reducible exact LeO.refl _)
  | (with_reducible exact LeO.none _)
  | (with_reducible refine LeO.ite ?_ ?_)
  | (with_reducible refine LeO.bind ?_ (fun _ => ?_))
theorem laws_bAll.mono : ∀ a0 k, LeO (laws_bAll.f k a0) (laws_bAll.f (k + 1) a0) := by
 intro a0 k
 have ih0 := laws_bAll.mono_l k
 unfold laws_bAll.f
 repeat' first
   | (with_reducible exact ih0 _ _ _ _)
   | (with_reducible exact LeO.refl _)
   | (with_reducible exact LeO.none _)
   | (with_reducible refine LeO.ite ?_ ?_)
   | (with_reducible refine LeO.bind ?_ (fun _ => ?_))
set_option maxHeartbeats 8000000 in
set_option maxRecDepth 100000 in
theorem laws_bAll.calls (k : Nat) (A0 : Option Addr) (c0 : Nat) (l0 : List (S52)) (r1 : Int) (r2 : Bool) (w : World) (hr0 : Kd.C k52 w A0 l0.length l0) (hc0 : l0.length ≤ c0) (h : laws_bAll.f k l0 = some (r1, r2)) :
  Calls Tryz.prog 44 #[.slice A0 l0.length c0] w fun e w' => e = .returned (.tuple #[.int .i64 r1, .bool r2]) ∧ Below w.heap.size w w' := by
 have hu52 := Tryz.underlying52
 have HR0 := aU hr0
 have HC0 := aU hc0
 clear hr0 hc0
 have HB := aU (Below.refl w.heap.size w)
 have H : (laws_bAll.l0 k 0 l0 (l0.length : Int) 0) = some (r1, r2) := h
 clear h
 have H' := aU H
 clear H
 go_enter Tryz.func44, Tryz.ntmps44
 go_wp2
 go_loopg [4, 9] k (fun kq v4 v9 w' => ∃ (x4_1 : Int) (x9_1 : Int), v4 = .int .i64 x4_1 ∧ v9 = .int .i64 x9_1 ∧ Aside0 (laws_bAll.l0 kq x4_1 l0 (l0.length : Int) x9_1 = some (r1, r2)) ∧ Aside0 (kq ≤ k) ∧ Aside0 (Below w.heap.size w w'))
 case atStart => exact ⟨(0), (0), eqU, eqU, H', ⟨Nat.le_refl _⟩, ⟨hbU⟩⟩
 case round =>
  clear H'
  obtain ⟨x4_1, x9_1, rfl, rfl, HA, HK1, HB⟩ := hrel
  cases gk with
  | zero => exact absurd HA.out (by simp [laws_bAll.l0])
  | succ k1 =>
   have H := HA.out
   clear HA
   simp only [laws_bAll.l0] at H
   by_cases c2 : x9_1 < (l0.length : Int)
   ·rw [if_pos c2] at H
    have c2b0 : decide (x9_1 < (l0.length : Int)) = true := decide_eq_true c2
    clear c2
    replace H := ifS H
    obtain ⟨c3, H⟩ := H
    have c3b0 : decide (0 ≤ x9_1) = true := decide_eq_true c3
    clear c3
    replace H := ifS H
    obtain ⟨c4, H⟩ := H
    have c4b0 : decide (x9_1 < (l0.length : Int)) = true := decide_eq_true c4
    clear c4
    replace H := bindS H
    obtain ⟨t299, A5, H⟩ := H
    (try dsimp only at H)
    by_cases c6 : t299 = true
    ·subst c6
     rw [if_pos rfl] at H
     have H' := aU H
     clear H
     have p297 : 0 ≤ (x9_1 : Int) := dU
     have q297 : x9_1 < (l0.length : Int) := dU
     obtain ⟨ad297, e297, hx297_0, hx297_1⟩ := at_T52 HR0.out x9_1 p297 q297
     cases e297
     replace hx297_0 := (HB.out.cell (World.block_lt_of_cell? w _ hx297_0)).trans hx297_0
     replace hx297_1 := (HB.out.cell (World.block_lt_of_cell? w _ hx297_1)).trans hx297_1
     replace p297 := eq_true p297
     replace q297 := eq_true q297
     go_wp2_with (first | ((with_reducible refine gdU 6 rfl ?_); refine bxU (cs := #[.int .i64 0, .int .i64 0]) (t := 52) ?_; intro gb298 hg w7 hbox hb; have BK298 := aU (hbox); have GW298 := geU hg; have GE298 := geU hg; replace HB := bsU hb; clear hb hbox hg; obtain ⟨hcz8_0, hcz8_1, hfz8_0, hfz8_1⟩ := b2U BK298) | ((with_reducible refine gcU 73 rfl ?_); refine goU (some 14) Tryz.func73 #[.agg #[.int .i64 ((rd_T52 l0 x9_1).f0), .int .i64 ((rd_T52 l0 x9_1).f1)]] ?_; (with_reducible refine (impl_IsDart.calls ((rd_T52 l0 x9_1).f0) ((rd_T52 l0 x9_1).f1) true _ A5.out).mono ?_); rintro e w9 ⟨rfl, hb⟩; refine ⟨_, rfl, ?_⟩; replace BK298 := aU (blk_below (g := gb298) (o := .cells #[.int .i64 ((rd_T52 l0 x9_1).f0), .int .i64 ((rd_T52 l0 x9_1).f1)] 52 (0, 0)) bkU hb); replace HB := bsU hb; (try clear hb); obtain ⟨hcz10_0, hcz10_1, hfz10_0, hfz10_1⟩ := b2U BK298))
     go_roundg k1
     case measure => have := HK1.out; omega
     case rel => exact ⟨(wrap64 (x4_1 + (wrap64 (((rd_T52 l0 x9_1).f0) * ((rd_T52 l0 x9_1).f1))))), (wrap64 (x9_1 + 1)), eqU, eqU, H', ⟨by have := HK1.out; omega⟩, ⟨hbU⟩⟩
    ·replace c6 := Bool.eq_false_iff.mpr c6
     subst c6
     rw [if_neg (show ¬ (false = true) by decide)] at H
     simp only [Option.some.injEq, Prod.mk.injEq] at H
     obtain ⟨rfl, rfl⟩ := H
     have p297 : 0 ≤ (x9_1 : Int) := dU
     have q297 : x9_1 < (l0.length : Int) := dU
     obtain ⟨ad297, e297, hx297_0, hx297_1⟩ := at_T52 HR0.out x9_1 p297 q297
     cases e297
     replace hx297_0 := (HB.out.cell (World.block_lt_of_cell? w _ hx297_0)).trans hx297_0
     replace hx297_1 := (HB.out.cell (World.block_lt_of_cell? w _ hx297_1)).trans hx297_1
     replace p297 := eq_true p297
     replace q297 := eq_true q297
     go_wp2_with (first | ((with_reducible refine gdU 6 rfl ?_); refine bxU (cs := #[.int .i64 0, .int .i64 0]) (t := 52) ?_; intro gb298 hg w11 hbox hb; have BK298 := aU (hbox); have GW298 := geU hg; have GE298 := geU hg; replace HB := bsU hb; clear hb hbox hg; obtain ⟨hcz12_0, hcz12_1, hfz12_0, hfz12_1⟩ := b2U BK298) | ((with_reducible refine gcU 73 rfl ?_); refine goU (some 14) Tryz.func73 #[.agg #[.int .i64 ((rd_T52 l0 x9_1).f0), .int .i64 ((rd_T52 l0 x9_1).f1)]] ?_; (with_reducible refine (impl_IsDart.calls ((rd_T52 l0 x9_1).f0) ((rd_T52 l0 x9_1).f1) false _ A5.out).mono ?_); rintro e w13 ⟨rfl, hb⟩; refine ⟨_, rfl, ?_⟩; replace BK298 := aU (blk_below (g := gb298) (o := .cells #[.int .i64 ((rd_T52 l0 x9_1).f0), .int .i64 ((rd_T52 l0 x9_1).f1)] 52 (0, 0)) bkU hb); replace HB := bsU hb; (try clear hb)))
     go_ret2
     exact ⟨errU, hbU⟩
   ·rw [if_neg c2] at H
    have c2b0 : decide (x9_1 < (l0.length : Int)) = false := decide_eq_false c2
    clear c2
    simp only [Option.some.injEq, Prod.mk.injEq] at H
    obtain ⟨rfl, rfl⟩ := H
    go_wp2
    go_ret2
    exact ⟨errU, hbU⟩
def spec_l1Cur_darts.l0 : Nat → List (S52) → Int → List Int → Int → Int → Option ((List (S52)) × Int × Int)
 | 0, _, _, _, _, _ => none
 | k + 1, x5, x6, x1000, x1001, x1002 => if x6 > 0 then ((spec_l1Cur_sureDart.f x1000 x1001 x1002).bind fun bt303 => (if x5.length < 8796093022208 then (spec_l1Cur_darts.l0 k (x5 ++ [(⟨bt303.1, bt303.2.1⟩ : S52)]) (wrap64 (x6 - 1)) x1000 bt303.2.2.1 bt303.2.2.2) else (none))) else ((spec_l1Cur_one.f x1000 x1001 x1002 14).bind fun bt310 => (if bt310.1 = true then ((spec_l1Cur_dart.f x1000 bt310.2.1 bt310.2.2).bind fun bt313 => (if x5.length < 8796093022208 then (some ((x5 ++ [(⟨bt313.1, bt313.2.1⟩ : S52)]), bt313.2.2.1, bt313.2.2.2)) else (none))) else (some (x5, bt310.2.1, bt310.2.2))))
def spec_l1Cur_darts.f (k : Nat) (s0_0 : List Int) (s0_1 : Int) (s0_2 : Int) (a1 : Int) : Option ((List (S52)) × Int × Int) := (spec_l1Cur_pick.f s0_0 s0_1 s0_2 (wrap64 (a1 + 1))).bind fun bt300 => (spec_l1Cur_darts.l0 k ([] : List (S52)) bt300.1 s0_0 bt300.2.1 bt300.2.2)
theorem spec_l1Cur_darts.mono_l : ∀ k, (∀ y0 y1 y2 y3 y4, LeO (spec_l1Cur_darts.l0 k y0 y1 y2 y3 y4) (spec_l1Cur_darts.l0 (k + 1) y0 y1 y2 y3 y4))
 | 0 => fun _ _ _ _ _ r h => by simp [spec_l1Cur_darts.l0] at h
 | k + 1 => by
  have ih0 := spec_l1Cur_darts.mono_l k
  all_goals intros
  all_goals first | unfold spec_l1Cur_darts.l0
  all_goals repeat' first
  | (with_reducible exact ih0 _ _ _ _ _)
  | (with_reducible exact LeO.refl _)
  | (with_reducible exact LeO.none _)
  | (with_reducible refine LeO.ite ?_ ?_)
  | (with_reducible refine LeO.bind ?_ (fun _ => ?_))
theorem spec_l1Cur_darts.mono : ∀ a0 a1 a2 a3 k, LeO (spec_l1Cur_darts.f k a0 a1 a2 a3) (spec_l1Cur_darts.f (k + 1) a0 a1 a2 a3) := by
 intro a0 a1 a2 a3 k
 have ih0 := spec_l1Cur_darts.mono_l k
 unfold spec_l1Cur_darts.f
 repeat' first
   | (with_reducible exact ih0 _ _ _ _ _)
   | (with_reducible exact LeO.refl _)
   | (with_reducible exact LeO.none _)
   | (with_reducible refine LeO.ite ?_ ?_)
   | (with_reducible refine LeO.bind ?_ (fun _ => ?_))
set_option maxHeartbeats 8000000 in
set_option maxRecDepth 100000 in
theorem spec_l1Cur_darts.calls (k : Nat) (g : Nat) (s0_0 : List Int) (s0_1 : Int) (s0_2 : Int) (a1 : Int) (r1 : List (S52)) (r2 : Int) (r3 : Int) (w0 w : World) (hI : IsS78 w0 w g s0_0 s0_1 s0_2) (hB : Below w0.heap.size w0 w) (h : spec_l1Cur_darts.f k s0_0 s0_1 s0_2 a1 = some (r1, r2, r3)) :
  Calls Tryz.prog 105 #[.pointer (some ⟨g, 0, none⟩), .int .i64 a1] w fun e w' => ∃ v0_ : Value, e = .returned (v0_) ∧ Kd.R k52 52 w' w.heap.size (fun _ => True) v0_ r1 ∧ IsS78 w0 w' g s0_0 r2 r3 ∧ Below w0.heap.size w0 w' ∧ KeepBut w w' g none := by
 have HI0 := aU hI
 have HK := aU (KeepBut.refl w g none)
 have HL := aU hB.size
 clear hI
 have HW0 := aU hB.size
 have HB := aU hB
 clear hB
 have H : ((spec_l1Cur_pick.f s0_0 s0_1 s0_2 (wrap64 (a1 + 1))).bind fun bt300 => (spec_l1Cur_darts.l0 k ([] : List (S52)) bt300.1 s0_0 bt300.2.1 bt300.2.2)) = some (r1, r2, r3) := h
 clear h
 replace H := bindS H
 obtain ⟨⟨t300, t301, t302⟩, A3, H⟩ := H
 (try dsimp only at H)
 have H' := aU H
 clear H
 go_enter Tryz.func105, Tryz.ntmps105
 go_wp2_with (first | ((with_reducible refine gcU 92 rfl ?_); refine goU (some 10) Tryz.func92 #[.pointer (some ⟨g, 0, none⟩), .int .i64 (wrap64 (a1 + 1))] ?_; (with_reducible refine (spec_l1Cur_pick.calls g s0_0 s0_1 s0_2 (wrap64 (a1 + 1)) t300 t301 t302 w0 _ ?side1 ?side2 A3.out).mono ?_); (case side1 => exact isU HI0); (case side2 => exact hbU); rintro e w4 ⟨rfl, hi, hb, hk⟩; refine ⟨_, rfl, ?_⟩; replace HK := aU (KeepBut.trans (kpU HK) hk (.inl rfl)); replace HB := aU (hb); replace HI0 := aU (hi); (try clear hi hb hk)))
 go_loopg [5, 6] k (fun kq v5 v6 w' => ∃ (x5_1 : List (S52)) (x6_1 : Int) (x1001_1 : Int) (x1002_1 : Int), v6 = .int .i64 x6_1 ∧ Aside0 (spec_l1Cur_darts.l0 kq x5_1 x6_1 s0_0 x1001_1 x1002_1 = some (r1, r2, r3)) ∧ Aside0 (kq ≤ k) ∧ Aside0 (Kd.R k52 52 w' w.heap.size (fun _ => True) v5 x5_1) ∧ Aside0 (IsS78 w0 w' g s0_0 x1001_1 x1002_1) ∧ Aside0 (KeepBut w w' g none) ∧ Aside0 (Below w0.heap.size w0 w'))
 case atStart => exact ⟨(([] : List (S52))), (t300), (t301), (t302), eqU, H', ⟨Nat.le_refl _⟩, ⟨by first | exact Kd.R_nil _ _ _ _ _ | exact Kd.N_nil _ _ _ _ _ | exact Kd.V_nil _ _ _ _ _ | exact Kd.Q_nil _ _ _ _ _ | exact Kd.S_nil _ _ _ _ _⟩, ⟨isU HI0⟩, ⟨by repeat (first | (with_reducible first | exact HK.out | apply KeepBut.set_ | apply keep_drewN | apply keep_drew | apply keep_alloc) | exact HK.out)⟩, ⟨hbU⟩⟩
 case round =>
  clear H'
  obtain ⟨x5_1, x6_1, x1001_1, x1002_1, rfl, HA, HK1, HO_5, HI0, HK, HB⟩ := hrel
  cases gk with
  | zero => exact absurd HA.out (by simp [spec_l1Cur_darts.l0])
  | succ k1 =>
   have H := HA.out
   clear HA
   simp only [spec_l1Cur_darts.l0] at H
   by_cases c5 : x6_1 > 0
   ·rw [if_pos c5] at H
    have c5b0 : decide (0 < x6_1) = true := decide_eq_true c5
    clear c5
    replace H := bindS H
    obtain ⟨⟨t303, t304, t305, t306⟩, A6, H⟩ := H
    (try dsimp only at H)
    replace H := ifS H
    obtain ⟨c7, H⟩ := H
    have LMc7 := aU c7
    clear c7
    obtain ⟨y307, hy307⟩ : ∃ y_ : List (S52), y_ = (x5_1 ++ [(⟨t303, t304⟩ : S52)]) := ⟨_, rfl⟩
    replace H : (spec_l1Cur_darts.l0 k1 y307 (wrap64 (x6_1 - 1)) s0_0 t305 t306) = some (r1, r2, r3) := by first | (rw [hy307]; with_reducible exact H) | (have H2_ := (Option.bind_some _ _).symm.trans H; rw [hy307]; with_reducible exact H2_) | (have H2_ := (Option.bind_some _ _).symm.trans H; with_reducible exact H2_) | with_reducible exact H | (rw [hy307]; exact H) | exact H
    have Ny307 := aU hy307
    clear hy307
    have H' := aU H
    clear H
    go_wp2_with (first | ((with_reducible refine gcU 104 rfl ?_); refine goU (some 17) Tryz.func104 #[.pointer (some ⟨g, 0, none⟩)] ?_; (with_reducible refine (spec_l1Cur_sureDart.calls g s0_0 x1001_1 x1002_1 t303 t304 t305 t306 w0 _ ?side1 ?side2 A6.out).mono ?_); (case side1 => exact isU HI0); (case side2 => exact hbU); rintro e w8 ⟨rfl, hi, hb, hk⟩; refine ⟨_, rfl, ?_⟩; replace HO_5 := aU (Kd.R_mono (Kd.R_keep (IsS78.apart (show IsS78 w0 _ g s0_0 x1001_1 x1002_1 from isU HI0) (roU HO_5) (by decide)) hk (fun _ h => h.2)) (fun _ h => h.1)); replace HK := aU (KeepBut.trans (kpU HK) hk (.inl rfl)); replace HB := aU (hb); replace HI0 := aU (hi); (try clear hi hb hk)) | ((with_reducible refine gate_builtin (b := .append) (xs := #[.tmp 15, .tmp 18]) rfl ?_); at_builtin; refine Kd.R_append k52 w.heap.size rfl (.tmp 15) (.tmp 18) 45 52 (.agg #[(.int .i64 0), (.int .i64 0)]) 16 rfl Tryz.underlying45 info52 rfl (by decide) (by omega) u5 x5_1 (⟨t303, t304⟩ : S52) [.int .i64 t303, .int .i64 t304] (fun _ => True) (fun _ => False) rfl rfl ?aP (fun _ hk => hk.elim) ?aF ?aO (Below.refl _ _) ?aS ?aL ?_; (case aP => exact k52_mkM _ _ _ (⟨t303, t304⟩ : S52)); (case aF => exact (fun _ _ => trivial)); (case aO => exact (roU HO_5)); (case aS => exact (keep_size (w := w) (g := g) (row := none) (kpU HK))); (case aL => have := LMc7.out; omega); intro v308 w9 ho hb hg hat; rw [← Ny307.out] at ho; replace HI0 := aU (IsS78.grown (isU HI0) hg (IsS78.own_ne HI0.out HO_5.out (by decide))); replace HB := aU (below_weaken hbU HL.out hb); replace HK := aU (KeepBut.trans (kpU HK) (KeepBut.of_grown hg g) (Kd.R_base2 HO_5.out)); have HO309 := aU (ho); clear HO_5; clear ho hb hg hat))
    go_roundg k1
    case measure => have := HK1.out; omega
    case rel => exact ⟨(y307), (wrap64 (x6_1 - 1)), (t305), (t306), eqU, H', ⟨by have := HK1.out; omega⟩, ⟨roU HO309⟩, ⟨isU HI0⟩, ⟨by repeat (first | (with_reducible first | exact HK.out | apply KeepBut.set_ | apply keep_drewN | apply keep_drew | apply keep_alloc) | exact HK.out)⟩, ⟨hbU⟩⟩
   ·rw [if_neg c5] at H
    have c5b0 : decide (0 < x6_1) = false := decide_eq_false c5
    clear c5
    replace H := bindS H
    obtain ⟨⟨t310, t311, t312⟩, A10, H⟩ := H
    (try dsimp only at H)
    by_cases c11 : t310 = true
    ·subst c11
     rw [if_pos rfl] at H
     replace H := bindS H
     obtain ⟨⟨t313, t314, t315, t316⟩, A12, H⟩ := H
     (try dsimp only at H)
     replace H := ifS H
     obtain ⟨c13, H⟩ := H
     have LMc13 := aU c13
     clear c13
     obtain ⟨y317, hy317⟩ : ∃ y_ : List (S52), y_ = (x5_1 ++ [(⟨t313, t314⟩ : S52)]) := ⟨_, rfl⟩
     replace H : (some (y317, t315, t316)) = some (r1, r2, r3) := by first | (rw [hy317]; with_reducible exact H) | (have H2_ := (Option.bind_some _ _).symm.trans H; rw [hy317]; with_reducible exact H2_) | (have H2_ := (Option.bind_some _ _).symm.trans H; with_reducible exact H2_) | with_reducible exact H | (rw [hy317]; exact H) | exact H
     have Ny317 := aU hy317
     clear hy317
     simp only [Option.some.injEq, Prod.mk.injEq] at H
     obtain ⟨rfl, rfl, rfl⟩ := H
     go_wp2_with (first | ((with_reducible refine gcU 91 rfl ?_); refine goU (some 21) Tryz.func91 #[.pointer (some ⟨g, 0, none⟩), .int .i64 14] ?_; (with_reducible refine (spec_l1Cur_one.calls g s0_0 x1001_1 x1002_1 14 true t311 t312 w0 _ ?side1 ?side2 A10.out).mono ?_); (case side1 => exact isU HI0); (case side2 => exact hbU); rintro e w14 ⟨rfl, hi, hb, hk⟩; refine ⟨_, rfl, ?_⟩; replace HO_5 := aU (Kd.R_mono (Kd.R_keep (IsS78.apart (show IsS78 w0 _ g s0_0 x1001_1 x1002_1 from isU HI0) (roU HO_5) (by decide)) hk (fun _ h => h.2)) (fun _ h => h.1)); replace HK := aU (KeepBut.trans (kpU HK) hk (.inl rfl)); replace HB := aU (hb); replace HI0 := aU (hi); (try clear hi hb hk)) | ((with_reducible refine gcU 116 rfl ?_); refine goU (some 24) Tryz.func116 #[.pointer (some ⟨g, 0, none⟩)] ?_; (with_reducible refine (spec_l1Cur_dart.calls g s0_0 t311 t312 t313 t314 t315 t316 w0 _ ?side1 ?side2 A12.out).mono ?_); (case side1 => exact isU HI0); (case side2 => exact hbU); rintro e w15 ⟨rfl, hi, hb, hk⟩; refine ⟨_, rfl, ?_⟩; replace HO_5 := aU (Kd.R_mono (Kd.R_keep (IsS78.apart (show IsS78 w0 _ g s0_0 t311 t312 from isU HI0) (roU HO_5) (by decide)) hk (fun _ h => h.2)) (fun _ h => h.1)); replace HK := aU (KeepBut.trans (kpU HK) hk (.inl rfl)); replace HB := aU (hb); replace HI0 := aU (hi); (try clear hi hb hk)) | ((with_reducible refine gate_builtin (b := .append) (xs := #[.tmp 22, .tmp 25]) rfl ?_); at_builtin; refine Kd.R_append k52 w.heap.size rfl (.tmp 22) (.tmp 25) 45 52 (.agg #[(.int .i64 0), (.int .i64 0)]) 16 rfl Tryz.underlying45 info52 rfl (by decide) (by omega) u5 x5_1 (⟨t313, t314⟩ : S52) [.int .i64 t313, .int .i64 t314] (fun _ => True) (fun _ => False) rfl rfl ?aP (fun _ hk => hk.elim) ?aF ?aO (Below.refl _ _) ?aS ?aL ?_; (case aP => exact k52_mkM _ _ _ (⟨t313, t314⟩ : S52)); (case aF => exact (fun _ _ => trivial)); (case aO => exact (roU HO_5)); (case aS => exact (keep_size (w := w) (g := g) (row := none) (kpU HK))); (case aL => have := LMc13.out; omega); intro v318 w16 ho hb hg hat; rw [← Ny317.out] at ho; replace HI0 := aU (IsS78.grown (isU HI0) hg (IsS78.own_ne HI0.out HO_5.out (by decide))); replace HB := aU (below_weaken hbU HL.out hb); replace HK := aU (KeepBut.trans (kpU HK) (KeepBut.of_grown hg g) (Kd.R_base2 HO_5.out)); have HO319 := aU (ho); clear HO_5; clear ho hb hg hat))
     go_ret
     exact ⟨_, errU, by (with_reducible repeat (first | apply Kd.R_alloc | apply Kd.R_drewN | apply Kd.R_drew)); exact HO319.out, isU HI0, hbU, kpU HK⟩
    ·replace c11 := Bool.eq_false_iff.mpr c11
     subst c11
     rw [if_neg (show ¬ (false = true) by decide)] at H
     simp only [Option.some.injEq, Prod.mk.injEq] at H
     obtain ⟨rfl, rfl, rfl⟩ := H
     go_wp2_with (first | ((with_reducible refine gcU 91 rfl ?_); refine goU (some 21) Tryz.func91 #[.pointer (some ⟨g, 0, none⟩), .int .i64 14] ?_; (with_reducible refine (spec_l1Cur_one.calls g s0_0 x1001_1 x1002_1 14 false t311 t312 w0 _ ?side1 ?side2 A10.out).mono ?_); (case side1 => exact isU HI0); (case side2 => exact hbU); rintro e w17 ⟨rfl, hi, hb, hk⟩; refine ⟨_, rfl, ?_⟩; replace HO_5 := aU (Kd.R_mono (Kd.R_keep (IsS78.apart (show IsS78 w0 _ g s0_0 x1001_1 x1002_1 from isU HI0) (roU HO_5) (by decide)) hk (fun _ h => h.2)) (fun _ h => h.1)); replace HK := aU (KeepBut.trans (kpU HK) hk (.inl rfl)); replace HB := aU (hb); replace HI0 := aU (hi); (try clear hi hb hk)))
     go_ret
     exact ⟨_, errU, by (with_reducible repeat (first | apply Kd.R_alloc | apply Kd.R_drewN | apply Kd.R_drew)); exact HO_5.out, isU HI0, hbU, kpU HK⟩
end Go.Proofs.YtcmlmjgoidpabaaGreatDoor.MFnDartsPlayed

