/- Walks of the functions that the law reaches: each comes to just what the function that is told of it tells, for all arguments. -/
import Derived.Test.YtcmlmjgoidpabaaGreatDoorYMFnDartsPlayedx5
namespace Go.Proofs.YtcmlmjgoidpabaaGreatDoor.MFnDartsPlayed
open Go.RowKit Go.Proofs.YtcmlmjgoidpabaaGreatDoorW.PrintWords Go.Proofs.YtcmlmjgoidpabaaGreatDoorW.PrintLast Go.Proofs.YtcmlmjgoidpabaaGreatDoorW.PrintMore
attribute [local go_sem] max2_int min2_int max_two min_two max_three min_three max_four min_four
set_option linter.unusedVariables false
set_option linter.unusedSimpArgs false
mutual
def impl_visitLeaves.j0 : Nat → Int → List (S52) → Bool → Option (Int × Bool × Bool)
 | 0, _, _, _ => none
 | k + 1, x0, x1, x25 => if x25 = true then (some (0, false, false)) else (impl_visitLeaves.l0 k x0 x1 x0 x1 (x1.length : Int) 0)
def impl_visitLeaves.l0 : Nat → Int → List (S52) → Int → List (S52) → Int → Int → Option (Int × Bool × Bool)
 | 0, _, _, _, _, _, _ => none
 | k + 1, x0, x1, x7, x27, x28, x29 => if x29 < x28 then (if 0 ≤ x29 then (if x29 < (x27.length : Int) then ((impl_Dart_score.f ((rd_T52 x27 x29).f0) ((rd_T52 x27 x29).f1)).bind fun t274 => (if (wrap64 (x7 - t274)) = 0 then (impl_visitLeaves.j2 k x0 x1 (wrap64 (x7 - t274)) x29 (((rd_T52 x27 x29).f1) == 2) x27 x28 x29) else (impl_visitLeaves.j2 k x0 x1 (wrap64 (x7 - t274)) x29 false x27 x28 x29))) else (none)) else (none)) else (some (x7, false, true))
def impl_visitLeaves.j2 : Nat → Int → List (S52) → Int → Int → Bool → List (S52) → Int → Int → Option (Int × Bool × Bool)
 | 0, _, _, _, _, _, _, _, _ => none
 | k + 1, x0, x1, x7, x8, x10, x27, x28, x29 => if x7 < 0 then (impl_visitLeaves.j3 k x0 x1 x7 x8 x10 true x27 x28 x29) else (if x7 = 1 then (impl_visitLeaves.j3 k x0 x1 x7 x8 x10 true x27 x28 x29) else (if x7 = 0 then (impl_visitLeaves.j3 k x0 x1 x7 x8 x10 (!x10) x27 x28 x29) else (impl_visitLeaves.j3 k x0 x1 x7 x8 x10 false x27 x28 x29)))
def impl_visitLeaves.j3 : Nat → Int → List (S52) → Int → Int → Bool → Bool → List (S52) → Int → Int → Option (Int × Bool × Bool)
 | 0, _, _, _, _, _, _, _, _, _ => none
 | k + 1, x0, x1, x7, x8, x10, x11, x27, x28, x29 => if x10 = true then (impl_visitLeaves.j4 k x0 x1 x7 x11 x27 x28 x29 (decide (x8 < (wrap64 ((x1.length : Int) - 1))))) else (if x11 = true then (impl_visitLeaves.j4 k x0 x1 x7 x11 x27 x28 x29 (decide (x8 < (wrap64 ((x1.length : Int) - 1))))) else (impl_visitLeaves.j4 k x0 x1 x7 x11 x27 x28 x29 false))
def impl_visitLeaves.j4 : Nat → Int → List (S52) → Int → Bool → List (S52) → Int → Int → Bool → Option (Int × Bool × Bool)
 | 0, _, _, _, _, _, _, _, _ => none
 | k + 1, x0, x1, x7, x11, x27, x28, x29, x69 => if x69 = true then (some (0, false, false)) else (if x11 = true then (some (x0, true, true)) else (impl_visitLeaves.l0 k x0 x1 x7 x27 x28 (wrap64 (x29 + 1))))
end
def impl_visitLeaves.f (k : Nat) (a0 : Int) (l1 : List (S52)) : Option (Int × Bool × Bool) := (impl_within.f a0 1 1001).bind fun t269 => (if t269 = true then ((impl_within.f (l1.length : Int) 1 3).bind fun t270 => (if t270 = true then ((impl_areDarts.f k l1).bind fun t271 => (impl_visitLeaves.j0 k a0 l1 (!t271))) else (impl_visitLeaves.j0 k a0 l1 true))) else (impl_visitLeaves.j0 k a0 l1 true))
theorem impl_visitLeaves.mono_l : ∀ k, (∀ y0 y1 y2, LeO (impl_visitLeaves.j0 k y0 y1 y2) (impl_visitLeaves.j0 (k + 1) y0 y1 y2)) ∧ (∀ y0 y1 y2 y3 y4 y5, LeO (impl_visitLeaves.l0 k y0 y1 y2 y3 y4 y5) (impl_visitLeaves.l0 (k + 1) y0 y1 y2 y3 y4 y5)) ∧ (∀ y0 y1 y2 y3 y4 y5 y6 y7, LeO (impl_visitLeaves.j2 k y0 y1 y2 y3 y4 y5 y6 y7) (impl_visitLeaves.j2 (k + 1) y0 y1 y2 y3 y4 y5 y6 y7)) ∧ (∀ y0 y1 y2 y3 y4 y5 y6 y7 y8, LeO (impl_visitLeaves.j3 k y0 y1 y2 y3 y4 y5 y6 y7 y8) (impl_visitLeaves.j3 (k + 1) y0 y1 y2 y3 y4 y5 y6 y7 y8)) ∧ (∀ y0 y1 y2 y3 y4 y5 y6 y7, LeO (impl_visitLeaves.j4 k y0 y1 y2 y3 y4 y5 y6 y7) (impl_visitLeaves.j4 (k + 1) y0 y1 y2 y3 y4 y5 y6 y7))
 | 0 => ⟨fun _ _ _ r h => by simp [impl_visitLeaves.j0] at h, fun _ _ _ _ _ _ r h => by simp [impl_visitLeaves.l0] at h, fun _ _ _ _ _ _ _ _ r h => by simp [impl_visitLeaves.j2] at h, fun _ _ _ _ _ _ _ _ _ r h => by simp [impl_visitLeaves.j3] at h, fun _ _ _ _ _ _ _ _ r h => by simp [impl_visitLeaves.j4] at h⟩
 | k + 1 => by
  obtain ⟨ih0, ih1, ih2, ih3, ih4⟩ := impl_visitLeaves.mono_l k
  refine ⟨?_, ?_, ?_, ?_, ?_⟩
  all_goals intros
  all_goals first | unfold impl_visitLeaves.j0 | unfold impl_visitLeaves.l0 | unfold impl_visitLeaves.j2 | unfold impl_visitLeaves.j3 | unfold impl_visitLeaves.j4
  all_goals repeat' first
  | (with_reducible exact ih0 _ _ _)
  | (with_reducible exact ih1 _ _ _ _ _ _)
  | (with_reducible exact ih2 _ _ _ _ _ _ _ _)
  | (with_reducible exact ih3 _ _ _ _ _ _ _ _ _)
  | (with_reducible exact ih4 _ _ _ _ _ _ _ _)
  | (with_reducible exact impl_areDarts.mono _ _)
  | (with_reducible exact LeO.refl _)
  | (with_reducible exact LeO.none _)
  | (with_reducible refine LeO.ite ?_ ?_)
  | (with_reducible refine LeO.bind ?_ (fun _ => ?_))
theorem impl_visitLeaves.mono : ∀ a0 a1 k, LeO (impl_visitLeaves.f k a0 a1) (impl_visitLeaves.f (k + 1) a0 a1) := by
 intro a0 a1 k
 obtain ⟨ih0, ih1, ih2, ih3, ih4⟩ := impl_visitLeaves.mono_l k
 unfold impl_visitLeaves.f
 repeat' first
   | (with_reducible exact ih0 _ _ _)
   | (with_reducible exact ih1 _ _ _ _ _ _)
   | (with_reducible exact ih2 _ _ _ _ _ _ _ _)
   | (with_reducible exact ih3 _ _ _ _ _ _ _ _ _)
   | (with_reducible exact ih4 _ _ _ _ _ _ _ _)
   | (with_reducible exact impl_areDarts.mono _ _)
   | (with_reducible exact LeO.refl _)
   | (with_reducible exact LeO.none _)
   | (with_reducible refine LeO.ite ?_ ?_)
   | (with_reducible refine LeO.bind ?_ (fun _ => ?_))
set_option maxHeartbeats 8000000 in
set_option maxRecDepth 100000 in
theorem impl_visitLeaves.calls (k : Nat) (a0 : Int) (A1 : Option Addr) (c1 : Nat) (l1 : List (S52)) (r1 : Int) (r2 : Bool) (r3 : Bool) (w : World) (hr1 : Kd.C k52 w A1 l1.length l1) (hc1 : l1.length ≤ c1) (h : impl_visitLeaves.f k a0 l1 = some (r1, r2, r3)) :
  Calls Tryz.prog 101 #[.int .i64 a0, .slice A1 l1.length c1] w fun e w' => e = .returned (.tuple #[.int .i64 r1, .bool r2, .bool r3]) ∧ Below w.heap.size w w' := by
 have hu52 := Tryz.underlying52
 have HR1 := aU hr1
 have HC1 := aU hc1
 clear hr1 hc1
 have HB := aU (Below.refl w.heap.size w)
 have H : ((impl_within.f a0 1 1001).bind fun t269 => (if t269 = true then ((impl_within.f (l1.length : Int) 1 3).bind fun t270 => (if t270 = true then ((impl_areDarts.f k l1).bind fun t271 => (impl_visitLeaves.j0 k a0 l1 (!t271))) else (impl_visitLeaves.j0 k a0 l1 true))) else (impl_visitLeaves.j0 k a0 l1 true))) = some (r1, r2, r3) := h
 clear h
 have HC3 := aU H
 clear H
 go_enter Tryz.func101, Tryz.ntmps101
 go_upto_region 1 with (fail)
 go_cut [25] (fun v25 wc => ∃ (kq : Nat) (x25_2 : Bool), v25 = .bool x25_2 ∧ Aside0 (impl_visitLeaves.j0 kq a0 l1 x25_2 = some (r1, r2, r3)) ∧ Aside0 (kq ≤ k) ∧ Aside0 (Below w.heap.size w wc))
 case first =>
  have H := HC3.out
  clear HC3
  replace H := bindS H
  obtain ⟨t269, A4, H⟩ := H
  (try dsimp only at H)
  by_cases c5 : t269 = true
  ·subst c5
   rw [if_pos rfl] at H
   replace H := bindS H
   obtain ⟨t270, A6, H⟩ := H
   (try dsimp only at H)
   by_cases c7 : t270 = true
   ·subst c7
    rw [if_pos rfl] at H
    replace H := bindS H
    obtain ⟨t271, A8, H⟩ := H
    (try dsimp only at H)
    have H' := aU H
    clear H
    go_wp2_with (first | ((with_reducible refine gcU 87 rfl ?_); refine goU (some 13) Tryz.func87 #[.int .i64 a0, .int .i64 1, .int .i64 1001] ?_; (with_reducible refine (impl_within.calls a0 1 1001 true _ A4.out).mono ?_); rintro e w' ⟨rfl, ⟨nd, rfl⟩⟩; refine ⟨_, rfl, ?_⟩) | (go_at_call 87; (with_reducible refine (impl_within.calls (l1.length : Int) 1 3 true _ A6.out).mono ?_); rintro e w' ⟨rfl, ⟨nd, rfl⟩⟩) | (go_at_call 107; (with_reducible refine (impl_areDarts.calls k _ _ l1 t271 _ ?side1 ?side2 A8.out).mono ?_); (case side1 => repeat (first | exact (Kd.C_below HR1.out hbU) | (with_reducible refine Kd.C_alloc ?_ _) | (with_reducible refine Kd.C_drewN ?_ _) | (with_reducible refine Kd.C_drew ?_))); (case side2 => exact HC1.out); rintro e w9 ⟨rfl, hb⟩; replace HB := bsU hb; (try clear hb)))
    go_meet
    case rel => exact ⟨_, (!t271), eqU, H', ⟨by first | omega | exact Nat.le_refl _⟩, ⟨hbU⟩⟩
   ·replace c7 := Bool.eq_false_iff.mpr c7
    subst c7
    rw [if_neg (show ¬ (false = true) by decide)] at H
    have H' := aU H
    clear H
    go_wp2_with (first | ((with_reducible refine gcU 87 rfl ?_); refine goU (some 13) Tryz.func87 #[.int .i64 a0, .int .i64 1, .int .i64 1001] ?_; (with_reducible refine (impl_within.calls a0 1 1001 true _ A4.out).mono ?_); rintro e w' ⟨rfl, ⟨nd, rfl⟩⟩; refine ⟨_, rfl, ?_⟩) | (go_at_call 87; (with_reducible refine (impl_within.calls (l1.length : Int) 1 3 false _ A6.out).mono ?_); rintro e w' ⟨rfl, ⟨nd, rfl⟩⟩))
    go_meet
    case rel => exact ⟨_, (true), eqU, H', ⟨by first | omega | exact Nat.le_refl _⟩, ⟨hbU⟩⟩
  ·replace c5 := Bool.eq_false_iff.mpr c5
   subst c5
   rw [if_neg (show ¬ (false = true) by decide)] at H
   have H' := aU H
   clear H
   go_wp2_with (first | ((with_reducible refine gcU 87 rfl ?_); refine goU (some 13) Tryz.func87 #[.int .i64 a0, .int .i64 1, .int .i64 1001] ?_; (with_reducible refine (impl_within.calls a0 1 1001 false _ A4.out).mono ?_); rintro e w' ⟨rfl, ⟨nd, rfl⟩⟩; refine ⟨_, rfl, ?_⟩))
   go_meet
   case rel => exact ⟨_, (true), eqU, H', ⟨by first | omega | exact Nat.le_refl _⟩, ⟨hbU⟩⟩
 case rest =>
  clear HC3
  obtain ⟨kq, x25_2, rfl, HA, HJ2, HB⟩ := hcut
  cases kq with
  | zero => exact absurd HA.out (by simp [impl_visitLeaves.j0])
  | succ kj2 =>
   have H := HA.out
   clear HA
   simp only [impl_visitLeaves.j0] at H
   by_cases c10 : x25_2 = true
   ·subst c10
    rw [if_pos rfl] at H
    simp only [Option.some.injEq, Prod.mk.injEq] at H
    obtain ⟨rfl, rfl, rfl⟩ := H
    go_wp2
    go_ret3
    exact ⟨errU, hbU⟩
   ·replace c10 := Bool.eq_false_iff.mpr c10
    subst c10
    rw [if_neg (show ¬ (false = true) by decide)] at H
    have H' := aU H
    clear H
    go_wp2
    go_loopg [7, 29] kj2 (fun kq v7 v29 w' => ∃ (x7_2 : Int) (x29_2 : Int), v7 = .int .i64 x7_2 ∧ v29 = .int .i64 x29_2 ∧ Aside0 (impl_visitLeaves.l0 kq a0 l1 x7_2 l1 (l1.length : Int) x29_2 = some (r1, r2, r3)) ∧ Aside0 (kq ≤ kj2) ∧ Aside0 (Below w.heap.size w w'))
    case atStart => exact ⟨(a0), (0), eqU, eqU, H', ⟨Nat.le_refl _⟩, ⟨hbU⟩⟩
    case round =>
     clear H'
     (try clear c10)
     obtain ⟨x7_2, x29_2, rfl, rfl, HA, HK2, HB⟩ := hrel
     cases gk with
     | zero => exact absurd HA.out (by simp [impl_visitLeaves.l0])
     | succ k2 =>
      have H := HA.out
      clear HA
      simp only [impl_visitLeaves.l0] at H
      by_cases c11 : x29_2 < (l1.length : Int)
      ·rw [if_pos c11] at H
       have c11b0 : decide (x29_2 < (l1.length : Int)) = true := decide_eq_true c11
       clear c11
       replace H := ifS H
       obtain ⟨c12, H⟩ := H
       have c12b0 : decide (0 ≤ x29_2) = true := decide_eq_true c12
       clear c12
       replace H := ifS H
       obtain ⟨c13, H⟩ := H
       have c13b0 : decide (x29_2 < (l1.length : Int)) = true := decide_eq_true c13
       clear c13
       replace H := bindS H
       obtain ⟨t274, A14, H⟩ := H
       (try dsimp only at H)
       have HC15 := aU H
       clear H
       have p272 : 0 ≤ (x29_2 : Int) := dU
       have q272 : x29_2 < (l1.length : Int) := dU
       obtain ⟨ad272, e272, hx272_0, hx272_1⟩ := at_T52 HR1.out x29_2 p272 q272
       cases e272
       replace hx272_0 := (HB.out.cell (World.block_lt_of_cell? w _ hx272_0)).trans hx272_0
       replace hx272_1 := (HB.out.cell (World.block_lt_of_cell? w _ hx272_1)).trans hx272_1
       replace p272 := eq_true p272
       replace q272 := eq_true q272
       go_upto_region 8 with (first | ((with_reducible refine gdU 9 rfl ?_); (try (refine gate_guard (by rfl) ?_; dsimp only)); refine bxU (cs := #[.int .i64 0, .int .i64 0]) (t := 52) ?_; intro gb273 hg w16 hbox hb; have BK273 := aU (hbox); have GW273 := geU hg; have GE273 := geU hg; replace HB := bsU hb; clear hb hbox hg; obtain ⟨hcz17_0, hcz17_1, hfz17_0, hfz17_1⟩ := b2U BK273) | ((with_reducible refine gcU 108 rfl ?_); refine goU (some 36) Tryz.func108 #[.agg #[.int .i64 ((rd_T52 l1 x29_2).f0), .int .i64 ((rd_T52 l1 x29_2).f1)]] ?_; (with_reducible refine (impl_Dart_score.calls ((rd_T52 l1 x29_2).f0) ((rd_T52 l1 x29_2).f1) t274 _ A14.out).mono ?_); rintro e w18 ⟨rfl, hb⟩; refine ⟨_, rfl, ?_⟩; replace BK273 := aU (blk_below (g := gb273) (o := .cells #[.int .i64 ((rd_T52 l1 x29_2).f0), .int .i64 ((rd_T52 l1 x29_2).f1)] 52 (0, 0)) bkU hb); replace HB := bsU hb; (try clear hb)))
       (try simp only [Act.put, List.setIfInBounds_toArray, List.set_cons_zero, List.set_cons_succ])
       go_cut [10] (fun v10 wc => ∃ (kq : Nat) (x10_14 : Bool), v10 = .bool x10_14 ∧ Aside0 (impl_visitLeaves.j2 kq a0 l1 (wrap64 (x7_2 - t274)) x29_2 x10_14 l1 (l1.length : Int) x29_2 = some (r1, r2, r3)) ∧ Aside0 (kq ≤ k2) ∧ Aside0 (wc.heap[gb273]? = some (.cells #[.int .i64 ((rd_T52 l1 x29_2).f0), .int .i64 ((rd_T52 l1 x29_2).f1)] 52 (0, 0))) ∧ Aside0 (Below w.heap.size w wc))
       case first =>
        have H := HC15.out
        clear HC15
        by_cases c19 : (wrap64 (x7_2 - t274)) = 0
        ·rw [if_pos c19] at H
         have c19b0 : ((wrap64 (x7_2 - t274)) == 0) = true := beq_iff_eq.mpr c19
         have c19b1 : ((wrap64 (x7_2 - t274)) != 0) = false := bne_eq_false_iff_eq.mpr c19
         clear c19
         (first | rw [c19b0] | (simp only [i64_w, i32_w]; rw [c19b0]) | skip)
         have H' := aU H
         clear H
         have hcz20_0 : w18.cell? ⟨gb273, 0, none⟩ = some (.int .i64 ((rd_T52 l1 x29_2).f0)) := (blk_cell BK273.out 0).trans rfl
         have hcz20_1 : w18.cell? ⟨gb273, 1, none⟩ = some (.int .i64 ((rd_T52 l1 x29_2).f1)) := (blk_cell BK273.out 1).trans rfl
         have hfz20_0 := blk_frozen BK273.out 0
         have hfz20_1 := blk_frozen BK273.out 1
         go_wp2
         go_meet
         case rel => exact ⟨_, ((((rd_T52 l1 x29_2).f1) == 2)), eqU, H', ⟨by have := HJ2.out; have := HK2.out; first | omega | exact Nat.le_refl _⟩, ⟨bkU⟩, ⟨hbU⟩⟩
        ·rw [if_neg c19] at H
         have c19b0 : ((wrap64 (x7_2 - t274)) == 0) = false := beq_eq_false_iff_ne.mpr c19
         have c19b1 : ((wrap64 (x7_2 - t274)) != 0) = true := bne_iff_ne.mpr c19
         (first | rw [c19b0] | (simp only [i64_w, i32_w]; rw [c19b0]) | skip)
         have H' := aU H
         clear H
         go_wp2
         go_meet
         case rel => exact ⟨_, (false), eqU, H', ⟨by have := HJ2.out; have := HK2.out; first | omega | exact Nat.le_refl _⟩, ⟨bkU⟩, ⟨hbU⟩⟩
       case rest =>
        clear HC15
        (try clear c11b0); (try clear c12b0); (try clear c13b0); (try clear hcz17_0); (try clear hcz17_1); (try clear hfz17_0); (try clear hfz17_1); (try clear hx272_0); (try clear hx272_1); (try clear p272); (try clear q272)
        obtain ⟨kq, x10_14, rfl, HA, HJ14, BK273, HB⟩ := hcut
        cases kq with
        | zero => exact absurd HA.out (by simp [impl_visitLeaves.j2])
        | succ kj14 =>
         have H := HA.out
         clear HA
         simp only [impl_visitLeaves.j2] at H
         have HC21 := aU H
         clear H
         go_upto_region 9 with (fail)
         go_cut [11] (fun v11 wc => ∃ (kq : Nat) (x11_20 : Bool), v11 = .bool x11_20 ∧ Aside0 (impl_visitLeaves.j3 kq a0 l1 (wrap64 (x7_2 - t274)) x29_2 x10_14 x11_20 l1 (l1.length : Int) x29_2 = some (r1, r2, r3)) ∧ Aside0 (kq ≤ kj14) ∧ Aside0 (wc.heap[gb273]? = some (.cells #[.int .i64 ((rd_T52 l1 x29_2).f0), .int .i64 ((rd_T52 l1 x29_2).f1)] 52 (0, 0))) ∧ Aside0 (Below w.heap.size w wc))
         case first =>
          have H := HC21.out
          clear HC21
          by_cases c22 : (wrap64 (x7_2 - t274)) < 0
          ·rw [if_pos c22] at H
           have c22b0 : decide ((wrap64 (x7_2 - t274)) < 0) = true := decide_eq_true c22
           clear c22
           (first | rw [c22b0] | (simp only [i64_w, i32_w]; rw [c22b0]) | skip)
           have H' := aU H
           clear H
           go_wp2
           go_meet
           case rel => exact ⟨_, (true), eqU, H', ⟨by have := HJ2.out; have := HK2.out; have := HJ14.out; first | omega | exact Nat.le_refl _⟩, ⟨bkU⟩, ⟨hbU⟩⟩
          ·rw [if_neg c22] at H
           have c22b0 : decide ((wrap64 (x7_2 - t274)) < 0) = false := decide_eq_false c22
           clear c22
           (first | rw [c22b0] | (simp only [i64_w, i32_w]; rw [c22b0]) | skip)
           by_cases c23 : (wrap64 (x7_2 - t274)) = 1
           ·rw [if_pos c23] at H
            have c23b0 : ((wrap64 (x7_2 - t274)) == 1) = true := beq_iff_eq.mpr c23
            have c23b1 : ((wrap64 (x7_2 - t274)) != 1) = false := bne_eq_false_iff_eq.mpr c23
            clear c23
            have H' := aU H
            clear H
            go_wp2
            go_meet
            case rel => exact ⟨_, (true), eqU, H', ⟨by have := HJ2.out; have := HK2.out; have := HJ14.out; first | omega | exact Nat.le_refl _⟩, ⟨bkU⟩, ⟨hbU⟩⟩
           ·rw [if_neg c23] at H
            have c23b0 : ((wrap64 (x7_2 - t274)) == 1) = false := beq_eq_false_iff_ne.mpr c23
            have c23b1 : ((wrap64 (x7_2 - t274)) != 1) = true := bne_iff_ne.mpr c23
            by_cases c24 : (wrap64 (x7_2 - t274)) = 0
            ·rw [if_pos c24] at H
             have c24b0 : ((wrap64 (x7_2 - t274)) == 0) = true := beq_iff_eq.mpr c24
             have c24b1 : ((wrap64 (x7_2 - t274)) != 0) = false := bne_eq_false_iff_eq.mpr c24
             clear c24
             have H' := aU H
             clear H
             go_wp2
             go_meet
             case rel => exact ⟨_, (!x10_14), eqU, H', ⟨by have := HJ2.out; have := HK2.out; have := HJ14.out; first | omega | exact Nat.le_refl _⟩, ⟨bkU⟩, ⟨hbU⟩⟩
            ·rw [if_neg c24] at H
             have c24b0 : ((wrap64 (x7_2 - t274)) == 0) = false := beq_eq_false_iff_ne.mpr c24
             have c24b1 : ((wrap64 (x7_2 - t274)) != 0) = true := bne_iff_ne.mpr c24
             have H' := aU H
             clear H
             go_wp2
             go_meet
             case rel => exact ⟨_, (false), eqU, H', ⟨by have := HJ2.out; have := HK2.out; have := HJ14.out; first | omega | exact Nat.le_refl _⟩, ⟨bkU⟩, ⟨hbU⟩⟩
         case rest =>
          clear HC21
          obtain ⟨kq, x11_20, rfl, HA, HJ20, BK273, HB⟩ := hcut
          cases kq with
          | zero => exact absurd HA.out (by simp [impl_visitLeaves.j3])
          | succ kj20 =>
           have H := HA.out
           clear HA
           simp only [impl_visitLeaves.j3] at H
           have HC25 := aU H
           clear H
           go_upto_region 10 with (fail)
           go_cut [69] (fun v69 wc => ∃ (kq : Nat) (x69_24 : Bool), v69 = .bool x69_24 ∧ Aside0 (impl_visitLeaves.j4 kq a0 l1 (wrap64 (x7_2 - t274)) x11_20 l1 (l1.length : Int) x29_2 x69_24 = some (r1, r2, r3)) ∧ Aside0 (kq ≤ kj20) ∧ Aside0 (wc.heap[gb273]? = some (.cells #[.int .i64 ((rd_T52 l1 x29_2).f0), .int .i64 ((rd_T52 l1 x29_2).f1)] 52 (0, 0))) ∧ Aside0 (Below w.heap.size w wc))
           case first =>
            have H := HC25.out
            clear HC25
            by_cases c26 : x10_14 = true
            ·subst c26
             rw [if_pos rfl] at H
             have H' := aU H
             clear H
             go_wp2
             go_meet
             case rel => exact ⟨_, (decide (x29_2 < (wrap64 ((l1.length : Int) - 1)))), eqU, H', ⟨by have := HJ2.out; have := HK2.out; have := HJ14.out; have := HJ20.out; first | omega | exact Nat.le_refl _⟩, ⟨bkU⟩, ⟨hbU⟩⟩
            ·replace c26 := Bool.eq_false_iff.mpr c26
             subst c26
             rw [if_neg (show ¬ (false = true) by decide)] at H
             by_cases c27 : x11_20 = true
             ·subst c27
              rw [if_pos rfl] at H
              have H' := aU H
              clear H
              go_wp2
              go_meet
              case rel => exact ⟨_, (decide (x29_2 < (wrap64 ((l1.length : Int) - 1)))), eqU, H', ⟨by have := HJ2.out; have := HK2.out; have := HJ14.out; have := HJ20.out; first | omega | exact Nat.le_refl _⟩, ⟨bkU⟩, ⟨hbU⟩⟩
             ·replace c27 := Bool.eq_false_iff.mpr c27
              subst c27
              rw [if_neg (show ¬ (false = true) by decide)] at H
              have H' := aU H
              clear H
              go_wp2
              go_meet
              case rel => exact ⟨_, (false), eqU, H', ⟨by have := HJ2.out; have := HK2.out; have := HJ14.out; have := HJ20.out; first | omega | exact Nat.le_refl _⟩, ⟨bkU⟩, ⟨hbU⟩⟩
           case rest =>
            clear HC25
            obtain ⟨kq, x69_24, rfl, HA, HJ24, BK273, HB⟩ := hcut
            cases kq with
            | zero => exact absurd HA.out (by simp [impl_visitLeaves.j4])
            | succ kj24 =>
             have H := HA.out
             clear HA
             simp only [impl_visitLeaves.j4] at H
             by_cases c28 : x69_24 = true
             ·subst c28
              rw [if_pos rfl] at H
              simp only [Option.some.injEq, Prod.mk.injEq] at H
              obtain ⟨rfl, rfl, rfl⟩ := H
              go_wp2
              go_ret3
              exact ⟨errU, hbU⟩
             ·replace c28 := Bool.eq_false_iff.mpr c28
              subst c28
              rw [if_neg (show ¬ (false = true) by decide)] at H
              by_cases c29 : x11_20 = true
              ·subst c29
               rw [if_pos rfl] at H
               simp only [Option.some.injEq, Prod.mk.injEq] at H
               obtain ⟨rfl, rfl, rfl⟩ := H
               go_wp2
               go_ret3
               exact ⟨errU, hbU⟩
              ·replace c29 := Bool.eq_false_iff.mpr c29
               subst c29
               rw [if_neg (show ¬ (false = true) by decide)] at H
               have H' := aU H
               clear H
               go_wp2
               go_roundg kj24
               case measure => have := HJ2.out; have := HK2.out; have := HJ14.out; have := HJ20.out; have := HJ24.out; omega
               case rel => exact ⟨((wrap64 (x7_2 - t274))), (wrap64 (x29_2 + 1)), eqU, eqU, H', ⟨by have := HJ2.out; have := HK2.out; have := HJ14.out; have := HJ20.out; have := HJ24.out; omega⟩, ⟨hbU⟩⟩
      ·rw [if_neg c11] at H
       have c11b0 : decide (x29_2 < (l1.length : Int)) = false := decide_eq_false c11
       clear c11
       simp only [Option.some.injEq, Prod.mk.injEq] at H
       obtain ⟨rfl, rfl, rfl⟩ := H
       go_wp2
       go_ret3
       exact ⟨errU, hbU⟩
def impl_LeftAfter.f (k : Nat) (a0 : Int) (l1 : List (S52)) : Option (Int × Bool) := (impl_visitLeaves.f k a0 l1).bind fun bt275 => (some (bt275.1, bt275.2.2))
theorem impl_LeftAfter.mono : ∀ a0 a1 k, LeO (impl_LeftAfter.f k a0 a1) (impl_LeftAfter.f (k + 1) a0 a1) := by
 intro a0 a1 k
 unfold impl_LeftAfter.f
 repeat' first
   | (with_reducible exact impl_visitLeaves.mono _ _ _)
   | (with_reducible exact LeO.refl _)
   | (with_reducible exact LeO.none _)
   | (with_reducible refine LeO.ite ?_ ?_)
   | (with_reducible refine LeO.bind ?_ (fun _ => ?_))
set_option maxHeartbeats 8000000 in
set_option maxRecDepth 100000 in
theorem impl_LeftAfter.calls (k : Nat) (a0 : Int) (A1 : Option Addr) (c1 : Nat) (l1 : List (S52)) (r1 : Int) (r2 : Bool) (w : World) (hr1 : Kd.C k52 w A1 l1.length l1) (hc1 : l1.length ≤ c1) (h : impl_LeftAfter.f k a0 l1 = some (r1, r2)) :
  Calls Tryz.prog 40 #[.int .i64 a0, .slice A1 l1.length c1] w fun e w' => e = .returned (.tuple #[.int .i64 r1, .bool r2]) ∧ Below w.heap.size w w' := by
 have HR1 := aU hr1
 have HC1 := aU hc1
 clear hr1 hc1
 have HB := aU (Below.refl w.heap.size w)
 have H : ((impl_visitLeaves.f k a0 l1).bind fun bt275 => (some (bt275.1, bt275.2.2))) = some (r1, r2) := h
 clear h
 replace H := bindS H
 obtain ⟨⟨t275, t276, t277⟩, A3, H⟩ := H
 (try dsimp only at H)
 simp only [Option.some.injEq, Prod.mk.injEq] at H
 obtain ⟨rfl, rfl⟩ := H
 go_enter Tryz.func40, Tryz.ntmps40
 go_wp2_with (first | ((with_reducible refine gcU 101 rfl ?_); refine goU (some 12) Tryz.func101 #[.int .i64 a0, .slice A1 l1.length c1] ?_; (with_reducible refine (impl_visitLeaves.calls k a0 _ _ l1 t275 t276 t277 _ ?side1 ?side2 A3.out).mono ?_); (case side1 => repeat (first | exact HR1.out | (with_reducible refine Kd.C_alloc ?_ _) | (with_reducible refine Kd.C_drewN ?_ _) | (with_reducible refine Kd.C_drew ?_))); (case side2 => exact HC1.out); rintro e w4 ⟨rfl, hb⟩; refine ⟨_, rfl, ?_⟩; replace HB := bsU hb; (try clear hb)))
 go_ret2
 exact ⟨errU, hbU⟩
def spec_daList.l0 : Nat → List (S52) → Int → Int → Option (Bool)
 | 0, _, _, _ => none
 | k + 1, x15, x16, x17 => if x17 < x16 then (if 0 ≤ x17 then (if x17 < (x15.length : Int) then ((spec_daGood.f ((rd_T52 x15 x17).f0) ((rd_T52 x15 x17).f1)).bind fun t281 => (if t281 = true then (spec_daList.l0 k x15 x16 (wrap64 (x17 + 1))) else (some false))) else (none)) else (none)) else (some true)
def spec_daList.f (k : Nat) (l0 : List (S52)) (a1 : Int) (a2 : Int) : Option (Bool) := (spec_l1In.f (l0.length : Int) a1 a2).bind fun t278 => (if t278 = true then (spec_daList.l0 k l0 (l0.length : Int) 0) else (some false))
theorem spec_daList.mono_l : ∀ k, (∀ y0 y1 y2, LeO (spec_daList.l0 k y0 y1 y2) (spec_daList.l0 (k + 1) y0 y1 y2))
 | 0 => fun _ _ _ r h => by simp [spec_daList.l0] at h
 | k + 1 => by
  have ih0 := spec_daList.mono_l k
  all_goals intros
  all_goals first | unfold spec_daList.l0
  all_goals repeat' first
  | (with_reducible exact ih0 _ _ _)
  | (with_reducible exact LeO.refl _)
  | (with_reducible exact LeO.none _)
  | (with_reducible refine LeO.ite ?_ ?_)
  | (with_reducible refine LeO.bind ?_ (fun _ => ?_))
theorem spec_daList.mono : ∀ a0 a1 a2 k, LeO (spec_daList.f k a0 a1 a2) (spec_daList.f (k + 1) a0 a1 a2) := by
 intro a0 a1 a2 k
 have ih0 := spec_daList.mono_l k
 unfold spec_daList.f
 repeat' first
   | (with_reducible exact ih0 _ _ _)
   | (with_reducible exact LeO.refl _)
   | (with_reducible exact LeO.none _)
   | (with_reducible refine LeO.ite ?_ ?_)
   | (with_reducible refine LeO.bind ?_ (fun _ => ?_))
set_option maxHeartbeats 8000000 in
set_option maxRecDepth 100000 in
theorem spec_daList.calls (k : Nat) (A0 : Option Addr) (c0 : Nat) (l0 : List (S52)) (a1 : Int) (a2 : Int) (r : Bool) (w : World) (hr0 : Kd.C k52 w A0 l0.length l0) (hc0 : l0.length ≤ c0) (h : spec_daList.f k l0 a1 a2 = some r) :
  Calls Tryz.prog 109 #[.slice A0 l0.length c0, .int .i64 a1, .int .i64 a2] w fun e w' => e = .returned (.bool r) ∧ Below w.heap.size w w' := by
 have hu52 := Tryz.underlying52
 have HR0 := aU hr0
 have HC0 := aU hc0
 clear hr0 hc0
 have HB := aU (Below.refl w.heap.size w)
 have H : ((spec_l1In.f (l0.length : Int) a1 a2).bind fun t278 => (if t278 = true then (spec_daList.l0 k l0 (l0.length : Int) 0) else (some false))) = some r := h
 clear h
 replace H := bindS H
 obtain ⟨t278, A4, H⟩ := H
 (try dsimp only at H)
 by_cases c5 : t278 = true
 ·subst c5
  rw [if_pos rfl] at H
  have H' := aU H
  clear H
  go_enter Tryz.func109, Tryz.ntmps109
  go_wp2_with (first | ((with_reducible refine gcU 96 rfl ?_); refine goU (some 13) Tryz.func96 #[.int .i64 (l0.length : Int), .int .i64 a1, .int .i64 a2] ?_; (with_reducible refine (spec_l1In.calls (l0.length : Int) a1 a2 true _ A4.out).mono ?_); rintro e w' ⟨rfl, ⟨nd, rfl⟩⟩; refine ⟨_, rfl, ?_⟩))
  go_loopg [17] k (fun kq v17 w' => ∃ (x17_1 : Int), v17 = .int .i64 x17_1 ∧ Aside0 (spec_daList.l0 kq l0 (l0.length : Int) x17_1 = some r) ∧ Aside0 (kq ≤ k) ∧ Aside0 (Below w.heap.size w w'))
  case atStart => exact ⟨(0), eqU, H', ⟨Nat.le_refl _⟩, ⟨hbU⟩⟩
  case round =>
   clear H'
   (try clear c5)
   obtain ⟨x17_1, rfl, HA, HK1, HB⟩ := hrel
   cases gk with
   | zero => exact absurd HA.out (by simp [spec_daList.l0])
   | succ k1 =>
    have H := HA.out
    clear HA
    simp only [spec_daList.l0] at H
    by_cases c6 : x17_1 < (l0.length : Int)
    ·rw [if_pos c6] at H
     have c6b0 : decide (x17_1 < (l0.length : Int)) = true := decide_eq_true c6
     clear c6
     replace H := ifS H
     obtain ⟨c7, H⟩ := H
     have c7b0 : decide (0 ≤ x17_1) = true := decide_eq_true c7
     clear c7
     replace H := ifS H
     obtain ⟨c8, H⟩ := H
     have c8b0 : decide (x17_1 < (l0.length : Int)) = true := decide_eq_true c8
     clear c8
     replace H := bindS H
     obtain ⟨t281, A9, H⟩ := H
     (try dsimp only at H)
     by_cases c10 : t281 = true
     ·subst c10
      rw [if_pos rfl] at H
      have H' := aU H
      clear H
      have p279 : 0 ≤ (x17_1 : Int) := dU
      have q279 : x17_1 < (l0.length : Int) := dU
      obtain ⟨ad279, e279, hx279_0, hx279_1⟩ := at_T52 HR0.out x17_1 p279 q279
      cases e279
      replace hx279_0 := (HB.out.cell (World.block_lt_of_cell? w _ hx279_0)).trans hx279_0
      replace hx279_1 := (HB.out.cell (World.block_lt_of_cell? w _ hx279_1)).trans hx279_1
      replace p279 := eq_true p279
      replace q279 := eq_true q279
      go_wp2_with (first | ((with_reducible refine gdU 8 rfl ?_); refine bxU (cs := #[.int .i64 0, .int .i64 0]) (t := 52) ?_; intro gb280 hg w11 hbox hb; have BK280 := aU (hbox); have GW280 := geU hg; have GE280 := geU hg; replace HB := bsU hb; clear hb hbox hg; obtain ⟨hcz12_0, hcz12_1, hfz12_0, hfz12_1⟩ := b2U BK280) | ((with_reducible refine gcU 117 rfl ?_); refine goU (some 22) Tryz.func117 #[.agg #[.int .i64 ((rd_T52 l0 x17_1).f0), .int .i64 ((rd_T52 l0 x17_1).f1)]] ?_; (with_reducible refine (spec_daGood.calls ((rd_T52 l0 x17_1).f0) ((rd_T52 l0 x17_1).f1) true _ A9.out).mono ?_); rintro e w13 ⟨rfl, hb⟩; refine ⟨_, rfl, ?_⟩; replace BK280 := aU (blk_below (g := gb280) (o := .cells #[.int .i64 ((rd_T52 l0 x17_1).f0), .int .i64 ((rd_T52 l0 x17_1).f1)] 52 (0, 0)) bkU hb); replace HB := bsU hb; (try clear hb)))
      go_roundg k1
      case measure => have := HK1.out; omega
      case rel => exact ⟨(wrap64 (x17_1 + 1)), eqU, H', ⟨by have := HK1.out; omega⟩, ⟨hbU⟩⟩
     ·replace c10 := Bool.eq_false_iff.mpr c10
      subst c10
      rw [if_neg (show ¬ (false = true) by decide)] at H
      obtain rfl := Option.some.inj H
      have p279 : 0 ≤ (x17_1 : Int) := dU
      have q279 : x17_1 < (l0.length : Int) := dU
      obtain ⟨ad279, e279, hx279_0, hx279_1⟩ := at_T52 HR0.out x17_1 p279 q279
      cases e279
      replace hx279_0 := (HB.out.cell (World.block_lt_of_cell? w _ hx279_0)).trans hx279_0
      replace hx279_1 := (HB.out.cell (World.block_lt_of_cell? w _ hx279_1)).trans hx279_1
      replace p279 := eq_true p279
      replace q279 := eq_true q279
      go_wp2_with (first | ((with_reducible refine gdU 8 rfl ?_); refine bxU (cs := #[.int .i64 0, .int .i64 0]) (t := 52) ?_; intro gb280 hg w14 hbox hb; have BK280 := aU (hbox); have GW280 := geU hg; have GE280 := geU hg; replace HB := bsU hb; clear hb hbox hg; obtain ⟨hcz15_0, hcz15_1, hfz15_0, hfz15_1⟩ := b2U BK280) | ((with_reducible refine gcU 117 rfl ?_); refine goU (some 22) Tryz.func117 #[.agg #[.int .i64 ((rd_T52 l0 x17_1).f0), .int .i64 ((rd_T52 l0 x17_1).f1)]] ?_; (with_reducible refine (spec_daGood.calls ((rd_T52 l0 x17_1).f0) ((rd_T52 l0 x17_1).f1) false _ A9.out).mono ?_); rintro e w16 ⟨rfl, hb⟩; refine ⟨_, rfl, ?_⟩; replace BK280 := aU (blk_below (g := gb280) (o := .cells #[.int .i64 ((rd_T52 l0 x17_1).f0), .int .i64 ((rd_T52 l0 x17_1).f1)] 52 (0, 0)) bkU hb); replace HB := bsU hb; (try clear hb)))
      go_ret
      exact ⟨errU, hbU⟩
    ·rw [if_neg c6] at H
     have c6b0 : decide (x17_1 < (l0.length : Int)) = false := decide_eq_false c6
     clear c6
     obtain rfl := Option.some.inj H
     go_wp2
     go_ret
     exact ⟨errU, hbU⟩
 ·replace c5 := Bool.eq_false_iff.mpr c5
  subst c5
  rw [if_neg (show ¬ (false = true) by decide)] at H
  obtain rfl := Option.some.inj H
  go_enter Tryz.func109, Tryz.ntmps109
  go_wp2_with (first | ((with_reducible refine gcU 96 rfl ?_); refine goU (some 13) Tryz.func96 #[.int .i64 (l0.length : Int), .int .i64 a1, .int .i64 a2] ?_; (with_reducible refine (spec_l1In.calls (l0.length : Int) a1 a2 false _ A4.out).mono ?_); rintro e w' ⟨rfl, ⟨nd, rfl⟩⟩; refine ⟨_, rfl, ?_⟩))
  go_ret
  exact ⟨errU, hbU⟩
def spec_daAsked.f (k : Nat) (a0 : Int) (l1 : List (S52)) : Option (Bool) := (spec_l1In.f a0 1 1001).bind fun t282 => (if t282 = true then ((spec_daList.f k l1 1 3).bind fun t283 => (some t283)) else (some false))
theorem spec_daAsked.mono : ∀ a0 a1 k, LeO (spec_daAsked.f k a0 a1) (spec_daAsked.f (k + 1) a0 a1) := by
 intro a0 a1 k
 unfold spec_daAsked.f
 repeat' first
   | (with_reducible exact spec_daList.mono _ _ _ _)
   | (with_reducible exact LeO.refl _)
   | (with_reducible exact LeO.none _)
   | (with_reducible refine LeO.ite ?_ ?_)
   | (with_reducible refine LeO.bind ?_ (fun _ => ?_))
set_option maxHeartbeats 8000000 in
set_option maxRecDepth 100000 in
theorem spec_daAsked.calls (k : Nat) (a0 : Int) (A1 : Option Addr) (c1 : Nat) (l1 : List (S52)) (r : Bool) (w : World) (hr1 : Kd.C k52 w A1 l1.length l1) (hc1 : l1.length ≤ c1) (h : spec_daAsked.f k a0 l1 = some r) :
  Calls Tryz.prog 102 #[.int .i64 a0, .slice A1 l1.length c1] w fun e w' => e = .returned (.bool r) ∧ Below w.heap.size w w' := by
 have HR1 := aU hr1
 have HC1 := aU hc1
 clear hr1 hc1
 have HB := aU (Below.refl w.heap.size w)
 have H : ((spec_l1In.f a0 1 1001).bind fun t282 => (if t282 = true then ((spec_daList.f k l1 1 3).bind fun t283 => (some t283)) else (some false))) = some r := h
 clear h
 replace H := bindS H
 obtain ⟨t282, A3, H⟩ := H
 (try dsimp only at H)
 by_cases c4 : t282 = true
 ·subst c4
  rw [if_pos rfl] at H
  replace H := bindS H
  obtain ⟨t283, A5, H⟩ := H
  (try dsimp only at H)
  obtain rfl := Option.some.inj H
  go_enter Tryz.func102, Tryz.ntmps102
  go_wp2_with (first | ((with_reducible refine gcU 96 rfl ?_); refine goU (some 6) Tryz.func96 #[.int .i64 a0, .int .i64 1, .int .i64 1001] ?_; (with_reducible refine (spec_l1In.calls a0 1 1001 true _ A3.out).mono ?_); rintro e w' ⟨rfl, ⟨nd, rfl⟩⟩; refine ⟨_, rfl, ?_⟩) | (go_at_call 109; (with_reducible refine (spec_daList.calls k _ _ l1 1 3 t283 _ ?side1 ?side2 A5.out).mono ?_); (case side1 => repeat (first | exact HR1.out | (with_reducible refine Kd.C_alloc ?_ _) | (with_reducible refine Kd.C_drewN ?_ _) | (with_reducible refine Kd.C_drew ?_))); (case side2 => exact HC1.out); rintro e w6 ⟨rfl, hb⟩; replace HB := bsU hb; (try clear hb)))
  go_ret
  exact ⟨errU, hbU⟩
 ·replace c4 := Bool.eq_false_iff.mpr c4
  subst c4
  rw [if_neg (show ¬ (false = true) by decide)] at H
  obtain rfl := Option.some.inj H
  go_enter Tryz.func102, Tryz.ntmps102
  go_wp2_with (first | ((with_reducible refine gcU 96 rfl ?_); refine goU (some 6) Tryz.func96 #[.int .i64 a0, .int .i64 1, .int .i64 1001] ?_; (with_reducible refine (spec_l1In.calls a0 1 1001 false _ A3.out).mono ?_); rintro e w' ⟨rfl, ⟨nd, rfl⟩⟩; refine ⟨_, rfl, ?_⟩))
  go_ret
  exact ⟨errU, hbU⟩
end Go.Proofs.YtcmlmjgoidpabaaGreatDoor.MFnDartsPlayed

