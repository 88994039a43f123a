/- Walks of the functions that the law reaches: each comes to just what the function that is told of it tells, for all arguments. -/
import Derived.Test.YtcmlmjgoidpabaaGreatDoorYMFnDartsPlayedx6
namespace Go.Proofs.YtcmlmjgoidpabaaGreatDoor.MFnDartsPlayed
open Go.RowKit Go.Proofs.YtcmlmjgoidpabaaGreatDoorW.PrintWords Go.Proofs.YtcmlmjgoidpabaaGreatDoorW.PrintLast Go.Proofs.YtcmlmjgoidpabaaGreatDoorW.PrintMore
attribute [local go_sem] max2_int min2_int max_two min_two max_three min_three max_four min_four
set_option linter.unusedVariables false
set_option linter.unusedSimpArgs false
mutual
def impl_ScoreOf.j0 : Nat → List (S52) → Bool → Option (Int × Bool)
 | 0, _, _ => none
 | k + 1, x0, x14 => if x14 = true then (some (0, false)) else (impl_ScoreOf.l0 k 0 x0 (x0.length : Int) 0)
def impl_ScoreOf.l0 : Nat → Int → List (S52) → Int → Int → Option (Int × Bool)
 | 0, _, _, _, _ => none
 | k + 1, x4, x15, x16, x17 => if x17 < x16 then (if 0 ≤ x17 then (if x17 < (x15.length : Int) then ((impl_Dart_score.f ((rd_T52 x15 x17).f0) ((rd_T52 x15 x17).f1)).bind fun t402 => (impl_ScoreOf.l0 k (wrap64 (x4 + t402)) x15 x16 (wrap64 (x17 + 1)))) else (none)) else (none)) else (some (x4, true))
end
def impl_ScoreOf.f (k : Nat) (l0 : List (S52)) : Option (Int × Bool) := if (l0.length : Int) > 9 then (impl_ScoreOf.j0 k l0 true) else ((impl_areDarts.f k l0).bind fun t399 => (impl_ScoreOf.j0 k l0 (!t399)))
theorem impl_ScoreOf.mono_l : ∀ k, (∀ y0 y1, LeO (impl_ScoreOf.j0 k y0 y1) (impl_ScoreOf.j0 (k + 1) y0 y1)) ∧ (∀ y0 y1 y2 y3, LeO (impl_ScoreOf.l0 k y0 y1 y2 y3) (impl_ScoreOf.l0 (k + 1) y0 y1 y2 y3))
 | 0 => ⟨fun _ _ r h => by simp [impl_ScoreOf.j0] at h, fun _ _ _ _ r h => by simp [impl_ScoreOf.l0] at h⟩
 | k + 1 => by
  obtain ⟨ih0, ih1⟩ := impl_ScoreOf.mono_l k
  refine ⟨?_, ?_⟩
  all_goals intros
  all_goals first | unfold impl_ScoreOf.j0 | unfold impl_ScoreOf.l0
  all_goals repeat' first
  | (with_reducible exact ih0 _ _)
  | (with_reducible exact ih1 _ _ _ _)
  | (with_reducible exact impl_areDarts.mono _ _)
  | (with_reducible exact LeO.refl _)
  | (with_reducible exact LeO.none _)
  | (with_reducible refine LeO.ite ?_ ?_)
  | (with_reducible refine LeO.bind ?_ (fun _ => ?_))
theorem impl_ScoreOf.mono : ∀ a0 k, LeO (impl_ScoreOf.f k a0) (impl_ScoreOf.f (k + 1) a0) := by
 intro a0 k
 obtain ⟨ih0, ih1⟩ := impl_ScoreOf.mono_l k
 unfold impl_ScoreOf.f
 repeat' first
   | (with_reducible exact ih0 _ _)
   | (with_reducible exact ih1 _ _ _ _)
   | (with_reducible exact impl_areDarts.mono _ _)
   | (with_reducible exact LeO.refl _)
   | (with_reducible exact LeO.none _)
   | (with_reducible refine LeO.ite ?_ ?_)
   | (with_reducible refine LeO.bind ?_ (fun _ => ?_))
set_option maxHeartbeats 8000000 in
set_option maxRecDepth 100000 in
theorem impl_ScoreOf.calls (k : Nat) (A0 : Option Addr) (c0 : Nat) (l0 : List (S52)) (r1 : Int) (r2 : Bool) (w : World) (hr0 : Kd.C k52 w A0 l0.length l0) (hc0 : l0.length ≤ c0) (h : impl_ScoreOf.f k l0 = some (r1, r2)) :
  Calls Tryz.prog 49 #[.slice A0 l0.length c0] w fun e w' => e = .returned (.tuple #[.int .i64 r1, .bool r2]) ∧ Below w.heap.size w w' := by
 have hu52 := Tryz.underlying52
 have HR0 := aU hr0
 have HC0 := aU hc0
 clear hr0 hc0
 have HB := aU (Below.refl w.heap.size w)
 have H : (if (l0.length : Int) > 9 then (impl_ScoreOf.j0 k l0 true) else ((impl_areDarts.f k l0).bind fun t399 => (impl_ScoreOf.j0 k l0 (!t399)))) = some (r1, r2) := h
 clear h
 have HC2 := aU H
 clear H
 go_enter Tryz.func49, Tryz.ntmps49
 go_upto_region 1 with (fail)
 go_cut [14] (fun v14 wc => ∃ (kq : Nat) (x14_1 : Bool), v14 = .bool x14_1 ∧ Aside0 (impl_ScoreOf.j0 kq l0 x14_1 = some (r1, r2)) ∧ Aside0 (kq ≤ k) ∧ Aside0 (Below w.heap.size w wc))
 case first =>
  have H := HC2.out
  clear HC2
  by_cases c3 : (l0.length : Int) > 9
  ·rw [if_pos c3] at H
   have c3b0 : decide (9 < (l0.length : Int)) = true := decide_eq_true c3
   have c3b1 : decide (9 < l0.length) = true := decide_eq_true (by omega)
   clear c3
   (first | rw [c3b0] | (simp only [i64_w, i32_w]; rw [c3b0]) | skip)
   have H' := aU H
   clear H
   go_wp2
   go_meet
   case rel => exact ⟨_, (true), eqU, H', ⟨by first | omega | exact Nat.le_refl _⟩, ⟨hbU⟩⟩
  ·rw [if_neg c3] at H
   have c3b0 : decide (9 < (l0.length : Int)) = false := decide_eq_false c3
   have c3b1 : decide (9 < l0.length) = false := decide_eq_false (by omega)
   clear c3
   (first | rw [c3b0] | (simp only [i64_w, i32_w]; rw [c3b0]) | skip)
   replace H := bindS H
   obtain ⟨t399, A4, H⟩ := H
   (try dsimp only at H)
   have H' := aU H
   clear H
   go_wp2_with (first | (go_at_call 107; (with_reducible refine (impl_areDarts.calls k _ _ l0 t399 _ ?side1 ?side2 A4.out).mono ?_); (case side1 => repeat (first | exact (Kd.C_below HR0.out HB.out) | (with_reducible refine Kd.C_alloc ?_ _) | (with_reducible refine Kd.C_drewN ?_ _) | (with_reducible refine Kd.C_drew ?_))); (case side2 => exact HC0.out); rintro e w5 ⟨rfl, hb⟩; replace HB := bsU hb; (try clear hb)))
   go_meet
   case rel => exact ⟨_, (!t399), eqU, H', ⟨by first | omega | exact Nat.le_refl _⟩, ⟨hbU⟩⟩
 case rest =>
  clear HC2
  obtain ⟨kq, x14_1, rfl, HA, HJ1, HB⟩ := hcut
  cases kq with
  | zero => exact absurd HA.out (by simp [impl_ScoreOf.j0])
  | succ kj1 =>
   have H := HA.out
   clear HA
   simp only [impl_ScoreOf.j0] at H
   by_cases c6 : x14_1 = true
   ·subst c6
    rw [if_pos rfl] at H
    simp only [Option.some.injEq, Prod.mk.injEq] at H
    obtain ⟨rfl, rfl⟩ := H
    go_wp2
    go_ret2
    exact ⟨errU, hbU⟩
   ·replace c6 := Bool.eq_false_iff.mpr c6
    subst c6
    rw [if_neg (show ¬ (false = true) by decide)] at H
    have H' := aU H
    clear H
    go_wp2
    go_loopg [4, 17] kj1 (fun kq v4 v17 w' => ∃ (x4_2 : Int) (x17_2 : Int), v4 = .int .i64 x4_2 ∧ v17 = .int .i64 x17_2 ∧ Aside0 (impl_ScoreOf.l0 kq x4_2 l0 (l0.length : Int) x17_2 = some (r1, r2)) ∧ Aside0 (kq ≤ kj1) ∧ Aside0 (Below w.heap.size w w'))
    case atStart => exact ⟨(0), (0), eqU, eqU, H', ⟨Nat.le_refl _⟩, ⟨hbU⟩⟩
    case round =>
     clear H'
     (try clear c6)
     obtain ⟨x4_2, x17_2, rfl, rfl, HA, HK2, HB⟩ := hrel
     cases gk with
     | zero => exact absurd HA.out (by simp [impl_ScoreOf.l0])
     | succ k2 =>
      have H := HA.out
      clear HA
      simp only [impl_ScoreOf.l0] at H
      by_cases c7 : x17_2 < (l0.length : Int)
      ·rw [if_pos c7] at H
       have c7b0 : decide (x17_2 < (l0.length : Int)) = true := decide_eq_true c7
       clear c7
       replace H := ifS H
       obtain ⟨c8, H⟩ := H
       have c8b0 : decide (0 ≤ x17_2) = true := decide_eq_true c8
       clear c8
       replace H := ifS H
       obtain ⟨c9, H⟩ := H
       have c9b0 : decide (x17_2 < (l0.length : Int)) = true := decide_eq_true c9
       clear c9
       replace H := bindS H
       obtain ⟨t402, A10, H⟩ := H
       (try dsimp only at H)
       have H' := aU H
       clear H
       have p400 : 0 ≤ (x17_2 : Int) := dU
       have q400 : x17_2 < (l0.length : Int) := dU
       obtain ⟨ad400, e400, hx400_0, hx400_1⟩ := at_T52 HR0.out x17_2 p400 q400
       cases e400
       replace hx400_0 := (HB.out.cell (World.block_lt_of_cell? w _ hx400_0)).trans hx400_0
       replace hx400_1 := (HB.out.cell (World.block_lt_of_cell? w _ hx400_1)).trans hx400_1
       replace p400 := eq_true p400
       replace q400 := eq_true q400
       go_wp2_with (first | ((with_reducible refine gdU 6 rfl ?_); refine bxU (cs := #[.int .i64 0, .int .i64 0]) (t := 52) ?_; intro gb401 hg w11 hbox hb; have BK401 := aU (hbox); have GW401 := geU hg; have GE401 := geU hg; replace HB := bsU hb; clear hb hbox hg; obtain ⟨hcz12_0, hcz12_1, hfz12_0, hfz12_1⟩ := b2U BK401) | ((with_reducible refine gcU 108 rfl ?_); refine goU (some 23) Tryz.func108 #[.agg #[.int .i64 ((rd_T52 l0 x17_2).f0), .int .i64 ((rd_T52 l0 x17_2).f1)]] ?_; (with_reducible refine (impl_Dart_score.calls ((rd_T52 l0 x17_2).f0) ((rd_T52 l0 x17_2).f1) t402 _ A10.out).mono ?_); rintro e w13 ⟨rfl, hb⟩; refine ⟨_, rfl, ?_⟩; replace BK401 := aU (blk_below (g := gb401) (o := .cells #[.int .i64 ((rd_T52 l0 x17_2).f0), .int .i64 ((rd_T52 l0 x17_2).f1)] 52 (0, 0)) bkU hb); replace HB := bsU hb; (try clear hb)))
       go_roundg k2
       case measure => have := HJ1.out; have := HK2.out; omega
       case rel => exact ⟨(wrap64 (x4_2 + t402)), (wrap64 (x17_2 + 1)), eqU, eqU, H', ⟨by have := HJ1.out; have := HK2.out; omega⟩, ⟨hbU⟩⟩
      ·rw [if_neg c7] at H
       have c7b0 : decide (x17_2 < (l0.length : Int)) = false := decide_eq_false c7
       clear c7
       simp only [Option.some.injEq, Prod.mk.injEq] at H
       obtain ⟨rfl, rfl⟩ := H
       go_wp2
       go_ret2
       exact ⟨errU, hbU⟩
def spec_daScore.l0 : Nat → Int → List (S52) → Int → Int → Option (Int)
 | 0, _, _, _, _ => none
 | k + 1, x3, x6, x7, x8 => if x8 < x7 then (if 0 ≤ x8 then (if x8 < (x6.length : Int) then (spec_daScore.l0 k (wrap64 (x3 + (wrap64 (((rd_T52 x6 x8).f0) * ((rd_T52 x6 x8).f1))))) x6 x7 (wrap64 (x8 + 1))) else (none)) else (none)) else (some x3)
def spec_daScore.f (k : Nat) (l0 : List (S52)) : Option (Int) := spec_daScore.l0 k 0 l0 (l0.length : Int) 0
theorem spec_daScore.mono_l : ∀ k, (∀ y0 y1 y2 y3, LeO (spec_daScore.l0 k y0 y1 y2 y3) (spec_daScore.l0 (k + 1) y0 y1 y2 y3))
 | 0 => fun _ _ _ _ r h => by simp [spec_daScore.l0] at h
 | k + 1 => by
  have ih0 := spec_daScore.mono_l k
  all_goals intros
  all_goals first | unfold spec_daScore.l0
  all_goals repeat' first
  | (with_reducible exact ih0 _ _ _ _)
  | (with_reducible exact LeO.refl _)
  | (with_reducible exact LeO.none _)
  | (with_reducible refine LeO.ite ?_ ?_)
  | (with_reducible refine LeO.bind ?_ (fun _ => ?_))
theorem spec_daScore.mono : ∀ a0 k, LeO (spec_daScore.f k a0) (spec_daScore.f (k + 1) a0) := by
 intro a0 k
 have ih0 := spec_daScore.mono_l k
 unfold spec_daScore.f
 repeat' first
   | (with_reducible exact ih0 _ _ _ _)
   | (with_reducible exact LeO.refl _)
   | (with_reducible exact LeO.none _)
   | (with_reducible refine LeO.ite ?_ ?_)
   | (with_reducible refine LeO.bind ?_ (fun _ => ?_))
set_option maxHeartbeats 8000000 in
set_option maxRecDepth 100000 in
theorem spec_daScore.calls (k : Nat) (A0 : Option Addr) (c0 : Nat) (l0 : List (S52)) (r : Int) (w : World) (hr0 : Kd.C k52 w A0 l0.length l0) (hc0 : l0.length ≤ c0) (h : spec_daScore.f k l0 = some r) :
  Calls Tryz.prog 110 #[.slice A0 l0.length c0] w fun e w' => e = .returned (.int .i64 r) ∧ Below w.heap.size w w' := by
 have hu52 := Tryz.underlying52
 have HR0 := aU hr0
 have HC0 := aU hc0
 clear hr0 hc0
 have HB := aU (Below.refl w.heap.size w)
 have H : (spec_daScore.l0 k 0 l0 (l0.length : Int) 0) = some r := h
 clear h
 have H' := aU H
 clear H
 go_enter Tryz.func110, Tryz.ntmps110
 go_wp2
 go_loopg [3, 8] k (fun kq v3 v8 w' => ∃ (x3_1 : Int) (x8_1 : Int), v3 = .int .i64 x3_1 ∧ v8 = .int .i64 x8_1 ∧ Aside0 (spec_daScore.l0 kq x3_1 l0 (l0.length : Int) x8_1 = some r) ∧ Aside0 (kq ≤ k) ∧ Aside0 (Below w.heap.size w w'))
 case atStart => exact ⟨(0), (0), eqU, eqU, H', ⟨Nat.le_refl _⟩, ⟨hbU⟩⟩
 case round =>
  clear H'
  obtain ⟨x3_1, x8_1, rfl, rfl, HA, HK1, HB⟩ := hrel
  cases gk with
  | zero => exact absurd HA.out (by simp [spec_daScore.l0])
  | succ k1 =>
   have H := HA.out
   clear HA
   simp only [spec_daScore.l0] at H
   by_cases c2 : x8_1 < (l0.length : Int)
   ·rw [if_pos c2] at H
    have c2b0 : decide (x8_1 < (l0.length : Int)) = true := decide_eq_true c2
    clear c2
    replace H := ifS H
    obtain ⟨c3, H⟩ := H
    have c3b0 : decide (0 ≤ x8_1) = true := decide_eq_true c3
    clear c3
    replace H := ifS H
    obtain ⟨c4, H⟩ := H
    have c4b0 : decide (x8_1 < (l0.length : Int)) = true := decide_eq_true c4
    clear c4
    have H' := aU H
    clear H
    have p403 : 0 ≤ (x8_1 : Int) := dU
    have q403 : x8_1 < (l0.length : Int) := dU
    obtain ⟨ad403, e403, hx403_0, hx403_1⟩ := at_T52 HR0.out x8_1 p403 q403
    cases e403
    replace hx403_0 := (HB.out.cell (World.block_lt_of_cell? w _ hx403_0)).trans hx403_0
    replace hx403_1 := (HB.out.cell (World.block_lt_of_cell? w _ hx403_1)).trans hx403_1
    replace p403 := eq_true p403
    replace q403 := eq_true q403
    go_wp2_with (first | ((with_reducible refine gdU 5 rfl ?_); refine bxU (cs := #[.int .i64 0, .int .i64 0]) (t := 52) ?_; intro gb404 hg w5 hbox hb; have BK404 := aU (hbox); have GW404 := geU hg; have GE404 := geU hg; replace HB := bsU hb; clear hb hbox hg; obtain ⟨hcz6_0, hcz6_1, hfz6_0, hfz6_1⟩ := b2U BK404))
    go_roundg k1
    case measure => have := HK1.out; omega
    case rel => exact ⟨(wrap64 (x3_1 + (wrap64 (((rd_T52 l0 x8_1).f0) * ((rd_T52 l0 x8_1).f1))))), (wrap64 (x8_1 + 1)), eqU, eqU, H', ⟨by have := HK1.out; omega⟩, ⟨hbU⟩⟩
   ·rw [if_neg c2] at H
    have c2b0 : decide (x8_1 < (l0.length : Int)) = false := decide_eq_false c2
    clear c2
    obtain rfl := Option.some.inj H
    go_wp2
    go_ret
    exact ⟨errU, hbU⟩
def spec_ScoreOf.f (k : Nat) (l0 : List (S52)) : Option (Int × Bool) := (spec_daList.f k l0 0 9).bind fun t405 => (if t405 = true then ((spec_daScore.f k l0).bind fun t406 => (some (t406, true))) else (some (0, false)))
theorem spec_ScoreOf.mono : ∀ a0 k, LeO (spec_ScoreOf.f k a0) (spec_ScoreOf.f (k + 1) a0) := by
 intro a0 k
 unfold spec_ScoreOf.f
 repeat' first
   | (with_reducible exact spec_daList.mono _ _ _ _)
   | (with_reducible exact spec_daScore.mono _ _)
   | (with_reducible exact LeO.refl _)
   | (with_reducible exact LeO.none _)
   | (with_reducible refine LeO.ite ?_ ?_)
   | (with_reducible refine LeO.bind ?_ (fun _ => ?_))
set_option maxHeartbeats 8000000 in
set_option maxRecDepth 100000 in
theorem spec_ScoreOf.calls (k : Nat) (A0 : Option Addr) (c0 : Nat) (l0 : List (S52)) (r1 : Int) (r2 : Bool) (w : World) (hr0 : Kd.C k52 w A0 l0.length l0) (hc0 : l0.length ≤ c0) (h : spec_ScoreOf.f k l0 = some (r1, r2)) :
  Calls Tryz.prog 50 #[.slice A0 l0.length c0] w fun e w' => e = .returned (.tuple #[.int .i64 r1, .bool r2]) ∧ Below w.heap.size w w' := by
 have HR0 := aU hr0
 have HC0 := aU hc0
 clear hr0 hc0
 have HB := aU (Below.refl w.heap.size w)
 have H : ((spec_daList.f k l0 0 9).bind fun t405 => (if t405 = true then ((spec_daScore.f k l0).bind fun t406 => (some (t406, true))) else (some (0, false)))) = some (r1, r2) := h
 clear h
 replace H := bindS H
 obtain ⟨t405, A2, H⟩ := H
 (try dsimp only at H)
 by_cases c3 : t405 = true
 ·subst c3
  rw [if_pos rfl] at H
  replace H := bindS H
  obtain ⟨t406, A4, H⟩ := H
  (try dsimp only at H)
  simp only [Option.some.injEq, Prod.mk.injEq] at H
  obtain ⟨rfl, rfl⟩ := H
  go_enter Tryz.func50, Tryz.ntmps50
  go_wp2_with (first | ((with_reducible refine gcU 109 rfl ?_); refine goU (some 5) Tryz.func109 #[.slice A0 l0.length c0, .int .i64 0, .int .i64 9] ?_; (with_reducible refine (spec_daList.calls k _ _ l0 0 9 true _ ?side1 ?side2 A2.out).mono ?_); (case side1 => repeat (first | exact HR0.out | (with_reducible refine Kd.C_alloc ?_ _) | (with_reducible refine Kd.C_drewN ?_ _) | (with_reducible refine Kd.C_drew ?_))); (case side2 => exact HC0.out); rintro e w5 ⟨rfl, hb⟩; refine ⟨_, rfl, ?_⟩; replace HB := bsU hb; (try clear hb)) | ((with_reducible refine gcU 110 rfl ?_); refine goU (some 8) Tryz.func110 #[.slice A0 l0.length c0] ?_; (with_reducible refine (spec_daScore.calls k _ _ l0 t406 _ ?side1 ?side2 A4.out).mono ?_); (case side1 => repeat (first | exact (Kd.C_below HR0.out HB.out) | (with_reducible refine Kd.C_alloc ?_ _) | (with_reducible refine Kd.C_drewN ?_ _) | (with_reducible refine Kd.C_drew ?_))); (case side2 => exact HC0.out); rintro e w6 ⟨rfl, hb⟩; refine ⟨_, rfl, ?_⟩; replace HB := bsU hb; (try clear hb)))
  go_ret2
  exact ⟨errU, hbU⟩
 ·replace c3 := Bool.eq_false_iff.mpr c3
  subst c3
  rw [if_neg (show ¬ (false = true) by decide)] at H
  simp only [Option.some.injEq, Prod.mk.injEq] at H
  obtain ⟨rfl, rfl⟩ := H
  go_enter Tryz.func50, Tryz.ntmps50
  go_wp2_with (first | ((with_reducible refine gcU 109 rfl ?_); refine goU (some 5) Tryz.func109 #[.slice A0 l0.length c0, .int .i64 0, .int .i64 9] ?_; (with_reducible refine (spec_daList.calls k _ _ l0 0 9 false _ ?side1 ?side2 A2.out).mono ?_); (case side1 => repeat (first | exact HR0.out | (with_reducible refine Kd.C_alloc ?_ _) | (with_reducible refine Kd.C_drewN ?_ _) | (with_reducible refine Kd.C_drew ?_))); (case side2 => exact HC0.out); rintro e w7 ⟨rfl, hb⟩; refine ⟨_, rfl, ?_⟩; replace HB := bsU hb; (try clear hb)))
  go_ret2
  exact ⟨errU, hbU⟩
def strconv_Itoa_85.f (a0 : Int) : Option (ByteArray) := if 0 ≤ a0 then (if a0 < 100 then (some ⟨(Lib.decDigits a0.toNat).toArray⟩) else none) else none
set_option maxHeartbeats 8000000 in
set_option maxRecDepth 100000 in
theorem strconv_Itoa_85.calls (a0 : Int) (r : ByteArray) (w : World) (h : strconv_Itoa_85.f a0 = some r) :
  Calls Tryz.prog 85 #[.int .i64 a0] w fun e w' => e = .returned (.string r) ∧ Drawn0 w w' := by
 unfold strconv_Itoa_85.f at h
 split at h
 ·split at h
  ·injection h with h
   subst h
   have hc := Tryz.strconv_Itoa_small a0.toNat (by omega) w
   rw [show ((a0.toNat : Nat) : Int) = a0 by omega] at hc
   refine hc.mono ?_
   rintro e w' ⟨rfl, rfl⟩
   exact ⟨rfl, Drawn0.refl _⟩
  ·cases h
 ·cases h
def impl_DartText.f (a0_0 : Int) (a0_1 : Int) : Option (ByteArray × Bool) := (impl_IsDart.f a0_0 a0_1).bind fun t408 => (if t408 = true then ((some (([(⟨#[]⟩ : ByteArray), (⟨#[100]⟩ : ByteArray), (⟨#[116]⟩ : ByteArray)] : List ByteArray) : List ByteArray)).bind fun y409 => (if 0 ≤ (wrap64 (a0_1 - 1)) then (if (wrap64 (a0_1 - 1)) < (y409.length : Int) then ((strconv_Itoa_85.f a0_0).bind fun t413 => (if (rdOf ByteArray.empty y409 (wrap64 (a0_1 - 1))).size + t413.size ≤ 9223372036854775807 then (some ((rdOf ByteArray.empty y409 (wrap64 (a0_1 - 1))) ++ t413, true)) else (none))) else (none)) else (none))) else (some ((⟨#[]⟩ : ByteArray), false)))
def impl_DartText.T3 : Bool × List (List Nat × List Nat) := (true, [([], []), ([], []), ([1], [1]), ([2], [2]), ([0, 3], [0, 3]), ([4], [4]), ([], []), ([6], [6]), ([7], [7]), ([5, 8], [5, 8]), ([9, 8, 0, 1, 2, 3, 4, 5, 6, 7, 8, 9], [9]), ([10, 0, 1, 2, 3, 4, 5, 6, 7, 8, 9, 10], [])])
def impl_DartText.B3 : List Nat := [0, 0, 2, 6, 15, 31, 0, 64, 192, 511, 1023, 2047]
theorem impl_DartText.tab3 : rtab .any (opsOf Tryz.f57 3) = impl_DartText.T3 := by kernel_rfl
theorem impl_DartText.bits3 : waitsOk impl_DartText.T3.2 impl_DartText.B3 = true := by kernel_rfl
set_option maxHeartbeats 8000000 in
set_option maxRecDepth 100000 in
theorem impl_DartText.calls (a0_0 : Int) (a0_1 : Int) (r1 : ByteArray) (r2 : Bool) (w : World) (h : impl_DartText.f a0_0 a0_1 = some (r1, r2)) :
  Calls Tryz.prog 57 #[.agg #[.int .i64 a0_0, .int .i64 a0_1]] w fun e w' => e = .returned (.tuple #[.string r1, .bool r2]) ∧ Below w.heap.size w w' := by
 have hu52 := Tryz.underlying52
 have HB := aU (Below.refl w.heap.size w)
 have H : ((impl_IsDart.f a0_0 a0_1).bind fun t408 => (if t408 = true then ((some (([(⟨#[]⟩ : ByteArray), (⟨#[100]⟩ : ByteArray), (⟨#[116]⟩ : ByteArray)] : List ByteArray) : List ByteArray)).bind fun y409 => (if 0 ≤ (wrap64 (a0_1 - 1)) then (if (wrap64 (a0_1 - 1)) < (y409.length : Int) then ((strconv_Itoa_85.f a0_0).bind fun t413 => (if (rdOf ByteArray.empty y409 (wrap64 (a0_1 - 1))).size + t413.size ≤ 9223372036854775807 then (some ((rdOf ByteArray.empty y409 (wrap64 (a0_1 - 1))) ++ t413, true)) else (none))) else (none)) else (none))) else (some ((⟨#[]⟩ : ByteArray), false)))) = some (r1, r2) := h
 clear h
 replace H := bindS H
 obtain ⟨t408, A2, H⟩ := H
 (try dsimp only at H)
 by_cases c3 : t408 = true
 ·subst c3
  rw [if_pos rfl] at H
  obtain ⟨y409, hy409⟩ : ∃ y_ : List ByteArray, y_ = (([(⟨#[]⟩ : ByteArray), (⟨#[100]⟩ : ByteArray), (⟨#[116]⟩ : ByteArray)] : List ByteArray)) := ⟨_, rfl⟩
  replace H : (if 0 ≤ (wrap64 (a0_1 - 1)) then (if (wrap64 (a0_1 - 1)) < (y409.length : Int) then ((strconv_Itoa_85.f a0_0).bind fun t413 => (if (rdOf ByteArray.empty y409 (wrap64 (a0_1 - 1))).size + t413.size ≤ 9223372036854775807 then (some ((rdOf ByteArray.empty y409 (wrap64 (a0_1 - 1))) ++ t413, true)) else (none))) else (none)) else (none)) = some (r1, r2) := by first | (rw [hy409]; with_reducible exact H) | (have H2_ := (Option.bind_some _ _).symm.trans H; rw [hy409]; with_reducible exact H2_) | (have H2_ := (Option.bind_some _ _).symm.trans H; with_reducible exact H2_) | with_reducible exact H | (rw [hy409]; exact H) | exact H
  have Ny409 := aU hy409
  clear hy409
  obtain ⟨ji4, hji4⟩ : ∃ j_ : Int, (wrap64 (a0_1 - 1)) = j_ := ⟨_, rfl⟩
  replace H : (if 0 ≤ (ji4) then (if (ji4) < (y409.length : Int) then ((strconv_Itoa_85.f a0_0).bind fun t413 => (if (rdOf ByteArray.empty y409 (ji4)).size + t413.size ≤ 9223372036854775807 then (some ((rdOf ByteArray.empty y409 (ji4)) ++ t413, true)) else (none))) else (none)) else (none)) = some (r1, r2) := by first | (rw [hji4] at H; exact H) | (simp only [hji4] at H ⊢; exact H)
  (try rw [hji4] at A2)
  have hji4w : (IntKind.i64.wrap (a0_1 - 1)) = ji4 := (i64_w _).trans hji4
  replace H := ifS H
  obtain ⟨c5, H⟩ := H
  have c5b0 : decide (0 ≤ (ji4)) = true := decide_eq_true c5
  clear c5
  replace H := ifS H
  obtain ⟨c6, H⟩ := H
  have c6b0 : decide ((ji4) < (y409.length : Int)) = true := decide_eq_true c6
  clear c6
  replace H := bindS H
  obtain ⟨t413, A7, H⟩ := H
  (try dsimp only at H)
  replace H := ifS H
  obtain ⟨c8, H⟩ := H
  have c8b0 := eq_true c8
  have c8b1 : decide ((rdOf ByteArray.empty y409 (ji4)).size + t413.size ≤ 9223372036854775807) = true := decide_eq_true c8
  try have c8b2 : (9223372036854775807 < (rdOf ByteArray.empty y409 (ji4)).size + t413.size) = False := eq_false (Nat.not_lt.2 c8)
  simp only [Option.some.injEq, Prod.mk.injEq] at H
  obtain ⟨rfl, rfl⟩ := H
  go_enter Tryz.func57, Tryz.ntmps57
  try go_wp2_with (first | ((with_reducible refine gdU 1 rfl ?_); refine bxU (cs := #[.int .i64 a0_0, .int .i64 a0_1]) (t := 52) ?_; intro gb407 hg w9 hbox hb; have BK407 := aU (hbox); have GW407 := geU hg; have GE407 := geU hg; replace HB := bsU hb; clear hb hbox hg; obtain ⟨hcz10_0, hcz10_1, hfz10_0, hfz10_1⟩ := b2U BK407) | ((with_reducible refine gcU 73 rfl ?_); refine goU (some 5) Tryz.func73 #[.agg #[.int .i64 a0_0, .int .i64 a0_1]] ?_; (with_reducible refine (impl_IsDart.calls a0_0 a0_1 true _ A2.out).mono ?_); rintro e w11 ⟨rfl, hb⟩; refine ⟨_, rfl, ?_⟩; replace BK407 := bbU BK407 hb; replace HB := bsU hb; (try clear hb)))
  have pi412 : (0 ≤ ((ji4) : Int)) = True := eq_true (dU)
  have qi412 : ((ji4) < (y409.length : Int)) = True := eq_true (dU)
  replace BK407 := aU (blk_drew BK407.out)
  replace HB := aU (below_drew1 HB.out)
  refine start_ (n := 12) (S := fun w' => w'.cell? ⟨gb407, 0, none⟩ = some (.int .i64 a0_0) ∧ w'.cell? ⟨gb407, 1, none⟩ = some (.int .i64 a0_1)) (ds := []) #[false, false, false, false, false, false, false, false, false, false, false, false] (by kernel_rfl) rfl rfl ⟨(blk_cell BK407.out 0).trans rfl, (blk_cell BK407.out 1).trans rfl⟩ (fun hHeld => ?_); refine with_tabW impl_DartText.tab3 impl_DartText.bits3 (fun HT_ HW_ => ?_)
  generalize w11.drew = w12 at BK407 HB hHeld ⊢
  refine puU 1 8 HT_ ?_
  refine puU 6 13 HT_ ?_
  refine tkU 2 9 HT_ HW_ hHeld ?_
  refine puU 3 10 HT_ ?_
  refine tkU 7 14 HT_ HW_ hHeld ?_
  refine join_ (σ := Value × Addr) 3 #[true, true, true, true, true, true, true, true, true, false, false, false] (fun s_ => [(7, s_.1), (12, .string (rdOf ByteArray.empty y409 (ji4))), (15, .string t413), (11, .pointer (some (s_.2.add ((ji4)).toNat)))]) (fun s_ w' => (w'.cell? ⟨gb407, 0, none⟩ = some (.int .i64 a0_0) ∧ w'.cell? ⟨gb407, 1, none⟩ = some (.int .i64 a0_1)) ∧ (Kd.R Kd.string 9 w' w.heap.size (fun _ => True) s_.1 y409) ∧ (∃ c_, (s_.1 : Value) = .slice (some s_.2) y409.length c_) ∧ (w'.heap[gb407]? = some (.cells #[.int .i64 a0_0, .int .i64 a0_1] 52 (0, 0))) ∧ (Below w.heap.size w w')) ?_ ?_
  rotate_left
  ·intro hCont
   refine two_ (i := 0) (j := 8) (Ni := some 7) (Nj := some 15) #[true, true, true, true, false, false, true, true, false, false, false, false] #[false, true, true, true, false, false, true, true, true, false, false, false] rfl rfl rfl rfl (two_of HT_.out (by kernel_rfl)) (by decide) (by decide) (fun K hK => ?_) (fun K hK => ?_)
   ·skip
    refine Kd.R_lit_step Kd.string _ 9 ?hg (N := 7) ?hd (xs := ([(⟨#[]⟩ : ByteArray), (⟨#[100]⟩ : ByteArray), (⟨#[116]⟩ : ByteArray)] : List ByteArray)) (inner := [.string (⟨#[]⟩ : ByteArray), .string (⟨#[100]⟩ : ByteArray), .string (⟨#[116]⟩ : ByteArray)]) (ok := fun _ => True) (okp := fun _ => True) ?hr ?hp (fun _ hk => hk) trivial (Below.refl _ _) (Nat.le_refl _) (by simp) ?_; (case hd => rfl); (case hg => rfl); (case hr => first | (go_simp; done) | (go_simp; rfl)); (case hp => exact (Reps.one (show Kd.M Kd.string _ _ _ (⟨#[]⟩ : ByteArray) [.string (⟨#[]⟩ : ByteArray)] from rfl) (Reps.one (show Kd.M Kd.string _ _ _ (⟨#[100]⟩ : ByteArray) [.string (⟨#[100]⟩ : ByteArray)] from rfl) (Reps.one (show Kd.M Kd.string _ _ _ (⟨#[116]⟩ : ByteArray) [.string (⟨#[116]⟩ : ByteArray)] from rfl) (Reps.none _ _)))))
    intro v410 w13 ho14 hb hg_ hnew_
    clear hg_ hnew_
    (first | rw [← Ny409.out] at ho14 | (simp only [Int.reduceToNat] at ho14; rw [← Ny409.out] at ho14))
    have HO411 := aU (Kd.R_lower ho14 (below_size hbU))
    replace BK407 := bbU BK407 hb
    replace HB := bsU hb
    clear hb ho14
    obtain ⟨Ao15, co15, eo15⟩ := Kd.R_slice HO411.out
    subst eo15
    obtain ⟨ado15, fo15, _⟩ := Kd.at_string (Kd.R_reads' HO411.out).2.2 0 (by decide) (by rw [Ny409.out]; simp)
    cases fo15
    refine hK.out _ _ ⟨(blk_cell BK407.out 0).trans rfl, (blk_cell BK407.out 1).trans rfl⟩ (fun hHeld => ?_)
    clear hK K
    refine nmU 7 ?_
    refine puU 4 11 HT_ ?_
    refine two_ (i := 5) (j := 8) (Ni := some 12) (Nj := some 15) #[true, true, true, true, true, true, true, true, false, false, false, false] #[true, true, true, true, true, false, true, true, true, false, false, false] rfl rfl rfl rfl (two_of HT_.out (by kernel_rfl)) (by decide) (by decide) (fun K hK => ?_) (fun K hK => ?_)
    ·skip
     (have p412 : 0 ≤ ((ji4) : Int) := dU; have q412 : (ji4) < (y409.length : Int) := dU; obtain ⟨ad412, e412, hx412_0⟩ := Kd.at_string (Kd.R_reads' HO411.out).2.2 (ji4) p412 q412; obtain rfl : ado15 = ad412 := (by injection e412))
     refine value_ (w1 := ?_) (v := ?_) (by rfl) rfl ?_ ?_
     rotate_left 2
     ·go_simp
      constructor
      ·rfl
      ·rfl
     clear hx412_0
     refine hK.out _ _ ⟨(blk_cell BK407.out 0).trans rfl, (blk_cell BK407.out 1).trans rfl⟩ (fun hHeld => ?_)
     clear hK K
     refine nmU 12 ?_
     refine onU 8 (some 15) HT_ (fun K hK => ?_)
     refine goes_ Tryz.func85 (by kernel_rfl) rfl #[.int .i64 a0_0] (by rfl) rfl rfl arU ?_
     with_reducible refine (strconv_Itoa_85.calls a0_0 t413 _ A7.out).mono ?_
     rintro e w' ⟨rfl, ⟨nd, rfl⟩⟩
     refine ⟨_, rfl, ?_⟩
     refine hK.out _ _ ⟨(blk_cell BK407.out 0).trans rfl, (blk_cell BK407.out 1).trans rfl⟩ (fun hHeld => ?_)
     clear hK K
     refine nmU 15 ?_
     exact norm_ (by simp only [putAll, Act.put, List.setIfInBounds_toArray, List.set_cons_zero, List.set_cons_succ]) (hCont (.slice (some ado15) y409.length co15, ado15) _ ⟨hHeld, (roU HO411), ⟨_, rfl⟩, bkU, hbU⟩)
    ·skip
     refine goes_ Tryz.func85 (by kernel_rfl) rfl #[.int .i64 a0_0] (by rfl) rfl rfl arU ?_
     with_reducible refine (strconv_Itoa_85.calls a0_0 t413 _ A7.out).mono ?_
     rintro e w' ⟨rfl, ⟨nd, rfl⟩⟩
     refine ⟨_, rfl, ?_⟩
     refine hK.out _ _ ⟨(blk_cell BK407.out 0).trans rfl, (blk_cell BK407.out 1).trans rfl⟩ (fun hHeld => ?_)
     clear hK K
     refine nmU 15 ?_
     refine onU 5 (some 12) HT_ (fun K hK => ?_)
     (have p412 : 0 ≤ ((ji4) : Int) := dU; have q412 : (ji4) < (y409.length : Int) := dU; obtain ⟨ad412, e412, hx412_0⟩ := Kd.at_string (Kd.R_reads' HO411.out).2.2 (ji4) p412 q412; obtain rfl : ado15 = ad412 := (by injection e412))
     refine value_ (w1 := ?_) (v := ?_) (by rfl) rfl ?_ ?_
     rotate_left 2
     ·go_simp
      constructor
      ·rfl
      ·rfl
     clear hx412_0
     refine hK.out _ _ ⟨(blk_cell BK407.out 0).trans rfl, (blk_cell BK407.out 1).trans rfl⟩ (fun hHeld => ?_)
     clear hK K
     refine nmU 12 ?_
     exact norm_ (by simp only [putAll, Act.put, List.setIfInBounds_toArray, List.set_cons_zero, List.set_cons_succ]) (hCont (.slice (some ado15) y409.length co15, ado15) _ ⟨hHeld, (roU HO411), ⟨_, rfl⟩, bkU, hbU⟩)
   ·skip
    refine goes_ Tryz.func85 (by kernel_rfl) rfl #[.int .i64 a0_0] (by rfl) rfl rfl arU ?_
    with_reducible refine (strconv_Itoa_85.calls a0_0 t413 _ A7.out).mono ?_
    rintro e w' ⟨rfl, ⟨nd, rfl⟩⟩
    refine ⟨_, rfl, ?_⟩
    refine hK.out _ _ ⟨(blk_cell BK407.out 0).trans rfl, (blk_cell BK407.out 1).trans rfl⟩ (fun hHeld => ?_)
    clear hK K
    refine nmU 15 ?_
    refine onU 0 (some 7) HT_ (fun K hK => ?_)
    refine Kd.R_lit_step Kd.string _ 9 ?hg (N := 7) ?hd (xs := ([(⟨#[]⟩ : ByteArray), (⟨#[100]⟩ : ByteArray), (⟨#[116]⟩ : ByteArray)] : List ByteArray)) (inner := [.string (⟨#[]⟩ : ByteArray), .string (⟨#[100]⟩ : ByteArray), .string (⟨#[116]⟩ : ByteArray)]) (ok := fun _ => True) (okp := fun _ => True) ?hr ?hp (fun _ hk => hk) trivial (Below.refl _ _) (Nat.le_refl _) (by simp) ?_; (case hd => rfl); (case hg => rfl); (case hr => first | (go_simp; done) | (go_simp; rfl)); (case hp => exact (Reps.one (show Kd.M Kd.string _ _ _ (⟨#[]⟩ : ByteArray) [.string (⟨#[]⟩ : ByteArray)] from rfl) (Reps.one (show Kd.M Kd.string _ _ _ (⟨#[100]⟩ : ByteArray) [.string (⟨#[100]⟩ : ByteArray)] from rfl) (Reps.one (show Kd.M Kd.string _ _ _ (⟨#[116]⟩ : ByteArray) [.string (⟨#[116]⟩ : ByteArray)] from rfl) (Reps.none _ _)))))
    intro v410 w13 ho14 hb hg_ hnew_
    clear hg_ hnew_
    (first | rw [← Ny409.out] at ho14 | (simp only [Int.reduceToNat] at ho14; rw [← Ny409.out] at ho14))
    have HO411 := aU (Kd.R_lower ho14 (below_size hbU))
    replace BK407 := bbU BK407 hb
    replace HB := bsU hb
    clear hb ho14
    obtain ⟨Ao15, co15, eo15⟩ := Kd.R_slice HO411.out
    subst eo15
    obtain ⟨ado15, fo15, _⟩ := Kd.at_string (Kd.R_reads' HO411.out).2.2 0 (by decide) (by rw [Ny409.out]; simp)
    cases fo15
    refine hK.out _ _ ⟨(blk_cell BK407.out 0).trans rfl, (blk_cell BK407.out 1).trans rfl⟩ (fun hHeld => ?_)
    clear hK K
    refine nmU 7 ?_
    refine puU 4 11 HT_ ?_
    refine onU 5 (some 12) HT_ (fun K hK => ?_)
    (have p412 : 0 ≤ ((ji4) : Int) := dU; have q412 : (ji4) < (y409.length : Int) := dU; obtain ⟨ad412, e412, hx412_0⟩ := Kd.at_string (Kd.R_reads' HO411.out).2.2 (ji4) p412 q412; obtain rfl : ado15 = ad412 := (by injection e412))
    refine value_ (w1 := ?_) (v := ?_) (by rfl) rfl ?_ ?_
    rotate_left 2
    ·go_simp
     constructor
     ·rfl
     ·rfl
    clear hx412_0
    refine hK.out _ _ ⟨(blk_cell BK407.out 0).trans rfl, (blk_cell BK407.out 1).trans rfl⟩ (fun hHeld => ?_)
    clear hK K
    refine nmU 12 ?_
    exact norm_ (by simp only [putAll, Act.put, List.setIfInBounds_toArray, List.set_cons_zero, List.set_cons_succ]) (hCont (.slice (some ado15) y409.length co15, ado15) _ ⟨hHeld, (roU HO411), ⟨_, rfl⟩, bkU, hbU⟩)
  rintro ⟨v410, adz_v410⟩ w16 ⟨hS_, h0_, h1_, h2_, h3_⟩
  have n0_ : Aside0 (Kd.R Kd.string 9 w16 w.heap.size (fun _ => True) v410 y409) := ⟨h0_⟩
  have n1_ : Aside0 (∃ c_, (v410 : Value) = .slice (some adz_v410) y409.length c_) := ⟨h1_⟩
  have n2_ : Aside0 (w16.heap[gb407]? = some (.cells #[.int .i64 a0_0, .int .i64 a0_1] 52 (0, 0))) := ⟨h2_⟩
  have n3_ : Aside0 (Below w.heap.size w w16) := ⟨h3_⟩
  clear BK407
  clear HB
  clear h0_ h1_ h2_ h3_
  have HO411 := n0_
  have HA_HO411 := n1_
  have BK407 := n2_
  have HB := n3_
  clear n0_ n1_ n2_ n3_
  have hHeld : w16.cell? ⟨gb407, 0, none⟩ = some (.int .i64 a0_0) ∧ w16.cell? ⟨gb407, 1, none⟩ = some (.int .i64 a0_1) := hS_
  obtain ⟨co17, eo17⟩ := HA_HO411.out
  clear HA_HO411
  subst eo17
  refine norm_ (a' := ?_) ?_ ?_
  rotate_left
  ·simp only [putAll, Act.put, List.setIfInBounds_toArray, List.set_cons_zero, List.set_cons_succ]
   rfl
  refine puU 9 16 HT_ ?_
  refine puU 10 2 HT_ ?_
  refine puU 11 3 HT_ ?_
  refine dnU HT_ ?_
  try go_wp2
  go_ret2
  exact ⟨by first | rfl | (simp [errW_none, errW_some] <;> rfl) | (simp only [← hji4]; first | rfl | (simp [errW_none, errW_some] <;> rfl)) | (simp [*, errW_none, errW_some] <;> rfl), hbU⟩
 ·replace c3 := Bool.eq_false_iff.mpr c3
  subst c3
  rw [if_neg (show ¬ (false = true) by decide)] at H
  simp only [Option.some.injEq, Prod.mk.injEq] at H
  obtain ⟨rfl, rfl⟩ := H
  go_enter Tryz.func57, Tryz.ntmps57
  go_wp2_with (first | ((with_reducible refine gdU 1 rfl ?_); refine bxU (cs := #[.int .i64 a0_0, .int .i64 a0_1]) (t := 52) ?_; intro gb407 hg w18 hbox hb; have BK407 := aU (hbox); have GW407 := geU hg; have GE407 := geU hg; replace HB := bsU hb; clear hb hbox hg; obtain ⟨hcz19_0, hcz19_1, hfz19_0, hfz19_1⟩ := b2U BK407) | ((with_reducible refine gcU 73 rfl ?_); refine goU (some 5) Tryz.func73 #[.agg #[.int .i64 a0_0, .int .i64 a0_1]] ?_; (with_reducible refine (impl_IsDart.calls a0_0 a0_1 false _ A2.out).mono ?_); rintro e w20 ⟨rfl, hb⟩; refine ⟨_, rfl, ?_⟩; replace BK407 := bbU BK407 hb; replace HB := bsU hb; (try clear hb)))
  go_ret2
  exact ⟨errU, hbU⟩
def strings_Join.f (l0 : List ByteArray) (a1 : ByteArray) : Option (ByteArray) := if 0 < l0.length ∧ l0.length ≤ 140737488355328 ∧ (Lib.join (l0.map (·.data.toList)) a1.data.toList).length ≤ 140737488355328 then (some ⟨(Lib.join (l0.map (·.data.toList)) a1.data.toList).toArray⟩) else none
set_option maxHeartbeats 8000000 in
set_option maxRecDepth 100000 in
theorem strings_Join.calls (A0 : Option Addr) (c0 : Nat) (l0 : List ByteArray) (a1 : ByteArray) (r : ByteArray) (w : World) (hr0 : Kd.C Kd.string w A0 l0.length l0) (hc0 : l0.length ≤ c0) (h : strings_Join.f l0 a1 = some r) :
  Calls Tryz.prog 111 #[.slice A0 l0.length c0, .string a1] w fun e w' => e = .returned (.string r) ∧ Below w.heap.size w w' := by
 unfold strings_Join.f at h
 split at h
 ·rename_i hh
  obtain rfl := (Option.some.inj h).symm
  exact Go.Proofs.YtcmlmjgoidpabaaGreatDoor.join_row A0 c0 l0 a1 w hr0 hc0 hh.1 hh.2.1 hh.2.2
 ·cases h
end Go.Proofs.YtcmlmjgoidpabaaGreatDoor.MFnDartsPlayed

