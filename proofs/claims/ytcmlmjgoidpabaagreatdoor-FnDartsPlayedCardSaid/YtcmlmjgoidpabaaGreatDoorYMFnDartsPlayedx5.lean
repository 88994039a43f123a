/- Walks of the functions that the law reaches: each comes to just what the function that is told of it tells, for all arguments. -/
import Derived.Test.YtcmlmjgoidpabaaGreatDoorYMFnDartsPlayedx4
namespace Go.Proofs.YtcmlmjgoidpabaaGreatDoor.MFnDartsPlayed
open Go.RowKit Go.Proofs.YtcmlmjgoidpabaaGreatDoorW.PrintWords Go.Proofs.YtcmlmjgoidpabaaGreatDoorW.PrintLast Go.Proofs.YtcmlmjgoidpabaaGreatDoorW.PrintMore
attribute [local go_sem] max2_int min2_int max_two min_two max_three min_three max_four min_four
set_option linter.unusedVariables false
set_option linter.unusedSimpArgs false
mutual
def spec_l1Cur_leg.j0 : Nat → Int → Bool → List Int → Int → Int → Option (Int × (List (S52)) × Int × Int)
 | 0, _, _, _, _, _ => none
 | k + 1, x4, x18, x1000, x1001, x1002 => if x18 = true then ((spec_FirstFinish.f k x4 3).bind fun bt221 => (if bt221.2 = true then (some (x4, bt221.1, x1001, x1002)) else (spec_l1Cur_leg.j1 k x4 x1000 x1001 x1002))) else (spec_l1Cur_leg.j1 k x4 x1000 x1001 x1002)
def spec_l1Cur_leg.j1 : Nat → Int → List Int → Int → Int → Option (Int × (List (S52)) × Int × Int)
 | 0, _, _, _, _ => none
 | k + 1, x4, x1000, x1001, x1002 => (spec_l1Cur_pick.f x1000 x1001 x1002 3).bind fun bt225 => (spec_l1Cur_leg.l0 k x4 ([] : List (S52)) x4 (wrap64 (1 + bt225.1)) x1000 bt225.2.1 bt225.2.2)
def spec_l1Cur_leg.j3 : Nat → Int → List (S52) → List Int → Int → Int → Option (Int × (List (S52)) × Int × Int)
 | 0, _, _, _, _, _ => none
 | k + 1, x4, x7, x1000, x1001, x1002 => (spec_l1Cur_one.f x1000 x1001 x1002 16).bind fun bt240 => (if bt240.1 = true then ((spec_l1Cur_dart.f x1000 bt240.2.1 bt240.2.2).bind fun bt243 => (if x7.length < 8796093022208 then (some (x4, (x7 ++ [(⟨bt243.1, bt243.2.1⟩ : S52)]), bt243.2.2.1, bt243.2.2.2)) else (none))) else (some (x4, x7, bt240.2.1, bt240.2.2)))
def spec_l1Cur_leg.l0 : Nat → Int → List (S52) → Int → Int → List Int → Int → Int → Option (Int × (List (S52)) × Int × Int)
 | 0, _, _, _, _, _, _, _ => none
 | k + 1, x4, x7, x8, x9, x1000, x1001, x1002 => if x9 > 0 then ((spec_l1Cur_sureDart.f x1000 x1001 x1002).bind fun bt228 => (if x7.length < 8796093022208 then ((some (x7 ++ [(⟨bt228.1, bt228.2.1⟩ : S52)] : List (S52))).bind fun y233 => ((spec_l1Least.f (wrap64 (bt228.1 * bt228.2.1)) 100).bind fun t236 => (if (wrap64 (x8 - t236)) < 2 then ((spec_l1Cur_one.f x1000 bt228.2.2.1 bt228.2.2.2 9).bind fun bt237 => (if bt237.1 = true then (spec_l1Cur_leg.l0 k x4 y233 (wrap64 (x8 - t236)) (wrap64 (x9 - 1)) x1000 bt237.2.1 bt237.2.2) else (spec_l1Cur_leg.j3 k x4 y233 x1000 bt237.2.1 bt237.2.2))) else (spec_l1Cur_leg.l0 k x4 y233 (wrap64 (x8 - t236)) (wrap64 (x9 - 1)) x1000 bt228.2.2.1 bt228.2.2.2)))) else (none))) else (spec_l1Cur_leg.j3 k x4 x7 x1000 x1001 x1002)
end
def spec_l1Cur_leg.f (k : Nat) (s0_0 : List Int) (s0_1 : Int) (s0_2 : Int) : Option (Int × (List (S52)) × Int × Int) := (spec_l1Cur_left.f s0_0 s0_1 s0_2).bind fun bt214 => ((spec_l1In.f bt214.1 2 1001).bind fun t217 => (if t217 = true then ((spec_l1Cur_one.f s0_0 bt214.2.1 bt214.2.2 3).bind fun bt218 => (spec_l1Cur_leg.j0 k bt214.1 bt218.1 s0_0 bt218.2.1 bt218.2.2)) else (spec_l1Cur_leg.j0 k bt214.1 false s0_0 bt214.2.1 bt214.2.2)))
theorem spec_l1Cur_leg.mono_l : ∀ k, (∀ y0 y1 y2 y3 y4, LeO (spec_l1Cur_leg.j0 k y0 y1 y2 y3 y4) (spec_l1Cur_leg.j0 (k + 1) y0 y1 y2 y3 y4)) ∧ (∀ y0 y1 y2 y3, LeO (spec_l1Cur_leg.j1 k y0 y1 y2 y3) (spec_l1Cur_leg.j1 (k + 1) y0 y1 y2 y3)) ∧ (∀ y0 y1 y2 y3 y4, LeO (spec_l1Cur_leg.j3 k y0 y1 y2 y3 y4) (spec_l1Cur_leg.j3 (k + 1) y0 y1 y2 y3 y4)) ∧ (∀ y0 y1 y2 y3 y4 y5 y6, LeO (spec_l1Cur_leg.l0 k y0 y1 y2 y3 y4 y5 y6) (spec_l1Cur_leg.l0 (k + 1) y0 y1 y2 y3 y4 y5 y6))
 | 0 => ⟨fun _ _ _ _ _ r h => by simp [spec_l1Cur_leg.j0] at h, fun _ _ _ _ r h => by simp [spec_l1Cur_leg.j1] at h, fun _ _ _ _ _ r h => by simp [spec_l1Cur_leg.j3] at h, fun _ _ _ _ _ _ _ r h => by simp [spec_l1Cur_leg.l0] at h⟩
 | k + 1 => by
  obtain ⟨ih0, ih1, ih2, ih3⟩ := spec_l1Cur_leg.mono_l k
  refine ⟨?_, ?_, ?_, ?_⟩
  all_goals intros
  all_goals first | unfold spec_l1Cur_leg.j0 | unfold spec_l1Cur_leg.j1 | unfold spec_l1Cur_leg.j3 | unfold spec_l1Cur_leg.l0
  all_goals repeat' first
  | (with_reducible exact ih0 _ _ _ _ _)
  | (with_reducible exact ih1 _ _ _ _)
  | (with_reducible exact ih2 _ _ _ _ _)
  | (with_reducible exact ih3 _ _ _ _ _ _ _)
  | (with_reducible exact spec_FirstFinish.mono _ _ _)
  | (with_reducible exact LeO.refl _)
  | (with_reducible exact LeO.none _)
  | (with_reducible refine LeO.ite ?_ ?_)
  | (with_reducible refine LeO.bind ?_ (fun _ => ?_))
theorem spec_l1Cur_leg.mono : ∀ a0 a1 a2 k, LeO (spec_l1Cur_leg.f k a0 a1 a2) (spec_l1Cur_leg.f (k + 1) a0 a1 a2) := by
 intro a0 a1 a2 k
 obtain ⟨ih0, ih1, ih2, ih3⟩ := spec_l1Cur_leg.mono_l k
 unfold spec_l1Cur_leg.f
 repeat' first
   | (with_reducible exact ih0 _ _ _ _ _)
   | (with_reducible exact ih1 _ _ _ _)
   | (with_reducible exact ih2 _ _ _ _ _)
   | (with_reducible exact ih3 _ _ _ _ _ _ _)
   | (with_reducible exact spec_FirstFinish.mono _ _ _)
   | (with_reducible exact LeO.refl _)
   | (with_reducible exact LeO.none _)
   | (with_reducible refine LeO.ite ?_ ?_)
   | (with_reducible refine LeO.bind ?_ (fun _ => ?_))
set_option maxHeartbeats 8000000 in
set_option maxRecDepth 100000 in
theorem spec_l1Cur_leg.calls (k : Nat) (g : Nat) (s0_0 : List Int) (s0_1 : Int) (s0_2 : Int) (r1 : Int) (r2 : List (S52)) (r3 : Int) (r4 : Int) (w0 w : World) (hI : IsS78 w0 w g s0_0 s0_1 s0_2) (hB : Below w0.heap.size w0 w) (h : spec_l1Cur_leg.f k s0_0 s0_1 s0_2 = some (r1, r2, r3, r4)) :
  Calls Tryz.prog 100 #[.pointer (some ⟨g, 0, none⟩)] w fun e w' => ∃ v1_ : Value, e = .returned (.tuple #[.int .i64 r1, v1_]) ∧ Kd.R k52 52 w' w.heap.size (fun _ => True) v1_ r2 ∧ IsS78 w0 w' g s0_0 r3 r4 ∧ Below w0.heap.size w0 w' ∧ KeepBut w w' g none := by
 have hu52 := Tryz.underlying52
 have HI0 := aU hI
 have HK := aU (KeepBut.refl w g none)
 have HL := aU hB.size
 clear hI
 have HW0 := aU hB.size
 have HB := aU hB
 clear hB
 have H : ((spec_l1Cur_left.f s0_0 s0_1 s0_2).bind fun bt214 => ((spec_l1In.f bt214.1 2 1001).bind fun t217 => (if t217 = true then ((spec_l1Cur_one.f s0_0 bt214.2.1 bt214.2.2 3).bind fun bt218 => (spec_l1Cur_leg.j0 k bt214.1 bt218.1 s0_0 bt218.2.1 bt218.2.2)) else (spec_l1Cur_leg.j0 k bt214.1 false s0_0 bt214.2.1 bt214.2.2)))) = some (r1, r2, r3, r4) := h
 clear h
 replace H := bindS H
 obtain ⟨⟨t214, t215, t216⟩, A2, H⟩ := H
 (try dsimp only at H)
 have HC3 := aU H
 clear H
 go_enter Tryz.func100, Tryz.ntmps100
 go_upto_region 2 with (first | ((with_reducible refine gcU 138 rfl ?_); refine goU (some 12) Tryz.func138 #[.pointer (some ⟨g, 0, none⟩)] ?_; (with_reducible refine (spec_l1Cur_left.calls g s0_0 s0_1 s0_2 t214 t215 t216 w0 _ ?side1 ?side2 A2.out).mono ?_); (case side1 => exact isU HI0); (case side2 => exact hbU); rintro e w4 ⟨rfl, hi, hb, hk⟩; refine ⟨_, rfl, ?_⟩; replace HK := aU (KeepBut.trans (kpU HK) hk (.inl rfl)); replace HB := aU (hb); replace HI0 := aU (hi); (try clear hi hb hk)))
 (try simp only [Act.put, List.setIfInBounds_toArray, List.set_cons_zero, List.set_cons_succ])
 go_cut [18] (fun v18 wc => ∃ (kq : Nat) (x18_2 : Bool) (x1001_2 : Int) (x1002_2 : Int), v18 = .bool x18_2 ∧ Aside0 (spec_l1Cur_leg.j0 kq t214 x18_2 s0_0 x1001_2 x1002_2 = some (r1, r2, r3, r4)) ∧ Aside0 (kq ≤ k) ∧ Aside0 (IsS78 w0 wc g s0_0 x1001_2 x1002_2) ∧ Aside0 (KeepBut w wc g none) ∧ Aside0 (Below w0.heap.size w0 wc))
 case first =>
  have H := HC3.out
  clear HC3
  replace H := bindS H
  obtain ⟨t217, A5, H⟩ := H
  (try dsimp only at H)
  by_cases c6 : t217 = true
  ·subst c6
   rw [if_pos rfl] at H
   replace H := bindS H
   obtain ⟨⟨t218, t219, t220⟩, A7, H⟩ := H
   (try dsimp only at H)
   have H' := aU H
   clear H
   go_wp2_with (first | ((with_reducible refine gcU 96 rfl ?_); refine goU (some 14) Tryz.func96 #[.int .i64 t214, .int .i64 2, .int .i64 1001] ?_; (with_reducible refine (spec_l1In.calls t214 2 1001 true _ A5.out).mono ?_); rintro e w' ⟨rfl, ⟨nd, rfl⟩⟩; refine ⟨_, rfl, ?_⟩) | (go_at_call 91; (with_reducible refine (spec_l1Cur_one.calls g s0_0 t215 t216 3 t218 t219 t220 w0 _ ?side1 ?side2 A7.out).mono ?_); (case side1 => exact isU HI0); (case side2 => exact hbU); rintro e w8 ⟨rfl, hi, hb, hk⟩; replace HK := aU (KeepBut.trans (kpU HK) hk (.inl rfl)); replace HB := aU (hb); replace HI0 := aU (hi); (try clear hi hb hk)))
   go_meet
   case rel => exact ⟨_, (t218), (t219), (t220), eqU, H', ⟨by first | omega | exact Nat.le_refl _⟩, ⟨isU HI0⟩, ⟨by repeat (first | (with_reducible first | exact HK.out | apply KeepBut.set_ | apply keep_drewN | apply keep_drew | apply keep_alloc) | exact HK.out)⟩, ⟨hbU⟩⟩
  ·replace c6 := Bool.eq_false_iff.mpr c6
   subst c6
   rw [if_neg (show ¬ (false = true) by decide)] at H
   have H' := aU H
   clear H
   go_wp2_with (first | ((with_reducible refine gcU 96 rfl ?_); refine goU (some 14) Tryz.func96 #[.int .i64 t214, .int .i64 2, .int .i64 1001] ?_; (with_reducible refine (spec_l1In.calls t214 2 1001 false _ A5.out).mono ?_); rintro e w' ⟨rfl, ⟨nd, rfl⟩⟩; refine ⟨_, rfl, ?_⟩))
   go_meet
   case rel => exact ⟨_, (false), (t215), (t216), eqU, H', ⟨by first | omega | exact Nat.le_refl _⟩, ⟨isU HI0⟩, ⟨by repeat (first | (with_reducible first | exact HK.out | apply KeepBut.set_ | apply keep_drewN | apply keep_drew | apply keep_alloc) | exact HK.out)⟩, ⟨hbU⟩⟩
 case rest =>
  clear HC3
  obtain ⟨kq, x18_2, x1001_2, x1002_2, rfl, HA, HJ2, HI0, HK, HB⟩ := hcut
  cases kq with
  | zero => exact absurd HA.out (by simp [spec_l1Cur_leg.j0])
  | succ kj2 =>
   have H := HA.out
   clear HA
   simp only [spec_l1Cur_leg.j0] at H
   have HC9 := aU H
   clear H
   go_upto_if 18 with (fail)
   go_cut [] (fun wc => ∃ (kq : Nat), Aside0 (spec_l1Cur_leg.j1 kq t214 s0_0 x1001_2 x1002_2 = some (r1, r2, r3, r4)) ∧ Aside0 (kq ≤ kj2) ∧ Aside0 (IsS78 w0 wc g s0_0 x1001_2 x1002_2) ∧ Aside0 (KeepBut w wc g none) ∧ Aside0 (Below w0.heap.size w0 wc))
   case first =>
    have H := HC9.out
    clear HC9
    by_cases c10 : x18_2 = true
    ·subst c10
     rw [if_pos rfl] at H
     replace H := bindS H
     obtain ⟨⟨t221, t222⟩, A11, H⟩ := H
     (try dsimp only at H)
     by_cases c12 : t222 = true
     ·subst c12
      rw [if_pos rfl] at H
      simp only [Option.some.injEq, Prod.mk.injEq] at H
      obtain ⟨rfl, rfl, rfl, rfl⟩ := H
      go_wp2_with (first | ((with_reducible refine gcU 139 rfl ?_); refine goU (some 21) Tryz.func139 #[.int .i64 t214, .int .i64 3] ?_; (with_reducible refine (spec_FirstFinish.calls kj2 t214 3 t221 true _ A11.out).mono ?_); rintro e w13 ⟨v223, rfl, ho0, hb⟩; refine ⟨_, rfl, ?_⟩; have HO224 := aU (Kd.R_lower ho0 (keep_size (w := w) (g := g) (row := none) (kpU HK))); replace HI0 := aU (IsS78.below (isU HI0) hb); replace HK := aU (KeepBut.trans (kpU HK) (KeepBut.of_below hb g none) (.inl rfl)); replace HB := bsU hb; (try clear ho0 hb)))
      go_ret2
      exact ⟨_, errU, by (with_reducible repeat (first | apply Kd.R_alloc | apply Kd.R_drewN | apply Kd.R_drew)); exact HO224.out, isU HI0, hbU, kpU HK⟩
     ·replace c12 := Bool.eq_false_iff.mpr c12
      subst c12
      rw [if_neg (show ¬ (false = true) by decide)] at H
      have H' := aU H
      clear H
      go_wp2_with (first | ((with_reducible refine gcU 139 rfl ?_); refine goU (some 21) Tryz.func139 #[.int .i64 t214, .int .i64 3] ?_; (with_reducible refine (spec_FirstFinish.calls kj2 t214 3 t221 false _ A11.out).mono ?_); rintro e w14 ⟨v223, rfl, ho0, hb⟩; refine ⟨_, rfl, ?_⟩; have HO224 := aU (Kd.R_lower ho0 (keep_size (w := w) (g := g) (row := none) (kpU HK))); replace HI0 := aU (IsS78.below (isU HI0) hb); replace HK := aU (KeepBut.trans (kpU HK) (KeepBut.of_below hb g none) (.inl rfl)); replace HB := bsU hb; (try clear ho0 hb)))
      go_meet
      case rel => exact ⟨_, H', ⟨by have := HJ2.out; first | omega | exact Nat.le_refl _⟩, ⟨isU HI0⟩, ⟨by repeat (first | (with_reducible first | exact HK.out | apply KeepBut.set_ | apply keep_drewN | apply keep_drew | apply keep_alloc) | exact HK.out)⟩, ⟨hbU⟩⟩
    ·replace c10 := Bool.eq_false_iff.mpr c10
     subst c10
     rw [if_neg (show ¬ (false = true) by decide)] at H
     have H' := aU H
     clear H
     go_wp2
     go_meet
     case rel => exact ⟨_, H', ⟨by have := HJ2.out; first | omega | exact Nat.le_refl _⟩, ⟨isU HI0⟩, ⟨by repeat (first | (with_reducible first | exact HK.out | apply KeepBut.set_ | apply keep_drewN | apply keep_drew | apply keep_alloc) | exact HK.out)⟩, ⟨hbU⟩⟩
   case rest =>
    clear HC9
    obtain ⟨kq, HA, HJ8, HI0, HK, HB⟩ := hcut
    cases kq with
    | zero => exact absurd HA.out (by simp [spec_l1Cur_leg.j1])
    | succ kj8 =>
     have H := HA.out
     clear HA
     simp only [spec_l1Cur_leg.j1] at H
     replace H := bindS H
     obtain ⟨⟨t225, t226, t227⟩, A15, H⟩ := H
     (try dsimp only at H)
     have HC16 := aU H
     clear H
     go_upto_block 0 with (first | ((with_reducible refine gcU 92 rfl ?_); refine goU (some 29) Tryz.func92 #[.pointer (some ⟨g, 0, none⟩), .int .i64 3] ?_; (with_reducible refine (spec_l1Cur_pick.calls g s0_0 x1001_2 x1002_2 3 t225 t226 t227 w0 _ ?side1 ?side2 A15.out).mono ?_); (case side1 => exact isU HI0); (case side2 => exact hbU); rintro e w17 ⟨rfl, hi, hb, hk⟩; refine ⟨_, rfl, ?_⟩; replace HK := aU (KeepBut.trans (kpU HK) hk (.inl rfl)); replace HB := aU (hb); replace HI0 := aU (hi); (try clear hi hb hk)))
     (try simp only [Act.put, List.setIfInBounds_toArray, List.set_cons_zero, List.set_cons_succ])
     go_cut [7] (fun v7 wc => ∃ (kq : Nat) (x7_15 : List (S52)) (x1001_15 : Int) (x1002_15 : Int), Aside0 (spec_l1Cur_leg.j3 kq t214 x7_15 s0_0 x1001_15 x1002_15 = some (r1, r2, r3, r4)) ∧ Aside0 (kq ≤ kj8) ∧ Aside0 (Kd.R k52 52 wc w.heap.size (fun _ => True) v7 x7_15) ∧ Aside0 (IsS78 w0 wc g s0_0 x1001_15 x1002_15) ∧ Aside0 (KeepBut w wc g none) ∧ Aside0 (Below w0.heap.size w0 wc))
     case first =>
      have H := HC16.out
      clear HC16
      have H' := aU H
      clear H
      go_wp2
      go_loopg [7, 8, 9] kj8 (fun kq v7 v8 v9 w' => ∃ (x7_3 : List (S52)) (x8_3 : Int) (x9_3 : Int) (x1001_3 : Int) (x1002_3 : Int), v8 = .int .i64 x8_3 ∧ v9 = .int .i64 x9_3 ∧ Aside0 (spec_l1Cur_leg.l0 kq t214 x7_3 x8_3 x9_3 s0_0 x1001_3 x1002_3 = some (r1, r2, r3, r4)) ∧ Aside0 (kq ≤ kj8) ∧ Aside0 (Kd.R k52 52 w' w.heap.size (fun _ => True) v7 x7_3) ∧ Aside0 (IsS78 w0 w' g s0_0 x1001_3 x1002_3) ∧ Aside0 (KeepBut w w' g none) ∧ Aside0 (Below w0.heap.size w0 w'))
      case atStart => exact ⟨(([] : List (S52))), (t214), (wrap64 (1 + t225)), (t226), (t227), eqU, eqU, H', ⟨Nat.le_refl _⟩, ⟨by first | exact Kd.R_nil _ _ _ _ _ | exact Kd.N_nil _ _ _ _ _ | exact Kd.V_nil _ _ _ _ _ | exact Kd.Q_nil _ _ _ _ _ | exact Kd.S_nil _ _ _ _ _⟩, ⟨isU HI0⟩, ⟨by repeat (first | (with_reducible first | exact HK.out | apply KeepBut.set_ | apply keep_drewN | apply keep_drew | apply keep_alloc) | exact HK.out)⟩, ⟨hbU⟩⟩
      case round =>
       clear H'
       obtain ⟨x7_3, x8_3, x9_3, x1001_3, x1002_3, rfl, rfl, HA, HK3, HO_7, HI0, HK, HB⟩ := hrel
       cases gk with
       | zero => exact absurd HA.out (by simp [spec_l1Cur_leg.l0])
       | succ k3 =>
        have H := HA.out
        clear HA
        simp only [spec_l1Cur_leg.l0] at H
        by_cases c18 : x9_3 > 0
        ·rw [if_pos c18] at H
         have c18b0 : decide (0 < x9_3) = true := decide_eq_true c18
         clear c18
         (first | rw [c18b0] | (simp only [i64_w, i32_w]; rw [c18b0]) | skip)
         replace H := bindS H
         obtain ⟨⟨t228, t229, t230, t231⟩, A19, H⟩ := H
         (try dsimp only at H)
         replace H := ifS H
         obtain ⟨c20, H⟩ := H
         have LMc20 := aU c20
         clear c20
         obtain ⟨y233, hy233⟩ : ∃ y_ : List (S52), y_ = (x7_3 ++ [(⟨t228, t229⟩ : S52)]) := ⟨_, rfl⟩
         replace H : ((spec_l1Least.f (wrap64 (t228 * t229)) 100).bind fun t236 => (if (wrap64 (x8_3 - t236)) < 2 then ((spec_l1Cur_one.f s0_0 t230 t231 9).bind fun bt237 => (if bt237.1 = true then (spec_l1Cur_leg.l0 k3 t214 y233 (wrap64 (x8_3 - t236)) (wrap64 (x9_3 - 1)) s0_0 bt237.2.1 bt237.2.2) else (spec_l1Cur_leg.j3 k3 t214 y233 s0_0 bt237.2.1 bt237.2.2))) else (spec_l1Cur_leg.l0 k3 t214 y233 (wrap64 (x8_3 - t236)) (wrap64 (x9_3 - 1)) s0_0 t230 t231))) = some (r1, r2, r3, r4) := by first | (rw [hy233]; with_reducible exact H) | (have H2_ := (Option.bind_some _ _).symm.trans H; rw [hy233]; with_reducible exact H2_) | (have H2_ := (Option.bind_some _ _).symm.trans H; with_reducible exact H2_) | with_reducible exact H | (rw [hy233]; exact H) | exact H
         have Ny233 := aU hy233
         clear hy233
         replace H := bindS H
         obtain ⟨t236, A21, H⟩ := H
         (try dsimp only at H)
         by_cases c22 : (wrap64 (x8_3 - t236)) < 2
         ·rw [if_pos c22] at H
          have c22b0 : decide ((wrap64 (x8_3 - t236)) < 2) = true := decide_eq_true c22
          clear c22
          replace H := bindS H
          obtain ⟨⟨t237, t238, t239⟩, A23, H⟩ := H
          (try dsimp only at H)
          by_cases c24 : t237 = true
          ·subst c24
           rw [if_pos rfl] at H
           have H' := aU H
           clear H
           go_wp2_with (first | ((with_reducible refine gcU 104 rfl ?_); refine goU (some 36) Tryz.func104 #[.pointer (some ⟨g, 0, none⟩)] ?_; (with_reducible refine (spec_l1Cur_sureDart.calls g s0_0 x1001_3 x1002_3 t228 t229 t230 t231 w0 _ ?side1 ?side2 A19.out).mono ?_); (case side1 => exact isU HI0); (case side2 => exact hbU); rintro e w25 ⟨rfl, hi, hb, hk⟩; refine ⟨_, rfl, ?_⟩; replace HO_7 := aU (Kd.R_mono (Kd.R_keep (IsS78.apart (show IsS78 w0 _ g s0_0 x1001_3 x1002_3 from isU HI0) (roU HO_7) (by decide)) hk (fun _ h => h.2)) (fun _ h => h.1)); replace HK := aU (KeepBut.trans (kpU HK) hk (.inl rfl)); replace HB := aU (hb); replace HI0 := aU (hi); (try clear hi hb hk)) | ((with_reducible refine gdU 10 rfl ?_); refine bxU (cs := #[.int .i64 0, .int .i64 0]) (t := 52) ?_; intro gb232 hg w26 hbox hb; replace HO_7 := aU (Kd.R_below (Kd.R_elderB (roU HO_7) gb232 (Nat.le_of_eq hg.symm)) hb); replace HB := bsU hb; have BK232 := aU (hbox); have GW232 := aU ((by rw [hg]; exact (keep_size (w := w) (g := g) (row := none) (kpU HK)) : w.heap.size ≤ gb232)); have GE232 := aU ((Nat.le_trans HW0.out (by rw [hg]; exact (keep_size (w := w) (g := g) (row := none) (kpU HK)) : w.heap.size ≤ gb232) : w0.heap.size ≤ gb232)); replace HK := aU (KeepBut.trans (kpU HK) (KeepBut.of_below hb g none) (.inl rfl)); have NB0_232 := aU ((by rw [hg]; exact Nat.ne_of_lt (IsS78.lt (show IsS78 w0 _ g s0_0 t230 t231 from isU HI0)) : g ≠ gb232)); have NB232_0 := aU ((by rw [hg]; exact Nat.ne_of_gt (IsS78.lt (show IsS78 w0 _ g s0_0 t230 t231 from isU HI0)) : gb232 ≠ g)); replace HI0 := aU (IsS78.below (isU HI0) hb); clear hb hbox hg; have hnb27 := NB232_0.out; have hnc27 := NB0_232.out; obtain ⟨hcz28_0, hcz28_1, hfz28_0, hfz28_1⟩ := b2U BK232) | ((with_reducible refine gate_builtin (b := .append) (xs := #[.tmp 37, .tmp 39]) rfl ?_); at_builtin; refine Kd.R_append k52 w.heap.size rfl (.tmp 37) (.tmp 39) 45 52 (.agg #[(.int .i64 0), (.int .i64 0)]) 16 rfl Tryz.underlying45 info52 rfl (by decide) (by omega) u7 x7_3 (⟨t228, t229⟩ : S52) [.int .i64 t228, .int .i64 t229] (fun k_ => k_ ≠ gb232) (fun _ => False) rfl (by first | (go_simp; done) | (go_simp; rfl)) ?aP (fun _ hk => hk.elim) ?aF ?aO (Below.refl _ _) ?aS ?aL ?_; (case aP => exact k52_mkM _ _ _ (⟨t228, t229⟩ : S52)); (case aF => exact (fun k_ hk => Kd.freshB (g := gb232) (o := .cells #[.int .i64 t228, .int .i64 t229] 52 (0, 0)) bkU k_ hk)); (case aO => exact (by (with_reducible repeat (first | apply Kd.R_alloc | apply Kd.R_drewN | apply Kd.R_drew)); exact Kd.R_mono (Kd.R_far (p := ⟨gb232, 1, none⟩) (Kd.R_far (p := ⟨gb232, 0, none⟩) (Kd.R_mono HO_7.out (fun k_ hk => (⟨hk, hk.2⟩ : _ ∧ k_ ≠ gb232))) (fun _ hk => hk.2) (.int .i64 t228)) (fun _ hk => hk.2) (.int .i64 t229)) (fun _ hk => hk.1.2))); (case aS => exact (keep_size (w := w) (g := g) (row := none) (kpU HK))); (case aL => have := LMc20.out; omega); intro v234 w29 ho hb hg hat; rw [← Ny233.out] at ho; replace HI0 := aU (IsS78.grown (show IsS78 w0 _ g s0_0 t230 t231 from isU HI0) hg (IsS78.own_ne HI0.out HO_7.out (by decide))); replace BK232 := aU (blk_grown (g := gb232) (o := .cells #[.int .i64 t228, .int .i64 t229] 52 (0, 0)) bkU hg (Kd.R_away HO_7.out (fun _ hk => hk.2))); replace HB := aU (below_weaken hbU HL.out hb); replace HK := aU (KeepBut.trans (kpU HK) (KeepBut.of_grown hg g) (Kd.R_base2 HO_7.out)); have HO235 := aU (ho); clear HO_7; clear ho hb hg hat; obtain ⟨hcz30_0, hcz30_1, hfz30_0, hfz30_1⟩ := b2U BK232) | ((with_reducible refine gcU 125 rfl ?_); refine goU (some 47) Tryz.func125 #[.int .i64 (wrap64 (t228 * t229)), .int .i64 100] ?_; (with_reducible refine (spec_l1Least.calls (wrap64 (t228 * t229)) 100 t236 _ A21.out).mono ?_); rintro e w' ⟨rfl, ⟨nd, rfl⟩⟩; refine ⟨_, rfl, ?_⟩) | (go_at_call 91; (with_reducible refine (spec_l1Cur_one.calls g s0_0 t230 t231 9 true t238 t239 w0 _ ?side1 ?side2 A23.out).mono ?_); (case side1 => exact isU HI0); (case side2 => exact hbU); rintro e w31 ⟨rfl, hi, hb, hk⟩; replace BK232 := aU (KeepBut.blk hk (g' := gb232) (o := .cells #[.int .i64 t228, .int .i64 t229] 52 (0, 0)) bkU NB232_0.out (by simp)); replace HO235 := aU (Kd.R_mono (Kd.R_keep (IsS78.apart (show IsS78 w0 _ g s0_0 t230 t231 from isU HI0) (roU HO235) (by decide)) hk (fun _ h => h.2)) (fun _ h => h.1)); replace HK := aU (KeepBut.trans (kpU HK) hk (.inl rfl)); replace HB := aU (hb); replace HI0 := aU (hi); (try clear hi hb hk)))
           go_roundg k3
           case measure => have := HJ2.out; have := HJ8.out; have := HK3.out; omega
           case rel => exact ⟨(y233), (wrap64 (x8_3 - t236)), (wrap64 (x9_3 - 1)), (t238), (t239), eqU, eqU, H', ⟨by have := HJ2.out; have := HJ8.out; have := HK3.out; omega⟩, ⟨by (with_reducible repeat (first | apply Kd.R_alloc | apply Kd.R_drewN | apply Kd.R_drew)); exact Kd.R_mono HO235.out (fun _ hk => trivial)⟩, ⟨isU HI0⟩, ⟨by repeat (first | (with_reducible first | exact HK.out | apply KeepBut.set_ | apply keep_drewN | apply keep_drew | apply keep_alloc | refine keep_far ?_ GW232.out _) | exact HK.out)⟩, ⟨hbU⟩⟩
          ·replace c24 := Bool.eq_false_iff.mpr c24
           subst c24
           rw [if_neg (show ¬ (false = true) by decide)] at H
           have H' := aU H
           clear H
           go_wp2_with (first | ((with_reducible refine gcU 104 rfl ?_); refine goU (some 36) Tryz.func104 #[.pointer (some ⟨g, 0, none⟩)] ?_; (with_reducible refine (spec_l1Cur_sureDart.calls g s0_0 x1001_3 x1002_3 t228 t229 t230 t231 w0 _ ?side1 ?side2 A19.out).mono ?_); (case side1 => exact isU HI0); (case side2 => exact hbU); rintro e w32 ⟨rfl, hi, hb, hk⟩; refine ⟨_, rfl, ?_⟩; replace HO_7 := aU (Kd.R_mono (Kd.R_keep (IsS78.apart (show IsS78 w0 _ g s0_0 x1001_3 x1002_3 from isU HI0) (roU HO_7) (by decide)) hk (fun _ h => h.2)) (fun _ h => h.1)); replace HK := aU (KeepBut.trans (kpU HK) hk (.inl rfl)); replace HB := aU (hb); replace HI0 := aU (hi); (try clear hi hb hk)) | ((with_reducible refine gdU 10 rfl ?_); refine bxU (cs := #[.int .i64 0, .int .i64 0]) (t := 52) ?_; intro gb232 hg w33 hbox hb; replace HO_7 := aU (Kd.R_below (Kd.R_elderB (roU HO_7) gb232 (Nat.le_of_eq hg.symm)) hb); replace HB := bsU hb; have BK232 := aU (hbox); have GW232 := aU ((by rw [hg]; exact (keep_size (w := w) (g := g) (row := none) (kpU HK)) : w.heap.size ≤ gb232)); have GE232 := aU ((Nat.le_trans HW0.out (by rw [hg]; exact (keep_size (w := w) (g := g) (row := none) (kpU HK)) : w.heap.size ≤ gb232) : w0.heap.size ≤ gb232)); replace HK := aU (KeepBut.trans (kpU HK) (KeepBut.of_below hb g none) (.inl rfl)); have NB0_232 := aU ((by rw [hg]; exact Nat.ne_of_lt (IsS78.lt (show IsS78 w0 _ g s0_0 t230 t231 from isU HI0)) : g ≠ gb232)); have NB232_0 := aU ((by rw [hg]; exact Nat.ne_of_gt (IsS78.lt (show IsS78 w0 _ g s0_0 t230 t231 from isU HI0)) : gb232 ≠ g)); replace HI0 := aU (IsS78.below (isU HI0) hb); clear hb hbox hg; have hnb34 := NB232_0.out; have hnc34 := NB0_232.out; obtain ⟨hcz35_0, hcz35_1, hfz35_0, hfz35_1⟩ := b2U BK232) | ((with_reducible refine gate_builtin (b := .append) (xs := #[.tmp 37, .tmp 39]) rfl ?_); at_builtin; refine Kd.R_append k52 w.heap.size rfl (.tmp 37) (.tmp 39) 45 52 (.agg #[(.int .i64 0), (.int .i64 0)]) 16 rfl Tryz.underlying45 info52 rfl (by decide) (by omega) u7 x7_3 (⟨t228, t229⟩ : S52) [.int .i64 t228, .int .i64 t229] (fun k_ => k_ ≠ gb232) (fun _ => False) rfl (by first | (go_simp; done) | (go_simp; rfl)) ?aP (fun _ hk => hk.elim) ?aF ?aO (Below.refl _ _) ?aS ?aL ?_; (case aP => exact k52_mkM _ _ _ (⟨t228, t229⟩ : S52)); (case aF => exact (fun k_ hk => Kd.freshB (g := gb232) (o := .cells #[.int .i64 t228, .int .i64 t229] 52 (0, 0)) bkU k_ hk)); (case aO => exact (by (with_reducible repeat (first | apply Kd.R_alloc | apply Kd.R_drewN | apply Kd.R_drew)); exact Kd.R_mono (Kd.R_far (p := ⟨gb232, 1, none⟩) (Kd.R_far (p := ⟨gb232, 0, none⟩) (Kd.R_mono HO_7.out (fun k_ hk => (⟨hk, hk.2⟩ : _ ∧ k_ ≠ gb232))) (fun _ hk => hk.2) (.int .i64 t228)) (fun _ hk => hk.2) (.int .i64 t229)) (fun _ hk => hk.1.2))); (case aS => exact (keep_size (w := w) (g := g) (row := none) (kpU HK))); (case aL => have := LMc20.out; omega); intro v234 w36 ho hb hg hat; rw [← Ny233.out] at ho; replace HI0 := aU (IsS78.grown (show IsS78 w0 _ g s0_0 t230 t231 from isU HI0) hg (IsS78.own_ne HI0.out HO_7.out (by decide))); replace BK232 := aU (blk_grown (g := gb232) (o := .cells #[.int .i64 t228, .int .i64 t229] 52 (0, 0)) bkU hg (Kd.R_away HO_7.out (fun _ hk => hk.2))); replace HB := aU (below_weaken hbU HL.out hb); replace HK := aU (KeepBut.trans (kpU HK) (KeepBut.of_grown hg g) (Kd.R_base2 HO_7.out)); have HO235 := aU (ho); clear HO_7; clear ho hb hg hat; obtain ⟨hcz37_0, hcz37_1, hfz37_0, hfz37_1⟩ := b2U BK232) | ((with_reducible refine gcU 125 rfl ?_); refine goU (some 47) Tryz.func125 #[.int .i64 (wrap64 (t228 * t229)), .int .i64 100] ?_; (with_reducible refine (spec_l1Least.calls (wrap64 (t228 * t229)) 100 t236 _ A21.out).mono ?_); rintro e w' ⟨rfl, ⟨nd, rfl⟩⟩; refine ⟨_, rfl, ?_⟩) | (go_at_call 91; (with_reducible refine (spec_l1Cur_one.calls g s0_0 t230 t231 9 false t238 t239 w0 _ ?side1 ?side2 A23.out).mono ?_); (case side1 => exact isU HI0); (case side2 => exact hbU); rintro e w38 ⟨rfl, hi, hb, hk⟩; replace BK232 := aU (KeepBut.blk hk (g' := gb232) (o := .cells #[.int .i64 t228, .int .i64 t229] 52 (0, 0)) bkU NB232_0.out (by simp)); replace HO235 := aU (Kd.R_mono (Kd.R_keep (IsS78.apart (show IsS78 w0 _ g s0_0 t230 t231 from isU HI0) (roU HO235) (by decide)) hk (fun _ h => h.2)) (fun _ h => h.1)); replace HK := aU (KeepBut.trans (kpU HK) hk (.inl rfl)); replace HB := aU (hb); replace HI0 := aU (hi); (try clear hi hb hk)))
           go_meet
           case rel => exact ⟨_, (y233), (t238), (t239), H', ⟨by have := HJ2.out; have := HJ8.out; have := HK3.out; first | omega | exact Nat.le_refl _⟩, ⟨by (with_reducible repeat (first | apply Kd.R_alloc | apply Kd.R_drewN | apply Kd.R_drew)); exact Kd.R_mono HO235.out (fun _ hk => trivial)⟩, ⟨isU HI0⟩, ⟨by repeat (first | (with_reducible first | exact HK.out | apply KeepBut.set_ | apply keep_drewN | apply keep_drew | apply keep_alloc | refine keep_far ?_ GW232.out _) | exact HK.out)⟩, ⟨hbU⟩⟩
         ·rw [if_neg c22] at H
          have c22b0 : decide ((wrap64 (x8_3 - t236)) < 2) = false := decide_eq_false c22
          clear c22
          have H' := aU H
          clear H
          go_wp2_with (first | ((with_reducible refine gcU 104 rfl ?_); refine goU (some 36) Tryz.func104 #[.pointer (some ⟨g, 0, none⟩)] ?_; (with_reducible refine (spec_l1Cur_sureDart.calls g s0_0 x1001_3 x1002_3 t228 t229 t230 t231 w0 _ ?side1 ?side2 A19.out).mono ?_); (case side1 => exact isU HI0); (case side2 => exact hbU); rintro e w39 ⟨rfl, hi, hb, hk⟩; refine ⟨_, rfl, ?_⟩; replace HO_7 := aU (Kd.R_mono (Kd.R_keep (IsS78.apart (show IsS78 w0 _ g s0_0 x1001_3 x1002_3 from isU HI0) (roU HO_7) (by decide)) hk (fun _ h => h.2)) (fun _ h => h.1)); replace HK := aU (KeepBut.trans (kpU HK) hk (.inl rfl)); replace HB := aU (hb); replace HI0 := aU (hi); (try clear hi hb hk)) | ((with_reducible refine gdU 10 rfl ?_); refine bxU (cs := #[.int .i64 0, .int .i64 0]) (t := 52) ?_; intro gb232 hg w40 hbox hb; replace HO_7 := aU (Kd.R_below (Kd.R_elderB (roU HO_7) gb232 (Nat.le_of_eq hg.symm)) hb); replace HB := bsU hb; have BK232 := aU (hbox); have GW232 := aU ((by rw [hg]; exact (keep_size (w := w) (g := g) (row := none) (kpU HK)) : w.heap.size ≤ gb232)); have GE232 := aU ((Nat.le_trans HW0.out (by rw [hg]; exact (keep_size (w := w) (g := g) (row := none) (kpU HK)) : w.heap.size ≤ gb232) : w0.heap.size ≤ gb232)); replace HK := aU (KeepBut.trans (kpU HK) (KeepBut.of_below hb g none) (.inl rfl)); have NB0_232 := aU ((by rw [hg]; exact Nat.ne_of_lt (IsS78.lt (show IsS78 w0 _ g s0_0 t230 t231 from isU HI0)) : g ≠ gb232)); have NB232_0 := aU ((by rw [hg]; exact Nat.ne_of_gt (IsS78.lt (show IsS78 w0 _ g s0_0 t230 t231 from isU HI0)) : gb232 ≠ g)); replace HI0 := aU (IsS78.below (isU HI0) hb); clear hb hbox hg; have hnb41 := NB232_0.out; have hnc41 := NB0_232.out; obtain ⟨hcz42_0, hcz42_1, hfz42_0, hfz42_1⟩ := b2U BK232) | ((with_reducible refine gate_builtin (b := .append) (xs := #[.tmp 37, .tmp 39]) rfl ?_); at_builtin; refine Kd.R_append k52 w.heap.size rfl (.tmp 37) (.tmp 39) 45 52 (.agg #[(.int .i64 0), (.int .i64 0)]) 16 rfl Tryz.underlying45 info52 rfl (by decide) (by omega) u7 x7_3 (⟨t228, t229⟩ : S52) [.int .i64 t228, .int .i64 t229] (fun k_ => k_ ≠ gb232) (fun _ => False) rfl (by first | (go_simp; done) | (go_simp; rfl)) ?aP (fun _ hk => hk.elim) ?aF ?aO (Below.refl _ _) ?aS ?aL ?_; (case aP => exact k52_mkM _ _ _ (⟨t228, t229⟩ : S52)); (case aF => exact (fun k_ hk => Kd.freshB (g := gb232) (o := .cells #[.int .i64 t228, .int .i64 t229] 52 (0, 0)) bkU k_ hk)); (case aO => exact (by (with_reducible repeat (first | apply Kd.R_alloc | apply Kd.R_drewN | apply Kd.R_drew)); exact Kd.R_mono (Kd.R_far (p := ⟨gb232, 1, none⟩) (Kd.R_far (p := ⟨gb232, 0, none⟩) (Kd.R_mono HO_7.out (fun k_ hk => (⟨hk, hk.2⟩ : _ ∧ k_ ≠ gb232))) (fun _ hk => hk.2) (.int .i64 t228)) (fun _ hk => hk.2) (.int .i64 t229)) (fun _ hk => hk.1.2))); (case aS => exact (keep_size (w := w) (g := g) (row := none) (kpU HK))); (case aL => have := LMc20.out; omega); intro v234 w43 ho hb hg hat; rw [← Ny233.out] at ho; replace HI0 := aU (IsS78.grown (show IsS78 w0 _ g s0_0 t230 t231 from isU HI0) hg (IsS78.own_ne HI0.out HO_7.out (by decide))); replace BK232 := aU (blk_grown (g := gb232) (o := .cells #[.int .i64 t228, .int .i64 t229] 52 (0, 0)) bkU hg (Kd.R_away HO_7.out (fun _ hk => hk.2))); replace HB := aU (below_weaken hbU HL.out hb); replace HK := aU (KeepBut.trans (kpU HK) (KeepBut.of_grown hg g) (Kd.R_base2 HO_7.out)); have HO235 := aU (ho); clear HO_7; clear ho hb hg hat; obtain ⟨hcz44_0, hcz44_1, hfz44_0, hfz44_1⟩ := b2U BK232) | ((with_reducible refine gcU 125 rfl ?_); refine goU (some 47) Tryz.func125 #[.int .i64 (wrap64 (t228 * t229)), .int .i64 100] ?_; (with_reducible refine (spec_l1Least.calls (wrap64 (t228 * t229)) 100 t236 _ A21.out).mono ?_); rintro e w' ⟨rfl, ⟨nd, rfl⟩⟩; refine ⟨_, rfl, ?_⟩))
          go_roundg k3
          case measure => have := HJ2.out; have := HJ8.out; have := HK3.out; omega
          case rel => exact ⟨(y233), (wrap64 (x8_3 - t236)), (wrap64 (x9_3 - 1)), (t230), (t231), eqU, eqU, H', ⟨by have := HJ2.out; have := HJ8.out; have := HK3.out; omega⟩, ⟨by (with_reducible repeat (first | apply Kd.R_alloc | apply Kd.R_drewN | apply Kd.R_drew)); exact Kd.R_mono HO235.out (fun _ hk => trivial)⟩, ⟨isU HI0⟩, ⟨by repeat (first | (with_reducible first | exact HK.out | apply KeepBut.set_ | apply keep_drewN | apply keep_drew | apply keep_alloc | refine keep_far ?_ GW232.out _) | exact HK.out)⟩, ⟨hbU⟩⟩
        ·rw [if_neg c18] at H
         have c18b0 : decide (0 < x9_3) = false := decide_eq_false c18
         clear c18
         (first | rw [c18b0] | (simp only [i64_w, i32_w]; rw [c18b0]) | skip)
         have H' := aU H
         clear H
         go_wp2
         go_meet
         case rel => exact ⟨_, (x7_3), (x1001_3), (x1002_3), H', ⟨by have := HJ2.out; have := HJ8.out; have := HK3.out; first | omega | exact Nat.le_refl _⟩, ⟨roU HO_7⟩, ⟨isU HI0⟩, ⟨by repeat (first | (with_reducible first | exact HK.out | apply KeepBut.set_ | apply keep_drewN | apply keep_drew | apply keep_alloc) | exact HK.out)⟩, ⟨hbU⟩⟩
     case rest =>
      clear HC16
      obtain ⟨kq, x7_15, x1001_15, x1002_15, HA, HJ15, HO_7, HI0, HK, HB⟩ := hcut
      cases kq with
      | zero => exact absurd HA.out (by simp [spec_l1Cur_leg.j3])
      | succ kj15 =>
       have H := HA.out
       clear HA
       simp only [spec_l1Cur_leg.j3] at H
       replace H := bindS H
       obtain ⟨⟨t240, t241, t242⟩, A45, H⟩ := H
       (try dsimp only at H)
       by_cases c46 : t240 = true
       ·subst c46
        rw [if_pos rfl] at H
        replace H := bindS H
        obtain ⟨⟨t243, t244, t245, t246⟩, A47, H⟩ := H
        (try dsimp only at H)
        replace H := ifS H
        obtain ⟨c48, H⟩ := H
        have LMc48 := aU c48
        clear c48
        obtain ⟨y247, hy247⟩ : ∃ y_ : List (S52), y_ = (x7_15 ++ [(⟨t243, t244⟩ : S52)]) := ⟨_, rfl⟩
        replace H : (some (t214, y247, t245, t246)) = some (r1, r2, r3, r4) := by first | (rw [hy247]; with_reducible exact H) | (have H2_ := (Option.bind_some _ _).symm.trans H; rw [hy247]; with_reducible exact H2_) | (have H2_ := (Option.bind_some _ _).symm.trans H; with_reducible exact H2_) | with_reducible exact H | (rw [hy247]; exact H) | exact H
        have Ny247 := aU hy247
        clear hy247
        simp only [Option.some.injEq, Prod.mk.injEq] at H
        obtain ⟨rfl, rfl, rfl, rfl⟩ := H
        go_wp2_with (first | ((with_reducible refine gcU 91 rfl ?_); refine goU (some 57) Tryz.func91 #[.pointer (some ⟨g, 0, none⟩), .int .i64 16] ?_; (with_reducible refine (spec_l1Cur_one.calls g s0_0 x1001_15 x1002_15 16 true t241 t242 w0 _ ?side1 ?side2 A45.out).mono ?_); (case side1 => exact isU HI0); (case side2 => exact hbU); rintro e w49 ⟨rfl, hi, hb, hk⟩; refine ⟨_, rfl, ?_⟩; replace HO_7 := aU (Kd.R_mono (Kd.R_keep (IsS78.apart (show IsS78 w0 _ g s0_0 x1001_15 x1002_15 from isU HI0) (roU HO_7) (by decide)) hk (fun _ h => h.2)) (fun _ h => h.1)); replace HK := aU (KeepBut.trans (kpU HK) hk (.inl rfl)); replace HB := aU (hb); replace HI0 := aU (hi); (try clear hi hb hk)) | ((with_reducible refine gcU 116 rfl ?_); refine goU (some 60) Tryz.func116 #[.pointer (some ⟨g, 0, none⟩)] ?_; (with_reducible refine (spec_l1Cur_dart.calls g s0_0 t241 t242 t243 t244 t245 t246 w0 _ ?side1 ?side2 A47.out).mono ?_); (case side1 => exact isU HI0); (case side2 => exact hbU); rintro e w50 ⟨rfl, hi, hb, hk⟩; refine ⟨_, rfl, ?_⟩; replace HO_7 := aU (Kd.R_mono (Kd.R_keep (IsS78.apart (show IsS78 w0 _ g s0_0 t241 t242 from isU HI0) (roU HO_7) (by decide)) hk (fun _ h => h.2)) (fun _ h => h.1)); replace HK := aU (KeepBut.trans (kpU HK) hk (.inl rfl)); replace HB := aU (hb); replace HI0 := aU (hi); (try clear hi hb hk)) | ((with_reducible refine gate_builtin (b := .append) (xs := #[.tmp 58, .tmp 61]) rfl ?_); at_builtin; refine Kd.R_append k52 w.heap.size rfl (.tmp 58) (.tmp 61) 45 52 (.agg #[(.int .i64 0), (.int .i64 0)]) 16 rfl Tryz.underlying45 info52 rfl (by decide) (by omega) u7 x7_15 (⟨t243, t244⟩ : S52) [.int .i64 t243, .int .i64 t244] (fun _ => True) (fun _ => False) rfl rfl ?aP (fun _ hk => hk.elim) ?aF ?aO (Below.refl _ _) ?aS ?aL ?_; (case aP => exact k52_mkM _ _ _ (⟨t243, t244⟩ : S52)); (case aF => exact (fun _ _ => trivial)); (case aO => exact (roU HO_7)); (case aS => exact (keep_size (w := w) (g := g) (row := none) (kpU HK))); (case aL => have := LMc48.out; omega); intro v248 w51 ho hb hg hat; rw [← Ny247.out] at ho; replace HI0 := aU (IsS78.grown (isU HI0) hg (IsS78.own_ne HI0.out HO_7.out (by decide))); replace HB := aU (below_weaken hbU HL.out hb); replace HK := aU (KeepBut.trans (kpU HK) (KeepBut.of_grown hg g) (Kd.R_base2 HO_7.out)); have HO249 := aU (ho); clear HO_7; clear ho hb hg hat))
        go_ret2
        exact ⟨_, errU, by (with_reducible repeat (first | apply Kd.R_alloc | apply Kd.R_drewN | apply Kd.R_drew)); exact HO249.out, isU HI0, hbU, kpU HK⟩
       ·replace c46 := Bool.eq_false_iff.mpr c46
        subst c46
        rw [if_neg (show ¬ (false = true) by decide)] at H
        simp only [Option.some.injEq, Prod.mk.injEq] at H
        obtain ⟨rfl, rfl, rfl, rfl⟩ := H
        go_wp2_with (first | ((with_reducible refine gcU 91 rfl ?_); refine goU (some 57) Tryz.func91 #[.pointer (some ⟨g, 0, none⟩), .int .i64 16] ?_; (with_reducible refine (spec_l1Cur_one.calls g s0_0 x1001_15 x1002_15 16 false t241 t242 w0 _ ?side1 ?side2 A45.out).mono ?_); (case side1 => exact isU HI0); (case side2 => exact hbU); rintro e w52 ⟨rfl, hi, hb, hk⟩; refine ⟨_, rfl, ?_⟩; replace HO_7 := aU (Kd.R_mono (Kd.R_keep (IsS78.apart (show IsS78 w0 _ g s0_0 x1001_15 x1002_15 from isU HI0) (roU HO_7) (by decide)) hk (fun _ h => h.2)) (fun _ h => h.1)); replace HK := aU (KeepBut.trans (kpU HK) hk (.inl rfl)); replace HB := aU (hb); replace HI0 := aU (hi); (try clear hi hb hk)))
        go_ret2
        exact ⟨_, errU, by (with_reducible repeat (first | apply Kd.R_alloc | apply Kd.R_drewN | apply Kd.R_drew)); exact HO_7.out, isU HI0, hbU, kpU HK⟩
def spec_DrawLeftAfter.f (k : Nat) (l0 : List Int) : Option (Int × (List (S52))) := (spec_l1Cur_leg.f k l0 0 0).bind fun bt251 => (some (bt251.1, bt251.2.1))
theorem spec_DrawLeftAfter.mono : ∀ a0 k, LeO (spec_DrawLeftAfter.f k a0) (spec_DrawLeftAfter.f (k + 1) a0) := by
 intro a0 k
 unfold spec_DrawLeftAfter.f
 repeat' first
   | (with_reducible exact spec_l1Cur_leg.mono _ _ _ _)
   | (with_reducible exact LeO.refl _)
   | (with_reducible exact LeO.none _)
   | (with_reducible refine LeO.ite ?_ ?_)
   | (with_reducible refine LeO.bind ?_ (fun _ => ?_))
set_option maxHeartbeats 8000000 in
set_option maxRecDepth 100000 in
theorem spec_DrawLeftAfter.calls (k : Nat) (A0 : Option Addr) (c0 : Nat) (l0 : List Int) (r1 : Int) (r2 : List (S52)) (w : World) (hr0 : Kd.C (Kd.int .u8) w A0 l0.length l0) (hc0 : l0.length ≤ c0) (h : spec_DrawLeftAfter.f k l0 = some (r1, r2)) :
  Calls Tryz.prog 39 #[.slice A0 l0.length c0] w fun e w' => ∃ v1_ : Value, e = .returned (.tuple #[.int .i64 r1, v1_]) ∧ Kd.R k52 52 w' w.heap.size (fun _ => True) v1_ r2 ∧ Below w.heap.size w w' := by
 have hu78 := Tryz.underlying78
 have HR0 := aU hr0
 have HC0 := aU hc0
 clear hr0 hc0
 have HB := aU (Below.refl w.heap.size w)
 have H : ((spec_l1Cur_leg.f k l0 0 0).bind fun bt251 => (some (bt251.1, bt251.2.1))) = some (r1, r2) := h
 clear h
 replace H := bindS H
 obtain ⟨⟨t251, t252, t255, t256⟩, A2, H⟩ := H
 (try dsimp only at H)
 simp only [Option.some.injEq, Prod.mk.injEq] at H
 obtain ⟨rfl, rfl⟩ := H
 go_enter Tryz.func39, Tryz.ntmps39
 go_wp2_with (first | ((with_reducible refine gdU 7 rfl ?_); refine bxU (cs := #[.slice A0 l0.length c0, .int .i64 0, .int .u64 0]) (t := 78) ?_; intro gb250 hg w3 hbox hb; have HI250 := aU ((⟨_, _, hbox, (by rw [hg]; exact (below_size hbU) : w.heap.size ≤ gb250), HR0.out⟩ : IsS78 w w3 gb250 l0 0 0)); have GW250 := geU hg; have GE250 := geU hg; replace HB := bsU hb; clear hb hbox hg) | ((with_reducible refine gcU 100 rfl ?_); refine goU (some 9) Tryz.func100 #[.pointer (some ⟨gb250, 0, none⟩)] ?_; (with_reducible refine (spec_l1Cur_leg.calls k gb250 l0 0 0 t251 t252 t255 t256 w _ ?side1 ?side2 A2.out).mono ?_); (case side1 => exact isU HI250); (case side2 => exact hbU); rintro e w4 ⟨v253, rfl, ho0, hi, hb, hk⟩; refine ⟨_, rfl, ?_⟩; have HO254 := aU (Kd.R_lower ho0 (below_size hbU)); replace HB := aU (hb); replace HI250 := aU (hi); (try clear ho0 hi hb hk)))
 go_ret2
 exact ⟨_, errU, by (with_reducible repeat (first | apply Kd.R_alloc | apply Kd.R_drewN | apply Kd.R_drew)); exact HO254.out, hbU⟩
def impl_within.f (a0 : Int) (a1 : Int) (a2 : Int) : Option (Bool) := if a1 ≤ a0 then (some (decide (a0 ≤ a2))) else (some false)
set_option maxHeartbeats 8000000 in
set_option maxRecDepth 100000 in
theorem impl_within.calls (a0 : Int) (a1 : Int) (a2 : Int) (r : Bool) (w : World) (h : impl_within.f a0 a1 a2 = some r) :
  Calls Tryz.prog 87 #[.int .i64 a0, .int .i64 a1, .int .i64 a2] w fun e w' => e = .returned (.bool r) ∧ Drawn0 w w' := by
 have H : (if a1 ≤ a0 then (some (decide (a0 ≤ a2))) else (some false)) = some r := h
 clear h
 by_cases c4 : a1 ≤ a0
 ·rw [if_pos c4] at H
  have c4b0 : decide (a1 ≤ a0) = true := decide_eq_true c4
  clear c4
  obtain rfl := Option.some.inj H
  go_enter Tryz.func87, Tryz.ntmps87
  go_wp2
  go_ret
  exact ⟨by first | rfl | (simp; done) | (simp [*]; done), by repeat (first | exact Drawn0.refl _ | apply Drawn0.step)⟩
 ·rw [if_neg c4] at H
  have c4b0 : decide (a1 ≤ a0) = false := decide_eq_false c4
  clear c4
  obtain rfl := Option.some.inj H
  go_enter Tryz.func87, Tryz.ntmps87
  go_wp2
  go_ret
  exact ⟨by first | rfl | (simp; done) | (simp [*]; done), by repeat (first | exact Drawn0.refl _ | apply Drawn0.step)⟩
def impl_IsDart.f (a0_0 : Int) (a0_1 : Int) : Option (Bool) := (impl_within.f a0_0 1 20).bind fun t258 => (if t258 = true then ((impl_within.f a0_1 1 3).bind fun t259 => (if t259 = true then (some true) else (if a0_0 = 25 then ((impl_within.f a0_1 1 2).bind fun t260 => (some t260)) else (some false)))) else (if a0_0 = 25 then ((impl_within.f a0_1 1 2).bind fun t261 => (some t261)) else (some false)))
set_option maxHeartbeats 8000000 in
set_option maxRecDepth 100000 in
theorem impl_IsDart.calls (a0_0 : Int) (a0_1 : Int) (r : Bool) (w : World) (h : impl_IsDart.f a0_0 a0_1 = some r) :
  Calls Tryz.prog 73 #[.agg #[.int .i64 a0_0, .int .i64 a0_1]] w fun e w' => e = .returned (.bool r) ∧ Below w.heap.size w w' := by
 have hu52 := Tryz.underlying52
 have HB := aU (Below.refl w.heap.size w)
 have H : ((impl_within.f a0_0 1 20).bind fun t258 => (if t258 = true then ((impl_within.f a0_1 1 3).bind fun t259 => (if t259 = true then (some true) else (if a0_0 = 25 then ((impl_within.f a0_1 1 2).bind fun t260 => (some t260)) else (some false)))) else (if a0_0 = 25 then ((impl_within.f a0_1 1 2).bind fun t261 => (some t261)) else (some false)))) = some r := h
 clear h
 replace H := bindS H
 obtain ⟨t258, A2, H⟩ := H
 (try dsimp only at H)
 by_cases c3 : t258 = true
 ·subst c3
  rw [if_pos rfl] at H
  replace H := bindS H
  obtain ⟨t259, A4, H⟩ := H
  (try dsimp only at H)
  by_cases c5 : t259 = true
  ·subst c5
   rw [if_pos rfl] at H
   obtain rfl := Option.some.inj H
   go_enter Tryz.func73, Tryz.ntmps73
   go_wp2_with (first | ((with_reducible refine gdU 1 rfl ?_); refine bxU (cs := #[.int .i64 a0_0, .int .i64 a0_1]) (t := 52) ?_; intro gb257 hg w6 hbox hb; have BK257 := aU (hbox); have GW257 := geU hg; have GE257 := geU hg; replace HB := bsU hb; clear hb hbox hg; obtain ⟨hcz7_0, hcz7_1, hfz7_0, hfz7_1⟩ := b2U BK257) | ((with_reducible refine gcU 87 rfl ?_); refine goU (some 5) Tryz.func87 #[.int .i64 a0_0, .int .i64 1, .int .i64 20] ?_; (with_reducible refine (impl_within.calls a0_0 1 20 true _ A2.out).mono ?_); rintro e w' ⟨rfl, ⟨nd, rfl⟩⟩; refine ⟨_, rfl, ?_⟩) | (go_at_call 87; (with_reducible refine (impl_within.calls a0_1 1 3 true _ A4.out).mono ?_); rintro e w' ⟨rfl, ⟨nd, rfl⟩⟩))
   go_ret
   exact ⟨errU, hbU⟩
  ·replace c5 := Bool.eq_false_iff.mpr c5
   subst c5
   rw [if_neg (show ¬ (false = true) by decide)] at H
   by_cases c8 : a0_0 = 25
   ·rw [if_pos c8] at H
    have c8b0 : (a0_0 == 25) = true := beq_iff_eq.mpr c8
    have c8b1 : (a0_0 != 25) = false := bne_eq_false_iff_eq.mpr c8
    clear c8
    replace H := bindS H
    obtain ⟨t260, A9, H⟩ := H
    (try dsimp only at H)
    obtain rfl := Option.some.inj H
    go_enter Tryz.func73, Tryz.ntmps73
    go_wp2_with (first | ((with_reducible refine gdU 1 rfl ?_); refine bxU (cs := #[.int .i64 a0_0, .int .i64 a0_1]) (t := 52) ?_; intro gb257 hg w10 hbox hb; have BK257 := aU (hbox); have GW257 := geU hg; have GE257 := geU hg; replace HB := bsU hb; clear hb hbox hg; obtain ⟨hcz11_0, hcz11_1, hfz11_0, hfz11_1⟩ := b2U BK257) | ((with_reducible refine gcU 87 rfl ?_); refine goU (some 5) Tryz.func87 #[.int .i64 a0_0, .int .i64 1, .int .i64 20] ?_; (with_reducible refine (impl_within.calls a0_0 1 20 true _ A2.out).mono ?_); rintro e w' ⟨rfl, ⟨nd, rfl⟩⟩; refine ⟨_, rfl, ?_⟩) | (go_at_call 87; (with_reducible refine (impl_within.calls a0_1 1 3 false _ A4.out).mono ?_); rintro e w' ⟨rfl, ⟨nd, rfl⟩⟩) | (go_at_call 87; (with_reducible refine (impl_within.calls a0_1 1 2 t260 _ A9.out).mono ?_); rintro e w' ⟨rfl, ⟨nd, rfl⟩⟩))
    go_ret
    exact ⟨errU, hbU⟩
   ·rw [if_neg c8] at H
    have c8b0 : (a0_0 == 25) = false := beq_eq_false_iff_ne.mpr c8
    have c8b1 : (a0_0 != 25) = true := bne_iff_ne.mpr c8
    obtain rfl := Option.some.inj H
    go_enter Tryz.func73, Tryz.ntmps73
    go_wp2_with (first | ((with_reducible refine gdU 1 rfl ?_); refine bxU (cs := #[.int .i64 a0_0, .int .i64 a0_1]) (t := 52) ?_; intro gb257 hg w12 hbox hb; have BK257 := aU (hbox); have GW257 := geU hg; have GE257 := geU hg; replace HB := bsU hb; clear hb hbox hg; obtain ⟨hcz13_0, hcz13_1, hfz13_0, hfz13_1⟩ := b2U BK257) | ((with_reducible refine gcU 87 rfl ?_); refine goU (some 5) Tryz.func87 #[.int .i64 a0_0, .int .i64 1, .int .i64 20] ?_; (with_reducible refine (impl_within.calls a0_0 1 20 true _ A2.out).mono ?_); rintro e w' ⟨rfl, ⟨nd, rfl⟩⟩; refine ⟨_, rfl, ?_⟩) | (go_at_call 87; (with_reducible refine (impl_within.calls a0_1 1 3 false _ A4.out).mono ?_); rintro e w' ⟨rfl, ⟨nd, rfl⟩⟩))
    go_ret
    exact ⟨errU, hbU⟩
 ·replace c3 := Bool.eq_false_iff.mpr c3
  subst c3
  rw [if_neg (show ¬ (false = true) by decide)] at H
  by_cases c14 : a0_0 = 25
  ·rw [if_pos c14] at H
   have c14b0 : (a0_0 == 25) = true := beq_iff_eq.mpr c14
   have c14b1 : (a0_0 != 25) = false := bne_eq_false_iff_eq.mpr c14
   clear c14
   replace H := bindS H
   obtain ⟨t261, A15, H⟩ := H
   (try dsimp only at H)
   obtain rfl := Option.some.inj H
   go_enter Tryz.func73, Tryz.ntmps73
   go_wp2_with (first | ((with_reducible refine gdU 1 rfl ?_); refine bxU (cs := #[.int .i64 a0_0, .int .i64 a0_1]) (t := 52) ?_; intro gb257 hg w16 hbox hb; have BK257 := aU (hbox); have GW257 := geU hg; have GE257 := geU hg; replace HB := bsU hb; clear hb hbox hg; obtain ⟨hcz17_0, hcz17_1, hfz17_0, hfz17_1⟩ := b2U BK257) | ((with_reducible refine gcU 87 rfl ?_); refine goU (some 5) Tryz.func87 #[.int .i64 a0_0, .int .i64 1, .int .i64 20] ?_; (with_reducible refine (impl_within.calls a0_0 1 20 false _ A2.out).mono ?_); rintro e w' ⟨rfl, ⟨nd, rfl⟩⟩; refine ⟨_, rfl, ?_⟩) | (go_at_call 87; (with_reducible refine (impl_within.calls a0_1 1 2 t261 _ A15.out).mono ?_); rintro e w' ⟨rfl, ⟨nd, rfl⟩⟩))
   go_ret
   exact ⟨errU, hbU⟩
  ·rw [if_neg c14] at H
   have c14b0 : (a0_0 == 25) = false := beq_eq_false_iff_ne.mpr c14
   have c14b1 : (a0_0 != 25) = true := bne_iff_ne.mpr c14
   obtain rfl := Option.some.inj H
   go_enter Tryz.func73, Tryz.ntmps73
   go_wp2_with (first | ((with_reducible refine gdU 1 rfl ?_); refine bxU (cs := #[.int .i64 a0_0, .int .i64 a0_1]) (t := 52) ?_; intro gb257 hg w18 hbox hb; have BK257 := aU (hbox); have GW257 := geU hg; have GE257 := geU hg; replace HB := bsU hb; clear hb hbox hg; obtain ⟨hcz19_0, hcz19_1, hfz19_0, hfz19_1⟩ := b2U BK257) | ((with_reducible refine gcU 87 rfl ?_); refine goU (some 5) Tryz.func87 #[.int .i64 a0_0, .int .i64 1, .int .i64 20] ?_; (with_reducible refine (impl_within.calls a0_0 1 20 false _ A2.out).mono ?_); rintro e w' ⟨rfl, ⟨nd, rfl⟩⟩; refine ⟨_, rfl, ?_⟩))
   go_ret
   exact ⟨errU, hbU⟩
def impl_areDarts_1.f (a0_0 : Int) (a0_1 : Int) : Option (Bool) := (impl_IsDart.f a0_0 a0_1).bind fun t263 => (some (!t263))
set_option maxHeartbeats 8000000 in
set_option maxRecDepth 100000 in
theorem impl_areDarts_1.calls (a0_0 : Int) (a0_1 : Int) (r : Bool) (w : World) (h : impl_areDarts_1.f a0_0 a0_1 = some r) :
  Calls Tryz.prog 141 #[.agg #[.int .i64 a0_0, .int .i64 a0_1]] w fun e w' => e = .returned (.bool r) ∧ Below w.heap.size w w' := by
 have hu52 := Tryz.underlying52
 have HB := aU (Below.refl w.heap.size w)
 have H : ((impl_IsDart.f a0_0 a0_1).bind fun t263 => (some (!t263))) = some r := h
 clear h
 replace H := bindS H
 obtain ⟨t263, A2, H⟩ := H
 (try dsimp only at H)
 obtain rfl := Option.some.inj H
 go_enter Tryz.func141, Tryz.ntmps141
 go_wp2_with (first | ((with_reducible refine gdU 1 rfl ?_); refine bxU (cs := #[.int .i64 a0_0, .int .i64 a0_1]) (t := 52) ?_; intro gb262 hg w3 hbox hb; have BK262 := aU (hbox); have GW262 := geU hg; have GE262 := geU hg; replace HB := bsU hb; clear hb hbox hg; obtain ⟨hcz4_0, hcz4_1, hfz4_0, hfz4_1⟩ := b2U BK262) | ((with_reducible refine gcU 73 rfl ?_); refine goU (some 4) Tryz.func73 #[.agg #[.int .i64 a0_0, .int .i64 a0_1]] ?_; (with_reducible refine (impl_IsDart.calls a0_0 a0_1 t263 _ A2.out).mono ?_); rintro e w5 ⟨rfl, hb⟩; refine ⟨_, rfl, ?_⟩; replace BK262 := bbU BK262 hb; replace HB := bsU hb; (try clear hb)))
 go_ret
 exact ⟨errU, hbU⟩
def impl_Dart_158.l0 : Nat → List (S52) → Int → Int → Option (Int)
 | 0, _, _, _ => none
 | k + 1, x0, x7, x8 => if x8 < x7 then (if 0 ≤ x8 then (if x8 < (x0.length : Int) then ((impl_areDarts_1.f ((rd_T52 x0 x8).f0) ((rd_T52 x0 x8).f1)).bind fun t265 => (if t265 = true then (some x8) else (impl_Dart_158.l0 k x0 x7 (wrap64 (x8 + 1))))) else (none)) else (none)) else (some (-1))
def impl_Dart_158.f (k : Nat) (l0 : List (S52)) (a1 : Int) : Option (Int) := impl_Dart_158.l0 k l0 (l0.length : Int) 0
theorem impl_Dart_158.mono_l : ∀ k, (∀ y0 y1 y2, LeO (impl_Dart_158.l0 k y0 y1 y2) (impl_Dart_158.l0 (k + 1) y0 y1 y2))
 | 0 => fun _ _ _ r h => by simp [impl_Dart_158.l0] at h
 | k + 1 => by
  have ih0 := impl_Dart_158.mono_l k
  all_goals intros
  all_goals first | unfold impl_Dart_158.l0
  all_goals repeat' first
  | (with_reducible exact ih0 _ _ _)
  | (with_reducible exact LeO.refl _)
  | (with_reducible exact LeO.none _)
  | (with_reducible refine LeO.ite ?_ ?_)
  | (with_reducible refine LeO.bind ?_ (fun _ => ?_))
theorem impl_Dart_158.mono : ∀ a0 a1 k, LeO (impl_Dart_158.f k a0 a1) (impl_Dart_158.f (k + 1) a0 a1) := by
 intro a0 a1 k
 have ih0 := impl_Dart_158.mono_l k
 unfold impl_Dart_158.f
 repeat' first
   | (with_reducible exact ih0 _ _ _)
   | (with_reducible exact LeO.refl _)
   | (with_reducible exact LeO.none _)
   | (with_reducible refine LeO.ite ?_ ?_)
   | (with_reducible refine LeO.bind ?_ (fun _ => ?_))
set_option maxHeartbeats 8000000 in
set_option maxRecDepth 100000 in
theorem impl_Dart_158.calls (k : Nat) (A0 : Option Addr) (c0 : Nat) (l0 : List (S52)) (a1 : Int) (r : Int) (w : World) (hr0 : Kd.C k52 w A0 l0.length l0) (hc0 : l0.length ≤ c0) (h : impl_Dart_158.f k l0 a1 = some r) :
  Calls Tryz.prog 158 #[.slice A0 l0.length c0, (.func (.func 141) #[] #[])] w fun e w' => e = .returned (.int .i64 r) ∧ Below w.heap.size w w' := by
 have hu52 := Tryz.underlying52
 have HR0 := aU hr0
 have HC0 := aU hc0
 clear hr0 hc0
 have HB := aU (Below.refl w.heap.size w)
 have H : (impl_Dart_158.l0 k l0 (l0.length : Int) 0) = some r := h
 clear h
 have H' := aU H
 clear H
 go_enter Tryz.func158, Tryz.ntmps158
 go_wp2
 go_loopg [8] k (fun kq v8 w' => ∃ (x8_1 : Int), v8 = .int .i64 x8_1 ∧ Aside0 (impl_Dart_158.l0 kq l0 (l0.length : Int) x8_1 = some r) ∧ Aside0 (kq ≤ k) ∧ Aside0 (Below w.heap.size w w'))
 case atStart => exact ⟨(0), eqU, H', ⟨Nat.le_refl _⟩, ⟨hbU⟩⟩
 case round =>
  clear H'
  obtain ⟨x8_1, rfl, HA, HK1, HB⟩ := hrel
  cases gk with
  | zero => exact absurd HA.out (by simp [impl_Dart_158.l0])
  | succ k1 =>
   have H := HA.out
   clear HA
   simp only [impl_Dart_158.l0] at H
   by_cases c3 : x8_1 < (l0.length : Int)
   ·rw [if_pos c3] at H
    have c3b0 : decide (x8_1 < (l0.length : Int)) = true := decide_eq_true c3
    clear c3
    replace H := ifS H
    obtain ⟨c4, H⟩ := H
    have c4b0 : decide (0 ≤ x8_1) = true := decide_eq_true c4
    clear c4
    replace H := ifS H
    obtain ⟨c5, H⟩ := H
    have c5b0 : decide (x8_1 < (l0.length : Int)) = true := decide_eq_true c5
    clear c5
    replace H := bindS H
    obtain ⟨t265, A6, H⟩ := H
    (try dsimp only at H)
    by_cases c7 : t265 = true
    ·subst c7
     rw [if_pos rfl] at H
     obtain rfl := Option.some.inj H
     have p264 : 0 ≤ (x8_1 : Int) := dU
     have q264 : x8_1 < (l0.length : Int) := dU
     obtain ⟨ad264, e264, hx264_0, hx264_1⟩ := at_T52 HR0.out x8_1 p264 q264
     cases e264
     replace hx264_0 := (HB.out.cell (World.block_lt_of_cell? w _ hx264_0)).trans hx264_0
     replace hx264_1 := (HB.out.cell (World.block_lt_of_cell? w _ hx264_1)).trans hx264_1
     replace p264 := eq_true p264
     replace q264 := eq_true q264
     go_wp2_with (first | (go_at_call 141; (with_reducible refine (impl_areDarts_1.calls ((rd_T52 l0 x8_1).f0) ((rd_T52 l0 x8_1).f1) true _ A6.out).mono ?_); rintro e w8 ⟨rfl, hb⟩; replace HB := bsU hb; (try clear hb)))
     go_ret
     exact ⟨errU, hbU⟩
    ·replace c7 := Bool.eq_false_iff.mpr c7
     subst c7
     rw [if_neg (show ¬ (false = true) by decide)] at H
     have H' := aU H
     clear H
     have p264 : 0 ≤ (x8_1 : Int) := dU
     have q264 : x8_1 < (l0.length : Int) := dU
     obtain ⟨ad264, e264, hx264_0, hx264_1⟩ := at_T52 HR0.out x8_1 p264 q264
     cases e264
     replace hx264_0 := (HB.out.cell (World.block_lt_of_cell? w _ hx264_0)).trans hx264_0
     replace hx264_1 := (HB.out.cell (World.block_lt_of_cell? w _ hx264_1)).trans hx264_1
     replace p264 := eq_true p264
     replace q264 := eq_true q264
     go_wp2_with (first | (go_at_call 141; (with_reducible refine (impl_areDarts_1.calls ((rd_T52 l0 x8_1).f0) ((rd_T52 l0 x8_1).f1) false _ A6.out).mono ?_); rintro e w9 ⟨rfl, hb⟩; replace HB := bsU hb; (try clear hb)))
     go_roundg k1
     case measure => have := HK1.out; omega
     case rel => exact ⟨(wrap64 (x8_1 + 1)), eqU, H', ⟨by have := HK1.out; omega⟩, ⟨hbU⟩⟩
   ·rw [if_neg c3] at H
    have c3b0 : decide (x8_1 < (l0.length : Int)) = false := decide_eq_false c3
    clear c3
    obtain rfl := Option.some.inj H
    go_wp2
    go_ret
    exact ⟨errU, hbU⟩
def impl_Dart_140.f (k : Nat) (l0 : List (S52)) (a1 : Int) : Option (Bool) := (impl_Dart_158.f k l0 a1).bind fun t266 => (some (decide (t266 ≥ 0)))
theorem impl_Dart_140.mono : ∀ a0 a1 k, LeO (impl_Dart_140.f k a0 a1) (impl_Dart_140.f (k + 1) a0 a1) := by
 intro a0 a1 k
 unfold impl_Dart_140.f
 repeat' first
   | (with_reducible exact impl_Dart_158.mono _ _ _)
   | (with_reducible exact LeO.refl _)
   | (with_reducible exact LeO.none _)
   | (with_reducible refine LeO.ite ?_ ?_)
   | (with_reducible refine LeO.bind ?_ (fun _ => ?_))
set_option maxHeartbeats 8000000 in
set_option maxRecDepth 100000 in
theorem impl_Dart_140.calls (k : Nat) (A0 : Option Addr) (c0 : Nat) (l0 : List (S52)) (a1 : Int) (r : Bool) (w : World) (hr0 : Kd.C k52 w A0 l0.length l0) (hc0 : l0.length ≤ c0) (h : impl_Dart_140.f k l0 a1 = some r) :
  Calls Tryz.prog 140 #[.slice A0 l0.length c0, (.func (.func 141) #[] #[])] w fun e w' => e = .returned (.bool r) ∧ Below w.heap.size w w' := by
 have HR0 := aU hr0
 have HC0 := aU hc0
 clear hr0 hc0
 have HB := aU (Below.refl w.heap.size w)
 have H : ((impl_Dart_158.f k l0 a1).bind fun t266 => (some (decide (t266 ≥ 0)))) = some r := h
 clear h
 replace H := bindS H
 obtain ⟨t266, A3, H⟩ := H
 (try dsimp only at H)
 obtain rfl := Option.some.inj H
 go_enter Tryz.func140, Tryz.ntmps140
 go_wp2_with (first | ((with_reducible refine gcU 158 rfl ?_); refine goU (some 7) Tryz.func158 #[.slice A0 l0.length c0, (.func (.func 141) #[] #[])] ?_; (with_reducible refine (impl_Dart_158.calls k _ _ l0 a1 t266 _ ?side1 ?side2 A3.out).mono ?_); (case side1 => repeat (first | exact HR0.out | (with_reducible refine Kd.C_alloc ?_ _) | (with_reducible refine Kd.C_drewN ?_ _) | (with_reducible refine Kd.C_drew ?_))); (case side2 => exact HC0.out); rintro e w4 ⟨rfl, hb⟩; refine ⟨_, rfl, ?_⟩; replace HB := bsU hb; (try clear hb)))
 go_ret
 exact ⟨errU, hbU⟩
def impl_areDarts.f (k : Nat) (l0 : List (S52)) : Option (Bool) := (impl_Dart_140.f k l0 0).bind fun t267 => (some (!t267))
theorem impl_areDarts.mono : ∀ a0 k, LeO (impl_areDarts.f k a0) (impl_areDarts.f (k + 1) a0) := by
 intro a0 k
 unfold impl_areDarts.f
 repeat' first
   | (with_reducible exact impl_Dart_140.mono _ _ _)
   | (with_reducible exact LeO.refl _)
   | (with_reducible exact LeO.none _)
   | (with_reducible refine LeO.ite ?_ ?_)
   | (with_reducible refine LeO.bind ?_ (fun _ => ?_))
set_option maxHeartbeats 8000000 in
set_option maxRecDepth 100000 in
theorem impl_areDarts.calls (k : Nat) (A0 : Option Addr) (c0 : Nat) (l0 : List (S52)) (r : Bool) (w : World) (hr0 : Kd.C k52 w A0 l0.length l0) (hc0 : l0.length ≤ c0) (h : impl_areDarts.f k l0 = some r) :
  Calls Tryz.prog 107 #[.slice A0 l0.length c0] w fun e w' => e = .returned (.bool r) ∧ Below w.heap.size w w' := by
 have HR0 := aU hr0
 have HC0 := aU hc0
 clear hr0 hc0
 have HB := aU (Below.refl w.heap.size w)
 have H : ((impl_Dart_140.f k l0 0).bind fun t267 => (some (!t267))) = some r := h
 clear h
 replace H := bindS H
 obtain ⟨t267, A2, H⟩ := H
 (try dsimp only at H)
 obtain rfl := Option.some.inj H
 go_enter Tryz.func107, Tryz.ntmps107
 go_wp2_with (first | ((with_reducible refine gcU 140 rfl ?_); refine goU (some 4) Tryz.func140 #[.slice A0 l0.length c0, (.func (.func 141) #[] #[])] ?_; (with_reducible refine (impl_Dart_140.calls k _ _ l0 0 t267 _ ?side1 ?side2 A2.out).mono ?_); (case side1 => repeat (first | exact HR0.out | (with_reducible refine Kd.C_alloc ?_ _) | (with_reducible refine Kd.C_drewN ?_ _) | (with_reducible refine Kd.C_drew ?_))); (case side2 => exact HC0.out); rintro e w3 ⟨rfl, hb⟩; refine ⟨_, rfl, ?_⟩; replace HB := bsU hb; (try clear hb)))
 go_ret
 exact ⟨errU, hbU⟩
def impl_Dart_score.f (a0_0 : Int) (a0_1 : Int) : Option (Int) := some (wrap64 (a0_0 * a0_1))
set_option maxHeartbeats 8000000 in
set_option maxRecDepth 100000 in
theorem impl_Dart_score.calls (a0_0 : Int) (a0_1 : Int) (r : Int) (w : World) (h : impl_Dart_score.f a0_0 a0_1 = some r) :
  Calls Tryz.prog 108 #[.agg #[.int .i64 a0_0, .int .i64 a0_1]] w fun e w' => e = .returned (.int .i64 r) ∧ Below w.heap.size w w' := by
 have hu52 := Tryz.underlying52
 have HB := aU (Below.refl w.heap.size w)
 have H : (some (wrap64 (a0_0 * a0_1))) = some r := h
 clear h
 obtain rfl := Option.some.inj H
 go_enter Tryz.func108, Tryz.ntmps108
 go_wp2_with (first | ((with_reducible refine gdU 1 rfl ?_); refine bxU (cs := #[.int .i64 a0_0, .int .i64 a0_1]) (t := 52) ?_; intro gb268 hg w2 hbox hb; have BK268 := aU (hbox); have GW268 := geU hg; have GE268 := geU hg; replace HB := bsU hb; clear hb hbox hg; obtain ⟨hcz3_0, hcz3_1, hfz3_0, hfz3_1⟩ := b2U BK268))
 go_ret
 exact ⟨errU, hbU⟩
end Go.Proofs.YtcmlmjgoidpabaaGreatDoor.MFnDartsPlayed

