/- Walks of the functions that the law reaches: each comes to just what the function that is told of it tells, for all arguments. -/
import Derived.Test.YtcmlmjgoidpabaaGreatDoorYMFnDartsPlayedx9
import Derived.Test.YtcmlmjgoidpabaaGreatDoorYMFnDartsPlayedx13
import Derived.Test.YtcmlmjgoidpabaaGreatDoorYMFnDartsPlayedx15
namespace Go.Proofs.YtcmlmjgoidpabaaGreatDoor.MFnDartsPlayed
open Go.RowKit Go.Proofs.YtcmlmjgoidpabaaGreatDoorW.PrintWords Go.Proofs.YtcmlmjgoidpabaaGreatDoorW.PrintLast Go.Proofs.YtcmlmjgoidpabaaGreatDoorW.PrintMore
attribute [local go_sem] max2_int min2_int max_two min_two max_three min_three max_four min_four
set_option linter.unusedVariables false
set_option linter.unusedSimpArgs false
mutual
def impl_Dart_163.l0 : Nat → List (S52) → Int → Int → Int → Int → Int → Option ((List (S52)))
 | 0, _, _, _, _, _, _ => none
 | k + 1, x0, x1, x2, x6, x7, x8 => if x8 ≤ x1 then ((impl_Dart_181.f k x0 x7 x8 x2).bind fun t530 => (impl_Dart_163.l0 k t530 x1 x2 x6 x8 (wrap64 (x8 + x6)))) else ((impl_Dart_181.f k x0 x7 x1 x2).bind fun t531 => (impl_Dart_163.l1 k t531 x1 x2 x6))
def impl_Dart_163.l1 : Nat → List (S52) → Int → Int → Int → Option ((List (S52)))
 | 0, _, _, _, _ => none
 | k + 1, x0, x1, x2, x6 => if x6 < x1 then (impl_Dart_163.l2 k x0 x1 x2 x6 0 (wrap64 (2 * x6))) else (some x0)
def impl_Dart_163.l2 : Nat → List (S52) → Int → Int → Int → Int → Int → Option ((List (S52)))
 | 0, _, _, _, _, _, _ => none
 | k + 1, x0, x1, x2, x6, x7, x8 => if x8 ≤ x1 then ((impl_Dart_182.f k x0 x7 (wrap64 (x7 + x6)) x8 x2).bind fun t532 => (impl_Dart_163.l2 k t532 x1 x2 x6 x8 (wrap64 (x8 + (wrap64 (2 * x6)))))) else (if (wrap64 (x7 + x6)) < x1 then ((impl_Dart_182.f k x0 x7 (wrap64 (x7 + x6)) x1 x2).bind fun t533 => (impl_Dart_163.l1 k t533 x1 x2 (wrap64 (x6 * 2)))) else (impl_Dart_163.l1 k x0 x1 x2 (wrap64 (x6 * 2))))
end
def impl_Dart_163.f (k : Nat) (l0 : List (S52)) (a1 : Int) (a2 : Int) : Option ((List (S52))) := impl_Dart_163.l0 k l0 a1 a2 20 0 20
theorem impl_Dart_163.mono_l : ∀ k, (∀ y0 y1 y2 y3 y4 y5, LeO (impl_Dart_163.l0 k y0 y1 y2 y3 y4 y5) (impl_Dart_163.l0 (k + 1) y0 y1 y2 y3 y4 y5)) ∧ (∀ y0 y1 y2 y3, LeO (impl_Dart_163.l1 k y0 y1 y2 y3) (impl_Dart_163.l1 (k + 1) y0 y1 y2 y3)) ∧ (∀ y0 y1 y2 y3 y4 y5, LeO (impl_Dart_163.l2 k y0 y1 y2 y3 y4 y5) (impl_Dart_163.l2 (k + 1) y0 y1 y2 y3 y4 y5))
 | 0 => ⟨fun _ _ _ _ _ _ r h => by simp [impl_Dart_163.l0] at h, fun _ _ _ _ r h => by simp [impl_Dart_163.l1] at h, fun _ _ _ _ _ _ r h => by simp [impl_Dart_163.l2] at h⟩
 | k + 1 => by
  obtain ⟨ih0, ih1, ih2⟩ := impl_Dart_163.mono_l k
  refine ⟨?_, ?_, ?_⟩
  all_goals intros
  all_goals first | unfold impl_Dart_163.l0 | unfold impl_Dart_163.l1 | unfold impl_Dart_163.l2
  all_goals repeat' first
  | (with_reducible exact ih0 _ _ _ _ _ _)
  | (with_reducible exact ih1 _ _ _ _)
  | (with_reducible exact ih2 _ _ _ _ _ _)
  | (with_reducible exact impl_Dart_181.mono _ _ _ _ _)
  | (with_reducible exact impl_Dart_182.mono _ _ _ _ _ _)
  | (with_reducible exact LeO.refl _)
  | (with_reducible exact LeO.none _)
  | (with_reducible refine LeO.ite ?_ ?_)
  | (with_reducible refine LeO.bind ?_ (fun _ => ?_))
theorem impl_Dart_163.mono : ∀ a0 a1 a2 k, LeO (impl_Dart_163.f k a0 a1 a2) (impl_Dart_163.f (k + 1) a0 a1 a2) := by
 intro a0 a1 a2 k
 obtain ⟨ih0, ih1, ih2⟩ := impl_Dart_163.mono_l k
 unfold impl_Dart_163.f
 repeat' first
   | (with_reducible exact ih0 _ _ _ _ _ _)
   | (with_reducible exact ih1 _ _ _ _)
   | (with_reducible exact ih2 _ _ _ _ _ _)
   | (with_reducible exact impl_Dart_181.mono _ _ _ _ _)
   | (with_reducible exact impl_Dart_182.mono _ _ _ _ _ _)
   | (with_reducible exact LeO.refl _)
   | (with_reducible exact LeO.none _)
   | (with_reducible refine LeO.ite ?_ ?_)
   | (with_reducible refine LeO.bind ?_ (fun _ => ?_))
set_option maxHeartbeats 8000000 in
set_option maxRecDepth 100000 in
theorem impl_Dart_163.calls (k : Nat) (P0_ : Nat → Prop) (u9000_ : Value) (l0 : List (S52)) (a1 : Int) (a2 : Int) (r : List (S52)) (w0 w : World) (hB : Below w0.heap.size w0 w) (ho0 : Kd.R k52 52 w w0.heap.size P0_ u9000_ l0) (h : impl_Dart_163.f k l0 a1 a2 = some r) :
  Calls Tryz.prog 163 #[u9000_, .int .i64 a1, (.func (.func 147) #[] #[])] w fun e w' => e = .returned (.tuple #[]) ∧ Kd.R k52 52 w' w0.heap.size (fun k_ => (P0_ k_ ∨ w.heap.size ≤ k_)) u9000_ r ∧ Below w0.heap.size w0 w' ∧ Kept w w' (fun k_ => P0_ k_) := by
 have HO0 := aU (show Kd.R k52 52 w w0.heap.size (fun k_ => (P0_ k_ ∨ w.heap.size ≤ k_)) u9000_ l0 from Kd.R_mono ho0 (fun k_ hk => (.inl hk)))
 have HK := aU (Kept.refl w (fun k_ => P0_ k_))
 have HW0 := aU hB.size
 have HB := aU hB
 clear hB
 have H : (impl_Dart_163.l0 k l0 a1 a2 20 0 20) = some r := h
 clear h
 have H' := aU H
 clear H
 go_enter Tryz.func163, Tryz.ntmps163
 go_wp2
 (try simp only [Act.put, List.setIfInBounds_toArray, List.set_cons_zero, List.set_cons_succ])
 change Code.wp _ _ _ (Act.mk _ _) _
 go_loopg [7, 8] k (fun kq v7 v8 w' => ∃ (x0_1 : List (S52)) (x7_1 : Int) (x8_1 : Int), v7 = .int .i64 x7_1 ∧ v8 = .int .i64 x8_1 ∧ Aside0 (impl_Dart_163.l0 kq x0_1 a1 a2 20 x7_1 x8_1 = some r) ∧ Aside0 (kq ≤ k) ∧ Aside0 (Kd.R k52 52 w' w0.heap.size (fun k_ => (P0_ k_ ∨ w.heap.size ≤ k_)) u9000_ x0_1) ∧ Aside0 (Kept w w' (fun k_ => P0_ k_)) ∧ Aside0 (Below w0.heap.size w0 w'))
 case atStart => exact ⟨(l0), (0), (20), eqU, eqU, H', ⟨Nat.le_refl _⟩, ⟨roU HO0⟩, ⟨by repeat (first | (with_reducible first | exact HK.out | apply Kept.alloc | apply Kept.drewN | apply Kept.drew) | exact HK.out)⟩, ⟨hbU⟩⟩
 case round =>
  clear H'
  obtain ⟨x0_1, x7_1, x8_1, rfl, rfl, HA, HK1, HO_0, HK, HB⟩ := hrel
  cases gk with
  | zero => exact absurd HA.out (by simp [impl_Dart_163.l0])
  | succ k1 =>
   have H := HA.out
   clear HA
   simp only [impl_Dart_163.l0] at H
   by_cases c4 : x8_1 ≤ a1
   ·rw [if_pos c4] at H
    have c4b0 : decide (x8_1 ≤ a1) = true := decide_eq_true c4
    clear c4
    replace H := bindS H
    obtain ⟨t530, A5, H⟩ := H
    (try dsimp only at H)
    have H' := aU H
    clear H
    obtain ⟨Ao6, co6, eo6⟩ := Kd.R_slice HO_0.out
    subst eo6
    go_wp2_with (first | ((with_reducible refine gcU 181 rfl ?_); refine goU (some 18) Tryz.func181 #[.slice Ao6 x0_1.length co6, .int .i64 x7_1, .int .i64 x8_1, (.func (.func 147) #[] #[])] ?_; (with_reducible refine (impl_Dart_181.calls k1 (fun k_ => some k_ = (.slice Ao6 x0_1.length co6 : Value).ownBlock) (.slice Ao6 x0_1.length co6) x0_1 x7_1 x8_1 a2 t530 w0 _ ?side1 ?side2 A5.out).mono ?_); (case side1 => exact hbU); (case side2 => exact Kd.R_tight rfl HO_0.out); rintro e w7 ⟨rfl, hy0, hb, hkp⟩; refine ⟨_, rfl, ?_⟩; replace HK := aU (Kept.then_ (S := (fun k_ => P0_ k_)) (ktU HK) hkp (fun k_ hs_ => (fun e_ => (HO_0.out.1 k_ e_.symm)) hs_)); replace HO_0 := aU (Kd.R_reok rfl hy0 (fun k_ e_ => HO_0.out.1 k_ e_)); replace HB := aU (hb); (try clear hb); (try clear hkp); (try clear hy0)))
    go_roundg k1
    case measure => have := HK1.out; omega
    case rel => exact ⟨(t530), (x8_1), (wrap64 (x8_1 + 20)), eqU, eqU, H', ⟨by have := HK1.out; omega⟩, ⟨roU HO_0⟩, ⟨by repeat (first | (with_reducible first | exact HK.out | apply Kept.alloc | apply Kept.drewN | apply Kept.drew) | exact HK.out)⟩, ⟨hbU⟩⟩
   ·rw [if_neg c4] at H
    have c4b0 : decide (x8_1 ≤ a1) = false := decide_eq_false c4
    clear c4
    replace H := bindS H
    obtain ⟨t531, A8, H⟩ := H
    (try dsimp only at H)
    have H' := aU H
    clear H
    obtain ⟨Ao9, co9, eo9⟩ := Kd.R_slice HO_0.out
    subst eo9
    go_wp2_with (first | ((with_reducible refine gcU 181 rfl ?_); refine goU (some 27) Tryz.func181 #[.slice Ao9 x0_1.length co9, .int .i64 x7_1, .int .i64 a1, (.func (.func 147) #[] #[])] ?_; (with_reducible refine (impl_Dart_181.calls k1 (fun k_ => some k_ = (.slice Ao9 x0_1.length co9 : Value).ownBlock) (.slice Ao9 x0_1.length co9) x0_1 x7_1 a1 a2 t531 w0 _ ?side1 ?side2 A8.out).mono ?_); (case side1 => exact hbU); (case side2 => exact Kd.R_tight rfl HO_0.out); rintro e w10 ⟨rfl, hy0, hb, hkp⟩; refine ⟨_, rfl, ?_⟩; replace HK := aU (Kept.then_ (S := (fun k_ => P0_ k_)) (ktU HK) hkp (fun k_ hs_ => (fun e_ => (HO_0.out.1 k_ e_.symm)) hs_)); replace HO_0 := aU (Kd.R_reok rfl hy0 (fun k_ e_ => HO_0.out.1 k_ e_)); replace HB := aU (hb); (try clear hb); (try clear hkp); (try clear hy0)))
    (try simp only [Act.put, List.setIfInBounds_toArray, List.set_cons_zero, List.set_cons_succ])
    change Code.wp _ _ _ (Act.mk _ _) _
    go_loopg [6] k1 (fun kq v6 w' => ∃ (x0_2 : List (S52)) (x6_2 : Int), v6 = .int .i64 x6_2 ∧ Aside0 (impl_Dart_163.l1 kq x0_2 a1 a2 x6_2 = some r) ∧ Aside0 (kq ≤ k1) ∧ Aside0 (Kd.R k52 52 w' w0.heap.size (fun k_ => (P0_ k_ ∨ w.heap.size ≤ k_)) (.slice Ao9 x0_1.length co9) x0_2) ∧ Aside0 (Kept w w' (fun k_ => P0_ k_)) ∧ Aside0 (Below w0.heap.size w0 w'))
    case atStart => exact ⟨(t531), (20), eqU, H', ⟨Nat.le_refl _⟩, ⟨roU HO_0⟩, ⟨by repeat (first | (with_reducible first | exact HK.out | apply Kept.alloc | apply Kept.drewN | apply Kept.drew) | exact HK.out)⟩, ⟨hbU⟩⟩
    case round =>
     clear H'
     (try clear c4b0)
     obtain ⟨x0_2, x6_2, rfl, HA, HK2, HO_0, HK, HB⟩ := hrel
     have hl0_2 := (Kd.R_reads' HO_0.out).1
     rw [hl0_2] at HO_0
     (try simp only [hl0_2])
     cases gk with
     | zero => exact absurd HA.out (by simp [impl_Dart_163.l1])
     | succ k2 =>
      have H := HA.out
      clear HA
      simp only [impl_Dart_163.l1] at H
      by_cases c11 : x6_2 < a1
      ·rw [if_pos c11] at H
       have c11b0 : decide (x6_2 < a1) = true := decide_eq_true c11
       clear c11
       have H' := aU H
       clear H
       go_wp2
       (try simp only [Act.put, List.setIfInBounds_toArray, List.set_cons_zero, List.set_cons_succ])
       change Code.wp _ _ _ (Act.mk _ _) _
       go_loopg [7, 8] k2 (fun kq v7 v8 w' => ∃ (x0_3 : List (S52)) (x7_3 : Int) (x8_3 : Int), v7 = .int .i64 x7_3 ∧ v8 = .int .i64 x8_3 ∧ Aside0 (impl_Dart_163.l2 kq x0_3 a1 a2 x6_2 x7_3 x8_3 = some r) ∧ Aside0 (kq ≤ k2) ∧ Aside0 (Kd.R k52 52 w' w0.heap.size (fun k_ => (P0_ k_ ∨ w.heap.size ≤ k_)) (.slice Ao9 x0_2.length co9) x0_3) ∧ Aside0 (Kept w w' (fun k_ => P0_ k_)) ∧ Aside0 (Below w0.heap.size w0 w'))
       case atStart => exact ⟨(x0_2), (0), (wrap64 (2 * x6_2)), eqU, eqU, H', ⟨Nat.le_refl _⟩, ⟨by (try simp only [hl0_2]); (with_reducible repeat (first | apply Kd.R_alloc | apply Kd.R_drewN | apply Kd.R_drew)); exact HO_0.out⟩, ⟨by repeat (first | (with_reducible first | exact HK.out | apply Kept.alloc | apply Kept.drewN | apply Kept.drew) | exact HK.out)⟩, ⟨hbU⟩⟩
       case round =>
        clear H'
        (try clear c11b0)
        obtain ⟨x0_3, x7_3, x8_3, rfl, rfl, HA, HK3, HO_0, HK, HB⟩ := hrel
        have hl0_3 := (Kd.R_reads' HO_0.out).1
        rw [hl0_3] at HO_0
        (try simp only [hl0_3])
        cases gk with
        | zero => exact absurd HA.out (by simp [impl_Dart_163.l2])
        | succ k3 =>
         have H := HA.out
         clear HA
         simp only [impl_Dart_163.l2] at H
         by_cases c12 : x8_3 ≤ a1
         ·rw [if_pos c12] at H
          have c12b0 : decide (x8_3 ≤ a1) = true := decide_eq_true c12
          clear c12
          replace H := bindS H
          obtain ⟨t532, A13, H⟩ := H
          (try dsimp only at H)
          have H' := aU H
          clear H
          go_wp2_with (first | ((with_reducible refine gcU 182 rfl ?_); refine goU (some 43) Tryz.func182 #[.slice Ao9 x0_3.length co9, .int .i64 x7_3, .int .i64 (wrap64 (x7_3 + x6_2)), .int .i64 x8_3, (.func (.func 147) #[] #[])] ?_; (with_reducible refine (impl_Dart_182.calls k3 (fun k_ => some k_ = (.slice Ao9 x0_3.length co9 : Value).ownBlock) (.slice Ao9 x0_3.length co9) x0_3 x7_3 (wrap64 (x7_3 + x6_2)) x8_3 a2 t532 w0 _ ?side1 ?side2 A13.out).mono ?_); (case side1 => exact hbU); (case side2 => exact Kd.R_tight rfl HO_0.out); rintro e w14 ⟨rfl, hy0, hb, hkp⟩; refine ⟨_, rfl, ?_⟩; replace HK := aU (Kept.then_ (S := (fun k_ => P0_ k_)) (ktU HK) hkp (fun k_ hs_ => (fun e_ => (HO_0.out.1 k_ e_.symm)) hs_)); replace HO_0 := aU (Kd.R_reok rfl hy0 (fun k_ e_ => HO_0.out.1 k_ e_)); replace HB := aU (hb); (try clear hb); (try clear hkp); (try clear hy0)))
          (try simp only [← hl0_3])
          go_roundg k3
          case measure => have := HK1.out; have := HK2.out; have := HK3.out; omega
          case rel => exact ⟨(t532), (x8_3), (wrap64 (x8_3 + (wrap64 (2 * x6_2)))), eqU, eqU, H', ⟨by have := HK1.out; have := HK2.out; have := HK3.out; omega⟩, ⟨by (try simp only [hl0_2]); (try simp only [hl0_3]); (with_reducible repeat (first | apply Kd.R_alloc | apply Kd.R_drewN | apply Kd.R_drew)); exact HO_0.out⟩, ⟨by repeat (first | (with_reducible first | exact HK.out | apply Kept.alloc | apply Kept.drewN | apply Kept.drew) | exact HK.out)⟩, ⟨hbU⟩⟩
         ·rw [if_neg c12] at H
          have c12b0 : decide (x8_3 ≤ a1) = false := decide_eq_false c12
          clear c12
          by_cases c15 : (wrap64 (x7_3 + x6_2)) < a1
          ·rw [if_pos c15] at H
           have c15b0 : decide ((wrap64 (x7_3 + x6_2)) < a1) = true := decide_eq_true c15
           clear c15
           replace H := bindS H
           obtain ⟨t533, A16, H⟩ := H
           (try dsimp only at H)
           have H' := aU H
           clear H
           go_wp2_with (first | ((with_reducible refine gcU 182 rfl ?_); refine goU (some 60) Tryz.func182 #[.slice Ao9 x0_3.length co9, .int .i64 x7_3, .int .i64 (wrap64 (x7_3 + x6_2)), .int .i64 a1, (.func (.func 147) #[] #[])] ?_; (with_reducible refine (impl_Dart_182.calls k3 (fun k_ => some k_ = (.slice Ao9 x0_3.length co9 : Value).ownBlock) (.slice Ao9 x0_3.length co9) x0_3 x7_3 (wrap64 (x7_3 + x6_2)) a1 a2 t533 w0 _ ?side1 ?side2 A16.out).mono ?_); (case side1 => exact hbU); (case side2 => exact Kd.R_tight rfl HO_0.out); rintro e w17 ⟨rfl, hy0, hb, hkp⟩; refine ⟨_, rfl, ?_⟩; replace HK := aU (Kept.then_ (S := (fun k_ => P0_ k_)) (ktU HK) hkp (fun k_ hs_ => (fun e_ => (HO_0.out.1 k_ e_.symm)) hs_)); replace HO_0 := aU (Kd.R_reok rfl hy0 (fun k_ e_ => HO_0.out.1 k_ e_)); replace HB := aU (hb); (try clear hb); (try clear hkp); (try clear hy0)))
           (try simp only [← hl0_2, ← hl0_3])
           go_roundg k3
           case measure => have := HK1.out; have := HK2.out; have := HK3.out; omega
           case rel => exact ⟨(t533), (wrap64 (x6_2 * 2)), eqU, H', ⟨by have := HK1.out; have := HK2.out; have := HK3.out; omega⟩, ⟨by (try simp only [hl0_2]); (try simp only [hl0_3]); (with_reducible repeat (first | apply Kd.R_alloc | apply Kd.R_drewN | apply Kd.R_drew)); exact HO_0.out⟩, ⟨by repeat (first | (with_reducible first | exact HK.out | apply Kept.alloc | apply Kept.drewN | apply Kept.drew) | exact HK.out)⟩, ⟨hbU⟩⟩
          ·rw [if_neg c15] at H
           have c15b0 : decide ((wrap64 (x7_3 + x6_2)) < a1) = false := decide_eq_false c15
           clear c15
           have H' := aU H
           clear H
           go_wp2
           (try simp only [← hl0_2, ← hl0_3])
           go_roundg k3
           case measure => have := HK1.out; have := HK2.out; have := HK3.out; omega
           case rel => exact ⟨(x0_3), (wrap64 (x6_2 * 2)), eqU, H', ⟨by have := HK1.out; have := HK2.out; have := HK3.out; omega⟩, ⟨by (try simp only [hl0_2]); (try simp only [hl0_3]); (with_reducible repeat (first | apply Kd.R_alloc | apply Kd.R_drewN | apply Kd.R_drew)); exact HO_0.out⟩, ⟨by repeat (first | (with_reducible first | exact HK.out | apply Kept.alloc | apply Kept.drewN | apply Kept.drew) | exact HK.out)⟩, ⟨hbU⟩⟩
      ·rw [if_neg c11] at H
       have c11b0 : decide (x6_2 < a1) = false := decide_eq_false c11
       clear c11
       obtain rfl := Option.some.inj H
       go_wp2
       first | go_end0 | ((try simp only [Exit.inBlock, Exit.then]); refine bodyPost_ret (results_none rfl _ _ _) rfl ?_)
       exact ⟨errU, (by first | exact (roU HO_0) | (simp only [hl0_2]; exact (roU HO_0))), hbU, ktU HK⟩
def impl_Dart_146.f (k : Nat) (l0 : List (S52)) (a1 : Int) : Option ((List (S52))) := (impl_Dart_163.f k l0 (l0.length : Int) a1).bind fun t534 => (some t534)
theorem impl_Dart_146.mono : ∀ a0 a1 k, LeO (impl_Dart_146.f k a0 a1) (impl_Dart_146.f (k + 1) a0 a1) := by
 intro a0 a1 k
 unfold impl_Dart_146.f
 repeat' first
   | (with_reducible exact impl_Dart_163.mono _ _ _ _)
   | (with_reducible exact LeO.refl _)
   | (with_reducible exact LeO.none _)
   | (with_reducible refine LeO.ite ?_ ?_)
   | (with_reducible refine LeO.bind ?_ (fun _ => ?_))
set_option maxHeartbeats 8000000 in
set_option maxRecDepth 100000 in
theorem impl_Dart_146.calls (k : Nat) (P0_ : Nat → Prop) (u9000_ : Value) (l0 : List (S52)) (a1 : Int) (r : List (S52)) (w0 w : World) (hB : Below w0.heap.size w0 w) (ho0 : Kd.R k52 52 w w0.heap.size P0_ u9000_ l0) (h : impl_Dart_146.f k l0 a1 = some r) :
  Calls Tryz.prog 146 #[u9000_, (.func (.func 147) #[] #[])] w fun e w' => e = .returned (.tuple #[]) ∧ Kd.R k52 52 w' w0.heap.size (fun k_ => (P0_ k_ ∨ w.heap.size ≤ k_)) u9000_ r ∧ Below w0.heap.size w0 w' ∧ Kept w w' (fun k_ => P0_ k_) := by
 have HO0 := aU (show Kd.R k52 52 w w0.heap.size (fun k_ => (P0_ k_ ∨ w.heap.size ≤ k_)) u9000_ l0 from Kd.R_mono ho0 (fun k_ hk => (.inl hk)))
 have HK := aU (Kept.refl w (fun k_ => P0_ k_))
 have HW0 := aU hB.size
 have HB := aU hB
 clear hB
 have H : ((impl_Dart_163.f k l0 (l0.length : Int) a1).bind fun t534 => (some t534)) = some r := h
 clear h
 replace H := bindS H
 obtain ⟨t534, A3, H⟩ := H
 (try dsimp only at H)
 obtain rfl := Option.some.inj H
 obtain ⟨Ao4, co4, eo4⟩ := Kd.R_slice HO0.out
 subst eo4
 go_enter Tryz.func146, Tryz.ntmps146
 go_wp2_with (first | ((with_reducible refine gcU 163 rfl ?_); refine goU (some 8) Tryz.func163 #[.slice Ao4 l0.length co4, .int .i64 (l0.length : Int), (.func (.func 147) #[] #[])] ?_; (with_reducible refine (impl_Dart_163.calls k (fun k_ => some k_ = (.slice Ao4 l0.length co4 : Value).ownBlock) (.slice Ao4 l0.length co4) l0 (l0.length : Int) a1 t534 w0 _ ?side1 ?side2 A3.out).mono ?_); (case side1 => exact hbU); (case side2 => exact Kd.R_tight rfl HO0.out); rintro e w5 ⟨rfl, hy0, hb, hkp⟩; refine ⟨_, rfl, ?_⟩; replace HK := aU (Kept.then_ (S := (fun k_ => P0_ k_)) (ktU HK) hkp (fun k_ hs_ => (fun e_ => (HO0.out.1 k_ e_.symm)) hs_)); replace HO0 := aU (Kd.R_reok rfl hy0 (fun k_ e_ => HO0.out.1 k_ e_)); replace HB := aU (hb); (try clear hb); (try clear hkp); (try clear hy0)))
 first | go_end0 | ((try simp only [Exit.inBlock, Exit.then]); refine bodyPost_ret (results_none rfl _ _ _) rfl ?_)
 exact ⟨errU, by (with_reducible repeat (first | apply Kd.R_alloc | apply Kd.R_drewN | apply Kd.R_drew)); exact HO0.out, hbU, ktU HK⟩
mutual
def impl_board.l0 : Nat → List (S52) → Int → Option ((List (S52)))
 | 0, _, _ => none
 | k + 1, x1, x2 => if x2 ≤ 25 then (impl_board.l1 k x1 x2 1) else ((impl_Dart_146.f k x1 0).bind fun t538 => (some t538))
def impl_board.l1 : Nat → List (S52) → Int → Int → Option ((List (S52)))
 | 0, _, _, _ => none
 | k + 1, x1, x2, x3 => if x3 ≤ 3 then ((impl_IsDart.f x2 x3).bind fun t540 => (if t540 = true then (if x1.length < 8796093022208 then (impl_board.l1 k (x1 ++ [(⟨x2, x3⟩ : S52)]) x2 (wrap64 (x3 + 1))) else (none)) else (impl_board.l1 k x1 x2 (wrap64 (x3 + 1))))) else (impl_board.l0 k x1 (wrap64 (x2 + 1)))
end
def impl_board.f (k : Nat)  : Option ((List (S52))) := impl_board.l0 k (([] : List (S52))) 1
theorem impl_board.mono_l : ∀ k, (∀ y0 y1, LeO (impl_board.l0 k y0 y1) (impl_board.l0 (k + 1) y0 y1)) ∧ (∀ y0 y1 y2, LeO (impl_board.l1 k y0 y1 y2) (impl_board.l1 (k + 1) y0 y1 y2))
 | 0 => ⟨fun _ _ r h => by simp [impl_board.l0] at h, fun _ _ _ r h => by simp [impl_board.l1] at h⟩
 | k + 1 => by
  obtain ⟨ih0, ih1⟩ := impl_board.mono_l k
  refine ⟨?_, ?_⟩
  all_goals intros
  all_goals first | unfold impl_board.l0 | unfold impl_board.l1
  all_goals repeat' first
  | (with_reducible exact ih0 _ _)
  | (with_reducible exact ih1 _ _ _)
  | (with_reducible exact impl_Dart_146.mono _ _ _)
  | (with_reducible exact LeO.refl _)
  | (with_reducible exact LeO.none _)
  | (with_reducible refine LeO.ite ?_ ?_)
  | (with_reducible refine LeO.bind ?_ (fun _ => ?_))
theorem impl_board.mono : ∀ k, LeO (impl_board.f k ) (impl_board.f (k + 1) ) := by
 intro  k
 obtain ⟨ih0, ih1⟩ := impl_board.mono_l k
 unfold impl_board.f
 repeat' first
   | (with_reducible exact ih0 _ _)
   | (with_reducible exact ih1 _ _ _)
   | (with_reducible exact impl_Dart_146.mono _ _ _)
   | (with_reducible exact LeO.refl _)
   | (with_reducible exact LeO.none _)
   | (with_reducible refine LeO.ite ?_ ?_)
   | (with_reducible refine LeO.bind ?_ (fun _ => ?_))
set_option maxHeartbeats 8000000 in
set_option maxRecDepth 100000 in
theorem impl_board.calls (k : Nat)  (r : List (S52)) (w : World) (h : impl_board.f k  = some r) :
  Calls Tryz.prog 119 #[] w fun e w' => ∃ v0_ : Value, e = .returned (v0_) ∧ Kd.R k52 52 w' w.heap.size (fun _ => True) v0_ r ∧ Below w.heap.size w w' := by
 have hu52 := Tryz.underlying52
 have HB := aU (Below.refl w.heap.size w)
 have H : (impl_board.l0 k (([] : List (S52))) 1) = some r := h
 clear h
 obtain ⟨y535, hy535⟩ : ∃ y_ : List (S52), y_ = (([] : List (S52))) := ⟨_, rfl⟩
 replace H : (impl_board.l0 k y535 1) = some r := by first | (rw [hy535]; with_reducible exact H) | (have H2_ := (Option.bind_some _ _).symm.trans H; rw [hy535]; with_reducible exact H2_) | (have H2_ := (Option.bind_some _ _).symm.trans H; with_reducible exact H2_) | with_reducible exact H | (rw [hy535]; exact H) | exact H
 have Ny535 := aU hy535
 clear hy535
 have H' := aU H
 clear H
 go_enter Tryz.func119, Tryz.ntmps119
 go_wp2_with (first | ((with_reducible refine gdU 5 rfl ?_); refine Kd.R_lit k52 _ 52 ?hg (N := 5) ?hd (xs := ([] : List (S52))) (inner := []) (ok := fun _ => True) (okp := fun _ => True) ?hr ?hp (fun _ hk => hk) trivial (Below.refl _ _) (Nat.le_refl _) (by simp) ?_; (case hd => rfl); (case hg => rfl); (case hr => first | (go_simp; done) | (go_simp; rfl)); (case hp => exact (Reps.none _ _)); intro v536 w1 ho2 hb hg_ hnew_; clear hg_ hnew_; (first | rw [← Ny535.out] at ho2 | (simp only [Int.reduceToNat] at ho2; rw [← Ny535.out] at ho2)); have HO537 := aU (Kd.R_lower ho2 (below_size hbU)); replace HB := bsU hb; clear hb ho2))
 go_loopg [1, 2] k (fun kq v1 v2 w' => ∃ (x1_1 : List (S52)) (x2_1 : Int), v2 = .int .i64 x2_1 ∧ Aside0 (impl_board.l0 kq x1_1 x2_1 = some r) ∧ Aside0 (kq ≤ k) ∧ Aside0 (Kd.R k52 52 w' w.heap.size (fun _ => True) v1 x1_1) ∧ Aside0 (Below w.heap.size w w'))
 case atStart => exact ⟨(y535), (1), eqU, H', ⟨Nat.le_refl _⟩, ⟨roU HO537⟩, ⟨hbU⟩⟩
 case round =>
  clear H'
  obtain ⟨x1_1, x2_1, rfl, HA, HK1, HO_1, HB⟩ := hrel
  cases gk with
  | zero => exact absurd HA.out (by simp [impl_board.l0])
  | succ k1 =>
   have H := HA.out
   clear HA
   simp only [impl_board.l0] at H
   by_cases c3 : x2_1 ≤ 25
   ·rw [if_pos c3] at H
    have c3b0 : decide (x2_1 ≤ 25) = true := decide_eq_true c3
    clear c3
    have H' := aU H
    clear H
    go_wp2
    go_loopg [1, 3] k1 (fun kq v1 v3 w' => ∃ (x1_2 : List (S52)) (x3_2 : Int), v3 = .int .i64 x3_2 ∧ Aside0 (impl_board.l1 kq x1_2 x2_1 x3_2 = some r) ∧ Aside0 (kq ≤ k1) ∧ Aside0 (Kd.R k52 52 w' w.heap.size (fun _ => True) v1 x1_2) ∧ Aside0 (Below w.heap.size w w'))
    case atStart => exact ⟨(x1_1), (1), eqU, H', ⟨Nat.le_refl _⟩, ⟨roU HO_1⟩, ⟨hbU⟩⟩
    case round =>
     clear H'
     (try clear c3b0)
     obtain ⟨x1_2, x3_2, rfl, HA, HK2, HO_1, HB⟩ := hrel
     cases gk with
     | zero => exact absurd HA.out (by simp [impl_board.l1])
     | succ k2 =>
      have H := HA.out
      clear HA
      simp only [impl_board.l1] at H
      by_cases c4 : x3_2 ≤ 3
      ·rw [if_pos c4] at H
       have c4b0 : decide (x3_2 ≤ 3) = true := decide_eq_true c4
       clear c4
       replace H := bindS H
       obtain ⟨t540, A5, H⟩ := H
       (try dsimp only at H)
       by_cases c6 : t540 = true
       ·subst c6
        rw [if_pos rfl] at H
        replace H := ifS H
        obtain ⟨c7, H⟩ := H
        have LMc7 := aU c7
        clear c7
        obtain ⟨y541, hy541⟩ : ∃ y_ : List (S52), y_ = (x1_2 ++ [(⟨x2_1, x3_2⟩ : S52)]) := ⟨_, rfl⟩
        replace H : (impl_board.l1 k2 y541 x2_1 (wrap64 (x3_2 + 1))) = some r := by first | (rw [hy541]; with_reducible exact H) | (have H2_ := (Option.bind_some _ _).symm.trans H; rw [hy541]; with_reducible exact H2_) | (have H2_ := (Option.bind_some _ _).symm.trans H; with_reducible exact H2_) | with_reducible exact H | (rw [hy541]; exact H) | exact H
        have Ny541 := aU hy541
        clear hy541
        have H' := aU H
        clear H
        go_wp2_with (first | ((with_reducible refine gdU 4 rfl ?_); refine bxU (cs := #[.int .i64 0, .int .i64 0]) (t := 52) ?_; intro gb539 hg w8 hbox hb; replace HO_1 := aU (Kd.R_below (Kd.R_elderB (roU HO_1) gb539 (Nat.le_of_eq hg.symm)) hb); have BK539 := aU (hbox); have GW539 := geU hg; have GE539 := geU hg; replace HB := bsU hb; clear hb hbox hg; obtain ⟨hcz9_0, hcz9_1, hfz9_0, hfz9_1⟩ := b2U BK539) | ((with_reducible refine gcU 73 rfl ?_); refine goU (some 18) Tryz.func73 #[.agg #[.int .i64 x2_1, .int .i64 x3_2]] ?_; (with_reducible refine (impl_IsDart.calls x2_1 x3_2 true _ A5.out).mono ?_); rintro e w10 ⟨rfl, hb⟩; refine ⟨_, rfl, ?_⟩; replace HO_1 := aU (Kd.R_below (by (with_reducible repeat (first | apply Kd.R_alloc | apply Kd.R_drewN | apply Kd.R_drew)); exact (Kd.R_mono (Kd.R_far (p := ⟨gb539, 1, none⟩) (Kd.R_far (p := ⟨gb539, 0, none⟩) (Kd.R_mono HO_1.out (fun k_ hk => (⟨hk, hk.2⟩ : _ ∧ k_ ≠ gb539))) (fun _ hk => hk.2) (.int .i64 x2_1)) (fun _ hk => hk.2) (.int .i64 x3_2)) (fun _ h_ => h_.1))) hb); replace BK539 := aU (blk_below (g := gb539) (o := .cells #[.int .i64 x2_1, .int .i64 x3_2] 52 (0, 0)) bkU hb); replace HB := bsU hb; (try clear hb); obtain ⟨hcz11_0, hcz11_1, hfz11_0, hfz11_1⟩ := b2U BK539) | ((with_reducible refine gate_builtin (b := .append) (xs := #[.tmp 19, .tmp 21]) rfl ?_); at_builtin; refine Kd.R_append k52 (w0 := w) w.heap.size rfl (.tmp 19) (.tmp 21) 45 52 (.agg #[(.int .i64 0), (.int .i64 0)]) 16 rfl Tryz.underlying45 info52 rfl (by decide) (by omega) u1 x1_2 (⟨x2_1, x3_2⟩ : S52) [.int .i64 x2_1, .int .i64 x3_2] (fun k_ => k_ ≠ gb539) (fun _ => False) rfl rfl ?aP (fun _ hk => hk.elim) ?aF ?aO ?aB ?aS ?aL ?_; (case aP => exact k52_mkM _ _ _ (⟨x2_1, x3_2⟩ : S52)); (case aB => exact hbU); (case aF => exact (fun k_ hk => Kd.freshB (g := gb539) (o := .cells #[.int .i64 x2_1, .int .i64 x3_2] 52 (0, 0)) bkU k_ hk)); (case aO => exact (by (with_reducible repeat (first | apply Kd.R_alloc | apply Kd.R_drewN | apply Kd.R_drew)); exact Kd.R_mono HO_1.out (fun _ hk => hk.2))); (case aS => exact (below_size hbU)); (case aL => have := LMc7.out; omega); intro v542 w12 ho hb hg hat; rw [← Ny541.out] at ho; replace BK539 := aU (blk_grown (g := gb539) (o := .cells #[.int .i64 x2_1, .int .i64 x3_2] 52 (0, 0)) bkU hg (Kd.R_away HO_1.out (fun _ hk => hk.2))); replace HB := aU (hb); have HO543 := aU (ho); clear HO_1; clear ho hb hg hat))
        go_roundg k2
        case measure => have := HK1.out; have := HK2.out; omega
        case rel => exact ⟨(y541), (wrap64 (x3_2 + 1)), eqU, H', ⟨by have := HK1.out; have := HK2.out; omega⟩, ⟨by (with_reducible repeat (first | apply Kd.R_alloc | apply Kd.R_drewN | apply Kd.R_drew)); exact Kd.R_mono HO543.out (fun _ hk => trivial)⟩, ⟨hbU⟩⟩
       ·replace c6 := Bool.eq_false_iff.mpr c6
        subst c6
        rw [if_neg (show ¬ (false = true) by decide)] at H
        have H' := aU H
        clear H
        go_wp2_with (first | ((with_reducible refine gdU 4 rfl ?_); refine bxU (cs := #[.int .i64 0, .int .i64 0]) (t := 52) ?_; intro gb539 hg w13 hbox hb; replace HO_1 := aU (Kd.R_below (Kd.R_elderB (roU HO_1) gb539 (Nat.le_of_eq hg.symm)) hb); have BK539 := aU (hbox); have GW539 := geU hg; have GE539 := geU hg; replace HB := bsU hb; clear hb hbox hg; obtain ⟨hcz14_0, hcz14_1, hfz14_0, hfz14_1⟩ := b2U BK539) | ((with_reducible refine gcU 73 rfl ?_); refine goU (some 18) Tryz.func73 #[.agg #[.int .i64 x2_1, .int .i64 x3_2]] ?_; (with_reducible refine (impl_IsDart.calls x2_1 x3_2 false _ A5.out).mono ?_); rintro e w15 ⟨rfl, hb⟩; refine ⟨_, rfl, ?_⟩; replace HO_1 := aU (Kd.R_below (by (with_reducible repeat (first | apply Kd.R_alloc | apply Kd.R_drewN | apply Kd.R_drew)); exact (Kd.R_mono (Kd.R_far (p := ⟨gb539, 1, none⟩) (Kd.R_far (p := ⟨gb539, 0, none⟩) (Kd.R_mono HO_1.out (fun k_ hk => (⟨hk, hk.2⟩ : _ ∧ k_ ≠ gb539))) (fun _ hk => hk.2) (.int .i64 x2_1)) (fun _ hk => hk.2) (.int .i64 x3_2)) (fun _ h_ => h_.1))) hb); replace BK539 := aU (blk_below (g := gb539) (o := .cells #[.int .i64 x2_1, .int .i64 x3_2] 52 (0, 0)) bkU hb); replace HB := bsU hb; (try clear hb)))
        go_roundg k2
        case measure => have := HK1.out; have := HK2.out; omega
        case rel => exact ⟨(x1_2), (wrap64 (x3_2 + 1)), eqU, H', ⟨by have := HK1.out; have := HK2.out; omega⟩, ⟨by (with_reducible repeat (first | apply Kd.R_alloc | apply Kd.R_drewN | apply Kd.R_drew)); exact Kd.R_mono HO_1.out (fun _ hk => trivial)⟩, ⟨hbU⟩⟩
      ·rw [if_neg c4] at H
       have c4b0 : decide (x3_2 ≤ 3) = false := decide_eq_false c4
       clear c4
       have H' := aU H
       clear H
       go_wp2
       go_roundg k2
       case measure => have := HK1.out; have := HK2.out; omega
       case rel => exact ⟨(x1_2), (wrap64 (x2_1 + 1)), eqU, H', ⟨by have := HK1.out; have := HK2.out; omega⟩, ⟨roU HO_1⟩, ⟨hbU⟩⟩
   ·rw [if_neg c3] at H
    have c3b0 : decide (x2_1 ≤ 25) = false := decide_eq_false c3
    clear c3
    replace H := bindS H
    obtain ⟨t538, A16, H⟩ := H
    (try dsimp only at H)
    obtain rfl := Option.some.inj H
    obtain ⟨Ao17, co17, eo17⟩ := Kd.R_slice HO_1.out
    subst eo17
    go_wp2_with (first | ((with_reducible refine gcU 146 rfl ?_); refine goU (some 24) Tryz.func146 #[.slice Ao17 x1_1.length co17, (.func (.func 147) #[] #[])] ?_; (with_reducible refine (impl_Dart_146.calls k1 (fun k_ => some k_ = (.slice Ao17 x1_1.length co17 : Value).ownBlock) (.slice Ao17 x1_1.length co17) x1_1 0 t538 w _ ?side1 ?side2 A16.out).mono ?_); (case side1 => exact hbU); (case side2 => exact Kd.R_tight rfl HO_1.out); rintro e w18 ⟨rfl, hy0, hb, hkp⟩; refine ⟨_, rfl, ?_⟩; replace HO_1 := aU (Kd.R_reok rfl hy0 (fun k_ e_ => HO_1.out.1 k_ e_)); replace HB := aU (hb); (try clear hb); (try clear hkp); (try clear hy0)))
    go_ret
    exact ⟨_, errU, by (with_reducible repeat (first | apply Kd.R_alloc | apply Kd.R_drewN | apply Kd.R_drew)); exact HO_1.out, hbU⟩
def impl_ParseDart.l0 : Nat → ByteArray → List (S52) → Int → Int → Option (Int × Int × Bool)
 | 0, _, _, _, _ => none
 | k + 1, x0, x8, x9, x10 => if x10 < x9 then (if 0 ≤ x10 then (if x10 < (x8.length : Int) then ((impl_DartText.f ((rd_T52 x8 x10).f0) ((rd_T52 x8 x10).f1)).bind fun bt550 => (if bt550.1.toList = x0.toList then (some ((rd_T52 x8 x10).f0, (rd_T52 x8 x10).f1, true)) else (impl_ParseDart.l0 k x0 x8 x9 (wrap64 (x10 + 1))))) else (none)) else (none)) else (some (0, 0, false))
def impl_ParseDart.f (k : Nat) (a0 : ByteArray) : Option (Int × Int × Bool) := (impl_board.f k).bind fun t545 => (impl_ParseDart.l0 k a0 t545 (t545.length : Int) 0)
theorem impl_ParseDart.mono_l : ∀ k, (∀ y0 y1 y2 y3, LeO (impl_ParseDart.l0 k y0 y1 y2 y3) (impl_ParseDart.l0 (k + 1) y0 y1 y2 y3))
 | 0 => fun _ _ _ _ r h => by simp [impl_ParseDart.l0] at h
 | k + 1 => by
  have ih0 := impl_ParseDart.mono_l k
  all_goals intros
  all_goals first | unfold impl_ParseDart.l0
  all_goals repeat' first
  | (with_reducible exact ih0 _ _ _ _)
  | (with_reducible exact impl_board.mono _)
  | (with_reducible exact LeO.refl _)
  | (with_reducible exact LeO.none _)
  | (with_reducible refine LeO.ite ?_ ?_)
  | (with_reducible refine LeO.bind ?_ (fun _ => ?_))
theorem impl_ParseDart.mono : ∀ a0 k, LeO (impl_ParseDart.f k a0) (impl_ParseDart.f (k + 1) a0) := by
 intro a0 k
 have ih0 := impl_ParseDart.mono_l k
 unfold impl_ParseDart.f
 repeat' first
   | (with_reducible exact ih0 _ _ _ _)
   | (with_reducible exact impl_board.mono _)
   | (with_reducible exact LeO.refl _)
   | (with_reducible exact LeO.none _)
   | (with_reducible refine LeO.ite ?_ ?_)
   | (with_reducible refine LeO.bind ?_ (fun _ => ?_))
set_option maxHeartbeats 8000000 in
set_option maxRecDepth 100000 in
theorem impl_ParseDart.calls (k : Nat) (a0 : ByteArray) (r1 : Int) (r2 : Int) (r3 : Bool) (w : World) (h : impl_ParseDart.f k a0 = some (r1, r2, r3)) :
  Calls Tryz.prog 60 #[.string a0] w fun e w' => e = .returned (.tuple #[.agg #[.int .i64 r1, .int .i64 r2], .bool r3]) ∧ Below w.heap.size w w' := by
 have hu52 := Tryz.underlying52
 have HB := aU (Below.refl w.heap.size w)
 have H : ((impl_board.f k).bind fun t545 => (impl_ParseDart.l0 k a0 t545 (t545.length : Int) 0)) = some (r1, r2, r3) := h
 clear h
 replace H := bindS H
 obtain ⟨t545, A2, H⟩ := H
 (try dsimp only at H)
 have H' := aU H
 clear H
 go_enter Tryz.func60, Tryz.ntmps60
 go_wp2_with (first | ((with_reducible refine gdU 2 rfl ?_); refine bxU (cs := #[.int .i64 0, .int .i64 0]) (t := 52) ?_; intro gb544 hg w3 hbox hb; have BK544 := aU (hbox); have GW544 := geU hg; have GE544 := geU hg; replace HB := bsU hb; clear hb hbox hg) | ((with_reducible refine gcU 119 rfl ?_); refine goU (some 8) Tryz.func119 #[] ?_; (with_reducible refine (impl_board.calls k  t545 _ A2.out).mono ?_); rintro e w4 ⟨v546, rfl, ho0, hb⟩; refine ⟨_, rfl, ?_⟩; have HO547 := aU (Kd.R_lower (Kd.R_newB ho0 (g := gb544) (o := .cells #[.int .i64 0, .int .i64 0] 52 (0, 0)) bkU) (below_size hbU)); replace BK544 := bbU BK544 hb; replace HB := bsU hb; (try clear ho0 hb); obtain ⟨Ao5, co5, eo5⟩ := Kd.R_slice HO547.out; subst eo5))
 go_loopg [10] k (fun kq v10 w' => ∃ (x10_1 : Int) (x545000_1 : Int) (x545001_1 : Int), v10 = .int .i64 x10_1 ∧ Aside0 (impl_ParseDart.l0 kq a0 t545 (t545.length : Int) x10_1 = some (r1, r2, r3)) ∧ Aside0 (kq ≤ k) ∧ Aside0 (Kd.R k52 52 w' w.heap.size (fun k_ => k_ ≠ gb544) (.slice Ao5 t545.length co5) t545) ∧ Aside0 (w'.heap[gb544]? = some (.cells #[.int .i64 x545000_1, .int .i64 x545001_1] 52 (0, 0))) ∧ Aside0 (Below w.heap.size w w'))
 case atStart => exact ⟨(0), (0), (0), eqU, H', ⟨Nat.le_refl _⟩, ⟨by (with_reducible repeat (first | apply Kd.R_alloc | apply Kd.R_drewN | apply Kd.R_drew)); exact Kd.R_mono HO547.out (fun _ hk => hk.2)⟩, ⟨bkU⟩, ⟨hbU⟩⟩
 case round =>
  clear H'
  obtain ⟨x10_1, x545000_1, x545001_1, rfl, HA, HK1, HO_8, BK544, HB⟩ := hrel
  cases gk with
  | zero => exact absurd HA.out (by simp [impl_ParseDart.l0])
  | succ k1 =>
   have H := HA.out
   clear HA
   simp only [impl_ParseDart.l0] at H
   by_cases c6 : x10_1 < (t545.length : Int)
   ·rw [if_pos c6] at H
    have c6b0 : decide (x10_1 < (t545.length : Int)) = true := decide_eq_true c6
    clear c6
    replace H := ifS H
    obtain ⟨c7, H⟩ := H
    have c7b0 : decide (0 ≤ x10_1) = true := decide_eq_true c7
    clear c7
    replace H := ifS H
    obtain ⟨c8, H⟩ := H
    have c8b0 : decide (x10_1 < (t545.length : Int)) = true := decide_eq_true c8
    clear c8
    replace H := bindS H
    obtain ⟨⟨t550, t551⟩, A9, H⟩ := H
    (try dsimp only at H)
    by_cases c10 : t550.toList = a0.toList
    ·rw [if_pos c10] at H
     have c10b0 : (t550.toList == a0.toList) = true := beq_iff_eq.mpr c10
     have c10b1 : (t550.toList != a0.toList) = false := bne_eq_false_iff_eq.mpr c10
     clear c10
     simp only [Option.some.injEq, Prod.mk.injEq] at H
     obtain ⟨rfl, rfl, rfl⟩ := H
     have p548 : 0 ≤ (x10_1 : Int) := dU
     have q548 : x10_1 < (t545.length : Int) := dU
     obtain ⟨ad548, e548, hx548_0, hx548_1⟩ := at_T52 (Kd.R_reads' HO_8.out).2.2 x10_1 p548 q548
     cases e548
     replace p548 := eq_true p548
     replace q548 := eq_true q548
     go_wp2_with (first | ((with_reducible refine gdU 5 rfl ?_); refine bxU (cs := #[.int .i64 0, .int .i64 0]) (t := 52) ?_; intro gb549 hg w11 hbox hb; replace HO_8 := aU (Kd.R_below (Kd.R_elderB (roU HO_8) gb549 (Nat.le_of_eq hg.symm)) hb); have BK549 := aU (hbox); have GW549 := geU hg; have GE549 := geU hg; replace HB := bsU hb; have NB544_549 := neU BK544 hg; have NB549_544 := enU BK544 hg; replace BK544 := bbU BK544 hb; clear hb hbox hg; have hnb12 := NB549_544.out; have hnc12 := NB544_549.out; obtain ⟨hcz13_0, hcz13_1, hfz13_0, hfz13_1⟩ := b2U BK549) | ((with_reducible refine gcU 57 rfl ?_); refine goU (some 16) Tryz.func57 #[.agg #[.int .i64 ((rd_T52 t545 x10_1).f0), .int .i64 ((rd_T52 t545 x10_1).f1)]] ?_; (with_reducible refine (impl_DartText.calls ((rd_T52 t545 x10_1).f0) ((rd_T52 t545 x10_1).f1) t550 t551 _ A9.out).mono ?_); rintro e w14 ⟨rfl, hb⟩; refine ⟨_, rfl, ?_⟩; replace HO_8 := aU (Kd.R_below (by (with_reducible repeat (first | apply Kd.R_alloc | apply Kd.R_drewN | apply Kd.R_drew)); exact (Kd.R_mono (Kd.R_far (p := ⟨gb549, 1, none⟩) (Kd.R_far (p := ⟨gb549, 0, none⟩) (Kd.R_mono HO_8.out (fun k_ hk => (⟨hk, hk.2⟩ : _ ∧ k_ ≠ gb549))) (fun _ hk => hk.2) (.int .i64 ((rd_T52 t545 x10_1).f0))) (fun _ hk => hk.2) (.int .i64 ((rd_T52 t545 x10_1).f1))) (fun _ h_ => h_.1))) hb); replace BK544 := bbU BK544 hb; replace BK549 := aU (blk_below (g := gb549) (o := .cells #[.int .i64 ((rd_T52 t545 x10_1).f0), .int .i64 ((rd_T52 t545 x10_1).f1)] 52 (0, 0)) bkU hb); replace HB := bsU hb; (try clear hb); obtain ⟨hcz15_0, hcz15_1, hfz15_0, hfz15_1⟩ := b2U BK549; obtain ⟨hcz16_0, hcz16_1, hfz16_0, hfz16_1⟩ := b2U BK544))
     refine bodyPost_ret (results_ct rfl _ _ gb544 52 #[.int .i64 ((rd_T52 t545 x10_1).f0), .int .i64 ((rd_T52 t545 x10_1).f1)] (0, 0) _ rfl bkU Tryz.underlying52 rfl (by kernel_rfl)) rfl ?_
     exact ⟨errU, hbU⟩
    ·rw [if_neg c10] at H
     have c10b0 : (t550.toList == a0.toList) = false := beq_eq_false_iff_ne.mpr c10
     have c10b1 : (t550.toList != a0.toList) = true := bne_iff_ne.mpr c10
     have H' := aU H
     clear H
     have p548 : 0 ≤ (x10_1 : Int) := dU
     have q548 : x10_1 < (t545.length : Int) := dU
     obtain ⟨ad548, e548, hx548_0, hx548_1⟩ := at_T52 (Kd.R_reads' HO_8.out).2.2 x10_1 p548 q548
     cases e548
     replace p548 := eq_true p548
     replace q548 := eq_true q548
     go_wp2_with (first | ((with_reducible refine gdU 5 rfl ?_); refine bxU (cs := #[.int .i64 0, .int .i64 0]) (t := 52) ?_; intro gb549 hg w17 hbox hb; replace HO_8 := aU (Kd.R_below (Kd.R_elderB (roU HO_8) gb549 (Nat.le_of_eq hg.symm)) hb); have BK549 := aU (hbox); have GW549 := geU hg; have GE549 := geU hg; replace HB := bsU hb; have NB544_549 := neU BK544 hg; have NB549_544 := enU BK544 hg; replace BK544 := bbU BK544 hb; clear hb hbox hg; have hnb18 := NB549_544.out; have hnc18 := NB544_549.out; obtain ⟨hcz19_0, hcz19_1, hfz19_0, hfz19_1⟩ := b2U BK549) | ((with_reducible refine gcU 57 rfl ?_); refine goU (some 16) Tryz.func57 #[.agg #[.int .i64 ((rd_T52 t545 x10_1).f0), .int .i64 ((rd_T52 t545 x10_1).f1)]] ?_; (with_reducible refine (impl_DartText.calls ((rd_T52 t545 x10_1).f0) ((rd_T52 t545 x10_1).f1) t550 t551 _ A9.out).mono ?_); rintro e w20 ⟨rfl, hb⟩; refine ⟨_, rfl, ?_⟩; replace HO_8 := aU (Kd.R_below (by (with_reducible repeat (first | apply Kd.R_alloc | apply Kd.R_drewN | apply Kd.R_drew)); exact (Kd.R_mono (Kd.R_far (p := ⟨gb549, 1, none⟩) (Kd.R_far (p := ⟨gb549, 0, none⟩) (Kd.R_mono HO_8.out (fun k_ hk => (⟨hk, hk.2⟩ : _ ∧ k_ ≠ gb549))) (fun _ hk => hk.2) (.int .i64 ((rd_T52 t545 x10_1).f0))) (fun _ hk => hk.2) (.int .i64 ((rd_T52 t545 x10_1).f1))) (fun _ h_ => h_.1))) hb); replace BK544 := bbU BK544 hb; replace BK549 := aU (blk_below (g := gb549) (o := .cells #[.int .i64 ((rd_T52 t545 x10_1).f0), .int .i64 ((rd_T52 t545 x10_1).f1)] 52 (0, 0)) bkU hb); replace HB := bsU hb; (try clear hb)))
     go_roundg k1
     case measure => have := HK1.out; omega
     case rel => exact ⟨(wrap64 (x10_1 + 1)), (x545000_1), (x545001_1), eqU, H', ⟨by have := HK1.out; omega⟩, ⟨by (with_reducible repeat (first | apply Kd.R_alloc | apply Kd.R_drewN | apply Kd.R_drew)); exact Kd.R_mono HO_8.out (fun _ hk => hk.1)⟩, ⟨bkU⟩, ⟨hbU⟩⟩
   ·rw [if_neg c6] at H
    have c6b0 : decide (x10_1 < (t545.length : Int)) = false := decide_eq_false c6
    clear c6
    simp only [Option.some.injEq, Prod.mk.injEq] at H
    obtain ⟨rfl, rfl, rfl⟩ := H
    have hcz21_0 : wr.cell? ⟨gb544, 0, none⟩ = some (.int .i64 x545000_1) := (blk_cell BK544.out 0).trans rfl
    have hcz21_1 : wr.cell? ⟨gb544, 1, none⟩ = some (.int .i64 x545001_1) := (blk_cell BK544.out 1).trans rfl
    have hfz21_0 := blk_frozen BK544.out 0
    have hfz21_1 := blk_frozen BK544.out 1
    go_wp2
    refine bodyPost_ret (results_ct rfl _ _ gb544 52 #[.int .i64 0, .int .i64 0] (0, 0) _ rfl bkU Tryz.underlying52 rfl (by kernel_rfl)) rfl ?_
    exact ⟨errU, hbU⟩
def strings_Split.f (a0 : ByteArray) (a1 : ByteArray) : Option (List ByteArray) := if a1.size = 1 ∧ a0.size < 4294967281 then (some (Lib.splitB a1 0 (Lib.countB a0 a1) a0)) else none
set_option maxHeartbeats 8000000 in
set_option maxRecDepth 100000 in
theorem strings_Split.calls (a0 : ByteArray) (a1 : ByteArray) (r : List ByteArray) (w : World) (h : strings_Split.f a0 a1 = some r) :
  Calls Tryz.prog 113 #[.string a0, .string a1] w fun e w' => ∃ v0_ : Value, e = .returned (v0_) ∧ Kd.R Kd.string 9 w' w.heap.size (fun _ => True) v0_ r ∧ Below w.heap.size w w' := by
 unfold strings_Split.f at h
 split at h
 ·rename_i hh
  obtain rfl := (Option.some.inj h).symm
  obtain ⟨c, rfl⟩ := Lib.one_byte a1 hh.1
  exact Go.Proofs.YtcmlmjgoidpabaaGreatDoor.split_row a0 c w hh.2
 ·cases h
def impl_ParseDarts.l0 : Nat → List (S52) → List ByteArray → Int → Int → Option ((List (S52)) × Bool)
 | 0, _, _, _, _ => none
 | k + 1, x4, x11, x12, x13 => if x13 < x12 then (if 0 ≤ x13 then (if x13 < (x11.length : Int) then ((impl_ParseDart.f k (rdOf ByteArray.empty x11 x13)).bind fun bt562 => (if bt562.2.2 = true then (if (x4.length : Int) = 9 then (some (([] : List (S52)), false)) else (if x4.length < 8796093022208 then (impl_ParseDarts.l0 k (x4 ++ [(⟨bt562.1, bt562.2.1⟩ : S52)]) x11 x12 (wrap64 (x13 + 1))) else (none))) else (some (([] : List (S52)), false)))) else (none)) else (none)) else (some (x4, true))
def impl_ParseDarts.f (k : Nat) (a0 : ByteArray) : Option ((List (S52)) × Bool) := (strings_Split.f a0 (⟨#[45]⟩ : ByteArray)).bind fun t558 => (impl_ParseDarts.l0 k (([] : List (S52))) t558 (t558.length : Int) 0)
theorem impl_ParseDarts.mono_l : ∀ k, (∀ y0 y1 y2 y3, LeO (impl_ParseDarts.l0 k y0 y1 y2 y3) (impl_ParseDarts.l0 (k + 1) y0 y1 y2 y3))
 | 0 => fun _ _ _ _ r h => by simp [impl_ParseDarts.l0] at h
 | k + 1 => by
  have ih0 := impl_ParseDarts.mono_l k
  all_goals intros
  all_goals first | unfold impl_ParseDarts.l0
  all_goals repeat' first
  | (with_reducible exact ih0 _ _ _ _)
  | (with_reducible exact impl_ParseDart.mono _ _)
  | (with_reducible exact LeO.refl _)
  | (with_reducible exact LeO.none _)
  | (with_reducible refine LeO.ite ?_ ?_)
  | (with_reducible refine LeO.bind ?_ (fun _ => ?_))
theorem impl_ParseDarts.mono : ∀ a0 k, LeO (impl_ParseDarts.f k a0) (impl_ParseDarts.f (k + 1) a0) := by
 intro a0 k
 have ih0 := impl_ParseDarts.mono_l k
 unfold impl_ParseDarts.f
 repeat' first
   | (with_reducible exact ih0 _ _ _ _)
   | (with_reducible exact impl_ParseDart.mono _ _)
   | (with_reducible exact LeO.refl _)
   | (with_reducible exact LeO.none _)
   | (with_reducible refine LeO.ite ?_ ?_)
   | (with_reducible refine LeO.bind ?_ (fun _ => ?_))
set_option maxHeartbeats 8000000 in
set_option maxRecDepth 100000 in
theorem impl_ParseDarts.calls (k : Nat) (a0 : ByteArray) (r1 : List (S52)) (r2 : Bool) (w : World) (h : impl_ParseDarts.f k a0 = some (r1, r2)) :
  Calls Tryz.prog 54 #[.string a0] w fun e w' => ∃ v0_ : Value, e = .returned (.tuple #[v0_, .bool r2]) ∧ Kd.R k52 52 w' w.heap.size (fun _ => True) v0_ r1 ∧ Below w.heap.size w w' := by
 have hu52 := Tryz.underlying52
 have HB := aU (Below.refl w.heap.size w)
 have H : ((strings_Split.f a0 (⟨#[45]⟩ : ByteArray)).bind fun t558 => (impl_ParseDarts.l0 k (([] : List (S52))) t558 (t558.length : Int) 0)) = some (r1, r2) := h
 clear h
 obtain ⟨y555, hy555⟩ : ∃ y_ : List (S52), y_ = (([] : List (S52))) := ⟨_, rfl⟩
 replace H : ((strings_Split.f a0 (⟨#[45]⟩ : ByteArray)).bind fun t558 => (impl_ParseDarts.l0 k y555 t558 (t558.length : Int) 0)) = some (r1, r2) := by first | (rw [hy555]; with_reducible exact H) | (have H2_ := (Option.bind_some _ _).symm.trans H; rw [hy555]; with_reducible exact H2_) | (have H2_ := (Option.bind_some _ _).symm.trans H; with_reducible exact H2_) | with_reducible exact H | (rw [hy555]; exact H) | exact H
 have Ny555 := aU hy555
 clear hy555
 replace H := bindS H
 obtain ⟨t558, A2, H⟩ := H
 (try dsimp only at H)
 have H' := aU H
 clear H
 go_enter Tryz.func54, Tryz.ntmps54
 go_wp2_with (first | ((with_reducible refine gdU 9 rfl ?_); (try (refine gate_guard (by rfl) ?_; dsimp only)); refine Kd.R_lit k52 _ 52 ?hg (N := 9) ?hd (xs := ([] : List (S52))) (inner := []) (ok := fun _ => True) (okp := fun _ => True) ?hr ?hp (fun _ hk => hk) trivial (Below.refl _ _) (Nat.le_refl _) (by simp) ?_; (case hd => rfl); (case hg => rfl); (case hr => first | (go_simp; done) | (go_simp; rfl)); (case hp => exact (Reps.none _ _)); intro v556 w3 ho4 hb hg_ hnew_; clear hg_ hnew_; (first | rw [← Ny555.out] at ho4 | (simp only [Int.reduceToNat] at ho4; rw [← Ny555.out] at ho4)); have HO557 := aU (Kd.R_lower ho4 (below_size hbU)); replace HB := bsU hb; clear hb ho4) | ((with_reducible refine gcU 113 rfl ?_); refine goU (some 11) Tryz.func113 #[.string a0, .string (⟨#[45]⟩ : ByteArray)] ?_; (with_reducible refine (strings_Split.calls a0 (⟨#[45]⟩ : ByteArray) t558 _ A2.out).mono ?_); rintro e w5 ⟨v559, rfl, ho0, hb⟩; refine ⟨_, rfl, ?_⟩; replace HO557 := aU (Kd.R_below (roU HO557) hb); have HO560 := aU (Kd.R_lower ho0 (below_size hbU)); replace HB := bsU hb; (try clear ho0 hb); obtain ⟨Ao6, co6, eo6⟩ := Kd.R_slice HO560.out; subst eo6))
 go_loopg [4, 13] k (fun kq v4 v13 w' => ∃ (x4_1 : List (S52)) (x13_1 : Int), v13 = .int .i64 x13_1 ∧ Aside0 (impl_ParseDarts.l0 kq x4_1 t558 (t558.length : Int) x13_1 = some (r1, r2)) ∧ Aside0 (kq ≤ k) ∧ Aside0 (Kd.R k52 52 w' w.heap.size (fun _ => True) v4 x4_1) ∧ Aside0 (Kd.R Kd.string 9 w' w.heap.size (fun _ => True) (.slice Ao6 t558.length co6) t558) ∧ Aside0 (Below w.heap.size w w'))
 case atStart => exact ⟨(y555), (0), eqU, H', ⟨Nat.le_refl _⟩, ⟨roU HO557⟩, ⟨roU HO560⟩, ⟨hbU⟩⟩
 case round =>
  clear H'
  obtain ⟨x4_1, x13_1, rfl, HA, HK1, HO_4, HO_11, HB⟩ := hrel
  cases gk with
  | zero => exact absurd HA.out (by simp [impl_ParseDarts.l0])
  | succ k1 =>
   have H := HA.out
   clear HA
   simp only [impl_ParseDarts.l0] at H
   by_cases c7 : x13_1 < (t558.length : Int)
   ·rw [if_pos c7] at H
    have c7b0 : decide (x13_1 < (t558.length : Int)) = true := decide_eq_true c7
    clear c7
    replace H := ifS H
    obtain ⟨c8, H⟩ := H
    have c8b0 : decide (0 ≤ x13_1) = true := decide_eq_true c8
    clear c8
    replace H := ifS H
    obtain ⟨c9, H⟩ := H
    have c9b0 : decide (x13_1 < (t558.length : Int)) = true := decide_eq_true c9
    clear c9
    replace H := bindS H
    obtain ⟨⟨t562, t563, t564⟩, A10, H⟩ := H
    (try dsimp only at H)
    by_cases c11 : t564 = true
    ·subst c11
     rw [if_pos rfl] at H
     by_cases c12 : (x4_1.length : Int) = 9
     ·rw [if_pos c12] at H
      have c12b0 : ((x4_1.length : Int) == 9) = true := beq_iff_eq.mpr c12
      have c12b1 : ((x4_1.length : Int) != 9) = false := bne_eq_false_iff_eq.mpr c12
      clear c12
      simp only [Option.some.injEq, Prod.mk.injEq] at H
      obtain ⟨rfl, rfl⟩ := H
      have p561 : 0 ≤ (x13_1 : Int) := dU
      have q561 : x13_1 < (t558.length : Int) := dU
      obtain ⟨ad561, e561, hx561_0⟩ := Kd.at_string (Kd.R_reads' HO_11.out).2.2 x13_1 p561 q561
      cases e561
      replace p561 := eq_true p561
      replace q561 := eq_true q561
      go_wp2_with (first | ((with_reducible refine gcU 60 rfl ?_); refine goU (some 19) Tryz.func60 #[.string (rdOf ByteArray.empty t558 x13_1)] ?_; (with_reducible refine (impl_ParseDart.calls k1 (rdOf ByteArray.empty t558 x13_1) t562 t563 true _ A10.out).mono ?_); rintro e w13 ⟨rfl, hb⟩; refine ⟨_, rfl, ?_⟩; replace HO_4 := aU (Kd.R_below (roU HO_4) hb); replace HO_11 := aU (Kd.R_below (roU HO_11) hb); replace HB := bsU hb; (try clear hb)) | ((with_reducible refine gdU 7 rfl ?_); (try (refine gate_guard (by rfl) ?_; dsimp only)); refine bxU (cs := #[.int .i64 0, .int .i64 0]) (t := 52) ?_; intro gb565 hg w14 hbox hb; replace HO_4 := aU (Kd.R_below (Kd.R_elderB (roU HO_4) gb565 (Nat.le_of_eq hg.symm)) hb); replace HO_11 := aU (Kd.R_below (roU HO_11) hb); have BK565 := aU (hbox); have GW565 := geU hg; have GE565 := geU hg; replace HB := bsU hb; clear hb hbox hg; obtain ⟨hcz15_0, hcz15_1, hfz15_0, hfz15_1⟩ := b2U BK565; obtain ⟨Ao16, co16, eo16⟩ := Kd.R_slice HO_4.out; subst eo16))
      go_ret2
      exact ⟨_, errU, by first | exact Kd.R_nil _ _ _ _ _ | exact Kd.N_nil _ _ _ _ _ | exact Kd.V_nil _ _ _ _ _ | exact Kd.Q_nil _ _ _ _ _ | exact Kd.S_nil _ _ _ _ _, hbU⟩
     ·rw [if_neg c12] at H
      have c12b0 : ((x4_1.length : Int) == 9) = false := beq_eq_false_iff_ne.mpr c12
      have c12b1 : ((x4_1.length : Int) != 9) = true := bne_iff_ne.mpr c12
      replace H := ifS H
      obtain ⟨c17, H⟩ := H
      have LMc17 := aU c17
      clear c17
      obtain ⟨y566, hy566⟩ : ∃ y_ : List (S52), y_ = (x4_1 ++ [(⟨t562, t563⟩ : S52)]) := ⟨_, rfl⟩
      replace H : (impl_ParseDarts.l0 k1 y566 t558 (t558.length : Int) (wrap64 (x13_1 + 1))) = some (r1, r2) := by first | (rw [hy566]; with_reducible exact H) | (have H2_ := (Option.bind_some _ _).symm.trans H; rw [hy566]; with_reducible exact H2_) | (have H2_ := (Option.bind_some _ _).symm.trans H; with_reducible exact H2_) | with_reducible exact H | (rw [hy566]; exact H) | exact H
      have Ny566 := aU hy566
      clear hy566
      have H' := aU H
      clear H
      have p561 : 0 ≤ (x13_1 : Int) := dU
      have q561 : x13_1 < (t558.length : Int) := dU
      obtain ⟨ad561, e561, hx561_0⟩ := Kd.at_string (Kd.R_reads' HO_11.out).2.2 x13_1 p561 q561
      cases e561
      replace p561 := eq_true p561
      replace q561 := eq_true q561
      go_wp2_with (first | ((with_reducible refine gcU 60 rfl ?_); refine goU (some 19) Tryz.func60 #[.string (rdOf ByteArray.empty t558 x13_1)] ?_; (with_reducible refine (impl_ParseDart.calls k1 (rdOf ByteArray.empty t558 x13_1) t562 t563 true _ A10.out).mono ?_); rintro e w18 ⟨rfl, hb⟩; refine ⟨_, rfl, ?_⟩; replace HO_4 := aU (Kd.R_below (roU HO_4) hb); replace HO_11 := aU (Kd.R_below (roU HO_11) hb); replace HB := bsU hb; (try clear hb)) | ((with_reducible refine gdU 7 rfl ?_); (try (refine gate_guard (by rfl) ?_; dsimp only)); refine bxU (cs := #[.int .i64 0, .int .i64 0]) (t := 52) ?_; intro gb565 hg w19 hbox hb; replace HO_4 := aU (Kd.R_below (Kd.R_elderB (roU HO_4) gb565 (Nat.le_of_eq hg.symm)) hb); replace HO_11 := aU (Kd.R_below (roU HO_11) hb); have BK565 := aU (hbox); have GW565 := geU hg; have GE565 := geU hg; replace HB := bsU hb; clear hb hbox hg; obtain ⟨hcz20_0, hcz20_1, hfz20_0, hfz20_1⟩ := b2U BK565; obtain ⟨Ao21, co21, eo21⟩ := Kd.R_slice HO_4.out; subst eo21) | ((with_reducible refine gate_builtin (b := .append) (xs := #[.tmp 29, .tmp 31]) rfl ?_); (try (refine gate_guard (by rfl) ?_; dsimp only)); at_builtin; refine Kd.R_append k52 (w0 := w) w.heap.size rfl (.tmp 29) (.tmp 31) 45 52 (.agg #[(.int .i64 0), (.int .i64 0)]) 16 rfl Tryz.underlying45 info52 rfl (by decide) (by omega) (.slice Ao21 x4_1.length co21) x4_1 (⟨t562, t563⟩ : S52) [.int .i64 t562, .int .i64 t563] (fun k_ => k_ ≠ gb565) (fun _ => False) rfl (by first | (go_simp; done) | (go_simp; rfl)) ?aP (fun _ hk => hk.elim) ?aF ?aO ?aB ?aS ?aL ?_; (case aP => exact k52_mkM _ _ _ (⟨t562, t563⟩ : S52)); (case aB => exact hbU); (case aF => exact (fun k_ hk => Kd.freshB (g := gb565) (o := .cells #[.int .i64 t562, .int .i64 t563] 52 (0, 0)) bkU k_ hk)); (case aO => exact (by (with_reducible repeat (first | apply Kd.R_alloc | apply Kd.R_drewN | apply Kd.R_drew)); exact Kd.R_mono (Kd.R_far (p := ⟨gb565, 1, none⟩) (Kd.R_far (p := ⟨gb565, 0, none⟩) (Kd.R_mono HO_4.out (fun k_ hk => (⟨hk, hk.2⟩ : _ ∧ k_ ≠ gb565))) (fun _ hk => hk.2) (.int .i64 t562)) (fun _ hk => hk.2) (.int .i64 t563)) (fun _ hk => hk.1.2))); (case aS => exact (below_size hbU)); (case aL => have := LMc17.out; omega); intro v567 w22 ho hb hg hat; rw [← Ny566.out] at ho; replace HO_11 := aU (Kd.R_over' (by (with_reducible repeat (first | apply Kd.R_alloc | apply Kd.R_drewN | apply Kd.R_drew)); exact (Kd.R_mono (Kd.R_far (p := ⟨gb565, 1, none⟩) (Kd.R_far (p := ⟨gb565, 0, none⟩) (Kd.R_types HO_11.out BK565.out (by decide)) (fun _ hk => hk.2) (.int .i64 t562)) (fun _ hk => hk.2) (.int .i64 t563)) (fun _ h_ => h_.1))) (Kd.R_typed (by (with_reducible repeat (first | apply Kd.R_alloc | apply Kd.R_drewN | apply Kd.R_drew)); exact (Kd.R_mono (Kd.R_far (p := ⟨gb565, 1, none⟩) (Kd.R_far (p := ⟨gb565, 0, none⟩) (Kd.R_mono HO_4.out (fun k_ hk => (⟨hk, hk.2⟩ : _ ∧ k_ ≠ gb565))) (fun _ hk => hk.2) (.int .i64 t562)) (fun _ hk => hk.2) (.int .i64 t563)) (fun _ h_ => h_.1)))) (by decide) hg); replace BK565 := aU (blk_grown (g := gb565) (o := .cells #[.int .i64 t562, .int .i64 t563] 52 (0, 0)) bkU hg (Kd.R_away HO_4.out (fun _ hk => hk.2))); replace HB := aU (hb); have HO568 := aU (ho); clear HO_4; clear ho hb hg hat))
      go_roundg k1
      case measure => have := HK1.out; omega
      case rel => exact ⟨(y566), (wrap64 (x13_1 + 1)), eqU, H', ⟨by have := HK1.out; omega⟩, ⟨by (with_reducible repeat (first | apply Kd.R_alloc | apply Kd.R_drewN | apply Kd.R_drew)); exact Kd.R_mono HO568.out (fun _ hk => trivial)⟩, ⟨roU HO_11⟩, ⟨hbU⟩⟩
    ·replace c11 := Bool.eq_false_iff.mpr c11
     subst c11
     rw [if_neg (show ¬ (false = true) by decide)] at H
     simp only [Option.some.injEq, Prod.mk.injEq] at H
     obtain ⟨rfl, rfl⟩ := H
     have p561 : 0 ≤ (x13_1 : Int) := dU
     have q561 : x13_1 < (t558.length : Int) := dU
     obtain ⟨ad561, e561, hx561_0⟩ := Kd.at_string (Kd.R_reads' HO_11.out).2.2 x13_1 p561 q561
     cases e561
     replace p561 := eq_true p561
     replace q561 := eq_true q561
     go_wp2_with (first | ((with_reducible refine gcU 60 rfl ?_); refine goU (some 19) Tryz.func60 #[.string (rdOf ByteArray.empty t558 x13_1)] ?_; (with_reducible refine (impl_ParseDart.calls k1 (rdOf ByteArray.empty t558 x13_1) t562 t563 false _ A10.out).mono ?_); rintro e w23 ⟨rfl, hb⟩; refine ⟨_, rfl, ?_⟩; replace HO_4 := aU (Kd.R_below (roU HO_4) hb); replace HO_11 := aU (Kd.R_below (roU HO_11) hb); replace HB := bsU hb; (try clear hb)) | ((with_reducible refine gdU 7 rfl ?_); (try (refine gate_guard (by rfl) ?_; dsimp only)); refine bxU (cs := #[.int .i64 0, .int .i64 0]) (t := 52) ?_; intro gb565 hg w24 hbox hb; replace HO_4 := aU (Kd.R_below (Kd.R_elderB (roU HO_4) gb565 (Nat.le_of_eq hg.symm)) hb); replace HO_11 := aU (Kd.R_below (roU HO_11) hb); have BK565 := aU (hbox); have GW565 := geU hg; have GE565 := geU hg; replace HB := bsU hb; clear hb hbox hg; obtain ⟨hcz25_0, hcz25_1, hfz25_0, hfz25_1⟩ := b2U BK565))
     go_ret2
     exact ⟨_, errU, by first | exact Kd.R_nil _ _ _ _ _ | exact Kd.N_nil _ _ _ _ _ | exact Kd.V_nil _ _ _ _ _ | exact Kd.Q_nil _ _ _ _ _ | exact Kd.S_nil _ _ _ _ _, hbU⟩
   ·rw [if_neg c7] at H
    have c7b0 : decide (x13_1 < (t558.length : Int)) = false := decide_eq_false c7
    clear c7
    simp only [Option.some.injEq, Prod.mk.injEq] at H
    obtain ⟨rfl, rfl⟩ := H
    go_wp2
    go_ret2
    exact ⟨_, errU, by (with_reducible repeat (first | apply Kd.R_alloc | apply Kd.R_drewN | apply Kd.R_drew)); exact HO_4.out, hbU⟩
end Go.Proofs.YtcmlmjgoidpabaaGreatDoor.MFnDartsPlayed

