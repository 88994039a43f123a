-- PRINTED BY print.sh 35421559b90ae4d0a3588c463048766b98c2df88dd9212a6774a882060cdf62d: not written by this session
import Derived.Test.YtmecamlnbjpkjaaPFnExactCountNeverBehindx0
import Derived.Test.YtmecamlnbjpkjaaPFnExactCountNeverBehindx3
namespace Go.Proofs.Ytmecamlnbjpkjaa.PFnExactCountNeverBehind
open Go.RowKit Go.Proofs.YtmecamlnbjpkjaaW.PrintWords Go.Proofs.YtmecamlnbjpkjaaW.PrintLast Go.Proofs.YtmecamlnbjpkjaaW.PrintMore
attribute [local go_sem] max2_int min2_int max_two min_two max_three min_three max_four min_four   -- for this text's walks alone
set_option linter.unusedVariables false
set_option linter.unusedSimpArgs false

/-! ### impl_countGames: function 56 -/
mutual
def impl_countGames.j0 : Nat → List Int → Int → Int → Bool → Bool → Option (Int × Bool)
  | 0, _, _, _, _, _ => none
  | k + 1, x0, x1, x2, x3, x28 => if x28 = true then (some (0, false)) else (if 0 ≤ (wrap64 ((wrap64 (x1 + 1)) * (wrap64 (x2 + 1)))) then (if (wrap64 ((wrap64 (x1 + 1)) * (wrap64 (x2 + 1))) : Int).toNat ≤ 35184372088832 then ((some (List.replicate (wrap64 ((wrap64 (x1 + 1)) * (wrap64 (x2 + 1))) : Int).toNat 0 : List Int)).bind fun y153 => (if 0 < (y153.length : Int) then (impl_countGames.l0 k x0 x1 x2 x3 (wrap64 (x2 + 1)) (y153.set (0 : Int).toNat 1) 0 0) else (none))) else (none)) else (none))
def impl_countGames.l0 : Nat → List Int → Int → Int → Bool → Int → List Int → Int → Int → Option (Int × Bool)
  | 0, _, _, _, _, _, _, _, _ => none
  | k + 1, x0, x1, x2, x3, x10, x11, x12, x38 => if x38 < 61 then (if 0 ≤ (wrap64 ((wrap64 (x1 * x10)) + x2)) then (if (wrap64 ((wrap64 (x1 * x10)) + x2)) < (x11.length : Int) then (if 0 ≤ (x11.length : Int) then (if ((x11.length : Int) : Int).toNat ≤ 35184372088832 then (impl_countGames.l1 k x0 x1 x2 x3 x10 (mn (wrap64 (x12 + (rd x11 (wrap64 ((wrap64 (x1 * x10)) + x2))))) 1000000000000001) (List.replicate ((x11.length : Int) : Int).toNat 0) x38 x11 (x11.length : Int) 0) else (none)) else (none)) else (none)) else (none)) else ((impl_few.f x12 1000000000000000).bind fun bt157 => (some (bt157.1, bt157.2)))
def impl_countGames.l1 : Nat → List Int → Int → Int → Bool → Int → Int → List Int → Int → List Int → Int → Int → Option (Int × Bool)
  | 0, _, _, _, _, _, _, _, _, _, _, _ => none
  | k + 1, x0, x1, x2, x3, x10, x12, x13, x38, x54, x55, x56 => if x56 < x55 then (if 0 ≤ x56 then (if x56 < (x54.length : Int) then (if x10 = 0 then (none) else (if (rd x54 x56) = 0 then (impl_countGames.l1 k x0 x1 x2 x3 x10 x12 x13 x38 x54 x55 (wrap64 (x56 + 1))) else (impl_countGames.l2 k x0 x1 x2 x3 x10 x12 x13 x56 (rd x54 x56) (wrap64 (Int.tdiv x56 x10)) (Int.tmod x56 x10) x38 x54 x55 x56 x0 (x0.length : Int) 0))) else (none)) else (none)) else (impl_countGames.l0 k x0 x1 x2 x3 x10 x13 x12 (wrap64 (x38 + 1)))
def impl_countGames.l2 : Nat → List Int → Int → Int → Bool → Int → Int → List Int → Int → Int → Int → Int → Int → List Int → Int → Int → List Int → Int → Int → Option (Int × Bool)
  | 0, _, _, _, _, _, _, _, _, _, _, _, _, _, _, _, _, _, _ => none
  | k + 1, x0, x1, x2, x3, x10, x12, x13, x14, x15, x16, x17, x38, x54, x55, x56, x69, x70, x71 => if x71 < x70 then (if 0 ≤ x71 then (if x71 < (x69.length : Int) then (if (wrap64 (x16 + (rd x69 x71))) ≤ x1 then (if 0 ≤ (wrap64 (x14 + (wrap64 ((rd x69 x71) * x10)))) then (if (wrap64 (x14 + (wrap64 ((rd x69 x71) * x10)))) < (x13.length : Int) then ((some (x13.set ((wrap64 (x14 + (wrap64 ((rd x69 x71) * x10)))) : Int).toNat (mn (wrap64 ((rd x13 (wrap64 (x14 + (wrap64 ((rd x69 x71) * x10))))) + x15)) 1000000000000001) : List Int)).bind fun y166 => (if (wrap64 (x17 + (rd x69 x71))) ≤ x2 then (if x3 = true then (if x16 ≥ (wrap64 (x17 + (rd x69 x71))) then (if 0 ≤ (wrap64 (x14 + (rd x69 x71))) then (if (wrap64 (x14 + (rd x69 x71))) < (x13.length : Int) then (impl_countGames.l2 k x0 x1 x2 x3 x10 x12 (y166.set ((wrap64 (x14 + (rd x69 x71))) : Int).toNat (mn (wrap64 ((rd y166 (wrap64 (x14 + (rd x69 x71)))) + x15)) 1000000000000001)) x14 x15 x16 x17 x38 x54 x55 x56 x69 x70 (wrap64 (x71 + 1))) else (none)) else (none)) else (impl_countGames.l2 k x0 x1 x2 x3 x10 x12 y166 x14 x15 x16 x17 x38 x54 x55 x56 x69 x70 (wrap64 (x71 + 1)))) else (if 0 ≤ (wrap64 (x14 + (rd x69 x71))) then (if (wrap64 (x14 + (rd x69 x71))) < (x13.length : Int) then (impl_countGames.l2 k x0 x1 x2 x3 x10 x12 (y166.set ((wrap64 (x14 + (rd x69 x71))) : Int).toNat (mn (wrap64 ((rd y166 (wrap64 (x14 + (rd x69 x71)))) + x15)) 1000000000000001)) x14 x15 x16 x17 x38 x54 x55 x56 x69 x70 (wrap64 (x71 + 1))) else (none)) else (none))) else (impl_countGames.l2 k x0 x1 x2 x3 x10 x12 y166 x14 x15 x16 x17 x38 x54 x55 x56 x69 x70 (wrap64 (x71 + 1))))) else (none)) else (none)) else (if (wrap64 (x17 + (rd x69 x71))) ≤ x2 then (if x3 = true then (if x16 ≥ (wrap64 (x17 + (rd x69 x71))) then (if 0 ≤ (wrap64 (x14 + (rd x69 x71))) then (if (wrap64 (x14 + (rd x69 x71))) < (x13.length : Int) then (impl_countGames.l2 k x0 x1 x2 x3 x10 x12 (x13.set ((wrap64 (x14 + (rd x69 x71))) : Int).toNat (mn (wrap64 ((rd x13 (wrap64 (x14 + (rd x69 x71)))) + x15)) 1000000000000001)) x14 x15 x16 x17 x38 x54 x55 x56 x69 x70 (wrap64 (x71 + 1))) else (none)) else (none)) else (impl_countGames.l2 k x0 x1 x2 x3 x10 x12 x13 x14 x15 x16 x17 x38 x54 x55 x56 x69 x70 (wrap64 (x71 + 1)))) else (if 0 ≤ (wrap64 (x14 + (rd x69 x71))) then (if (wrap64 (x14 + (rd x69 x71))) < (x13.length : Int) then (impl_countGames.l2 k x0 x1 x2 x3 x10 x12 (x13.set ((wrap64 (x14 + (rd x69 x71))) : Int).toNat (mn (wrap64 ((rd x13 (wrap64 (x14 + (rd x69 x71)))) + x15)) 1000000000000001)) x14 x15 x16 x17 x38 x54 x55 x56 x69 x70 (wrap64 (x71 + 1))) else (none)) else (none))) else (impl_countGames.l2 k x0 x1 x2 x3 x10 x12 x13 x14 x15 x16 x17 x38 x54 x55 x56 x69 x70 (wrap64 (x71 + 1))))) else (none)) else (none)) else (impl_countGames.l1 k x0 x1 x2 x3 x10 x12 x13 x38 x54 x55 (wrap64 (x56 + 1)))
end
def impl_countGames.f (k : Nat) (l0 : List Int) (a1 : Int) (a2 : Int) (a3 : Bool) : Option (Int × Bool) := (impl_isAsked.f k l0 a1).bind fun t151 => (if t151 = true then ((impl_within.f a2 0 200).bind fun t152 => (impl_countGames.j0 k l0 a1 a2 a3 (!t152))) else (impl_countGames.j0 k l0 a1 a2 a3 true))
theorem impl_countGames.mono_l : ∀ k, (∀ y0 y1 y2 y3 y4, LeO (impl_countGames.j0 k y0 y1 y2 y3 y4) (impl_countGames.j0 (k + 1) y0 y1 y2 y3 y4)) ∧ (∀ y0 y1 y2 y3 y4 y5 y6 y7, LeO (impl_countGames.l0 k y0 y1 y2 y3 y4 y5 y6 y7) (impl_countGames.l0 (k + 1) y0 y1 y2 y3 y4 y5 y6 y7)) ∧ (∀ y0 y1 y2 y3 y4 y5 y6 y7 y8 y9 y10, LeO (impl_countGames.l1 k y0 y1 y2 y3 y4 y5 y6 y7 y8 y9 y10) (impl_countGames.l1 (k + 1) y0 y1 y2 y3 y4 y5 y6 y7 y8 y9 y10)) ∧ (∀ y0 y1 y2 y3 y4 y5 y6 y7 y8 y9 y10 y11 y12 y13 y14 y15 y16 y17, LeO (impl_countGames.l2 k y0 y1 y2 y3 y4 y5 y6 y7 y8 y9 y10 y11 y12 y13 y14 y15 y16 y17) (impl_countGames.l2 (k + 1) y0 y1 y2 y3 y4 y5 y6 y7 y8 y9 y10 y11 y12 y13 y14 y15 y16 y17))
  | 0 => ⟨fun _ _ _ _ _ r h => by simp [impl_countGames.j0] at h, fun _ _ _ _ _ _ _ _ r h => by simp [impl_countGames.l0] at h, fun _ _ _ _ _ _ _ _ _ _ _ r h => by simp [impl_countGames.l1] at h, fun _ _ _ _ _ _ _ _ _ _ _ _ _ _ _ _ _ _ r h => by simp [impl_countGames.l2] at h⟩
  | k + 1 => by
    obtain ⟨ih0, ih1, ih2, ih3⟩ := impl_countGames.mono_l k
    refine ⟨?_, ?_, ?_, ?_⟩
    · intro y0 y1 y2 y3 y4
      unfold impl_countGames.j0
      repeat' first
      | (with_reducible exact ih0 _ _ _ _ _)
      | (with_reducible exact ih1 _ _ _ _ _ _ _ _)
      | (with_reducible exact ih2 _ _ _ _ _ _ _ _ _ _ _)
      | (with_reducible exact ih3 _ _ _ _ _ _ _ _ _ _ _ _ _ _ _ _ _ _)
      | (with_reducible exact impl_isAsked.mono _ _ _)
      | (with_reducible exact LeO.refl _)
      | (with_reducible exact LeO.none _)
      | (with_reducible refine LeO.ite ?_ ?_)
      | (with_reducible refine LeO.bind ?_ (fun _ => ?_))
      | exact ih0 _ _ _ _ _
      | exact ih1 _ _ _ _ _ _ _ _
      | exact ih2 _ _ _ _ _ _ _ _ _ _ _
      | exact ih3 _ _ _ _ _ _ _ _ _ _ _ _ _ _ _ _ _ _
      | exact impl_isAsked.mono _ _ _
      | exact LeO.none _
      | refine LeO.ite ?_ ?_
      | refine LeO.bind ?_ (fun _ => ?_)
    · intro y0 y1 y2 y3 y4 y5 y6 y7
      unfold impl_countGames.l0
      repeat' first
      | (with_reducible exact ih0 _ _ _ _ _)
      | (with_reducible exact ih1 _ _ _ _ _ _ _ _)
      | (with_reducible exact ih2 _ _ _ _ _ _ _ _ _ _ _)
      | (with_reducible exact ih3 _ _ _ _ _ _ _ _ _ _ _ _ _ _ _ _ _ _)
      | (with_reducible exact impl_isAsked.mono _ _ _)
      | (with_reducible exact LeO.refl _)
      | (with_reducible exact LeO.none _)
      | (with_reducible refine LeO.ite ?_ ?_)
      | (with_reducible refine LeO.bind ?_ (fun _ => ?_))
      | exact ih0 _ _ _ _ _
      | exact ih1 _ _ _ _ _ _ _ _
      | exact ih2 _ _ _ _ _ _ _ _ _ _ _
      | exact ih3 _ _ _ _ _ _ _ _ _ _ _ _ _ _ _ _ _ _
      | exact impl_isAsked.mono _ _ _
      | exact LeO.none _
      | refine LeO.ite ?_ ?_
      | refine LeO.bind ?_ (fun _ => ?_)
    · intro y0 y1 y2 y3 y4 y5 y6 y7 y8 y9 y10
      unfold impl_countGames.l1
      repeat' first
      | (with_reducible exact ih0 _ _ _ _ _)
      | (with_reducible exact ih1 _ _ _ _ _ _ _ _)
      | (with_reducible exact ih2 _ _ _ _ _ _ _ _ _ _ _)
      | (with_reducible exact ih3 _ _ _ _ _ _ _ _ _ _ _ _ _ _ _ _ _ _)
      | (with_reducible exact impl_isAsked.mono _ _ _)
      | (with_reducible exact LeO.refl _)
      | (with_reducible exact LeO.none _)
      | (with_reducible refine LeO.ite ?_ ?_)
      | (with_reducible refine LeO.bind ?_ (fun _ => ?_))
      | exact ih0 _ _ _ _ _
      | exact ih1 _ _ _ _ _ _ _ _
      | exact ih2 _ _ _ _ _ _ _ _ _ _ _
      | exact ih3 _ _ _ _ _ _ _ _ _ _ _ _ _ _ _ _ _ _
      | exact impl_isAsked.mono _ _ _
      | exact LeO.none _
      | refine LeO.ite ?_ ?_
      | refine LeO.bind ?_ (fun _ => ?_)
    · intro y0 y1 y2 y3 y4 y5 y6 y7 y8 y9 y10 y11 y12 y13 y14 y15 y16 y17
      unfold impl_countGames.l2
      repeat' first
      | (with_reducible exact ih0 _ _ _ _ _)
      | (with_reducible exact ih1 _ _ _ _ _ _ _ _)
      | (with_reducible exact ih2 _ _ _ _ _ _ _ _ _ _ _)
      | (with_reducible exact ih3 _ _ _ _ _ _ _ _ _ _ _ _ _ _ _ _ _ _)
      | (with_reducible exact impl_isAsked.mono _ _ _)
      | (with_reducible exact LeO.refl _)
      | (with_reducible exact LeO.none _)
      | (with_reducible refine LeO.ite ?_ ?_)
      | (with_reducible refine LeO.bind ?_ (fun _ => ?_))
      | exact ih0 _ _ _ _ _
      | exact ih1 _ _ _ _ _ _ _ _
      | exact ih2 _ _ _ _ _ _ _ _ _ _ _
      | exact ih3 _ _ _ _ _ _ _ _ _ _ _ _ _ _ _ _ _ _
      | exact impl_isAsked.mono _ _ _
      | exact LeO.none _
      | refine LeO.ite ?_ ?_
      | refine LeO.bind ?_ (fun _ => ?_)
theorem impl_countGames.mono : ∀ a0 a1 a2 a3 k, LeO (impl_countGames.f k a0 a1 a2 a3) (impl_countGames.f (k + 1) a0 a1 a2 a3) := by
  intro a0 a1 a2 a3 k
  obtain ⟨ih0, ih1, ih2, ih3⟩ := impl_countGames.mono_l k
  unfold impl_countGames.f
  repeat' first
      | (with_reducible exact ih0 _ _ _ _ _)
      | (with_reducible exact ih1 _ _ _ _ _ _ _ _)
      | (with_reducible exact ih2 _ _ _ _ _ _ _ _ _ _ _)
      | (with_reducible exact ih3 _ _ _ _ _ _ _ _ _ _ _ _ _ _ _ _ _ _)
      | (with_reducible exact impl_isAsked.mono _ _ _)
      | (with_reducible exact LeO.refl _)
      | (with_reducible exact LeO.none _)
      | (with_reducible refine LeO.ite ?_ ?_)
      | (with_reducible refine LeO.bind ?_ (fun _ => ?_))
      | exact ih0 _ _ _ _ _
      | exact ih1 _ _ _ _ _ _ _ _
      | exact ih2 _ _ _ _ _ _ _ _ _ _ _
      | exact ih3 _ _ _ _ _ _ _ _ _ _ _ _ _ _ _ _ _ _
      | exact impl_isAsked.mono _ _ _
      | exact LeO.none _
      | refine LeO.ite ?_ ?_
      | refine LeO.bind ?_ (fun _ => ?_)
set_option maxHeartbeats 8000000 in
set_option maxRecDepth 100000 in
theorem impl_countGames.calls (k : Nat) (A0 : Option Addr) (c0 : Nat) (l0 : List Int) (a1 : Int) (a2 : Int) (a3 : Bool) (r1 : Int) (r2 : Bool) (w : World) (hr0 : Kd.C (Kd.int .i64) w A0 l0.length l0) (hc0 : l0.length ≤ c0) (h : impl_countGames.f k l0 a1 a2 a3 = some (r1, r2)) :
    Calls Try.prog 56 #[.slice A0 l0.length c0, .int .i64 a1, .int .i64 a2, .bool a3] w fun e w' => e = .returned (.tuple #[.int .i64 r1, .bool r2]) ∧ Below w.heap.size w w' := by
  have HR0 := Aside0.mk hr0
  have HC0 := Aside0.mk hc0
  clear hr0 hc0
  have HB := Aside0.mk (Below.refl w.heap.size w)
  have H : ((impl_isAsked.f k l0 a1).bind fun t151 => (if t151 = true then ((impl_within.f a2 0 200).bind fun t152 => (impl_countGames.j0 k l0 a1 a2 a3 (!t152))) else (impl_countGames.j0 k l0 a1 a2 a3 true))) = some (r1, r2) := h
  clear h
  have HC5 := Aside0.mk H
  clear H
  go_enter Try.func56, Try.ntmps56
  go_upto_region 1 with (fail)
  repeat (go_quiet (fail); go_upto_region 1 with (fail))
  go_cut [28] (fun v28 wc => ∃ (kq : Nat) (x28_4 : Bool), v28 = .bool x28_4 ∧ Aside0 (impl_countGames.j0 kq l0 a1 a2 a3 x28_4 = some (r1, r2)) ∧ Aside0 (kq ≤ k) ∧ Aside0 (Below w.heap.size w wc))
  case first =>
    have H := HC5.out
    clear HC5
    replace H := Option.bind_eq_some_iff.mp H
    obtain ⟨t151, A60, H⟩ := H
    replace H : (if t151 = true then ((impl_within.f a2 0 200).bind fun t152 => (impl_countGames.j0 k l0 a1 a2 a3 (!t152))) else (impl_countGames.j0 k l0 a1 a2 a3 true)) = some (r1, r2) := H
    have A6 := Aside0.mk A60
    clear A60
    by_cases c7 : t151 = true
    · subst c7
      have H1 : ((impl_within.f a2 0 200).bind fun t152 => (impl_countGames.j0 k l0 a1 a2 a3 (!t152))) = some (r1, r2) := by rw [if_pos rfl] at H; exact H
      clear H
      have H := H1
      clear H1
      replace H := Option.bind_eq_some_iff.mp H
      obtain ⟨t152, A80, H⟩ := H
      replace H : (impl_countGames.j0 k l0 a1 a2 a3 (!t152)) = some (r1, r2) := H
      have A8 := Aside0.mk A80
      clear A80
      have H' := Aside0.mk H
      clear H
      go_wp2_with (first | (go_at_call 46; (with_reducible refine (impl_isAsked.calls k _ _ l0 a1 true _ ?side1 ?side2 A6.out).mono ?_); (case side1 => repeat (first | exact (Kd.C_below HR0.out HB.out) | (with_reducible refine Kd.C_alloc ?_ _) | (with_reducible refine Kd.C_drewN ?_ _) | (with_reducible refine Kd.C_drew ?_))); (case side2 => exact HC0.out); rintro e w' ⟨rfl, ⟨nd, rfl⟩⟩; (try first | exact ⟨rfl, _, World.drewN_drewN _ _ _⟩ | exact ⟨rfl, _, Eq.trans (World.drewN_drewN _ _ _) (congrArg (World.drewN _) (Nat.add_assoc _ _ _))⟩)) | (go_at_call 44; (with_reducible refine (impl_within.calls a2 0 200 t152 _ A8.out).mono ?_); rintro e w' ⟨rfl, ⟨nd, rfl⟩⟩; (try first | exact ⟨rfl, _, World.drewN_drewN _ _ _⟩ | exact ⟨rfl, _, Eq.trans (World.drewN_drewN _ _ _) (congrArg (World.drewN _) (Nat.add_assoc _ _ _))⟩)))
      repeat (go_quiet (first | (go_at_call 46; (with_reducible refine (impl_isAsked.calls k _ _ l0 a1 true _ ?side1 ?side2 A6.out).mono ?_); (case side1 => repeat (first | exact (Kd.C_below HR0.out HB.out) | (with_reducible refine Kd.C_alloc ?_ _) | (with_reducible refine Kd.C_drewN ?_ _) | (with_reducible refine Kd.C_drew ?_))); (case side2 => exact HC0.out); rintro e w' ⟨rfl, ⟨nd, rfl⟩⟩; (try first | exact ⟨rfl, _, World.drewN_drewN _ _ _⟩ | exact ⟨rfl, _, Eq.trans (World.drewN_drewN _ _ _) (congrArg (World.drewN _) (Nat.add_assoc _ _ _))⟩)) | (go_at_call 44; (with_reducible refine (impl_within.calls a2 0 200 t152 _ A8.out).mono ?_); rintro e w' ⟨rfl, ⟨nd, rfl⟩⟩; (try first | exact ⟨rfl, _, World.drewN_drewN _ _ _⟩ | exact ⟨rfl, _, Eq.trans (World.drewN_drewN _ _ _) (congrArg (World.drewN _) (Nat.add_assoc _ _ _))⟩))); try go_wp2_with (first | (go_at_call 46; (with_reducible refine (impl_isAsked.calls k _ _ l0 a1 true _ ?side1 ?side2 A6.out).mono ?_); (case side1 => repeat (first | exact (Kd.C_below HR0.out HB.out) | (with_reducible refine Kd.C_alloc ?_ _) | (with_reducible refine Kd.C_drewN ?_ _) | (with_reducible refine Kd.C_drew ?_))); (case side2 => exact HC0.out); rintro e w' ⟨rfl, ⟨nd, rfl⟩⟩; (try first | exact ⟨rfl, _, World.drewN_drewN _ _ _⟩ | exact ⟨rfl, _, Eq.trans (World.drewN_drewN _ _ _) (congrArg (World.drewN _) (Nat.add_assoc _ _ _))⟩)) | (go_at_call 44; (with_reducible refine (impl_within.calls a2 0 200 t152 _ A8.out).mono ?_); rintro e w' ⟨rfl, ⟨nd, rfl⟩⟩; (try first | exact ⟨rfl, _, World.drewN_drewN _ _ _⟩ | exact ⟨rfl, _, Eq.trans (World.drewN_drewN _ _ _) (congrArg (World.drewN _) (Nat.add_assoc _ _ _))⟩))))
      go_meet
      case rel => exact ⟨_, (!t152), (by first | rfl | (simp; done) | (simp [*]; done)), H', ⟨by first | omega | exact Nat.le_refl _⟩, ⟨by repeat (first | (with_reducible first | exact HB.out | apply below_alloc | apply pw_below_drewN | apply below_drew1) | exact HB.out)⟩⟩
    · replace c7 := Bool.eq_false_iff.mpr c7
      subst c7
      have H1 : (impl_countGames.j0 k l0 a1 a2 a3 true) = some (r1, r2) := by rw [if_neg (show ¬ (false = true) by decide)] at H; exact H
      clear H
      have H := H1
      clear H1
      have H' := Aside0.mk H
      clear H
      go_wp2_with (first | (go_at_call 46; (with_reducible refine (impl_isAsked.calls k _ _ l0 a1 false _ ?side1 ?side2 A6.out).mono ?_); (case side1 => repeat (first | exact (Kd.C_below HR0.out HB.out) | (with_reducible refine Kd.C_alloc ?_ _) | (with_reducible refine Kd.C_drewN ?_ _) | (with_reducible refine Kd.C_drew ?_))); (case side2 => exact HC0.out); rintro e w' ⟨rfl, ⟨nd, rfl⟩⟩; (try first | exact ⟨rfl, _, World.drewN_drewN _ _ _⟩ | exact ⟨rfl, _, Eq.trans (World.drewN_drewN _ _ _) (congrArg (World.drewN _) (Nat.add_assoc _ _ _))⟩)))
      repeat (go_quiet (first | (go_at_call 46; (with_reducible refine (impl_isAsked.calls k _ _ l0 a1 false _ ?side1 ?side2 A6.out).mono ?_); (case side1 => repeat (first | exact (Kd.C_below HR0.out HB.out) | (with_reducible refine Kd.C_alloc ?_ _) | (with_reducible refine Kd.C_drewN ?_ _) | (with_reducible refine Kd.C_drew ?_))); (case side2 => exact HC0.out); rintro e w' ⟨rfl, ⟨nd, rfl⟩⟩; (try first | exact ⟨rfl, _, World.drewN_drewN _ _ _⟩ | exact ⟨rfl, _, Eq.trans (World.drewN_drewN _ _ _) (congrArg (World.drewN _) (Nat.add_assoc _ _ _))⟩))); try go_wp2_with (first | (go_at_call 46; (with_reducible refine (impl_isAsked.calls k _ _ l0 a1 false _ ?side1 ?side2 A6.out).mono ?_); (case side1 => repeat (first | exact (Kd.C_below HR0.out HB.out) | (with_reducible refine Kd.C_alloc ?_ _) | (with_reducible refine Kd.C_drewN ?_ _) | (with_reducible refine Kd.C_drew ?_))); (case side2 => exact HC0.out); rintro e w' ⟨rfl, ⟨nd, rfl⟩⟩; (try first | exact ⟨rfl, _, World.drewN_drewN _ _ _⟩ | exact ⟨rfl, _, Eq.trans (World.drewN_drewN _ _ _) (congrArg (World.drewN _) (Nat.add_assoc _ _ _))⟩))))
      go_meet
      case rel => exact ⟨_, (true), (by first | rfl | (simp; done) | (simp [*]; done)), H', ⟨by first | omega | exact Nat.le_refl _⟩, ⟨by repeat (first | (with_reducible first | exact HB.out | apply below_alloc | apply pw_below_drewN | apply below_drew1) | exact HB.out)⟩⟩
  case rest =>
    clear HC5
    try clear p2
    try clear c5
    try clear c7
    obtain ⟨kq, x28_4, rfl, HA, HJ4, HB⟩ := hcut
    cases kq with
    | zero => exact absurd HA.out (by simp [impl_countGames.j0])
    | succ kj4 =>
      have H := HA.out
      clear HA
      simp only [impl_countGames.j0] at H
      by_cases c9 : x28_4 = true
      · subst c9
        have H1 : (some (0, false)) = some (r1, r2) := by rw [if_pos rfl] at H; exact H
        clear H
        have H := H1
        clear H1
        simp only [Option.some.injEq, Prod.mk.injEq] at H
        obtain ⟨rfl, rfl⟩ := H
        go_wp2
        repeat (go_quiet (fail); try go_wp2)
        go_ret2
        exact ⟨by first | rfl | (simp [errW_none, errW_some] <;> rfl) | (simp [*, errW_none, errW_some] <;> rfl), by repeat (first | (with_reducible first | exact HB.out | apply below_alloc | apply pw_below_drewN | apply below_drew1) | exact HB.out)⟩
      · replace c9 := Bool.eq_false_iff.mpr c9
        subst c9
        have H1 : (if 0 ≤ (wrap64 ((wrap64 (a1 + 1)) * (wrap64 (a2 + 1)))) then (if (wrap64 ((wrap64 (a1 + 1)) * (wrap64 (a2 + 1))) : Int).toNat ≤ 35184372088832 then ((some (List.replicate (wrap64 ((wrap64 (a1 + 1)) * (wrap64 (a2 + 1))) : Int).toNat 0 : List Int)).bind fun y153 => (if 0 < (y153.length : Int) then (impl_countGames.l0 kj4 l0 a1 a2 a3 (wrap64 (a2 + 1)) (y153.set (0 : Int).toNat 1) 0 0) else (none))) else (none)) else (none)) = some (r1, r2) := by rw [if_neg (show ¬ (false = true) by decide)] at H; exact H
        clear H
        have H := H1
        clear H1
        obtain ⟨ji10, hji10⟩ : ∃ j_ : Int, (wrap64 ((wrap64 (a1 + 1)) * (wrap64 (a2 + 1)))) = j_ := ⟨_, rfl⟩
        replace H : (if 0 ≤ (ji10) then (if (ji10 : Int).toNat ≤ 35184372088832 then ((some (List.replicate (ji10 : Int).toNat 0 : List Int)).bind fun y153 => (if 0 < (y153.length : Int) then (impl_countGames.l0 kj4 l0 a1 a2 a3 (wrap64 (a2 + 1)) (y153.set (0 : Int).toNat 1) 0 0) else (none))) else (none)) else (none)) = some (r1, r2) := by first | (rw [hji10] at H; exact H) | (simp only [hji10] at H ⊢; exact H)
        have hji10w : (IntKind.i64.wrap ((wrap64 (a1 + 1)) * (wrap64 (a2 + 1)))) = ji10 := (i64_w _).trans hji10
        by_cases c11 : 0 ≤ (ji10)
        · rw [if_pos c11] at H
          have c11b0 := eq_true c11
          have c11b1 : decide (0 ≤ (ji10)) = true := decide_eq_true c11
          clear c11
          by_cases c12 : (ji10 : Int).toNat ≤ 35184372088832
          · rw [if_pos c12] at H
            have c12b0 := eq_true c12
            have c12b1 : decide ((ji10 : Int).toNat ≤ 35184372088832) = true := decide_eq_true c12
            clear c12
            obtain ⟨y153, hy153⟩ : ∃ y_ : List Int, y_ = (List.replicate (ji10 : Int).toNat 0) := ⟨_, rfl⟩
            replace H : (if 0 < (y153.length : Int) then (impl_countGames.l0 kj4 l0 a1 a2 a3 (wrap64 (a2 + 1)) (y153.set (0 : Int).toNat 1) 0 0) else (none)) = some (r1, r2) := by first | (rw [hy153]; with_reducible exact H) | (have H2_ := (Option.bind_some _ _).symm.trans H; rw [hy153]; with_reducible exact H2_) | (have H2_ := (Option.bind_some _ _).symm.trans H; with_reducible exact H2_) | with_reducible exact H | (rw [hy153]; exact H) | exact H
            have Ny153 := Aside0.mk hy153
            clear hy153
            by_cases c13 : 0 < (y153.length : Int)
            · rw [if_pos c13] at H
              have c13b0 : decide (0 < (y153.length : Int)) = true := decide_eq_true c13
              have c13b1 : decide (0 < y153.length) = true := decide_eq_true (by omega)
              clear c13
              obtain ⟨y156, hy156⟩ : ∃ y_ : List Int, y_ = (y153.set (0 : Int).toNat 1) := ⟨_, rfl⟩
              replace H : (impl_countGames.l0 kj4 l0 a1 a2 a3 (wrap64 (a2 + 1)) y156 0 0) = some (r1, r2) := by first | (rw [hy156]; with_reducible exact H) | (have H2_ := (Option.bind_some _ _).symm.trans H; rw [hy156]; with_reducible exact H2_) | (have H2_ := (Option.bind_some _ _).symm.trans H; with_reducible exact H2_) | with_reducible exact H | (rw [hy156]; exact H) | exact H
              have Ny156 := Aside0.mk hy156
              clear hy156
              have H' := Aside0.mk H
              clear H
              go_wp2_with (first | ((with_reducible refine gate_dst (N := 35) rfl ?_); refine Kd.R_make (Kd.int .i64) _ 3 rfl (N := 35) rfl 22 _ _ rfl ji10 rfl rfl Try.underlying22 (.int .i64 0) 8 info3 rfl (by decide) (by omega) 0 (ok := fun _ => True) (okp := fun _ => True) rfl (fun _ hk => hk) trivial (of_decide_eq_true (by first | (with_reducible assumption) | assumption)) (Nat.le_trans (Nat.mul_le_mul_right _ (of_decide_eq_true (by first | (with_reducible assumption) | assumption) : ji10.toNat ≤ 35184372088832)) (by omega)) (Below.refl _ _) (Nat.le_refl _) ?_; intro v154 w15 ho16 hb hg_ hnew_; clear hg_ hnew_; (first | rw [← Ny153.out] at ho16 | (simp only [Int.reduceToNat] at ho16; rw [← Ny153.out] at ho16)); have n0_ := Aside0.mk (Kd.R_lower ho16 (below_size (by repeat (first | (with_reducible first | exact HB.out | apply below_alloc | apply pw_below_drewN | apply below_drew1) | exact HB.out)))); have n1_ := Aside0.mk (below_step (by repeat (first | (with_reducible first | exact HB.out | apply below_alloc | apply pw_below_drewN | apply below_drew1) | exact HB.out)) hb); clear HB; have HO155 := n0_; have HB := n1_; clear n0_ n1_; clear hb ho16; have p14 : 0 ≤ (0 : Int) := (by omega); have q14 : (0 : Int) < ((y153.length : Int) : Int) := of_decide_eq_true (by first | (with_reducible assumption) | assumption); have qi14 : (0 < y153.length) = True := eq_true (by omega); obtain ⟨go14, co14, eo14, gb14, gl14, cl14, HG14⟩ := Kd.R_form HO155.out (by omega); (first | cases eo14 | (injection eo14 with ea_ en_ ec_; (first | subst ea_ | (injection ea_ with ea_; subst ea_)); subst ec_; clear en_)); have GB14 := Aside0.mk gb14; have GG14 := Aside0.mk HG14; clear gb14 gl14 HG14; obtain ⟨hx14_0, hf14_0⟩ := Kd.R_celln 0 HO155.out (0 : Int) p14 q14; (try rw [show ((0 : Int)).toNat = 0 from rfl] at hx14_0); (try simp only [Nat.reduceMul, Nat.zero_mul, Nat.zero_add, Nat.reduceAdd] at hx14_0); (try rw [show ((0 : Int)).toNat = 0 from rfl] at hf14_0); (try simp only [Nat.reduceMul, Nat.zero_mul, Nat.zero_add, Nat.reduceAdd] at hf14_0); replace p14 := eq_true p14; replace q14 := eq_true q14; obtain ⟨hy17_, hz17_⟩ := Kd.R_celln 0 HO155.out (0 : Int) (by omega) (of_decide_eq_true (by first | (with_reducible assumption) | assumption)); (try simp only [Int.reduceToNat, Int.toNat_zero, Int.toNat_ofNat, Nat.reduceMul, Nat.zero_mul, Nat.zero_add] at hy17_ hz17_); (try rw [show ((0 : Int)).toNat = 0 from rfl] at hy17_); (try rw [show ((0 : Int)).toNat = 0 from rfl] at hz17_); have HP17 := Kd.R_putg HO155.out (0 : Int) 1) | ((with_reducible refine gate_store (t := 3) (p := 37) rfl ?_); (try (rw [drewN_self w15]; generalize hq_ : World.drewN w15 _ = w15; have n0_ := Aside0.mk (Kd.R_at hq_ HO155.out); have n1_ := Aside0.mk (below_at hq_ HB.out); clear hq_ HO155 HB; have HO155 := n0_; have HB := n1_; clear n0_ n1_; (try (obtain ⟨hy17_, hz17_⟩ := Kd.R_celln 0 HO155.out (0 : Int) (by omega) (of_decide_eq_true (by first | (with_reducible assumption) | assumption)))); (try (try simp only [Int.reduceToNat, Int.toNat_zero, Int.toNat_ofNat, Nat.reduceMul, Nat.zero_mul, Nat.zero_add] at hy17_ hz17_)); (try (try rw [show ((0 : Int)).toNat = 0 from rfl] at hy17_)); (try (try rw [show ((0 : Int)).toNat = 0 from rfl] at hz17_)); (try (have HP17 := Kd.R_putg HO155.out (0 : Int) 1)))); refine store_event (t := 3) (p := 37) (v := ?vo_w18) (w1 := (w15.setCell ⟨go14, (0 : Int).toNat, none⟩ (.int .i64 1))) ?hg ?ho ?hn ?hr ?_; (case ho => rfl); (case hg => rfl); (case hn => rfl); (case hr => first | (go_simp; done) | (go_simp; rfl)); intro w18 hw; have hg : w15.grownBy w18 (some go14) := (by rw [hw]; exact HP17.2); have hp_ : Kd.R (Kd.int .i64) 3 w18 w.heap.size (fun _ => True) (.slice (some ⟨go14, 0, none⟩) y153.length co14) y156 := (by rw [hw, Ny156.out]; exact HP17.1); clear HP17; have n0_ := Aside0.mk (hp_); have n1_ := Aside0.mk ((by rw [hw]; exact below_set (HB.out) GB14.out : Below w.heap.size w w18)); clear HO155; clear HB; have HO155 := n0_; have HB := n1_; clear n0_ n1_; clear hg hw hp_))
              repeat (go_quiet (first | ((with_reducible refine gate_dst (N := 35) rfl ?_); refine Kd.R_make (Kd.int .i64) _ 3 rfl (N := 35) rfl 22 _ _ rfl ji10 rfl rfl Try.underlying22 (.int .i64 0) 8 info3 rfl (by decide) (by omega) 0 (ok := fun _ => True) (okp := fun _ => True) rfl (fun _ hk => hk) trivial (of_decide_eq_true (by first | (with_reducible assumption) | assumption)) (Nat.le_trans (Nat.mul_le_mul_right _ (of_decide_eq_true (by first | (with_reducible assumption) | assumption) : ji10.toNat ≤ 35184372088832)) (by omega)) (Below.refl _ _) (Nat.le_refl _) ?_; intro v154 w15 ho16 hb hg_ hnew_; clear hg_ hnew_; (first | rw [← Ny153.out] at ho16 | (simp only [Int.reduceToNat] at ho16; rw [← Ny153.out] at ho16)); have n0_ := Aside0.mk (Kd.R_lower ho16 (below_size (by repeat (first | (with_reducible first | exact HB.out | apply below_alloc | apply pw_below_drewN | apply below_drew1) | exact HB.out)))); have n1_ := Aside0.mk (below_step (by repeat (first | (with_reducible first | exact HB.out | apply below_alloc | apply pw_below_drewN | apply below_drew1) | exact HB.out)) hb); clear HB; have HO155 := n0_; have HB := n1_; clear n0_ n1_; clear hb ho16; have p14 : 0 ≤ (0 : Int) := (by omega); have q14 : (0 : Int) < ((y153.length : Int) : Int) := of_decide_eq_true (by first | (with_reducible assumption) | assumption); have qi14 : (0 < y153.length) = True := eq_true (by omega); obtain ⟨go14, co14, eo14, gb14, gl14, cl14, HG14⟩ := Kd.R_form HO155.out (by omega); (first | cases eo14 | (injection eo14 with ea_ en_ ec_; (first | subst ea_ | (injection ea_ with ea_; subst ea_)); subst ec_; clear en_)); have GB14 := Aside0.mk gb14; have GG14 := Aside0.mk HG14; clear gb14 gl14 HG14; obtain ⟨hx14_0, hf14_0⟩ := Kd.R_celln 0 HO155.out (0 : Int) p14 q14; (try rw [show ((0 : Int)).toNat = 0 from rfl] at hx14_0); (try simp only [Nat.reduceMul, Nat.zero_mul, Nat.zero_add, Nat.reduceAdd] at hx14_0); (try rw [show ((0 : Int)).toNat = 0 from rfl] at hf14_0); (try simp only [Nat.reduceMul, Nat.zero_mul, Nat.zero_add, Nat.reduceAdd] at hf14_0); replace p14 := eq_true p14; replace q14 := eq_true q14; obtain ⟨hy17_, hz17_⟩ := Kd.R_celln 0 HO155.out (0 : Int) (by omega) (of_decide_eq_true (by first | (with_reducible assumption) | assumption)); (try simp only [Int.reduceToNat, Int.toNat_zero, Int.toNat_ofNat, Nat.reduceMul, Nat.zero_mul, Nat.zero_add] at hy17_ hz17_); (try rw [show ((0 : Int)).toNat = 0 from rfl] at hy17_); (try rw [show ((0 : Int)).toNat = 0 from rfl] at hz17_); have HP17 := Kd.R_putg HO155.out (0 : Int) 1) | ((with_reducible refine gate_store (t := 3) (p := 37) rfl ?_); (try (rw [drewN_self w15]; generalize hq_ : World.drewN w15 _ = w15; have n0_ := Aside0.mk (Kd.R_at hq_ HO155.out); have n1_ := Aside0.mk (below_at hq_ HB.out); clear hq_ HO155 HB; have HO155 := n0_; have HB := n1_; clear n0_ n1_; (try (obtain ⟨hy17_, hz17_⟩ := Kd.R_celln 0 HO155.out (0 : Int) (by omega) (of_decide_eq_true (by first | (with_reducible assumption) | assumption)))); (try (try simp only [Int.reduceToNat, Int.toNat_zero, Int.toNat_ofNat, Nat.reduceMul, Nat.zero_mul, Nat.zero_add] at hy17_ hz17_)); (try (try rw [show ((0 : Int)).toNat = 0 from rfl] at hy17_)); (try (try rw [show ((0 : Int)).toNat = 0 from rfl] at hz17_)); (try (have HP17 := Kd.R_putg HO155.out (0 : Int) 1)))); refine store_event (t := 3) (p := 37) (v := ?vo_w18) (w1 := (w15.setCell ⟨go14, (0 : Int).toNat, none⟩ (.int .i64 1))) ?hg ?ho ?hn ?hr ?_; (case ho => rfl); (case hg => rfl); (case hn => rfl); (case hr => first | (go_simp; done) | (go_simp; rfl)); intro w18 hw; have hg : w15.grownBy w18 (some go14) := (by rw [hw]; exact HP17.2); have hp_ : Kd.R (Kd.int .i64) 3 w18 w.heap.size (fun _ => True) (.slice (some ⟨go14, 0, none⟩) y153.length co14) y156 := (by rw [hw, Ny156.out]; exact HP17.1); clear HP17; have n0_ := Aside0.mk (hp_); have n1_ := Aside0.mk ((by rw [hw]; exact below_set (HB.out) GB14.out : Below w.heap.size w w18)); clear HO155; clear HB; have HO155 := n0_; have HB := n1_; clear n0_ n1_; clear hg hw hp_)); try go_wp2_with (first | ((with_reducible refine gate_dst (N := 35) rfl ?_); refine Kd.R_make (Kd.int .i64) _ 3 rfl (N := 35) rfl 22 _ _ rfl ji10 rfl rfl Try.underlying22 (.int .i64 0) 8 info3 rfl (by decide) (by omega) 0 (ok := fun _ => True) (okp := fun _ => True) rfl (fun _ hk => hk) trivial (of_decide_eq_true (by first | (with_reducible assumption) | assumption)) (Nat.le_trans (Nat.mul_le_mul_right _ (of_decide_eq_true (by first | (with_reducible assumption) | assumption) : ji10.toNat ≤ 35184372088832)) (by omega)) (Below.refl _ _) (Nat.le_refl _) ?_; intro v154 w15 ho16 hb hg_ hnew_; clear hg_ hnew_; (first | rw [← Ny153.out] at ho16 | (simp only [Int.reduceToNat] at ho16; rw [← Ny153.out] at ho16)); have n0_ := Aside0.mk (Kd.R_lower ho16 (below_size (by repeat (first | (with_reducible first | exact HB.out | apply below_alloc | apply pw_below_drewN | apply below_drew1) | exact HB.out)))); have n1_ := Aside0.mk (below_step (by repeat (first | (with_reducible first | exact HB.out | apply below_alloc | apply pw_below_drewN | apply below_drew1) | exact HB.out)) hb); clear HB; have HO155 := n0_; have HB := n1_; clear n0_ n1_; clear hb ho16; have p14 : 0 ≤ (0 : Int) := (by omega); have q14 : (0 : Int) < ((y153.length : Int) : Int) := of_decide_eq_true (by first | (with_reducible assumption) | assumption); have qi14 : (0 < y153.length) = True := eq_true (by omega); obtain ⟨go14, co14, eo14, gb14, gl14, cl14, HG14⟩ := Kd.R_form HO155.out (by omega); (first | cases eo14 | (injection eo14 with ea_ en_ ec_; (first | subst ea_ | (injection ea_ with ea_; subst ea_)); subst ec_; clear en_)); have GB14 := Aside0.mk gb14; have GG14 := Aside0.mk HG14; clear gb14 gl14 HG14; obtain ⟨hx14_0, hf14_0⟩ := Kd.R_celln 0 HO155.out (0 : Int) p14 q14; (try rw [show ((0 : Int)).toNat = 0 from rfl] at hx14_0); (try simp only [Nat.reduceMul, Nat.zero_mul, Nat.zero_add, Nat.reduceAdd] at hx14_0); (try rw [show ((0 : Int)).toNat = 0 from rfl] at hf14_0); (try simp only [Nat.reduceMul, Nat.zero_mul, Nat.zero_add, Nat.reduceAdd] at hf14_0); replace p14 := eq_true p14; replace q14 := eq_true q14; obtain ⟨hy17_, hz17_⟩ := Kd.R_celln 0 HO155.out (0 : Int) (by omega) (of_decide_eq_true (by first | (with_reducible assumption) | assumption)); (try simp only [Int.reduceToNat, Int.toNat_zero, Int.toNat_ofNat, Nat.reduceMul, Nat.zero_mul, Nat.zero_add] at hy17_ hz17_); (try rw [show ((0 : Int)).toNat = 0 from rfl] at hy17_); (try rw [show ((0 : Int)).toNat = 0 from rfl] at hz17_); have HP17 := Kd.R_putg HO155.out (0 : Int) 1) | ((with_reducible refine gate_store (t := 3) (p := 37) rfl ?_); (try (rw [drewN_self w15]; generalize hq_ : World.drewN w15 _ = w15; have n0_ := Aside0.mk (Kd.R_at hq_ HO155.out); have n1_ := Aside0.mk (below_at hq_ HB.out); clear hq_ HO155 HB; have HO155 := n0_; have HB := n1_; clear n0_ n1_; (try (obtain ⟨hy17_, hz17_⟩ := Kd.R_celln 0 HO155.out (0 : Int) (by omega) (of_decide_eq_true (by first | (with_reducible assumption) | assumption)))); (try (try simp only [Int.reduceToNat, Int.toNat_zero, Int.toNat_ofNat, Nat.reduceMul, Nat.zero_mul, Nat.zero_add] at hy17_ hz17_)); (try (try rw [show ((0 : Int)).toNat = 0 from rfl] at hy17_)); (try (try rw [show ((0 : Int)).toNat = 0 from rfl] at hz17_)); (try (have HP17 := Kd.R_putg HO155.out (0 : Int) 1)))); refine store_event (t := 3) (p := 37) (v := ?vo_w18) (w1 := (w15.setCell ⟨go14, (0 : Int).toNat, none⟩ (.int .i64 1))) ?hg ?ho ?hn ?hr ?_; (case ho => rfl); (case hg => rfl); (case hn => rfl); (case hr => first | (go_simp; done) | (go_simp; rfl)); intro w18 hw; have hg : w15.grownBy w18 (some go14) := (by rw [hw]; exact HP17.2); have hp_ : Kd.R (Kd.int .i64) 3 w18 w.heap.size (fun _ => True) (.slice (some ⟨go14, 0, none⟩) y153.length co14) y156 := (by rw [hw, Ny156.out]; exact HP17.1); clear HP17; have n0_ := Aside0.mk (hp_); have n1_ := Aside0.mk ((by rw [hw]; exact below_set (HB.out) GB14.out : Below w.heap.size w w18)); clear HO155; clear HB; have HO155 := n0_; have HB := n1_; clear n0_ n1_; clear hg hw hp_)))
              go_loopg [11, 12, 38] kj4 (fun kq v11 v12 v38 w' => ∃ (x11_2 : List Int) (x12_2 : Int) (x38_2 : Int), v12 = .int .i64 x12_2 ∧ v38 = .int .i64 x38_2 ∧ Aside0 (impl_countGames.l0 kq l0 a1 a2 a3 (wrap64 (a2 + 1)) x11_2 x12_2 x38_2 = some (r1, r2)) ∧ Aside0 (kq ≤ kj4) ∧ Aside0 (Kd.R (Kd.int .i64) 3 w' w.heap.size (fun _ => True) v11 x11_2) ∧ Aside0 (Below w.heap.size w w'))
              case atStart => exact ⟨(y156), (0), (0), (by first | rfl | (simp; done) | (simp [*]; done)), (by first | rfl | (simp; done) | (simp [*]; done)), H', ⟨Nat.le_refl _⟩, ⟨by (with_reducible repeat (first | apply Kd.R_alloc | apply Kd.R_drewN | apply Kd.R_drew)); exact HO155.out⟩, ⟨by repeat (first | (with_reducible first | exact HB.out | apply below_alloc | apply pw_below_drewN | apply below_drew1) | exact HB.out)⟩⟩
              case round =>
                clear H'
                try clear c1
                try clear p1
                try clear q1
                try clear hx1
                try clear qi1
                try clear p2
                try clear c5
                try clear p6
                try clear c7
                try clear c9
                try clear c11
                try clear c11b0
                try clear c11b1
                try clear c12
                try clear c12b0
                try clear c12b1
                try clear c13
                try clear c13b0
                try clear c13b1
                try clear p14
                try clear q14
                try clear hx14
                try clear qi14
                try clear hf14
                try clear hx14_0
                try clear p14
                try clear p2
                try clear q14
                obtain ⟨x11_2, x12_2, x38_2, rfl, rfl, HA, HK2, HO_11, HB⟩ := hrel
                cases gk with
                | zero => exact absurd HA.out (by simp [impl_countGames.l0])
                | succ k2 =>
                  have H := HA.out
                  clear HA
                  simp only [impl_countGames.l0] at H
                  by_cases c19 : x38_2 < 61
                  · rw [if_pos c19] at H
                    have c19b0 : decide (x38_2 < 61) = true := decide_eq_true c19
                    clear c19
                    obtain ⟨ji20, hji20⟩ : ∃ j_ : Int, (wrap64 ((wrap64 (a1 * (wrap64 (a2 + 1)))) + a2)) = j_ := ⟨_, rfl⟩
                    replace H : (if 0 ≤ (ji20) then (if (ji20) < (x11_2.length : Int) then (if 0 ≤ (x11_2.length : Int) then (if ((x11_2.length : Int) : Int).toNat ≤ 35184372088832 then (impl_countGames.l1 k2 l0 a1 a2 a3 (wrap64 (a2 + 1)) (mn (wrap64 (x12_2 + (rd x11_2 (ji20)))) 1000000000000001) (List.replicate ((x11_2.length : Int) : Int).toNat 0) x38_2 x11_2 (x11_2.length : Int) 0) else (none)) else (none)) else (none)) else (none)) = some (r1, r2) := by first | (rw [hji20] at H; exact H) | (simp only [hji20] at H ⊢; exact H)
                    have hji20w : (IntKind.i64.wrap ((wrap64 (a1 * (wrap64 (a2 + 1)))) + a2)) = ji20 := (i64_w _).trans hji20
                    by_cases c21 : 0 ≤ (ji20)
                    · rw [if_pos c21] at H
                      have c21b0 : decide (0 ≤ (ji20)) = true := decide_eq_true c21
                      clear c21
                      by_cases c22 : (ji20) < (x11_2.length : Int)
                      · rw [if_pos c22] at H
                        have c22b0 : decide ((ji20) < (x11_2.length : Int)) = true := decide_eq_true c22
                        clear c22
                        obtain ⟨ji23, hji23⟩ : ∃ j_ : Int, (mn (wrap64 (x12_2 + (rd x11_2 (ji20)))) 1000000000000001) = j_ := ⟨_, rfl⟩
                        replace H : (if 0 ≤ (x11_2.length : Int) then (if ((x11_2.length : Int) : Int).toNat ≤ 35184372088832 then (impl_countGames.l1 k2 l0 a1 a2 a3 (wrap64 (a2 + 1)) ji23 (List.replicate ((x11_2.length : Int) : Int).toNat 0) x38_2 x11_2 (x11_2.length : Int) 0) else (none)) else (none)) = some (r1, r2) := by first | (rw [hji23] at H; exact H) | (simp only [hji23] at H ⊢; exact H)
                        have hji23_ : (if 1000000000000001 < (wrap64 (x12_2 + (rd x11_2 (ji20)))) then 1000000000000001 else (wrap64 (x12_2 + (rd x11_2 (ji20))))) = ji23 := hji23
                        by_cases c24 : 0 ≤ (x11_2.length : Int)
                        · rw [if_pos c24] at H
                          have c24b0 := eq_true c24
                          have c24b1 : decide (0 ≤ (x11_2.length : Int)) = true := decide_eq_true c24
                          clear c24
                          by_cases c25 : ((x11_2.length : Int) : Int).toNat ≤ 35184372088832
                          · rw [if_pos c25] at H
                            have c25b0 := eq_true c25
                            have c25b1 : decide (((x11_2.length : Int) : Int).toNat ≤ 35184372088832) = true := decide_eq_true c25
                            clear c25
                            obtain ⟨y160, hy160⟩ : ∃ y_ : List Int, y_ = (List.replicate ((x11_2.length : Int) : Int).toNat 0) := ⟨_, rfl⟩
                            replace H : (impl_countGames.l1 k2 l0 a1 a2 a3 (wrap64 (a2 + 1)) ji23 y160 x38_2 x11_2 (x11_2.length : Int) 0) = some (r1, r2) := by first | (rw [hy160]; with_reducible exact H) | (have H2_ := (Option.bind_some _ _).symm.trans H; rw [hy160]; with_reducible exact H2_) | (have H2_ := (Option.bind_some _ _).symm.trans H; with_reducible exact H2_) | with_reducible exact H | (rw [hy160]; exact H) | exact H
                            have Ny160 := Aside0.mk hy160
                            clear hy160
                            have H' := Aside0.mk H
                            clear H
                            obtain ⟨Ao26, co26, eo26⟩ := Kd.R_slice HO_11.out
                            subst eo26
                            have p159 : 0 ≤ ((ji20) : Int) := of_decide_eq_true (by first | (with_reducible assumption) | assumption)
                            have q159 : (ji20) < (x11_2.length : Int) := of_decide_eq_true (by first | (with_reducible assumption) | assumption)
                            obtain ⟨ad159, e159, hx159_0⟩ := Kd.at_int (Kd.R_reads' HO_11.out).2.2 (ji20) p159 q159
                            cases e159
                            replace p159 := eq_true p159
                            replace q159 := eq_true q159
                            go_wp2_with (first | ((with_reducible refine gate_dst (N := 53) rfl ?_); refine Kd.R_make (Kd.int .i64) _ 3 rfl (N := 53) rfl 22 _ _ rfl (x11_2.length : Int) rfl rfl Try.underlying22 (.int .i64 0) 8 info3 rfl (by decide) (by omega) 0 (ok := fun _ => True) (okp := fun _ => True) rfl (fun _ hk => hk) trivial (of_decide_eq_true (by first | (with_reducible assumption) | assumption)) (Nat.le_trans (Nat.mul_le_mul_right _ (of_decide_eq_true (by first | (with_reducible assumption) | assumption) : (x11_2.length : Int).toNat ≤ 35184372088832)) (by omega)) (Below.refl _ _) (Nat.le_refl _) ?_; intro v161 w27 ho28 hb hg_ hnew_; clear hg_ hnew_; (first | rw [← Ny160.out] at ho28 | (simp only [Int.reduceToNat] at ho28; rw [← Ny160.out] at ho28)); have n0_ := Aside0.mk (Kd.R_elder' (by (with_reducible repeat (first | apply Kd.R_alloc | apply Kd.R_drewN | apply Kd.R_drew)); exact HO_11.out) (Kd.R_base ho28) hb); have n1_ := Aside0.mk (Kd.R_lower (Kd.R_new' ho28 (Kd.R_lt (by (with_reducible repeat (first | apply Kd.R_alloc | apply Kd.R_drewN | apply Kd.R_drew)); exact HO_11.out))) (below_size (by repeat (first | (with_reducible first | exact HB.out | apply below_alloc | apply pw_below_drewN | apply below_drew1) | exact HB.out)))); have n2_ := Aside0.mk (below_step (by repeat (first | (with_reducible first | exact HB.out | apply below_alloc | apply pw_below_drewN | apply below_drew1) | exact HB.out)) hb); clear HO_11; clear HB; have HO_11 := n0_; have HO162 := n1_; have HB := n2_; clear n0_ n1_ n2_; clear hb ho28))
                            repeat (go_quiet (first | ((with_reducible refine gate_dst (N := 53) rfl ?_); refine Kd.R_make (Kd.int .i64) _ 3 rfl (N := 53) rfl 22 _ _ rfl (x11_2.length : Int) rfl rfl Try.underlying22 (.int .i64 0) 8 info3 rfl (by decide) (by omega) 0 (ok := fun _ => True) (okp := fun _ => True) rfl (fun _ hk => hk) trivial (of_decide_eq_true (by first | (with_reducible assumption) | assumption)) (Nat.le_trans (Nat.mul_le_mul_right _ (of_decide_eq_true (by first | (with_reducible assumption) | assumption) : (x11_2.length : Int).toNat ≤ 35184372088832)) (by omega)) (Below.refl _ _) (Nat.le_refl _) ?_; intro v161 w27 ho28 hb hg_ hnew_; clear hg_ hnew_; (first | rw [← Ny160.out] at ho28 | (simp only [Int.reduceToNat] at ho28; rw [← Ny160.out] at ho28)); have n0_ := Aside0.mk (Kd.R_elder' (by (with_reducible repeat (first | apply Kd.R_alloc | apply Kd.R_drewN | apply Kd.R_drew)); exact HO_11.out) (Kd.R_base ho28) hb); have n1_ := Aside0.mk (Kd.R_lower (Kd.R_new' ho28 (Kd.R_lt (by (with_reducible repeat (first | apply Kd.R_alloc | apply Kd.R_drewN | apply Kd.R_drew)); exact HO_11.out))) (below_size (by repeat (first | (with_reducible first | exact HB.out | apply below_alloc | apply pw_below_drewN | apply below_drew1) | exact HB.out)))); have n2_ := Aside0.mk (below_step (by repeat (first | (with_reducible first | exact HB.out | apply below_alloc | apply pw_below_drewN | apply below_drew1) | exact HB.out)) hb); clear HO_11; clear HB; have HO_11 := n0_; have HO162 := n1_; have HB := n2_; clear n0_ n1_ n2_; clear hb ho28)); try go_wp2_with (first | ((with_reducible refine gate_dst (N := 53) rfl ?_); refine Kd.R_make (Kd.int .i64) _ 3 rfl (N := 53) rfl 22 _ _ rfl (x11_2.length : Int) rfl rfl Try.underlying22 (.int .i64 0) 8 info3 rfl (by decide) (by omega) 0 (ok := fun _ => True) (okp := fun _ => True) rfl (fun _ hk => hk) trivial (of_decide_eq_true (by first | (with_reducible assumption) | assumption)) (Nat.le_trans (Nat.mul_le_mul_right _ (of_decide_eq_true (by first | (with_reducible assumption) | assumption) : (x11_2.length : Int).toNat ≤ 35184372088832)) (by omega)) (Below.refl _ _) (Nat.le_refl _) ?_; intro v161 w27 ho28 hb hg_ hnew_; clear hg_ hnew_; (first | rw [← Ny160.out] at ho28 | (simp only [Int.reduceToNat] at ho28; rw [← Ny160.out] at ho28)); have n0_ := Aside0.mk (Kd.R_elder' (by (with_reducible repeat (first | apply Kd.R_alloc | apply Kd.R_drewN | apply Kd.R_drew)); exact HO_11.out) (Kd.R_base ho28) hb); have n1_ := Aside0.mk (Kd.R_lower (Kd.R_new' ho28 (Kd.R_lt (by (with_reducible repeat (first | apply Kd.R_alloc | apply Kd.R_drewN | apply Kd.R_drew)); exact HO_11.out))) (below_size (by repeat (first | (with_reducible first | exact HB.out | apply below_alloc | apply pw_below_drewN | apply below_drew1) | exact HB.out)))); have n2_ := Aside0.mk (below_step (by repeat (first | (with_reducible first | exact HB.out | apply below_alloc | apply pw_below_drewN | apply below_drew1) | exact HB.out)) hb); clear HO_11; clear HB; have HO_11 := n0_; have HO162 := n1_; have HB := n2_; clear n0_ n1_ n2_; clear hb ho28)))
                            go_loopg [56] k2 (fun kq v56 w' => ∃ (x13_3 : List Int) (x56_3 : Int), v56 = .int .i64 x56_3 ∧ Aside0 (impl_countGames.l1 kq l0 a1 a2 a3 (wrap64 (a2 + 1)) ji23 x13_3 x38_2 x11_2 (x11_2.length : Int) x56_3 = some (r1, r2)) ∧ Aside0 (kq ≤ k2) ∧ Aside0 (Kd.R (Kd.int .i64) 3 w' w.heap.size (fun k_ => some k_ ≠ ((.slice (some ad159) x11_2.length co26) : Value).ownBlock) v161 x13_3) ∧ Aside0 (Kd.R (Kd.int .i64) 3 w' w.heap.size (fun k_ => some k_ ≠ (v161 : Value).ownBlock) (.slice (some ad159) x11_2.length co26) x11_2) ∧ Aside0 (Below w.heap.size w w'))
                            case atStart => exact ⟨(y160), (0), (by first | rfl | (simp; done) | (simp [*]; done)), H', ⟨Nat.le_refl _⟩, ⟨by (with_reducible repeat (first | apply Kd.R_alloc | apply Kd.R_drewN | apply Kd.R_drew)); exact Kd.R_mono HO162.out (fun _ hk => hk.2)⟩, ⟨by (with_reducible repeat (first | apply Kd.R_alloc | apply Kd.R_drewN | apply Kd.R_drew)); exact Kd.R_mono HO_11.out (fun _ hk => hk.2)⟩, ⟨by repeat (first | (with_reducible first | exact HB.out | apply below_alloc | apply pw_below_drewN | apply below_drew1) | exact HB.out)⟩⟩
                            case round =>
                              clear H'
                              try clear c1
                              try clear p1
                              try clear q1
                              try clear hx1
                              try clear qi1
                              try clear c2
                              try clear p2
                              try clear c5
                              try clear p6
                              try clear c7
                              try clear c9
                              try clear c11
                              try clear c11b0
                              try clear c11b1
                              try clear c12
                              try clear c12b0
                              try clear c12b1
                              try clear c13
                              try clear c13b0
                              try clear c13b1
                              try clear p14
                              try clear q14
                              try clear hx14
                              try clear qi14
                              try clear hf14
                              try clear p15
                              try clear q15
                              try clear hx15
                              try clear c19
                              try clear c19b0
                              try clear c21
                              try clear c21b0
                              try clear c22
                              try clear c22b0
                              try clear c24
                              try clear c24b0
                              try clear c24b1
                              try clear c25
                              try clear c25b0
                              try clear c25b1
                              try clear hx14_0
                              try clear hx159_0
                              try clear p1
                              try clear p14
                              try clear p159
                              try clear p2
                              try clear p6
                              try clear q1
                              try clear q14
                              try clear q159
                              obtain ⟨x13_3, x56_3, rfl, HA, HK3, HO_13, HO_54, HB⟩ := hrel
                              cases gk with
                              | zero => exact absurd HA.out (by simp [impl_countGames.l1])
                              | succ k3 =>
                                have H := HA.out
                                clear HA
                                simp only [impl_countGames.l1] at H
                                by_cases c29 : x56_3 < (x11_2.length : Int)
                                · rw [if_pos c29] at H
                                  have c29b0 : decide (x56_3 < (x11_2.length : Int)) = true := decide_eq_true c29
                                  clear c29
                                  by_cases c30 : 0 ≤ x56_3
                                  · rw [if_pos c30] at H
                                    have c30b0 : decide (0 ≤ x56_3) = true := decide_eq_true c30
                                    clear c30
                                    by_cases c31 : x56_3 < (x11_2.length : Int)
                                    · rw [if_pos c31] at H
                                      have c31b0 : decide (x56_3 < (x11_2.length : Int)) = true := decide_eq_true c31
                                      clear c31
                                      by_cases c32 : (wrap64 (a2 + 1)) = 0
                                      · rw [if_pos c32] at H
                                        exact absurd H (by simp)
                                      · rw [if_neg c32] at H
                                        have c32b0 : ((wrap64 (a2 + 1)) == 0) = false := beq_eq_false_iff_ne.mpr c32
                                        have c32b1 : ((wrap64 (a2 + 1)) != 0) = true := bne_iff_ne.mpr c32
                                        by_cases c33 : (rd x11_2 x56_3) = 0
                                        · rw [if_pos c33] at H
                                          have c33b0 : ((rd x11_2 x56_3) == 0) = true := beq_iff_eq.mpr c33
                                          have c33b1 : ((rd x11_2 x56_3) != 0) = false := bne_eq_false_iff_eq.mpr c33
                                          clear c33
                                          have H' := Aside0.mk H
                                          clear H
                                          have p163 : 0 ≤ (x56_3 : Int) := of_decide_eq_true (by first | (with_reducible assumption) | assumption)
                                          have q163 : x56_3 < (x11_2.length : Int) := of_decide_eq_true (by first | (with_reducible assumption) | assumption)
                                          obtain ⟨ad163, e163, hx163_0⟩ := Kd.at_int (Kd.R_reads' HO_54.out).2.2 x56_3 p163 q163
                                          obtain rfl : ad159 = ad163 := (by injection e163)
                                          replace p163 := eq_true p163
                                          replace q163 := eq_true q163
                                          go_wp2
                                          repeat (go_quiet (fail); try go_wp2)
                                          go_roundg k3
                                          case measure => have := HJ4.out; have := HK2.out; have := HK3.out; omega
                                          case rel => exact ⟨(x13_3), (wrap64 (x56_3 + 1)), (by first | rfl | (simp; done) | (simp [*]; done)), H', ⟨by have := HJ4.out; have := HK2.out; have := HK3.out; omega⟩, ⟨by (with_reducible repeat (first | apply Kd.R_alloc | apply Kd.R_drewN | apply Kd.R_drew)); exact HO_13.out⟩, ⟨by (with_reducible repeat (first | apply Kd.R_alloc | apply Kd.R_drewN | apply Kd.R_drew)); exact HO_54.out⟩, ⟨by repeat (first | (with_reducible first | exact HB.out | apply below_alloc | apply pw_below_drewN | apply below_drew1) | exact HB.out)⟩⟩
                                        · rw [if_neg c33] at H
                                          have c33b0 : ((rd x11_2 x56_3) == 0) = false := beq_eq_false_iff_ne.mpr c33
                                          have c33b1 : ((rd x11_2 x56_3) != 0) = true := bne_iff_ne.mpr c33
                                          have H' := Aside0.mk H
                                          clear H
                                          have p163 : 0 ≤ (x56_3 : Int) := of_decide_eq_true (by first | (with_reducible assumption) | assumption)
                                          have q163 : x56_3 < (x11_2.length : Int) := of_decide_eq_true (by first | (with_reducible assumption) | assumption)
                                          obtain ⟨ad163, e163, hx163_0⟩ := Kd.at_int (Kd.R_reads' HO_54.out).2.2 x56_3 p163 q163
                                          obtain rfl : ad159 = ad163 := (by injection e163)
                                          replace p163 := eq_true p163
                                          replace q163 := eq_true q163
                                          go_wp2
                                          repeat (go_quiet (fail); try go_wp2)
                                          go_loopg [71] k3 (fun kq v71 w' => ∃ (x13_4 : List Int) (x71_4 : Int), v71 = .int .i64 x71_4 ∧ Aside0 (impl_countGames.l2 kq l0 a1 a2 a3 (wrap64 (a2 + 1)) ji23 x13_4 x56_3 (rd x11_2 x56_3) (wrap64 (Int.tdiv x56_3 (wrap64 (a2 + 1)))) (Int.tmod x56_3 (wrap64 (a2 + 1))) x38_2 x11_2 (x11_2.length : Int) x56_3 l0 (l0.length : Int) x71_4 = some (r1, r2)) ∧ Aside0 (kq ≤ k3) ∧ Aside0 (Kd.R (Kd.int .i64) 3 w' w.heap.size (fun k_ => some k_ ≠ ((.slice (some ad159) x11_2.length co26) : Value).ownBlock) v161 x13_4) ∧ Aside0 (Kd.R (Kd.int .i64) 3 w' w.heap.size (fun k_ => some k_ ≠ (v161 : Value).ownBlock) (.slice (some ad159) x11_2.length co26) x11_2) ∧ Aside0 (Below w.heap.size w w'))
                                          case atStart => exact ⟨(x13_3), (0), (by first | rfl | (simp; done) | (simp [*]; done)), H', ⟨Nat.le_refl _⟩, ⟨by (with_reducible repeat (first | apply Kd.R_alloc | apply Kd.R_drewN | apply Kd.R_drew)); exact HO_13.out⟩, ⟨by (with_reducible repeat (first | apply Kd.R_alloc | apply Kd.R_drewN | apply Kd.R_drew)); exact HO_54.out⟩, ⟨by repeat (first | (with_reducible first | exact HB.out | apply below_alloc | apply pw_below_drewN | apply below_drew1) | exact HB.out)⟩⟩
                                          case round =>
                                            clear H'
                                            try clear c1
                                            try clear p1
                                            try clear q1
                                            try clear hx1
                                            try clear qi1
                                            try clear c2
                                            try clear p2
                                            try clear c3
                                            try clear c5
                                            try clear p6
                                            try clear c7
                                            try clear c9
                                            try clear c11
                                            try clear c11b0
                                            try clear c11b1
                                            try clear c12
                                            try clear c12b0
                                            try clear c12b1
                                            try clear c13
                                            try clear c13b0
                                            try clear c13b1
                                            try clear p14
                                            try clear q14
                                            try clear hx14
                                            try clear qi14
                                            try clear hf14
                                            try clear p15
                                            try clear q15
                                            try clear hx15
                                            try clear p16
                                            try clear q16
                                            try clear hx16
                                            try clear c19
                                            try clear c19b0
                                            try clear c21
                                            try clear c21b0
                                            try clear c22
                                            try clear c22b0
                                            try clear c24
                                            try clear c24b0
                                            try clear c24b1
                                            try clear c25
                                            try clear c25b0
                                            try clear c25b1
                                            try clear c29
                                            try clear c29b0
                                            try clear c30
                                            try clear c30b0
                                            try clear c31
                                            try clear c31b0
                                            try clear c32
                                            try clear c32b0
                                            try clear c32b1
                                            try clear c33
                                            try clear c33b0
                                            try clear c33b1
                                            try clear hx14_0
                                            try clear hx159_0
                                            try clear hx163_0
                                            try clear p1
                                            try clear p14
                                            try clear p15
                                            try clear p159
                                            try clear p163
                                            try clear p2
                                            try clear p6
                                            try clear q1
                                            try clear q14
                                            try clear q15
                                            try clear q159
                                            try clear q163
                                            obtain ⟨x13_4, x71_4, rfl, HA, HK4, HO_13, HO_54, HB⟩ := hrel
                                            cases gk with
                                            | zero => exact absurd HA.out (by simp [impl_countGames.l2])
                                            | succ k4 =>
                                              have H := HA.out
                                              clear HA
                                              simp only [impl_countGames.l2] at H
                                              by_cases c34 : x71_4 < (l0.length : Int)
                                              · rw [if_pos c34] at H
                                                have c34b0 : decide (x71_4 < (l0.length : Int)) = true := decide_eq_true c34
                                                clear c34
                                                by_cases c35 : 0 ≤ x71_4
                                                · rw [if_pos c35] at H
                                                  have c35b0 : decide (0 ≤ x71_4) = true := decide_eq_true c35
                                                  clear c35
                                                  by_cases c36 : x71_4 < (l0.length : Int)
                                                  · rw [if_pos c36] at H
                                                    have c36b0 : decide (x71_4 < (l0.length : Int)) = true := decide_eq_true c36
                                                    clear c36
                                                    by_cases c37 : (wrap64 ((wrap64 (Int.tdiv x56_3 (wrap64 (a2 + 1)))) + (rd l0 x71_4))) ≤ a1
                                                    · rw [if_pos c37] at H
                                                      have c37b0 : decide ((wrap64 ((wrap64 (Int.tdiv x56_3 (wrap64 (a2 + 1)))) + (rd l0 x71_4))) ≤ a1) = true := decide_eq_true c37
                                                      clear c37
                                                      obtain ⟨ji38, hji38⟩ : ∃ j_ : Int, (wrap64 (x56_3 + (wrap64 ((rd l0 x71_4) * (wrap64 (a2 + 1)))))) = j_ := ⟨_, rfl⟩
                                                      replace H : (if 0 ≤ (ji38) then (if (ji38) < (x13_4.length : Int) then ((some (x13_4.set ((ji38) : Int).toNat (mn (wrap64 ((rd x13_4 (ji38)) + (rd x11_2 x56_3))) 1000000000000001) : List Int)).bind fun y166 => (if (wrap64 ((Int.tmod x56_3 (wrap64 (a2 + 1))) + (rd l0 x71_4))) ≤ a2 then (if a3 = true then (if (wrap64 (Int.tdiv x56_3 (wrap64 (a2 + 1)))) ≥ (wrap64 ((Int.tmod x56_3 (wrap64 (a2 + 1))) + (rd l0 x71_4))) then (if 0 ≤ (wrap64 (x56_3 + (rd l0 x71_4))) then (if (wrap64 (x56_3 + (rd l0 x71_4))) < (x13_4.length : Int) then (impl_countGames.l2 k4 l0 a1 a2 a3 (wrap64 (a2 + 1)) ji23 (y166.set ((wrap64 (x56_3 + (rd l0 x71_4))) : Int).toNat (mn (wrap64 ((rd y166 (wrap64 (x56_3 + (rd l0 x71_4)))) + (rd x11_2 x56_3))) 1000000000000001)) x56_3 (rd x11_2 x56_3) (wrap64 (Int.tdiv x56_3 (wrap64 (a2 + 1)))) (Int.tmod x56_3 (wrap64 (a2 + 1))) x38_2 x11_2 (x11_2.length : Int) x56_3 l0 (l0.length : Int) (wrap64 (x71_4 + 1))) else (none)) else (none)) else (impl_countGames.l2 k4 l0 a1 a2 a3 (wrap64 (a2 + 1)) ji23 y166 x56_3 (rd x11_2 x56_3) (wrap64 (Int.tdiv x56_3 (wrap64 (a2 + 1)))) (Int.tmod x56_3 (wrap64 (a2 + 1))) x38_2 x11_2 (x11_2.length : Int) x56_3 l0 (l0.length : Int) (wrap64 (x71_4 + 1)))) else (if 0 ≤ (wrap64 (x56_3 + (rd l0 x71_4))) then (if (wrap64 (x56_3 + (rd l0 x71_4))) < (x13_4.length : Int) then (impl_countGames.l2 k4 l0 a1 a2 a3 (wrap64 (a2 + 1)) ji23 (y166.set ((wrap64 (x56_3 + (rd l0 x71_4))) : Int).toNat (mn (wrap64 ((rd y166 (wrap64 (x56_3 + (rd l0 x71_4)))) + (rd x11_2 x56_3))) 1000000000000001)) x56_3 (rd x11_2 x56_3) (wrap64 (Int.tdiv x56_3 (wrap64 (a2 + 1)))) (Int.tmod x56_3 (wrap64 (a2 + 1))) x38_2 x11_2 (x11_2.length : Int) x56_3 l0 (l0.length : Int) (wrap64 (x71_4 + 1))) else (none)) else (none))) else (impl_countGames.l2 k4 l0 a1 a2 a3 (wrap64 (a2 + 1)) ji23 y166 x56_3 (rd x11_2 x56_3) (wrap64 (Int.tdiv x56_3 (wrap64 (a2 + 1)))) (Int.tmod x56_3 (wrap64 (a2 + 1))) x38_2 x11_2 (x11_2.length : Int) x56_3 l0 (l0.length : Int) (wrap64 (x71_4 + 1))))) else (none)) else (none)) = some (r1, r2) := by first | (rw [hji38] at H; exact H) | (simp only [hji38] at H ⊢; exact H)
                                                      have hji38w : (IntKind.i64.wrap (x56_3 + (wrap64 ((rd l0 x71_4) * (wrap64 (a2 + 1)))))) = ji38 := (i64_w _).trans hji38
                                                      by_cases c39 : 0 ≤ (ji38)
                                                      · rw [if_pos c39] at H
                                                        have c39b0 : decide (0 ≤ (ji38)) = true := decide_eq_true c39
                                                        clear c39
                                                        by_cases c40 : (ji38) < (x13_4.length : Int)
                                                        · rw [if_pos c40] at H
                                                          have c40b0 : decide ((ji38) < (x13_4.length : Int)) = true := decide_eq_true c40
                                                          clear c40
                                                          obtain ⟨ji41, hji41⟩ : ∃ j_ : Int, (mn (wrap64 ((rd x13_4 (ji38)) + (rd x11_2 x56_3))) 1000000000000001) = j_ := ⟨_, rfl⟩
                                                          replace H : ((some (x13_4.set ((ji38) : Int).toNat (ji41) : List Int)).bind fun y166 => (if (wrap64 ((Int.tmod x56_3 (wrap64 (a2 + 1))) + (rd l0 x71_4))) ≤ a2 then (if a3 = true then (if (wrap64 (Int.tdiv x56_3 (wrap64 (a2 + 1)))) ≥ (wrap64 ((Int.tmod x56_3 (wrap64 (a2 + 1))) + (rd l0 x71_4))) then (if 0 ≤ (wrap64 (x56_3 + (rd l0 x71_4))) then (if (wrap64 (x56_3 + (rd l0 x71_4))) < (x13_4.length : Int) then (impl_countGames.l2 k4 l0 a1 a2 a3 (wrap64 (a2 + 1)) ji23 (y166.set ((wrap64 (x56_3 + (rd l0 x71_4))) : Int).toNat (mn (wrap64 ((rd y166 (wrap64 (x56_3 + (rd l0 x71_4)))) + (rd x11_2 x56_3))) 1000000000000001)) x56_3 (rd x11_2 x56_3) (wrap64 (Int.tdiv x56_3 (wrap64 (a2 + 1)))) (Int.tmod x56_3 (wrap64 (a2 + 1))) x38_2 x11_2 (x11_2.length : Int) x56_3 l0 (l0.length : Int) (wrap64 (x71_4 + 1))) else (none)) else (none)) else (impl_countGames.l2 k4 l0 a1 a2 a3 (wrap64 (a2 + 1)) ji23 y166 x56_3 (rd x11_2 x56_3) (wrap64 (Int.tdiv x56_3 (wrap64 (a2 + 1)))) (Int.tmod x56_3 (wrap64 (a2 + 1))) x38_2 x11_2 (x11_2.length : Int) x56_3 l0 (l0.length : Int) (wrap64 (x71_4 + 1)))) else (if 0 ≤ (wrap64 (x56_3 + (rd l0 x71_4))) then (if (wrap64 (x56_3 + (rd l0 x71_4))) < (x13_4.length : Int) then (impl_countGames.l2 k4 l0 a1 a2 a3 (wrap64 (a2 + 1)) ji23 (y166.set ((wrap64 (x56_3 + (rd l0 x71_4))) : Int).toNat (mn (wrap64 ((rd y166 (wrap64 (x56_3 + (rd l0 x71_4)))) + (rd x11_2 x56_3))) 1000000000000001)) x56_3 (rd x11_2 x56_3) (wrap64 (Int.tdiv x56_3 (wrap64 (a2 + 1)))) (Int.tmod x56_3 (wrap64 (a2 + 1))) x38_2 x11_2 (x11_2.length : Int) x56_3 l0 (l0.length : Int) (wrap64 (x71_4 + 1))) else (none)) else (none))) else (impl_countGames.l2 k4 l0 a1 a2 a3 (wrap64 (a2 + 1)) ji23 y166 x56_3 (rd x11_2 x56_3) (wrap64 (Int.tdiv x56_3 (wrap64 (a2 + 1)))) (Int.tmod x56_3 (wrap64 (a2 + 1))) x38_2 x11_2 (x11_2.length : Int) x56_3 l0 (l0.length : Int) (wrap64 (x71_4 + 1))))) = some (r1, r2) := by first | (rw [hji41] at H; exact H) | (simp only [hji41] at H ⊢; exact H)
                                                          have hji41_ : (if 1000000000000001 < (wrap64 ((rd x13_4 (ji38)) + (rd x11_2 x56_3))) then 1000000000000001 else (wrap64 ((rd x13_4 (ji38)) + (rd x11_2 x56_3)))) = ji41 := hji41
                                                          obtain ⟨y166, hy166⟩ : ∃ y_ : List Int, y_ = (x13_4.set ((ji38) : Int).toNat (ji41)) := ⟨_, rfl⟩
                                                          replace H : (if (wrap64 ((Int.tmod x56_3 (wrap64 (a2 + 1))) + (rd l0 x71_4))) ≤ a2 then (if a3 = true then (if (wrap64 (Int.tdiv x56_3 (wrap64 (a2 + 1)))) ≥ (wrap64 ((Int.tmod x56_3 (wrap64 (a2 + 1))) + (rd l0 x71_4))) then (if 0 ≤ (wrap64 (x56_3 + (rd l0 x71_4))) then (if (wrap64 (x56_3 + (rd l0 x71_4))) < (x13_4.length : Int) then (impl_countGames.l2 k4 l0 a1 a2 a3 (wrap64 (a2 + 1)) ji23 (y166.set ((wrap64 (x56_3 + (rd l0 x71_4))) : Int).toNat (mn (wrap64 ((rd y166 (wrap64 (x56_3 + (rd l0 x71_4)))) + (rd x11_2 x56_3))) 1000000000000001)) x56_3 (rd x11_2 x56_3) (wrap64 (Int.tdiv x56_3 (wrap64 (a2 + 1)))) (Int.tmod x56_3 (wrap64 (a2 + 1))) x38_2 x11_2 (x11_2.length : Int) x56_3 l0 (l0.length : Int) (wrap64 (x71_4 + 1))) else (none)) else (none)) else (impl_countGames.l2 k4 l0 a1 a2 a3 (wrap64 (a2 + 1)) ji23 y166 x56_3 (rd x11_2 x56_3) (wrap64 (Int.tdiv x56_3 (wrap64 (a2 + 1)))) (Int.tmod x56_3 (wrap64 (a2 + 1))) x38_2 x11_2 (x11_2.length : Int) x56_3 l0 (l0.length : Int) (wrap64 (x71_4 + 1)))) else (if 0 ≤ (wrap64 (x56_3 + (rd l0 x71_4))) then (if (wrap64 (x56_3 + (rd l0 x71_4))) < (x13_4.length : Int) then (impl_countGames.l2 k4 l0 a1 a2 a3 (wrap64 (a2 + 1)) ji23 (y166.set ((wrap64 (x56_3 + (rd l0 x71_4))) : Int).toNat (mn (wrap64 ((rd y166 (wrap64 (x56_3 + (rd l0 x71_4)))) + (rd x11_2 x56_3))) 1000000000000001)) x56_3 (rd x11_2 x56_3) (wrap64 (Int.tdiv x56_3 (wrap64 (a2 + 1)))) (Int.tmod x56_3 (wrap64 (a2 + 1))) x38_2 x11_2 (x11_2.length : Int) x56_3 l0 (l0.length : Int) (wrap64 (x71_4 + 1))) else (none)) else (none))) else (impl_countGames.l2 k4 l0 a1 a2 a3 (wrap64 (a2 + 1)) ji23 y166 x56_3 (rd x11_2 x56_3) (wrap64 (Int.tdiv x56_3 (wrap64 (a2 + 1)))) (Int.tmod x56_3 (wrap64 (a2 + 1))) x38_2 x11_2 (x11_2.length : Int) x56_3 l0 (l0.length : Int) (wrap64 (x71_4 + 1)))) = some (r1, r2) := by first | (rw [hy166]; with_reducible exact H) | (have H2_ := (Option.bind_some _ _).symm.trans H; rw [hy166]; with_reducible exact H2_) | (have H2_ := (Option.bind_some _ _).symm.trans H; with_reducible exact H2_) | with_reducible exact H | (rw [hy166]; exact H) | exact H
                                                          have Ny166 := Aside0.mk hy166
                                                          clear hy166
                                                          by_cases c43 : (wrap64 ((Int.tmod x56_3 (wrap64 (a2 + 1))) + (rd l0 x71_4))) ≤ a2
                                                          · rw [if_pos c43] at H
                                                            have c43b0 : decide ((wrap64 ((Int.tmod x56_3 (wrap64 (a2 + 1))) + (rd l0 x71_4))) ≤ a2) = true := decide_eq_true c43
                                                            clear c43
                                                            by_cases c44 : a3 = true
                                                            · subst c44
                                                              have H1 : (if (wrap64 (Int.tdiv x56_3 (wrap64 (a2 + 1)))) ≥ (wrap64 ((Int.tmod x56_3 (wrap64 (a2 + 1))) + (rd l0 x71_4))) then (if 0 ≤ (wrap64 (x56_3 + (rd l0 x71_4))) then (if (wrap64 (x56_3 + (rd l0 x71_4))) < (x13_4.length : Int) then (impl_countGames.l2 k4 l0 a1 a2 true (wrap64 (a2 + 1)) ji23 (y166.set ((wrap64 (x56_3 + (rd l0 x71_4))) : Int).toNat (mn (wrap64 ((rd y166 (wrap64 (x56_3 + (rd l0 x71_4)))) + (rd x11_2 x56_3))) 1000000000000001)) x56_3 (rd x11_2 x56_3) (wrap64 (Int.tdiv x56_3 (wrap64 (a2 + 1)))) (Int.tmod x56_3 (wrap64 (a2 + 1))) x38_2 x11_2 (x11_2.length : Int) x56_3 l0 (l0.length : Int) (wrap64 (x71_4 + 1))) else (none)) else (none)) else (impl_countGames.l2 k4 l0 a1 a2 true (wrap64 (a2 + 1)) ji23 y166 x56_3 (rd x11_2 x56_3) (wrap64 (Int.tdiv x56_3 (wrap64 (a2 + 1)))) (Int.tmod x56_3 (wrap64 (a2 + 1))) x38_2 x11_2 (x11_2.length : Int) x56_3 l0 (l0.length : Int) (wrap64 (x71_4 + 1)))) = some (r1, r2) := by rw [if_pos rfl] at H; exact H
                                                              clear H
                                                              have H := H1
                                                              clear H1
                                                              by_cases c45 : (wrap64 (Int.tdiv x56_3 (wrap64 (a2 + 1)))) ≥ (wrap64 ((Int.tmod x56_3 (wrap64 (a2 + 1))) + (rd l0 x71_4)))
                                                              · rw [if_pos c45] at H
                                                                have c45b0 : decide ((wrap64 ((Int.tmod x56_3 (wrap64 (a2 + 1))) + (rd l0 x71_4))) ≤ (wrap64 (Int.tdiv x56_3 (wrap64 (a2 + 1))))) = true := decide_eq_true c45
                                                                clear c45
                                                                obtain ⟨ji46, hji46⟩ : ∃ j_ : Int, (wrap64 (x56_3 + (rd l0 x71_4))) = j_ := ⟨_, rfl⟩
                                                                replace H : (if 0 ≤ (ji46) then (if (ji46) < (x13_4.length : Int) then (impl_countGames.l2 k4 l0 a1 a2 true (wrap64 (a2 + 1)) ji23 (y166.set ((ji46) : Int).toNat (mn (wrap64 ((rd y166 (ji46)) + (rd x11_2 x56_3))) 1000000000000001)) x56_3 (rd x11_2 x56_3) (wrap64 (Int.tdiv x56_3 (wrap64 (a2 + 1)))) (Int.tmod x56_3 (wrap64 (a2 + 1))) x38_2 x11_2 (x11_2.length : Int) x56_3 l0 (l0.length : Int) (wrap64 (x71_4 + 1))) else (none)) else (none)) = some (r1, r2) := by first | (rw [hji46] at H; exact H) | (simp only [hji46] at H ⊢; exact H)
                                                                have hji46w : (IntKind.i64.wrap (x56_3 + (rd l0 x71_4))) = ji46 := (i64_w _).trans hji46
                                                                by_cases c47 : 0 ≤ (ji46)
                                                                · rw [if_pos c47] at H
                                                                  have c47b0 : decide (0 ≤ (ji46)) = true := decide_eq_true c47
                                                                  clear c47
                                                                  by_cases c48 : (ji46) < (x13_4.length : Int)
                                                                  · rw [if_pos c48] at H
                                                                    have c48b0 : decide ((ji46) < (x13_4.length : Int)) = true := decide_eq_true c48
                                                                    clear c48
                                                                    obtain ⟨ji49, hji49⟩ : ∃ j_ : Int, (mn (wrap64 ((rd y166 (ji46)) + (rd x11_2 x56_3))) 1000000000000001) = j_ := ⟨_, rfl⟩
                                                                    replace H : (impl_countGames.l2 k4 l0 a1 a2 true (wrap64 (a2 + 1)) ji23 (y166.set ((ji46) : Int).toNat (ji49)) x56_3 (rd x11_2 x56_3) (wrap64 (Int.tdiv x56_3 (wrap64 (a2 + 1)))) (Int.tmod x56_3 (wrap64 (a2 + 1))) x38_2 x11_2 (x11_2.length : Int) x56_3 l0 (l0.length : Int) (wrap64 (x71_4 + 1))) = some (r1, r2) := by first | (rw [hji49] at H; exact H) | (simp only [hji49] at H ⊢; exact H)
                                                                    have hji49_ : (if 1000000000000001 < (wrap64 ((rd y166 (ji46)) + (rd x11_2 x56_3))) then 1000000000000001 else (wrap64 ((rd y166 (ji46)) + (rd x11_2 x56_3)))) = ji49 := hji49
                                                                    obtain ⟨y168, hy168⟩ : ∃ y_ : List Int, y_ = (y166.set ((ji46) : Int).toNat (ji49)) := ⟨_, rfl⟩
                                                                    replace H : (impl_countGames.l2 k4 l0 a1 a2 true (wrap64 (a2 + 1)) ji23 y168 x56_3 (rd x11_2 x56_3) (wrap64 (Int.tdiv x56_3 (wrap64 (a2 + 1)))) (Int.tmod x56_3 (wrap64 (a2 + 1))) x38_2 x11_2 (x11_2.length : Int) x56_3 l0 (l0.length : Int) (wrap64 (x71_4 + 1))) = some (r1, r2) := by first | (rw [hy168]; with_reducible exact H) | (have H2_ := (Option.bind_some _ _).symm.trans H; rw [hy168]; with_reducible exact H2_) | (have H2_ := (Option.bind_some _ _).symm.trans H; with_reducible exact H2_) | with_reducible exact H | (rw [hy168]; exact H) | exact H
                                                                    have Ny168 := Aside0.mk hy168
                                                                    clear hy168
                                                                    have H' := Aside0.mk H
                                                                    clear H
                                                                    have p164 : 0 ≤ (x71_4 : Int) := of_decide_eq_true (by first | (with_reducible assumption) | assumption)
                                                                    have q164 : x71_4 < (l0.length : Int) := of_decide_eq_true (by first | (with_reducible assumption) | assumption)
                                                                    obtain ⟨ad164, e164, hx164_0⟩ := Kd.at_int HR0.out x71_4 p164 q164
                                                                    cases e164
                                                                    replace hx164_0 := (HB.out.cell (World.block_lt_of_cell? w _ hx164_0)).trans hx164_0
                                                                    replace p164 := eq_true p164
                                                                    replace q164 := eq_true q164
                                                                    obtain ⟨Ao51, co51, eo51⟩ := Kd.R_slice HO_13.out
                                                                    subst eo51
                                                                    have p165 : 0 ≤ ((ji38) : Int) := of_decide_eq_true (by first | (with_reducible assumption) | assumption)
                                                                    have q165 : (ji38) < (x13_4.length : Int) := of_decide_eq_true (by first | (with_reducible assumption) | assumption)
                                                                    obtain ⟨ad165, e165, hx165_0⟩ := Kd.at_int (Kd.R_reads' HO_13.out).2.2 (ji38) p165 q165
                                                                    cases e165
                                                                    replace p165 := eq_true p165
                                                                    replace q165 := eq_true q165
                                                                    have p42 : 0 ≤ ((ji38) : Int) := of_decide_eq_true (by first | (with_reducible assumption) | assumption)
                                                                    have q42 : ((ji38) : Int) < ((x13_4.length : Int) : Int) := of_decide_eq_true (by first | (with_reducible assumption) | assumption)
                                                                    obtain ⟨go42, co42, eo42, gb42, gl42, cl42, HG42⟩ := Kd.R_form HO_13.out (by omega)
                                                                    (first | cases eo42 | (injection eo42 with ea_ en_ ec_; (first | subst ea_ | (injection ea_ with ea_; subst ea_)); subst ec_; clear en_))
                                                                    have GB42 := Aside0.mk gb42
                                                                    have GG42 := Aside0.mk HG42
                                                                    clear gb42 gl42 HG42
                                                                    (first | simp only [add_plain] at hx165_0 | skip)
                                                                    obtain ⟨hx42_0, hf42_0⟩ := Kd.R_celln 0 HO_13.out ((ji38) : Int) p42 q42
                                                                    replace p42 := eq_true p42
                                                                    replace q42 := eq_true q42
                                                                    have HP52 := Kd.R_putg HO_13.out ((ji38) : Int) ji41
                                                                    go_wp2_with (first | ((with_reducible refine gate_store (t := 3) (p := 97) rfl ?_); (try (rw [drewN_self wr]; generalize hq_ : World.drewN wr _ = wr; have n0_ := Aside0.mk (Kd.R_at hq_ HO_13.out); have n1_ := Aside0.mk (Kd.R_at hq_ HO_54.out); have n2_ := Aside0.mk (below_at hq_ HB.out); clear hq_ HO_13 HO_54 HB; have HO_13 := n0_; have HO_54 := n1_; have HB := n2_; clear n0_ n1_ n2_; (try (have HP52 := Kd.R_putg HO_13.out ((ji38) : Int) ji41)))); refine store_event (t := 3) (p := 97) (v := ?vo_w53) (w1 := (wr.setCell ⟨go42, ((ji38) : Int).toNat, none⟩ (.int .i64 ji41))) ?hg ?ho ?hn ?hr ?_; (case ho => rfl); (case hg => rfl); (case hn => rfl); (case hr => first | (go_simp; done) | (go_simp; rfl)); intro w53 hw; have hg : wr.grownBy w53 (some go42) := (by rw [hw]; exact HP52.2); have hp_ : Kd.R (Kd.int .i64) 3 w53 w.heap.size (fun k_ => some k_ ≠ (.slice (some ad159) x11_2.length co26 : Value).ownBlock) (.slice (some ⟨go42, 0, none⟩) x13_4.length co51) y166 := (by rw [hw, Ny166.out]; exact HP52.1); clear HP52; have n0_ := Aside0.mk (hp_); have n1_ := Aside0.mk (Kd.R_after (v := (.slice (some ⟨go42, 0, none⟩) x13_4.length co51)) (v1 := (.slice (some ⟨go42, 0, none⟩) x13_4.length co51)) (ok := (fun _ => True)) (by (with_reducible repeat (first | apply Kd.R_alloc | apply Kd.R_drewN | apply Kd.R_drew)); exact Kd.R_mono HO_54.out (fun _ hk => ⟨trivial, hk⟩)) hg (.inl rfl)); have n2_ := Aside0.mk ((by rw [hw]; exact below_set (HB.out) GB42.out : Below w.heap.size w w53)); clear HO_13; clear HO_54; clear HB; have HO_13 := n0_; have HO_54 := n1_; have HB := n2_; clear n0_ n1_ n2_; clear hg hw hp_; have p167 : 0 ≤ ((ji46) : Int) := of_decide_eq_true (by first | (with_reducible assumption) | assumption); have q167 : (ji46) < (y166.length : Int) := (by have h_ : ((ji46) : Int) < ((x13_4.length : Int) : Int) := of_decide_eq_true (by first | (with_reducible assumption) | assumption); first | (have e_ := (Kd.R_reads' HO_13.out).1; omega) | simpa only [Ny166.out, List.length_set] using h_); have ql167 : (((ji46) : Int) < ((x13_4.length : Int) : Int)) = True := eq_true (of_decide_eq_true (by first | (with_reducible assumption) | assumption)); obtain ⟨ad167, e167, hx167_0⟩ := Kd.at_int (Kd.R_reads' HO_13.out).2.2 (ji46) p167 q167; obtain rfl : (⟨go42, 0, none⟩ : Addr) = ad167 := (by injection e167); (first | simp only [add_plain] at hx167_0 | simp only [add_at] at hx167_0 | simp only [Addr.add, Nat.zero_add] at hx167_0 | skip); replace p167 := eq_true p167; replace q167 := eq_true q167; have p50 : 0 ≤ ((ji46) : Int) := of_decide_eq_true (by first | (with_reducible assumption) | assumption); have q50 : ((ji46) : Int) < ((x13_4.length : Int) : Int) := of_decide_eq_true (by first | (with_reducible assumption) | assumption); obtain ⟨hx50_0, hf50_0⟩ := Kd.R_celln 0 HO_13.out ((ji46) : Int) p50 q50; replace p50 := eq_true p50; replace q50 := eq_true q50; obtain ⟨hy54_, hz54_⟩ := Kd.R_celln 0 HO_13.out ((ji46) : Int) (of_decide_eq_true (by first | (with_reducible assumption) | assumption)) (of_decide_eq_true (by first | (with_reducible assumption) | assumption)); have HP54 := Kd.R_putg HO_13.out ((ji46) : Int) ji49) | ((with_reducible refine gate_store (t := 3) (p := 127) rfl ?_); (try (rw [drewN_self w53]; generalize hq_ : World.drewN w53 _ = w53; have n0_ := Aside0.mk (Kd.R_at hq_ HO_13.out); have n1_ := Aside0.mk (Kd.R_at hq_ HO_54.out); have n2_ := Aside0.mk (below_at hq_ HB.out); clear hq_ HO_13 HO_54 HB; have HO_13 := n0_; have HO_54 := n1_; have HB := n2_; clear n0_ n1_ n2_; (try (obtain ⟨hy54_, hz54_⟩ := Kd.R_celln 0 HO_13.out ((ji46) : Int) (of_decide_eq_true (by first | (with_reducible assumption) | assumption)) (of_decide_eq_true (by first | (with_reducible assumption) | assumption)))); (try (have HP54 := Kd.R_putg HO_13.out ((ji46) : Int) ji49)))); refine store_event (t := 3) (p := 127) (v := ?vo_w55) (w1 := (w53.setCell ⟨go42, ((ji46) : Int).toNat, none⟩ (.int .i64 ji49))) ?hg ?ho ?hn ?hr ?_; (case ho => rfl); (case hg => rfl); (case hn => rfl); (case hr => first | (go_simp; done) | (go_simp; rfl)); intro w55 hw; have hg : w53.grownBy w55 (some go42) := (by rw [hw]; exact HP54.2); have hp_ : Kd.R (Kd.int .i64) 3 w55 w.heap.size (fun k_ => some k_ ≠ (.slice (some ad159) x11_2.length co26 : Value).ownBlock) (.slice (some ⟨go42, 0, none⟩) x13_4.length co51) y168 := (by rw [hw, Ny168.out]; exact HP54.1); clear HP54; have n0_ := Aside0.mk (hp_); have n1_ := Aside0.mk (Kd.R_after (v := (.slice (some ⟨go42, 0, none⟩) x13_4.length co51)) (v1 := (.slice (some ⟨go42, 0, none⟩) x13_4.length co51)) (ok := (fun _ => True)) (by (with_reducible repeat (first | apply Kd.R_alloc | apply Kd.R_drewN | apply Kd.R_drew)); exact HO_54.out) hg (.inl rfl)); have n2_ := Aside0.mk ((by rw [hw]; exact below_set (HB.out) GB42.out : Below w.heap.size w w55)); clear HO_13; clear HO_54; clear HB; have HO_13 := n0_; have HO_54 := n1_; have HB := n2_; clear n0_ n1_ n2_; clear hg hw hp_))
                                                                    repeat (go_quiet (first | ((with_reducible refine gate_store (t := 3) (p := 97) rfl ?_); (try (rw [drewN_self wr]; generalize hq_ : World.drewN wr _ = wr; have n0_ := Aside0.mk (Kd.R_at hq_ HO_13.out); have n1_ := Aside0.mk (Kd.R_at hq_ HO_54.out); have n2_ := Aside0.mk (below_at hq_ HB.out); clear hq_ HO_13 HO_54 HB; have HO_13 := n0_; have HO_54 := n1_; have HB := n2_; clear n0_ n1_ n2_; (try (have HP52 := Kd.R_putg HO_13.out ((ji38) : Int) ji41)))); refine store_event (t := 3) (p := 97) (v := ?vo_w53) (w1 := (wr.setCell ⟨go42, ((ji38) : Int).toNat, none⟩ (.int .i64 ji41))) ?hg ?ho ?hn ?hr ?_; (case ho => rfl); (case hg => rfl); (case hn => rfl); (case hr => first | (go_simp; done) | (go_simp; rfl)); intro w53 hw; have hg : wr.grownBy w53 (some go42) := (by rw [hw]; exact HP52.2); have hp_ : Kd.R (Kd.int .i64) 3 w53 w.heap.size (fun k_ => some k_ ≠ (.slice (some ad159) x11_2.length co26 : Value).ownBlock) (.slice (some ⟨go42, 0, none⟩) x13_4.length co51) y166 := (by rw [hw, Ny166.out]; exact HP52.1); clear HP52; have n0_ := Aside0.mk (hp_); have n1_ := Aside0.mk (Kd.R_after (v := (.slice (some ⟨go42, 0, none⟩) x13_4.length co51)) (v1 := (.slice (some ⟨go42, 0, none⟩) x13_4.length co51)) (ok := (fun _ => True)) (by (with_reducible repeat (first | apply Kd.R_alloc | apply Kd.R_drewN | apply Kd.R_drew)); exact Kd.R_mono HO_54.out (fun _ hk => ⟨trivial, hk⟩)) hg (.inl rfl)); have n2_ := Aside0.mk ((by rw [hw]; exact below_set (HB.out) GB42.out : Below w.heap.size w w53)); clear HO_13; clear HO_54; clear HB; have HO_13 := n0_; have HO_54 := n1_; have HB := n2_; clear n0_ n1_ n2_; clear hg hw hp_; have p167 : 0 ≤ ((ji46) : Int) := of_decide_eq_true (by first | (with_reducible assumption) | assumption); have q167 : (ji46) < (y166.length : Int) := (by have h_ : ((ji46) : Int) < ((x13_4.length : Int) : Int) := of_decide_eq_true (by first | (with_reducible assumption) | assumption); first | (have e_ := (Kd.R_reads' HO_13.out).1; omega) | simpa only [Ny166.out, List.length_set] using h_); have ql167 : (((ji46) : Int) < ((x13_4.length : Int) : Int)) = True := eq_true (of_decide_eq_true (by first | (with_reducible assumption) | assumption)); obtain ⟨ad167, e167, hx167_0⟩ := Kd.at_int (Kd.R_reads' HO_13.out).2.2 (ji46) p167 q167; obtain rfl : (⟨go42, 0, none⟩ : Addr) = ad167 := (by injection e167); (first | simp only [add_plain] at hx167_0 | simp only [add_at] at hx167_0 | simp only [Addr.add, Nat.zero_add] at hx167_0 | skip); replace p167 := eq_true p167; replace q167 := eq_true q167; have p50 : 0 ≤ ((ji46) : Int) := of_decide_eq_true (by first | (with_reducible assumption) | assumption); have q50 : ((ji46) : Int) < ((x13_4.length : Int) : Int) := of_decide_eq_true (by first | (with_reducible assumption) | assumption); obtain ⟨hx50_0, hf50_0⟩ := Kd.R_celln 0 HO_13.out ((ji46) : Int) p50 q50; replace p50 := eq_true p50; replace q50 := eq_true q50; obtain ⟨hy54_, hz54_⟩ := Kd.R_celln 0 HO_13.out ((ji46) : Int) (of_decide_eq_true (by first | (with_reducible assumption) | assumption)) (of_decide_eq_true (by first | (with_reducible assumption) | assumption)); have HP54 := Kd.R_putg HO_13.out ((ji46) : Int) ji49) | ((with_reducible refine gate_store (t := 3) (p := 127) rfl ?_); (try (rw [drewN_self w53]; generalize hq_ : World.drewN w53 _ = w53; have n0_ := Aside0.mk (Kd.R_at hq_ HO_13.out); have n1_ := Aside0.mk (Kd.R_at hq_ HO_54.out); have n2_ := Aside0.mk (below_at hq_ HB.out); clear hq_ HO_13 HO_54 HB; have HO_13 := n0_; have HO_54 := n1_; have HB := n2_; clear n0_ n1_ n2_; (try (obtain ⟨hy54_, hz54_⟩ := Kd.R_celln 0 HO_13.out ((ji46) : Int) (of_decide_eq_true (by first | (with_reducible assumption) | assumption)) (of_decide_eq_true (by first | (with_reducible assumption) | assumption)))); (try (have HP54 := Kd.R_putg HO_13.out ((ji46) : Int) ji49)))); refine store_event (t := 3) (p := 127) (v := ?vo_w55) (w1 := (w53.setCell ⟨go42, ((ji46) : Int).toNat, none⟩ (.int .i64 ji49))) ?hg ?ho ?hn ?hr ?_; (case ho => rfl); (case hg => rfl); (case hn => rfl); (case hr => first | (go_simp; done) | (go_simp; rfl)); intro w55 hw; have hg : w53.grownBy w55 (some go42) := (by rw [hw]; exact HP54.2); have hp_ : Kd.R (Kd.int .i64) 3 w55 w.heap.size (fun k_ => some k_ ≠ (.slice (some ad159) x11_2.length co26 : Value).ownBlock) (.slice (some ⟨go42, 0, none⟩) x13_4.length co51) y168 := (by rw [hw, Ny168.out]; exact HP54.1); clear HP54; have n0_ := Aside0.mk (hp_); have n1_ := Aside0.mk (Kd.R_after (v := (.slice (some ⟨go42, 0, none⟩) x13_4.length co51)) (v1 := (.slice (some ⟨go42, 0, none⟩) x13_4.length co51)) (ok := (fun _ => True)) (by (with_reducible repeat (first | apply Kd.R_alloc | apply Kd.R_drewN | apply Kd.R_drew)); exact HO_54.out) hg (.inl rfl)); have n2_ := Aside0.mk ((by rw [hw]; exact below_set (HB.out) GB42.out : Below w.heap.size w w55)); clear HO_13; clear HO_54; clear HB; have HO_13 := n0_; have HO_54 := n1_; have HB := n2_; clear n0_ n1_ n2_; clear hg hw hp_)); try go_wp2_with (first | ((with_reducible refine gate_store (t := 3) (p := 97) rfl ?_); (try (rw [drewN_self wr]; generalize hq_ : World.drewN wr _ = wr; have n0_ := Aside0.mk (Kd.R_at hq_ HO_13.out); have n1_ := Aside0.mk (Kd.R_at hq_ HO_54.out); have n2_ := Aside0.mk (below_at hq_ HB.out); clear hq_ HO_13 HO_54 HB; have HO_13 := n0_; have HO_54 := n1_; have HB := n2_; clear n0_ n1_ n2_; (try (have HP52 := Kd.R_putg HO_13.out ((ji38) : Int) ji41)))); refine store_event (t := 3) (p := 97) (v := ?vo_w53) (w1 := (wr.setCell ⟨go42, ((ji38) : Int).toNat, none⟩ (.int .i64 ji41))) ?hg ?ho ?hn ?hr ?_; (case ho => rfl); (case hg => rfl); (case hn => rfl); (case hr => first | (go_simp; done) | (go_simp; rfl)); intro w53 hw; have hg : wr.grownBy w53 (some go42) := (by rw [hw]; exact HP52.2); have hp_ : Kd.R (Kd.int .i64) 3 w53 w.heap.size (fun k_ => some k_ ≠ (.slice (some ad159) x11_2.length co26 : Value).ownBlock) (.slice (some ⟨go42, 0, none⟩) x13_4.length co51) y166 := (by rw [hw, Ny166.out]; exact HP52.1); clear HP52; have n0_ := Aside0.mk (hp_); have n1_ := Aside0.mk (Kd.R_after (v := (.slice (some ⟨go42, 0, none⟩) x13_4.length co51)) (v1 := (.slice (some ⟨go42, 0, none⟩) x13_4.length co51)) (ok := (fun _ => True)) (by (with_reducible repeat (first | apply Kd.R_alloc | apply Kd.R_drewN | apply Kd.R_drew)); exact Kd.R_mono HO_54.out (fun _ hk => ⟨trivial, hk⟩)) hg (.inl rfl)); have n2_ := Aside0.mk ((by rw [hw]; exact below_set (HB.out) GB42.out : Below w.heap.size w w53)); clear HO_13; clear HO_54; clear HB; have HO_13 := n0_; have HO_54 := n1_; have HB := n2_; clear n0_ n1_ n2_; clear hg hw hp_; have p167 : 0 ≤ ((ji46) : Int) := of_decide_eq_true (by first | (with_reducible assumption) | assumption); have q167 : (ji46) < (y166.length : Int) := (by have h_ : ((ji46) : Int) < ((x13_4.length : Int) : Int) := of_decide_eq_true (by first | (with_reducible assumption) | assumption); first | (have e_ := (Kd.R_reads' HO_13.out).1; omega) | simpa only [Ny166.out, List.length_set] using h_); have ql167 : (((ji46) : Int) < ((x13_4.length : Int) : Int)) = True := eq_true (of_decide_eq_true (by first | (with_reducible assumption) | assumption)); obtain ⟨ad167, e167, hx167_0⟩ := Kd.at_int (Kd.R_reads' HO_13.out).2.2 (ji46) p167 q167; obtain rfl : (⟨go42, 0, none⟩ : Addr) = ad167 := (by injection e167); (first | simp only [add_plain] at hx167_0 | simp only [add_at] at hx167_0 | simp only [Addr.add, Nat.zero_add] at hx167_0 | skip); replace p167 := eq_true p167; replace q167 := eq_true q167; have p50 : 0 ≤ ((ji46) : Int) := of_decide_eq_true (by first | (with_reducible assumption) | assumption); have q50 : ((ji46) : Int) < ((x13_4.length : Int) : Int) := of_decide_eq_true (by first | (with_reducible assumption) | assumption); obtain ⟨hx50_0, hf50_0⟩ := Kd.R_celln 0 HO_13.out ((ji46) : Int) p50 q50; replace p50 := eq_true p50; replace q50 := eq_true q50; obtain ⟨hy54_, hz54_⟩ := Kd.R_celln 0 HO_13.out ((ji46) : Int) (of_decide_eq_true (by first | (with_reducible assumption) | assumption)) (of_decide_eq_true (by first | (with_reducible assumption) | assumption)); have HP54 := Kd.R_putg HO_13.out ((ji46) : Int) ji49) | ((with_reducible refine gate_store (t := 3) (p := 127) rfl ?_); (try (rw [drewN_self w53]; generalize hq_ : World.drewN w53 _ = w53; have n0_ := Aside0.mk (Kd.R_at hq_ HO_13.out); have n1_ := Aside0.mk (Kd.R_at hq_ HO_54.out); have n2_ := Aside0.mk (below_at hq_ HB.out); clear hq_ HO_13 HO_54 HB; have HO_13 := n0_; have HO_54 := n1_; have HB := n2_; clear n0_ n1_ n2_; (try (obtain ⟨hy54_, hz54_⟩ := Kd.R_celln 0 HO_13.out ((ji46) : Int) (of_decide_eq_true (by first | (with_reducible assumption) | assumption)) (of_decide_eq_true (by first | (with_reducible assumption) | assumption)))); (try (have HP54 := Kd.R_putg HO_13.out ((ji46) : Int) ji49)))); refine store_event (t := 3) (p := 127) (v := ?vo_w55) (w1 := (w53.setCell ⟨go42, ((ji46) : Int).toNat, none⟩ (.int .i64 ji49))) ?hg ?ho ?hn ?hr ?_; (case ho => rfl); (case hg => rfl); (case hn => rfl); (case hr => first | (go_simp; done) | (go_simp; rfl)); intro w55 hw; have hg : w53.grownBy w55 (some go42) := (by rw [hw]; exact HP54.2); have hp_ : Kd.R (Kd.int .i64) 3 w55 w.heap.size (fun k_ => some k_ ≠ (.slice (some ad159) x11_2.length co26 : Value).ownBlock) (.slice (some ⟨go42, 0, none⟩) x13_4.length co51) y168 := (by rw [hw, Ny168.out]; exact HP54.1); clear HP54; have n0_ := Aside0.mk (hp_); have n1_ := Aside0.mk (Kd.R_after (v := (.slice (some ⟨go42, 0, none⟩) x13_4.length co51)) (v1 := (.slice (some ⟨go42, 0, none⟩) x13_4.length co51)) (ok := (fun _ => True)) (by (with_reducible repeat (first | apply Kd.R_alloc | apply Kd.R_drewN | apply Kd.R_drew)); exact HO_54.out) hg (.inl rfl)); have n2_ := Aside0.mk ((by rw [hw]; exact below_set (HB.out) GB42.out : Below w.heap.size w w55)); clear HO_13; clear HO_54; clear HB; have HO_13 := n0_; have HO_54 := n1_; have HB := n2_; clear n0_ n1_ n2_; clear hg hw hp_)))
                                                                    go_roundg k4
                                                                    case measure => have := HJ4.out; have := HK2.out; have := HK3.out; have := HK4.out; omega
                                                                    case rel => exact ⟨(y168), (wrap64 (x71_4 + 1)), (by first | rfl | (simp; done) | (simp [*]; done)), H', ⟨by have := HJ4.out; have := HK2.out; have := HK3.out; have := HK4.out; omega⟩, ⟨by (with_reducible repeat (first | apply Kd.R_alloc | apply Kd.R_drewN | apply Kd.R_drew)); exact HO_13.out⟩, ⟨by (with_reducible repeat (first | apply Kd.R_alloc | apply Kd.R_drewN | apply Kd.R_drew)); exact Kd.R_mono HO_54.out (fun _ hk => hk.2)⟩, ⟨by repeat (first | (with_reducible first | exact HB.out | apply below_alloc | apply pw_below_drewN | apply below_drew1) | exact HB.out)⟩⟩
                                                                  · rw [if_neg c48] at H
                                                                    exact absurd H (by simp)
                                                                · rw [if_neg c47] at H
                                                                  exact absurd H (by simp)
                                                              · rw [if_neg c45] at H
                                                                have c45b0 : decide ((wrap64 ((Int.tmod x56_3 (wrap64 (a2 + 1))) + (rd l0 x71_4))) ≤ (wrap64 (Int.tdiv x56_3 (wrap64 (a2 + 1))))) = false := decide_eq_false c45
                                                                clear c45
                                                                have H' := Aside0.mk H
                                                                clear H
                                                                have p164 : 0 ≤ (x71_4 : Int) := of_decide_eq_true (by first | (with_reducible assumption) | assumption)
                                                                have q164 : x71_4 < (l0.length : Int) := of_decide_eq_true (by first | (with_reducible assumption) | assumption)
                                                                obtain ⟨ad164, e164, hx164_0⟩ := Kd.at_int HR0.out x71_4 p164 q164
                                                                cases e164
                                                                replace hx164_0 := (HB.out.cell (World.block_lt_of_cell? w _ hx164_0)).trans hx164_0
                                                                replace p164 := eq_true p164
                                                                replace q164 := eq_true q164
                                                                obtain ⟨Ao56, co56, eo56⟩ := Kd.R_slice HO_13.out
                                                                subst eo56
                                                                have p165 : 0 ≤ ((ji38) : Int) := of_decide_eq_true (by first | (with_reducible assumption) | assumption)
                                                                have q165 : (ji38) < (x13_4.length : Int) := of_decide_eq_true (by first | (with_reducible assumption) | assumption)
                                                                obtain ⟨ad165, e165, hx165_0⟩ := Kd.at_int (Kd.R_reads' HO_13.out).2.2 (ji38) p165 q165
                                                                cases e165
                                                                replace p165 := eq_true p165
                                                                replace q165 := eq_true q165
                                                                have p42 : 0 ≤ ((ji38) : Int) := of_decide_eq_true (by first | (with_reducible assumption) | assumption)
                                                                have q42 : ((ji38) : Int) < ((x13_4.length : Int) : Int) := of_decide_eq_true (by first | (with_reducible assumption) | assumption)
                                                                obtain ⟨go42, co42, eo42, gb42, gl42, cl42, HG42⟩ := Kd.R_form HO_13.out (by omega)
                                                                (first | cases eo42 | (injection eo42 with ea_ en_ ec_; (first | subst ea_ | (injection ea_ with ea_; subst ea_)); subst ec_; clear en_))
                                                                have GB42 := Aside0.mk gb42
                                                                have GG42 := Aside0.mk HG42
                                                                clear gb42 gl42 HG42
                                                                (first | simp only [add_plain] at hx165_0 | skip)
                                                                obtain ⟨hx42_0, hf42_0⟩ := Kd.R_celln 0 HO_13.out ((ji38) : Int) p42 q42
                                                                replace p42 := eq_true p42
                                                                replace q42 := eq_true q42
                                                                have HP57 := Kd.R_putg HO_13.out ((ji38) : Int) ji41
                                                                go_wp2_with (first | ((with_reducible refine gate_store (t := 3) (p := 97) rfl ?_); (try (rw [drewN_self wr]; generalize hq_ : World.drewN wr _ = wr; have n0_ := Aside0.mk (Kd.R_at hq_ HO_13.out); have n1_ := Aside0.mk (Kd.R_at hq_ HO_54.out); have n2_ := Aside0.mk (below_at hq_ HB.out); clear hq_ HO_13 HO_54 HB; have HO_13 := n0_; have HO_54 := n1_; have HB := n2_; clear n0_ n1_ n2_; (try (have HP57 := Kd.R_putg HO_13.out ((ji38) : Int) ji41)))); refine store_event (t := 3) (p := 97) (v := ?vo_w58) (w1 := (wr.setCell ⟨go42, ((ji38) : Int).toNat, none⟩ (.int .i64 ji41))) ?hg ?ho ?hn ?hr ?_; (case ho => rfl); (case hg => rfl); (case hn => rfl); (case hr => first | (go_simp; done) | (go_simp; rfl)); intro w58 hw; have hg : wr.grownBy w58 (some go42) := (by rw [hw]; exact HP57.2); have hp_ : Kd.R (Kd.int .i64) 3 w58 w.heap.size (fun k_ => some k_ ≠ (.slice (some ad159) x11_2.length co26 : Value).ownBlock) (.slice (some ⟨go42, 0, none⟩) x13_4.length co56) y166 := (by rw [hw, Ny166.out]; exact HP57.1); clear HP57; have n0_ := Aside0.mk (hp_); have n1_ := Aside0.mk (Kd.R_after (v := (.slice (some ⟨go42, 0, none⟩) x13_4.length co56)) (v1 := (.slice (some ⟨go42, 0, none⟩) x13_4.length co56)) (ok := (fun _ => True)) (by (with_reducible repeat (first | apply Kd.R_alloc | apply Kd.R_drewN | apply Kd.R_drew)); exact Kd.R_mono HO_54.out (fun _ hk => ⟨trivial, hk⟩)) hg (.inl rfl)); have n2_ := Aside0.mk ((by rw [hw]; exact below_set (HB.out) GB42.out : Below w.heap.size w w58)); clear HO_13; clear HO_54; clear HB; have HO_13 := n0_; have HO_54 := n1_; have HB := n2_; clear n0_ n1_ n2_; clear hg hw hp_))
                                                                repeat (go_quiet (first | ((with_reducible refine gate_store (t := 3) (p := 97) rfl ?_); (try (rw [drewN_self wr]; generalize hq_ : World.drewN wr _ = wr; have n0_ := Aside0.mk (Kd.R_at hq_ HO_13.out); have n1_ := Aside0.mk (Kd.R_at hq_ HO_54.out); have n2_ := Aside0.mk (below_at hq_ HB.out); clear hq_ HO_13 HO_54 HB; have HO_13 := n0_; have HO_54 := n1_; have HB := n2_; clear n0_ n1_ n2_; (try (have HP57 := Kd.R_putg HO_13.out ((ji38) : Int) ji41)))); refine store_event (t := 3) (p := 97) (v := ?vo_w58) (w1 := (wr.setCell ⟨go42, ((ji38) : Int).toNat, none⟩ (.int .i64 ji41))) ?hg ?ho ?hn ?hr ?_; (case ho => rfl); (case hg => rfl); (case hn => rfl); (case hr => first | (go_simp; done) | (go_simp; rfl)); intro w58 hw; have hg : wr.grownBy w58 (some go42) := (by rw [hw]; exact HP57.2); have hp_ : Kd.R (Kd.int .i64) 3 w58 w.heap.size (fun k_ => some k_ ≠ (.slice (some ad159) x11_2.length co26 : Value).ownBlock) (.slice (some ⟨go42, 0, none⟩) x13_4.length co56) y166 := (by rw [hw, Ny166.out]; exact HP57.1); clear HP57; have n0_ := Aside0.mk (hp_); have n1_ := Aside0.mk (Kd.R_after (v := (.slice (some ⟨go42, 0, none⟩) x13_4.length co56)) (v1 := (.slice (some ⟨go42, 0, none⟩) x13_4.length co56)) (ok := (fun _ => True)) (by (with_reducible repeat (first | apply Kd.R_alloc | apply Kd.R_drewN | apply Kd.R_drew)); exact Kd.R_mono HO_54.out (fun _ hk => ⟨trivial, hk⟩)) hg (.inl rfl)); have n2_ := Aside0.mk ((by rw [hw]; exact below_set (HB.out) GB42.out : Below w.heap.size w w58)); clear HO_13; clear HO_54; clear HB; have HO_13 := n0_; have HO_54 := n1_; have HB := n2_; clear n0_ n1_ n2_; clear hg hw hp_)); try go_wp2_with (first | ((with_reducible refine gate_store (t := 3) (p := 97) rfl ?_); (try (rw [drewN_self wr]; generalize hq_ : World.drewN wr _ = wr; have n0_ := Aside0.mk (Kd.R_at hq_ HO_13.out); have n1_ := Aside0.mk (Kd.R_at hq_ HO_54.out); have n2_ := Aside0.mk (below_at hq_ HB.out); clear hq_ HO_13 HO_54 HB; have HO_13 := n0_; have HO_54 := n1_; have HB := n2_; clear n0_ n1_ n2_; (try (have HP57 := Kd.R_putg HO_13.out ((ji38) : Int) ji41)))); refine store_event (t := 3) (p := 97) (v := ?vo_w58) (w1 := (wr.setCell ⟨go42, ((ji38) : Int).toNat, none⟩ (.int .i64 ji41))) ?hg ?ho ?hn ?hr ?_; (case ho => rfl); (case hg => rfl); (case hn => rfl); (case hr => first | (go_simp; done) | (go_simp; rfl)); intro w58 hw; have hg : wr.grownBy w58 (some go42) := (by rw [hw]; exact HP57.2); have hp_ : Kd.R (Kd.int .i64) 3 w58 w.heap.size (fun k_ => some k_ ≠ (.slice (some ad159) x11_2.length co26 : Value).ownBlock) (.slice (some ⟨go42, 0, none⟩) x13_4.length co56) y166 := (by rw [hw, Ny166.out]; exact HP57.1); clear HP57; have n0_ := Aside0.mk (hp_); have n1_ := Aside0.mk (Kd.R_after (v := (.slice (some ⟨go42, 0, none⟩) x13_4.length co56)) (v1 := (.slice (some ⟨go42, 0, none⟩) x13_4.length co56)) (ok := (fun _ => True)) (by (with_reducible repeat (first | apply Kd.R_alloc | apply Kd.R_drewN | apply Kd.R_drew)); exact Kd.R_mono HO_54.out (fun _ hk => ⟨trivial, hk⟩)) hg (.inl rfl)); have n2_ := Aside0.mk ((by rw [hw]; exact below_set (HB.out) GB42.out : Below w.heap.size w w58)); clear HO_13; clear HO_54; clear HB; have HO_13 := n0_; have HO_54 := n1_; have HB := n2_; clear n0_ n1_ n2_; clear hg hw hp_)))
                                                                go_roundg k4
                                                                case measure => have := HJ4.out; have := HK2.out; have := HK3.out; have := HK4.out; omega
                                                                case rel => exact ⟨(y166), (wrap64 (x71_4 + 1)), (by first | rfl | (simp; done) | (simp [*]; done)), H', ⟨by have := HJ4.out; have := HK2.out; have := HK3.out; have := HK4.out; omega⟩, ⟨by (with_reducible repeat (first | apply Kd.R_alloc | apply Kd.R_drewN | apply Kd.R_drew)); exact HO_13.out⟩, ⟨by (with_reducible repeat (first | apply Kd.R_alloc | apply Kd.R_drewN | apply Kd.R_drew)); exact Kd.R_mono HO_54.out (fun _ hk => hk.2)⟩, ⟨by repeat (first | (with_reducible first | exact HB.out | apply below_alloc | apply pw_below_drewN | apply below_drew1) | exact HB.out)⟩⟩
                                                            · replace c44 := Bool.eq_false_iff.mpr c44
                                                              subst c44
                                                              have H1 : (if 0 ≤ (wrap64 (x56_3 + (rd l0 x71_4))) then (if (wrap64 (x56_3 + (rd l0 x71_4))) < (x13_4.length : Int) then (impl_countGames.l2 k4 l0 a1 a2 false (wrap64 (a2 + 1)) ji23 (y166.set ((wrap64 (x56_3 + (rd l0 x71_4))) : Int).toNat (mn (wrap64 ((rd y166 (wrap64 (x56_3 + (rd l0 x71_4)))) + (rd x11_2 x56_3))) 1000000000000001)) x56_3 (rd x11_2 x56_3) (wrap64 (Int.tdiv x56_3 (wrap64 (a2 + 1)))) (Int.tmod x56_3 (wrap64 (a2 + 1))) x38_2 x11_2 (x11_2.length : Int) x56_3 l0 (l0.length : Int) (wrap64 (x71_4 + 1))) else (none)) else (none)) = some (r1, r2) := by rw [if_neg (show ¬ (false = true) by decide)] at H; exact H
                                                              clear H
                                                              have H := H1
                                                              clear H1
                                                              obtain ⟨ji59, hji59⟩ : ∃ j_ : Int, (wrap64 (x56_3 + (rd l0 x71_4))) = j_ := ⟨_, rfl⟩
                                                              replace H : (if 0 ≤ (ji59) then (if (ji59) < (x13_4.length : Int) then (impl_countGames.l2 k4 l0 a1 a2 false (wrap64 (a2 + 1)) ji23 (y166.set ((ji59) : Int).toNat (mn (wrap64 ((rd y166 (ji59)) + (rd x11_2 x56_3))) 1000000000000001)) x56_3 (rd x11_2 x56_3) (wrap64 (Int.tdiv x56_3 (wrap64 (a2 + 1)))) (Int.tmod x56_3 (wrap64 (a2 + 1))) x38_2 x11_2 (x11_2.length : Int) x56_3 l0 (l0.length : Int) (wrap64 (x71_4 + 1))) else (none)) else (none)) = some (r1, r2) := by first | (rw [hji59] at H; exact H) | (simp only [hji59] at H ⊢; exact H)
                                                              have hji59w : (IntKind.i64.wrap (x56_3 + (rd l0 x71_4))) = ji59 := (i64_w _).trans hji59
                                                              by_cases c60 : 0 ≤ (ji59)
                                                              · rw [if_pos c60] at H
                                                                have c60b0 : decide (0 ≤ (ji59)) = true := decide_eq_true c60
                                                                clear c60
                                                                by_cases c61 : (ji59) < (x13_4.length : Int)
                                                                · rw [if_pos c61] at H
                                                                  have c61b0 : decide ((ji59) < (x13_4.length : Int)) = true := decide_eq_true c61
                                                                  clear c61
                                                                  obtain ⟨ji62, hji62⟩ : ∃ j_ : Int, (mn (wrap64 ((rd y166 (ji59)) + (rd x11_2 x56_3))) 1000000000000001) = j_ := ⟨_, rfl⟩
                                                                  replace H : (impl_countGames.l2 k4 l0 a1 a2 false (wrap64 (a2 + 1)) ji23 (y166.set ((ji59) : Int).toNat (ji62)) x56_3 (rd x11_2 x56_3) (wrap64 (Int.tdiv x56_3 (wrap64 (a2 + 1)))) (Int.tmod x56_3 (wrap64 (a2 + 1))) x38_2 x11_2 (x11_2.length : Int) x56_3 l0 (l0.length : Int) (wrap64 (x71_4 + 1))) = some (r1, r2) := by first | (rw [hji62] at H; exact H) | (simp only [hji62] at H ⊢; exact H)
                                                                  have hji62_ : (if 1000000000000001 < (wrap64 ((rd y166 (ji59)) + (rd x11_2 x56_3))) then 1000000000000001 else (wrap64 ((rd y166 (ji59)) + (rd x11_2 x56_3)))) = ji62 := hji62
                                                                  obtain ⟨y170, hy170⟩ : ∃ y_ : List Int, y_ = (y166.set ((ji59) : Int).toNat (ji62)) := ⟨_, rfl⟩
                                                                  replace H : (impl_countGames.l2 k4 l0 a1 a2 false (wrap64 (a2 + 1)) ji23 y170 x56_3 (rd x11_2 x56_3) (wrap64 (Int.tdiv x56_3 (wrap64 (a2 + 1)))) (Int.tmod x56_3 (wrap64 (a2 + 1))) x38_2 x11_2 (x11_2.length : Int) x56_3 l0 (l0.length : Int) (wrap64 (x71_4 + 1))) = some (r1, r2) := by first | (rw [hy170]; with_reducible exact H) | (have H2_ := (Option.bind_some _ _).symm.trans H; rw [hy170]; with_reducible exact H2_) | (have H2_ := (Option.bind_some _ _).symm.trans H; with_reducible exact H2_) | with_reducible exact H | (rw [hy170]; exact H) | exact H
                                                                  have Ny170 := Aside0.mk hy170
                                                                  clear hy170
                                                                  have H' := Aside0.mk H
                                                                  clear H
                                                                  have p164 : 0 ≤ (x71_4 : Int) := of_decide_eq_true (by first | (with_reducible assumption) | assumption)
                                                                  have q164 : x71_4 < (l0.length : Int) := of_decide_eq_true (by first | (with_reducible assumption) | assumption)
                                                                  obtain ⟨ad164, e164, hx164_0⟩ := Kd.at_int HR0.out x71_4 p164 q164
                                                                  cases e164
                                                                  replace hx164_0 := (HB.out.cell (World.block_lt_of_cell? w _ hx164_0)).trans hx164_0
                                                                  replace p164 := eq_true p164
                                                                  replace q164 := eq_true q164
                                                                  obtain ⟨Ao64, co64, eo64⟩ := Kd.R_slice HO_13.out
                                                                  subst eo64
                                                                  have p165 : 0 ≤ ((ji38) : Int) := of_decide_eq_true (by first | (with_reducible assumption) | assumption)
                                                                  have q165 : (ji38) < (x13_4.length : Int) := of_decide_eq_true (by first | (with_reducible assumption) | assumption)
                                                                  obtain ⟨ad165, e165, hx165_0⟩ := Kd.at_int (Kd.R_reads' HO_13.out).2.2 (ji38) p165 q165
                                                                  cases e165
                                                                  replace p165 := eq_true p165
                                                                  replace q165 := eq_true q165
                                                                  have p42 : 0 ≤ ((ji38) : Int) := of_decide_eq_true (by first | (with_reducible assumption) | assumption)
                                                                  have q42 : ((ji38) : Int) < ((x13_4.length : Int) : Int) := of_decide_eq_true (by first | (with_reducible assumption) | assumption)
                                                                  obtain ⟨go42, co42, eo42, gb42, gl42, cl42, HG42⟩ := Kd.R_form HO_13.out (by omega)
                                                                  (first | cases eo42 | (injection eo42 with ea_ en_ ec_; (first | subst ea_ | (injection ea_ with ea_; subst ea_)); subst ec_; clear en_))
                                                                  have GB42 := Aside0.mk gb42
                                                                  have GG42 := Aside0.mk HG42
                                                                  clear gb42 gl42 HG42
                                                                  (first | simp only [add_plain] at hx165_0 | skip)
                                                                  obtain ⟨hx42_0, hf42_0⟩ := Kd.R_celln 0 HO_13.out ((ji38) : Int) p42 q42
                                                                  replace p42 := eq_true p42
                                                                  replace q42 := eq_true q42
                                                                  have HP65 := Kd.R_putg HO_13.out ((ji38) : Int) ji41
                                                                  go_wp2_with (first | ((with_reducible refine gate_store (t := 3) (p := 97) rfl ?_); (try (rw [drewN_self wr]; generalize hq_ : World.drewN wr _ = wr; have n0_ := Aside0.mk (Kd.R_at hq_ HO_13.out); have n1_ := Aside0.mk (Kd.R_at hq_ HO_54.out); have n2_ := Aside0.mk (below_at hq_ HB.out); clear hq_ HO_13 HO_54 HB; have HO_13 := n0_; have HO_54 := n1_; have HB := n2_; clear n0_ n1_ n2_; (try (have HP65 := Kd.R_putg HO_13.out ((ji38) : Int) ji41)))); refine store_event (t := 3) (p := 97) (v := ?vo_w66) (w1 := (wr.setCell ⟨go42, ((ji38) : Int).toNat, none⟩ (.int .i64 ji41))) ?hg ?ho ?hn ?hr ?_; (case ho => rfl); (case hg => rfl); (case hn => rfl); (case hr => first | (go_simp; done) | (go_simp; rfl)); intro w66 hw; have hg : wr.grownBy w66 (some go42) := (by rw [hw]; exact HP65.2); have hp_ : Kd.R (Kd.int .i64) 3 w66 w.heap.size (fun k_ => some k_ ≠ (.slice (some ad159) x11_2.length co26 : Value).ownBlock) (.slice (some ⟨go42, 0, none⟩) x13_4.length co64) y166 := (by rw [hw, Ny166.out]; exact HP65.1); clear HP65; have n0_ := Aside0.mk (hp_); have n1_ := Aside0.mk (Kd.R_after (v := (.slice (some ⟨go42, 0, none⟩) x13_4.length co64)) (v1 := (.slice (some ⟨go42, 0, none⟩) x13_4.length co64)) (ok := (fun _ => True)) (by (with_reducible repeat (first | apply Kd.R_alloc | apply Kd.R_drewN | apply Kd.R_drew)); exact Kd.R_mono HO_54.out (fun _ hk => ⟨trivial, hk⟩)) hg (.inl rfl)); have n2_ := Aside0.mk ((by rw [hw]; exact below_set (HB.out) GB42.out : Below w.heap.size w w66)); clear HO_13; clear HO_54; clear HB; have HO_13 := n0_; have HO_54 := n1_; have HB := n2_; clear n0_ n1_ n2_; clear hg hw hp_; have p169 : 0 ≤ ((ji59) : Int) := of_decide_eq_true (by first | (with_reducible assumption) | assumption); have q169 : (ji59) < (y166.length : Int) := (by have h_ : ((ji59) : Int) < ((x13_4.length : Int) : Int) := of_decide_eq_true (by first | (with_reducible assumption) | assumption); first | (have e_ := (Kd.R_reads' HO_13.out).1; omega) | simpa only [Ny166.out, List.length_set] using h_); have ql169 : (((ji59) : Int) < ((x13_4.length : Int) : Int)) = True := eq_true (of_decide_eq_true (by first | (with_reducible assumption) | assumption)); obtain ⟨ad169, e169, hx169_0⟩ := Kd.at_int (Kd.R_reads' HO_13.out).2.2 (ji59) p169 q169; obtain rfl : (⟨go42, 0, none⟩ : Addr) = ad169 := (by injection e169); (first | simp only [add_plain] at hx169_0 | simp only [add_at] at hx169_0 | simp only [Addr.add, Nat.zero_add] at hx169_0 | skip); replace p169 := eq_true p169; replace q169 := eq_true q169; have p63 : 0 ≤ ((ji59) : Int) := of_decide_eq_true (by first | (with_reducible assumption) | assumption); have q63 : ((ji59) : Int) < ((x13_4.length : Int) : Int) := of_decide_eq_true (by first | (with_reducible assumption) | assumption); obtain ⟨hx63_0, hf63_0⟩ := Kd.R_celln 0 HO_13.out ((ji59) : Int) p63 q63; replace p63 := eq_true p63; replace q63 := eq_true q63; obtain ⟨hy67_, hz67_⟩ := Kd.R_celln 0 HO_13.out ((ji59) : Int) (of_decide_eq_true (by first | (with_reducible assumption) | assumption)) (of_decide_eq_true (by first | (with_reducible assumption) | assumption)); have HP67 := Kd.R_putg HO_13.out ((ji59) : Int) ji62) | ((with_reducible refine gate_store (t := 3) (p := 127) rfl ?_); (try (rw [drewN_self w66]; generalize hq_ : World.drewN w66 _ = w66; have n0_ := Aside0.mk (Kd.R_at hq_ HO_13.out); have n1_ := Aside0.mk (Kd.R_at hq_ HO_54.out); have n2_ := Aside0.mk (below_at hq_ HB.out); clear hq_ HO_13 HO_54 HB; have HO_13 := n0_; have HO_54 := n1_; have HB := n2_; clear n0_ n1_ n2_; (try (obtain ⟨hy67_, hz67_⟩ := Kd.R_celln 0 HO_13.out ((ji59) : Int) (of_decide_eq_true (by first | (with_reducible assumption) | assumption)) (of_decide_eq_true (by first | (with_reducible assumption) | assumption)))); (try (have HP67 := Kd.R_putg HO_13.out ((ji59) : Int) ji62)))); refine store_event (t := 3) (p := 127) (v := ?vo_w68) (w1 := (w66.setCell ⟨go42, ((ji59) : Int).toNat, none⟩ (.int .i64 ji62))) ?hg ?ho ?hn ?hr ?_; (case ho => rfl); (case hg => rfl); (case hn => rfl); (case hr => first | (go_simp; done) | (go_simp; rfl)); intro w68 hw; have hg : w66.grownBy w68 (some go42) := (by rw [hw]; exact HP67.2); have hp_ : Kd.R (Kd.int .i64) 3 w68 w.heap.size (fun k_ => some k_ ≠ (.slice (some ad159) x11_2.length co26 : Value).ownBlock) (.slice (some ⟨go42, 0, none⟩) x13_4.length co64) y170 := (by rw [hw, Ny170.out]; exact HP67.1); clear HP67; have n0_ := Aside0.mk (hp_); have n1_ := Aside0.mk (Kd.R_after (v := (.slice (some ⟨go42, 0, none⟩) x13_4.length co64)) (v1 := (.slice (some ⟨go42, 0, none⟩) x13_4.length co64)) (ok := (fun _ => True)) (by (with_reducible repeat (first | apply Kd.R_alloc | apply Kd.R_drewN | apply Kd.R_drew)); exact HO_54.out) hg (.inl rfl)); have n2_ := Aside0.mk ((by rw [hw]; exact below_set (HB.out) GB42.out : Below w.heap.size w w68)); clear HO_13; clear HO_54; clear HB; have HO_13 := n0_; have HO_54 := n1_; have HB := n2_; clear n0_ n1_ n2_; clear hg hw hp_))
                                                                  repeat (go_quiet (first | ((with_reducible refine gate_store (t := 3) (p := 97) rfl ?_); (try (rw [drewN_self wr]; generalize hq_ : World.drewN wr _ = wr; have n0_ := Aside0.mk (Kd.R_at hq_ HO_13.out); have n1_ := Aside0.mk (Kd.R_at hq_ HO_54.out); have n2_ := Aside0.mk (below_at hq_ HB.out); clear hq_ HO_13 HO_54 HB; have HO_13 := n0_; have HO_54 := n1_; have HB := n2_; clear n0_ n1_ n2_; (try (have HP65 := Kd.R_putg HO_13.out ((ji38) : Int) ji41)))); refine store_event (t := 3) (p := 97) (v := ?vo_w66) (w1 := (wr.setCell ⟨go42, ((ji38) : Int).toNat, none⟩ (.int .i64 ji41))) ?hg ?ho ?hn ?hr ?_; (case ho => rfl); (case hg => rfl); (case hn => rfl); (case hr => first | (go_simp; done) | (go_simp; rfl)); intro w66 hw; have hg : wr.grownBy w66 (some go42) := (by rw [hw]; exact HP65.2); have hp_ : Kd.R (Kd.int .i64) 3 w66 w.heap.size (fun k_ => some k_ ≠ (.slice (some ad159) x11_2.length co26 : Value).ownBlock) (.slice (some ⟨go42, 0, none⟩) x13_4.length co64) y166 := (by rw [hw, Ny166.out]; exact HP65.1); clear HP65; have n0_ := Aside0.mk (hp_); have n1_ := Aside0.mk (Kd.R_after (v := (.slice (some ⟨go42, 0, none⟩) x13_4.length co64)) (v1 := (.slice (some ⟨go42, 0, none⟩) x13_4.length co64)) (ok := (fun _ => True)) (by (with_reducible repeat (first | apply Kd.R_alloc | apply Kd.R_drewN | apply Kd.R_drew)); exact Kd.R_mono HO_54.out (fun _ hk => ⟨trivial, hk⟩)) hg (.inl rfl)); have n2_ := Aside0.mk ((by rw [hw]; exact below_set (HB.out) GB42.out : Below w.heap.size w w66)); clear HO_13; clear HO_54; clear HB; have HO_13 := n0_; have HO_54 := n1_; have HB := n2_; clear n0_ n1_ n2_; clear hg hw hp_; have p169 : 0 ≤ ((ji59) : Int) := of_decide_eq_true (by first | (with_reducible assumption) | assumption); have q169 : (ji59) < (y166.length : Int) := (by have h_ : ((ji59) : Int) < ((x13_4.length : Int) : Int) := of_decide_eq_true (by first | (with_reducible assumption) | assumption); first | (have e_ := (Kd.R_reads' HO_13.out).1; omega) | simpa only [Ny166.out, List.length_set] using h_); have ql169 : (((ji59) : Int) < ((x13_4.length : Int) : Int)) = True := eq_true (of_decide_eq_true (by first | (with_reducible assumption) | assumption)); obtain ⟨ad169, e169, hx169_0⟩ := Kd.at_int (Kd.R_reads' HO_13.out).2.2 (ji59) p169 q169; obtain rfl : (⟨go42, 0, none⟩ : Addr) = ad169 := (by injection e169); (first | simp only [add_plain] at hx169_0 | simp only [add_at] at hx169_0 | simp only [Addr.add, Nat.zero_add] at hx169_0 | skip); replace p169 := eq_true p169; replace q169 := eq_true q169; have p63 : 0 ≤ ((ji59) : Int) := of_decide_eq_true (by first | (with_reducible assumption) | assumption); have q63 : ((ji59) : Int) < ((x13_4.length : Int) : Int) := of_decide_eq_true (by first | (with_reducible assumption) | assumption); obtain ⟨hx63_0, hf63_0⟩ := Kd.R_celln 0 HO_13.out ((ji59) : Int) p63 q63; replace p63 := eq_true p63; replace q63 := eq_true q63; obtain ⟨hy67_, hz67_⟩ := Kd.R_celln 0 HO_13.out ((ji59) : Int) (of_decide_eq_true (by first | (with_reducible assumption) | assumption)) (of_decide_eq_true (by first | (with_reducible assumption) | assumption)); have HP67 := Kd.R_putg HO_13.out ((ji59) : Int) ji62) | ((with_reducible refine gate_store (t := 3) (p := 127) rfl ?_); (try (rw [drewN_self w66]; generalize hq_ : World.drewN w66 _ = w66; have n0_ := Aside0.mk (Kd.R_at hq_ HO_13.out); have n1_ := Aside0.mk (Kd.R_at hq_ HO_54.out); have n2_ := Aside0.mk (below_at hq_ HB.out); clear hq_ HO_13 HO_54 HB; have HO_13 := n0_; have HO_54 := n1_; have HB := n2_; clear n0_ n1_ n2_; (try (obtain ⟨hy67_, hz67_⟩ := Kd.R_celln 0 HO_13.out ((ji59) : Int) (of_decide_eq_true (by first | (with_reducible assumption) | assumption)) (of_decide_eq_true (by first | (with_reducible assumption) | assumption)))); (try (have HP67 := Kd.R_putg HO_13.out ((ji59) : Int) ji62)))); refine store_event (t := 3) (p := 127) (v := ?vo_w68) (w1 := (w66.setCell ⟨go42, ((ji59) : Int).toNat, none⟩ (.int .i64 ji62))) ?hg ?ho ?hn ?hr ?_; (case ho => rfl); (case hg => rfl); (case hn => rfl); (case hr => first | (go_simp; done) | (go_simp; rfl)); intro w68 hw; have hg : w66.grownBy w68 (some go42) := (by rw [hw]; exact HP67.2); have hp_ : Kd.R (Kd.int .i64) 3 w68 w.heap.size (fun k_ => some k_ ≠ (.slice (some ad159) x11_2.length co26 : Value).ownBlock) (.slice (some ⟨go42, 0, none⟩) x13_4.length co64) y170 := (by rw [hw, Ny170.out]; exact HP67.1); clear HP67; have n0_ := Aside0.mk (hp_); have n1_ := Aside0.mk (Kd.R_after (v := (.slice (some ⟨go42, 0, none⟩) x13_4.length co64)) (v1 := (.slice (some ⟨go42, 0, none⟩) x13_4.length co64)) (ok := (fun _ => True)) (by (with_reducible repeat (first | apply Kd.R_alloc | apply Kd.R_drewN | apply Kd.R_drew)); exact HO_54.out) hg (.inl rfl)); have n2_ := Aside0.mk ((by rw [hw]; exact below_set (HB.out) GB42.out : Below w.heap.size w w68)); clear HO_13; clear HO_54; clear HB; have HO_13 := n0_; have HO_54 := n1_; have HB := n2_; clear n0_ n1_ n2_; clear hg hw hp_)); try go_wp2_with (first | ((with_reducible refine gate_store (t := 3) (p := 97) rfl ?_); (try (rw [drewN_self wr]; generalize hq_ : World.drewN wr _ = wr; have n0_ := Aside0.mk (Kd.R_at hq_ HO_13.out); have n1_ := Aside0.mk (Kd.R_at hq_ HO_54.out); have n2_ := Aside0.mk (below_at hq_ HB.out); clear hq_ HO_13 HO_54 HB; have HO_13 := n0_; have HO_54 := n1_; have HB := n2_; clear n0_ n1_ n2_; (try (have HP65 := Kd.R_putg HO_13.out ((ji38) : Int) ji41)))); refine store_event (t := 3) (p := 97) (v := ?vo_w66) (w1 := (wr.setCell ⟨go42, ((ji38) : Int).toNat, none⟩ (.int .i64 ji41))) ?hg ?ho ?hn ?hr ?_; (case ho => rfl); (case hg => rfl); (case hn => rfl); (case hr => first | (go_simp; done) | (go_simp; rfl)); intro w66 hw; have hg : wr.grownBy w66 (some go42) := (by rw [hw]; exact HP65.2); have hp_ : Kd.R (Kd.int .i64) 3 w66 w.heap.size (fun k_ => some k_ ≠ (.slice (some ad159) x11_2.length co26 : Value).ownBlock) (.slice (some ⟨go42, 0, none⟩) x13_4.length co64) y166 := (by rw [hw, Ny166.out]; exact HP65.1); clear HP65; have n0_ := Aside0.mk (hp_); have n1_ := Aside0.mk (Kd.R_after (v := (.slice (some ⟨go42, 0, none⟩) x13_4.length co64)) (v1 := (.slice (some ⟨go42, 0, none⟩) x13_4.length co64)) (ok := (fun _ => True)) (by (with_reducible repeat (first | apply Kd.R_alloc | apply Kd.R_drewN | apply Kd.R_drew)); exact Kd.R_mono HO_54.out (fun _ hk => ⟨trivial, hk⟩)) hg (.inl rfl)); have n2_ := Aside0.mk ((by rw [hw]; exact below_set (HB.out) GB42.out : Below w.heap.size w w66)); clear HO_13; clear HO_54; clear HB; have HO_13 := n0_; have HO_54 := n1_; have HB := n2_; clear n0_ n1_ n2_; clear hg hw hp_; have p169 : 0 ≤ ((ji59) : Int) := of_decide_eq_true (by first | (with_reducible assumption) | assumption); have q169 : (ji59) < (y166.length : Int) := (by have h_ : ((ji59) : Int) < ((x13_4.length : Int) : Int) := of_decide_eq_true (by first | (with_reducible assumption) | assumption); first | (have e_ := (Kd.R_reads' HO_13.out).1; omega) | simpa only [Ny166.out, List.length_set] using h_); have ql169 : (((ji59) : Int) < ((x13_4.length : Int) : Int)) = True := eq_true (of_decide_eq_true (by first | (with_reducible assumption) | assumption)); obtain ⟨ad169, e169, hx169_0⟩ := Kd.at_int (Kd.R_reads' HO_13.out).2.2 (ji59) p169 q169; obtain rfl : (⟨go42, 0, none⟩ : Addr) = ad169 := (by injection e169); (first | simp only [add_plain] at hx169_0 | simp only [add_at] at hx169_0 | simp only [Addr.add, Nat.zero_add] at hx169_0 | skip); replace p169 := eq_true p169; replace q169 := eq_true q169; have p63 : 0 ≤ ((ji59) : Int) := of_decide_eq_true (by first | (with_reducible assumption) | assumption); have q63 : ((ji59) : Int) < ((x13_4.length : Int) : Int) := of_decide_eq_true (by first | (with_reducible assumption) | assumption); obtain ⟨hx63_0, hf63_0⟩ := Kd.R_celln 0 HO_13.out ((ji59) : Int) p63 q63; replace p63 := eq_true p63; replace q63 := eq_true q63; obtain ⟨hy67_, hz67_⟩ := Kd.R_celln 0 HO_13.out ((ji59) : Int) (of_decide_eq_true (by first | (with_reducible assumption) | assumption)) (of_decide_eq_true (by first | (with_reducible assumption) | assumption)); have HP67 := Kd.R_putg HO_13.out ((ji59) : Int) ji62) | ((with_reducible refine gate_store (t := 3) (p := 127) rfl ?_); (try (rw [drewN_self w66]; generalize hq_ : World.drewN w66 _ = w66; have n0_ := Aside0.mk (Kd.R_at hq_ HO_13.out); have n1_ := Aside0.mk (Kd.R_at hq_ HO_54.out); have n2_ := Aside0.mk (below_at hq_ HB.out); clear hq_ HO_13 HO_54 HB; have HO_13 := n0_; have HO_54 := n1_; have HB := n2_; clear n0_ n1_ n2_; (try (obtain ⟨hy67_, hz67_⟩ := Kd.R_celln 0 HO_13.out ((ji59) : Int) (of_decide_eq_true (by first | (with_reducible assumption) | assumption)) (of_decide_eq_true (by first | (with_reducible assumption) | assumption)))); (try (have HP67 := Kd.R_putg HO_13.out ((ji59) : Int) ji62)))); refine store_event (t := 3) (p := 127) (v := ?vo_w68) (w1 := (w66.setCell ⟨go42, ((ji59) : Int).toNat, none⟩ (.int .i64 ji62))) ?hg ?ho ?hn ?hr ?_; (case ho => rfl); (case hg => rfl); (case hn => rfl); (case hr => first | (go_simp; done) | (go_simp; rfl)); intro w68 hw; have hg : w66.grownBy w68 (some go42) := (by rw [hw]; exact HP67.2); have hp_ : Kd.R (Kd.int .i64) 3 w68 w.heap.size (fun k_ => some k_ ≠ (.slice (some ad159) x11_2.length co26 : Value).ownBlock) (.slice (some ⟨go42, 0, none⟩) x13_4.length co64) y170 := (by rw [hw, Ny170.out]; exact HP67.1); clear HP67; have n0_ := Aside0.mk (hp_); have n1_ := Aside0.mk (Kd.R_after (v := (.slice (some ⟨go42, 0, none⟩) x13_4.length co64)) (v1 := (.slice (some ⟨go42, 0, none⟩) x13_4.length co64)) (ok := (fun _ => True)) (by (with_reducible repeat (first | apply Kd.R_alloc | apply Kd.R_drewN | apply Kd.R_drew)); exact HO_54.out) hg (.inl rfl)); have n2_ := Aside0.mk ((by rw [hw]; exact below_set (HB.out) GB42.out : Below w.heap.size w w68)); clear HO_13; clear HO_54; clear HB; have HO_13 := n0_; have HO_54 := n1_; have HB := n2_; clear n0_ n1_ n2_; clear hg hw hp_)))
                                                                  go_roundg k4
                                                                  case measure => have := HJ4.out; have := HK2.out; have := HK3.out; have := HK4.out; omega
                                                                  case rel => exact ⟨(y170), (wrap64 (x71_4 + 1)), (by first | rfl | (simp; done) | (simp [*]; done)), H', ⟨by have := HJ4.out; have := HK2.out; have := HK3.out; have := HK4.out; omega⟩, ⟨by (with_reducible repeat (first | apply Kd.R_alloc | apply Kd.R_drewN | apply Kd.R_drew)); exact HO_13.out⟩, ⟨by (with_reducible repeat (first | apply Kd.R_alloc | apply Kd.R_drewN | apply Kd.R_drew)); exact Kd.R_mono HO_54.out (fun _ hk => hk.2)⟩, ⟨by repeat (first | (with_reducible first | exact HB.out | apply below_alloc | apply pw_below_drewN | apply below_drew1) | exact HB.out)⟩⟩
                                                                · rw [if_neg c61] at H
                                                                  exact absurd H (by simp)
                                                              · rw [if_neg c60] at H
                                                                exact absurd H (by simp)
                                                          · rw [if_neg c43] at H
                                                            have c43b0 : decide ((wrap64 ((Int.tmod x56_3 (wrap64 (a2 + 1))) + (rd l0 x71_4))) ≤ a2) = false := decide_eq_false c43
                                                            clear c43
                                                            have H' := Aside0.mk H
                                                            clear H
                                                            have p164 : 0 ≤ (x71_4 : Int) := of_decide_eq_true (by first | (with_reducible assumption) | assumption)
                                                            have q164 : x71_4 < (l0.length : Int) := of_decide_eq_true (by first | (with_reducible assumption) | assumption)
                                                            obtain ⟨ad164, e164, hx164_0⟩ := Kd.at_int HR0.out x71_4 p164 q164
                                                            cases e164
                                                            replace hx164_0 := (HB.out.cell (World.block_lt_of_cell? w _ hx164_0)).trans hx164_0
                                                            replace p164 := eq_true p164
                                                            replace q164 := eq_true q164
                                                            obtain ⟨Ao69, co69, eo69⟩ := Kd.R_slice HO_13.out
                                                            subst eo69
                                                            have p165 : 0 ≤ ((ji38) : Int) := of_decide_eq_true (by first | (with_reducible assumption) | assumption)
                                                            have q165 : (ji38) < (x13_4.length : Int) := of_decide_eq_true (by first | (with_reducible assumption) | assumption)
                                                            obtain ⟨ad165, e165, hx165_0⟩ := Kd.at_int (Kd.R_reads' HO_13.out).2.2 (ji38) p165 q165
                                                            cases e165
                                                            replace p165 := eq_true p165
                                                            replace q165 := eq_true q165
                                                            have p42 : 0 ≤ ((ji38) : Int) := of_decide_eq_true (by first | (with_reducible assumption) | assumption)
                                                            have q42 : ((ji38) : Int) < ((x13_4.length : Int) : Int) := of_decide_eq_true (by first | (with_reducible assumption) | assumption)
                                                            obtain ⟨go42, co42, eo42, gb42, gl42, cl42, HG42⟩ := Kd.R_form HO_13.out (by omega)
                                                            (first | cases eo42 | (injection eo42 with ea_ en_ ec_; (first | subst ea_ | (injection ea_ with ea_; subst ea_)); subst ec_; clear en_))
                                                            have GB42 := Aside0.mk gb42
                                                            have GG42 := Aside0.mk HG42
                                                            clear gb42 gl42 HG42
                                                            (first | simp only [add_plain] at hx165_0 | skip)
                                                            obtain ⟨hx42_0, hf42_0⟩ := Kd.R_celln 0 HO_13.out ((ji38) : Int) p42 q42
                                                            replace p42 := eq_true p42
                                                            replace q42 := eq_true q42
                                                            have HP70 := Kd.R_putg HO_13.out ((ji38) : Int) ji41
                                                            go_wp2_with (first | ((with_reducible refine gate_store (t := 3) (p := 97) rfl ?_); (try (rw [drewN_self wr]; generalize hq_ : World.drewN wr _ = wr; have n0_ := Aside0.mk (Kd.R_at hq_ HO_13.out); have n1_ := Aside0.mk (Kd.R_at hq_ HO_54.out); have n2_ := Aside0.mk (below_at hq_ HB.out); clear hq_ HO_13 HO_54 HB; have HO_13 := n0_; have HO_54 := n1_; have HB := n2_; clear n0_ n1_ n2_; (try (have HP70 := Kd.R_putg HO_13.out ((ji38) : Int) ji41)))); refine store_event (t := 3) (p := 97) (v := ?vo_w71) (w1 := (wr.setCell ⟨go42, ((ji38) : Int).toNat, none⟩ (.int .i64 ji41))) ?hg ?ho ?hn ?hr ?_; (case ho => rfl); (case hg => rfl); (case hn => rfl); (case hr => first | (go_simp; done) | (go_simp; rfl)); intro w71 hw; have hg : wr.grownBy w71 (some go42) := (by rw [hw]; exact HP70.2); have hp_ : Kd.R (Kd.int .i64) 3 w71 w.heap.size (fun k_ => some k_ ≠ (.slice (some ad159) x11_2.length co26 : Value).ownBlock) (.slice (some ⟨go42, 0, none⟩) x13_4.length co69) y166 := (by rw [hw, Ny166.out]; exact HP70.1); clear HP70; have n0_ := Aside0.mk (hp_); have n1_ := Aside0.mk (Kd.R_after (v := (.slice (some ⟨go42, 0, none⟩) x13_4.length co69)) (v1 := (.slice (some ⟨go42, 0, none⟩) x13_4.length co69)) (ok := (fun _ => True)) (by (with_reducible repeat (first | apply Kd.R_alloc | apply Kd.R_drewN | apply Kd.R_drew)); exact Kd.R_mono HO_54.out (fun _ hk => ⟨trivial, hk⟩)) hg (.inl rfl)); have n2_ := Aside0.mk ((by rw [hw]; exact below_set (HB.out) GB42.out : Below w.heap.size w w71)); clear HO_13; clear HO_54; clear HB; have HO_13 := n0_; have HO_54 := n1_; have HB := n2_; clear n0_ n1_ n2_; clear hg hw hp_))
                                                            repeat (go_quiet (first | ((with_reducible refine gate_store (t := 3) (p := 97) rfl ?_); (try (rw [drewN_self wr]; generalize hq_ : World.drewN wr _ = wr; have n0_ := Aside0.mk (Kd.R_at hq_ HO_13.out); have n1_ := Aside0.mk (Kd.R_at hq_ HO_54.out); have n2_ := Aside0.mk (below_at hq_ HB.out); clear hq_ HO_13 HO_54 HB; have HO_13 := n0_; have HO_54 := n1_; have HB := n2_; clear n0_ n1_ n2_; (try (have HP70 := Kd.R_putg HO_13.out ((ji38) : Int) ji41)))); refine store_event (t := 3) (p := 97) (v := ?vo_w71) (w1 := (wr.setCell ⟨go42, ((ji38) : Int).toNat, none⟩ (.int .i64 ji41))) ?hg ?ho ?hn ?hr ?_; (case ho => rfl); (case hg => rfl); (case hn => rfl); (case hr => first | (go_simp; done) | (go_simp; rfl)); intro w71 hw; have hg : wr.grownBy w71 (some go42) := (by rw [hw]; exact HP70.2); have hp_ : Kd.R (Kd.int .i64) 3 w71 w.heap.size (fun k_ => some k_ ≠ (.slice (some ad159) x11_2.length co26 : Value).ownBlock) (.slice (some ⟨go42, 0, none⟩) x13_4.length co69) y166 := (by rw [hw, Ny166.out]; exact HP70.1); clear HP70; have n0_ := Aside0.mk (hp_); have n1_ := Aside0.mk (Kd.R_after (v := (.slice (some ⟨go42, 0, none⟩) x13_4.length co69)) (v1 := (.slice (some ⟨go42, 0, none⟩) x13_4.length co69)) (ok := (fun _ => True)) (by (with_reducible repeat (first | apply Kd.R_alloc | apply Kd.R_drewN | apply Kd.R_drew)); exact Kd.R_mono HO_54.out (fun _ hk => ⟨trivial, hk⟩)) hg (.inl rfl)); have n2_ := Aside0.mk ((by rw [hw]; exact below_set (HB.out) GB42.out : Below w.heap.size w w71)); clear HO_13; clear HO_54; clear HB; have HO_13 := n0_; have HO_54 := n1_; have HB := n2_; clear n0_ n1_ n2_; clear hg hw hp_)); try go_wp2_with (first | ((with_reducible refine gate_store (t := 3) (p := 97) rfl ?_); (try (rw [drewN_self wr]; generalize hq_ : World.drewN wr _ = wr; have n0_ := Aside0.mk (Kd.R_at hq_ HO_13.out); have n1_ := Aside0.mk (Kd.R_at hq_ HO_54.out); have n2_ := Aside0.mk (below_at hq_ HB.out); clear hq_ HO_13 HO_54 HB; have HO_13 := n0_; have HO_54 := n1_; have HB := n2_; clear n0_ n1_ n2_; (try (have HP70 := Kd.R_putg HO_13.out ((ji38) : Int) ji41)))); refine store_event (t := 3) (p := 97) (v := ?vo_w71) (w1 := (wr.setCell ⟨go42, ((ji38) : Int).toNat, none⟩ (.int .i64 ji41))) ?hg ?ho ?hn ?hr ?_; (case ho => rfl); (case hg => rfl); (case hn => rfl); (case hr => first | (go_simp; done) | (go_simp; rfl)); intro w71 hw; have hg : wr.grownBy w71 (some go42) := (by rw [hw]; exact HP70.2); have hp_ : Kd.R (Kd.int .i64) 3 w71 w.heap.size (fun k_ => some k_ ≠ (.slice (some ad159) x11_2.length co26 : Value).ownBlock) (.slice (some ⟨go42, 0, none⟩) x13_4.length co69) y166 := (by rw [hw, Ny166.out]; exact HP70.1); clear HP70; have n0_ := Aside0.mk (hp_); have n1_ := Aside0.mk (Kd.R_after (v := (.slice (some ⟨go42, 0, none⟩) x13_4.length co69)) (v1 := (.slice (some ⟨go42, 0, none⟩) x13_4.length co69)) (ok := (fun _ => True)) (by (with_reducible repeat (first | apply Kd.R_alloc | apply Kd.R_drewN | apply Kd.R_drew)); exact Kd.R_mono HO_54.out (fun _ hk => ⟨trivial, hk⟩)) hg (.inl rfl)); have n2_ := Aside0.mk ((by rw [hw]; exact below_set (HB.out) GB42.out : Below w.heap.size w w71)); clear HO_13; clear HO_54; clear HB; have HO_13 := n0_; have HO_54 := n1_; have HB := n2_; clear n0_ n1_ n2_; clear hg hw hp_)))
                                                            go_roundg k4
                                                            case measure => have := HJ4.out; have := HK2.out; have := HK3.out; have := HK4.out; omega
                                                            case rel => exact ⟨(y166), (wrap64 (x71_4 + 1)), (by first | rfl | (simp; done) | (simp [*]; done)), H', ⟨by have := HJ4.out; have := HK2.out; have := HK3.out; have := HK4.out; omega⟩, ⟨by (with_reducible repeat (first | apply Kd.R_alloc | apply Kd.R_drewN | apply Kd.R_drew)); exact HO_13.out⟩, ⟨by (with_reducible repeat (first | apply Kd.R_alloc | apply Kd.R_drewN | apply Kd.R_drew)); exact Kd.R_mono HO_54.out (fun _ hk => hk.2)⟩, ⟨by repeat (first | (with_reducible first | exact HB.out | apply below_alloc | apply pw_below_drewN | apply below_drew1) | exact HB.out)⟩⟩
                                                        · rw [if_neg c40] at H
                                                          exact absurd H (by simp)
                                                      · rw [if_neg c39] at H
                                                        exact absurd H (by simp)
                                                    · rw [if_neg c37] at H
                                                      have c37b0 : decide ((wrap64 ((wrap64 (Int.tdiv x56_3 (wrap64 (a2 + 1)))) + (rd l0 x71_4))) ≤ a1) = false := decide_eq_false c37
                                                      clear c37
                                                      by_cases c72 : (wrap64 ((Int.tmod x56_3 (wrap64 (a2 + 1))) + (rd l0 x71_4))) ≤ a2
                                                      · rw [if_pos c72] at H
                                                        have c72b0 : decide ((wrap64 ((Int.tmod x56_3 (wrap64 (a2 + 1))) + (rd l0 x71_4))) ≤ a2) = true := decide_eq_true c72
                                                        clear c72
                                                        by_cases c73 : a3 = true
                                                        · subst c73
                                                          have H1 : (if (wrap64 (Int.tdiv x56_3 (wrap64 (a2 + 1)))) ≥ (wrap64 ((Int.tmod x56_3 (wrap64 (a2 + 1))) + (rd l0 x71_4))) then (if 0 ≤ (wrap64 (x56_3 + (rd l0 x71_4))) then (if (wrap64 (x56_3 + (rd l0 x71_4))) < (x13_4.length : Int) then (impl_countGames.l2 k4 l0 a1 a2 true (wrap64 (a2 + 1)) ji23 (x13_4.set ((wrap64 (x56_3 + (rd l0 x71_4))) : Int).toNat (mn (wrap64 ((rd x13_4 (wrap64 (x56_3 + (rd l0 x71_4)))) + (rd x11_2 x56_3))) 1000000000000001)) x56_3 (rd x11_2 x56_3) (wrap64 (Int.tdiv x56_3 (wrap64 (a2 + 1)))) (Int.tmod x56_3 (wrap64 (a2 + 1))) x38_2 x11_2 (x11_2.length : Int) x56_3 l0 (l0.length : Int) (wrap64 (x71_4 + 1))) else (none)) else (none)) else (impl_countGames.l2 k4 l0 a1 a2 true (wrap64 (a2 + 1)) ji23 x13_4 x56_3 (rd x11_2 x56_3) (wrap64 (Int.tdiv x56_3 (wrap64 (a2 + 1)))) (Int.tmod x56_3 (wrap64 (a2 + 1))) x38_2 x11_2 (x11_2.length : Int) x56_3 l0 (l0.length : Int) (wrap64 (x71_4 + 1)))) = some (r1, r2) := by rw [if_pos rfl] at H; exact H
                                                          clear H
                                                          have H := H1
                                                          clear H1
                                                          by_cases c74 : (wrap64 (Int.tdiv x56_3 (wrap64 (a2 + 1)))) ≥ (wrap64 ((Int.tmod x56_3 (wrap64 (a2 + 1))) + (rd l0 x71_4)))
                                                          · rw [if_pos c74] at H
                                                            have c74b0 : decide ((wrap64 ((Int.tmod x56_3 (wrap64 (a2 + 1))) + (rd l0 x71_4))) ≤ (wrap64 (Int.tdiv x56_3 (wrap64 (a2 + 1))))) = true := decide_eq_true c74
                                                            clear c74
                                                            obtain ⟨ji75, hji75⟩ : ∃ j_ : Int, (wrap64 (x56_3 + (rd l0 x71_4))) = j_ := ⟨_, rfl⟩
                                                            replace H : (if 0 ≤ (ji75) then (if (ji75) < (x13_4.length : Int) then (impl_countGames.l2 k4 l0 a1 a2 true (wrap64 (a2 + 1)) ji23 (x13_4.set ((ji75) : Int).toNat (mn (wrap64 ((rd x13_4 (ji75)) + (rd x11_2 x56_3))) 1000000000000001)) x56_3 (rd x11_2 x56_3) (wrap64 (Int.tdiv x56_3 (wrap64 (a2 + 1)))) (Int.tmod x56_3 (wrap64 (a2 + 1))) x38_2 x11_2 (x11_2.length : Int) x56_3 l0 (l0.length : Int) (wrap64 (x71_4 + 1))) else (none)) else (none)) = some (r1, r2) := by first | (rw [hji75] at H; exact H) | (simp only [hji75] at H ⊢; exact H)
                                                            have hji75w : (IntKind.i64.wrap (x56_3 + (rd l0 x71_4))) = ji75 := (i64_w _).trans hji75
                                                            by_cases c76 : 0 ≤ (ji75)
                                                            · rw [if_pos c76] at H
                                                              have c76b0 : decide (0 ≤ (ji75)) = true := decide_eq_true c76
                                                              clear c76
                                                              by_cases c77 : (ji75) < (x13_4.length : Int)
                                                              · rw [if_pos c77] at H
                                                                have c77b0 : decide ((ji75) < (x13_4.length : Int)) = true := decide_eq_true c77
                                                                clear c77
                                                                obtain ⟨ji78, hji78⟩ : ∃ j_ : Int, (mn (wrap64 ((rd x13_4 (ji75)) + (rd x11_2 x56_3))) 1000000000000001) = j_ := ⟨_, rfl⟩
                                                                replace H : (impl_countGames.l2 k4 l0 a1 a2 true (wrap64 (a2 + 1)) ji23 (x13_4.set ((ji75) : Int).toNat (ji78)) x56_3 (rd x11_2 x56_3) (wrap64 (Int.tdiv x56_3 (wrap64 (a2 + 1)))) (Int.tmod x56_3 (wrap64 (a2 + 1))) x38_2 x11_2 (x11_2.length : Int) x56_3 l0 (l0.length : Int) (wrap64 (x71_4 + 1))) = some (r1, r2) := by first | (rw [hji78] at H; exact H) | (simp only [hji78] at H ⊢; exact H)
                                                                have hji78_ : (if 1000000000000001 < (wrap64 ((rd x13_4 (ji75)) + (rd x11_2 x56_3))) then 1000000000000001 else (wrap64 ((rd x13_4 (ji75)) + (rd x11_2 x56_3)))) = ji78 := hji78
                                                                obtain ⟨y172, hy172⟩ : ∃ y_ : List Int, y_ = (x13_4.set ((ji75) : Int).toNat (ji78)) := ⟨_, rfl⟩
                                                                replace H : (impl_countGames.l2 k4 l0 a1 a2 true (wrap64 (a2 + 1)) ji23 y172 x56_3 (rd x11_2 x56_3) (wrap64 (Int.tdiv x56_3 (wrap64 (a2 + 1)))) (Int.tmod x56_3 (wrap64 (a2 + 1))) x38_2 x11_2 (x11_2.length : Int) x56_3 l0 (l0.length : Int) (wrap64 (x71_4 + 1))) = some (r1, r2) := by first | (rw [hy172]; with_reducible exact H) | (have H2_ := (Option.bind_some _ _).symm.trans H; rw [hy172]; with_reducible exact H2_) | (have H2_ := (Option.bind_some _ _).symm.trans H; with_reducible exact H2_) | with_reducible exact H | (rw [hy172]; exact H) | exact H
                                                                have Ny172 := Aside0.mk hy172
                                                                clear hy172
                                                                have H' := Aside0.mk H
                                                                clear H
                                                                have p164 : 0 ≤ (x71_4 : Int) := of_decide_eq_true (by first | (with_reducible assumption) | assumption)
                                                                have q164 : x71_4 < (l0.length : Int) := of_decide_eq_true (by first | (with_reducible assumption) | assumption)
                                                                obtain ⟨ad164, e164, hx164_0⟩ := Kd.at_int HR0.out x71_4 p164 q164
                                                                cases e164
                                                                replace hx164_0 := (HB.out.cell (World.block_lt_of_cell? w _ hx164_0)).trans hx164_0
                                                                replace p164 := eq_true p164
                                                                replace q164 := eq_true q164
                                                                obtain ⟨Ao80, co80, eo80⟩ := Kd.R_slice HO_13.out
                                                                subst eo80
                                                                have p171 : 0 ≤ ((ji75) : Int) := of_decide_eq_true (by first | (with_reducible assumption) | assumption)
                                                                have q171 : (ji75) < (x13_4.length : Int) := of_decide_eq_true (by first | (with_reducible assumption) | assumption)
                                                                obtain ⟨ad171, e171, hx171_0⟩ := Kd.at_int (Kd.R_reads' HO_13.out).2.2 (ji75) p171 q171
                                                                cases e171
                                                                replace p171 := eq_true p171
                                                                replace q171 := eq_true q171
                                                                have p79 : 0 ≤ ((ji75) : Int) := of_decide_eq_true (by first | (with_reducible assumption) | assumption)
                                                                have q79 : ((ji75) : Int) < ((x13_4.length : Int) : Int) := of_decide_eq_true (by first | (with_reducible assumption) | assumption)
                                                                obtain ⟨go79, co79, eo79, gb79, gl79, cl79, HG79⟩ := Kd.R_form HO_13.out (by omega)
                                                                (first | cases eo79 | (injection eo79 with ea_ en_ ec_; (first | subst ea_ | (injection ea_ with ea_; subst ea_)); subst ec_; clear en_))
                                                                have GB79 := Aside0.mk gb79
                                                                have GG79 := Aside0.mk HG79
                                                                clear gb79 gl79 HG79
                                                                (first | simp only [add_plain] at hx171_0 | skip)
                                                                obtain ⟨hx79_0, hf79_0⟩ := Kd.R_celln 0 HO_13.out ((ji75) : Int) p79 q79
                                                                replace p79 := eq_true p79
                                                                replace q79 := eq_true q79
                                                                have HP81 := Kd.R_putg HO_13.out ((ji75) : Int) ji78
                                                                go_wp2_with (first | ((with_reducible refine gate_store (t := 3) (p := 127) rfl ?_); (try (rw [drewN_self wr]; generalize hq_ : World.drewN wr _ = wr; have n0_ := Aside0.mk (Kd.R_at hq_ HO_13.out); have n1_ := Aside0.mk (Kd.R_at hq_ HO_54.out); have n2_ := Aside0.mk (below_at hq_ HB.out); clear hq_ HO_13 HO_54 HB; have HO_13 := n0_; have HO_54 := n1_; have HB := n2_; clear n0_ n1_ n2_; (try (have HP81 := Kd.R_putg HO_13.out ((ji75) : Int) ji78)))); refine store_event (t := 3) (p := 127) (v := ?vo_w82) (w1 := (wr.setCell ⟨go79, ((ji75) : Int).toNat, none⟩ (.int .i64 ji78))) ?hg ?ho ?hn ?hr ?_; (case ho => rfl); (case hg => rfl); (case hn => rfl); (case hr => first | (go_simp; done) | (go_simp; rfl)); intro w82 hw; have hg : wr.grownBy w82 (some go79) := (by rw [hw]; exact HP81.2); have hp_ : Kd.R (Kd.int .i64) 3 w82 w.heap.size (fun k_ => some k_ ≠ (.slice (some ad159) x11_2.length co26 : Value).ownBlock) (.slice (some ⟨go79, 0, none⟩) x13_4.length co80) y172 := (by rw [hw, Ny172.out]; exact HP81.1); clear HP81; have n0_ := Aside0.mk (hp_); have n1_ := Aside0.mk (Kd.R_after (v := (.slice (some ⟨go79, 0, none⟩) x13_4.length co80)) (v1 := (.slice (some ⟨go79, 0, none⟩) x13_4.length co80)) (ok := (fun _ => True)) (by (with_reducible repeat (first | apply Kd.R_alloc | apply Kd.R_drewN | apply Kd.R_drew)); exact Kd.R_mono HO_54.out (fun _ hk => ⟨trivial, hk⟩)) hg (.inl rfl)); have n2_ := Aside0.mk ((by rw [hw]; exact below_set (HB.out) GB79.out : Below w.heap.size w w82)); clear HO_13; clear HO_54; clear HB; have HO_13 := n0_; have HO_54 := n1_; have HB := n2_; clear n0_ n1_ n2_; clear hg hw hp_))
                                                                repeat (go_quiet (first | ((with_reducible refine gate_store (t := 3) (p := 127) rfl ?_); (try (rw [drewN_self wr]; generalize hq_ : World.drewN wr _ = wr; have n0_ := Aside0.mk (Kd.R_at hq_ HO_13.out); have n1_ := Aside0.mk (Kd.R_at hq_ HO_54.out); have n2_ := Aside0.mk (below_at hq_ HB.out); clear hq_ HO_13 HO_54 HB; have HO_13 := n0_; have HO_54 := n1_; have HB := n2_; clear n0_ n1_ n2_; (try (have HP81 := Kd.R_putg HO_13.out ((ji75) : Int) ji78)))); refine store_event (t := 3) (p := 127) (v := ?vo_w82) (w1 := (wr.setCell ⟨go79, ((ji75) : Int).toNat, none⟩ (.int .i64 ji78))) ?hg ?ho ?hn ?hr ?_; (case ho => rfl); (case hg => rfl); (case hn => rfl); (case hr => first | (go_simp; done) | (go_simp; rfl)); intro w82 hw; have hg : wr.grownBy w82 (some go79) := (by rw [hw]; exact HP81.2); have hp_ : Kd.R (Kd.int .i64) 3 w82 w.heap.size (fun k_ => some k_ ≠ (.slice (some ad159) x11_2.length co26 : Value).ownBlock) (.slice (some ⟨go79, 0, none⟩) x13_4.length co80) y172 := (by rw [hw, Ny172.out]; exact HP81.1); clear HP81; have n0_ := Aside0.mk (hp_); have n1_ := Aside0.mk (Kd.R_after (v := (.slice (some ⟨go79, 0, none⟩) x13_4.length co80)) (v1 := (.slice (some ⟨go79, 0, none⟩) x13_4.length co80)) (ok := (fun _ => True)) (by (with_reducible repeat (first | apply Kd.R_alloc | apply Kd.R_drewN | apply Kd.R_drew)); exact Kd.R_mono HO_54.out (fun _ hk => ⟨trivial, hk⟩)) hg (.inl rfl)); have n2_ := Aside0.mk ((by rw [hw]; exact below_set (HB.out) GB79.out : Below w.heap.size w w82)); clear HO_13; clear HO_54; clear HB; have HO_13 := n0_; have HO_54 := n1_; have HB := n2_; clear n0_ n1_ n2_; clear hg hw hp_)); try go_wp2_with (first | ((with_reducible refine gate_store (t := 3) (p := 127) rfl ?_); (try (rw [drewN_self wr]; generalize hq_ : World.drewN wr _ = wr; have n0_ := Aside0.mk (Kd.R_at hq_ HO_13.out); have n1_ := Aside0.mk (Kd.R_at hq_ HO_54.out); have n2_ := Aside0.mk (below_at hq_ HB.out); clear hq_ HO_13 HO_54 HB; have HO_13 := n0_; have HO_54 := n1_; have HB := n2_; clear n0_ n1_ n2_; (try (have HP81 := Kd.R_putg HO_13.out ((ji75) : Int) ji78)))); refine store_event (t := 3) (p := 127) (v := ?vo_w82) (w1 := (wr.setCell ⟨go79, ((ji75) : Int).toNat, none⟩ (.int .i64 ji78))) ?hg ?ho ?hn ?hr ?_; (case ho => rfl); (case hg => rfl); (case hn => rfl); (case hr => first | (go_simp; done) | (go_simp; rfl)); intro w82 hw; have hg : wr.grownBy w82 (some go79) := (by rw [hw]; exact HP81.2); have hp_ : Kd.R (Kd.int .i64) 3 w82 w.heap.size (fun k_ => some k_ ≠ (.slice (some ad159) x11_2.length co26 : Value).ownBlock) (.slice (some ⟨go79, 0, none⟩) x13_4.length co80) y172 := (by rw [hw, Ny172.out]; exact HP81.1); clear HP81; have n0_ := Aside0.mk (hp_); have n1_ := Aside0.mk (Kd.R_after (v := (.slice (some ⟨go79, 0, none⟩) x13_4.length co80)) (v1 := (.slice (some ⟨go79, 0, none⟩) x13_4.length co80)) (ok := (fun _ => True)) (by (with_reducible repeat (first | apply Kd.R_alloc | apply Kd.R_drewN | apply Kd.R_drew)); exact Kd.R_mono HO_54.out (fun _ hk => ⟨trivial, hk⟩)) hg (.inl rfl)); have n2_ := Aside0.mk ((by rw [hw]; exact below_set (HB.out) GB79.out : Below w.heap.size w w82)); clear HO_13; clear HO_54; clear HB; have HO_13 := n0_; have HO_54 := n1_; have HB := n2_; clear n0_ n1_ n2_; clear hg hw hp_)))
                                                                go_roundg k4
                                                                case measure => have := HJ4.out; have := HK2.out; have := HK3.out; have := HK4.out; omega
                                                                case rel => exact ⟨(y172), (wrap64 (x71_4 + 1)), (by first | rfl | (simp; done) | (simp [*]; done)), H', ⟨by have := HJ4.out; have := HK2.out; have := HK3.out; have := HK4.out; omega⟩, ⟨by (with_reducible repeat (first | apply Kd.R_alloc | apply Kd.R_drewN | apply Kd.R_drew)); exact HO_13.out⟩, ⟨by (with_reducible repeat (first | apply Kd.R_alloc | apply Kd.R_drewN | apply Kd.R_drew)); exact Kd.R_mono HO_54.out (fun _ hk => hk.2)⟩, ⟨by repeat (first | (with_reducible first | exact HB.out | apply below_alloc | apply pw_below_drewN | apply below_drew1) | exact HB.out)⟩⟩
                                                              · rw [if_neg c77] at H
                                                                exact absurd H (by simp)
                                                            · rw [if_neg c76] at H
                                                              exact absurd H (by simp)
                                                          · rw [if_neg c74] at H
                                                            have c74b0 : decide ((wrap64 ((Int.tmod x56_3 (wrap64 (a2 + 1))) + (rd l0 x71_4))) ≤ (wrap64 (Int.tdiv x56_3 (wrap64 (a2 + 1))))) = false := decide_eq_false c74
                                                            clear c74
                                                            have H' := Aside0.mk H
                                                            clear H
                                                            have p164 : 0 ≤ (x71_4 : Int) := of_decide_eq_true (by first | (with_reducible assumption) | assumption)
                                                            have q164 : x71_4 < (l0.length : Int) := of_decide_eq_true (by first | (with_reducible assumption) | assumption)
                                                            obtain ⟨ad164, e164, hx164_0⟩ := Kd.at_int HR0.out x71_4 p164 q164
                                                            cases e164
                                                            replace hx164_0 := (HB.out.cell (World.block_lt_of_cell? w _ hx164_0)).trans hx164_0
                                                            replace p164 := eq_true p164
                                                            replace q164 := eq_true q164
                                                            go_wp2
                                                            repeat (go_quiet (fail); try go_wp2)
                                                            go_roundg k4
                                                            case measure => have := HJ4.out; have := HK2.out; have := HK3.out; have := HK4.out; omega
                                                            case rel => exact ⟨(x13_4), (wrap64 (x71_4 + 1)), (by first | rfl | (simp; done) | (simp [*]; done)), H', ⟨by have := HJ4.out; have := HK2.out; have := HK3.out; have := HK4.out; omega⟩, ⟨by (with_reducible repeat (first | apply Kd.R_alloc | apply Kd.R_drewN | apply Kd.R_drew)); exact HO_13.out⟩, ⟨by (with_reducible repeat (first | apply Kd.R_alloc | apply Kd.R_drewN | apply Kd.R_drew)); exact HO_54.out⟩, ⟨by repeat (first | (with_reducible first | exact HB.out | apply below_alloc | apply pw_below_drewN | apply below_drew1) | exact HB.out)⟩⟩
                                                        · replace c73 := Bool.eq_false_iff.mpr c73
                                                          subst c73
                                                          have H1 : (if 0 ≤ (wrap64 (x56_3 + (rd l0 x71_4))) then (if (wrap64 (x56_3 + (rd l0 x71_4))) < (x13_4.length : Int) then (impl_countGames.l2 k4 l0 a1 a2 false (wrap64 (a2 + 1)) ji23 (x13_4.set ((wrap64 (x56_3 + (rd l0 x71_4))) : Int).toNat (mn (wrap64 ((rd x13_4 (wrap64 (x56_3 + (rd l0 x71_4)))) + (rd x11_2 x56_3))) 1000000000000001)) x56_3 (rd x11_2 x56_3) (wrap64 (Int.tdiv x56_3 (wrap64 (a2 + 1)))) (Int.tmod x56_3 (wrap64 (a2 + 1))) x38_2 x11_2 (x11_2.length : Int) x56_3 l0 (l0.length : Int) (wrap64 (x71_4 + 1))) else (none)) else (none)) = some (r1, r2) := by rw [if_neg (show ¬ (false = true) by decide)] at H; exact H
                                                          clear H
                                                          have H := H1
                                                          clear H1
                                                          obtain ⟨ji83, hji83⟩ : ∃ j_ : Int, (wrap64 (x56_3 + (rd l0 x71_4))) = j_ := ⟨_, rfl⟩
                                                          replace H : (if 0 ≤ (ji83) then (if (ji83) < (x13_4.length : Int) then (impl_countGames.l2 k4 l0 a1 a2 false (wrap64 (a2 + 1)) ji23 (x13_4.set ((ji83) : Int).toNat (mn (wrap64 ((rd x13_4 (ji83)) + (rd x11_2 x56_3))) 1000000000000001)) x56_3 (rd x11_2 x56_3) (wrap64 (Int.tdiv x56_3 (wrap64 (a2 + 1)))) (Int.tmod x56_3 (wrap64 (a2 + 1))) x38_2 x11_2 (x11_2.length : Int) x56_3 l0 (l0.length : Int) (wrap64 (x71_4 + 1))) else (none)) else (none)) = some (r1, r2) := by first | (rw [hji83] at H; exact H) | (simp only [hji83] at H ⊢; exact H)
                                                          have hji83w : (IntKind.i64.wrap (x56_3 + (rd l0 x71_4))) = ji83 := (i64_w _).trans hji83
                                                          by_cases c84 : 0 ≤ (ji83)
                                                          · rw [if_pos c84] at H
                                                            have c84b0 : decide (0 ≤ (ji83)) = true := decide_eq_true c84
                                                            clear c84
                                                            by_cases c85 : (ji83) < (x13_4.length : Int)
                                                            · rw [if_pos c85] at H
                                                              have c85b0 : decide ((ji83) < (x13_4.length : Int)) = true := decide_eq_true c85
                                                              clear c85
                                                              obtain ⟨ji86, hji86⟩ : ∃ j_ : Int, (mn (wrap64 ((rd x13_4 (ji83)) + (rd x11_2 x56_3))) 1000000000000001) = j_ := ⟨_, rfl⟩
                                                              replace H : (impl_countGames.l2 k4 l0 a1 a2 false (wrap64 (a2 + 1)) ji23 (x13_4.set ((ji83) : Int).toNat (ji86)) x56_3 (rd x11_2 x56_3) (wrap64 (Int.tdiv x56_3 (wrap64 (a2 + 1)))) (Int.tmod x56_3 (wrap64 (a2 + 1))) x38_2 x11_2 (x11_2.length : Int) x56_3 l0 (l0.length : Int) (wrap64 (x71_4 + 1))) = some (r1, r2) := by first | (rw [hji86] at H; exact H) | (simp only [hji86] at H ⊢; exact H)
                                                              have hji86_ : (if 1000000000000001 < (wrap64 ((rd x13_4 (ji83)) + (rd x11_2 x56_3))) then 1000000000000001 else (wrap64 ((rd x13_4 (ji83)) + (rd x11_2 x56_3)))) = ji86 := hji86
                                                              obtain ⟨y174, hy174⟩ : ∃ y_ : List Int, y_ = (x13_4.set ((ji83) : Int).toNat (ji86)) := ⟨_, rfl⟩
                                                              replace H : (impl_countGames.l2 k4 l0 a1 a2 false (wrap64 (a2 + 1)) ji23 y174 x56_3 (rd x11_2 x56_3) (wrap64 (Int.tdiv x56_3 (wrap64 (a2 + 1)))) (Int.tmod x56_3 (wrap64 (a2 + 1))) x38_2 x11_2 (x11_2.length : Int) x56_3 l0 (l0.length : Int) (wrap64 (x71_4 + 1))) = some (r1, r2) := by first | (rw [hy174]; with_reducible exact H) | (have H2_ := (Option.bind_some _ _).symm.trans H; rw [hy174]; with_reducible exact H2_) | (have H2_ := (Option.bind_some _ _).symm.trans H; with_reducible exact H2_) | with_reducible exact H | (rw [hy174]; exact H) | exact H
                                                              have Ny174 := Aside0.mk hy174
                                                              clear hy174
                                                              have H' := Aside0.mk H
                                                              clear H
                                                              have p164 : 0 ≤ (x71_4 : Int) := of_decide_eq_true (by first | (with_reducible assumption) | assumption)
                                                              have q164 : x71_4 < (l0.length : Int) := of_decide_eq_true (by first | (with_reducible assumption) | assumption)
                                                              obtain ⟨ad164, e164, hx164_0⟩ := Kd.at_int HR0.out x71_4 p164 q164
                                                              cases e164
                                                              replace hx164_0 := (HB.out.cell (World.block_lt_of_cell? w _ hx164_0)).trans hx164_0
                                                              replace p164 := eq_true p164
                                                              replace q164 := eq_true q164
                                                              obtain ⟨Ao88, co88, eo88⟩ := Kd.R_slice HO_13.out
                                                              subst eo88
                                                              have p173 : 0 ≤ ((ji83) : Int) := of_decide_eq_true (by first | (with_reducible assumption) | assumption)
                                                              have q173 : (ji83) < (x13_4.length : Int) := of_decide_eq_true (by first | (with_reducible assumption) | assumption)
                                                              obtain ⟨ad173, e173, hx173_0⟩ := Kd.at_int (Kd.R_reads' HO_13.out).2.2 (ji83) p173 q173
                                                              cases e173
                                                              replace p173 := eq_true p173
                                                              replace q173 := eq_true q173
                                                              have p87 : 0 ≤ ((ji83) : Int) := of_decide_eq_true (by first | (with_reducible assumption) | assumption)
                                                              have q87 : ((ji83) : Int) < ((x13_4.length : Int) : Int) := of_decide_eq_true (by first | (with_reducible assumption) | assumption)
                                                              obtain ⟨go87, co87, eo87, gb87, gl87, cl87, HG87⟩ := Kd.R_form HO_13.out (by omega)
                                                              (first | cases eo87 | (injection eo87 with ea_ en_ ec_; (first | subst ea_ | (injection ea_ with ea_; subst ea_)); subst ec_; clear en_))
                                                              have GB87 := Aside0.mk gb87
                                                              have GG87 := Aside0.mk HG87
                                                              clear gb87 gl87 HG87
                                                              (first | simp only [add_plain] at hx173_0 | skip)
                                                              obtain ⟨hx87_0, hf87_0⟩ := Kd.R_celln 0 HO_13.out ((ji83) : Int) p87 q87
                                                              replace p87 := eq_true p87
                                                              replace q87 := eq_true q87
                                                              have HP89 := Kd.R_putg HO_13.out ((ji83) : Int) ji86
                                                              go_wp2_with (first | ((with_reducible refine gate_store (t := 3) (p := 127) rfl ?_); (try (rw [drewN_self wr]; generalize hq_ : World.drewN wr _ = wr; have n0_ := Aside0.mk (Kd.R_at hq_ HO_13.out); have n1_ := Aside0.mk (Kd.R_at hq_ HO_54.out); have n2_ := Aside0.mk (below_at hq_ HB.out); clear hq_ HO_13 HO_54 HB; have HO_13 := n0_; have HO_54 := n1_; have HB := n2_; clear n0_ n1_ n2_; (try (have HP89 := Kd.R_putg HO_13.out ((ji83) : Int) ji86)))); refine store_event (t := 3) (p := 127) (v := ?vo_w90) (w1 := (wr.setCell ⟨go87, ((ji83) : Int).toNat, none⟩ (.int .i64 ji86))) ?hg ?ho ?hn ?hr ?_; (case ho => rfl); (case hg => rfl); (case hn => rfl); (case hr => first | (go_simp; done) | (go_simp; rfl)); intro w90 hw; have hg : wr.grownBy w90 (some go87) := (by rw [hw]; exact HP89.2); have hp_ : Kd.R (Kd.int .i64) 3 w90 w.heap.size (fun k_ => some k_ ≠ (.slice (some ad159) x11_2.length co26 : Value).ownBlock) (.slice (some ⟨go87, 0, none⟩) x13_4.length co88) y174 := (by rw [hw, Ny174.out]; exact HP89.1); clear HP89; have n0_ := Aside0.mk (hp_); have n1_ := Aside0.mk (Kd.R_after (v := (.slice (some ⟨go87, 0, none⟩) x13_4.length co88)) (v1 := (.slice (some ⟨go87, 0, none⟩) x13_4.length co88)) (ok := (fun _ => True)) (by (with_reducible repeat (first | apply Kd.R_alloc | apply Kd.R_drewN | apply Kd.R_drew)); exact Kd.R_mono HO_54.out (fun _ hk => ⟨trivial, hk⟩)) hg (.inl rfl)); have n2_ := Aside0.mk ((by rw [hw]; exact below_set (HB.out) GB87.out : Below w.heap.size w w90)); clear HO_13; clear HO_54; clear HB; have HO_13 := n0_; have HO_54 := n1_; have HB := n2_; clear n0_ n1_ n2_; clear hg hw hp_))
                                                              repeat (go_quiet (first | ((with_reducible refine gate_store (t := 3) (p := 127) rfl ?_); (try (rw [drewN_self wr]; generalize hq_ : World.drewN wr _ = wr; have n0_ := Aside0.mk (Kd.R_at hq_ HO_13.out); have n1_ := Aside0.mk (Kd.R_at hq_ HO_54.out); have n2_ := Aside0.mk (below_at hq_ HB.out); clear hq_ HO_13 HO_54 HB; have HO_13 := n0_; have HO_54 := n1_; have HB := n2_; clear n0_ n1_ n2_; (try (have HP89 := Kd.R_putg HO_13.out ((ji83) : Int) ji86)))); refine store_event (t := 3) (p := 127) (v := ?vo_w90) (w1 := (wr.setCell ⟨go87, ((ji83) : Int).toNat, none⟩ (.int .i64 ji86))) ?hg ?ho ?hn ?hr ?_; (case ho => rfl); (case hg => rfl); (case hn => rfl); (case hr => first | (go_simp; done) | (go_simp; rfl)); intro w90 hw; have hg : wr.grownBy w90 (some go87) := (by rw [hw]; exact HP89.2); have hp_ : Kd.R (Kd.int .i64) 3 w90 w.heap.size (fun k_ => some k_ ≠ (.slice (some ad159) x11_2.length co26 : Value).ownBlock) (.slice (some ⟨go87, 0, none⟩) x13_4.length co88) y174 := (by rw [hw, Ny174.out]; exact HP89.1); clear HP89; have n0_ := Aside0.mk (hp_); have n1_ := Aside0.mk (Kd.R_after (v := (.slice (some ⟨go87, 0, none⟩) x13_4.length co88)) (v1 := (.slice (some ⟨go87, 0, none⟩) x13_4.length co88)) (ok := (fun _ => True)) (by (with_reducible repeat (first | apply Kd.R_alloc | apply Kd.R_drewN | apply Kd.R_drew)); exact Kd.R_mono HO_54.out (fun _ hk => ⟨trivial, hk⟩)) hg (.inl rfl)); have n2_ := Aside0.mk ((by rw [hw]; exact below_set (HB.out) GB87.out : Below w.heap.size w w90)); clear HO_13; clear HO_54; clear HB; have HO_13 := n0_; have HO_54 := n1_; have HB := n2_; clear n0_ n1_ n2_; clear hg hw hp_)); try go_wp2_with (first | ((with_reducible refine gate_store (t := 3) (p := 127) rfl ?_); (try (rw [drewN_self wr]; generalize hq_ : World.drewN wr _ = wr; have n0_ := Aside0.mk (Kd.R_at hq_ HO_13.out); have n1_ := Aside0.mk (Kd.R_at hq_ HO_54.out); have n2_ := Aside0.mk (below_at hq_ HB.out); clear hq_ HO_13 HO_54 HB; have HO_13 := n0_; have HO_54 := n1_; have HB := n2_; clear n0_ n1_ n2_; (try (have HP89 := Kd.R_putg HO_13.out ((ji83) : Int) ji86)))); refine store_event (t := 3) (p := 127) (v := ?vo_w90) (w1 := (wr.setCell ⟨go87, ((ji83) : Int).toNat, none⟩ (.int .i64 ji86))) ?hg ?ho ?hn ?hr ?_; (case ho => rfl); (case hg => rfl); (case hn => rfl); (case hr => first | (go_simp; done) | (go_simp; rfl)); intro w90 hw; have hg : wr.grownBy w90 (some go87) := (by rw [hw]; exact HP89.2); have hp_ : Kd.R (Kd.int .i64) 3 w90 w.heap.size (fun k_ => some k_ ≠ (.slice (some ad159) x11_2.length co26 : Value).ownBlock) (.slice (some ⟨go87, 0, none⟩) x13_4.length co88) y174 := (by rw [hw, Ny174.out]; exact HP89.1); clear HP89; have n0_ := Aside0.mk (hp_); have n1_ := Aside0.mk (Kd.R_after (v := (.slice (some ⟨go87, 0, none⟩) x13_4.length co88)) (v1 := (.slice (some ⟨go87, 0, none⟩) x13_4.length co88)) (ok := (fun _ => True)) (by (with_reducible repeat (first | apply Kd.R_alloc | apply Kd.R_drewN | apply Kd.R_drew)); exact Kd.R_mono HO_54.out (fun _ hk => ⟨trivial, hk⟩)) hg (.inl rfl)); have n2_ := Aside0.mk ((by rw [hw]; exact below_set (HB.out) GB87.out : Below w.heap.size w w90)); clear HO_13; clear HO_54; clear HB; have HO_13 := n0_; have HO_54 := n1_; have HB := n2_; clear n0_ n1_ n2_; clear hg hw hp_)))
                                                              go_roundg k4
                                                              case measure => have := HJ4.out; have := HK2.out; have := HK3.out; have := HK4.out; omega
                                                              case rel => exact ⟨(y174), (wrap64 (x71_4 + 1)), (by first | rfl | (simp; done) | (simp [*]; done)), H', ⟨by have := HJ4.out; have := HK2.out; have := HK3.out; have := HK4.out; omega⟩, ⟨by (with_reducible repeat (first | apply Kd.R_alloc | apply Kd.R_drewN | apply Kd.R_drew)); exact HO_13.out⟩, ⟨by (with_reducible repeat (first | apply Kd.R_alloc | apply Kd.R_drewN | apply Kd.R_drew)); exact Kd.R_mono HO_54.out (fun _ hk => hk.2)⟩, ⟨by repeat (first | (with_reducible first | exact HB.out | apply below_alloc | apply pw_below_drewN | apply below_drew1) | exact HB.out)⟩⟩
                                                            · rw [if_neg c85] at H
                                                              exact absurd H (by simp)
                                                          · rw [if_neg c84] at H
                                                            exact absurd H (by simp)
                                                      · rw [if_neg c72] at H
                                                        have c72b0 : decide ((wrap64 ((Int.tmod x56_3 (wrap64 (a2 + 1))) + (rd l0 x71_4))) ≤ a2) = false := decide_eq_false c72
                                                        clear c72
                                                        have H' := Aside0.mk H
                                                        clear H
                                                        have p164 : 0 ≤ (x71_4 : Int) := of_decide_eq_true (by first | (with_reducible assumption) | assumption)
                                                        have q164 : x71_4 < (l0.length : Int) := of_decide_eq_true (by first | (with_reducible assumption) | assumption)
                                                        obtain ⟨ad164, e164, hx164_0⟩ := Kd.at_int HR0.out x71_4 p164 q164
                                                        cases e164
                                                        replace hx164_0 := (HB.out.cell (World.block_lt_of_cell? w _ hx164_0)).trans hx164_0
                                                        replace p164 := eq_true p164
                                                        replace q164 := eq_true q164
                                                        go_wp2
                                                        repeat (go_quiet (fail); try go_wp2)
                                                        go_roundg k4
                                                        case measure => have := HJ4.out; have := HK2.out; have := HK3.out; have := HK4.out; omega
                                                        case rel => exact ⟨(x13_4), (wrap64 (x71_4 + 1)), (by first | rfl | (simp; done) | (simp [*]; done)), H', ⟨by have := HJ4.out; have := HK2.out; have := HK3.out; have := HK4.out; omega⟩, ⟨by (with_reducible repeat (first | apply Kd.R_alloc | apply Kd.R_drewN | apply Kd.R_drew)); exact HO_13.out⟩, ⟨by (with_reducible repeat (first | apply Kd.R_alloc | apply Kd.R_drewN | apply Kd.R_drew)); exact HO_54.out⟩, ⟨by repeat (first | (with_reducible first | exact HB.out | apply below_alloc | apply pw_below_drewN | apply below_drew1) | exact HB.out)⟩⟩
                                                  · rw [if_neg c36] at H
                                                    exact absurd H (by simp)
                                                · rw [if_neg c35] at H
                                                  exact absurd H (by simp)
                                              · rw [if_neg c34] at H
                                                have c34b0 : decide (x71_4 < (l0.length : Int)) = false := decide_eq_false c34
                                                clear c34
                                                have H' := Aside0.mk H
                                                clear H
                                                go_wp2
                                                repeat (go_quiet (fail); try go_wp2)
                                                go_roundg k4
                                                case measure => have := HJ4.out; have := HK2.out; have := HK3.out; have := HK4.out; omega
                                                case rel => exact ⟨(x13_4), (wrap64 (x56_3 + 1)), (by first | rfl | (simp; done) | (simp [*]; done)), H', ⟨by have := HJ4.out; have := HK2.out; have := HK3.out; have := HK4.out; omega⟩, ⟨by (with_reducible repeat (first | apply Kd.R_alloc | apply Kd.R_drewN | apply Kd.R_drew)); exact HO_13.out⟩, ⟨by (with_reducible repeat (first | apply Kd.R_alloc | apply Kd.R_drewN | apply Kd.R_drew)); exact HO_54.out⟩, ⟨by repeat (first | (with_reducible first | exact HB.out | apply below_alloc | apply pw_below_drewN | apply below_drew1) | exact HB.out)⟩⟩
                                    · rw [if_neg c31] at H
                                      exact absurd H (by simp)
                                  · rw [if_neg c30] at H
                                    exact absurd H (by simp)
                                · rw [if_neg c29] at H
                                  have c29b0 : decide (x56_3 < (x11_2.length : Int)) = false := decide_eq_false c29
                                  clear c29
                                  have H' := Aside0.mk H
                                  clear H
                                  go_wp2
                                  repeat (go_quiet (fail); try go_wp2)
                                  go_roundg k3
                                  case measure => have := HJ4.out; have := HK2.out; have := HK3.out; omega
                                  case rel => exact ⟨(x13_3), (ji23), (wrap64 (x38_2 + 1)), (by first | rfl | (simp; done) | (simp only [← hji23] <;> (first | rfl | simp)) | (simp [*]; done)), (by first | rfl | (simp; done) | (simp [*]; done)), H', ⟨by have := HJ4.out; have := HK2.out; have := HK3.out; omega⟩, ⟨by (with_reducible repeat (first | apply Kd.R_alloc | apply Kd.R_drewN | apply Kd.R_drew)); exact Kd.R_mono HO_13.out (fun _ hk => trivial)⟩, ⟨by repeat (first | (with_reducible first | exact HB.out | apply below_alloc | apply pw_below_drewN | apply below_drew1) | exact HB.out)⟩⟩
                          · rw [if_neg c25] at H
                            exact absurd H (by simp)
                        · rw [if_neg c24] at H
                          exact absurd H (by simp)
                      · rw [if_neg c22] at H
                        exact absurd H (by simp)
                    · rw [if_neg c21] at H
                      exact absurd H (by simp)
                  · rw [if_neg c19] at H
                    have c19b0 : decide (x38_2 < 61) = false := decide_eq_false c19
                    clear c19
                    replace H := Option.bind_eq_some_iff.mp H
                    obtain ⟨⟨t157, t158⟩, A910, H⟩ := H
                    replace H : (some (t157, t158)) = some (r1, r2) := H
                    have A91 := Aside0.mk A910
                    clear A910
                    simp only [Option.some.injEq, Prod.mk.injEq] at H
                    obtain ⟨rfl, rfl⟩ := H
                    go_wp2_with (first | (go_at_call 52; (with_reducible refine (impl_few.calls x12_2 1000000000000000 t157 t158 _ A91.out).mono ?_); rintro e w' ⟨rfl, ⟨nd, rfl⟩⟩; (try first | exact ⟨rfl, _, World.drewN_drewN _ _ _⟩ | exact ⟨rfl, _, Eq.trans (World.drewN_drewN _ _ _) (congrArg (World.drewN _) (Nat.add_assoc _ _ _))⟩)))
                    repeat (go_quiet (first | (go_at_call 52; (with_reducible refine (impl_few.calls x12_2 1000000000000000 t157 t158 _ A91.out).mono ?_); rintro e w' ⟨rfl, ⟨nd, rfl⟩⟩; (try first | exact ⟨rfl, _, World.drewN_drewN _ _ _⟩ | exact ⟨rfl, _, Eq.trans (World.drewN_drewN _ _ _) (congrArg (World.drewN _) (Nat.add_assoc _ _ _))⟩))); try go_wp2_with (first | (go_at_call 52; (with_reducible refine (impl_few.calls x12_2 1000000000000000 t157 t158 _ A91.out).mono ?_); rintro e w' ⟨rfl, ⟨nd, rfl⟩⟩; (try first | exact ⟨rfl, _, World.drewN_drewN _ _ _⟩ | exact ⟨rfl, _, Eq.trans (World.drewN_drewN _ _ _) (congrArg (World.drewN _) (Nat.add_assoc _ _ _))⟩))))
                    go_ret2
                    exact ⟨by first | rfl | (simp [errW_none, errW_some] <;> rfl) | (simp only [← hji10]; first | rfl | (simp [errW_none, errW_some] <;> rfl)) | (simp [*, errW_none, errW_some] <;> rfl), by repeat (first | (with_reducible first | exact HB.out | apply below_alloc | apply pw_below_drewN | apply below_drew1) | exact HB.out)⟩
            · rw [if_neg c13] at H
              exact absurd H (by simp)
          · rw [if_neg c12] at H
            exact absurd H (by simp)
        · rw [if_neg c11] at H
          exact absurd H (by simp)

end Go.Proofs.Ytmecamlnbjpkjaa.PFnExactCountNeverBehind
