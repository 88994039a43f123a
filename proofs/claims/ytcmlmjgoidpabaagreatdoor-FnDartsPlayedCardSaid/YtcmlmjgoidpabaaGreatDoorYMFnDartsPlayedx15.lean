/- Walks of the functions that the law reaches: each comes to just what the function that is told of it tells, for all arguments. -/
import Derived.Test.YtcmlmjgoidpabaaGreatDoorYMFnDartsPlayedx12
import Derived.Test.YtcmlmjgoidpabaaGreatDoorYMFnDartsPlayedx14
namespace Go.Proofs.YtcmlmjgoidpabaaGreatDoor.MFnDartsPlayed
open Go.RowKit Go.Proofs.YtcmlmjgoidpabaaGreatDoorW.PrintWords Go.Proofs.YtcmlmjgoidpabaaGreatDoorW.PrintLast Go.Proofs.YtcmlmjgoidpabaaGreatDoorW.PrintMore
attribute [local go_sem] max2_int min2_int max_two min_two max_three min_three max_four min_four
set_option linter.unusedVariables false
set_option linter.unusedSimpArgs false
mutual
def impl_Dart_182.l0 : Nat → List (S52) → Int → Int → Int → Option ((List (S52)))
 | 0, _, _, _, _ => none
 | k + 1, x0, x1, x10, x11 => if x10 < x11 then (if 0 ≤ (wrap64 ((IntKind.u64.wrap (wrap64 (x10 + x11))) / 2)) then (if (wrap64 ((IntKind.u64.wrap (wrap64 (x10 + x11))) / 2)) < (x0.length : Int) then (if 0 ≤ x1 then (if x1 < (x0.length : Int) then ((impl_board_1.f ((rd_T52 x0 (wrap64 ((IntKind.u64.wrap (wrap64 (x10 + x11))) / 2))).f0) ((rd_T52 x0 (wrap64 ((IntKind.u64.wrap (wrap64 (x10 + x11))) / 2))).f1) ((rd_T52 x0 x1).f0) ((rd_T52 x0 x1).f1)).bind fun t511 => (if t511 < 0 then (impl_Dart_182.l0 k x0 x1 (wrap64 ((wrap64 ((IntKind.u64.wrap (wrap64 (x10 + x11))) / 2)) + 1)) x11) else (impl_Dart_182.l0 k x0 x1 x10 (wrap64 ((IntKind.u64.wrap (wrap64 (x10 + x11))) / 2))))) else (none)) else (none)) else (none)) else (none)) else (impl_Dart_182.l1 k x0 x10 x1)
def impl_Dart_182.l1 : Nat → List (S52) → Int → Int → Option ((List (S52)))
 | 0, _, _, _ => none
 | k + 1, x0, x10, x13 => if x13 < (wrap64 (x10 - 1)) then (if 0 ≤ (wrap64 (x13 + 1)) then (if (wrap64 (x13 + 1)) < (x0.length : Int) then (if 0 ≤ x13 then (if x13 < (x0.length : Int) then (impl_Dart_182.l1 k ((x0.set (x13 : Int).toNat (⟨(rd_T52 x0 (wrap64 (x13 + 1))).f0, (rd_T52 x0 (wrap64 (x13 + 1))).f1⟩ : S52)).set ((wrap64 (x13 + 1)) : Int).toNat (⟨(rd_T52 x0 x13).f0, (rd_T52 x0 x13).f1⟩ : S52)) x10 (wrap64 (x13 + 1))) else (none)) else (none)) else (none)) else (none)) else (some x0)
def impl_Dart_182.l2 : Nat → List (S52) → Int → Int → Int → Option ((List (S52)))
 | 0, _, _, _, _ => none
 | k + 1, x0, x2, x14, x15 => if x14 < x15 then (if 0 ≤ x2 then (if x2 < (x0.length : Int) then (if 0 ≤ (wrap64 ((IntKind.u64.wrap (wrap64 (x14 + x15))) / 2)) then (if (wrap64 ((IntKind.u64.wrap (wrap64 (x14 + x15))) / 2)) < (x0.length : Int) then ((impl_board_1.f ((rd_T52 x0 x2).f0) ((rd_T52 x0 x2).f1) ((rd_T52 x0 (wrap64 ((IntKind.u64.wrap (wrap64 (x14 + x15))) / 2))).f0) ((rd_T52 x0 (wrap64 ((IntKind.u64.wrap (wrap64 (x14 + x15))) / 2))).f1)).bind fun t518 => (if t518 < 0 then (impl_Dart_182.l2 k x0 x2 x14 (wrap64 ((IntKind.u64.wrap (wrap64 (x14 + x15))) / 2))) else (impl_Dart_182.l2 k x0 x2 (wrap64 ((wrap64 ((IntKind.u64.wrap (wrap64 (x14 + x15))) / 2)) + 1)) x15))) else (none)) else (none)) else (none)) else (none)) else (impl_Dart_182.l3 k x0 x14 x2)
def impl_Dart_182.l3 : Nat → List (S52) → Int → Int → Option ((List (S52)))
 | 0, _, _, _ => none
 | k + 1, x0, x14, x17 => if x17 > x14 then (if 0 ≤ (wrap64 (x17 - 1)) then (if (wrap64 (x17 - 1)) < (x0.length : Int) then (if 0 ≤ x17 then (if x17 < (x0.length : Int) then (impl_Dart_182.l3 k ((x0.set (x17 : Int).toNat (⟨(rd_T52 x0 (wrap64 (x17 - 1))).f0, (rd_T52 x0 (wrap64 (x17 - 1))).f1⟩ : S52)).set ((wrap64 (x17 - 1)) : Int).toNat (⟨(rd_T52 x0 x17).f0, (rd_T52 x0 x17).f1⟩ : S52)) x14 (wrap64 (x17 - 1))) else (none)) else (none)) else (none)) else (none)) else (some x0)
def impl_Dart_182.j4 : Nat → List (S52) → Int → Int → Int → Int → Int → Int → Int → Int → Option ((List (S52)))
 | 0, _, _, _, _, _, _, _, _, _ => none
 | k + 1, x0, x1, x2, x3, x4, x18, x19, x20, x21 => impl_Dart_182.l4 k x0 x1 x2 x3 x4 x18 x19 x20 x21 (wrap64 (x19 - 1))
def impl_Dart_182.l4 : Nat → List (S52) → Int → Int → Int → Int → Int → Int → Int → Int → Int → Option ((List (S52)))
 | 0, _, _, _, _, _, _, _, _, _, _ => none
 | k + 1, x0, x1, x2, x3, x4, x18, x19, x20, x21, x22 => if x20 < x21 then (if 0 ≤ (wrap64 (x22 - (wrap64 ((IntKind.u64.wrap (wrap64 (x20 + x21))) / 2)))) then (if (wrap64 (x22 - (wrap64 ((IntKind.u64.wrap (wrap64 (x20 + x21))) / 2)))) < (x0.length : Int) then (if 0 ≤ (wrap64 ((IntKind.u64.wrap (wrap64 (x20 + x21))) / 2)) then (if (wrap64 ((IntKind.u64.wrap (wrap64 (x20 + x21))) / 2)) < (x0.length : Int) then ((impl_board_1.f ((rd_T52 x0 (wrap64 (x22 - (wrap64 ((IntKind.u64.wrap (wrap64 (x20 + x21))) / 2))))).f0) ((rd_T52 x0 (wrap64 (x22 - (wrap64 ((IntKind.u64.wrap (wrap64 (x20 + x21))) / 2))))).f1) ((rd_T52 x0 (wrap64 ((IntKind.u64.wrap (wrap64 (x20 + x21))) / 2))).f0) ((rd_T52 x0 (wrap64 ((IntKind.u64.wrap (wrap64 (x20 + x21))) / 2))).f1)).bind fun t525 => (if t525 < 0 then (impl_Dart_182.l4 k x0 x1 x2 x3 x4 x18 x19 x20 (wrap64 ((IntKind.u64.wrap (wrap64 (x20 + x21))) / 2)) x22) else (impl_Dart_182.l4 k x0 x1 x2 x3 x4 x18 x19 (wrap64 ((wrap64 ((IntKind.u64.wrap (wrap64 (x20 + x21))) / 2)) + 1)) x21 x22))) else (none)) else (none)) else (none)) else (none)) else (if x20 < x2 then (impl_Dart_182.j6 k x0 x1 x2 x3 x4 x18 x20 (wrap64 (x19 - x20)) (decide (x2 < (wrap64 (x19 - x20))))) else (impl_Dart_182.j6 k x0 x1 x2 x3 x4 x18 x20 (wrap64 (x19 - x20)) false))
def impl_Dart_182.j6 : Nat → List (S52) → Int → Int → Int → Int → Int → Int → Int → Bool → Option ((List (S52)))
 | 0, _, _, _, _, _, _, _, _, _ => none
 | k + 1, x0, x1, x2, x3, x4, x18, x20, x24, x185 => if x185 = true then ((impl_Dart_192.f k x0 x20 x2 x24 x4).bind fun t526 => (impl_Dart_182.j7 k t526 x1 x3 x4 x18 x20 x24)) else (impl_Dart_182.j7 k x0 x1 x3 x4 x18 x20 x24)
def impl_Dart_182.j7 : Nat → List (S52) → Int → Int → Int → Int → Int → Int → Option ((List (S52)))
 | 0, _, _, _, _, _, _, _ => none
 | k + 1, x0, x1, x3, x4, x18, x20, x24 => if x1 < x20 then (impl_Dart_182.j8 k x0 x1 x3 x4 x18 x20 x24 (decide (x20 < x18))) else (impl_Dart_182.j8 k x0 x1 x3 x4 x18 x20 x24 false)
def impl_Dart_182.j8 : Nat → List (S52) → Int → Int → Int → Int → Int → Int → Bool → Option ((List (S52)))
 | 0, _, _, _, _, _, _, _, _ => none
 | k + 1, x0, x1, x3, x4, x18, x20, x24, x199 => if x199 = true then ((impl_Dart_182.f k x0 x1 x20 x18 x4).bind fun t527 => (if x18 < x24 then (if x24 < x3 then ((impl_Dart_182.f k t527 x18 x24 x3 x4).bind fun t528 => (some t528)) else (some t527)) else (some t527))) else (if x18 < x24 then (if x24 < x3 then ((impl_Dart_182.f k x0 x18 x24 x3 x4).bind fun t529 => (some t529)) else (some x0)) else (some x0))
def impl_Dart_182.f : Nat → List (S52) → Int → Int → Int → Int → Option ((List (S52)))
 | 0, _, _, _, _, _ => none
 | k + 1, l0, a1, a2, a3, a4 => if (wrap64 (a2 - a1)) = 1 then (impl_Dart_182.l0 k l0 a1 a2 a3) else (if (wrap64 (a3 - a2)) = 1 then (impl_Dart_182.l2 k l0 a2 a1 a2) else (if a2 > (wrap64 ((IntKind.u64.wrap (wrap64 (a1 + a3))) / 2)) then (impl_Dart_182.j4 k l0 a1 a2 a3 a4 (wrap64 ((IntKind.u64.wrap (wrap64 (a1 + a3))) / 2)) (wrap64 ((wrap64 ((IntKind.u64.wrap (wrap64 (a1 + a3))) / 2)) + a2)) (wrap64 ((wrap64 ((wrap64 ((IntKind.u64.wrap (wrap64 (a1 + a3))) / 2)) + a2)) - a3)) (wrap64 ((IntKind.u64.wrap (wrap64 (a1 + a3))) / 2))) else (impl_Dart_182.j4 k l0 a1 a2 a3 a4 (wrap64 ((IntKind.u64.wrap (wrap64 (a1 + a3))) / 2)) (wrap64 ((wrap64 ((IntKind.u64.wrap (wrap64 (a1 + a3))) / 2)) + a2)) a1 a2)))
end
theorem impl_Dart_182.mono_l : ∀ k, (∀ y0 y1 y2 y3 y4, LeO (impl_Dart_182.f k y0 y1 y2 y3 y4) (impl_Dart_182.f (k + 1) y0 y1 y2 y3 y4)) ∧ (∀ y0 y1 y2 y3, LeO (impl_Dart_182.l0 k y0 y1 y2 y3) (impl_Dart_182.l0 (k + 1) y0 y1 y2 y3)) ∧ (∀ y0 y1 y2, LeO (impl_Dart_182.l1 k y0 y1 y2) (impl_Dart_182.l1 (k + 1) y0 y1 y2)) ∧ (∀ y0 y1 y2 y3, LeO (impl_Dart_182.l2 k y0 y1 y2 y3) (impl_Dart_182.l2 (k + 1) y0 y1 y2 y3)) ∧ (∀ y0 y1 y2, LeO (impl_Dart_182.l3 k y0 y1 y2) (impl_Dart_182.l3 (k + 1) y0 y1 y2)) ∧ (∀ y0 y1 y2 y3 y4 y5 y6 y7 y8, LeO (impl_Dart_182.j4 k y0 y1 y2 y3 y4 y5 y6 y7 y8) (impl_Dart_182.j4 (k + 1) y0 y1 y2 y3 y4 y5 y6 y7 y8)) ∧ (∀ y0 y1 y2 y3 y4 y5 y6 y7 y8 y9, LeO (impl_Dart_182.l4 k y0 y1 y2 y3 y4 y5 y6 y7 y8 y9) (impl_Dart_182.l4 (k + 1) y0 y1 y2 y3 y4 y5 y6 y7 y8 y9)) ∧ (∀ y0 y1 y2 y3 y4 y5 y6 y7 y8, LeO (impl_Dart_182.j6 k y0 y1 y2 y3 y4 y5 y6 y7 y8) (impl_Dart_182.j6 (k + 1) y0 y1 y2 y3 y4 y5 y6 y7 y8)) ∧ (∀ y0 y1 y2 y3 y4 y5 y6, LeO (impl_Dart_182.j7 k y0 y1 y2 y3 y4 y5 y6) (impl_Dart_182.j7 (k + 1) y0 y1 y2 y3 y4 y5 y6)) ∧ (∀ y0 y1 y2 y3 y4 y5 y6 y7, LeO (impl_Dart_182.j8 k y0 y1 y2 y3 y4 y5 y6 y7) (impl_Dart_182.j8 (k + 1) y0 y1 y2 y3 y4 y5 y6 y7))
 | 0 => ⟨fun _ _ _ _ _ r h => by simp [impl_Dart_182.f] at h, fun _ _ _ _ r h => by simp [impl_Dart_182.l0] at h, fun _ _ _ r h => by simp [impl_Dart_182.l1] at h, fun _ _ _ _ r h => by simp [impl_Dart_182.l2] at h, fun _ _ _ r h => by simp [impl_Dart_182.l3] at h, fun _ _ _ _ _ _ _ _ _ r h => by simp [impl_Dart_182.j4] at h, fun _ _ _ _ _ _ _ _ _ _ r h => by simp [impl_Dart_182.l4] at h, fun _ _ _ _ _ _ _ _ _ r h => by simp [impl_Dart_182.j6] at h, fun _ _ _ _ _ _ _ r h => by simp [impl_Dart_182.j7] at h, fun _ _ _ _ _ _ _ _ r h => by simp [impl_Dart_182.j8] at h⟩
 | k + 1 => by
  obtain ⟨ih0, ih1, ih2, ih3, ih4, ih5, ih6, ih7, ih8, ih9⟩ := impl_Dart_182.mono_l k
  refine ⟨?_, ?_, ?_, ?_, ?_, ?_, ?_, ?_, ?_, ?_⟩
  all_goals intros
  all_goals first | unfold impl_Dart_182.f | unfold impl_Dart_182.l0 | unfold impl_Dart_182.l1 | unfold impl_Dart_182.l2 | unfold impl_Dart_182.l3 | unfold impl_Dart_182.j4 | unfold impl_Dart_182.l4 | unfold impl_Dart_182.j6 | unfold impl_Dart_182.j7 | unfold impl_Dart_182.j8
  all_goals repeat' first
  | (with_reducible exact ih0 _ _ _ _ _)
  | (with_reducible exact ih1 _ _ _ _)
  | (with_reducible exact ih2 _ _ _)
  | (with_reducible exact ih3 _ _ _ _)
  | (with_reducible exact ih4 _ _ _)
  | (with_reducible exact ih5 _ _ _ _ _ _ _ _ _)
  | (with_reducible exact ih6 _ _ _ _ _ _ _ _ _ _)
  | (with_reducible exact ih7 _ _ _ _ _ _ _ _ _)
  | (with_reducible exact ih8 _ _ _ _ _ _ _)
  | (with_reducible exact ih9 _ _ _ _ _ _ _ _)
  | (with_reducible exact impl_Dart_192.mono _ _ _ _ _ _)
  | (with_reducible exact LeO.refl _)
  | (with_reducible exact LeO.none _)
  | (with_reducible refine LeO.ite ?_ ?_)
  | (with_reducible refine LeO.bind ?_ (fun _ => ?_))
theorem impl_Dart_182.mono : ∀ a0 a1 a2 a3 a4 k, LeO (impl_Dart_182.f k a0 a1 a2 a3 a4) (impl_Dart_182.f (k + 1) a0 a1 a2 a3 a4) := by
 intro a0 a1 a2 a3 a4 k
 obtain ⟨ih0, ih1, ih2, ih3, ih4, ih5, ih6, ih7, ih8, ih9⟩ := impl_Dart_182.mono_l k
 exact ih0 a0 a1 a2 a3 a4
def impl_Dart_182.T5 : Bool × List (List Nat × List Nat) := (true, [([], []), ([], []), ([], []), ([1, 2], [1, 2]), ([3], [3]), ([], []), ([], []), ([5, 6], [5, 6]), ([7], [7]), ([0, 4, 8], [0, 4, 8]), ([9], [9])])
def impl_Dart_182.B5 : List Nat := [0, 0, 0, 6, 14, 0, 0, 96, 224, 511, 1023]
theorem impl_Dart_182.tab5 : rtab .any (opsOf Tryz.f182 5) = impl_Dart_182.T5 := by kernel_rfl
theorem impl_Dart_182.bits5 : waitsOk impl_Dart_182.T5.2 impl_Dart_182.B5 = true := by kernel_rfl
def impl_Dart_182.T11 : Bool × List (List Nat × List Nat) := (true, [([], []), ([], []), ([], []), ([], []), ([3], [3]), ([], []), ([], []), ([6], [6]), ([5, 7], [5, 7]), ([8], [8]), ([], []), ([], []), ([10, 11], [10, 11]), ([12], [12]), ([0, 1, 0, 1, 5, 6, 7, 8, 9, 13], [0, 1]), ([14, 9, 0, 1, 5, 6, 7, 8, 9, 13], [9, 14]), ([2, 4, 0, 1, 2, 3, 4, 5, 6, 7, 8, 9, 10, 11, 12, 13, 14, 15], [2, 4]), ([16, 13, 15, 0, 1, 2, 3, 4, 5, 6, 7, 8, 9, 10, 11, 12, 13, 14, 15], [13, 16])])
def impl_Dart_182.B11 : List Nat := [0, 0, 0, 0, 8, 0, 0, 64, 224, 480, 0, 0, 3072, 7168, 16355, 32739, 65535, 131071]
theorem impl_Dart_182.tab11 : rtab .any (opsOf Tryz.f182 11) = impl_Dart_182.T11 := by kernel_rfl
theorem impl_Dart_182.bits11 : waitsOk impl_Dart_182.T11.2 impl_Dart_182.B11 = true := by kernel_rfl
def impl_Dart_182.T17 : Bool × List (List Nat × List Nat) := (true, [([], []), ([], []), ([], []), ([1, 2], [1, 2]), ([3], [3]), ([], []), ([], []), ([5, 6], [5, 6]), ([7], [7]), ([0, 4, 8], [0, 4, 8]), ([9], [9]), ([10], [10])])
def impl_Dart_182.B17 : List Nat := [0, 0, 0, 6, 14, 0, 0, 96, 224, 511, 1023, 2047]
theorem impl_Dart_182.tab17 : rtab .any (opsOf Tryz.f182 17) = impl_Dart_182.T17 := by kernel_rfl
theorem impl_Dart_182.bits17 : waitsOk impl_Dart_182.T17.2 impl_Dart_182.B17 = true := by kernel_rfl
def impl_Dart_182.T23 : Bool × List (List Nat × List Nat) := (true, [([], []), ([], []), ([], []), ([], []), ([3], [3]), ([], []), ([], []), ([6], [6]), ([5, 7], [5, 7]), ([8], [8]), ([], []), ([], []), ([10, 11], [10, 11]), ([12], [12]), ([0, 1, 0, 1, 5, 6, 7, 8, 9, 13], [0, 1]), ([14, 9, 0, 1, 5, 6, 7, 8, 9, 13], [9, 14]), ([2, 4, 0, 1, 2, 3, 4, 5, 6, 7, 8, 9, 10, 11, 12, 13, 14, 15], [2, 4]), ([16, 13, 15, 0, 1, 2, 3, 4, 5, 6, 7, 8, 9, 10, 11, 12, 13, 14, 15], [13, 16])])
def impl_Dart_182.B23 : List Nat := [0, 0, 0, 0, 8, 0, 0, 64, 224, 480, 0, 0, 3072, 7168, 16355, 32739, 65535, 131071]
theorem impl_Dart_182.tab23 : rtab .any (opsOf Tryz.f182 23) = impl_Dart_182.T23 := by kernel_rfl
theorem impl_Dart_182.bits23 : waitsOk impl_Dart_182.T23.2 impl_Dart_182.B23 = true := by kernel_rfl
def impl_Dart_182.T35 : Bool × List (List Nat × List Nat) := (true, [([], []), ([], []), ([], []), ([], []), ([2, 3], [2, 3]), ([1, 4], [1, 4]), ([5], [5]), ([], []), ([], []), ([7, 8], [7, 8]), ([9], [9]), ([0, 6, 10], [0, 6, 10]), ([11], [11]), ([12], [12])])
def impl_Dart_182.B35 : List Nat := [0, 0, 0, 0, 12, 30, 62, 0, 0, 384, 896, 2047, 4095, 8191]
theorem impl_Dart_182.tab35 : rtab .any (opsOf Tryz.f182 35) = impl_Dart_182.T35 := by kernel_rfl
theorem impl_Dart_182.bits35 : waitsOk impl_Dart_182.T35.2 impl_Dart_182.B35 = true := by kernel_rfl
set_option maxHeartbeats 8000000 in
set_option maxRecDepth 100000 in
theorem impl_Dart_182.calls (k : Nat) : ∀ (P0_ : Nat → Prop) (u9000_ : Value) (l0 : List (S52)) (a1 : Int) (a2 : Int) (a3 : Int) (a4 : Int) (r : List (S52)) (w0 w : World) (hB : Below w0.heap.size w0 w) (ho0 : Kd.R k52 52 w w0.heap.size P0_ u9000_ l0) (h : impl_Dart_182.f k l0 a1 a2 a3 a4 = some r),
  Calls Tryz.prog 182 #[u9000_, .int .i64 a1, .int .i64 a2, .int .i64 a3, (.func (.func 147) #[] #[])] w fun e w' => e = .returned (.tuple #[]) ∧ Kd.R k52 52 w' w0.heap.size (fun k_ => (P0_ k_ ∨ w.heap.size ≤ k_)) u9000_ r ∧ Below w0.heap.size w0 w' ∧ Kept w w' (fun k_ => P0_ k_) := by
 induction k using Nat.strongRecOn with
 | _ k ih =>
 intro P0_ u9000_ l0 a1 a2 a3 a4 r w0 w hB ho0 h
 cases k with
 | zero => exact absurd h (by simp [impl_Dart_182.f])
 | succ k =>
 simp only [impl_Dart_182.f] at h
 have hu52 := Tryz.underlying52
 have HO0 := aU (show Kd.R k52 52 w w0.heap.size (fun k_ => (P0_ k_ ∨ w.heap.size ≤ k_)) u9000_ l0 from Kd.R_mono ho0 (fun k_ hk => (.inl hk)))
 have HK := aU (Kept.refl w (fun k_ => P0_ k_))
 have HW0 := aU hB.size
 have HB := aU hB
 clear hB
 have H : (if (wrap64 (a2 - a1)) = 1 then (impl_Dart_182.l0 k l0 a1 a2 a3) else (if (wrap64 (a3 - a2)) = 1 then (impl_Dart_182.l2 k l0 a2 a1 a2) else (if a2 > (wrap64 ((IntKind.u64.wrap (wrap64 (a1 + a3))) / 2)) then (impl_Dart_182.j4 k l0 a1 a2 a3 a4 (wrap64 ((IntKind.u64.wrap (wrap64 (a1 + a3))) / 2)) (wrap64 ((wrap64 ((IntKind.u64.wrap (wrap64 (a1 + a3))) / 2)) + a2)) (wrap64 ((wrap64 ((wrap64 ((IntKind.u64.wrap (wrap64 (a1 + a3))) / 2)) + a2)) - a3)) (wrap64 ((IntKind.u64.wrap (wrap64 (a1 + a3))) / 2))) else (impl_Dart_182.j4 k l0 a1 a2 a3 a4 (wrap64 ((IntKind.u64.wrap (wrap64 (a1 + a3))) / 2)) (wrap64 ((wrap64 ((IntKind.u64.wrap (wrap64 (a1 + a3))) / 2)) + a2)) a1 a2)))) = some r := h
 clear h
 by_cases c6 : (wrap64 (a2 - a1)) = 1
 ·rw [if_pos c6] at H
  have c6b0 : ((wrap64 (a2 - a1)) == 1) = true := beq_iff_eq.mpr c6
  have c6b1 : ((wrap64 (a2 - a1)) != 1) = false := bne_eq_false_iff_eq.mpr c6
  clear c6
  have H' := aU H
  clear H
  go_enter Tryz.func182, Tryz.ntmps182
  go_wp2
  go_loopg [10, 11] k (fun kq v10 v11 w' => ∃ (x10_1 : Int) (x11_1 : Int), v10 = .int .i64 x10_1 ∧ v11 = .int .i64 x11_1 ∧ Aside0 (impl_Dart_182.l0 kq l0 a1 x10_1 x11_1 = some r) ∧ Aside0 (kq ≤ k) ∧ Aside0 (Kd.R k52 52 w' w0.heap.size (fun k_ => (P0_ k_ ∨ w.heap.size ≤ k_)) u9000_ l0) ∧ Aside0 (Kept w w' (fun k_ => P0_ k_)) ∧ Aside0 (Below w0.heap.size w0 w'))
  case atStart => exact ⟨(a2), (a3), eqU, eqU, H', ⟨Nat.le_refl _⟩, ⟨roU HO0⟩, ⟨by repeat (first | (with_reducible first | exact HK.out | apply Kept.alloc | apply Kept.drewN | apply Kept.drew) | exact HK.out)⟩, ⟨hbU⟩⟩
  case round => as_aux_lemma =>
   clear H'
   (try clear c6b0 c6b1)
   obtain ⟨x10_1, x11_1, rfl, rfl, HA, HK1, HO_0, HK, HB⟩ := hrel
   cases gk with
   | zero => exact absurd HA.out (by simp [impl_Dart_182.l0])
   | succ k1 =>
    have H := HA.out
    clear HA
    simp only [impl_Dart_182.l0] at H
    by_cases c7 : x10_1 < x11_1
    ·rw [if_pos c7] at H
     have c7b0 : decide (x10_1 < x11_1) = true := decide_eq_true c7
     clear c7
     obtain ⟨ji8, hji8⟩ : ∃ j_ : Int, (wrap64 ((IntKind.u64.wrap (wrap64 (x10_1 + x11_1))) / 2)) = j_ := ⟨_, rfl⟩
     replace H : (if 0 ≤ (ji8) then (if (ji8) < (l0.length : Int) then (if 0 ≤ a1 then (if a1 < (l0.length : Int) then ((impl_board_1.f ((rd_T52 l0 (ji8)).f0) ((rd_T52 l0 (ji8)).f1) ((rd_T52 l0 a1).f0) ((rd_T52 l0 a1).f1)).bind fun t511 => (if t511 < 0 then (impl_Dart_182.l0 k1 l0 a1 (wrap64 ((ji8) + 1)) x11_1) else (impl_Dart_182.l0 k1 l0 a1 x10_1 ji8))) else (none)) else (none)) else (none)) else (none)) = some r := by first | (rw [hji8] at H; exact H) | (simp only [hji8] at H ⊢; exact H)
     have hji8w : (IntKind.i64.wrap ((IntKind.u64.wrap (wrap64 (x10_1 + x11_1))) / 2)) = ji8 := (i64_w _).trans hji8
     replace H := ifS H
     obtain ⟨c9, H⟩ := H
     have c9b0 : decide (0 ≤ (ji8)) = true := decide_eq_true c9
     clear c9
     replace H := ifS H
     obtain ⟨c10, H⟩ := H
     have c10b0 : decide ((ji8) < (l0.length : Int)) = true := decide_eq_true c10
     clear c10
     replace H := ifS H
     obtain ⟨c11, H⟩ := H
     have c11b0 : decide (0 ≤ a1) = true := decide_eq_true c11
     clear c11
     replace H := ifS H
     obtain ⟨c12, H⟩ := H
     have c12b0 : decide (a1 < (l0.length : Int)) = true := decide_eq_true c12
     clear c12
     replace H := bindS H
     obtain ⟨t511, A13, H⟩ := H
     (try dsimp only at H)
     by_cases c14 : t511 < 0
     ·rw [if_pos c14] at H
      have c14b0 : decide (t511 < 0) = true := decide_eq_true c14
      clear c14
      have H' := aU H
      clear H
      try go_wp2
      replace HO_0 := aU (Kd.R_drew HO_0.out)
      replace HK := aU (Kept.drew HK.out)
      replace HB := aU (below_drew1 HB.out)
      obtain ⟨Ao16, co16, eo16⟩ := Kd.R_slice HO_0.out
      (first | subst eo16 | (injection eo16 with f1_ f2_ f3_; have f4_ := f1_.symm; have f5_ := f3_.symm; clear f1_ f2_ f3_; subst f4_; subst f5_))
      have p509 : 0 ≤ ((ji8) : Int) := dU
      have q509 : (ji8) < (l0.length : Int) := dU
      obtain ⟨ad509, e509, hx509_0, hx509_1⟩ := at_T52 (Kd.R_reads' HO_0.out).2.2 (ji8) p509 q509
      cases e509
      replace p509 := eq_true p509
      replace q509 := eq_true q509
      have p510 : 0 ≤ (a1 : Int) := dU
      have q510 : a1 < (l0.length : Int) := dU
      obtain ⟨ad510, e510, hx510_0, hx510_1⟩ := at_T52 (Kd.R_reads' HO_0.out).2.2 a1 p510 q510
      obtain rfl : ad509 = ad510 := (by injection e510)
      replace p510 := eq_true p510
      replace q510 := eq_true q510
      refine start_ (n := 11) (S := fun w' => w'.cell? (ad509.add (((ji8)).toNat * 2)) = some (.int .i64 ((rd_T52 l0 (ji8)).f0)) ∧ w'.cell? ⟨(ad509.add (((ji8)).toNat * 2)).block, (ad509.add (((ji8)).toNat * 2)).off + 1, none⟩ = some (.int .i64 ((rd_T52 l0 (ji8)).f1)) ∧ w'.cell? (ad509.add ((a1).toNat * 2)) = some (.int .i64 ((rd_T52 l0 a1).f0)) ∧ w'.cell? ⟨(ad509.add ((a1).toNat * 2)).block, (ad509.add ((a1).toNat * 2)).off + 1, none⟩ = some (.int .i64 ((rd_T52 l0 a1).f1))) (ds := []) #[false, false, false, false, false, false, false, false, false, false, false] (by kernel_rfl) rfl rfl ⟨hx509_0, hx509_1, hx510_0, hx510_1⟩ (fun hHeld => ?_); refine with_tabW impl_Dart_182.tab5 impl_Dart_182.bits5 (fun HT_ HW_ => ?_)
      generalize wr.drew = w15 at HO_0 HK HB hx509_0 hx509_1 hx510_0 hx510_1 hHeld ⊢
      refine puU 0 40 HT_ ?_
      refine puU 1 41 HT_ ?_
      refine puU 2 42 HT_ ?_
      refine puU 3 43 HT_ ?_
      refine puU 5 45 HT_ ?_
      refine puU 6 46 HT_ ?_
      refine puU 7 47 HT_ ?_
      refine tkU 4 44 HT_ HW_ hHeld ?_
      refine tkU 8 48 HT_ HW_ hHeld ?_
      refine onU 9 (some 49) HT_ (fun K hK => ?_)
      refine goesT_ Tryz.func147 (by kernel_rfl) rfl #[.agg #[.int .i64 ((rd_T52 l0 (ji8)).f0), .int .i64 ((rd_T52 l0 (ji8)).f1)], .agg #[.int .i64 ((rd_T52 l0 a1).f0), .int .i64 ((rd_T52 l0 a1).f1)]] (by rfl) rfl rfl (by (try simp only [List.map_toArray, List.map_cons, List.map_nil]); first | done | (simp only [hji8]; rfl) | rfl | (simp only [List.length_drop, List.length_take]; rfl)) (by rfl) ?_
      with_reducible refine (impl_board_1.calls ((rd_T52 l0 (ji8)).f0) ((rd_T52 l0 (ji8)).f1) ((rd_T52 l0 a1).f0) ((rd_T52 l0 a1).f1) t511 _ A13.out).mono ?_
      rintro e w17 ⟨rfl, hb⟩
      have HS0_ := (hb.cell (World.block_lt_of_cell? _ _ (hHeld.1))).trans (hHeld.1)
      have HS1_ := (hb.cell (World.block_lt_of_cell? _ _ (hHeld.2.1))).trans (hHeld.2.1)
      have HS2_ := (hb.cell (World.block_lt_of_cell? _ _ (hHeld.2.2.1))).trans (hHeld.2.2.1)
      have HS3_ := (hb.cell (World.block_lt_of_cell? _ _ (hHeld.2.2.2))).trans (hHeld.2.2.2)
      refine ⟨_, rfl, ?_⟩
      replace HO_0 := aU (Kd.R_below (roU HO_0) hb)
      replace HK := aU (Kept.below (S := (fun k_ => P0_ k_)) (ktU HK) hb)
      replace HB := bsU hb
      (try clear hb)
      refine hK.out _ _ ⟨HS0_, HS1_, HS2_, HS3_⟩ (fun hHeld => ?_)
      clear hK K
      refine nmU 49 ?_
      refine puU 10 50 HT_ ?_
      refine dnU HT_ ?_
      try go_wp2
      go_roundg k1
      case measure => have := HK1.out; omega
      case rel => exact ⟨(wrap64 ((ji8) + 1)), (x11_1), (by first | rfl | (simp; done) | (simp only [← hji8] <;> (first | rfl | simp)) | (simp [*]; done)), eqU, H', ⟨by have := HK1.out; omega⟩, ⟨roU HO_0⟩, ⟨by repeat (first | (with_reducible first | exact HK.out | apply Kept.alloc | apply Kept.drewN | apply Kept.drew) | exact HK.out)⟩, ⟨hbU⟩⟩
     ·rw [if_neg c14] at H
      have c14b0 : decide (t511 < 0) = false := decide_eq_false c14
      clear c14
      have H' := aU H
      clear H
      try go_wp2
      replace HO_0 := aU (Kd.R_drew HO_0.out)
      replace HK := aU (Kept.drew HK.out)
      replace HB := aU (below_drew1 HB.out)
      obtain ⟨Ao19, co19, eo19⟩ := Kd.R_slice HO_0.out
      (first | subst eo19 | (injection eo19 with f1_ f2_ f3_; have f4_ := f1_.symm; have f5_ := f3_.symm; clear f1_ f2_ f3_; subst f4_; subst f5_))
      have p509 : 0 ≤ ((ji8) : Int) := dU
      have q509 : (ji8) < (l0.length : Int) := dU
      obtain ⟨ad509, e509, hx509_0, hx509_1⟩ := at_T52 (Kd.R_reads' HO_0.out).2.2 (ji8) p509 q509
      cases e509
      replace p509 := eq_true p509
      replace q509 := eq_true q509
      have p510 : 0 ≤ (a1 : Int) := dU
      have q510 : a1 < (l0.length : Int) := dU
      obtain ⟨ad510, e510, hx510_0, hx510_1⟩ := at_T52 (Kd.R_reads' HO_0.out).2.2 a1 p510 q510
      obtain rfl : ad509 = ad510 := (by injection e510)
      replace p510 := eq_true p510
      replace q510 := eq_true q510
      refine start_ (n := 11) (S := fun w' => w'.cell? (ad509.add (((ji8)).toNat * 2)) = some (.int .i64 ((rd_T52 l0 (ji8)).f0)) ∧ w'.cell? ⟨(ad509.add (((ji8)).toNat * 2)).block, (ad509.add (((ji8)).toNat * 2)).off + 1, none⟩ = some (.int .i64 ((rd_T52 l0 (ji8)).f1)) ∧ w'.cell? (ad509.add ((a1).toNat * 2)) = some (.int .i64 ((rd_T52 l0 a1).f0)) ∧ w'.cell? ⟨(ad509.add ((a1).toNat * 2)).block, (ad509.add ((a1).toNat * 2)).off + 1, none⟩ = some (.int .i64 ((rd_T52 l0 a1).f1))) (ds := []) #[false, false, false, false, false, false, false, false, false, false, false] (by kernel_rfl) rfl rfl ⟨hx509_0, hx509_1, hx510_0, hx510_1⟩ (fun hHeld => ?_); refine with_tabW impl_Dart_182.tab5 impl_Dart_182.bits5 (fun HT_ HW_ => ?_)
      generalize wr.drew = w18 at HO_0 HK HB hx509_0 hx509_1 hx510_0 hx510_1 hHeld ⊢
      refine puU 0 40 HT_ ?_
      refine puU 1 41 HT_ ?_
      refine puU 2 42 HT_ ?_
      refine puU 3 43 HT_ ?_
      refine puU 5 45 HT_ ?_
      refine puU 6 46 HT_ ?_
      refine puU 7 47 HT_ ?_
      refine tkU 4 44 HT_ HW_ hHeld ?_
      refine tkU 8 48 HT_ HW_ hHeld ?_
      refine onU 9 (some 49) HT_ (fun K hK => ?_)
      refine goesT_ Tryz.func147 (by kernel_rfl) rfl #[.agg #[.int .i64 ((rd_T52 l0 (ji8)).f0), .int .i64 ((rd_T52 l0 (ji8)).f1)], .agg #[.int .i64 ((rd_T52 l0 a1).f0), .int .i64 ((rd_T52 l0 a1).f1)]] (by rfl) rfl rfl (by (try simp only [List.map_toArray, List.map_cons, List.map_nil]); first | done | (simp only [hji8]; rfl) | rfl | (simp only [List.length_drop, List.length_take]; rfl)) (by rfl) ?_
      with_reducible refine (impl_board_1.calls ((rd_T52 l0 (ji8)).f0) ((rd_T52 l0 (ji8)).f1) ((rd_T52 l0 a1).f0) ((rd_T52 l0 a1).f1) t511 _ A13.out).mono ?_
      rintro e w20 ⟨rfl, hb⟩
      have HS0_ := (hb.cell (World.block_lt_of_cell? _ _ (hHeld.1))).trans (hHeld.1)
      have HS1_ := (hb.cell (World.block_lt_of_cell? _ _ (hHeld.2.1))).trans (hHeld.2.1)
      have HS2_ := (hb.cell (World.block_lt_of_cell? _ _ (hHeld.2.2.1))).trans (hHeld.2.2.1)
      have HS3_ := (hb.cell (World.block_lt_of_cell? _ _ (hHeld.2.2.2))).trans (hHeld.2.2.2)
      refine ⟨_, rfl, ?_⟩
      replace HO_0 := aU (Kd.R_below (roU HO_0) hb)
      replace HK := aU (Kept.below (S := (fun k_ => P0_ k_)) (ktU HK) hb)
      replace HB := bsU hb
      (try clear hb)
      refine hK.out _ _ ⟨HS0_, HS1_, HS2_, HS3_⟩ (fun hHeld => ?_)
      clear hK K
      refine nmU 49 ?_
      refine puU 10 50 HT_ ?_
      refine dnU HT_ ?_
      try go_wp2
      go_roundg k1
      case measure => have := HK1.out; omega
      case rel => exact ⟨(x10_1), (ji8), eqU, (by first | rfl | (simp; done) | (simp only [← hji8] <;> (first | rfl | simp)) | (simp [*]; done)), H', ⟨by have := HK1.out; omega⟩, ⟨roU HO_0⟩, ⟨by repeat (first | (with_reducible first | exact HK.out | apply Kept.alloc | apply Kept.drewN | apply Kept.drew) | exact HK.out)⟩, ⟨hbU⟩⟩
    ·rw [if_neg c7] at H
     have c7b0 : decide (x10_1 < x11_1) = false := decide_eq_false c7
     clear c7
     have H' := aU H
     clear H
     go_wp2
     go_loopg [13] k1 (fun kq v13 w' => ∃ (x0_2 : List (S52)) (x13_2 : Int), v13 = .int .i64 x13_2 ∧ Aside0 (impl_Dart_182.l1 kq x0_2 x10_1 x13_2 = some r) ∧ Aside0 (kq ≤ k1) ∧ Aside0 (Kd.R k52 52 w' w0.heap.size (fun k_ => (P0_ k_ ∨ w.heap.size ≤ k_)) u9000_ x0_2) ∧ Aside0 (Kept w w' (fun k_ => P0_ k_)) ∧ Aside0 (Below w0.heap.size w0 w'))
     case atStart => exact ⟨(l0), (a1), eqU, H', ⟨Nat.le_refl _⟩, ⟨roU HO_0⟩, ⟨by repeat (first | (with_reducible first | exact HK.out | apply Kept.alloc | apply Kept.drewN | apply Kept.drew) | exact HK.out)⟩, ⟨hbU⟩⟩
     case round => as_aux_lemma =>
      clear H'
      (try clear c7b0); (try clear c9b0); (try clear c10b0); (try clear c11b0); (try clear c12b0)
      obtain ⟨x0_2, x13_2, rfl, HA, HK2, HO_0, HK, HB⟩ := hrel
      cases gk with
      | zero => exact absurd HA.out (by simp [impl_Dart_182.l1])
      | succ k2 =>
       have H := HA.out
       clear HA
       simp only [impl_Dart_182.l1] at H
       by_cases c21 : x13_2 < (wrap64 (x10_1 - 1))
       ·rw [if_pos c21] at H
        have c21b0 : decide (x13_2 < (wrap64 (x10_1 - 1))) = true := decide_eq_true c21
        clear c21
        obtain ⟨ji22, hji22⟩ : ∃ j_ : Int, (wrap64 (x13_2 + 1)) = j_ := ⟨_, rfl⟩
        replace H : (if 0 ≤ (ji22) then (if (ji22) < (x0_2.length : Int) then (if 0 ≤ x13_2 then (if x13_2 < (x0_2.length : Int) then (impl_Dart_182.l1 k2 ((x0_2.set (x13_2 : Int).toNat (⟨(rd_T52 x0_2 (ji22)).f0, (rd_T52 x0_2 (ji22)).f1⟩ : S52)).set ((ji22) : Int).toNat (⟨(rd_T52 x0_2 x13_2).f0, (rd_T52 x0_2 x13_2).f1⟩ : S52)) x10_1 ji22) else (none)) else (none)) else (none)) else (none)) = some r := by first | (rw [hji22] at H; exact H) | (simp only [hji22] at H ⊢; exact H)
        have hji22w : (IntKind.i64.wrap (x13_2 + 1)) = ji22 := (i64_w _).trans hji22
        replace H := ifS H
        obtain ⟨c23, H⟩ := H
        have c23b0 : decide (0 ≤ (ji22)) = true := decide_eq_true c23
        clear c23
        replace H := ifS H
        obtain ⟨c24, H⟩ := H
        have c24b0 : decide ((ji22) < (x0_2.length : Int)) = true := decide_eq_true c24
        clear c24
        replace H := ifS H
        obtain ⟨c25, H⟩ := H
        have c25b0 : decide (0 ≤ x13_2) = true := decide_eq_true c25
        clear c25
        replace H := ifS H
        obtain ⟨c26, H⟩ := H
        have c26b0 : decide (x13_2 < (x0_2.length : Int)) = true := decide_eq_true c26
        clear c26
        obtain ⟨y514, hy514⟩ : ∃ y_ : List (S52), y_ = (x0_2.set (x13_2 : Int).toNat (⟨(rd_T52 x0_2 (ji22)).f0, (rd_T52 x0_2 (ji22)).f1⟩ : S52)) := ⟨_, rfl⟩
        replace H : (impl_Dart_182.l1 k2 (y514.set ((ji22) : Int).toNat (⟨(rd_T52 x0_2 x13_2).f0, (rd_T52 x0_2 x13_2).f1⟩ : S52)) x10_1 ji22) = some r := by first | (rw [hy514]; with_reducible exact H) | (have H2_ := (Option.bind_some _ _).symm.trans H; rw [hy514]; with_reducible exact H2_) | (have H2_ := (Option.bind_some _ _).symm.trans H; with_reducible exact H2_) | with_reducible exact H | (rw [hy514]; exact H) | exact H
        have Ny514 := aU hy514
        clear hy514
        obtain ⟨y515, hy515⟩ : ∃ y_ : List (S52), y_ = (y514.set ((ji22) : Int).toNat (⟨(rd_T52 x0_2 x13_2).f0, (rd_T52 x0_2 x13_2).f1⟩ : S52)) := ⟨_, rfl⟩
        replace H : (impl_Dart_182.l1 k2 y515 x10_1 ji22) = some r := by first | (rw [hy515]; with_reducible exact H) | (have H2_ := (Option.bind_some _ _).symm.trans H; rw [hy515]; with_reducible exact H2_) | (have H2_ := (Option.bind_some _ _).symm.trans H; with_reducible exact H2_) | with_reducible exact H | (rw [hy515]; exact H) | exact H
        have Ny515 := aU hy515
        clear hy515
        have H' := aU H
        clear H
        try go_wp2
        replace HO_0 := aU (Kd.R_drew HO_0.out)
        replace HK := aU (Kept.drew HK.out)
        replace HB := aU (below_drew1 HB.out)
        obtain ⟨Ao30, co30, eo30⟩ := Kd.R_slice HO_0.out
        (first | subst eo30 | (injection eo30 with f1_ f2_ f3_; have f4_ := f1_.symm; have f5_ := f3_.symm; clear f1_ f2_ f3_; subst f4_; subst f5_))
        have p512 : 0 ≤ ((ji22) : Int) := dU
        have q512 : (ji22) < (x0_2.length : Int) := dU
        obtain ⟨ad512, e512, hx512_0, hx512_1⟩ := at_T52 (Kd.R_reads' HO_0.out).2.2 (ji22) p512 q512
        cases e512
        replace p512 := eq_true p512
        replace q512 := eq_true q512
        have p513 : 0 ≤ (x13_2 : Int) := dU
        have q513 : x13_2 < (x0_2.length : Int) := dU
        obtain ⟨ad513, e513, hx513_0, hx513_1⟩ := at_T52 (Kd.R_reads' HO_0.out).2.2 x13_2 p513 q513
        obtain rfl : ad512 = ad513 := (by injection e513)
        replace p513 := eq_true p513
        replace q513 := eq_true q513
        have p27 : 0 ≤ (x13_2 : Int) := dU
        have q27 : (x13_2 : Int) < ((x0_2.length : Int) : Int) := dU
        obtain ⟨go27, co27, eo27, gb27, gl27, cl27, HG27⟩ := Kd.R_form HO_0.out (by omega)
        (first | cases eo27 | (injection eo27 with ea_ en_ ec_; (first | subst ea_ | (injection ea_ with ea_; subst ea_)); subst ec_; clear en_))
        have GB27 := aU gb27
        have GG27 := aU HG27
        clear gb27 gl27 HG27
        have HMgo27 := aU (show (P0_ go27 ∨ w.heap.size ≤ go27) from (HO_0.out.1 _ rfl))
        (first | simp only [add_plain] at hx512_0 | skip)
        (first | simp only [add_plain] at hx512_1 | skip)
        (first | simp only [add_plain] at hx513_0 | skip)
        (first | simp only [add_plain] at hx513_1 | skip)
        obtain ⟨ce27, hcl27, hM27, hcc27, hfr27⟩ := Kd.R_elem HO_0.out z52 (x13_2 : Int) p27 q27
        obtain rfl := k52_openM hM27
        have hx27_0 : World.cell? _ ⟨go27, (x13_2 : Int).toNat * 2, none⟩ = some (.int .i64 ((rd_T52 x0_2 x13_2).f0)) := hcc27 0 _ rfl
        have hx27_1 : World.cell? _ ⟨go27, (x13_2 : Int).toNat * 2 + 1, none⟩ = some (.int .i64 ((rd_T52 x0_2 x13_2).f1)) := hcc27 1 _ rfl
        have hf27_0 : World.frozen? _ ⟨go27, (x13_2 : Int).toNat * 2, none⟩ = false := hfr27 0
        have hf27_1 : World.frozen? _ ⟨go27, (x13_2 : Int).toNat * 2 + 1, none⟩ = false := hfr27 1
        clear hcl27 hcc27 hfr27 hM27
        replace p27 := eq_true p27
        replace q27 := eq_true q27
        obtain ⟨ce31, hcl31, hM31, hcc31, hfr31⟩ := Kd.R_elem HO_0.out z52 (x13_2 : Int) (dU) (by have h_ : (x13_2 : Int) < ((x0_2.length : Int) : Int) := dU; first | exact h_ | (have e_ := (Kd.R_reads' HO_0.out).1; omega) | simpa using h_)
        obtain rfl := k52_openM hM31
        have HP31 := (Kd.R_seg HO_0.out (x13_2 : Int) (dU) (by have h_ : (x13_2 : Int) < ((x0_2.length : Int) : Int) := dU; first | exact h_ | (have e_ := (Kd.R_reads' HO_0.out).1; omega) | simpa using h_) (seg := [.int .i64 ((rd_T52 x0_2 (ji22)).f0), .int .i64 ((rd_T52 x0_2 (ji22)).f1)]) (j := 0) hcl31 hcc31 (show 2 ≤ 2 from by decide) (x' := (⟨(rd_T52 x0_2 (ji22)).f0, (rd_T52 x0_2 (ji22)).f1⟩ : S52)) (k52_mkM _ _ _ (⟨(rd_T52 x0_2 (ji22)).f0, (rd_T52 x0_2 (ji22)).f1⟩ : S52) ) (fun _ hk => hk)).1
        rw [← Ny514.out] at HP31
        have HQ31 := aU HP31
        clear hcl31 hcc31 hfr31 hM31 HP31
        have p28 : 0 ≤ ((ji22) : Int) := dU
        have q28 : ((ji22) : Int) < ((x0_2.length : Int) : Int) := dU
        obtain ⟨ce28, hcl28, hM28, hcc28, hfr28⟩ := Kd.R_elem HQ31.out z52 ((ji22) : Int) p28 q28
        obtain rfl := k52_openM hM28
        have hx28_0 : World.cell? _ ⟨go27, ((ji22) : Int).toNat * 2, none⟩ = some (.int .i64 ((rd_T52 y514 (ji22)).f0)) := hcc28 0 _ rfl
        have hx28_1 : World.cell? _ ⟨go27, ((ji22) : Int).toNat * 2 + 1, none⟩ = some (.int .i64 ((rd_T52 y514 (ji22)).f1)) := hcc28 1 _ rfl
        have hf28_0 : World.frozen? _ ⟨go27, ((ji22) : Int).toNat * 2, none⟩ = false := hfr28 0
        have hf28_1 : World.frozen? _ ⟨go27, ((ji22) : Int).toNat * 2 + 1, none⟩ = false := hfr28 1
        clear hcl28 hcc28 hfr28 hM28
        replace p28 := eq_true p28
        replace q28 := eq_true q28
        obtain ⟨ce32, hcl32, hM32, hcc32, hfr32⟩ := Kd.R_elem HQ31.out z52 ((ji22) : Int) (dU) (by have h_ : ((ji22) : Int) < ((x0_2.length : Int) : Int) := dU; first | exact h_ | (have e_ := (Kd.R_reads' HO_0.out).1; omega) | simpa using h_)
        obtain rfl := k52_openM hM32
        have HP32 := (Kd.R_seg HQ31.out ((ji22) : Int) (dU) (by have h_ : ((ji22) : Int) < ((x0_2.length : Int) : Int) := dU; first | exact h_ | (have e_ := (Kd.R_reads' HO_0.out).1; omega) | simpa using h_) (seg := [.int .i64 ((rd_T52 x0_2 x13_2).f0), .int .i64 ((rd_T52 x0_2 x13_2).f1)]) (j := 0) hcl32 hcc32 (show 2 ≤ 2 from by decide) (x' := (⟨(rd_T52 x0_2 x13_2).f0, (rd_T52 x0_2 x13_2).f1⟩ : S52)) (k52_mkM _ _ _ (⟨(rd_T52 x0_2 x13_2).f0, (rd_T52 x0_2 x13_2).f1⟩ : S52) ) (fun _ hk => hk)).1
        rw [← Ny515.out] at HP32
        have HQ32 := aU HP32
        clear hcl32 hcc32 hfr32 hM32 HP32
        refine start_ (n := 18) (S := fun w' => w'.cell? ⟨go27, (((ji22)).toNat * 2), none⟩ = some (.int .i64 ((rd_T52 x0_2 (ji22)).f0)) ∧ w'.cell? ⟨go27, (((ji22)).toNat * 2) + 1, none⟩ = some (.int .i64 ((rd_T52 x0_2 (ji22)).f1)) ∧ w'.cell? ⟨go27, ((x13_2).toNat * 2), none⟩ = some (.int .i64 ((rd_T52 x0_2 x13_2).f0)) ∧ w'.cell? ⟨go27, ((x13_2).toNat * 2) + 1, none⟩ = some (.int .i64 ((rd_T52 x0_2 x13_2).f1))) (ds := [15, 17]) #[false, false, false, false, false, false, false, false, false, false, false, false, false, false, false, false, false, false] (by kernel_rfl) rfl rfl ⟨hx512_0, hx512_1, hx513_0, hx513_1⟩ (fun hHeld => ?_); refine with_tabW impl_Dart_182.tab11 impl_Dart_182.bits11 (fun HT_ HW_ => ?_)
        generalize wr.drew = w29 at HO_0 HK HB GG27 HQ31 HQ32 hf27_0 hf27_1 hf28_0 hf28_1 hx27_0 hx27_1 hx28_0 hx28_1 hx512_0 hx512_1 hx513_0 hx513_1 hHeld ⊢
        refine puU 0 61 HT_ ?_
        refine puU 1 62 HT_ ?_
        refine puU 2 63 HT_ ?_
        refine puU 3 64 HT_ ?_
        refine puU 4 65 HT_ ?_
        refine puU 5 66 HT_ ?_
        refine puU 6 67 HT_ ?_
        refine puU 7 68 HT_ ?_
        refine puU 8 69 HT_ ?_
        refine puU 10 71 HT_ ?_
        refine puU 11 72 HT_ ?_
        refine puU 12 73 HT_ ?_
        refine tkU 9 70 HT_ HW_ hHeld ?_
        refine tkU 13 74 HT_ HW_ hHeld ?_
        refine puU 14 75 HT_ ?_
        refine last_ (i := 15) (N := none) #[true, true, true, true, true, true, true, true, true, true, true, true, true, true, true, true, false, false] rfl rfl (one_of HT_.out (by kernel_rfl)) (by decide) (fun K hK => ?_)
        obtain ⟨ceY, hclY, hMY, hccY, hfrY⟩ := Kd.R_elem HO_0.out z52 ((ji22) : Int) (by first | exact of_eq_true p28 | (with_reducible assumption) | exact of_decide_eq_true (by assumption)) (by first | exact of_eq_true q28 | simpa using of_eq_true q28)
        obtain rfl := k52_openM hMY
        have hzY_0 : World.cell? _ ⟨go27, ((ji22) : Int).toNat * 2, none⟩ = _ := hccY 0 _ rfl
        have hzY_1 : World.cell? _ ⟨go27, ((ji22) : Int).toNat * 2 + 1, none⟩ = _ := hccY 1 _ rfl
        have hfY_0 : World.frozen? _ ⟨go27, ((ji22) : Int).toNat * 2, none⟩ = false := hfrY 0
        have hfY_1 : World.frozen? _ ⟨go27, ((ji22) : Int).toNat * 2 + 1, none⟩ = false := hfrY 1
        obtain ⟨cy0, hy0⟩ := setSome (p := ⟨go27, (x13_2 : Int).toNat * 2, none⟩) (x := .int .i64 ((rd_T52 x0_2 (ji22)).f0)) hzY_0
        obtain ⟨cy2, hy2⟩ := setSome (p := ⟨go27, (x13_2 : Int).toNat * 2, none⟩) (x := .int .i64 ((rd_T52 x0_2 (ji22)).f0)) hzY_1
        obtain ⟨cy1, hy1⟩ := setSome (p := ⟨go27, (x13_2 : Int).toNat * 2 + 1, none⟩) (x := .int .i64 ((rd_T52 x0_2 (ji22)).f1)) hy2
        clear hy2 hccY hfrY hclY hMY
        refine skip_ (w1 := ?_) (by rfl) rfl ?_ ?_
        rotate_left
        ·go_simp
         rfl
        refine hK.out _ _ ?_
        clear hK K
        refine puU 16 76 HT_ ?_
        refine last_ (i := 17) (N := none) #[true, true, true, true, true, true, true, true, true, true, true, true, true, true, true, true, true, true] rfl rfl (one_of HT_.out (by kernel_rfl)) (by decide) (fun K hK => ?_)
        refine skip_ (w1 := ?_) (by rfl) rfl ?_ ?_
        rotate_left
        ·go_simp
         rfl
        refine hK.out _ _ ?_
        clear hK K
        refine dnU HT_ ?_
        try go_wp2
        go_roundg k2
        case measure => have := HK1.out; have := HK2.out; omega
        case rel => exact ⟨(y515), (ji22), (by first | rfl | (simp; done) | (simp only [← hji22] <;> (first | rfl | simp)) | (simp [*]; done)), H', ⟨by have := HK1.out; have := HK2.out; omega⟩, ⟨roU HQ32⟩, ⟨by repeat (first | (with_reducible first | exact HK.out | apply Kept.alloc | apply Kept.drewN | apply Kept.drew | refine Kept.setCell ?_ HMgo27.out _ | refine Kept.setCell ?_ HMgo27.out _ | refine Kept.setCell ?_ HMgo27.out _ | refine Kept.setCell ?_ HMgo27.out _) | exact HK.out)⟩, ⟨by repeat (first | (with_reducible first | exact HB.out | apply below_alloc | apply pw_below_drewN | apply below_drew1 | refine below_set ?_ GB27.out | refine below_set ?_ GB27.out | refine below_set ?_ GB27.out | refine below_set ?_ GB27.out) | exact HB.out)⟩⟩
       ·rw [if_neg c21] at H
        have c21b0 : decide (x13_2 < (wrap64 (x10_1 - 1))) = false := decide_eq_false c21
        clear c21
        obtain rfl := Option.some.inj H
        go_wp2
        first | go_end0 | ((try simp only [Exit.inBlock, Exit.then]); refine bodyPost_ret (results_none rfl _ _ _) rfl ?_)
        exact ⟨errU, by (with_reducible repeat (first | apply Kd.R_alloc | apply Kd.R_drewN | apply Kd.R_drew)); exact HO_0.out, hbU, ktU HK⟩
 ·rw [if_neg c6] at H
  have c6b0 : ((wrap64 (a2 - a1)) == 1) = false := beq_eq_false_iff_ne.mpr c6
  have c6b1 : ((wrap64 (a2 - a1)) != 1) = true := bne_iff_ne.mpr c6
  by_cases c33 : (wrap64 (a3 - a2)) = 1
  ·rw [if_pos c33] at H
   have c33b0 : ((wrap64 (a3 - a2)) == 1) = true := beq_iff_eq.mpr c33
   have c33b1 : ((wrap64 (a3 - a2)) != 1) = false := bne_eq_false_iff_eq.mpr c33
   clear c33
   have H' := aU H
   clear H
   go_enter Tryz.func182, Tryz.ntmps182
   go_wp2
   go_loopg [14, 15] k (fun kq v14 v15 w' => ∃ (x14_1 : Int) (x15_1 : Int), v14 = .int .i64 x14_1 ∧ v15 = .int .i64 x15_1 ∧ Aside0 (impl_Dart_182.l2 kq l0 a2 x14_1 x15_1 = some r) ∧ Aside0 (kq ≤ k) ∧ Aside0 (Kd.R k52 52 w' w0.heap.size (fun k_ => (P0_ k_ ∨ w.heap.size ≤ k_)) u9000_ l0) ∧ Aside0 (Kept w w' (fun k_ => P0_ k_)) ∧ Aside0 (Below w0.heap.size w0 w'))
   case atStart => exact ⟨(a1), (a2), eqU, eqU, H', ⟨Nat.le_refl _⟩, ⟨roU HO0⟩, ⟨by repeat (first | (with_reducible first | exact HK.out | apply Kept.alloc | apply Kept.drewN | apply Kept.drew) | exact HK.out)⟩, ⟨hbU⟩⟩
   case round => as_aux_lemma =>
    clear H'
    (try clear c6b0 c6b1); (try clear c33b0 c33b1)
    obtain ⟨x14_1, x15_1, rfl, rfl, HA, HK1, HO_0, HK, HB⟩ := hrel
    cases gk with
    | zero => exact absurd HA.out (by simp [impl_Dart_182.l2])
    | succ k1 =>
     have H := HA.out
     clear HA
     simp only [impl_Dart_182.l2] at H
     by_cases c34 : x14_1 < x15_1
     ·rw [if_pos c34] at H
      have c34b0 : decide (x14_1 < x15_1) = true := decide_eq_true c34
      clear c34
      replace H := ifS H
      obtain ⟨c35, H⟩ := H
      have c35b0 : decide (0 ≤ a2) = true := decide_eq_true c35
      clear c35
      replace H := ifS H
      obtain ⟨c36, H⟩ := H
      have c36b0 : decide (a2 < (l0.length : Int)) = true := decide_eq_true c36
      clear c36
      obtain ⟨ji37, hji37⟩ : ∃ j_ : Int, (wrap64 ((IntKind.u64.wrap (wrap64 (x14_1 + x15_1))) / 2)) = j_ := ⟨_, rfl⟩
      replace H : (if 0 ≤ (ji37) then (if (ji37) < (l0.length : Int) then ((impl_board_1.f ((rd_T52 l0 a2).f0) ((rd_T52 l0 a2).f1) ((rd_T52 l0 (ji37)).f0) ((rd_T52 l0 (ji37)).f1)).bind fun t518 => (if t518 < 0 then (impl_Dart_182.l2 k1 l0 a2 x14_1 ji37) else (impl_Dart_182.l2 k1 l0 a2 (wrap64 ((ji37) + 1)) x15_1))) else (none)) else (none)) = some r := by first | (rw [hji37] at H; exact H) | (simp only [hji37] at H ⊢; exact H)
      have hji37w : (IntKind.i64.wrap ((IntKind.u64.wrap (wrap64 (x14_1 + x15_1))) / 2)) = ji37 := (i64_w _).trans hji37
      replace H := ifS H
      obtain ⟨c38, H⟩ := H
      have c38b0 : decide (0 ≤ (ji37)) = true := decide_eq_true c38
      clear c38
      replace H := ifS H
      obtain ⟨c39, H⟩ := H
      have c39b0 : decide ((ji37) < (l0.length : Int)) = true := decide_eq_true c39
      clear c39
      replace H := bindS H
      obtain ⟨t518, A40, H⟩ := H
      (try dsimp only at H)
      by_cases c41 : t518 < 0
      ·rw [if_pos c41] at H
       have c41b0 : decide (t518 < 0) = true := decide_eq_true c41
       clear c41
       have H' := aU H
       clear H
       try go_wp2
       replace HO_0 := aU (Kd.R_drew HO_0.out)
       replace HK := aU (Kept.drew HK.out)
       replace HB := aU (below_drew1 HB.out)
       obtain ⟨Ao43, co43, eo43⟩ := Kd.R_slice HO_0.out
       (first | subst eo43 | (injection eo43 with f1_ f2_ f3_; have f4_ := f1_.symm; have f5_ := f3_.symm; clear f1_ f2_ f3_; subst f4_; subst f5_))
       have p516 : 0 ≤ (a2 : Int) := dU
       have q516 : a2 < (l0.length : Int) := dU
       obtain ⟨ad516, e516, hx516_0, hx516_1⟩ := at_T52 (Kd.R_reads' HO_0.out).2.2 a2 p516 q516
       cases e516
       replace p516 := eq_true p516
       replace q516 := eq_true q516
       have p517 : 0 ≤ ((ji37) : Int) := dU
       have q517 : (ji37) < (l0.length : Int) := dU
       obtain ⟨ad517, e517, hx517_0, hx517_1⟩ := at_T52 (Kd.R_reads' HO_0.out).2.2 (ji37) p517 q517
       obtain rfl : ad516 = ad517 := (by injection e517)
       replace p517 := eq_true p517
       replace q517 := eq_true q517
       refine start_ (n := 12) (S := fun w' => w'.cell? (ad516.add ((a2).toNat * 2)) = some (.int .i64 ((rd_T52 l0 a2).f0)) ∧ w'.cell? ⟨(ad516.add ((a2).toNat * 2)).block, (ad516.add ((a2).toNat * 2)).off + 1, none⟩ = some (.int .i64 ((rd_T52 l0 a2).f1)) ∧ w'.cell? (ad516.add (((ji37)).toNat * 2)) = some (.int .i64 ((rd_T52 l0 (ji37)).f0)) ∧ w'.cell? ⟨(ad516.add (((ji37)).toNat * 2)).block, (ad516.add (((ji37)).toNat * 2)).off + 1, none⟩ = some (.int .i64 ((rd_T52 l0 (ji37)).f1))) (ds := []) #[false, false, false, false, false, false, false, false, false, false, false, false] (by kernel_rfl) rfl rfl ⟨hx516_0, hx516_1, hx517_0, hx517_1⟩ (fun hHeld => ?_); refine with_tabW impl_Dart_182.tab17 impl_Dart_182.bits17 (fun HT_ HW_ => ?_)
       generalize wr.drew = w42 at HO_0 HK HB hx516_0 hx516_1 hx517_0 hx517_1 hHeld ⊢
       refine puU 0 92 HT_ ?_
       refine puU 1 93 HT_ ?_
       refine puU 2 94 HT_ ?_
       refine puU 3 95 HT_ ?_
       refine puU 5 97 HT_ ?_
       refine puU 6 98 HT_ ?_
       refine puU 7 99 HT_ ?_
       refine tkU 4 96 HT_ HW_ hHeld ?_
       refine tkU 8 100 HT_ HW_ hHeld ?_
       refine onU 9 (some 101) HT_ (fun K hK => ?_)
       refine goesT_ Tryz.func147 (by kernel_rfl) rfl #[.agg #[.int .i64 ((rd_T52 l0 a2).f0), .int .i64 ((rd_T52 l0 a2).f1)], .agg #[.int .i64 ((rd_T52 l0 (ji37)).f0), .int .i64 ((rd_T52 l0 (ji37)).f1)]] (by rfl) rfl rfl (by (try simp only [List.map_toArray, List.map_cons, List.map_nil]); first | done | (simp only [hji37]; rfl) | rfl | (simp only [List.length_drop, List.length_take]; rfl)) (by rfl) ?_
       with_reducible refine (impl_board_1.calls ((rd_T52 l0 a2).f0) ((rd_T52 l0 a2).f1) ((rd_T52 l0 (ji37)).f0) ((rd_T52 l0 (ji37)).f1) t518 _ A40.out).mono ?_
       rintro e w44 ⟨rfl, hb⟩
       have HS0_ := (hb.cell (World.block_lt_of_cell? _ _ (hHeld.1))).trans (hHeld.1)
       have HS1_ := (hb.cell (World.block_lt_of_cell? _ _ (hHeld.2.1))).trans (hHeld.2.1)
       have HS2_ := (hb.cell (World.block_lt_of_cell? _ _ (hHeld.2.2.1))).trans (hHeld.2.2.1)
       have HS3_ := (hb.cell (World.block_lt_of_cell? _ _ (hHeld.2.2.2))).trans (hHeld.2.2.2)
       refine ⟨_, rfl, ?_⟩
       replace HO_0 := aU (Kd.R_below (roU HO_0) hb)
       replace HK := aU (Kept.below (S := (fun k_ => P0_ k_)) (ktU HK) hb)
       replace HB := bsU hb
       (try clear hb)
       refine hK.out _ _ ⟨HS0_, HS1_, HS2_, HS3_⟩ (fun hHeld => ?_)
       clear hK K
       refine nmU 101 ?_
       refine puU 10 102 HT_ ?_
       refine puU 11 103 HT_ ?_
       refine dnU HT_ ?_
       try go_wp2
       go_roundg k1
       case measure => have := HK1.out; omega
       case rel => exact ⟨(x14_1), (ji37), eqU, (by first | rfl | (simp; done) | (simp only [← hji37] <;> (first | rfl | simp)) | (simp [*]; done)), H', ⟨by have := HK1.out; omega⟩, ⟨roU HO_0⟩, ⟨by repeat (first | (with_reducible first | exact HK.out | apply Kept.alloc | apply Kept.drewN | apply Kept.drew) | exact HK.out)⟩, ⟨hbU⟩⟩
      ·rw [if_neg c41] at H
       have c41b0 : decide (t518 < 0) = false := decide_eq_false c41
       clear c41
       have H' := aU H
       clear H
       try go_wp2
       replace HO_0 := aU (Kd.R_drew HO_0.out)
       replace HK := aU (Kept.drew HK.out)
       replace HB := aU (below_drew1 HB.out)
       obtain ⟨Ao46, co46, eo46⟩ := Kd.R_slice HO_0.out
       (first | subst eo46 | (injection eo46 with f1_ f2_ f3_; have f4_ := f1_.symm; have f5_ := f3_.symm; clear f1_ f2_ f3_; subst f4_; subst f5_))
       have p516 : 0 ≤ (a2 : Int) := dU
       have q516 : a2 < (l0.length : Int) := dU
       obtain ⟨ad516, e516, hx516_0, hx516_1⟩ := at_T52 (Kd.R_reads' HO_0.out).2.2 a2 p516 q516
       cases e516
       replace p516 := eq_true p516
       replace q516 := eq_true q516
       have p517 : 0 ≤ ((ji37) : Int) := dU
       have q517 : (ji37) < (l0.length : Int) := dU
       obtain ⟨ad517, e517, hx517_0, hx517_1⟩ := at_T52 (Kd.R_reads' HO_0.out).2.2 (ji37) p517 q517
       obtain rfl : ad516 = ad517 := (by injection e517)
       replace p517 := eq_true p517
       replace q517 := eq_true q517
       refine start_ (n := 12) (S := fun w' => w'.cell? (ad516.add ((a2).toNat * 2)) = some (.int .i64 ((rd_T52 l0 a2).f0)) ∧ w'.cell? ⟨(ad516.add ((a2).toNat * 2)).block, (ad516.add ((a2).toNat * 2)).off + 1, none⟩ = some (.int .i64 ((rd_T52 l0 a2).f1)) ∧ w'.cell? (ad516.add (((ji37)).toNat * 2)) = some (.int .i64 ((rd_T52 l0 (ji37)).f0)) ∧ w'.cell? ⟨(ad516.add (((ji37)).toNat * 2)).block, (ad516.add (((ji37)).toNat * 2)).off + 1, none⟩ = some (.int .i64 ((rd_T52 l0 (ji37)).f1))) (ds := []) #[false, false, false, false, false, false, false, false, false, false, false, false] (by kernel_rfl) rfl rfl ⟨hx516_0, hx516_1, hx517_0, hx517_1⟩ (fun hHeld => ?_); refine with_tabW impl_Dart_182.tab17 impl_Dart_182.bits17 (fun HT_ HW_ => ?_)
       generalize wr.drew = w45 at HO_0 HK HB hx516_0 hx516_1 hx517_0 hx517_1 hHeld ⊢
       refine puU 0 92 HT_ ?_
       refine puU 1 93 HT_ ?_
       refine puU 2 94 HT_ ?_
       refine puU 3 95 HT_ ?_
       refine puU 5 97 HT_ ?_
       refine puU 6 98 HT_ ?_
       refine puU 7 99 HT_ ?_
       refine tkU 4 96 HT_ HW_ hHeld ?_
       refine tkU 8 100 HT_ HW_ hHeld ?_
       refine onU 9 (some 101) HT_ (fun K hK => ?_)
       refine goesT_ Tryz.func147 (by kernel_rfl) rfl #[.agg #[.int .i64 ((rd_T52 l0 a2).f0), .int .i64 ((rd_T52 l0 a2).f1)], .agg #[.int .i64 ((rd_T52 l0 (ji37)).f0), .int .i64 ((rd_T52 l0 (ji37)).f1)]] (by rfl) rfl rfl (by (try simp only [List.map_toArray, List.map_cons, List.map_nil]); first | done | (simp only [hji37]; rfl) | rfl | (simp only [List.length_drop, List.length_take]; rfl)) (by rfl) ?_
       with_reducible refine (impl_board_1.calls ((rd_T52 l0 a2).f0) ((rd_T52 l0 a2).f1) ((rd_T52 l0 (ji37)).f0) ((rd_T52 l0 (ji37)).f1) t518 _ A40.out).mono ?_
       rintro e w47 ⟨rfl, hb⟩
       have HS0_ := (hb.cell (World.block_lt_of_cell? _ _ (hHeld.1))).trans (hHeld.1)
       have HS1_ := (hb.cell (World.block_lt_of_cell? _ _ (hHeld.2.1))).trans (hHeld.2.1)
       have HS2_ := (hb.cell (World.block_lt_of_cell? _ _ (hHeld.2.2.1))).trans (hHeld.2.2.1)
       have HS3_ := (hb.cell (World.block_lt_of_cell? _ _ (hHeld.2.2.2))).trans (hHeld.2.2.2)
       refine ⟨_, rfl, ?_⟩
       replace HO_0 := aU (Kd.R_below (roU HO_0) hb)
       replace HK := aU (Kept.below (S := (fun k_ => P0_ k_)) (ktU HK) hb)
       replace HB := bsU hb
       (try clear hb)
       refine hK.out _ _ ⟨HS0_, HS1_, HS2_, HS3_⟩ (fun hHeld => ?_)
       clear hK K
       refine nmU 101 ?_
       refine puU 10 102 HT_ ?_
       refine puU 11 103 HT_ ?_
       refine dnU HT_ ?_
       try go_wp2
       go_roundg k1
       case measure => have := HK1.out; omega
       case rel => exact ⟨(wrap64 ((ji37) + 1)), (x15_1), (by first | rfl | (simp; done) | (simp only [← hji37] <;> (first | rfl | simp)) | (simp [*]; done)), eqU, H', ⟨by have := HK1.out; omega⟩, ⟨roU HO_0⟩, ⟨by repeat (first | (with_reducible first | exact HK.out | apply Kept.alloc | apply Kept.drewN | apply Kept.drew) | exact HK.out)⟩, ⟨hbU⟩⟩
     ·rw [if_neg c34] at H
      have c34b0 : decide (x14_1 < x15_1) = false := decide_eq_false c34
      clear c34
      have H' := aU H
      clear H
      go_wp2
      go_loopg [17] k1 (fun kq v17 w' => ∃ (x0_2 : List (S52)) (x17_2 : Int), v17 = .int .i64 x17_2 ∧ Aside0 (impl_Dart_182.l3 kq x0_2 x14_1 x17_2 = some r) ∧ Aside0 (kq ≤ k1) ∧ Aside0 (Kd.R k52 52 w' w0.heap.size (fun k_ => (P0_ k_ ∨ w.heap.size ≤ k_)) u9000_ x0_2) ∧ Aside0 (Kept w w' (fun k_ => P0_ k_)) ∧ Aside0 (Below w0.heap.size w0 w'))
      case atStart => exact ⟨(l0), (a2), eqU, H', ⟨Nat.le_refl _⟩, ⟨roU HO_0⟩, ⟨by repeat (first | (with_reducible first | exact HK.out | apply Kept.alloc | apply Kept.drewN | apply Kept.drew) | exact HK.out)⟩, ⟨hbU⟩⟩
      case round => as_aux_lemma =>
       clear H'
       (try clear c34b0); (try clear c35b0); (try clear c36b0); (try clear c38b0); (try clear c39b0)
       obtain ⟨x0_2, x17_2, rfl, HA, HK2, HO_0, HK, HB⟩ := hrel
       cases gk with
       | zero => exact absurd HA.out (by simp [impl_Dart_182.l3])
       | succ k2 =>
        have H := HA.out
        clear HA
        simp only [impl_Dart_182.l3] at H
        by_cases c48 : x17_2 > x14_1
        ·rw [if_pos c48] at H
         have c48b0 : decide (x14_1 < x17_2) = true := decide_eq_true c48
         clear c48
         obtain ⟨ji49, hji49⟩ : ∃ j_ : Int, (wrap64 (x17_2 - 1)) = j_ := ⟨_, rfl⟩
         replace H : (if 0 ≤ (ji49) then (if (ji49) < (x0_2.length : Int) then (if 0 ≤ x17_2 then (if x17_2 < (x0_2.length : Int) then (impl_Dart_182.l3 k2 ((x0_2.set (x17_2 : Int).toNat (⟨(rd_T52 x0_2 (ji49)).f0, (rd_T52 x0_2 (ji49)).f1⟩ : S52)).set ((ji49) : Int).toNat (⟨(rd_T52 x0_2 x17_2).f0, (rd_T52 x0_2 x17_2).f1⟩ : S52)) x14_1 ji49) else (none)) else (none)) else (none)) else (none)) = some r := by first | (rw [hji49] at H; exact H) | (simp only [hji49] at H ⊢; exact H)
         have hji49w : (IntKind.i64.wrap (x17_2 - 1)) = ji49 := (i64_w _).trans hji49
         replace H := ifS H
         obtain ⟨c50, H⟩ := H
         have c50b0 : decide (0 ≤ (ji49)) = true := decide_eq_true c50
         clear c50
         replace H := ifS H
         obtain ⟨c51, H⟩ := H
         have c51b0 : decide ((ji49) < (x0_2.length : Int)) = true := decide_eq_true c51
         clear c51
         replace H := ifS H
         obtain ⟨c52, H⟩ := H
         have c52b0 : decide (0 ≤ x17_2) = true := decide_eq_true c52
         clear c52
         replace H := ifS H
         obtain ⟨c53, H⟩ := H
         have c53b0 : decide (x17_2 < (x0_2.length : Int)) = true := decide_eq_true c53
         clear c53
         obtain ⟨y521, hy521⟩ : ∃ y_ : List (S52), y_ = (x0_2.set (x17_2 : Int).toNat (⟨(rd_T52 x0_2 (ji49)).f0, (rd_T52 x0_2 (ji49)).f1⟩ : S52)) := ⟨_, rfl⟩
         replace H : (impl_Dart_182.l3 k2 (y521.set ((ji49) : Int).toNat (⟨(rd_T52 x0_2 x17_2).f0, (rd_T52 x0_2 x17_2).f1⟩ : S52)) x14_1 ji49) = some r := by first | (rw [hy521]; with_reducible exact H) | (have H2_ := (Option.bind_some _ _).symm.trans H; rw [hy521]; with_reducible exact H2_) | (have H2_ := (Option.bind_some _ _).symm.trans H; with_reducible exact H2_) | with_reducible exact H | (rw [hy521]; exact H) | exact H
         have Ny521 := aU hy521
         clear hy521
         obtain ⟨y522, hy522⟩ : ∃ y_ : List (S52), y_ = (y521.set ((ji49) : Int).toNat (⟨(rd_T52 x0_2 x17_2).f0, (rd_T52 x0_2 x17_2).f1⟩ : S52)) := ⟨_, rfl⟩
         replace H : (impl_Dart_182.l3 k2 y522 x14_1 ji49) = some r := by first | (rw [hy522]; with_reducible exact H) | (have H2_ := (Option.bind_some _ _).symm.trans H; rw [hy522]; with_reducible exact H2_) | (have H2_ := (Option.bind_some _ _).symm.trans H; with_reducible exact H2_) | with_reducible exact H | (rw [hy522]; exact H) | exact H
         have Ny522 := aU hy522
         clear hy522
         have H' := aU H
         clear H
         try go_wp2
         replace HO_0 := aU (Kd.R_drew HO_0.out)
         replace HK := aU (Kept.drew HK.out)
         replace HB := aU (below_drew1 HB.out)
         obtain ⟨Ao57, co57, eo57⟩ := Kd.R_slice HO_0.out
         (first | subst eo57 | (injection eo57 with f1_ f2_ f3_; have f4_ := f1_.symm; have f5_ := f3_.symm; clear f1_ f2_ f3_; subst f4_; subst f5_))
         have p519 : 0 ≤ ((ji49) : Int) := dU
         have q519 : (ji49) < (x0_2.length : Int) := dU
         obtain ⟨ad519, e519, hx519_0, hx519_1⟩ := at_T52 (Kd.R_reads' HO_0.out).2.2 (ji49) p519 q519
         cases e519
         replace p519 := eq_true p519
         replace q519 := eq_true q519
         have p520 : 0 ≤ (x17_2 : Int) := dU
         have q520 : x17_2 < (x0_2.length : Int) := dU
         obtain ⟨ad520, e520, hx520_0, hx520_1⟩ := at_T52 (Kd.R_reads' HO_0.out).2.2 x17_2 p520 q520
         obtain rfl : ad519 = ad520 := (by injection e520)
         replace p520 := eq_true p520
         replace q520 := eq_true q520
         have p54 : 0 ≤ (x17_2 : Int) := dU
         have q54 : (x17_2 : Int) < ((x0_2.length : Int) : Int) := dU
         obtain ⟨go54, co54, eo54, gb54, gl54, cl54, HG54⟩ := Kd.R_form HO_0.out (by omega)
         (first | cases eo54 | (injection eo54 with ea_ en_ ec_; (first | subst ea_ | (injection ea_ with ea_; subst ea_)); subst ec_; clear en_))
         have GB54 := aU gb54
         have GG54 := aU HG54
         clear gb54 gl54 HG54
         have HMgo54 := aU (show (P0_ go54 ∨ w.heap.size ≤ go54) from (HO_0.out.1 _ rfl))
         (first | simp only [add_plain] at hx519_0 | skip)
         (first | simp only [add_plain] at hx519_1 | skip)
         (first | simp only [add_plain] at hx520_0 | skip)
         (first | simp only [add_plain] at hx520_1 | skip)
         obtain ⟨ce54, hcl54, hM54, hcc54, hfr54⟩ := Kd.R_elem HO_0.out z52 (x17_2 : Int) p54 q54
         obtain rfl := k52_openM hM54
         have hx54_0 : World.cell? _ ⟨go54, (x17_2 : Int).toNat * 2, none⟩ = some (.int .i64 ((rd_T52 x0_2 x17_2).f0)) := hcc54 0 _ rfl
         have hx54_1 : World.cell? _ ⟨go54, (x17_2 : Int).toNat * 2 + 1, none⟩ = some (.int .i64 ((rd_T52 x0_2 x17_2).f1)) := hcc54 1 _ rfl
         have hf54_0 : World.frozen? _ ⟨go54, (x17_2 : Int).toNat * 2, none⟩ = false := hfr54 0
         have hf54_1 : World.frozen? _ ⟨go54, (x17_2 : Int).toNat * 2 + 1, none⟩ = false := hfr54 1
         clear hcl54 hcc54 hfr54 hM54
         replace p54 := eq_true p54
         replace q54 := eq_true q54
         obtain ⟨ce58, hcl58, hM58, hcc58, hfr58⟩ := Kd.R_elem HO_0.out z52 (x17_2 : Int) (dU) (by have h_ : (x17_2 : Int) < ((x0_2.length : Int) : Int) := dU; first | exact h_ | (have e_ := (Kd.R_reads' HO_0.out).1; omega) | simpa using h_)
         obtain rfl := k52_openM hM58
         have HP58 := (Kd.R_seg HO_0.out (x17_2 : Int) (dU) (by have h_ : (x17_2 : Int) < ((x0_2.length : Int) : Int) := dU; first | exact h_ | (have e_ := (Kd.R_reads' HO_0.out).1; omega) | simpa using h_) (seg := [.int .i64 ((rd_T52 x0_2 (ji49)).f0), .int .i64 ((rd_T52 x0_2 (ji49)).f1)]) (j := 0) hcl58 hcc58 (show 2 ≤ 2 from by decide) (x' := (⟨(rd_T52 x0_2 (ji49)).f0, (rd_T52 x0_2 (ji49)).f1⟩ : S52)) (k52_mkM _ _ _ (⟨(rd_T52 x0_2 (ji49)).f0, (rd_T52 x0_2 (ji49)).f1⟩ : S52) ) (fun _ hk => hk)).1
         rw [← Ny521.out] at HP58
         have HQ58 := aU HP58
         clear hcl58 hcc58 hfr58 hM58 HP58
         have p55 : 0 ≤ ((ji49) : Int) := dU
         have q55 : ((ji49) : Int) < ((x0_2.length : Int) : Int) := dU
         obtain ⟨ce55, hcl55, hM55, hcc55, hfr55⟩ := Kd.R_elem HQ58.out z52 ((ji49) : Int) p55 q55
         obtain rfl := k52_openM hM55
         have hx55_0 : World.cell? _ ⟨go54, ((ji49) : Int).toNat * 2, none⟩ = some (.int .i64 ((rd_T52 y521 (ji49)).f0)) := hcc55 0 _ rfl
         have hx55_1 : World.cell? _ ⟨go54, ((ji49) : Int).toNat * 2 + 1, none⟩ = some (.int .i64 ((rd_T52 y521 (ji49)).f1)) := hcc55 1 _ rfl
         have hf55_0 : World.frozen? _ ⟨go54, ((ji49) : Int).toNat * 2, none⟩ = false := hfr55 0
         have hf55_1 : World.frozen? _ ⟨go54, ((ji49) : Int).toNat * 2 + 1, none⟩ = false := hfr55 1
         clear hcl55 hcc55 hfr55 hM55
         replace p55 := eq_true p55
         replace q55 := eq_true q55
         obtain ⟨ce59, hcl59, hM59, hcc59, hfr59⟩ := Kd.R_elem HQ58.out z52 ((ji49) : Int) (dU) (by have h_ : ((ji49) : Int) < ((x0_2.length : Int) : Int) := dU; first | exact h_ | (have e_ := (Kd.R_reads' HO_0.out).1; omega) | simpa using h_)
         obtain rfl := k52_openM hM59
         have HP59 := (Kd.R_seg HQ58.out ((ji49) : Int) (dU) (by have h_ : ((ji49) : Int) < ((x0_2.length : Int) : Int) := dU; first | exact h_ | (have e_ := (Kd.R_reads' HO_0.out).1; omega) | simpa using h_) (seg := [.int .i64 ((rd_T52 x0_2 x17_2).f0), .int .i64 ((rd_T52 x0_2 x17_2).f1)]) (j := 0) hcl59 hcc59 (show 2 ≤ 2 from by decide) (x' := (⟨(rd_T52 x0_2 x17_2).f0, (rd_T52 x0_2 x17_2).f1⟩ : S52)) (k52_mkM _ _ _ (⟨(rd_T52 x0_2 x17_2).f0, (rd_T52 x0_2 x17_2).f1⟩ : S52) ) (fun _ hk => hk)).1
         rw [← Ny522.out] at HP59
         have HQ59 := aU HP59
         clear hcl59 hcc59 hfr59 hM59 HP59
         refine start_ (n := 18) (S := fun w' => w'.cell? ⟨go54, (((ji49)).toNat * 2), none⟩ = some (.int .i64 ((rd_T52 x0_2 (ji49)).f0)) ∧ w'.cell? ⟨go54, (((ji49)).toNat * 2) + 1, none⟩ = some (.int .i64 ((rd_T52 x0_2 (ji49)).f1)) ∧ w'.cell? ⟨go54, ((x17_2).toNat * 2), none⟩ = some (.int .i64 ((rd_T52 x0_2 x17_2).f0)) ∧ w'.cell? ⟨go54, ((x17_2).toNat * 2) + 1, none⟩ = some (.int .i64 ((rd_T52 x0_2 x17_2).f1))) (ds := [15, 17]) #[false, false, false, false, false, false, false, false, false, false, false, false, false, false, false, false, false, false] (by kernel_rfl) rfl rfl ⟨hx519_0, hx519_1, hx520_0, hx520_1⟩ (fun hHeld => ?_); refine with_tabW impl_Dart_182.tab23 impl_Dart_182.bits23 (fun HT_ HW_ => ?_)
         generalize wr.drew = w56 at HO_0 HK HB GG54 HQ58 HQ59 hf54_0 hf54_1 hf55_0 hf55_1 hx519_0 hx519_1 hx520_0 hx520_1 hx54_0 hx54_1 hx55_0 hx55_1 hHeld ⊢
         refine puU 0 113 HT_ ?_
         refine puU 1 114 HT_ ?_
         refine puU 2 115 HT_ ?_
         refine puU 3 116 HT_ ?_
         refine puU 4 117 HT_ ?_
         refine puU 5 118 HT_ ?_
         refine puU 6 119 HT_ ?_
         refine puU 7 120 HT_ ?_
         refine puU 8 121 HT_ ?_
         refine puU 10 123 HT_ ?_
         refine puU 11 124 HT_ ?_
         refine puU 12 125 HT_ ?_
         refine tkU 9 122 HT_ HW_ hHeld ?_
         refine tkU 13 126 HT_ HW_ hHeld ?_
         refine puU 14 127 HT_ ?_
         refine last_ (i := 15) (N := none) #[true, true, true, true, true, true, true, true, true, true, true, true, true, true, true, true, false, false] rfl rfl (one_of HT_.out (by kernel_rfl)) (by decide) (fun K hK => ?_)
         obtain ⟨ceY, hclY, hMY, hccY, hfrY⟩ := Kd.R_elem HO_0.out z52 ((ji49) : Int) (by first | exact of_eq_true p55 | (with_reducible assumption) | exact of_decide_eq_true (by assumption)) (by first | exact of_eq_true q55 | simpa using of_eq_true q55)
         obtain rfl := k52_openM hMY
         have hzY_0 : World.cell? _ ⟨go54, ((ji49) : Int).toNat * 2, none⟩ = _ := hccY 0 _ rfl
         have hzY_1 : World.cell? _ ⟨go54, ((ji49) : Int).toNat * 2 + 1, none⟩ = _ := hccY 1 _ rfl
         have hfY_0 : World.frozen? _ ⟨go54, ((ji49) : Int).toNat * 2, none⟩ = false := hfrY 0
         have hfY_1 : World.frozen? _ ⟨go54, ((ji49) : Int).toNat * 2 + 1, none⟩ = false := hfrY 1
         obtain ⟨cy0, hy0⟩ := setSome (p := ⟨go54, (x17_2 : Int).toNat * 2, none⟩) (x := .int .i64 ((rd_T52 x0_2 (ji49)).f0)) hzY_0
         obtain ⟨cy2, hy2⟩ := setSome (p := ⟨go54, (x17_2 : Int).toNat * 2, none⟩) (x := .int .i64 ((rd_T52 x0_2 (ji49)).f0)) hzY_1
         obtain ⟨cy1, hy1⟩ := setSome (p := ⟨go54, (x17_2 : Int).toNat * 2 + 1, none⟩) (x := .int .i64 ((rd_T52 x0_2 (ji49)).f1)) hy2
         clear hy2 hccY hfrY hclY hMY
         refine skip_ (w1 := ?_) (by rfl) rfl ?_ ?_
         rotate_left
         ·go_simp
          rfl
         refine hK.out _ _ ?_
         clear hK K
         refine puU 16 128 HT_ ?_
         refine last_ (i := 17) (N := none) #[true, true, true, true, true, true, true, true, true, true, true, true, true, true, true, true, true, true] rfl rfl (one_of HT_.out (by kernel_rfl)) (by decide) (fun K hK => ?_)
         refine skip_ (w1 := ?_) (by rfl) rfl ?_ ?_
         rotate_left
         ·go_simp
          rfl
         refine hK.out _ _ ?_
         clear hK K
         refine dnU HT_ ?_
         try go_wp2
         go_roundg k2
         case measure => have := HK1.out; have := HK2.out; omega
         case rel => exact ⟨(y522), (ji49), (by first | rfl | (simp; done) | (simp only [← hji49] <;> (first | rfl | simp)) | (simp [*]; done)), H', ⟨by have := HK1.out; have := HK2.out; omega⟩, ⟨roU HQ59⟩, ⟨by repeat (first | (with_reducible first | exact HK.out | apply Kept.alloc | apply Kept.drewN | apply Kept.drew | refine Kept.setCell ?_ HMgo54.out _ | refine Kept.setCell ?_ HMgo54.out _ | refine Kept.setCell ?_ HMgo54.out _ | refine Kept.setCell ?_ HMgo54.out _) | exact HK.out)⟩, ⟨by repeat (first | (with_reducible first | exact HB.out | apply below_alloc | apply pw_below_drewN | apply below_drew1 | refine below_set ?_ GB54.out | refine below_set ?_ GB54.out | refine below_set ?_ GB54.out | refine below_set ?_ GB54.out) | exact HB.out)⟩⟩
        ·rw [if_neg c48] at H
         have c48b0 : decide (x14_1 < x17_2) = false := decide_eq_false c48
         clear c48
         obtain rfl := Option.some.inj H
         go_wp2
         first | go_end0 | ((try simp only [Exit.inBlock, Exit.then]); refine bodyPost_ret (results_none rfl _ _ _) rfl ?_)
         exact ⟨errU, by (with_reducible repeat (first | apply Kd.R_alloc | apply Kd.R_drewN | apply Kd.R_drew)); exact HO_0.out, hbU, ktU HK⟩
  ·rw [if_neg c33] at H
   have c33b0 : ((wrap64 (a3 - a2)) == 1) = false := beq_eq_false_iff_ne.mpr c33
   have c33b1 : ((wrap64 (a3 - a2)) != 1) = true := bne_iff_ne.mpr c33
   have HC60 := aU H
   clear H
   go_enter Tryz.func182, Tryz.ntmps182
   go_upto_if 140 with (fail)
   go_cut [20, 21] (fun v20 v21 wc => ∃ (kq : Nat) (x20_59 : Int) (x21_59 : Int), v20 = .int .i64 x20_59 ∧ v21 = .int .i64 x21_59 ∧ Aside0 (impl_Dart_182.j4 kq l0 a1 a2 a3 a4 (wrap64 ((IntKind.u64.wrap (wrap64 (a1 + a3))) / 2)) (wrap64 ((wrap64 ((IntKind.u64.wrap (wrap64 (a1 + a3))) / 2)) + a2)) x20_59 x21_59 = some r) ∧ Aside0 (kq ≤ k) ∧ Aside0 (Kd.R k52 52 wc w0.heap.size (fun k_ => (P0_ k_ ∨ w.heap.size ≤ k_)) u9000_ l0) ∧ Aside0 (Kept w wc (fun k_ => P0_ k_)) ∧ Aside0 (Below w0.heap.size w0 wc))
   case first => as_aux_lemma =>
    have H := HC60.out
    clear HC60
    by_cases c61 : a2 > (wrap64 ((IntKind.u64.wrap (wrap64 (a1 + a3))) / 2))
    ·rw [if_pos c61] at H
     have c61b0 : decide ((wrap64 ((IntKind.u64.wrap (wrap64 (a1 + a3))) / 2)) < a2) = true := decide_eq_true c61
     clear c61
     (first | rw [c61b0] | (simp only [i64_w, i32_w]; rw [c61b0]) | skip)
     have H' := aU H
     clear H
     go_wp2
     go_meet
     case rel => exact ⟨_, (wrap64 ((wrap64 ((wrap64 ((IntKind.u64.wrap (wrap64 (a1 + a3))) / 2)) + a2)) - a3)), (wrap64 ((IntKind.u64.wrap (wrap64 (a1 + a3))) / 2)), eqU, eqU, H', ⟨by first | omega | exact Nat.le_refl _⟩, ⟨roU HO0⟩, ⟨by repeat (first | (with_reducible first | exact HK.out | apply Kept.alloc | apply Kept.drewN | apply Kept.drew) | exact HK.out)⟩, ⟨hbU⟩⟩
    ·rw [if_neg c61] at H
     have c61b0 : decide ((wrap64 ((IntKind.u64.wrap (wrap64 (a1 + a3))) / 2)) < a2) = false := decide_eq_false c61
     clear c61
     (first | rw [c61b0] | (simp only [i64_w, i32_w]; rw [c61b0]) | skip)
     have H' := aU H
     clear H
     go_wp2
     go_meet
     case rel => exact ⟨_, (a1), (a2), eqU, eqU, H', ⟨by first | omega | exact Nat.le_refl _⟩, ⟨roU HO0⟩, ⟨by repeat (first | (with_reducible first | exact HK.out | apply Kept.alloc | apply Kept.drewN | apply Kept.drew) | exact HK.out)⟩, ⟨hbU⟩⟩
   case rest => as_aux_lemma =>
    clear HC60
    (try clear c33b0 c33b1)
    obtain ⟨kq, x20_59, x21_59, rfl, rfl, HA, HJ59, HO_0, HK, HB⟩ := hcut
    cases kq with
    | zero => exact absurd HA.out (by simp [impl_Dart_182.j4])
    | succ kj59 =>
     have H := HA.out
     clear HA
     simp only [impl_Dart_182.j4] at H
     have H' := aU H
     clear H
     go_wp2
     go_loopg [20, 21] kj59 (fun kq v20 v21 w' => ∃ (x20_2 : Int) (x21_2 : Int), v20 = .int .i64 x20_2 ∧ v21 = .int .i64 x21_2 ∧ Aside0 (impl_Dart_182.l4 kq l0 a1 a2 a3 a4 (wrap64 ((IntKind.u64.wrap (wrap64 (a1 + a3))) / 2)) (wrap64 ((wrap64 ((IntKind.u64.wrap (wrap64 (a1 + a3))) / 2)) + a2)) x20_2 x21_2 (wrap64 ((wrap64 ((wrap64 ((IntKind.u64.wrap (wrap64 (a1 + a3))) / 2)) + a2)) - 1)) = some r) ∧ Aside0 (kq ≤ kj59) ∧ Aside0 (Kd.R k52 52 w' w0.heap.size (fun k_ => (P0_ k_ ∨ w.heap.size ≤ k_)) u9000_ l0) ∧ Aside0 (Kept w w' (fun k_ => P0_ k_)) ∧ Aside0 (Below w0.heap.size w0 w'))
     case atStart => exact ⟨(x20_59), (x21_59), eqU, eqU, H', ⟨Nat.le_refl _⟩, ⟨roU HO_0⟩, ⟨by repeat (first | (with_reducible first | exact HK.out | apply Kept.alloc | apply Kept.drewN | apply Kept.drew) | exact HK.out)⟩, ⟨hbU⟩⟩
     case round => as_aux_lemma =>
      clear H'
      obtain ⟨x20_2, x21_2, rfl, rfl, HA, HK2, HO_0, HK, HB⟩ := hrel
      cases gk with
      | zero => exact absurd HA.out (by simp [impl_Dart_182.l4])
      | succ k2 =>
       have H := HA.out
       clear HA
       simp only [impl_Dart_182.l4] at H
       by_cases c62 : x20_2 < x21_2
       ·rw [if_pos c62] at H
        have c62b0 : decide (x20_2 < x21_2) = true := decide_eq_true c62
        clear c62
        obtain ⟨ji63, hji63⟩ : ∃ j_ : Int, (wrap64 ((wrap64 ((wrap64 ((wrap64 ((IntKind.u64.wrap (wrap64 (a1 + a3))) / 2)) + a2)) - 1)) - (wrap64 ((IntKind.u64.wrap (wrap64 (x20_2 + x21_2))) / 2)))) = j_ := ⟨_, rfl⟩
        replace H : (if 0 ≤ (ji63) then (if (ji63) < (l0.length : Int) then (if 0 ≤ (wrap64 ((IntKind.u64.wrap (wrap64 (x20_2 + x21_2))) / 2)) then (if (wrap64 ((IntKind.u64.wrap (wrap64 (x20_2 + x21_2))) / 2)) < (l0.length : Int) then ((impl_board_1.f ((rd_T52 l0 (ji63)).f0) ((rd_T52 l0 (ji63)).f1) ((rd_T52 l0 (wrap64 ((IntKind.u64.wrap (wrap64 (x20_2 + x21_2))) / 2))).f0) ((rd_T52 l0 (wrap64 ((IntKind.u64.wrap (wrap64 (x20_2 + x21_2))) / 2))).f1)).bind fun t525 => (if t525 < 0 then (impl_Dart_182.l4 k2 l0 a1 a2 a3 a4 (wrap64 ((IntKind.u64.wrap (wrap64 (a1 + a3))) / 2)) (wrap64 ((wrap64 ((IntKind.u64.wrap (wrap64 (a1 + a3))) / 2)) + a2)) x20_2 (wrap64 ((IntKind.u64.wrap (wrap64 (x20_2 + x21_2))) / 2)) (wrap64 ((wrap64 ((wrap64 ((IntKind.u64.wrap (wrap64 (a1 + a3))) / 2)) + a2)) - 1))) else (impl_Dart_182.l4 k2 l0 a1 a2 a3 a4 (wrap64 ((IntKind.u64.wrap (wrap64 (a1 + a3))) / 2)) (wrap64 ((wrap64 ((IntKind.u64.wrap (wrap64 (a1 + a3))) / 2)) + a2)) (wrap64 ((wrap64 ((IntKind.u64.wrap (wrap64 (x20_2 + x21_2))) / 2)) + 1)) x21_2 (wrap64 ((wrap64 ((wrap64 ((IntKind.u64.wrap (wrap64 (a1 + a3))) / 2)) + a2)) - 1))))) else (none)) else (none)) else (none)) else (none)) = some r := by first | (rw [hji63] at H; exact H) | (simp only [hji63] at H ⊢; exact H)
        have hji63w : (IntKind.i64.wrap ((wrap64 ((wrap64 ((wrap64 ((IntKind.u64.wrap (wrap64 (a1 + a3))) / 2)) + a2)) - 1)) - (wrap64 ((IntKind.u64.wrap (wrap64 (x20_2 + x21_2))) / 2)))) = ji63 := (i64_w _).trans hji63
        replace H := ifS H
        obtain ⟨c64, H⟩ := H
        have c64b0 : decide (0 ≤ (ji63)) = true := decide_eq_true c64
        clear c64
        replace H := ifS H
        obtain ⟨c65, H⟩ := H
        have c65b0 : decide ((ji63) < (l0.length : Int)) = true := decide_eq_true c65
        clear c65
        obtain ⟨ji66, hji66⟩ : ∃ j_ : Int, (wrap64 ((IntKind.u64.wrap (wrap64 (x20_2 + x21_2))) / 2)) = j_ := ⟨_, rfl⟩
        replace H : (if 0 ≤ (ji66) then (if (ji66) < (l0.length : Int) then ((impl_board_1.f ((rd_T52 l0 (ji63)).f0) ((rd_T52 l0 (ji63)).f1) ((rd_T52 l0 (ji66)).f0) ((rd_T52 l0 (ji66)).f1)).bind fun t525 => (if t525 < 0 then (impl_Dart_182.l4 k2 l0 a1 a2 a3 a4 (wrap64 ((IntKind.u64.wrap (wrap64 (a1 + a3))) / 2)) (wrap64 ((wrap64 ((IntKind.u64.wrap (wrap64 (a1 + a3))) / 2)) + a2)) x20_2 ji66 (wrap64 ((wrap64 ((wrap64 ((IntKind.u64.wrap (wrap64 (a1 + a3))) / 2)) + a2)) - 1))) else (impl_Dart_182.l4 k2 l0 a1 a2 a3 a4 (wrap64 ((IntKind.u64.wrap (wrap64 (a1 + a3))) / 2)) (wrap64 ((wrap64 ((IntKind.u64.wrap (wrap64 (a1 + a3))) / 2)) + a2)) (wrap64 ((ji66) + 1)) x21_2 (wrap64 ((wrap64 ((wrap64 ((IntKind.u64.wrap (wrap64 (a1 + a3))) / 2)) + a2)) - 1))))) else (none)) else (none)) = some r := by first | (rw [hji66] at H; exact H) | (simp only [hji66] at H ⊢; exact H)
        have hji66w : (IntKind.i64.wrap ((IntKind.u64.wrap (wrap64 (x20_2 + x21_2))) / 2)) = ji66 := (i64_w _).trans hji66
        rw [hji66] at hji63
        rw [hji66] at hji63w
        replace H := ifS H
        obtain ⟨c67, H⟩ := H
        have c67b0 : decide (0 ≤ (ji66)) = true := decide_eq_true c67
        clear c67
        replace H := ifS H
        obtain ⟨c68, H⟩ := H
        have c68b0 : decide ((ji66) < (l0.length : Int)) = true := decide_eq_true c68
        clear c68
        replace H := bindS H
        obtain ⟨t525, A69, H⟩ := H
        (try dsimp only at H)
        by_cases c70 : t525 < 0
        ·rw [if_pos c70] at H
         have c70b0 : decide (t525 < 0) = true := decide_eq_true c70
         clear c70
         have H' := aU H
         clear H
         try go_wp2
         replace HO_0 := aU (Kd.R_drew HO_0.out)
         replace HK := aU (Kept.drew HK.out)
         replace HB := aU (below_drew1 HB.out)
         obtain ⟨Ao72, co72, eo72⟩ := Kd.R_slice HO_0.out
         (first | subst eo72 | (injection eo72 with f1_ f2_ f3_; have f4_ := f1_.symm; have f5_ := f3_.symm; clear f1_ f2_ f3_; subst f4_; subst f5_))
         have p523 : 0 ≤ ((ji63) : Int) := dU
         have q523 : (ji63) < (l0.length : Int) := dU
         obtain ⟨ad523, e523, hx523_0, hx523_1⟩ := at_T52 (Kd.R_reads' HO_0.out).2.2 (ji63) p523 q523
         cases e523
         replace p523 := eq_true p523
         replace q523 := eq_true q523
         have p524 : 0 ≤ ((ji66) : Int) := dU
         have q524 : (ji66) < (l0.length : Int) := dU
         obtain ⟨ad524, e524, hx524_0, hx524_1⟩ := at_T52 (Kd.R_reads' HO_0.out).2.2 (ji66) p524 q524
         obtain rfl : ad523 = ad524 := (by injection e524)
         replace p524 := eq_true p524
         replace q524 := eq_true q524
         refine start_ (n := 14) (S := fun w' => w'.cell? (ad523.add (((ji63)).toNat * 2)) = some (.int .i64 ((rd_T52 l0 (ji63)).f0)) ∧ w'.cell? ⟨(ad523.add (((ji63)).toNat * 2)).block, (ad523.add (((ji63)).toNat * 2)).off + 1, none⟩ = some (.int .i64 ((rd_T52 l0 (ji63)).f1)) ∧ w'.cell? (ad523.add (((ji66)).toNat * 2)) = some (.int .i64 ((rd_T52 l0 (ji66)).f0)) ∧ w'.cell? ⟨(ad523.add (((ji66)).toNat * 2)).block, (ad523.add (((ji66)).toNat * 2)).off + 1, none⟩ = some (.int .i64 ((rd_T52 l0 (ji66)).f1))) (ds := []) #[false, false, false, false, false, false, false, false, false, false, false, false, false, false] (by kernel_rfl) rfl rfl ⟨hx523_0, hx523_1, hx524_0, hx524_1⟩ (fun hHeld => ?_); refine with_tabW impl_Dart_182.tab35 impl_Dart_182.bits35 (fun HT_ HW_ => ?_)
         generalize wr.drew = w71 at HO_0 HK HB hx523_0 hx523_1 hx524_0 hx524_1 hHeld ⊢
         refine puU 0 158 HT_ ?_
         refine puU 1 159 HT_ ?_
         refine puU 2 160 HT_ ?_
         refine puU 3 161 HT_ ?_
         refine puU 4 162 HT_ ?_
         refine puU 5 163 HT_ ?_
         refine puU 7 165 HT_ ?_
         refine puU 8 166 HT_ ?_
         refine puU 9 167 HT_ ?_
         refine tkU 6 164 HT_ HW_ hHeld ?_
         refine tkU 10 168 HT_ HW_ hHeld ?_
         refine onU 11 (some 169) HT_ (fun K hK => ?_)
         refine goesT_ Tryz.func147 (by kernel_rfl) rfl #[.agg #[.int .i64 ((rd_T52 l0 (ji63)).f0), .int .i64 ((rd_T52 l0 (ji63)).f1)], .agg #[.int .i64 ((rd_T52 l0 (ji66)).f0), .int .i64 ((rd_T52 l0 (ji66)).f1)]] (by rfl) rfl rfl (by (try simp only [List.map_toArray, List.map_cons, List.map_nil]); first | done | (simp only [hji63, hji66]; rfl) | rfl | (simp only [List.length_drop, List.length_take]; rfl)) (by rfl) ?_
         with_reducible refine (impl_board_1.calls ((rd_T52 l0 (ji63)).f0) ((rd_T52 l0 (ji63)).f1) ((rd_T52 l0 (ji66)).f0) ((rd_T52 l0 (ji66)).f1) t525 _ A69.out).mono ?_
         rintro e w73 ⟨rfl, hb⟩
         have HS0_ := (hb.cell (World.block_lt_of_cell? _ _ (hHeld.1))).trans (hHeld.1)
         have HS1_ := (hb.cell (World.block_lt_of_cell? _ _ (hHeld.2.1))).trans (hHeld.2.1)
         have HS2_ := (hb.cell (World.block_lt_of_cell? _ _ (hHeld.2.2.1))).trans (hHeld.2.2.1)
         have HS3_ := (hb.cell (World.block_lt_of_cell? _ _ (hHeld.2.2.2))).trans (hHeld.2.2.2)
         refine ⟨_, rfl, ?_⟩
         replace HO_0 := aU (Kd.R_below (roU HO_0) hb)
         replace HK := aU (Kept.below (S := (fun k_ => P0_ k_)) (ktU HK) hb)
         replace HB := bsU hb
         (try clear hb)
         refine hK.out _ _ ⟨HS0_, HS1_, HS2_, HS3_⟩ (fun hHeld => ?_)
         clear hK K
         refine nmU 169 ?_
         refine puU 12 170 HT_ ?_
         refine puU 13 171 HT_ ?_
         refine dnU HT_ ?_
         try go_wp2
         go_roundg k2
         case measure => have := HJ59.out; have := HK2.out; omega
         case rel => exact ⟨(x20_2), (ji66), eqU, (by first | rfl | (simp; done) | (simp only [← hji66] <;> (first | rfl | simp)) | (simp [*]; done)), H', ⟨by have := HJ59.out; have := HK2.out; omega⟩, ⟨roU HO_0⟩, ⟨by repeat (first | (with_reducible first | exact HK.out | apply Kept.alloc | apply Kept.drewN | apply Kept.drew) | exact HK.out)⟩, ⟨hbU⟩⟩
        ·rw [if_neg c70] at H
         have c70b0 : decide (t525 < 0) = false := decide_eq_false c70
         clear c70
         have H' := aU H
         clear H
         try go_wp2
         replace HO_0 := aU (Kd.R_drew HO_0.out)
         replace HK := aU (Kept.drew HK.out)
         replace HB := aU (below_drew1 HB.out)
         obtain ⟨Ao75, co75, eo75⟩ := Kd.R_slice HO_0.out
         (first | subst eo75 | (injection eo75 with f1_ f2_ f3_; have f4_ := f1_.symm; have f5_ := f3_.symm; clear f1_ f2_ f3_; subst f4_; subst f5_))
         have p523 : 0 ≤ ((ji63) : Int) := dU
         have q523 : (ji63) < (l0.length : Int) := dU
         obtain ⟨ad523, e523, hx523_0, hx523_1⟩ := at_T52 (Kd.R_reads' HO_0.out).2.2 (ji63) p523 q523
         cases e523
         replace p523 := eq_true p523
         replace q523 := eq_true q523
         have p524 : 0 ≤ ((ji66) : Int) := dU
         have q524 : (ji66) < (l0.length : Int) := dU
         obtain ⟨ad524, e524, hx524_0, hx524_1⟩ := at_T52 (Kd.R_reads' HO_0.out).2.2 (ji66) p524 q524
         obtain rfl : ad523 = ad524 := (by injection e524)
         replace p524 := eq_true p524
         replace q524 := eq_true q524
         refine start_ (n := 14) (S := fun w' => w'.cell? (ad523.add (((ji63)).toNat * 2)) = some (.int .i64 ((rd_T52 l0 (ji63)).f0)) ∧ w'.cell? ⟨(ad523.add (((ji63)).toNat * 2)).block, (ad523.add (((ji63)).toNat * 2)).off + 1, none⟩ = some (.int .i64 ((rd_T52 l0 (ji63)).f1)) ∧ w'.cell? (ad523.add (((ji66)).toNat * 2)) = some (.int .i64 ((rd_T52 l0 (ji66)).f0)) ∧ w'.cell? ⟨(ad523.add (((ji66)).toNat * 2)).block, (ad523.add (((ji66)).toNat * 2)).off + 1, none⟩ = some (.int .i64 ((rd_T52 l0 (ji66)).f1))) (ds := []) #[false, false, false, false, false, false, false, false, false, false, false, false, false, false] (by kernel_rfl) rfl rfl ⟨hx523_0, hx523_1, hx524_0, hx524_1⟩ (fun hHeld => ?_); refine with_tabW impl_Dart_182.tab35 impl_Dart_182.bits35 (fun HT_ HW_ => ?_)
         generalize wr.drew = w74 at HO_0 HK HB hx523_0 hx523_1 hx524_0 hx524_1 hHeld ⊢
         refine puU 0 158 HT_ ?_
         refine puU 1 159 HT_ ?_
         refine puU 2 160 HT_ ?_
         refine puU 3 161 HT_ ?_
         refine puU 4 162 HT_ ?_
         refine puU 5 163 HT_ ?_
         refine puU 7 165 HT_ ?_
         refine puU 8 166 HT_ ?_
         refine puU 9 167 HT_ ?_
         refine tkU 6 164 HT_ HW_ hHeld ?_
         refine tkU 10 168 HT_ HW_ hHeld ?_
         refine onU 11 (some 169) HT_ (fun K hK => ?_)
         refine goesT_ Tryz.func147 (by kernel_rfl) rfl #[.agg #[.int .i64 ((rd_T52 l0 (ji63)).f0), .int .i64 ((rd_T52 l0 (ji63)).f1)], .agg #[.int .i64 ((rd_T52 l0 (ji66)).f0), .int .i64 ((rd_T52 l0 (ji66)).f1)]] (by rfl) rfl rfl (by (try simp only [List.map_toArray, List.map_cons, List.map_nil]); first | done | (simp only [hji63, hji66]; rfl) | rfl | (simp only [List.length_drop, List.length_take]; rfl)) (by rfl) ?_
         with_reducible refine (impl_board_1.calls ((rd_T52 l0 (ji63)).f0) ((rd_T52 l0 (ji63)).f1) ((rd_T52 l0 (ji66)).f0) ((rd_T52 l0 (ji66)).f1) t525 _ A69.out).mono ?_
         rintro e w76 ⟨rfl, hb⟩
         have HS0_ := (hb.cell (World.block_lt_of_cell? _ _ (hHeld.1))).trans (hHeld.1)
         have HS1_ := (hb.cell (World.block_lt_of_cell? _ _ (hHeld.2.1))).trans (hHeld.2.1)
         have HS2_ := (hb.cell (World.block_lt_of_cell? _ _ (hHeld.2.2.1))).trans (hHeld.2.2.1)
         have HS3_ := (hb.cell (World.block_lt_of_cell? _ _ (hHeld.2.2.2))).trans (hHeld.2.2.2)
         refine ⟨_, rfl, ?_⟩
         replace HO_0 := aU (Kd.R_below (roU HO_0) hb)
         replace HK := aU (Kept.below (S := (fun k_ => P0_ k_)) (ktU HK) hb)
         replace HB := bsU hb
         (try clear hb)
         refine hK.out _ _ ⟨HS0_, HS1_, HS2_, HS3_⟩ (fun hHeld => ?_)
         clear hK K
         refine nmU 169 ?_
         refine puU 12 170 HT_ ?_
         refine puU 13 171 HT_ ?_
         refine dnU HT_ ?_
         try go_wp2
         go_roundg k2
         case measure => have := HJ59.out; have := HK2.out; omega
         case rel => exact ⟨(wrap64 ((ji66) + 1)), (x21_2), (by first | rfl | (simp; done) | (simp only [← hji66] <;> (first | rfl | simp)) | (simp [*]; done)), eqU, H', ⟨by have := HJ59.out; have := HK2.out; omega⟩, ⟨roU HO_0⟩, ⟨by repeat (first | (with_reducible first | exact HK.out | apply Kept.alloc | apply Kept.drewN | apply Kept.drew) | exact HK.out)⟩, ⟨hbU⟩⟩
       ·rw [if_neg c62] at H
        have c62b0 : decide (x20_2 < x21_2) = false := decide_eq_false c62
        clear c62
        have HC77 := aU H
        clear H
        go_upto_region 39 with (fail)
        go_cut [185] (fun v185 wc => ∃ (kq : Nat) (x185_76 : Bool), v185 = .bool x185_76 ∧ Aside0 (impl_Dart_182.j6 kq l0 a1 a2 a3 a4 (wrap64 ((IntKind.u64.wrap (wrap64 (a1 + a3))) / 2)) x20_2 (wrap64 ((wrap64 ((wrap64 ((IntKind.u64.wrap (wrap64 (a1 + a3))) / 2)) + a2)) - x20_2)) x185_76 = some r) ∧ Aside0 (kq ≤ k2) ∧ Aside0 (Kd.R k52 52 wc w0.heap.size (fun k_ => (P0_ k_ ∨ w.heap.size ≤ k_)) u9000_ l0) ∧ Aside0 (Kept w wc (fun k_ => P0_ k_)) ∧ Aside0 (Below w0.heap.size w0 wc))
        case first => as_aux_lemma =>
         have H := HC77.out
         clear HC77
         by_cases c78 : x20_2 < a2
         ·rw [if_pos c78] at H
          have c78b0 : decide (x20_2 < a2) = true := decide_eq_true c78
          clear c78
          (first | rw [c78b0] | (simp only [i64_w, i32_w]; rw [c78b0]) | skip)
          have H' := aU H
          clear H
          go_wp2
          go_meet
          case rel => exact ⟨_, (decide (a2 < (wrap64 ((wrap64 ((wrap64 ((IntKind.u64.wrap (wrap64 (a1 + a3))) / 2)) + a2)) - x20_2)))), eqU, H', ⟨by have := HJ59.out; have := HK2.out; first | omega | exact Nat.le_refl _⟩, ⟨roU HO_0⟩, ⟨by repeat (first | (with_reducible first | exact HK.out | apply Kept.alloc | apply Kept.drewN | apply Kept.drew) | exact HK.out)⟩, ⟨hbU⟩⟩
         ·rw [if_neg c78] at H
          have c78b0 : decide (x20_2 < a2) = false := decide_eq_false c78
          clear c78
          (first | rw [c78b0] | (simp only [i64_w, i32_w]; rw [c78b0]) | skip)
          have H' := aU H
          clear H
          go_wp2
          go_meet
          case rel => exact ⟨_, (false), eqU, H', ⟨by have := HJ59.out; have := HK2.out; first | omega | exact Nat.le_refl _⟩, ⟨roU HO_0⟩, ⟨by repeat (first | (with_reducible first | exact HK.out | apply Kept.alloc | apply Kept.drewN | apply Kept.drew) | exact HK.out)⟩, ⟨hbU⟩⟩
        case rest => as_aux_lemma =>
         clear HC77
         (try clear c62b0); (try clear c64b0); (try clear c65b0); (try clear c67b0); (try clear c68b0)
         obtain ⟨kq, x185_76, rfl, HA, HJ76, HO_0, HK, HB⟩ := hcut
         cases kq with
         | zero => exact absurd HA.out (by simp [impl_Dart_182.j6])
         | succ kj76 =>
          have H := HA.out
          clear HA
          simp only [impl_Dart_182.j6] at H
          have HC79 := aU H
          clear H
          go_upto_if 185 with (fail)
          go_cut [] (fun wc => ∃ (kq : Nat) (x0_78 : List (S52)), Aside0 (impl_Dart_182.j7 kq x0_78 a1 a3 a4 (wrap64 ((IntKind.u64.wrap (wrap64 (a1 + a3))) / 2)) x20_2 (wrap64 ((wrap64 ((wrap64 ((IntKind.u64.wrap (wrap64 (a1 + a3))) / 2)) + a2)) - x20_2)) = some r) ∧ Aside0 (kq ≤ kj76) ∧ Aside0 (Kd.R k52 52 wc w0.heap.size (fun k_ => (P0_ k_ ∨ w.heap.size ≤ k_)) u9000_ x0_78) ∧ Aside0 (Kept w wc (fun k_ => P0_ k_)) ∧ Aside0 (Below w0.heap.size w0 wc))
          case first => as_aux_lemma =>
           have H := HC79.out
           clear HC79
           by_cases c80 : x185_76 = true
           ·subst c80
            rw [if_pos rfl] at H
            replace H := bindS H
            obtain ⟨t526, A81, H⟩ := H
            (try dsimp only at H)
            have H' := aU H
            clear H
            obtain ⟨Ao82, co82, eo82⟩ := Kd.R_slice HO_0.out
            subst eo82
            go_wp2_with (first | ((with_reducible refine gcU 192 rfl ?_); refine goU (some 191) Tryz.func192 #[.slice Ao82 l0.length co82, .int .i64 x20_2, .int .i64 a2, .int .i64 (wrap64 ((wrap64 ((wrap64 ((IntKind.u64.wrap (wrap64 (a1 + a3))) / 2)) + a2)) - x20_2)), (.func (.func 147) #[] #[])] ?_; (with_reducible refine (impl_Dart_192.calls kj76 (fun k_ => some k_ = (.slice Ao82 l0.length co82 : Value).ownBlock) (.slice Ao82 l0.length co82) l0 x20_2 a2 (wrap64 ((wrap64 ((wrap64 ((IntKind.u64.wrap (wrap64 (a1 + a3))) / 2)) + a2)) - x20_2)) a4 t526 w0 _ ?side1 ?side2 A81.out).mono ?_); (case side1 => exact hbU); (case side2 => exact Kd.R_tight rfl HO_0.out); rintro e w83 ⟨rfl, hy0, hb, hkp⟩; refine ⟨_, rfl, ?_⟩; replace HK := aU (Kept.then_ (S := (fun k_ => P0_ k_)) (ktU HK) hkp (fun k_ hs_ => (fun e_ => (HO_0.out.1 k_ e_.symm)) hs_)); replace HO_0 := aU (Kd.R_reok rfl hy0 (fun k_ e_ => HO_0.out.1 k_ e_)); replace HB := aU (hb); (try clear hb); (try clear hkp); (try clear hy0)))
            go_meet
            case rel => exact ⟨_, (t526), H', ⟨by have := HJ59.out; have := HK2.out; have := HJ76.out; first | omega | exact Nat.le_refl _⟩, ⟨roU HO_0⟩, ⟨by repeat (first | (with_reducible first | exact HK.out | apply Kept.alloc | apply Kept.drewN | apply Kept.drew) | exact HK.out)⟩, ⟨hbU⟩⟩
           ·replace c80 := Bool.eq_false_iff.mpr c80
            subst c80
            rw [if_neg (show ¬ (false = true) by decide)] at H
            have H' := aU H
            clear H
            go_wp2
            go_meet
            case rel => exact ⟨_, (l0), H', ⟨by have := HJ59.out; have := HK2.out; have := HJ76.out; first | omega | exact Nat.le_refl _⟩, ⟨roU HO_0⟩, ⟨by repeat (first | (with_reducible first | exact HK.out | apply Kept.alloc | apply Kept.drewN | apply Kept.drew) | exact HK.out)⟩, ⟨hbU⟩⟩
          case rest => as_aux_lemma =>
           clear HC79
           obtain ⟨kq, x0_78, HA, HJ78, HO_0, HK, HB⟩ := hcut
           cases kq with
           | zero => exact absurd HA.out (by simp [impl_Dart_182.j7])
           | succ kj78 =>
            have H := HA.out
            clear HA
            simp only [impl_Dart_182.j7] at H
            have HC84 := aU H
            clear H
            go_upto_region 41 with (fail)
            go_cut [199] (fun v199 wc => ∃ (kq : Nat) (x199_83 : Bool), v199 = .bool x199_83 ∧ Aside0 (impl_Dart_182.j8 kq x0_78 a1 a3 a4 (wrap64 ((IntKind.u64.wrap (wrap64 (a1 + a3))) / 2)) x20_2 (wrap64 ((wrap64 ((wrap64 ((IntKind.u64.wrap (wrap64 (a1 + a3))) / 2)) + a2)) - x20_2)) x199_83 = some r) ∧ Aside0 (kq ≤ kj78) ∧ Aside0 (Kd.R k52 52 wc w0.heap.size (fun k_ => (P0_ k_ ∨ w.heap.size ≤ k_)) u9000_ x0_78) ∧ Aside0 (Kept w wc (fun k_ => P0_ k_)) ∧ Aside0 (Below w0.heap.size w0 wc))
            case first => as_aux_lemma =>
             have H := HC84.out
             clear HC84
             by_cases c85 : a1 < x20_2
             ·rw [if_pos c85] at H
              have c85b0 : decide (a1 < x20_2) = true := decide_eq_true c85
              clear c85
              (first | rw [c85b0] | (simp only [i64_w, i32_w]; rw [c85b0]) | skip)
              have H' := aU H
              clear H
              go_wp2
              go_meet
              case rel => exact ⟨_, (decide (x20_2 < (wrap64 ((IntKind.u64.wrap (wrap64 (a1 + a3))) / 2)))), eqU, H', ⟨by have := HJ59.out; have := HK2.out; have := HJ76.out; have := HJ78.out; first | omega | exact Nat.le_refl _⟩, ⟨roU HO_0⟩, ⟨by repeat (first | (with_reducible first | exact HK.out | apply Kept.alloc | apply Kept.drewN | apply Kept.drew) | exact HK.out)⟩, ⟨hbU⟩⟩
             ·rw [if_neg c85] at H
              have c85b0 : decide (a1 < x20_2) = false := decide_eq_false c85
              clear c85
              (first | rw [c85b0] | (simp only [i64_w, i32_w]; rw [c85b0]) | skip)
              have H' := aU H
              clear H
              go_wp2
              go_meet
              case rel => exact ⟨_, (false), eqU, H', ⟨by have := HJ59.out; have := HK2.out; have := HJ76.out; have := HJ78.out; first | omega | exact Nat.le_refl _⟩, ⟨roU HO_0⟩, ⟨by repeat (first | (with_reducible first | exact HK.out | apply Kept.alloc | apply Kept.drewN | apply Kept.drew) | exact HK.out)⟩, ⟨hbU⟩⟩
            case rest => as_aux_lemma =>
             clear HC84
             obtain ⟨kq, x199_83, rfl, HA, HJ83, HO_0, HK, HB⟩ := hcut
             cases kq with
             | zero => exact absurd HA.out (by simp [impl_Dart_182.j8])
             | succ kj83 =>
              have H := HA.out
              clear HA
              simp only [impl_Dart_182.j8] at H
              by_cases c86 : x199_83 = true
              ·subst c86
               rw [if_pos rfl] at H
               replace H := bindS H
               obtain ⟨t527, A87, H⟩ := H
               (try dsimp only at H)
               by_cases c88 : (wrap64 ((IntKind.u64.wrap (wrap64 (a1 + a3))) / 2)) < (wrap64 ((wrap64 ((wrap64 ((IntKind.u64.wrap (wrap64 (a1 + a3))) / 2)) + a2)) - x20_2))
               ·rw [if_pos c88] at H
                have c88b0 : decide ((wrap64 ((IntKind.u64.wrap (wrap64 (a1 + a3))) / 2)) < (wrap64 ((wrap64 ((wrap64 ((IntKind.u64.wrap (wrap64 (a1 + a3))) / 2)) + a2)) - x20_2))) = true := decide_eq_true c88
                clear c88
                by_cases c89 : (wrap64 ((wrap64 ((wrap64 ((IntKind.u64.wrap (wrap64 (a1 + a3))) / 2)) + a2)) - x20_2)) < a3
                ·rw [if_pos c89] at H
                 have c89b0 : decide ((wrap64 ((wrap64 ((wrap64 ((IntKind.u64.wrap (wrap64 (a1 + a3))) / 2)) + a2)) - x20_2)) < a3) = true := decide_eq_true c89
                 clear c89
                 replace H := bindS H
                 obtain ⟨t528, A90, H⟩ := H
                 (try dsimp only at H)
                 obtain rfl := Option.some.inj H
                 obtain ⟨Ao91, co91, eo91⟩ := Kd.R_slice HO_0.out
                 subst eo91
                 go_wp2_with (first | ((with_reducible refine gcU 182 rfl ?_); refine goU (some 205) Tryz.func182 #[.slice Ao91 x0_78.length co91, .int .i64 a1, .int .i64 x20_2, .int .i64 (wrap64 ((IntKind.u64.wrap (wrap64 (a1 + a3))) / 2)), (.func (.func 147) #[] #[])] ?_; (with_reducible refine (ih kj83 (by have := HJ59.out; have := HK2.out; have := HJ76.out; have := HJ78.out; have := HJ83.out; omega) (fun k_ => some k_ = (.slice Ao91 x0_78.length co91 : Value).ownBlock) (.slice Ao91 x0_78.length co91) x0_78 a1 x20_2 (wrap64 ((IntKind.u64.wrap (wrap64 (a1 + a3))) / 2)) a4 t527 w0 _ ?side1 ?side2 A87.out).mono ?_); (case side1 => exact hbU); (case side2 => exact Kd.R_tight rfl HO_0.out); rintro e w92 ⟨rfl, hy0, hb, hkp⟩; refine ⟨_, rfl, ?_⟩; replace HK := aU (Kept.then_ (S := (fun k_ => P0_ k_)) (ktU HK) hkp (fun k_ hs_ => (fun e_ => (HO_0.out.1 k_ e_.symm)) hs_)); replace HO_0 := aU (Kd.R_reok rfl hy0 (fun k_ e_ => HO_0.out.1 k_ e_)); replace HB := aU (hb); (try clear hb); (try clear hkp); (try clear hy0)) | ((with_reducible refine gcU 182 rfl ?_); refine goU (some 219) Tryz.func182 #[.slice Ao91 x0_78.length co91, .int .i64 (wrap64 ((IntKind.u64.wrap (wrap64 (a1 + a3))) / 2)), .int .i64 (wrap64 ((wrap64 ((wrap64 ((IntKind.u64.wrap (wrap64 (a1 + a3))) / 2)) + a2)) - x20_2)), .int .i64 a3, (.func (.func 147) #[] #[])] ?_; (with_reducible refine (ih kj83 (by have := HJ59.out; have := HK2.out; have := HJ76.out; have := HJ78.out; have := HJ83.out; omega) (fun k_ => some k_ = (.slice Ao91 x0_78.length co91 : Value).ownBlock) (.slice Ao91 x0_78.length co91) t527 (wrap64 ((IntKind.u64.wrap (wrap64 (a1 + a3))) / 2)) (wrap64 ((wrap64 ((wrap64 ((IntKind.u64.wrap (wrap64 (a1 + a3))) / 2)) + a2)) - x20_2)) a3 a4 t528 w0 _ ?side1 ?side2 A90.out).mono ?_); (case side1 => exact hbU); (case side2 => exact Kd.R_tight rfl HO_0.out); rintro e w93 ⟨rfl, hy0, hb, hkp⟩; refine ⟨_, rfl, ?_⟩; replace HK := aU (Kept.then_ (S := (fun k_ => P0_ k_)) (ktU HK) hkp (fun k_ hs_ => (fun e_ => (HO_0.out.1 k_ e_.symm)) hs_)); replace HO_0 := aU (Kd.R_reok rfl hy0 (fun k_ e_ => HO_0.out.1 k_ e_)); replace HB := aU (hb); (try clear hb); (try clear hkp); (try clear hy0)))
                 first | go_end0 | ((try simp only [Exit.inBlock, Exit.then]); refine bodyPost_ret (results_none rfl _ _ _) rfl ?_)
                 exact ⟨errU, by (with_reducible repeat (first | apply Kd.R_alloc | apply Kd.R_drewN | apply Kd.R_drew)); exact HO_0.out, hbU, ktU HK⟩
                ·rw [if_neg c89] at H
                 have c89b0 : decide ((wrap64 ((wrap64 ((wrap64 ((IntKind.u64.wrap (wrap64 (a1 + a3))) / 2)) + a2)) - x20_2)) < a3) = false := decide_eq_false c89
                 clear c89
                 obtain rfl := Option.some.inj H
                 obtain ⟨Ao94, co94, eo94⟩ := Kd.R_slice HO_0.out
                 subst eo94
                 go_wp2_with (first | ((with_reducible refine gcU 182 rfl ?_); refine goU (some 205) Tryz.func182 #[.slice Ao94 x0_78.length co94, .int .i64 a1, .int .i64 x20_2, .int .i64 (wrap64 ((IntKind.u64.wrap (wrap64 (a1 + a3))) / 2)), (.func (.func 147) #[] #[])] ?_; (with_reducible refine (ih kj83 (by have := HJ59.out; have := HK2.out; have := HJ76.out; have := HJ78.out; have := HJ83.out; omega) (fun k_ => some k_ = (.slice Ao94 x0_78.length co94 : Value).ownBlock) (.slice Ao94 x0_78.length co94) x0_78 a1 x20_2 (wrap64 ((IntKind.u64.wrap (wrap64 (a1 + a3))) / 2)) a4 t527 w0 _ ?side1 ?side2 A87.out).mono ?_); (case side1 => exact hbU); (case side2 => exact Kd.R_tight rfl HO_0.out); rintro e w95 ⟨rfl, hy0, hb, hkp⟩; refine ⟨_, rfl, ?_⟩; replace HK := aU (Kept.then_ (S := (fun k_ => P0_ k_)) (ktU HK) hkp (fun k_ hs_ => (fun e_ => (HO_0.out.1 k_ e_.symm)) hs_)); replace HO_0 := aU (Kd.R_reok rfl hy0 (fun k_ e_ => HO_0.out.1 k_ e_)); replace HB := aU (hb); (try clear hb); (try clear hkp); (try clear hy0)))
                 first | go_end0 | ((try simp only [Exit.inBlock, Exit.then]); refine bodyPost_ret (results_none rfl _ _ _) rfl ?_)
                 exact ⟨errU, by (with_reducible repeat (first | apply Kd.R_alloc | apply Kd.R_drewN | apply Kd.R_drew)); exact HO_0.out, hbU, ktU HK⟩
               ·rw [if_neg c88] at H
                have c88b0 : decide ((wrap64 ((IntKind.u64.wrap (wrap64 (a1 + a3))) / 2)) < (wrap64 ((wrap64 ((wrap64 ((IntKind.u64.wrap (wrap64 (a1 + a3))) / 2)) + a2)) - x20_2))) = false := decide_eq_false c88
                clear c88
                obtain rfl := Option.some.inj H
                obtain ⟨Ao96, co96, eo96⟩ := Kd.R_slice HO_0.out
                subst eo96
                go_wp2_with (first | ((with_reducible refine gcU 182 rfl ?_); refine goU (some 205) Tryz.func182 #[.slice Ao96 x0_78.length co96, .int .i64 a1, .int .i64 x20_2, .int .i64 (wrap64 ((IntKind.u64.wrap (wrap64 (a1 + a3))) / 2)), (.func (.func 147) #[] #[])] ?_; (with_reducible refine (ih kj83 (by have := HJ59.out; have := HK2.out; have := HJ76.out; have := HJ78.out; have := HJ83.out; omega) (fun k_ => some k_ = (.slice Ao96 x0_78.length co96 : Value).ownBlock) (.slice Ao96 x0_78.length co96) x0_78 a1 x20_2 (wrap64 ((IntKind.u64.wrap (wrap64 (a1 + a3))) / 2)) a4 t527 w0 _ ?side1 ?side2 A87.out).mono ?_); (case side1 => exact hbU); (case side2 => exact Kd.R_tight rfl HO_0.out); rintro e w97 ⟨rfl, hy0, hb, hkp⟩; refine ⟨_, rfl, ?_⟩; replace HK := aU (Kept.then_ (S := (fun k_ => P0_ k_)) (ktU HK) hkp (fun k_ hs_ => (fun e_ => (HO_0.out.1 k_ e_.symm)) hs_)); replace HO_0 := aU (Kd.R_reok rfl hy0 (fun k_ e_ => HO_0.out.1 k_ e_)); replace HB := aU (hb); (try clear hb); (try clear hkp); (try clear hy0)))
                first | go_end0 | ((try simp only [Exit.inBlock, Exit.then]); refine bodyPost_ret (results_none rfl _ _ _) rfl ?_)
                exact ⟨errU, by (with_reducible repeat (first | apply Kd.R_alloc | apply Kd.R_drewN | apply Kd.R_drew)); exact HO_0.out, hbU, ktU HK⟩
              ·replace c86 := Bool.eq_false_iff.mpr c86
               subst c86
               rw [if_neg (show ¬ (false = true) by decide)] at H
               by_cases c98 : (wrap64 ((IntKind.u64.wrap (wrap64 (a1 + a3))) / 2)) < (wrap64 ((wrap64 ((wrap64 ((IntKind.u64.wrap (wrap64 (a1 + a3))) / 2)) + a2)) - x20_2))
               ·rw [if_pos c98] at H
                have c98b0 : decide ((wrap64 ((IntKind.u64.wrap (wrap64 (a1 + a3))) / 2)) < (wrap64 ((wrap64 ((wrap64 ((IntKind.u64.wrap (wrap64 (a1 + a3))) / 2)) + a2)) - x20_2))) = true := decide_eq_true c98
                clear c98
                by_cases c99 : (wrap64 ((wrap64 ((wrap64 ((IntKind.u64.wrap (wrap64 (a1 + a3))) / 2)) + a2)) - x20_2)) < a3
                ·rw [if_pos c99] at H
                 have c99b0 : decide ((wrap64 ((wrap64 ((wrap64 ((IntKind.u64.wrap (wrap64 (a1 + a3))) / 2)) + a2)) - x20_2)) < a3) = true := decide_eq_true c99
                 clear c99
                 replace H := bindS H
                 obtain ⟨t529, A100, H⟩ := H
                 (try dsimp only at H)
                 obtain rfl := Option.some.inj H
                 obtain ⟨Ao101, co101, eo101⟩ := Kd.R_slice HO_0.out
                 subst eo101
                 go_wp2_with (first | ((with_reducible refine gcU 182 rfl ?_); refine goU (some 219) Tryz.func182 #[.slice Ao101 x0_78.length co101, .int .i64 (wrap64 ((IntKind.u64.wrap (wrap64 (a1 + a3))) / 2)), .int .i64 (wrap64 ((wrap64 ((wrap64 ((IntKind.u64.wrap (wrap64 (a1 + a3))) / 2)) + a2)) - x20_2)), .int .i64 a3, (.func (.func 147) #[] #[])] ?_; (with_reducible refine (ih kj83 (by have := HJ59.out; have := HK2.out; have := HJ76.out; have := HJ78.out; have := HJ83.out; omega) (fun k_ => some k_ = (.slice Ao101 x0_78.length co101 : Value).ownBlock) (.slice Ao101 x0_78.length co101) x0_78 (wrap64 ((IntKind.u64.wrap (wrap64 (a1 + a3))) / 2)) (wrap64 ((wrap64 ((wrap64 ((IntKind.u64.wrap (wrap64 (a1 + a3))) / 2)) + a2)) - x20_2)) a3 a4 t529 w0 _ ?side1 ?side2 A100.out).mono ?_); (case side1 => exact hbU); (case side2 => exact Kd.R_tight rfl HO_0.out); rintro e w102 ⟨rfl, hy0, hb, hkp⟩; refine ⟨_, rfl, ?_⟩; replace HK := aU (Kept.then_ (S := (fun k_ => P0_ k_)) (ktU HK) hkp (fun k_ hs_ => (fun e_ => (HO_0.out.1 k_ e_.symm)) hs_)); replace HO_0 := aU (Kd.R_reok rfl hy0 (fun k_ e_ => HO_0.out.1 k_ e_)); replace HB := aU (hb); (try clear hb); (try clear hkp); (try clear hy0)))
                 first | go_end0 | ((try simp only [Exit.inBlock, Exit.then]); refine bodyPost_ret (results_none rfl _ _ _) rfl ?_)
                 exact ⟨errU, by (with_reducible repeat (first | apply Kd.R_alloc | apply Kd.R_drewN | apply Kd.R_drew)); exact HO_0.out, hbU, ktU HK⟩
                ·rw [if_neg c99] at H
                 have c99b0 : decide ((wrap64 ((wrap64 ((wrap64 ((IntKind.u64.wrap (wrap64 (a1 + a3))) / 2)) + a2)) - x20_2)) < a3) = false := decide_eq_false c99
                 clear c99
                 obtain rfl := Option.some.inj H
                 go_wp2
                 first | go_end0 | ((try simp only [Exit.inBlock, Exit.then]); refine bodyPost_ret (results_none rfl _ _ _) rfl ?_)
                 exact ⟨errU, by (with_reducible repeat (first | apply Kd.R_alloc | apply Kd.R_drewN | apply Kd.R_drew)); exact HO_0.out, hbU, ktU HK⟩
               ·rw [if_neg c98] at H
                have c98b0 : decide ((wrap64 ((IntKind.u64.wrap (wrap64 (a1 + a3))) / 2)) < (wrap64 ((wrap64 ((wrap64 ((IntKind.u64.wrap (wrap64 (a1 + a3))) / 2)) + a2)) - x20_2))) = false := decide_eq_false c98
                clear c98
                obtain rfl := Option.some.inj H
                go_wp2
                first | go_end0 | ((try simp only [Exit.inBlock, Exit.then]); refine bodyPost_ret (results_none rfl _ _ _) rfl ?_)
                exact ⟨errU, by (with_reducible repeat (first | apply Kd.R_alloc | apply Kd.R_drewN | apply Kd.R_drew)); exact HO_0.out, hbU, ktU HK⟩
end Go.Proofs.YtcmlmjgoidpabaaGreatDoor.MFnDartsPlayed

