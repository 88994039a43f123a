/- What the program's function answers on a lane: for every number of frames and every list of rolls. -/
import Derived.Test.YtnpnbgohdmonmaaLaneR
import Derived.Test.YtnpnbgohdmonmaaLaneGood
set_option linter.unusedVariables false
set_option linter.unusedSimpArgs false
namespace Go.Proofs.Ytnpnbgohdmonmaa.Lane
open Go.RowKit Go.Proofs.YtnpnbgohdmonmaaW.PrintWords Go.Proofs.YtnpnbgohdmonmaaW.PrintLast
def leftV (F : Nat) (bg : List (List Int)) : Int × Int × Bool :=
  if allV F bg = true then (0, 0, true) else
  if bg.length = F then (if (bg.getD (F - 1) []).length = 2 then (1, 1, true) else if (bg.getD (F - 1) []).getD 0 0 = 10 then (2, 2, true) else (1, 2, true))
  else if newV F bg = true then ((F : Int) - bg.length - 1 + 2, 2 * ((F : Int) - bg.length - 1) + 3, true) else ((F : Int) - bg.length - 1 + 3, 2 * ((F : Int) - bg.length - 1) + 4, true)
theorem w_s {x : Int} (h : -1000 ≤ x ∧ x ≤ 1000) : wrap64 x = x := by
  unfold wrap64
  omega
set_option maxRecDepth 100000 in
set_option maxHeartbeats 4000000 in
theorem left_none0 (w : World) (n : Nat) (A : Option Addr) (c : Nat) (xs : List Int) (hr : ReadsInt w .i64 A xs.length xs) (pins : Int) (fr : Bool) (hv : readV (n : Int) xs = some ([], pins, fr)) (ha : allV n [] = false) :
    Calls Try.prog 28 #[.int .i64 (n : Int), .slice A xs.length c] w fun e w' => e = .returned (.tuple #[.int .i64 ((n : Int) + 1), .int .i64 (2 * (n : Int) + 1), .bool true]) ∧ Below w.heap.size w w' := by
  have hn : 1 ≤ n ∧ n ≤ 10 := by
    by_cases h : 1 ≤ (n : Int) ∧ (n : Int) ≤ 10 ∧ xs.length ≤ 21
    · omega
    · unfold readV at hv
      rw [if_neg h] at hv
      cases hv
  have w1 : wrap64 ((n : Int) - 2) = (n : Int) - 2 := w_s (by omega)
  have w2 : wrap64 ((n : Int) - 2 - (-1)) = (n : Int) - 1 := by rw [w_s (by omega)]; omega
  have w3 : wrap64 ((n : Int) - 1) = (n : Int) - 1 := w_s (by omega)
  have w4 : wrap64 (0 - 1) = -1 := w_s (by omega)
  have w5 : IntKind.i64.wrap (-1) = -1 := by rw [wrapK]; exact w_s (by omega)
  have u1 : decide (0 ≤ (-1 : Int)) = false := by decide
  have u2 : ((-1 : Int) == (n : Int) - 1) = false := by simp only [beq_eq_false_iff_ne]; omega
  have hE := Aside0.mk hn
  clear hn
  go_enter Try.func28, Try.ntmps28
  go_wp2_with (first | (go_at_call 47; refine (read_some3 hv _ _ _ hr).mono ?_; rintro e w' ⟨rfl, own, hl, hg, p0, p1, f0, f1, hb⟩; obtain ⟨k0, k2, k3, ⟨Ab, cb, k1⟩, fz, _, _⟩ := hl.cells) | (go_at_call 49; refine (all_calls hl f0 hg.1).mono ?_; rw [Int.toNat_natCast, ha]; rintro e w'' ⟨rfl, ⟨nd, rfl⟩⟩))
  go_ret3
  refine ⟨?_, by repeat (first | exact hb | apply pw_below_drewN)⟩
  show Ending.returned (.tuple #[.int .i64 ((n : Int) - 2 + 1 + 2), .int .i64 (2 * ((n : Int) - 2 + 1) + 3), .bool true]) = _
  rw [show (n : Int) - 2 + 1 + 2 = (n : Int) + 1 by omega, show 2 * ((n : Int) - 2 + 1) + 3 = 2 * (n : Int) + 1 by omega]
theorem left_in {F : Int} {xs : List Int} {s} (h : readV F xs = some s) : 1 ≤ F ∧ F ≤ 10 ∧ xs.length ≤ 21 := by
  by_cases hc : 1 ≤ F ∧ F ≤ 10 ∧ xs.length ≤ 21
  · exact hc
  · unfold readV at h
    rw [if_neg hc] at h
    cases h
set_option maxRecDepth 100000 in
set_option maxHeartbeats 4000000 in
theorem left_mid1 (w : World) (n j : Nat) (A : Option Addr) (c : Nat) (xs : List Int) (hr : ReadsInt w .i64 A xs.length xs) (bg : List (List Int)) (pins : Int) (fr : Bool) (hv : readV (n : Int) xs = some (bg, pins, fr)) (ha : allV n bg = false)
    (hj : bg.length = j + 1) (hjn : j + 1 < n) (hq : doneV (bg.getD j []) = true) :
    Calls Try.prog 28 #[.int .i64 (n : Int), .slice A xs.length c] w fun e w' => e = .returned (.tuple #[.int .i64 ((n : Int) - 2 - j + 2), .int .i64 (2 * ((n : Int) - 2 - j) + 3), .bool true]) ∧ Below w.heap.size w w' := by
  have hn := left_in hv
  have w1 : wrap64 ((n : Int) - 2) = (n : Int) - 2 := w_s (by omega)
  have w2 : wrap64 ((n : Int) - 2 - (j : Int)) = (n : Int) - 2 - (j : Int) := w_s (by omega)
  have w3 : wrap64 ((n : Int) - 1) = (n : Int) - 1 := w_s (by omega)
  have w8 : wrap64 (j : Int) = (j : Int) := w_s (by omega)
  have w9 : wrap64 ((j : Int) + 1 - 1) = (j : Int) := by rw [w_s (by omega)]; omega
  have u1 : decide (0 ≤ (j : Int)) = true := decide_eq_true (by omega)
  have u2 : decide ((j : Int) < (n : Int) - 1) = true := decide_eq_true (by omega)
  have u3 : ((j : Int) == (n : Int) - 1) = false := by simp only [beq_eq_false_iff_ne]; omega
  have u4 : decide ((j : Int) < (j : Int) + 1) = true := decide_eq_true (by omega)
  have u5 : (j : Int) < (n : Int) - 1 := by omega
  have hE := Aside0.mk hn
  have hJ := Aside0.mk hjn
  have hL := Aside0.mk hj
  clear hn hjn
  go_enter Try.func28, Try.ntmps28
  go_wp2_with (first | (go_at_call 47; refine (read_some3 hv _ _ _ hr).mono ?_; rintro e w' ⟨rfl, own, hl, hg, p0, p1, f0, f1, hb⟩; obtain ⟨k0, k2, k3, _, fz, _, _⟩ := hl.cells; obtain ⟨B, cap, A2, c2, k1, r2, r3, r4⟩ := hl.row j (by omega); have HD := Aside0.mk (fun (m : Nat) (p : Option Addr) => done_calls (w := w'.drewN m) p A2 c2 bg[j] (hg.1 _ (List.getElem_mem _)).1 r4)) | (go_at_call 49; refine (all_calls hl f0 hg.1).mono ?_; rw [Int.toNat_natCast, ha]; rintro e w'' ⟨rfl, ⟨nd, rfl⟩⟩) | (go_at_call 53; refine (HD.out _ _).mono ?_; rw [show bg[j] = bg.getD j [] by simp [List.getD_eq_getElem?_getD, hj], hq]; rintro e w'' ⟨rfl, ⟨nd2, rfl⟩⟩))
  go_ret3
  exact ⟨rfl, by repeat (first | exact hb | apply pw_below_drewN)⟩
set_option maxRecDepth 100000 in
set_option maxHeartbeats 4000000 in
theorem left_mid0 (w : World) (n j : Nat) (A : Option Addr) (c : Nat) (xs : List Int) (hr : ReadsInt w .i64 A xs.length xs) (bg : List (List Int)) (pins : Int) (fr : Bool) (hv : readV (n : Int) xs = some (bg, pins, fr)) (ha : allV n bg = false)
    (hj : bg.length = j + 1) (hjn : j + 1 < n) (hq : doneV (bg.getD j []) = false) :
    Calls Try.prog 28 #[.int .i64 (n : Int), .slice A xs.length c] w fun e w' => e = .returned (.tuple #[.int .i64 (1 + ((n : Int) - 2 - j) + 2), .int .i64 (1 + 2 * ((n : Int) - 2 - j) + 3), .bool true]) ∧ Below w.heap.size w w' := by
  have hn := left_in hv
  have w1 : wrap64 ((n : Int) - 2) = (n : Int) - 2 := w_s (by omega)
  have w2 : wrap64 ((n : Int) - 2 - (j : Int)) = (n : Int) - 2 - (j : Int) := w_s (by omega)
  have w3 : wrap64 ((n : Int) - 1) = (n : Int) - 1 := w_s (by omega)
  have w8 : wrap64 (j : Int) = (j : Int) := w_s (by omega)
  have w9 : wrap64 ((j : Int) + 1 - 1) = (j : Int) := by rw [w_s (by omega)]; omega
  have u1 : decide (0 ≤ (j : Int)) = true := decide_eq_true (by omega)
  have u2 : decide ((j : Int) < (n : Int) - 1) = true := decide_eq_true (by omega)
  have u3 : ((j : Int) == (n : Int) - 1) = false := by simp only [beq_eq_false_iff_ne]; omega
  have u4 : decide ((j : Int) < (j : Int) + 1) = true := decide_eq_true (by omega)
  have u5 : (j : Int) < (n : Int) - 1 := by omega
  have hE := Aside0.mk hn
  have hJ := Aside0.mk hjn
  have hL := Aside0.mk hj
  clear hn hjn
  go_enter Try.func28, Try.ntmps28
  go_wp2_with (first | (go_at_call 47; refine (read_some3 hv _ _ _ hr).mono ?_; rintro e w' ⟨rfl, own, hl, hg, p0, p1, f0, f1, hb⟩; obtain ⟨k0, k2, k3, _, fz, _, _⟩ := hl.cells; obtain ⟨B, cap, A2, c2, k1, r2, r3, r4⟩ := hl.row j (by omega); have HD := Aside0.mk (fun (m : Nat) (p : Option Addr) => done_calls (w := w'.drewN m) p A2 c2 bg[j] (hg.1 _ (List.getElem_mem _)).1 r4)) | (go_at_call 49; refine (all_calls hl f0 hg.1).mono ?_; rw [Int.toNat_natCast, ha]; rintro e w'' ⟨rfl, ⟨nd, rfl⟩⟩) | (go_at_call 53; refine (HD.out _ _).mono ?_; rw [show bg[j] = bg.getD j [] by simp [List.getD_eq_getElem?_getD, hj], hq]; rintro e w'' ⟨rfl, ⟨nd2, rfl⟩⟩))
  go_ret3
  exact ⟨rfl, by repeat (first | exact hb | apply pw_below_drewN)⟩
set_option maxRecDepth 100000 in
set_option maxHeartbeats 4000000 in
theorem left_last2 (w : World) (n j : Nat) (A : Option Addr) (c : Nat) (xs : List Int) (hr : ReadsInt w .i64 A xs.length xs) (bg : List (List Int)) (pins : Int) (fr : Bool) (hv : readV (n : Int) xs = some (bg, pins, fr)) (ha : allV n bg = false)
    (hj : bg.length = j + 1) (hjn : n = j + 1) (hjl : j < bg.length) (h2 : bg[j].length = 2) :
    Calls Try.prog 28 #[.int .i64 (n : Int), .slice A xs.length c] w fun e w' => e = .returned (.tuple #[.int .i64 1, .int .i64 1, .bool true]) ∧ Below w.heap.size w w' := by
  have hn := left_in hv
  subst hjn
  have w8 : wrap64 (j : Int) = (j : Int) := w_s (by omega)
  have w9 : wrap64 ((j : Int) + 1 - 1) = (j : Int) := by rw [w_s (by omega)]; omega
  have w3 : wrap64 ((((j + 1 : Nat) : Int)) - 1) = (j : Int) := by rw [w_s (by omega)]; omega
  have u1 : decide (0 ≤ (j : Int)) = true := decide_eq_true (by omega)
  have u2 : decide ((j : Int) < (j : Int)) = false := decide_eq_false (by omega)
  have u4 : decide ((j : Int) < (j : Int) + 1) = true := decide_eq_true (by omega)
  have u5 : ((bg[j].length : Int) == 2) = true := by rw [h2]; rfl
  have hE := Aside0.mk hn
  have hL := Aside0.mk hj
  clear hn
  go_enter Try.func28, Try.ntmps28
  go_wp2_with (first | (go_at_call 47; refine (read_some3 hv _ _ _ hr).mono ?_; rintro e w' ⟨rfl, own, hl, hg, p0, p1, f0, f1, hb⟩; obtain ⟨k0, k2, k3, _, fz, _, _⟩ := hl.cells; obtain ⟨B, cap, A2, c2, k1, r2, r3, r4⟩ := hl.row j (by omega); clear r4) | (go_at_call 49; refine (all_calls hl f0 hg.1).mono ?_; rw [Int.toNat_natCast, ha]; rintro e w'' ⟨rfl, ⟨nd, rfl⟩⟩))
  go_ret3
  exact ⟨rfl, by repeat (first | exact hb | apply pw_below_drewN)⟩
set_option maxRecDepth 100000 in
set_option maxHeartbeats 4000000 in
theorem left_last10 (w : World) (n j : Nat) (A : Option Addr) (c : Nat) (xs : List Int) (hr : ReadsInt w .i64 A xs.length xs) (bg : List (List Int)) (pins : Int) (fr : Bool) (hv : readV (n : Int) xs = some (bg, pins, fr)) (ha : allV n bg = false)
    (hj : bg.length = j + 1) (hjn : n = j + 1) (hjl : j < bg.length) (h2 : bg[j].length ≠ 2) (h0 : 0 < bg[j].length) (h10 : bg[j][0] = 10) :
    Calls Try.prog 28 #[.int .i64 (n : Int), .slice A xs.length c] w fun e w' => e = .returned (.tuple #[.int .i64 2, .int .i64 2, .bool true]) ∧ Below w.heap.size w w' := by
  have hn := left_in hv
  subst hjn
  have w8 : wrap64 (j : Int) = (j : Int) := w_s (by omega)
  have w9 : wrap64 ((j : Int) + 1 - 1) = (j : Int) := by rw [w_s (by omega)]; omega
  have w3 : wrap64 ((((j + 1 : Nat) : Int)) - 1) = (j : Int) := by rw [w_s (by omega)]; omega
  have u1 : decide (0 ≤ (j : Int)) = true := decide_eq_true (by omega)
  have u2 : decide ((j : Int) < (j : Int)) = false := decide_eq_false (by omega)
  have u4 : decide ((j : Int) < (j : Int) + 1) = true := decide_eq_true (by omega)
  have u5 : ((bg[j].length : Int) == 2) = false := by simp only [beq_eq_false_iff_ne]; omega
  have u7 : decide ((0 : Int) < (bg[j].length : Int)) = true := decide_eq_true (by omega)
  have u8 : (0 : Int) < (bg[j].length : Int) := by omega
  have u6 : (bg[j][0] == 10) = true := by rw [h10]; rfl
  have hE := Aside0.mk hn
  have hL := Aside0.mk hj
  clear hn
  go_enter Try.func28, Try.ntmps28
  go_wp2_with (first | (go_at_call 47; refine (read_some3 hv _ _ _ hr).mono ?_; rintro e w' ⟨rfl, own, hl, hg, p0, p1, f0, f1, hb⟩; obtain ⟨k0, k2, k3, _, fz, _, _⟩ := hl.cells; obtain ⟨B, cap, A2, c2, k1, r2, r3, r4⟩ := hl.row j (by omega); obtain ⟨R0, rfl, r5⟩ := r4 0 h0; clear r4) | (go_at_call 49; refine (all_calls hl f0 hg.1).mono ?_; rw [Int.toNat_natCast, ha]; rintro e w'' ⟨rfl, ⟨nd, rfl⟩⟩))
  go_ret3
  exact ⟨rfl, by repeat (first | exact hb | apply pw_below_drewN)⟩
set_option maxRecDepth 100000 in
set_option maxHeartbeats 4000000 in
theorem left_last1 (w : World) (n j : Nat) (A : Option Addr) (c : Nat) (xs : List Int) (hr : ReadsInt w .i64 A xs.length xs) (bg : List (List Int)) (pins : Int) (fr : Bool) (hv : readV (n : Int) xs = some (bg, pins, fr)) (ha : allV n bg = false)
    (hj : bg.length = j + 1) (hjn : n = j + 1) (hjl : j < bg.length) (h2 : bg[j].length ≠ 2) (h0 : 0 < bg[j].length) (h10 : bg[j][0] ≠ 10) :
    Calls Try.prog 28 #[.int .i64 (n : Int), .slice A xs.length c] w fun e w' => e = .returned (.tuple #[.int .i64 1, .int .i64 2, .bool true]) ∧ Below w.heap.size w w' := by
  have hn := left_in hv
  subst hjn
  have w8 : wrap64 (j : Int) = (j : Int) := w_s (by omega)
  have w9 : wrap64 ((j : Int) + 1 - 1) = (j : Int) := by rw [w_s (by omega)]; omega
  have w3 : wrap64 ((((j + 1 : Nat) : Int)) - 1) = (j : Int) := by rw [w_s (by omega)]; omega
  have u1 : decide (0 ≤ (j : Int)) = true := decide_eq_true (by omega)
  have u2 : decide ((j : Int) < (j : Int)) = false := decide_eq_false (by omega)
  have u4 : decide ((j : Int) < (j : Int) + 1) = true := decide_eq_true (by omega)
  have u5 : ((bg[j].length : Int) == 2) = false := by simp only [beq_eq_false_iff_ne]; omega
  have u7 : decide ((0 : Int) < (bg[j].length : Int)) = true := decide_eq_true (by omega)
  have u8 : (0 : Int) < (bg[j].length : Int) := by omega
  have u6 : (bg[j][0] == 10) = false := by simp only [beq_eq_false_iff_ne]; exact h10
  have hE := Aside0.mk hn
  have hL := Aside0.mk hj
  clear hn
  go_enter Try.func28, Try.ntmps28
  go_wp2_with (first | (go_at_call 47; refine (read_some3 hv _ _ _ hr).mono ?_; rintro e w' ⟨rfl, own, hl, hg, p0, p1, f0, f1, hb⟩; obtain ⟨k0, k2, k3, _, fz, _, _⟩ := hl.cells; obtain ⟨B, cap, A2, c2, k1, r2, r3, r4⟩ := hl.row j (by omega); obtain ⟨R0, rfl, r5⟩ := r4 0 h0; clear r4) | (go_at_call 49; refine (all_calls hl f0 hg.1).mono ?_; rw [Int.toNat_natCast, ha]; rintro e w'' ⟨rfl, ⟨nd, rfl⟩⟩))
  go_ret3
  exact ⟨rfl, by repeat (first | exact hb | apply pw_below_drewN)⟩
set_option maxRecDepth 100000 in
set_option maxHeartbeats 4000000 in
theorem left_all (w : World) (F : Int) (A : Option Addr) (c : Nat) (xs : List Int) (hr : ReadsInt w .i64 A xs.length xs) (bg : List (List Int)) (pins : Int) (fr : Bool) (hv : readV F xs = some (bg, pins, fr)) (ha : allV F.toNat bg = true) :
    Calls Try.prog 28 #[.int .i64 F, .slice A xs.length c] w fun e w' => e = .returned (.tuple #[.int .i64 0, .int .i64 0, .bool true]) ∧ Below w.heap.size w w' := by
  go_enter Try.func28, Try.ntmps28
  go_wp2_with (first | (go_at_call 47; refine (read_some3 hv _ _ _ hr).mono ?_; rintro e w' ⟨rfl, own, hl, hg, p0, p1, f0, f1, hb⟩) | (go_at_call 49; refine (all_calls hl f0 hg.1).mono ?_; rw [ha]; rintro e w'' ⟨rfl, ⟨nd, rfl⟩⟩))
  go_ret3
  exact ⟨rfl, by repeat (first | exact hb | apply pw_below_drewN)⟩
set_option maxRecDepth 100000 in
set_option maxHeartbeats 4000000 in
theorem left_fail (w : World) (F : Int) (A : Option Addr) (c : Nat) (xs : List Int) (hr : ReadsInt w .i64 A xs.length xs) (hv : readV F xs = none) :
    Calls Try.prog 28 #[.int .i64 F, .slice A xs.length c] w fun e w' => e = .returned (.tuple #[.int .i64 0, .int .i64 0, .bool false]) ∧ Below w.heap.size w w' := by
  go_enter Try.func28, Try.ntmps28
  go_wp2_with (go_at_call 47; refine (read_none hv _ _ _ hr).mono ?_; rintro e w' ⟨rfl, hb⟩)
  go_ret3
  exact ⟨rfl, by repeat (first | exact hb | apply pw_below_drewN)⟩
def leftOf (F : Int) (xs : List Int) : Int × Int × Bool := match readV F xs with
  | some s => leftV F.toNat s.1
  | none => (0, 0, false)
theorem left_calls (w : World) (F : Int) (A : Option Addr) (c : Nat) (xs : List Int) (hr : ReadsInt w .i64 A xs.length xs) :
    Calls Try.prog 28 #[.int .i64 F, .slice A xs.length c] w fun e w' => e = .returned (.tuple #[.int .i64 (leftOf F xs).1, .int .i64 (leftOf F xs).2.1, .bool (leftOf F xs).2.2]) ∧ Below w.heap.size w w' := by
  cases hv : readV F xs with
  | none =>
    rw [show leftOf F xs = (0, 0, false) by unfold leftOf; rw [hv]]
    exact left_fail w F A c xs hr hv
  | some s =>
    obtain ⟨bg, pins, fr⟩ := s
    obtain ⟨f0, f1, hx, hg, p0, p1⟩ := read_good hv
    rw [show leftOf F xs = leftV F.toNat bg by unfold leftOf; rw [hv]]
    obtain ⟨n, rfl⟩ : ∃ n : Nat, F = (n : Int) := ⟨F.toNat, by omega⟩
    rw [Int.toNat_natCast] at hg ⊢
    unfold leftV
    cases ha : allV n bg with
    | true =>
      rw [if_pos rfl]
      exact left_all w n A c xs hr bg pins fr hv (by rw [Int.toNat_natCast]; exact ha)
    | false =>
      rw [if_neg (by decide)]
      have hl := hg.2.1
      simp only at hl
      cases hb : bg with
      | nil =>
        subst hb
        rw [if_neg (by simp only [List.length_nil]; omega), if_pos (by rfl)]
        refine (left_none0 w n A c xs hr pins fr hv ha).mono ?_
        rintro e w' ⟨rfl, h⟩
        refine ⟨?_, h⟩
        simp only [List.length_nil, Int.natCast_zero]
        rw [show (n : Int) - 0 - 1 + 2 = (n : Int) + 1 by omega, show 2 * ((n : Int) - 0 - 1) + 3 = 2 * (n : Int) + 1 by omega]
      | cons r0 t0 =>
        rw [← hb]
        have hj : bg.length = t0.length + 1 := by rw [hb]; rfl
        generalize t0.length = j at hj
        clear hb
        have hjl : j < bg.length := by omega
        have hgd : bg.getD j [] = bg[j] := by simp [List.getD_eq_getElem?_getD, hjl]
        by_cases hjn : j + 1 < n
        · rw [if_neg (by omega)]
          have hnv : newV n bg = doneV (bg.getD j []) := by
            unfold newV
            rw [hj, Nat.add_sub_cancel, decide_eq_true (by omega)]
            rfl
          cases hq : doneV (bg.getD j []) with
          | true =>
            rw [if_pos (by rw [hnv]; exact hq)]
            refine (left_mid1 w n j A c xs hr bg pins fr hv ha hj hjn hq).mono ?_
            rintro e w' ⟨rfl, h⟩
            refine ⟨?_, h⟩
            simp only [hj]
            rw [show (n : Int) - ((j + 1 : Nat) : Int) - 1 + 2 = (n : Int) - 2 - j + 2 by omega, show 2 * ((n : Int) - ((j + 1 : Nat) : Int) - 1) + 3 = 2 * ((n : Int) - 2 - j) + 3 by omega]
          | false =>
            rw [if_neg (by rw [hnv, hq]; decide)]
            refine (left_mid0 w n j A c xs hr bg pins fr hv ha hj hjn hq).mono ?_
            rintro e w' ⟨rfl, h⟩
            refine ⟨?_, h⟩
            simp only [hj]
            rw [show (n : Int) - ((j + 1 : Nat) : Int) - 1 + 3 = 1 + ((n : Int) - 2 - j) + 2 by omega, show 2 * ((n : Int) - ((j + 1 : Nat) : Int) - 1) + 4 = 1 + 2 * ((n : Int) - 2 - j) + 3 by omega]
        · have hn1 : n = j + 1 := by omega
          rw [if_pos (by omega), show n - 1 = j by omega, hgd]
          have hne := List.length_pos_iff.2 (hg.1 _ (List.getElem_mem hjl)).1
          by_cases h2 : bg[j].length = 2
          · rw [if_pos h2]
            exact left_last2 w n j A c xs hr bg pins fr hv ha hj hn1 hjl h2
          · rw [if_neg h2]
            have h00 : bg[j].getD 0 0 = bg[j][0] := by simp [List.getD_eq_getElem?_getD, hne]
            rw [h00]
            by_cases h10 : bg[j][0] = 10
            · rw [if_pos h10]
              exact left_last10 w n j A c xs hr bg pins fr hv ha hj hn1 hjl h2 hne h10
            · rw [if_neg h10]
              exact left_last1 w n j A c xs hr bg pins fr hv ha hj hn1 hjl h2 hne h10
end Go.Proofs.Ytnpnbgohdmonmaa.Lane
