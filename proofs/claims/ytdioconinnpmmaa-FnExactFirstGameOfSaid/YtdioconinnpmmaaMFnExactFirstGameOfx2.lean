-- Written for this claim by this session's own program out of the translation.
import Derived.Test.YtdioconinnpmmaaMFnExactFirstGameOfx0
import Derived.Test.YtdioconinnpmmaaMFnExactFirstGameOfx1
namespace Go.Proofs.Ytdioconinnpmmaa.MFnExactFirstGameOf
open Go.RowKit Go.Proofs.YtdioconinnpmmaaW.PrintWords Go.Proofs.YtdioconinnpmmaaW.PrintLast Go.Proofs.YtdioconinnpmmaaW.PrintMore
attribute [local go_sem] max2_int min2_int max_two min_two max_three min_three max_four min_four   -- for this text's walks alone
set_option linter.unusedVariables false
set_option linter.unusedSimpArgs false

/-! ### spec_boRoll: function 35 -/
def rollV (F fr : Int) (bs : List Int) (st : Int) : Int × List Int × Int × Bool :=
  if fr < wrap64 (F - 1) then (if st = 0 then (wrap64 (fr + 1), [], 10, false) else if bs.length = 2 then (wrap64 (fr + 1), [], 10, false) else (fr, bs, st, false))
  else (fr, bs, if st = 0 then 10 else st, if bs.length = 3 then true else if bs.length = 2 then (if rd bs 0 < 10 then decide (wrap64 (rd bs 0 + rd bs 1) < 10) else false) else false)
def spec_boRoll.f (a0 : Int) (a1_0 : Int) (l1_1 : List Int) (a1_2 : Int) (a1_3 : Bool) (a2 : Int) : Option (Int × List Int × Int × Bool) := (spec_l1Own.f l1_1).bind fun t115 => ((some (([a2] : List Int) : List Int)).bind fun y118 => (if t115.length + y118.length < 17592186044416 then (some (rollV a0 a1_0 (t115 ++ y118) (wrap64 (a1_2 - a2)))) else (none)))
def spec_boRoll.T1 : Bool × List (List Nat × List Nat) := (true, [([], []), ([0], [0]), ([], []), ([2], [2]), ([3], [3]), ([], []), ([5], [5]), ([4, 6, 4], [4, 6]), ([], []), ([8], [8]), ([], []), ([9, 10], [9, 10]), ([1, 7, 11], [1, 7, 11]), ([], []), ([13, 12, 7, 0, 1, 2, 3, 4, 5, 6, 7, 8, 9, 10, 11, 12, 13], [12, 13])])
def spec_boRoll.B1 : List Nat := [0, 1, 0, 4, 12, 0, 32, 124, 0, 256, 0, 1792, 4095, 0, 16383]
theorem spec_boRoll.tab1 : rtab .any (opsOf Try.f35 1) = spec_boRoll.T1 := by kernel_rfl
theorem spec_boRoll.bits1 : waitsOk spec_boRoll.T1.2 spec_boRoll.B1 = true := by kernel_rfl
set_option maxHeartbeats 8000000 in
set_option maxRecDepth 100000 in
theorem spec_boRoll.calls (a0 : Int) (a1_0 : Int) (A1_1 : Option Addr) (c1_1 : Nat) (l1_1 : List Int) (a1_2 : Int) (a1_3 : Bool) (a2 : Int) (r1 : Int) (r2 : List Int) (r3 : Int) (r4 : Bool) (w : World) (hr1_1 : Kd.C (Kd.int .i64) w A1_1 l1_1.length l1_1) (hc1_1 : l1_1.length ≤ c1_1) (h : spec_boRoll.f a0 a1_0 l1_1 a1_2 a1_3 a2 = some (r1, r2, r3, r4)) :
    Calls Try.prog 35 #[.int .i64 a0, .agg #[.int .i64 a1_0, .slice A1_1 l1_1.length c1_1, .int .i64 a1_2, .bool a1_3], .int .i64 a2] w fun e w' => ∃ v1_ : Value, e = .returned (.agg #[.int .i64 r1, v1_, .int .i64 r3, .bool r4]) ∧ Kd.R (Kd.int .i64) 3 w' w.heap.size (fun _ => True) v1_ r2 ∧ Below w.heap.size w w' := by
  have hu46 := Try.underlying46
  have HR1_1 := Aside0.mk hr1_1
  have HC1_1 := Aside0.mk hc1_1
  clear hr1_1 hc1_1
  have HB := Aside0.mk (Below.refl w.heap.size w)
  have H : ((spec_l1Own.f l1_1).bind fun t115 => ((some (([a2] : List Int) : List Int)).bind fun y118 => (if t115.length + y118.length < 17592186044416 then (some (rollV a0 a1_0 (t115 ++ y118) (wrap64 (a1_2 - a2)))) else (none)))) = some (r1, r2, r3, r4) := h
  clear h
  replace H := Option.bind_eq_some_iff.mp H
  obtain ⟨t115, A40, H⟩ := H
  replace H : ((some (([a2] : List Int) : List Int)).bind fun y118 => (if t115.length + y118.length < 17592186044416 then (some (rollV a0 a1_0 (t115 ++ y118) (wrap64 (a1_2 - a2)))) else (none))) = some (r1, r2, r3, r4) := H
  have A4 := Aside0.mk A40
  clear A40
  obtain ⟨y118, hy118⟩ : ∃ y_ : List Int, y_ = (([a2] : List Int)) := ⟨_, rfl⟩
  replace H : (if t115.length + y118.length < 17592186044416 then (some (rollV a0 a1_0 (t115 ++ y118) (wrap64 (a1_2 - a2)))) else (none)) = some (r1, r2, r3, r4) := by first | (rw [hy118]; with_reducible exact H) | (have H2_ := (Option.bind_some _ _).symm.trans H; rw [hy118]; with_reducible exact H2_) | (have H2_ := (Option.bind_some _ _).symm.trans H; with_reducible exact H2_) | with_reducible exact H | (rw [hy118]; exact H) | exact H
  have Ny118 := Aside0.mk hy118
  clear hy118
  by_cases c5 : t115.length + y118.length < 17592186044416
  · rw [if_pos c5] at H
    have LMc5 := Aside0.mk c5
    clear c5
    obtain ⟨y121, hy121⟩ : ∃ y_ : List Int, y_ = (t115 ++ y118) := ⟨_, rfl⟩
    replace H : (some (rollV a0 a1_0 y121 (wrap64 (a1_2 - a2)))) = some (r1, r2, r3, r4) := by first | (rw [hy121]; with_reducible exact H) | (have H2_ := (Option.bind_some _ _).symm.trans H; rw [hy121]; with_reducible exact H2_) | (have H2_ := (Option.bind_some _ _).symm.trans H; with_reducible exact H2_) | with_reducible exact H | (rw [hy121]; exact H) | exact H
    have Ny121 := Aside0.mk hy121
    clear hy121
    have HRV := Aside0.mk (Option.some.inj H)
    clear H
    go_enter Try.func35, Try.ntmps35
    try go_wp2_with (first | ((with_reducible refine gate_dst (N := 4) rfl ?_); refine box_event ?hg (N := 4) ?hd (cs := #[.int .i64 a1_0, .slice A1_1 l1_1.length c1_1, .int .i64 a1_2, .bool a1_3]) (t := 46) ?hr ?_; (case hd => rfl); (case hg => rfl); (case hr => first | (go_simp; done) | (go_simp; rfl)); intro gb113 hg w6 hbox hb; have n0_ := Aside0.mk (below_step (by repeat (first | (with_reducible first | exact HB.out | apply below_alloc | apply pw_below_drewN | apply below_drew1) | exact HB.out)) hb); have n1_ := Aside0.mk (hbox); have n2_ := Aside0.mk ((by rw [hg]; exact (below_size (by repeat (first | (with_reducible first | exact HB.out | apply below_alloc | apply pw_below_drewN | apply below_drew1) | exact HB.out))) : w.heap.size ≤ gb113)); have n3_ := Aside0.mk ((by rw [hg]; exact (below_size (by repeat (first | (with_reducible first | exact HB.out | apply below_alloc | apply pw_below_drewN | apply below_drew1) | exact HB.out))) : w.heap.size ≤ gb113)); clear HB; have HB := n0_; have BK113 := n1_; have GW113 := n2_; have GE113 := n3_; clear n0_ n1_ n2_ n3_; clear hb hbox hg) | ((with_reducible refine gate_dst (N := 6) rfl ?_); refine box_event ?hg (N := 6) ?hd (cs := #[.int .i64 0, .slice none 0 0, .int .i64 0, .bool false]) (t := 46) ?hr ?_; (case hd => rfl); (case hg => rfl); (case hr => first | (go_simp; done) | (go_simp; rfl)); intro gb114 hg w7 hbox hb; have n0_ := Aside0.mk (blk_below (g := gb113) (o := .cells #[.int .i64 a1_0, .slice A1_1 l1_1.length c1_1, .int .i64 a1_2, .bool a1_3] 46 (0, 0)) (by (with_reducible repeat (first | refine blk_drewN ?_ _ | refine blk_drew ?_ | refine blk_alloc ?_ _)); exact BK113.out) hb); have n1_ := Aside0.mk (below_step (by repeat (first | (with_reducible first | exact HB.out | apply below_alloc | apply pw_below_drewN | apply below_drew1 | refine below_set ?_ GE113.out) | exact HB.out)) hb); have n2_ := Aside0.mk (hbox); have n3_ := Aside0.mk ((by rw [hg]; exact (below_size (by repeat (first | (with_reducible first | exact HB.out | apply below_alloc | apply pw_below_drewN | apply below_drew1 | refine below_set ?_ GE113.out) | exact HB.out))) : w.heap.size ≤ gb114)); have n4_ := Aside0.mk ((by rw [hg]; exact (below_size (by repeat (first | (with_reducible first | exact HB.out | apply below_alloc | apply pw_below_drewN | apply below_drew1 | refine below_set ?_ GE113.out) | exact HB.out))) : w.heap.size ≤ gb114)); have n5_ := Aside0.mk ((by rw [hg]; exact Nat.ne_of_lt (blk_lt (g := gb113) (o := .cells #[.int .i64 a1_0, .slice A1_1 l1_1.length c1_1, .int .i64 a1_2, .bool a1_3] 46 (0, 0)) (by (with_reducible repeat (first | refine blk_drewN ?_ _ | refine blk_drew ?_ | refine blk_alloc ?_ _)); exact BK113.out)) : gb113 ≠ gb114)); have n6_ := Aside0.mk ((by rw [hg]; exact Nat.ne_of_gt (blk_lt (g := gb113) (o := .cells #[.int .i64 a1_0, .slice A1_1 l1_1.length c1_1, .int .i64 a1_2, .bool a1_3] 46 (0, 0)) (by (with_reducible repeat (first | refine blk_drewN ?_ _ | refine blk_drew ?_ | refine blk_alloc ?_ _)); exact BK113.out)) : gb114 ≠ gb113)); clear BK113; clear HB; have BK113 := n0_; have HB := n1_; have BK114 := n2_; have GW114 := n3_; have GE114 := n4_; have NB113_114 := n5_; have NB114_113 := n6_; clear n0_ n1_ n2_ n3_ n4_ n5_ n6_; clear hb hbox hg))
    have n0_ := Aside0.mk (blk_drew BK113.out)
    have n1_ := Aside0.mk (blk_drew BK114.out)
    have n2_ := Aside0.mk (below_drew1 HB.out)
    clear BK113
    clear BK114
    clear HB
    have BK113 := n0_
    have BK114 := n1_
    have HB := n2_
    clear n0_ n1_ n2_
    refine start_ (n := 15) (S := fun w' => w'.cell? ⟨gb113, 0, none⟩ = some (.int .i64 a1_0) ∧ w'.cell? ⟨gb113, 1, none⟩ = some (.slice A1_1 l1_1.length c1_1) ∧ w'.cell? ⟨gb113, 2, none⟩ = some (.int .i64 a1_2) ∧ w'.cell? ⟨gb113, 3, none⟩ = some (.bool a1_3)) (ds := []) #[false, false, false, false, false, false, false, false, false, false, false, false, false, false, false] (by kernel_rfl) rfl rfl ⟨(blk_cell BK113.out 0).trans rfl, (blk_cell BK113.out 1).trans rfl, (blk_cell BK113.out 2).trans rfl, (blk_cell BK113.out 3).trans rfl⟩ (fun hHeld => ?_); refine with_tabW spec_boRoll.tab1 spec_boRoll.bits1 (fun HT_ HW_ => ?_)
    generalize w7.drew = w8 at BK113 BK114 HB hHeld ⊢
    refine pure_ (i := 0) (N := some 9) (v := ?_) (a' := ?_) #[true, false, false, false, false, false, false, false, false, false, false, false, false, false, false] rfl rfl (any_of HT_.out (by kernel_rfl)) (fun _ _ _ h => h) (Or.inl ⟨by rfl, ?_⟩) ?_ ?_
    rotate_left
    · intro w'
      go_simp
      with_reducible rfl
    rotate_left
    · simp only [Act.put, List.setIfInBounds_toArray, List.set_cons_zero, List.set_cons_succ, i64_w, i32_w]
      rfl
    refine pure_ (i := 2) (N := some 11) (v := ?_) (a' := ?_) #[true, false, true, false, false, false, false, false, false, false, false, false, false, false, false] rfl rfl (any_of HT_.out (by kernel_rfl)) (fun _ _ _ h => h) (Or.inl ⟨by rfl, ?_⟩) ?_ ?_
    rotate_left
    · intro w'
      go_simp
      with_reducible rfl
    rotate_left
    · simp only [Act.put, List.setIfInBounds_toArray, List.set_cons_zero, List.set_cons_succ, i64_w, i32_w]
      rfl
    refine pure_ (i := 5) (N := some 14) (v := ?_) (a' := ?_) #[true, false, true, false, false, true, false, false, false, false, false, false, false, false, false] rfl rfl (any_of HT_.out (by kernel_rfl)) (fun _ _ _ h => h) (Or.inl ⟨by rfl, ?_⟩) ?_ ?_
    rotate_left
    · intro w'
      go_simp
      with_reducible rfl
    rotate_left
    · simp only [Act.put, List.setIfInBounds_toArray, List.set_cons_zero, List.set_cons_succ, i64_w, i32_w]
      rfl
    refine pure_ (i := 8) (N := some 17) (v := ?_) (a' := ?_) #[true, false, true, false, false, true, false, false, true, false, false, false, false, false, false] rfl rfl (any_of HT_.out (by kernel_rfl)) (fun _ _ _ h => h) (Or.inl ⟨by rfl, ?_⟩) ?_ ?_
    rotate_left
    · intro w'
      go_simp
      with_reducible rfl
    rotate_left
    · simp only [Act.put, List.setIfInBounds_toArray, List.set_cons_zero, List.set_cons_succ, i64_w, i32_w]
      rfl
    refine pure_ (i := 10) (N := some 19) (v := ?_) (a' := ?_) #[true, false, true, false, false, true, false, false, true, false, true, false, false, false, false] rfl rfl (any_of HT_.out (by kernel_rfl)) (fun _ _ _ h => h) (Or.inl ⟨by rfl, ?_⟩) ?_ ?_
    rotate_left
    · intro w'
      go_simp
      with_reducible rfl
    rotate_left
    · simp only [Act.put, List.setIfInBounds_toArray, List.set_cons_zero, List.set_cons_succ, i64_w, i32_w]
      rfl
    refine take_ (i := 1) (N := some 10) (v := ?_) (a' := ?_) #[true, true, true, false, false, true, false, false, true, false, true, false, false, false, false] rfl rfl (take_ofW HT_.out HW_.out (by kernel_rfl)) (fun _ _ _ h => h) (Or.inl ⟨by rfl, ?_⟩) hHeld ?_ ?_
    rotate_left
    · rintro w' ⟨s0, s1, s2, s3⟩
      go_simp
      with_reducible rfl
    rotate_left
    · simp only [Act.put, List.setIfInBounds_toArray, List.set_cons_zero, List.set_cons_succ, i64_w, i32_w]
      rfl
    refine take_ (i := 3) (N := some 12) (v := ?_) (a' := ?_) #[true, true, true, true, false, true, false, false, true, false, true, false, false, false, false] rfl rfl (take_ofW HT_.out HW_.out (by kernel_rfl)) (fun _ _ _ h => h) (Or.inl ⟨by rfl, ?_⟩) hHeld ?_ ?_
    rotate_left
    · rintro w' ⟨s0, s1, s2, s3⟩
      go_simp
      with_reducible rfl
    rotate_left
    · simp only [Act.put, List.setIfInBounds_toArray, List.set_cons_zero, List.set_cons_succ, i64_w, i32_w]
      rfl
    refine take_ (i := 9) (N := some 18) (v := ?_) (a' := ?_) #[true, true, true, true, false, true, false, false, true, true, true, false, false, false, false] rfl rfl (take_ofW HT_.out HW_.out (by kernel_rfl)) (fun _ _ _ h => h) (Or.inl ⟨by rfl, ?_⟩) hHeld ?_ ?_
    rotate_left
    · rintro w' ⟨s0, s1, s2, s3⟩
      go_simp
      with_reducible rfl
    rotate_left
    · simp only [Act.put, List.setIfInBounds_toArray, List.set_cons_zero, List.set_cons_succ, i64_w, i32_w]
      rfl
    refine pure_ (i := 11) (N := some 20) (v := ?_) (a' := ?_) #[true, true, true, true, false, true, false, false, true, true, true, true, false, false, false] rfl rfl (any_of HT_.out (by kernel_rfl)) (fun _ _ _ h => h) (Or.inl ⟨by rfl, ?_⟩) ?_ ?_
    rotate_left
    · intro w'
      go_simp
      with_reducible rfl
    rotate_left
    · simp only [Act.put, List.setIfInBounds_toArray, List.set_cons_zero, List.set_cons_succ, i64_w, i32_w]
      rfl
    refine join_ (σ := Value × Value × Value × Nat) 1 #[true, true, true, true, true, true, true, true, true, true, true, true, true, true, false] (fun s_ => [(13, s_.1), (15, s_.2.1), (16, s_.2.2.1), (7, .pointer (some ⟨s_.2.2.2, 0, none⟩)), (21, .agg #[.int .i64 a1_0, s_.2.2.1, .int .i64 (wrap64 (a1_2 - a2)), .bool false])]) (fun s_ w' => (w'.cell? ⟨gb113, 0, none⟩ = some (.int .i64 a1_0) ∧ w'.cell? ⟨gb113, 1, none⟩ = some (.slice A1_1 l1_1.length c1_1) ∧ w'.cell? ⟨gb113, 2, none⟩ = some (.int .i64 a1_2) ∧ w'.cell? ⟨gb113, 3, none⟩ = some (.bool a1_3)) ∧ (Kd.R (Kd.int .i64) 3 w' w.heap.size (fun k_ => some k_ ≠ (s_.2.2.1 : Value).ownBlock) s_.2.1 y118) ∧ (Kd.R (Kd.int .i64) 3 w' w.heap.size (fun k_ => some k_ ≠ (s_.2.1 : Value).ownBlock) s_.2.2.1 y121) ∧ (w'.heap[gb113]? = some (.cells #[.int .i64 a1_0, .slice A1_1 l1_1.length c1_1, .int .i64 a1_2, .bool a1_3] 46 (0, 0))) ∧ (w'.heap[gb114]? = some (.cells #[.int .i64 0, .slice none 0 0, .int .i64 0, .bool false] 46 (0, 0))) ∧ (w'.heap[s_.2.2.2]? = some (.cells #[.int .i64 0, .slice none 0 0, .int .i64 0, .bool false] 46 (0, 0))) ∧ (w.heap.size ≤ s_.2.2.2) ∧ (w.heap.size ≤ s_.2.2.2) ∧ (gb113 ≠ s_.2.2.2) ∧ (s_.2.2.2 ≠ gb113) ∧ (gb114 ≠ s_.2.2.2) ∧ (s_.2.2.2 ≠ gb114) ∧ (Below w.heap.size w w')) ?_ ?_
    rotate_left
    · intro hJ4_6_7_13
      refine join_ (σ := Value × Value × Value) 2 #[true, true, true, true, true, true, true, true, true, true, true, true, true, false, false] (fun s_ => [(13, s_.1), (15, s_.2.1), (16, s_.2.2), (21, .agg #[.int .i64 a1_0, s_.2.2, .int .i64 (wrap64 (a1_2 - a2)), .bool false])]) (fun s_ w' => (w'.cell? ⟨gb113, 0, none⟩ = some (.int .i64 a1_0) ∧ w'.cell? ⟨gb113, 1, none⟩ = some (.slice A1_1 l1_1.length c1_1) ∧ w'.cell? ⟨gb113, 2, none⟩ = some (.int .i64 a1_2) ∧ w'.cell? ⟨gb113, 3, none⟩ = some (.bool a1_3)) ∧ (Kd.R (Kd.int .i64) 3 w' w.heap.size (fun k_ => some k_ ≠ (s_.2.2 : Value).ownBlock) s_.2.1 y118) ∧ (Kd.R (Kd.int .i64) 3 w' w.heap.size (fun k_ => some k_ ≠ (s_.2.1 : Value).ownBlock) s_.2.2 y121) ∧ (w'.heap[gb113]? = some (.cells #[.int .i64 a1_0, .slice A1_1 l1_1.length c1_1, .int .i64 a1_2, .bool a1_3] 46 (0, 0))) ∧ (w'.heap[gb114]? = some (.cells #[.int .i64 0, .slice none 0 0, .int .i64 0, .bool false] 46 (0, 0))) ∧ (Below w.heap.size w w')) ?_ ?_
      rotate_left
      · intro hJ4_6_7
        refine join_ (σ := Value × Value × Nat) 3 #[true, true, true, true, true, true, true, false, true, true, true, true, false, true, false] (fun s_ => [(13, s_.1), (15, s_.2.1), (7, .pointer (some ⟨s_.2.2, 0, none⟩))]) (fun s_ w' => (w'.cell? ⟨gb113, 0, none⟩ = some (.int .i64 a1_0) ∧ w'.cell? ⟨gb113, 1, none⟩ = some (.slice A1_1 l1_1.length c1_1) ∧ w'.cell? ⟨gb113, 2, none⟩ = some (.int .i64 a1_2) ∧ w'.cell? ⟨gb113, 3, none⟩ = some (.bool a1_3)) ∧ (Kd.R (Kd.int .i64) 3 w' w.heap.size (fun k_ => some k_ ≠ (s_.2.1 : Value).ownBlock) s_.1 t115) ∧ (Kd.R (Kd.int .i64) 3 w' w.heap.size (fun k_ => some k_ ≠ (s_.1 : Value).ownBlock) s_.2.1 y118) ∧ (w'.heap[gb113]? = some (.cells #[.int .i64 a1_0, .slice A1_1 l1_1.length c1_1, .int .i64 a1_2, .bool a1_3] 46 (0, 0))) ∧ (w'.heap[gb114]? = some (.cells #[.int .i64 0, .slice none 0 0, .int .i64 0, .bool false] 46 (0, 0))) ∧ (w'.heap[s_.2.2]? = some (.cells #[.int .i64 0, .slice none 0 0, .int .i64 0, .bool false] 46 (0, 0))) ∧ (w.heap.size ≤ s_.2.2) ∧ (w.heap.size ≤ s_.2.2) ∧ (gb113 ≠ s_.2.2) ∧ (s_.2.2 ≠ gb113) ∧ (gb114 ≠ s_.2.2) ∧ (s_.2.2 ≠ gb114) ∧ (Below w.heap.size w w')) ?_ ?_
        rotate_left
        · intro hJ4_6_13
          refine join_ (σ := Value × Value) 4 #[true, true, true, true, true, true, true, false, true, true, true, true, false, false, false] (fun s_ => [(13, s_.1), (15, s_.2)]) (fun s_ w' => (w'.cell? ⟨gb113, 0, none⟩ = some (.int .i64 a1_0) ∧ w'.cell? ⟨gb113, 1, none⟩ = some (.slice A1_1 l1_1.length c1_1) ∧ w'.cell? ⟨gb113, 2, none⟩ = some (.int .i64 a1_2) ∧ w'.cell? ⟨gb113, 3, none⟩ = some (.bool a1_3)) ∧ (Kd.R (Kd.int .i64) 3 w' w.heap.size (fun k_ => some k_ ≠ (s_.2 : Value).ownBlock) s_.1 t115) ∧ (Kd.R (Kd.int .i64) 3 w' w.heap.size (fun k_ => some k_ ≠ (s_.1 : Value).ownBlock) s_.2 y118) ∧ (w'.heap[gb113]? = some (.cells #[.int .i64 a1_0, .slice A1_1 l1_1.length c1_1, .int .i64 a1_2, .bool a1_3] 46 (0, 0))) ∧ (w'.heap[gb114]? = some (.cells #[.int .i64 0, .slice none 0 0, .int .i64 0, .bool false] 46 (0, 0))) ∧ (Below w.heap.size w w')) ?_ ?_
          rotate_left
          · intro hJ4_6
            refine join_ (σ := Value × Nat) 4 #[true, true, true, true, true, true, false, false, true, true, true, true, false, true, false] (fun s_ => [(13, s_.1), (7, .pointer (some ⟨s_.2, 0, none⟩))]) (fun s_ w' => (w'.cell? ⟨gb113, 0, none⟩ = some (.int .i64 a1_0) ∧ w'.cell? ⟨gb113, 1, none⟩ = some (.slice A1_1 l1_1.length c1_1) ∧ w'.cell? ⟨gb113, 2, none⟩ = some (.int .i64 a1_2) ∧ w'.cell? ⟨gb113, 3, none⟩ = some (.bool a1_3)) ∧ (Kd.R (Kd.int .i64) 3 w' w.heap.size (fun _ => True) s_.1 t115) ∧ (w'.heap[gb113]? = some (.cells #[.int .i64 a1_0, .slice A1_1 l1_1.length c1_1, .int .i64 a1_2, .bool a1_3] 46 (0, 0))) ∧ (w'.heap[gb114]? = some (.cells #[.int .i64 0, .slice none 0 0, .int .i64 0, .bool false] 46 (0, 0))) ∧ (w'.heap[s_.2]? = some (.cells #[.int .i64 0, .slice none 0 0, .int .i64 0, .bool false] 46 (0, 0))) ∧ (w.heap.size ≤ s_.2) ∧ (w.heap.size ≤ s_.2) ∧ (gb113 ≠ s_.2) ∧ (s_.2 ≠ gb113) ∧ (gb114 ≠ s_.2) ∧ (s_.2 ≠ gb114) ∧ (Below w.heap.size w w')) ?_ ?_
            rotate_left
            · intro hJ4_13
              refine join_ (σ := Value × Nat) 4 #[true, true, true, true, false, true, true, false, true, true, true, true, false, true, false] (fun s_ => [(15, s_.1), (7, .pointer (some ⟨s_.2, 0, none⟩))]) (fun s_ w' => (w'.cell? ⟨gb113, 0, none⟩ = some (.int .i64 a1_0) ∧ w'.cell? ⟨gb113, 1, none⟩ = some (.slice A1_1 l1_1.length c1_1) ∧ w'.cell? ⟨gb113, 2, none⟩ = some (.int .i64 a1_2) ∧ w'.cell? ⟨gb113, 3, none⟩ = some (.bool a1_3)) ∧ (Kd.R (Kd.int .i64) 3 w' w.heap.size (fun _ => True) s_.1 y118) ∧ (w'.heap[gb113]? = some (.cells #[.int .i64 a1_0, .slice A1_1 l1_1.length c1_1, .int .i64 a1_2, .bool a1_3] 46 (0, 0))) ∧ (w'.heap[gb114]? = some (.cells #[.int .i64 0, .slice none 0 0, .int .i64 0, .bool false] 46 (0, 0))) ∧ (w'.heap[s_.2]? = some (.cells #[.int .i64 0, .slice none 0 0, .int .i64 0, .bool false] 46 (0, 0))) ∧ (w.heap.size ≤ s_.2) ∧ (w.heap.size ≤ s_.2) ∧ (gb113 ≠ s_.2) ∧ (s_.2 ≠ gb113) ∧ (gb114 ≠ s_.2) ∧ (s_.2 ≠ gb114) ∧ (Below w.heap.size w w')) ?_ ?_
              rotate_left
              · intro hJ6_13
                refine join_ (σ := Value) 5 #[true, true, true, true, true, true, false, false, true, true, true, true, false, false, false] (fun s_ => [(13, s_)]) (fun s_ w' => (w'.cell? ⟨gb113, 0, none⟩ = some (.int .i64 a1_0) ∧ w'.cell? ⟨gb113, 1, none⟩ = some (.slice A1_1 l1_1.length c1_1) ∧ w'.cell? ⟨gb113, 2, none⟩ = some (.int .i64 a1_2) ∧ w'.cell? ⟨gb113, 3, none⟩ = some (.bool a1_3)) ∧ (Kd.R (Kd.int .i64) 3 w' w.heap.size (fun _ => True) s_ t115) ∧ (w'.heap[gb113]? = some (.cells #[.int .i64 a1_0, .slice A1_1 l1_1.length c1_1, .int .i64 a1_2, .bool a1_3] 46 (0, 0))) ∧ (w'.heap[gb114]? = some (.cells #[.int .i64 0, .slice none 0 0, .int .i64 0, .bool false] 46 (0, 0))) ∧ (Below w.heap.size w w')) ?_ ?_
                rotate_left
                · intro hJ4
                  refine join_ (σ := Value) 5 #[true, true, true, true, false, true, true, false, true, true, true, true, false, false, false] (fun s_ => [(15, s_)]) (fun s_ w' => (w'.cell? ⟨gb113, 0, none⟩ = some (.int .i64 a1_0) ∧ w'.cell? ⟨gb113, 1, none⟩ = some (.slice A1_1 l1_1.length c1_1) ∧ w'.cell? ⟨gb113, 2, none⟩ = some (.int .i64 a1_2) ∧ w'.cell? ⟨gb113, 3, none⟩ = some (.bool a1_3)) ∧ (Kd.R (Kd.int .i64) 3 w' w.heap.size (fun _ => True) s_ y118) ∧ (w'.heap[gb113]? = some (.cells #[.int .i64 a1_0, .slice A1_1 l1_1.length c1_1, .int .i64 a1_2, .bool a1_3] 46 (0, 0))) ∧ (w'.heap[gb114]? = some (.cells #[.int .i64 0, .slice none 0 0, .int .i64 0, .bool false] 46 (0, 0))) ∧ (Below w.heap.size w w')) ?_ ?_
                  rotate_left
                  · intro hJ6
                    refine join_ (σ := Nat) 5 #[true, true, true, true, false, true, false, false, true, true, true, true, false, true, false] (fun s_ => [(7, .pointer (some ⟨s_, 0, none⟩))]) (fun s_ w' => (w'.cell? ⟨gb113, 0, none⟩ = some (.int .i64 a1_0) ∧ w'.cell? ⟨gb113, 1, none⟩ = some (.slice A1_1 l1_1.length c1_1) ∧ w'.cell? ⟨gb113, 2, none⟩ = some (.int .i64 a1_2) ∧ w'.cell? ⟨gb113, 3, none⟩ = some (.bool a1_3)) ∧ (w'.heap[gb113]? = some (.cells #[.int .i64 a1_0, .slice A1_1 l1_1.length c1_1, .int .i64 a1_2, .bool a1_3] 46 (0, 0))) ∧ (w'.heap[gb114]? = some (.cells #[.int .i64 0, .slice none 0 0, .int .i64 0, .bool false] 46 (0, 0))) ∧ (w'.heap[s_]? = some (.cells #[.int .i64 0, .slice none 0 0, .int .i64 0, .bool false] 46 (0, 0))) ∧ (w.heap.size ≤ s_) ∧ (w.heap.size ≤ s_) ∧ (gb113 ≠ s_) ∧ (s_ ≠ gb113) ∧ (gb114 ≠ s_) ∧ (s_ ≠ gb114) ∧ (Below w.heap.size w w')) ?_ ?_
                    rotate_left
                    · intro hJ13
                      refine three_ (i := 4) (j := 6) (k := 13) (Ni := some 13) (Nj := some 15) (Nk := some 7) #[true, true, true, true, true, true, false, false, true, true, true, true, false, false, false] #[true, true, true, true, false, true, true, false, true, true, true, true, false, false, false] #[true, true, true, true, false, true, false, false, true, true, true, true, false, true, false] rfl rfl rfl rfl rfl rfl (three_of HT_.out (by kernel_rfl)) (by decide) (by decide) (by decide) (fun K hK => ?_) (fun K hK => ?_) (fun K hK => ?_)
                      · skip
                        refine goes_ Try.func29 (by kernel_rfl) rfl #[.slice A1_1 l1_1.length c1_1] (by rfl) rfl rfl (by (try simp only [List.map_toArray, List.map_cons, List.map_nil]); first | done | rfl | (simp only [List.length_drop, List.length_take]; rfl)) ?_
                        with_reducible refine (spec_l1Own.calls _ _ l1_1 t115 _ ?side1 ?side2 A4.out).mono ?_
                        (case side1 => repeat (first | exact (Kd.C_below HR1_1.out HB.out) | (with_reducible refine Kd.C_alloc ?_ _) | (with_reducible refine Kd.C_drewN ?_ _) | (with_reducible refine Kd.C_drew ?_)))
                        (case side2 => exact HC1_1.out)
                        rintro e w9 ⟨v116, rfl, ho0, hb⟩
                        refine ⟨_, rfl, ?_⟩
                        have n0_ := Aside0.mk (Kd.R_lower ho0 (below_size (by repeat (first | (with_reducible first | exact HB.out | apply below_alloc | apply pw_below_drewN | apply below_drew1 | refine below_set ?_ GE113.out | refine below_set ?_ GE114.out) | exact HB.out))))
                        have n1_ := Aside0.mk (blk_below (g := gb113) (o := .cells #[.int .i64 a1_0, .slice A1_1 l1_1.length c1_1, .int .i64 a1_2, .bool a1_3] 46 (0, 0)) (by (with_reducible repeat (first | refine blk_drewN ?_ _ | refine blk_drew ?_ | refine blk_alloc ?_ _)); exact BK113.out) hb)
                        have n2_ := Aside0.mk (blk_below (g := gb114) (o := .cells #[.int .i64 0, .slice none 0 0, .int .i64 0, .bool false] 46 (0, 0)) (by (with_reducible repeat (first | refine blk_drewN ?_ _ | refine blk_drew ?_ | refine blk_alloc ?_ _)); exact BK114.out) hb)
                        have n3_ := Aside0.mk (below_step (by repeat (first | (with_reducible first | exact HB.out | apply below_alloc | apply pw_below_drewN | apply below_drew1 | refine below_set ?_ GE113.out | refine below_set ?_ GE114.out) | exact HB.out)) hb)
                        clear BK113
                        clear BK114
                        clear HB
                        have HO117 := n0_
                        have BK113 := n1_
                        have BK114 := n2_
                        have HB := n3_
                        clear n0_ n1_ n2_ n3_
                        (try clear hb)
                        (try clear hb2)
                        (try clear hk)
                        (try clear hi)
                        (try clear ho0)
                        refine hK.out _ _ ⟨(blk_cell BK113.out 0).trans rfl, (blk_cell BK113.out 1).trans rfl, (blk_cell BK113.out 2).trans rfl, (blk_cell BK113.out 3).trans rfl⟩ (fun hHeld => ?_)
                        clear hK K
                        refine norm_ (a' := ?_) ?_ ?_
                        rotate_left
                        · show Act.put _ (some 13) _ = _
                          simp only [Act.put, List.setIfInBounds_toArray, List.set_cons_zero, List.set_cons_succ, i64_w, i32_w]
                          rfl
                        exact norm_ (by first | (simp only [putAll, Act.put, List.setIfInBounds_toArray, List.set_cons_zero, List.set_cons_succ]; done) | (simp only [putAll, Act.put, List.setIfInBounds_toArray, List.set_cons_zero, List.set_cons_succ]; rfl)) (hJ4 (v116) _ ⟨hHeld, (by (with_reducible repeat (first | apply Kd.R_alloc | apply Kd.R_drewN | apply Kd.R_drew)); exact HO117.out), (by (with_reducible repeat (first | refine blk_drewN ?_ _ | refine blk_drew ?_ | refine blk_alloc ?_ _)); exact BK113.out), (by (with_reducible repeat (first | refine blk_drewN ?_ _ | refine blk_drew ?_ | refine blk_alloc ?_ _)); exact BK114.out), (by repeat (first | (with_reducible first | exact HB.out | apply below_alloc | apply pw_below_drewN | apply below_drew1 | refine below_set ?_ GE113.out | refine below_set ?_ GE114.out) | exact HB.out))⟩)
                      · skip
                        refine Kd.R_lit_step (Kd.int .i64) _ 3 ?hg (N := 15) ?hd (xs := ([a2] : List Int)) (inner := [.int .i64 a2]) (ok := fun _ => True) (okp := fun _ => True) ?hr ?hp (fun _ hk => hk) trivial (Below.refl _ _) (Nat.le_refl _) (by simp) ?_; (case hd => rfl); (case hg => rfl); (case hr => first | (go_simp; done) | (go_simp; rfl)); (case hp => exact (Reps.one (show Kd.M (Kd.int .i64) _ _ _ a2 [.int .i64 a2] from rfl) (Reps.none _ _)))
                        intro v119 w9 ho10 hb hg_ hnew_
                        clear hg_ hnew_
                        (first | rw [← Ny118.out] at ho10 | (simp only [Int.reduceToNat] at ho10; rw [← Ny118.out] at ho10))
                        have n0_ := Aside0.mk (Kd.R_lower ho10 (below_size (by repeat (first | (with_reducible first | exact HB.out | apply below_alloc | apply pw_below_drewN | apply below_drew1 | refine below_set ?_ GE113.out | refine below_set ?_ GE114.out) | exact HB.out))))
                        have n1_ := Aside0.mk (blk_below (g := gb113) (o := .cells #[.int .i64 a1_0, .slice A1_1 l1_1.length c1_1, .int .i64 a1_2, .bool a1_3] 46 (0, 0)) (by (with_reducible repeat (first | refine blk_drewN ?_ _ | refine blk_drew ?_ | refine blk_alloc ?_ _)); exact BK113.out) hb)
                        have n2_ := Aside0.mk (blk_below (g := gb114) (o := .cells #[.int .i64 0, .slice none 0 0, .int .i64 0, .bool false] 46 (0, 0)) (by (with_reducible repeat (first | refine blk_drewN ?_ _ | refine blk_drew ?_ | refine blk_alloc ?_ _)); exact BK114.out) hb)
                        have n3_ := Aside0.mk (below_step (by repeat (first | (with_reducible first | exact HB.out | apply below_alloc | apply pw_below_drewN | apply below_drew1 | refine below_set ?_ GE113.out | refine below_set ?_ GE114.out) | exact HB.out)) hb)
                        clear BK113
                        clear BK114
                        clear HB
                        have HO120 := n0_
                        have BK113 := n1_
                        have BK114 := n2_
                        have HB := n3_
                        clear n0_ n1_ n2_ n3_
                        clear hb ho10
                        refine hK.out _ _ ⟨(blk_cell BK113.out 0).trans rfl, (blk_cell BK113.out 1).trans rfl, (blk_cell BK113.out 2).trans rfl, (blk_cell BK113.out 3).trans rfl⟩ (fun hHeld => ?_)
                        clear hK K
                        refine norm_ (a' := ?_) ?_ ?_
                        rotate_left
                        · show Act.put _ (some 15) _ = _
                          simp only [Act.put, List.setIfInBounds_toArray, List.set_cons_zero, List.set_cons_succ, i64_w, i32_w]
                          rfl
                        exact norm_ (by first | (simp only [putAll, Act.put, List.setIfInBounds_toArray, List.set_cons_zero, List.set_cons_succ]; done) | (simp only [putAll, Act.put, List.setIfInBounds_toArray, List.set_cons_zero, List.set_cons_succ]; rfl)) (hJ6 (v119) _ ⟨hHeld, (by (with_reducible repeat (first | apply Kd.R_alloc | apply Kd.R_drewN | apply Kd.R_drew)); exact HO120.out), (by (with_reducible repeat (first | refine blk_drewN ?_ _ | refine blk_drew ?_ | refine blk_alloc ?_ _)); exact BK113.out), (by (with_reducible repeat (first | refine blk_drewN ?_ _ | refine blk_drew ?_ | refine blk_alloc ?_ _)); exact BK114.out), (by repeat (first | (with_reducible first | exact HB.out | apply below_alloc | apply pw_below_drewN | apply below_drew1 | refine below_set ?_ GE113.out | refine below_set ?_ GE114.out) | exact HB.out))⟩)
                      · skip
                        refine box_step ?hg (N := 7) ?hd (cs := #[.int .i64 0, .slice none 0 0, .int .i64 0, .bool false]) (t := 46) ?hr ?_; (case hd => rfl); (case hg => rfl); (case hr => first | (go_simp; done) | (go_simp; rfl))
                        intro gb124 hg w9 hbox hb
                        have n0_ := Aside0.mk (blk_below (g := gb113) (o := .cells #[.int .i64 a1_0, .slice A1_1 l1_1.length c1_1, .int .i64 a1_2, .bool a1_3] 46 (0, 0)) (by (with_reducible repeat (first | refine blk_drewN ?_ _ | refine blk_drew ?_ | refine blk_alloc ?_ _)); exact BK113.out) hb)
                        have n1_ := Aside0.mk (blk_below (g := gb114) (o := .cells #[.int .i64 0, .slice none 0 0, .int .i64 0, .bool false] 46 (0, 0)) (by (with_reducible repeat (first | refine blk_drewN ?_ _ | refine blk_drew ?_ | refine blk_alloc ?_ _)); exact BK114.out) hb)
                        have n2_ := Aside0.mk (below_step (by repeat (first | (with_reducible first | exact HB.out | apply below_alloc | apply pw_below_drewN | apply below_drew1 | refine below_set ?_ GE113.out | refine below_set ?_ GE114.out) | exact HB.out)) hb)
                        have n3_ := Aside0.mk (hbox)
                        have n4_ := Aside0.mk ((by rw [hg]; exact (below_size (by repeat (first | (with_reducible first | exact HB.out | apply below_alloc | apply pw_below_drewN | apply below_drew1 | refine below_set ?_ GE113.out | refine below_set ?_ GE114.out) | exact HB.out))) : w.heap.size ≤ gb124))
                        have n5_ := Aside0.mk ((by rw [hg]; exact (below_size (by repeat (first | (with_reducible first | exact HB.out | apply below_alloc | apply pw_below_drewN | apply below_drew1 | refine below_set ?_ GE113.out | refine below_set ?_ GE114.out) | exact HB.out))) : w.heap.size ≤ gb124))
                        have n6_ := Aside0.mk ((by rw [hg]; exact Nat.ne_of_lt (blk_lt (g := gb113) (o := .cells #[.int .i64 a1_0, .slice A1_1 l1_1.length c1_1, .int .i64 a1_2, .bool a1_3] 46 (0, 0)) (by (with_reducible repeat (first | refine blk_drewN ?_ _ | refine blk_drew ?_ | refine blk_alloc ?_ _)); exact BK113.out)) : gb113 ≠ gb124))
                        have n7_ := Aside0.mk ((by rw [hg]; exact Nat.ne_of_gt (blk_lt (g := gb113) (o := .cells #[.int .i64 a1_0, .slice A1_1 l1_1.length c1_1, .int .i64 a1_2, .bool a1_3] 46 (0, 0)) (by (with_reducible repeat (first | refine blk_drewN ?_ _ | refine blk_drew ?_ | refine blk_alloc ?_ _)); exact BK113.out)) : gb124 ≠ gb113))
                        have n8_ := Aside0.mk ((by rw [hg]; exact Nat.ne_of_lt (blk_lt (g := gb114) (o := .cells #[.int .i64 0, .slice none 0 0, .int .i64 0, .bool false] 46 (0, 0)) (by (with_reducible repeat (first | refine blk_drewN ?_ _ | refine blk_drew ?_ | refine blk_alloc ?_ _)); exact BK114.out)) : gb114 ≠ gb124))
                        have n9_ := Aside0.mk ((by rw [hg]; exact Nat.ne_of_gt (blk_lt (g := gb114) (o := .cells #[.int .i64 0, .slice none 0 0, .int .i64 0, .bool false] 46 (0, 0)) (by (with_reducible repeat (first | refine blk_drewN ?_ _ | refine blk_drew ?_ | refine blk_alloc ?_ _)); exact BK114.out)) : gb124 ≠ gb114))
                        clear BK113
                        clear BK114
                        clear HB
                        have BK113 := n0_
                        have BK114 := n1_
                        have HB := n2_
                        have BK124 := n3_
                        have GW124 := n4_
                        have GE124 := n5_
                        have NB113_124 := n6_
                        have NB124_113 := n7_
                        have NB114_124 := n8_
                        have NB124_114 := n9_
                        clear n0_ n1_ n2_ n3_ n4_ n5_ n6_ n7_ n8_ n9_
                        clear hb hbox hg
                        refine hK.out _ _ ⟨(blk_cell BK113.out 0).trans rfl, (blk_cell BK113.out 1).trans rfl, (blk_cell BK113.out 2).trans rfl, (blk_cell BK113.out 3).trans rfl⟩ (fun hHeld => ?_)
                        clear hK K
                        refine norm_ (a' := ?_) ?_ ?_
                        rotate_left
                        · show Act.put _ (some 7) _ = _
                          simp only [Act.put, List.setIfInBounds_toArray, List.set_cons_zero, List.set_cons_succ, i64_w, i32_w]
                          rfl
                        exact norm_ (by first | (simp only [putAll, Act.put, List.setIfInBounds_toArray, List.set_cons_zero, List.set_cons_succ]; done) | (simp only [putAll, Act.put, List.setIfInBounds_toArray, List.set_cons_zero, List.set_cons_succ]; rfl)) (hJ13 (gb124) _ ⟨hHeld, (by (with_reducible repeat (first | refine blk_drewN ?_ _ | refine blk_drew ?_ | refine blk_alloc ?_ _)); exact BK113.out), (by (with_reducible repeat (first | refine blk_drewN ?_ _ | refine blk_drew ?_ | refine blk_alloc ?_ _)); exact BK114.out), (by (with_reducible repeat (first | refine blk_drewN ?_ _ | refine blk_drew ?_ | refine blk_alloc ?_ _)); exact BK124.out), GW124.out, GE124.out, NB113_124.out, NB124_113.out, NB114_124.out, NB124_114.out, (by repeat (first | (with_reducible first | exact HB.out | apply below_alloc | apply pw_below_drewN | apply below_drew1 | refine below_set ?_ GE113.out | refine below_set ?_ GE114.out | refine below_set ?_ GE124.out) | exact HB.out))⟩)
                    · skip
                      rintro gb124 w10 ⟨hS_, h0_, h1_, h2_, h3_, h4_, h5_, h6_, h7_, h8_, h9_⟩
                      have n0_ : Aside0 (w10.heap[gb113]? = some (.cells #[.int .i64 a1_0, .slice A1_1 l1_1.length c1_1, .int .i64 a1_2, .bool a1_3] 46 (0, 0))) := ⟨h0_⟩
                      have n1_ : Aside0 (w10.heap[gb114]? = some (.cells #[.int .i64 0, .slice none 0 0, .int .i64 0, .bool false] 46 (0, 0))) := ⟨h1_⟩
                      have n2_ : Aside0 (w10.heap[gb124]? = some (.cells #[.int .i64 0, .slice none 0 0, .int .i64 0, .bool false] 46 (0, 0))) := ⟨h2_⟩
                      have n3_ : Aside0 (w.heap.size ≤ gb124) := ⟨h3_⟩
                      have n4_ : Aside0 (w.heap.size ≤ gb124) := ⟨h4_⟩
                      have n5_ : Aside0 (gb113 ≠ gb124) := ⟨h5_⟩
                      have n6_ : Aside0 (gb124 ≠ gb113) := ⟨h6_⟩
                      have n7_ : Aside0 (gb114 ≠ gb124) := ⟨h7_⟩
                      have n8_ : Aside0 (gb124 ≠ gb114) := ⟨h8_⟩
                      have n9_ : Aside0 (Below w.heap.size w w10) := ⟨h9_⟩
                      clear BK113
                      clear BK114
                      clear HB
                      clear h0_ h1_ h2_ h3_ h4_ h5_ h6_ h7_ h8_ h9_
                      have BK113 := n0_
                      have BK114 := n1_
                      have BK124 := n2_
                      have GW124 := n3_
                      have GE124 := n4_
                      have NB113_124 := n5_
                      have NB124_113 := n6_
                      have NB114_124 := n7_
                      have NB124_114 := n8_
                      have HB := n9_
                      clear n0_ n1_ n2_ n3_ n4_ n5_ n6_ n7_ n8_ n9_
                      have hHeld : w10.cell? ⟨gb113, 0, none⟩ = some (.int .i64 a1_0) ∧ w10.cell? ⟨gb113, 1, none⟩ = some (.slice A1_1 l1_1.length c1_1) ∧ w10.cell? ⟨gb113, 2, none⟩ = some (.int .i64 a1_2) ∧ w10.cell? ⟨gb113, 3, none⟩ = some (.bool a1_3) := hS_
                      refine norm_ (a' := ?_) ?_ ?_
                      rotate_left
                      · simp only [putAll, Act.put, List.setIfInBounds_toArray, List.set_cons_zero, List.set_cons_succ]
                        rfl
                      refine two_ (i := 4) (j := 6) (Ni := some 13) (Nj := some 15) #[true, true, true, true, true, true, false, false, true, true, true, true, false, true, false] #[true, true, true, true, false, true, true, false, true, true, true, true, false, true, false] rfl rfl rfl rfl (two_of HT_.out (by kernel_rfl)) (by decide) (by decide) (fun K hK => ?_) (fun K hK => ?_)
                      · skip
                        refine goes_ Try.func29 (by kernel_rfl) rfl #[.slice A1_1 l1_1.length c1_1] (by rfl) rfl rfl (by (try simp only [List.map_toArray, List.map_cons, List.map_nil]); first | done | rfl | (simp only [List.length_drop, List.length_take]; rfl)) ?_
                        with_reducible refine (spec_l1Own.calls _ _ l1_1 t115 _ ?side1 ?side2 A4.out).mono ?_
                        (case side1 => repeat (first | exact (Kd.C_below HR1_1.out HB.out) | (with_reducible refine Kd.C_alloc ?_ _) | (with_reducible refine Kd.C_drewN ?_ _) | (with_reducible refine Kd.C_drew ?_)))
                        (case side2 => exact HC1_1.out)
                        rintro e w11 ⟨v116, rfl, ho0, hb⟩
                        refine ⟨_, rfl, ?_⟩
                        have n0_ := Aside0.mk (Kd.R_lower ho0 (below_size (by repeat (first | (with_reducible first | exact HB.out | apply below_alloc | apply pw_below_drewN | apply below_drew1 | refine below_set ?_ GE113.out | refine below_set ?_ GE114.out | refine below_set ?_ GE124.out) | exact HB.out))))
                        have n1_ := Aside0.mk (blk_below (g := gb113) (o := .cells #[.int .i64 a1_0, .slice A1_1 l1_1.length c1_1, .int .i64 a1_2, .bool a1_3] 46 (0, 0)) (by (with_reducible repeat (first | refine blk_drewN ?_ _ | refine blk_drew ?_ | refine blk_alloc ?_ _)); exact BK113.out) hb)
                        have n2_ := Aside0.mk (blk_below (g := gb114) (o := .cells #[.int .i64 0, .slice none 0 0, .int .i64 0, .bool false] 46 (0, 0)) (by (with_reducible repeat (first | refine blk_drewN ?_ _ | refine blk_drew ?_ | refine blk_alloc ?_ _)); exact BK114.out) hb)
                        have n3_ := Aside0.mk (blk_below (g := gb124) (o := .cells #[.int .i64 0, .slice none 0 0, .int .i64 0, .bool false] 46 (0, 0)) (by (with_reducible repeat (first | refine blk_drewN ?_ _ | refine blk_drew ?_ | refine blk_alloc ?_ _)); exact BK124.out) hb)
                        have n4_ := Aside0.mk (below_step (by repeat (first | (with_reducible first | exact HB.out | apply below_alloc | apply pw_below_drewN | apply below_drew1 | refine below_set ?_ GE113.out | refine below_set ?_ GE114.out | refine below_set ?_ GE124.out) | exact HB.out)) hb)
                        clear BK113
                        clear BK114
                        clear BK124
                        clear HB
                        have HO117 := n0_
                        have BK113 := n1_
                        have BK114 := n2_
                        have BK124 := n3_
                        have HB := n4_
                        clear n0_ n1_ n2_ n3_ n4_
                        (try clear hb)
                        (try clear hb2)
                        (try clear hk)
                        (try clear hi)
                        (try clear ho0)
                        refine hK.out _ _ ⟨(blk_cell BK113.out 0).trans rfl, (blk_cell BK113.out 1).trans rfl, (blk_cell BK113.out 2).trans rfl, (blk_cell BK113.out 3).trans rfl⟩ (fun hHeld => ?_)
                        clear hK K
                        refine norm_ (a' := ?_) ?_ ?_
                        rotate_left
                        · show Act.put _ (some 13) _ = _
                          simp only [Act.put, List.setIfInBounds_toArray, List.set_cons_zero, List.set_cons_succ, i64_w, i32_w]
                          rfl
                        exact norm_ (by first | (simp only [putAll, Act.put, List.setIfInBounds_toArray, List.set_cons_zero, List.set_cons_succ]; done) | (simp only [putAll, Act.put, List.setIfInBounds_toArray, List.set_cons_zero, List.set_cons_succ]; rfl)) (hJ4_13 (v116, gb124) _ ⟨hHeld, (by (with_reducible repeat (first | apply Kd.R_alloc | apply Kd.R_drewN | apply Kd.R_drew)); exact HO117.out), (by (with_reducible repeat (first | refine blk_drewN ?_ _ | refine blk_drew ?_ | refine blk_alloc ?_ _)); exact BK113.out), (by (with_reducible repeat (first | refine blk_drewN ?_ _ | refine blk_drew ?_ | refine blk_alloc ?_ _)); exact BK114.out), (by (with_reducible repeat (first | refine blk_drewN ?_ _ | refine blk_drew ?_ | refine blk_alloc ?_ _)); exact BK124.out), GW124.out, GE124.out, NB113_124.out, NB124_113.out, NB114_124.out, NB124_114.out, (by repeat (first | (with_reducible first | exact HB.out | apply below_alloc | apply pw_below_drewN | apply below_drew1 | refine below_set ?_ GE113.out | refine below_set ?_ GE114.out | refine below_set ?_ GE124.out) | exact HB.out))⟩)
                      · skip
                        refine Kd.R_lit_step (Kd.int .i64) _ 3 ?hg (N := 15) ?hd (xs := ([a2] : List Int)) (inner := [.int .i64 a2]) (ok := fun _ => True) (okp := fun _ => True) ?hr ?hp (fun _ hk => hk) trivial (Below.refl _ _) (Nat.le_refl _) (by simp) ?_; (case hd => rfl); (case hg => rfl); (case hr => first | (go_simp; done) | (go_simp; rfl)); (case hp => exact (Reps.one (show Kd.M (Kd.int .i64) _ _ _ a2 [.int .i64 a2] from rfl) (Reps.none _ _)))
                        intro v119 w11 ho12 hb hg_ hnew_
                        clear hg_ hnew_
                        (first | rw [← Ny118.out] at ho12 | (simp only [Int.reduceToNat] at ho12; rw [← Ny118.out] at ho12))
                        have n0_ := Aside0.mk (Kd.R_lower ho12 (below_size (by repeat (first | (with_reducible first | exact HB.out | apply below_alloc | apply pw_below_drewN | apply below_drew1 | refine below_set ?_ GE113.out | refine below_set ?_ GE114.out | refine below_set ?_ GE124.out) | exact HB.out))))
                        have n1_ := Aside0.mk (blk_below (g := gb113) (o := .cells #[.int .i64 a1_0, .slice A1_1 l1_1.length c1_1, .int .i64 a1_2, .bool a1_3] 46 (0, 0)) (by (with_reducible repeat (first | refine blk_drewN ?_ _ | refine blk_drew ?_ | refine blk_alloc ?_ _)); exact BK113.out) hb)
                        have n2_ := Aside0.mk (blk_below (g := gb114) (o := .cells #[.int .i64 0, .slice none 0 0, .int .i64 0, .bool false] 46 (0, 0)) (by (with_reducible repeat (first | refine blk_drewN ?_ _ | refine blk_drew ?_ | refine blk_alloc ?_ _)); exact BK114.out) hb)
                        have n3_ := Aside0.mk (blk_below (g := gb124) (o := .cells #[.int .i64 0, .slice none 0 0, .int .i64 0, .bool false] 46 (0, 0)) (by (with_reducible repeat (first | refine blk_drewN ?_ _ | refine blk_drew ?_ | refine blk_alloc ?_ _)); exact BK124.out) hb)
                        have n4_ := Aside0.mk (below_step (by repeat (first | (with_reducible first | exact HB.out | apply below_alloc | apply pw_below_drewN | apply below_drew1 | refine below_set ?_ GE113.out | refine below_set ?_ GE114.out | refine below_set ?_ GE124.out) | exact HB.out)) hb)
                        clear BK113
                        clear BK114
                        clear BK124
                        clear HB
                        have HO120 := n0_
                        have BK113 := n1_
                        have BK114 := n2_
                        have BK124 := n3_
                        have HB := n4_
                        clear n0_ n1_ n2_ n3_ n4_
                        clear hb ho12
                        refine hK.out _ _ ⟨(blk_cell BK113.out 0).trans rfl, (blk_cell BK113.out 1).trans rfl, (blk_cell BK113.out 2).trans rfl, (blk_cell BK113.out 3).trans rfl⟩ (fun hHeld => ?_)
                        clear hK K
                        refine norm_ (a' := ?_) ?_ ?_
                        rotate_left
                        · show Act.put _ (some 15) _ = _
                          simp only [Act.put, List.setIfInBounds_toArray, List.set_cons_zero, List.set_cons_succ, i64_w, i32_w]
                          rfl
                        exact norm_ (by first | (simp only [putAll, Act.put, List.setIfInBounds_toArray, List.set_cons_zero, List.set_cons_succ]; done) | (simp only [putAll, Act.put, List.setIfInBounds_toArray, List.set_cons_zero, List.set_cons_succ]; rfl)) (hJ6_13 (v119, gb124) _ ⟨hHeld, (by (with_reducible repeat (first | apply Kd.R_alloc | apply Kd.R_drewN | apply Kd.R_drew)); exact HO120.out), (by (with_reducible repeat (first | refine blk_drewN ?_ _ | refine blk_drew ?_ | refine blk_alloc ?_ _)); exact BK113.out), (by (with_reducible repeat (first | refine blk_drewN ?_ _ | refine blk_drew ?_ | refine blk_alloc ?_ _)); exact BK114.out), (by (with_reducible repeat (first | refine blk_drewN ?_ _ | refine blk_drew ?_ | refine blk_alloc ?_ _)); exact BK124.out), GW124.out, GE124.out, NB113_124.out, NB124_113.out, NB114_124.out, NB124_114.out, (by repeat (first | (with_reducible first | exact HB.out | apply below_alloc | apply pw_below_drewN | apply below_drew1 | refine below_set ?_ GE113.out | refine below_set ?_ GE114.out | refine below_set ?_ GE124.out) | exact HB.out))⟩)
                  · skip
                    rintro v119 w11 ⟨hS_, h0_, h1_, h2_, h3_⟩
                    have n0_ : Aside0 (Kd.R (Kd.int .i64) 3 w11 w.heap.size (fun _ => True) v119 y118) := ⟨h0_⟩
                    have n1_ : Aside0 (w11.heap[gb113]? = some (.cells #[.int .i64 a1_0, .slice A1_1 l1_1.length c1_1, .int .i64 a1_2, .bool a1_3] 46 (0, 0))) := ⟨h1_⟩
                    have n2_ : Aside0 (w11.heap[gb114]? = some (.cells #[.int .i64 0, .slice none 0 0, .int .i64 0, .bool false] 46 (0, 0))) := ⟨h2_⟩
                    have n3_ : Aside0 (Below w.heap.size w w11) := ⟨h3_⟩
                    clear BK113
                    clear BK114
                    clear HB
                    clear h0_ h1_ h2_ h3_
                    have HO120 := n0_
                    have BK113 := n1_
                    have BK114 := n2_
                    have HB := n3_
                    clear n0_ n1_ n2_ n3_
                    have hHeld : w11.cell? ⟨gb113, 0, none⟩ = some (.int .i64 a1_0) ∧ w11.cell? ⟨gb113, 1, none⟩ = some (.slice A1_1 l1_1.length c1_1) ∧ w11.cell? ⟨gb113, 2, none⟩ = some (.int .i64 a1_2) ∧ w11.cell? ⟨gb113, 3, none⟩ = some (.bool a1_3) := hS_
                    refine norm_ (a' := ?_) ?_ ?_
                    rotate_left
                    · simp only [putAll, Act.put, List.setIfInBounds_toArray, List.set_cons_zero, List.set_cons_succ]
                      rfl
                    refine two_ (i := 4) (j := 13) (Ni := some 13) (Nj := some 7) #[true, true, true, true, true, true, true, false, true, true, true, true, false, false, false] #[true, true, true, true, false, true, true, false, true, true, true, true, false, true, false] rfl rfl rfl rfl (two_of HT_.out (by kernel_rfl)) (by decide) (by decide) (fun K hK => ?_) (fun K hK => ?_)
                    · skip
                      refine goes_ Try.func29 (by kernel_rfl) rfl #[.slice A1_1 l1_1.length c1_1] (by rfl) rfl rfl (by (try simp only [List.map_toArray, List.map_cons, List.map_nil]); first | done | rfl | (simp only [List.length_drop, List.length_take]; rfl)) ?_
                      with_reducible refine (spec_l1Own.calls _ _ l1_1 t115 _ ?side1 ?side2 A4.out).mono ?_
                      (case side1 => repeat (first | exact (Kd.C_below HR1_1.out HB.out) | (with_reducible refine Kd.C_alloc ?_ _) | (with_reducible refine Kd.C_drewN ?_ _) | (with_reducible refine Kd.C_drew ?_)))
                      (case side2 => exact HC1_1.out)
                      rintro e w12 ⟨v116, rfl, ho0, hb⟩
                      refine ⟨_, rfl, ?_⟩
                      have n0_ := Aside0.mk (Kd.R_elder' (by (with_reducible repeat (first | apply Kd.R_alloc | apply Kd.R_drewN | apply Kd.R_drew)); exact HO120.out) (Kd.R_base ho0) hb)
                      have n1_ := Aside0.mk (Kd.R_lower (Kd.R_new' ho0 (Kd.R_lt (by (with_reducible repeat (first | apply Kd.R_alloc | apply Kd.R_drewN | apply Kd.R_drew)); exact HO120.out))) (below_size (by repeat (first | (with_reducible first | exact HB.out | apply below_alloc | apply pw_below_drewN | apply below_drew1 | refine below_set ?_ GE113.out | refine below_set ?_ GE114.out) | exact HB.out))))
                      have n2_ := Aside0.mk (blk_below (g := gb113) (o := .cells #[.int .i64 a1_0, .slice A1_1 l1_1.length c1_1, .int .i64 a1_2, .bool a1_3] 46 (0, 0)) (by (with_reducible repeat (first | refine blk_drewN ?_ _ | refine blk_drew ?_ | refine blk_alloc ?_ _)); exact BK113.out) hb)
                      have n3_ := Aside0.mk (blk_below (g := gb114) (o := .cells #[.int .i64 0, .slice none 0 0, .int .i64 0, .bool false] 46 (0, 0)) (by (with_reducible repeat (first | refine blk_drewN ?_ _ | refine blk_drew ?_ | refine blk_alloc ?_ _)); exact BK114.out) hb)
                      have n4_ := Aside0.mk (below_step (by repeat (first | (with_reducible first | exact HB.out | apply below_alloc | apply pw_below_drewN | apply below_drew1 | refine below_set ?_ GE113.out | refine below_set ?_ GE114.out) | exact HB.out)) hb)
                      clear HO120
                      clear BK113
                      clear BK114
                      clear HB
                      have HO120 := n0_
                      have HO117 := n1_
                      have BK113 := n2_
                      have BK114 := n3_
                      have HB := n4_
                      clear n0_ n1_ n2_ n3_ n4_
                      (try clear hb)
                      (try clear hb2)
                      (try clear hk)
                      (try clear hi)
                      (try clear ho0)
                      refine hK.out _ _ ⟨(blk_cell BK113.out 0).trans rfl, (blk_cell BK113.out 1).trans rfl, (blk_cell BK113.out 2).trans rfl, (blk_cell BK113.out 3).trans rfl⟩ (fun hHeld => ?_)
                      clear hK K
                      refine norm_ (a' := ?_) ?_ ?_
                      rotate_left
                      · show Act.put _ (some 13) _ = _
                        simp only [Act.put, List.setIfInBounds_toArray, List.set_cons_zero, List.set_cons_succ, i64_w, i32_w]
                        rfl
                      exact norm_ (by first | (simp only [putAll, Act.put, List.setIfInBounds_toArray, List.set_cons_zero, List.set_cons_succ]; done) | (simp only [putAll, Act.put, List.setIfInBounds_toArray, List.set_cons_zero, List.set_cons_succ]; rfl)) (hJ4_6 (v116, v119) _ ⟨hHeld, (by (with_reducible repeat (first | apply Kd.R_alloc | apply Kd.R_drewN | apply Kd.R_drew)); exact Kd.R_mono HO117.out (fun _ hk => hk.2)), (by (with_reducible repeat (first | apply Kd.R_alloc | apply Kd.R_drewN | apply Kd.R_drew)); exact Kd.R_mono HO120.out (fun _ hk => hk.2)), (by (with_reducible repeat (first | refine blk_drewN ?_ _ | refine blk_drew ?_ | refine blk_alloc ?_ _)); exact BK113.out), (by (with_reducible repeat (first | refine blk_drewN ?_ _ | refine blk_drew ?_ | refine blk_alloc ?_ _)); exact BK114.out), (by repeat (first | (with_reducible first | exact HB.out | apply below_alloc | apply pw_below_drewN | apply below_drew1 | refine below_set ?_ GE113.out | refine below_set ?_ GE114.out) | exact HB.out))⟩)
                    · skip
                      refine box_step ?hg (N := 7) ?hd (cs := #[.int .i64 0, .slice none 0 0, .int .i64 0, .bool false]) (t := 46) ?hr ?_; (case hd => rfl); (case hg => rfl); (case hr => first | (go_simp; done) | (go_simp; rfl))
                      intro gb124 hg w12 hbox hb
                      have n0_ := Aside0.mk (Kd.R_below (by (with_reducible repeat (first | apply Kd.R_alloc | apply Kd.R_drewN | apply Kd.R_drew)); exact HO120.out) hb)
                      have n1_ := Aside0.mk (blk_below (g := gb113) (o := .cells #[.int .i64 a1_0, .slice A1_1 l1_1.length c1_1, .int .i64 a1_2, .bool a1_3] 46 (0, 0)) (by (with_reducible repeat (first | refine blk_drewN ?_ _ | refine blk_drew ?_ | refine blk_alloc ?_ _)); exact BK113.out) hb)
                      have n2_ := Aside0.mk (blk_below (g := gb114) (o := .cells #[.int .i64 0, .slice none 0 0, .int .i64 0, .bool false] 46 (0, 0)) (by (with_reducible repeat (first | refine blk_drewN ?_ _ | refine blk_drew ?_ | refine blk_alloc ?_ _)); exact BK114.out) hb)
                      have n3_ := Aside0.mk (below_step (by repeat (first | (with_reducible first | exact HB.out | apply below_alloc | apply pw_below_drewN | apply below_drew1 | refine below_set ?_ GE113.out | refine below_set ?_ GE114.out) | exact HB.out)) hb)
                      have n4_ := Aside0.mk (hbox)
                      have n5_ := Aside0.mk ((by rw [hg]; exact (below_size (by repeat (first | (with_reducible first | exact HB.out | apply below_alloc | apply pw_below_drewN | apply below_drew1 | refine below_set ?_ GE113.out | refine below_set ?_ GE114.out) | exact HB.out))) : w.heap.size ≤ gb124))
                      have n6_ := Aside0.mk ((by rw [hg]; exact (below_size (by repeat (first | (with_reducible first | exact HB.out | apply below_alloc | apply pw_below_drewN | apply below_drew1 | refine below_set ?_ GE113.out | refine below_set ?_ GE114.out) | exact HB.out))) : w.heap.size ≤ gb124))
                      have n7_ := Aside0.mk ((by rw [hg]; exact Nat.ne_of_lt (blk_lt (g := gb113) (o := .cells #[.int .i64 a1_0, .slice A1_1 l1_1.length c1_1, .int .i64 a1_2, .bool a1_3] 46 (0, 0)) (by (with_reducible repeat (first | refine blk_drewN ?_ _ | refine blk_drew ?_ | refine blk_alloc ?_ _)); exact BK113.out)) : gb113 ≠ gb124))
                      have n8_ := Aside0.mk ((by rw [hg]; exact Nat.ne_of_gt (blk_lt (g := gb113) (o := .cells #[.int .i64 a1_0, .slice A1_1 l1_1.length c1_1, .int .i64 a1_2, .bool a1_3] 46 (0, 0)) (by (with_reducible repeat (first | refine blk_drewN ?_ _ | refine blk_drew ?_ | refine blk_alloc ?_ _)); exact BK113.out)) : gb124 ≠ gb113))
                      have n9_ := Aside0.mk ((by rw [hg]; exact Nat.ne_of_lt (blk_lt (g := gb114) (o := .cells #[.int .i64 0, .slice none 0 0, .int .i64 0, .bool false] 46 (0, 0)) (by (with_reducible repeat (first | refine blk_drewN ?_ _ | refine blk_drew ?_ | refine blk_alloc ?_ _)); exact BK114.out)) : gb114 ≠ gb124))
                      have n10_ := Aside0.mk ((by rw [hg]; exact Nat.ne_of_gt (blk_lt (g := gb114) (o := .cells #[.int .i64 0, .slice none 0 0, .int .i64 0, .bool false] 46 (0, 0)) (by (with_reducible repeat (first | refine blk_drewN ?_ _ | refine blk_drew ?_ | refine blk_alloc ?_ _)); exact BK114.out)) : gb124 ≠ gb114))
                      clear HO120
                      clear BK113
                      clear BK114
                      clear HB
                      have HO120 := n0_
                      have BK113 := n1_
                      have BK114 := n2_
                      have HB := n3_
                      have BK124 := n4_
                      have GW124 := n5_
                      have GE124 := n6_
                      have NB113_124 := n7_
                      have NB124_113 := n8_
                      have NB114_124 := n9_
                      have NB124_114 := n10_
                      clear n0_ n1_ n2_ n3_ n4_ n5_ n6_ n7_ n8_ n9_ n10_
                      clear hb hbox hg
                      refine hK.out _ _ ⟨(blk_cell BK113.out 0).trans rfl, (blk_cell BK113.out 1).trans rfl, (blk_cell BK113.out 2).trans rfl, (blk_cell BK113.out 3).trans rfl⟩ (fun hHeld => ?_)
                      clear hK K
                      refine norm_ (a' := ?_) ?_ ?_
                      rotate_left
                      · show Act.put _ (some 7) _ = _
                        simp only [Act.put, List.setIfInBounds_toArray, List.set_cons_zero, List.set_cons_succ, i64_w, i32_w]
                        rfl
                      exact norm_ (by first | (simp only [putAll, Act.put, List.setIfInBounds_toArray, List.set_cons_zero, List.set_cons_succ]; done) | (simp only [putAll, Act.put, List.setIfInBounds_toArray, List.set_cons_zero, List.set_cons_succ]; rfl)) (hJ6_13 (v119, gb124) _ ⟨hHeld, (by (with_reducible repeat (first | apply Kd.R_alloc | apply Kd.R_drewN | apply Kd.R_drew)); exact HO120.out), (by (with_reducible repeat (first | refine blk_drewN ?_ _ | refine blk_drew ?_ | refine blk_alloc ?_ _)); exact BK113.out), (by (with_reducible repeat (first | refine blk_drewN ?_ _ | refine blk_drew ?_ | refine blk_alloc ?_ _)); exact BK114.out), (by (with_reducible repeat (first | refine blk_drewN ?_ _ | refine blk_drew ?_ | refine blk_alloc ?_ _)); exact BK124.out), GW124.out, GE124.out, NB113_124.out, NB124_113.out, NB114_124.out, NB124_114.out, (by repeat (first | (with_reducible first | exact HB.out | apply below_alloc | apply pw_below_drewN | apply below_drew1 | refine below_set ?_ GE113.out | refine below_set ?_ GE114.out | refine below_set ?_ GE124.out) | exact HB.out))⟩)
                · skip
                  rintro v116 w10 ⟨hS_, h0_, h1_, h2_, h3_⟩
                  have n0_ : Aside0 (Kd.R (Kd.int .i64) 3 w10 w.heap.size (fun _ => True) v116 t115) := ⟨h0_⟩
                  have n1_ : Aside0 (w10.heap[gb113]? = some (.cells #[.int .i64 a1_0, .slice A1_1 l1_1.length c1_1, .int .i64 a1_2, .bool a1_3] 46 (0, 0))) := ⟨h1_⟩
                  have n2_ : Aside0 (w10.heap[gb114]? = some (.cells #[.int .i64 0, .slice none 0 0, .int .i64 0, .bool false] 46 (0, 0))) := ⟨h2_⟩
                  have n3_ : Aside0 (Below w.heap.size w w10) := ⟨h3_⟩
                  clear BK113
                  clear BK114
                  clear HB
                  clear h0_ h1_ h2_ h3_
                  have HO117 := n0_
                  have BK113 := n1_
                  have BK114 := n2_
                  have HB := n3_
                  clear n0_ n1_ n2_ n3_
                  have hHeld : w10.cell? ⟨gb113, 0, none⟩ = some (.int .i64 a1_0) ∧ w10.cell? ⟨gb113, 1, none⟩ = some (.slice A1_1 l1_1.length c1_1) ∧ w10.cell? ⟨gb113, 2, none⟩ = some (.int .i64 a1_2) ∧ w10.cell? ⟨gb113, 3, none⟩ = some (.bool a1_3) := hS_
                  refine norm_ (a' := ?_) ?_ ?_
                  rotate_left
                  · simp only [putAll, Act.put, List.setIfInBounds_toArray, List.set_cons_zero, List.set_cons_succ]
                    rfl
                  refine two_ (i := 6) (j := 13) (Ni := some 15) (Nj := some 7) #[true, true, true, true, true, true, true, false, true, true, true, true, false, false, false] #[true, true, true, true, true, true, false, false, true, true, true, true, false, true, false] rfl rfl rfl rfl (two_of HT_.out (by kernel_rfl)) (by decide) (by decide) (fun K hK => ?_) (fun K hK => ?_)
                  · skip
                    refine Kd.R_lit_step (Kd.int .i64) _ 3 ?hg (N := 15) ?hd (xs := ([a2] : List Int)) (inner := [.int .i64 a2]) (ok := fun _ => True) (okp := fun _ => True) ?hr ?hp (fun _ hk => hk) trivial (Below.refl _ _) (Nat.le_refl _) (by simp) ?_; (case hd => rfl); (case hg => rfl); (case hr => first | (go_simp; done) | (go_simp; rfl)); (case hp => exact (Reps.one (show Kd.M (Kd.int .i64) _ _ _ a2 [.int .i64 a2] from rfl) (Reps.none _ _)))
                    intro v119 w11 ho12 hb hg_ hnew_
                    clear hg_ hnew_
                    (first | rw [← Ny118.out] at ho12 | (simp only [Int.reduceToNat] at ho12; rw [← Ny118.out] at ho12))
                    have n0_ := Aside0.mk (Kd.R_elder' (by (with_reducible repeat (first | apply Kd.R_alloc | apply Kd.R_drewN | apply Kd.R_drew)); exact HO117.out) (Kd.R_base ho12) hb)
                    have n1_ := Aside0.mk (Kd.R_lower (Kd.R_new' ho12 (Kd.R_lt (by (with_reducible repeat (first | apply Kd.R_alloc | apply Kd.R_drewN | apply Kd.R_drew)); exact HO117.out))) (below_size (by repeat (first | (with_reducible first | exact HB.out | apply below_alloc | apply pw_below_drewN | apply below_drew1 | refine below_set ?_ GE113.out | refine below_set ?_ GE114.out) | exact HB.out))))
                    have n2_ := Aside0.mk (blk_below (g := gb113) (o := .cells #[.int .i64 a1_0, .slice A1_1 l1_1.length c1_1, .int .i64 a1_2, .bool a1_3] 46 (0, 0)) (by (with_reducible repeat (first | refine blk_drewN ?_ _ | refine blk_drew ?_ | refine blk_alloc ?_ _)); exact BK113.out) hb)
                    have n3_ := Aside0.mk (blk_below (g := gb114) (o := .cells #[.int .i64 0, .slice none 0 0, .int .i64 0, .bool false] 46 (0, 0)) (by (with_reducible repeat (first | refine blk_drewN ?_ _ | refine blk_drew ?_ | refine blk_alloc ?_ _)); exact BK114.out) hb)
                    have n4_ := Aside0.mk (below_step (by repeat (first | (with_reducible first | exact HB.out | apply below_alloc | apply pw_below_drewN | apply below_drew1 | refine below_set ?_ GE113.out | refine below_set ?_ GE114.out) | exact HB.out)) hb)
                    clear HO117
                    clear BK113
                    clear BK114
                    clear HB
                    have HO117 := n0_
                    have HO120 := n1_
                    have BK113 := n2_
                    have BK114 := n3_
                    have HB := n4_
                    clear n0_ n1_ n2_ n3_ n4_
                    clear hb ho12
                    refine hK.out _ _ ⟨(blk_cell BK113.out 0).trans rfl, (blk_cell BK113.out 1).trans rfl, (blk_cell BK113.out 2).trans rfl, (blk_cell BK113.out 3).trans rfl⟩ (fun hHeld => ?_)
                    clear hK K
                    refine norm_ (a' := ?_) ?_ ?_
                    rotate_left
                    · show Act.put _ (some 15) _ = _
                      simp only [Act.put, List.setIfInBounds_toArray, List.set_cons_zero, List.set_cons_succ, i64_w, i32_w]
                      rfl
                    exact norm_ (by first | (simp only [putAll, Act.put, List.setIfInBounds_toArray, List.set_cons_zero, List.set_cons_succ]; done) | (simp only [putAll, Act.put, List.setIfInBounds_toArray, List.set_cons_zero, List.set_cons_succ]; rfl)) (hJ4_6 (v116, v119) _ ⟨hHeld, (by (with_reducible repeat (first | apply Kd.R_alloc | apply Kd.R_drewN | apply Kd.R_drew)); exact Kd.R_mono HO117.out (fun _ hk => hk.2)), (by (with_reducible repeat (first | apply Kd.R_alloc | apply Kd.R_drewN | apply Kd.R_drew)); exact Kd.R_mono HO120.out (fun _ hk => hk.2)), (by (with_reducible repeat (first | refine blk_drewN ?_ _ | refine blk_drew ?_ | refine blk_alloc ?_ _)); exact BK113.out), (by (with_reducible repeat (first | refine blk_drewN ?_ _ | refine blk_drew ?_ | refine blk_alloc ?_ _)); exact BK114.out), (by repeat (first | (with_reducible first | exact HB.out | apply below_alloc | apply pw_below_drewN | apply below_drew1 | refine below_set ?_ GE113.out | refine below_set ?_ GE114.out) | exact HB.out))⟩)
                  · skip
                    refine box_step ?hg (N := 7) ?hd (cs := #[.int .i64 0, .slice none 0 0, .int .i64 0, .bool false]) (t := 46) ?hr ?_; (case hd => rfl); (case hg => rfl); (case hr => first | (go_simp; done) | (go_simp; rfl))
                    intro gb124 hg w11 hbox hb
                    have n0_ := Aside0.mk (Kd.R_below (by (with_reducible repeat (first | apply Kd.R_alloc | apply Kd.R_drewN | apply Kd.R_drew)); exact HO117.out) hb)
                    have n1_ := Aside0.mk (blk_below (g := gb113) (o := .cells #[.int .i64 a1_0, .slice A1_1 l1_1.length c1_1, .int .i64 a1_2, .bool a1_3] 46 (0, 0)) (by (with_reducible repeat (first | refine blk_drewN ?_ _ | refine blk_drew ?_ | refine blk_alloc ?_ _)); exact BK113.out) hb)
                    have n2_ := Aside0.mk (blk_below (g := gb114) (o := .cells #[.int .i64 0, .slice none 0 0, .int .i64 0, .bool false] 46 (0, 0)) (by (with_reducible repeat (first | refine blk_drewN ?_ _ | refine blk_drew ?_ | refine blk_alloc ?_ _)); exact BK114.out) hb)
                    have n3_ := Aside0.mk (below_step (by repeat (first | (with_reducible first | exact HB.out | apply below_alloc | apply pw_below_drewN | apply below_drew1 | refine below_set ?_ GE113.out | refine below_set ?_ GE114.out) | exact HB.out)) hb)
                    have n4_ := Aside0.mk (hbox)
                    have n5_ := Aside0.mk ((by rw [hg]; exact (below_size (by repeat (first | (with_reducible first | exact HB.out | apply below_alloc | apply pw_below_drewN | apply below_drew1 | refine below_set ?_ GE113.out | refine below_set ?_ GE114.out) | exact HB.out))) : w.heap.size ≤ gb124))
                    have n6_ := Aside0.mk ((by rw [hg]; exact (below_size (by repeat (first | (with_reducible first | exact HB.out | apply below_alloc | apply pw_below_drewN | apply below_drew1 | refine below_set ?_ GE113.out | refine below_set ?_ GE114.out) | exact HB.out))) : w.heap.size ≤ gb124))
                    have n7_ := Aside0.mk ((by rw [hg]; exact Nat.ne_of_lt (blk_lt (g := gb113) (o := .cells #[.int .i64 a1_0, .slice A1_1 l1_1.length c1_1, .int .i64 a1_2, .bool a1_3] 46 (0, 0)) (by (with_reducible repeat (first | refine blk_drewN ?_ _ | refine blk_drew ?_ | refine blk_alloc ?_ _)); exact BK113.out)) : gb113 ≠ gb124))
                    have n8_ := Aside0.mk ((by rw [hg]; exact Nat.ne_of_gt (blk_lt (g := gb113) (o := .cells #[.int .i64 a1_0, .slice A1_1 l1_1.length c1_1, .int .i64 a1_2, .bool a1_3] 46 (0, 0)) (by (with_reducible repeat (first | refine blk_drewN ?_ _ | refine blk_drew ?_ | refine blk_alloc ?_ _)); exact BK113.out)) : gb124 ≠ gb113))
                    have n9_ := Aside0.mk ((by rw [hg]; exact Nat.ne_of_lt (blk_lt (g := gb114) (o := .cells #[.int .i64 0, .slice none 0 0, .int .i64 0, .bool false] 46 (0, 0)) (by (with_reducible repeat (first | refine blk_drewN ?_ _ | refine blk_drew ?_ | refine blk_alloc ?_ _)); exact BK114.out)) : gb114 ≠ gb124))
                    have n10_ := Aside0.mk ((by rw [hg]; exact Nat.ne_of_gt (blk_lt (g := gb114) (o := .cells #[.int .i64 0, .slice none 0 0, .int .i64 0, .bool false] 46 (0, 0)) (by (with_reducible repeat (first | refine blk_drewN ?_ _ | refine blk_drew ?_ | refine blk_alloc ?_ _)); exact BK114.out)) : gb124 ≠ gb114))
                    clear HO117
                    clear BK113
                    clear BK114
                    clear HB
                    have HO117 := n0_
                    have BK113 := n1_
                    have BK114 := n2_
                    have HB := n3_
                    have BK124 := n4_
                    have GW124 := n5_
                    have GE124 := n6_
                    have NB113_124 := n7_
                    have NB124_113 := n8_
                    have NB114_124 := n9_
                    have NB124_114 := n10_
                    clear n0_ n1_ n2_ n3_ n4_ n5_ n6_ n7_ n8_ n9_ n10_
                    clear hb hbox hg
                    refine hK.out _ _ ⟨(blk_cell BK113.out 0).trans rfl, (blk_cell BK113.out 1).trans rfl, (blk_cell BK113.out 2).trans rfl, (blk_cell BK113.out 3).trans rfl⟩ (fun hHeld => ?_)
                    clear hK K
                    refine norm_ (a' := ?_) ?_ ?_
                    rotate_left
                    · show Act.put _ (some 7) _ = _
                      simp only [Act.put, List.setIfInBounds_toArray, List.set_cons_zero, List.set_cons_succ, i64_w, i32_w]
                      rfl
                    exact norm_ (by first | (simp only [putAll, Act.put, List.setIfInBounds_toArray, List.set_cons_zero, List.set_cons_succ]; done) | (simp only [putAll, Act.put, List.setIfInBounds_toArray, List.set_cons_zero, List.set_cons_succ]; rfl)) (hJ4_13 (v116, gb124) _ ⟨hHeld, (by (with_reducible repeat (first | apply Kd.R_alloc | apply Kd.R_drewN | apply Kd.R_drew)); exact HO117.out), (by (with_reducible repeat (first | refine blk_drewN ?_ _ | refine blk_drew ?_ | refine blk_alloc ?_ _)); exact BK113.out), (by (with_reducible repeat (first | refine blk_drewN ?_ _ | refine blk_drew ?_ | refine blk_alloc ?_ _)); exact BK114.out), (by (with_reducible repeat (first | refine blk_drewN ?_ _ | refine blk_drew ?_ | refine blk_alloc ?_ _)); exact BK124.out), GW124.out, GE124.out, NB113_124.out, NB124_113.out, NB114_124.out, NB124_114.out, (by repeat (first | (with_reducible first | exact HB.out | apply below_alloc | apply pw_below_drewN | apply below_drew1 | refine below_set ?_ GE113.out | refine below_set ?_ GE114.out | refine below_set ?_ GE124.out) | exact HB.out))⟩)
              · skip
                rintro ⟨v119, gb124⟩ w12 ⟨hS_, h0_, h1_, h2_, h3_, h4_, h5_, h6_, h7_, h8_, h9_, h10_⟩
                have n0_ : Aside0 (Kd.R (Kd.int .i64) 3 w12 w.heap.size (fun _ => True) v119 y118) := ⟨h0_⟩
                have n1_ : Aside0 (w12.heap[gb113]? = some (.cells #[.int .i64 a1_0, .slice A1_1 l1_1.length c1_1, .int .i64 a1_2, .bool a1_3] 46 (0, 0))) := ⟨h1_⟩
                have n2_ : Aside0 (w12.heap[gb114]? = some (.cells #[.int .i64 0, .slice none 0 0, .int .i64 0, .bool false] 46 (0, 0))) := ⟨h2_⟩
                have n3_ : Aside0 (w12.heap[gb124]? = some (.cells #[.int .i64 0, .slice none 0 0, .int .i64 0, .bool false] 46 (0, 0))) := ⟨h3_⟩
                have n4_ : Aside0 (w.heap.size ≤ gb124) := ⟨h4_⟩
                have n5_ : Aside0 (w.heap.size ≤ gb124) := ⟨h5_⟩
                have n6_ : Aside0 (gb113 ≠ gb124) := ⟨h6_⟩
                have n7_ : Aside0 (gb124 ≠ gb113) := ⟨h7_⟩
                have n8_ : Aside0 (gb114 ≠ gb124) := ⟨h8_⟩
                have n9_ : Aside0 (gb124 ≠ gb114) := ⟨h9_⟩
                have n10_ : Aside0 (Below w.heap.size w w12) := ⟨h10_⟩
                clear BK113
                clear BK114
                clear HB
                clear h0_ h1_ h2_ h3_ h4_ h5_ h6_ h7_ h8_ h9_ h10_
                have HO120 := n0_
                have BK113 := n1_
                have BK114 := n2_
                have BK124 := n3_
                have GW124 := n4_
                have GE124 := n5_
                have NB113_124 := n6_
                have NB124_113 := n7_
                have NB114_124 := n8_
                have NB124_114 := n9_
                have HB := n10_
                clear n0_ n1_ n2_ n3_ n4_ n5_ n6_ n7_ n8_ n9_ n10_
                have hHeld : w12.cell? ⟨gb113, 0, none⟩ = some (.int .i64 a1_0) ∧ w12.cell? ⟨gb113, 1, none⟩ = some (.slice A1_1 l1_1.length c1_1) ∧ w12.cell? ⟨gb113, 2, none⟩ = some (.int .i64 a1_2) ∧ w12.cell? ⟨gb113, 3, none⟩ = some (.bool a1_3) := hS_
                refine norm_ (a' := ?_) ?_ ?_
                rotate_left
                · simp only [putAll, Act.put, List.setIfInBounds_toArray, List.set_cons_zero, List.set_cons_succ]
                  rfl
                refine one_ (i := 4) (N := some 13) #[true, true, true, true, true, true, true, false, true, true, true, true, false, true, false] rfl rfl (one_of HT_.out (by kernel_rfl)) (by decide) (fun K hK => ?_)
                refine goes_ Try.func29 (by kernel_rfl) rfl #[.slice A1_1 l1_1.length c1_1] (by rfl) rfl rfl (by (try simp only [List.map_toArray, List.map_cons, List.map_nil]); first | done | rfl | (simp only [List.length_drop, List.length_take]; rfl)) ?_
                with_reducible refine (spec_l1Own.calls _ _ l1_1 t115 _ ?side1 ?side2 A4.out).mono ?_
                (case side1 => repeat (first | exact (Kd.C_below HR1_1.out HB.out) | (with_reducible refine Kd.C_alloc ?_ _) | (with_reducible refine Kd.C_drewN ?_ _) | (with_reducible refine Kd.C_drew ?_)))
                (case side2 => exact HC1_1.out)
                rintro e w13 ⟨v116, rfl, ho0, hb⟩
                refine ⟨_, rfl, ?_⟩
                have n0_ := Aside0.mk (Kd.R_elder' (by (with_reducible repeat (first | apply Kd.R_alloc | apply Kd.R_drewN | apply Kd.R_drew)); exact HO120.out) (Kd.R_base ho0) hb)
                have n1_ := Aside0.mk (Kd.R_lower (Kd.R_new' ho0 (Kd.R_lt (by (with_reducible repeat (first | apply Kd.R_alloc | apply Kd.R_drewN | apply Kd.R_drew)); exact HO120.out))) (below_size (by repeat (first | (with_reducible first | exact HB.out | apply below_alloc | apply pw_below_drewN | apply below_drew1 | refine below_set ?_ GE113.out | refine below_set ?_ GE114.out | refine below_set ?_ GE124.out) | exact HB.out))))
                have n2_ := Aside0.mk (blk_below (g := gb113) (o := .cells #[.int .i64 a1_0, .slice A1_1 l1_1.length c1_1, .int .i64 a1_2, .bool a1_3] 46 (0, 0)) (by (with_reducible repeat (first | refine blk_drewN ?_ _ | refine blk_drew ?_ | refine blk_alloc ?_ _)); exact BK113.out) hb)
                have n3_ := Aside0.mk (blk_below (g := gb114) (o := .cells #[.int .i64 0, .slice none 0 0, .int .i64 0, .bool false] 46 (0, 0)) (by (with_reducible repeat (first | refine blk_drewN ?_ _ | refine blk_drew ?_ | refine blk_alloc ?_ _)); exact BK114.out) hb)
                have n4_ := Aside0.mk (blk_below (g := gb124) (o := .cells #[.int .i64 0, .slice none 0 0, .int .i64 0, .bool false] 46 (0, 0)) (by (with_reducible repeat (first | refine blk_drewN ?_ _ | refine blk_drew ?_ | refine blk_alloc ?_ _)); exact BK124.out) hb)
                have n5_ := Aside0.mk (below_step (by repeat (first | (with_reducible first | exact HB.out | apply below_alloc | apply pw_below_drewN | apply below_drew1 | refine below_set ?_ GE113.out | refine below_set ?_ GE114.out | refine below_set ?_ GE124.out) | exact HB.out)) hb)
                clear HO120
                clear BK113
                clear BK114
                clear BK124
                clear HB
                have HO120 := n0_
                have HO117 := n1_
                have BK113 := n2_
                have BK114 := n3_
                have BK124 := n4_
                have HB := n5_
                clear n0_ n1_ n2_ n3_ n4_ n5_
                (try clear hb)
                (try clear hb2)
                (try clear hk)
                (try clear hi)
                (try clear ho0)
                refine hK.out _ _ ⟨(blk_cell BK113.out 0).trans rfl, (blk_cell BK113.out 1).trans rfl, (blk_cell BK113.out 2).trans rfl, (blk_cell BK113.out 3).trans rfl⟩ (fun hHeld => ?_)
                clear hK K
                refine norm_ (a' := ?_) ?_ ?_
                rotate_left
                · show Act.put _ (some 13) _ = _
                  simp only [Act.put, List.setIfInBounds_toArray, List.set_cons_zero, List.set_cons_succ, i64_w, i32_w]
                  rfl
                exact norm_ (by first | (simp only [putAll, Act.put, List.setIfInBounds_toArray, List.set_cons_zero, List.set_cons_succ]; done) | (simp only [putAll, Act.put, List.setIfInBounds_toArray, List.set_cons_zero, List.set_cons_succ]; rfl)) (hJ4_6_13 (v116, v119, gb124) _ ⟨hHeld, (by (with_reducible repeat (first | apply Kd.R_alloc | apply Kd.R_drewN | apply Kd.R_drew)); exact Kd.R_mono HO117.out (fun _ hk => hk.2)), (by (with_reducible repeat (first | apply Kd.R_alloc | apply Kd.R_drewN | apply Kd.R_drew)); exact Kd.R_mono HO120.out (fun _ hk => hk.2)), (by (with_reducible repeat (first | refine blk_drewN ?_ _ | refine blk_drew ?_ | refine blk_alloc ?_ _)); exact BK113.out), (by (with_reducible repeat (first | refine blk_drewN ?_ _ | refine blk_drew ?_ | refine blk_alloc ?_ _)); exact BK114.out), (by (with_reducible repeat (first | refine blk_drewN ?_ _ | refine blk_drew ?_ | refine blk_alloc ?_ _)); exact BK124.out), GW124.out, GE124.out, NB113_124.out, NB124_113.out, NB114_124.out, NB124_114.out, (by repeat (first | (with_reducible first | exact HB.out | apply below_alloc | apply pw_below_drewN | apply below_drew1 | refine below_set ?_ GE113.out | refine below_set ?_ GE114.out | refine below_set ?_ GE124.out) | exact HB.out))⟩)
            · skip
              rintro ⟨v116, gb124⟩ w11 ⟨hS_, h0_, h1_, h2_, h3_, h4_, h5_, h6_, h7_, h8_, h9_, h10_⟩
              have n0_ : Aside0 (Kd.R (Kd.int .i64) 3 w11 w.heap.size (fun _ => True) v116 t115) := ⟨h0_⟩
              have n1_ : Aside0 (w11.heap[gb113]? = some (.cells #[.int .i64 a1_0, .slice A1_1 l1_1.length c1_1, .int .i64 a1_2, .bool a1_3] 46 (0, 0))) := ⟨h1_⟩
              have n2_ : Aside0 (w11.heap[gb114]? = some (.cells #[.int .i64 0, .slice none 0 0, .int .i64 0, .bool false] 46 (0, 0))) := ⟨h2_⟩
              have n3_ : Aside0 (w11.heap[gb124]? = some (.cells #[.int .i64 0, .slice none 0 0, .int .i64 0, .bool false] 46 (0, 0))) := ⟨h3_⟩
              have n4_ : Aside0 (w.heap.size ≤ gb124) := ⟨h4_⟩
              have n5_ : Aside0 (w.heap.size ≤ gb124) := ⟨h5_⟩
              have n6_ : Aside0 (gb113 ≠ gb124) := ⟨h6_⟩
              have n7_ : Aside0 (gb124 ≠ gb113) := ⟨h7_⟩
              have n8_ : Aside0 (gb114 ≠ gb124) := ⟨h8_⟩
              have n9_ : Aside0 (gb124 ≠ gb114) := ⟨h9_⟩
              have n10_ : Aside0 (Below w.heap.size w w11) := ⟨h10_⟩
              clear BK113
              clear BK114
              clear HB
              clear h0_ h1_ h2_ h3_ h4_ h5_ h6_ h7_ h8_ h9_ h10_
              have HO117 := n0_
              have BK113 := n1_
              have BK114 := n2_
              have BK124 := n3_
              have GW124 := n4_
              have GE124 := n5_
              have NB113_124 := n6_
              have NB124_113 := n7_
              have NB114_124 := n8_
              have NB124_114 := n9_
              have HB := n10_
              clear n0_ n1_ n2_ n3_ n4_ n5_ n6_ n7_ n8_ n9_ n10_
              have hHeld : w11.cell? ⟨gb113, 0, none⟩ = some (.int .i64 a1_0) ∧ w11.cell? ⟨gb113, 1, none⟩ = some (.slice A1_1 l1_1.length c1_1) ∧ w11.cell? ⟨gb113, 2, none⟩ = some (.int .i64 a1_2) ∧ w11.cell? ⟨gb113, 3, none⟩ = some (.bool a1_3) := hS_
              refine norm_ (a' := ?_) ?_ ?_
              rotate_left
              · simp only [putAll, Act.put, List.setIfInBounds_toArray, List.set_cons_zero, List.set_cons_succ]
                rfl
              refine one_ (i := 6) (N := some 15) #[true, true, true, true, true, true, true, false, true, true, true, true, false, true, false] rfl rfl (one_of HT_.out (by kernel_rfl)) (by decide) (fun K hK => ?_)
              refine Kd.R_lit_step (Kd.int .i64) _ 3 ?hg (N := 15) ?hd (xs := ([a2] : List Int)) (inner := [.int .i64 a2]) (ok := fun _ => True) (okp := fun _ => True) ?hr ?hp (fun _ hk => hk) trivial (Below.refl _ _) (Nat.le_refl _) (by simp) ?_; (case hd => rfl); (case hg => rfl); (case hr => first | (go_simp; done) | (go_simp; rfl)); (case hp => exact (Reps.one (show Kd.M (Kd.int .i64) _ _ _ a2 [.int .i64 a2] from rfl) (Reps.none _ _)))
              intro v119 w12 ho13 hb hg_ hnew_
              clear hg_ hnew_
              (first | rw [← Ny118.out] at ho13 | (simp only [Int.reduceToNat] at ho13; rw [← Ny118.out] at ho13))
              have n0_ := Aside0.mk (Kd.R_elder' (by (with_reducible repeat (first | apply Kd.R_alloc | apply Kd.R_drewN | apply Kd.R_drew)); exact HO117.out) (Kd.R_base ho13) hb)
              have n1_ := Aside0.mk (Kd.R_lower (Kd.R_new' ho13 (Kd.R_lt (by (with_reducible repeat (first | apply Kd.R_alloc | apply Kd.R_drewN | apply Kd.R_drew)); exact HO117.out))) (below_size (by repeat (first | (with_reducible first | exact HB.out | apply below_alloc | apply pw_below_drewN | apply below_drew1 | refine below_set ?_ GE113.out | refine below_set ?_ GE114.out | refine below_set ?_ GE124.out) | exact HB.out))))
              have n2_ := Aside0.mk (blk_below (g := gb113) (o := .cells #[.int .i64 a1_0, .slice A1_1 l1_1.length c1_1, .int .i64 a1_2, .bool a1_3] 46 (0, 0)) (by (with_reducible repeat (first | refine blk_drewN ?_ _ | refine blk_drew ?_ | refine blk_alloc ?_ _)); exact BK113.out) hb)
              have n3_ := Aside0.mk (blk_below (g := gb114) (o := .cells #[.int .i64 0, .slice none 0 0, .int .i64 0, .bool false] 46 (0, 0)) (by (with_reducible repeat (first | refine blk_drewN ?_ _ | refine blk_drew ?_ | refine blk_alloc ?_ _)); exact BK114.out) hb)
              have n4_ := Aside0.mk (blk_below (g := gb124) (o := .cells #[.int .i64 0, .slice none 0 0, .int .i64 0, .bool false] 46 (0, 0)) (by (with_reducible repeat (first | refine blk_drewN ?_ _ | refine blk_drew ?_ | refine blk_alloc ?_ _)); exact BK124.out) hb)
              have n5_ := Aside0.mk (below_step (by repeat (first | (with_reducible first | exact HB.out | apply below_alloc | apply pw_below_drewN | apply below_drew1 | refine below_set ?_ GE113.out | refine below_set ?_ GE114.out | refine below_set ?_ GE124.out) | exact HB.out)) hb)
              clear HO117
              clear BK113
              clear BK114
              clear BK124
              clear HB
              have HO117 := n0_
              have HO120 := n1_
              have BK113 := n2_
              have BK114 := n3_
              have BK124 := n4_
              have HB := n5_
              clear n0_ n1_ n2_ n3_ n4_ n5_
              clear hb ho13
              refine hK.out _ _ ⟨(blk_cell BK113.out 0).trans rfl, (blk_cell BK113.out 1).trans rfl, (blk_cell BK113.out 2).trans rfl, (blk_cell BK113.out 3).trans rfl⟩ (fun hHeld => ?_)
              clear hK K
              refine norm_ (a' := ?_) ?_ ?_
              rotate_left
              · show Act.put _ (some 15) _ = _
                simp only [Act.put, List.setIfInBounds_toArray, List.set_cons_zero, List.set_cons_succ, i64_w, i32_w]
                rfl
              exact norm_ (by first | (simp only [putAll, Act.put, List.setIfInBounds_toArray, List.set_cons_zero, List.set_cons_succ]; done) | (simp only [putAll, Act.put, List.setIfInBounds_toArray, List.set_cons_zero, List.set_cons_succ]; rfl)) (hJ4_6_13 (v116, v119, gb124) _ ⟨hHeld, (by (with_reducible repeat (first | apply Kd.R_alloc | apply Kd.R_drewN | apply Kd.R_drew)); exact Kd.R_mono HO117.out (fun _ hk => hk.2)), (by (with_reducible repeat (first | apply Kd.R_alloc | apply Kd.R_drewN | apply Kd.R_drew)); exact Kd.R_mono HO120.out (fun _ hk => hk.2)), (by (with_reducible repeat (first | refine blk_drewN ?_ _ | refine blk_drew ?_ | refine blk_alloc ?_ _)); exact BK113.out), (by (with_reducible repeat (first | refine blk_drewN ?_ _ | refine blk_drew ?_ | refine blk_alloc ?_ _)); exact BK114.out), (by (with_reducible repeat (first | refine blk_drewN ?_ _ | refine blk_drew ?_ | refine blk_alloc ?_ _)); exact BK124.out), GW124.out, GE124.out, NB113_124.out, NB124_113.out, NB114_124.out, NB124_114.out, (by repeat (first | (with_reducible first | exact HB.out | apply below_alloc | apply pw_below_drewN | apply below_drew1 | refine below_set ?_ GE113.out | refine below_set ?_ GE114.out | refine below_set ?_ GE124.out) | exact HB.out))⟩)
          · skip
            rintro ⟨v116, v119⟩ w12 ⟨hS_, h0_, h1_, h2_, h3_, h4_⟩
            have n0_ : Aside0 (Kd.R (Kd.int .i64) 3 w12 w.heap.size (fun k_ => some k_ ≠ (v119 : Value).ownBlock) v116 t115) := ⟨h0_⟩
            have n1_ : Aside0 (Kd.R (Kd.int .i64) 3 w12 w.heap.size (fun k_ => some k_ ≠ (v116 : Value).ownBlock) v119 y118) := ⟨h1_⟩
            have n2_ : Aside0 (w12.heap[gb113]? = some (.cells #[.int .i64 a1_0, .slice A1_1 l1_1.length c1_1, .int .i64 a1_2, .bool a1_3] 46 (0, 0))) := ⟨h2_⟩
            have n3_ : Aside0 (w12.heap[gb114]? = some (.cells #[.int .i64 0, .slice none 0 0, .int .i64 0, .bool false] 46 (0, 0))) := ⟨h3_⟩
            have n4_ : Aside0 (Below w.heap.size w w12) := ⟨h4_⟩
            clear BK113
            clear BK114
            clear HB
            clear h0_ h1_ h2_ h3_ h4_
            have HO117 := n0_
            have HO120 := n1_
            have BK113 := n2_
            have BK114 := n3_
            have HB := n4_
            clear n0_ n1_ n2_ n3_ n4_
            have hHeld : w12.cell? ⟨gb113, 0, none⟩ = some (.int .i64 a1_0) ∧ w12.cell? ⟨gb113, 1, none⟩ = some (.slice A1_1 l1_1.length c1_1) ∧ w12.cell? ⟨gb113, 2, none⟩ = some (.int .i64 a1_2) ∧ w12.cell? ⟨gb113, 3, none⟩ = some (.bool a1_3) := hS_
            obtain ⟨Ao14, co14, eo14⟩ := Kd.R_slice HO120.out
            (first | subst eo14 | (injection eo14 with f1_ f2_ f3_; have f4_ := f1_.symm; have f5_ := f3_.symm; clear f1_ f2_ f3_; subst f4_; subst f5_))
            refine norm_ (a' := ?_) ?_ ?_
            rotate_left
            · simp only [putAll, Act.put, List.setIfInBounds_toArray, List.set_cons_zero, List.set_cons_succ]
              rfl
            refine two_ (i := 7) (j := 13) (Ni := some 16) (Nj := some 7) #[true, true, true, true, true, true, true, true, true, true, true, true, false, false, false] #[true, true, true, true, true, true, true, false, true, true, true, true, false, true, false] rfl rfl rfl rfl (two_of HT_.out (by kernel_rfl)) (by decide) (by decide) (fun K hK => ?_) (fun K hK => ?_)
            · skip
              refine Kd.R_append_rows_step (Kd.int .i64) (w0 := w) w.heap.size (by rfl) (.tmp 13) (.tmp 15) 28 3 (.int .i64 0) 8 rfl Try.underlying28 info3 rfl (by decide) (by omega) v116 t115 y118 _ _ _ (fun k_ => some k_ ≠ (.slice Ao14 y118.length co14 : Value).ownBlock) (fun _ => False) rfl rfl ?aO ?aR (fun _ _ h => h) (fun _ h => h.elim) ?aF ?aB ?aS ?aL ?_
              (case aR => repeat (first | exact (Kd.R_reads' HO120.out).2.2 | (with_reducible refine Kd.C_alloc ?_ _) | (with_reducible refine Kd.C_drewN ?_ _) | (with_reducible refine Kd.C_drew ?_)))
              (case aB => exact (by repeat (first | (with_reducible first | exact HB.out | apply below_alloc | apply pw_below_drewN | apply below_drew1 | refine below_set ?_ GE113.out | refine below_set ?_ GE114.out) | exact HB.out)))
              (case aF => exact (fun k_ hk => Kd.fresh' (Kd.R_lt (by (with_reducible repeat (first | apply Kd.R_alloc | apply Kd.R_drewN | apply Kd.R_drew)); exact HO120.out)) k_ hk))
              (case aO => exact (by (with_reducible repeat (first | apply Kd.R_alloc | apply Kd.R_drewN | apply Kd.R_drew)); exact HO117.out))
              (case aS => exact (below_size (by repeat (first | (with_reducible first | exact HB.out | apply below_alloc | apply pw_below_drewN | apply below_drew1 | refine below_set ?_ GE113.out | refine below_set ?_ GE114.out) | exact HB.out))))
              (case aL => have := LMc5.out; omega)
              intro v122 w13 ho hb hg hat
              rw [← Ny121.out] at ho
              have n0_ := Aside0.mk (blk_grown (g := gb113) (o := .cells #[.int .i64 a1_0, .slice A1_1 l1_1.length c1_1, .int .i64 a1_2, .bool a1_3] 46 (0, 0)) (by (with_reducible repeat (first | refine blk_drewN ?_ _ | refine blk_drew ?_ | refine blk_alloc ?_ _)); exact BK113.out) hg (Kd.R_ne HO117.out BK113.out (by decide)))
              have n1_ := Aside0.mk (blk_grown (g := gb114) (o := .cells #[.int .i64 0, .slice none 0 0, .int .i64 0, .bool false] 46 (0, 0)) (by (with_reducible repeat (first | refine blk_drewN ?_ _ | refine blk_drew ?_ | refine blk_alloc ?_ _)); exact BK114.out) hg (Kd.R_ne HO117.out BK114.out (by decide)))
              have n2_ := Aside0.mk (Kd.R_after (ok := (fun _ => True)) (by (with_reducible repeat (first | apply Kd.R_alloc | apply Kd.R_drewN | apply Kd.R_drew)); exact Kd.R_mono HO120.out (fun _ hk => ⟨trivial, hk⟩)) hg hat)
              have n3_ := Aside0.mk (hb)
              have n4_ := Aside0.mk (ho)
              clear BK113
              clear BK114
              clear HO120
              clear HB
              clear HO117
              have BK113 := n0_
              have BK114 := n1_
              have HO120 := n2_
              have HB := n3_
              have HO123 := n4_
              clear n0_ n1_ n2_ n3_ n4_
              clear ho hb hg hat
              obtain ⟨Ao15, co15, eo15⟩ := Kd.R_slice HO123.out
              (first | subst eo15 | (injection eo15 with f1_ f2_ f3_; have f4_ := f1_.symm; have f5_ := f3_.symm; clear f1_ f2_ f3_; subst f4_; subst f5_))
              refine hK.out _ _ ⟨(blk_cell BK113.out 0).trans rfl, (blk_cell BK113.out 1).trans rfl, (blk_cell BK113.out 2).trans rfl, (blk_cell BK113.out 3).trans rfl⟩ (fun hHeld => ?_)
              clear hK K
              refine norm_ (a' := ?_) ?_ ?_
              rotate_left
              · show Act.put _ (some 16) _ = _
                simp only [Act.put, List.setIfInBounds_toArray, List.set_cons_zero, List.set_cons_succ, i64_w, i32_w]
                rfl
              refine pure_ (i := 12) (N := some 21) (v := ?_) (a' := ?_) #[true, true, true, true, true, true, true, true, true, true, true, true, true, false, false] rfl rfl (any_of HT_.out (by kernel_rfl)) (fun _ _ _ h => h) (Or.inl ⟨by rfl, ?_⟩) ?_ ?_
              rotate_left
              · intro w'
                go_simp
                with_reducible rfl
              rotate_left
              · simp only [Act.put, List.setIfInBounds_toArray, List.set_cons_zero, List.set_cons_succ, i64_w, i32_w]
                rfl
              exact norm_ (by first | (simp only [putAll, Act.put, List.setIfInBounds_toArray, List.set_cons_zero, List.set_cons_succ]; done) | (simp only [putAll, Act.put, List.setIfInBounds_toArray, List.set_cons_zero, List.set_cons_succ]; rfl)) (hJ4_6_7 (v116, .slice Ao14 y118.length co14, .slice Ao15 y121.length co15) _ ⟨hHeld, (by (with_reducible repeat (first | apply Kd.R_alloc | apply Kd.R_drewN | apply Kd.R_drew)); exact Kd.R_mono HO120.out (fun _ hk => hk.2)), (by (with_reducible repeat (first | apply Kd.R_alloc | apply Kd.R_drewN | apply Kd.R_drew)); exact HO123.out), (by (with_reducible repeat (first | refine blk_drewN ?_ _ | refine blk_drew ?_ | refine blk_alloc ?_ _)); exact BK113.out), (by (with_reducible repeat (first | refine blk_drewN ?_ _ | refine blk_drew ?_ | refine blk_alloc ?_ _)); exact BK114.out), (by repeat (first | (with_reducible first | exact HB.out | apply below_alloc | apply pw_below_drewN | apply below_drew1 | refine below_set ?_ GE113.out | refine below_set ?_ GE114.out) | exact HB.out))⟩)
            · skip
              refine box_step ?hg (N := 7) ?hd (cs := #[.int .i64 0, .slice none 0 0, .int .i64 0, .bool false]) (t := 46) ?hr ?_; (case hd => rfl); (case hg => rfl); (case hr => first | (go_simp; done) | (go_simp; rfl))
              intro gb124 hg w13 hbox hb
              have n0_ := Aside0.mk (Kd.R_below (by (with_reducible repeat (first | apply Kd.R_alloc | apply Kd.R_drewN | apply Kd.R_drew)); exact HO117.out) hb)
              have n1_ := Aside0.mk (Kd.R_below (by (with_reducible repeat (first | apply Kd.R_alloc | apply Kd.R_drewN | apply Kd.R_drew)); exact HO120.out) hb)
              have n2_ := Aside0.mk (blk_below (g := gb113) (o := .cells #[.int .i64 a1_0, .slice A1_1 l1_1.length c1_1, .int .i64 a1_2, .bool a1_3] 46 (0, 0)) (by (with_reducible repeat (first | refine blk_drewN ?_ _ | refine blk_drew ?_ | refine blk_alloc ?_ _)); exact BK113.out) hb)
              have n3_ := Aside0.mk (blk_below (g := gb114) (o := .cells #[.int .i64 0, .slice none 0 0, .int .i64 0, .bool false] 46 (0, 0)) (by (with_reducible repeat (first | refine blk_drewN ?_ _ | refine blk_drew ?_ | refine blk_alloc ?_ _)); exact BK114.out) hb)
              have n4_ := Aside0.mk (below_step (by repeat (first | (with_reducible first | exact HB.out | apply below_alloc | apply pw_below_drewN | apply below_drew1 | refine below_set ?_ GE113.out | refine below_set ?_ GE114.out) | exact HB.out)) hb)
              have n5_ := Aside0.mk (hbox)
              have n6_ := Aside0.mk ((by rw [hg]; exact (below_size (by repeat (first | (with_reducible first | exact HB.out | apply below_alloc | apply pw_below_drewN | apply below_drew1 | refine below_set ?_ GE113.out | refine below_set ?_ GE114.out) | exact HB.out))) : w.heap.size ≤ gb124))
              have n7_ := Aside0.mk ((by rw [hg]; exact (below_size (by repeat (first | (with_reducible first | exact HB.out | apply below_alloc | apply pw_below_drewN | apply below_drew1 | refine below_set ?_ GE113.out | refine below_set ?_ GE114.out) | exact HB.out))) : w.heap.size ≤ gb124))
              have n8_ := Aside0.mk ((by rw [hg]; exact Nat.ne_of_lt (blk_lt (g := gb113) (o := .cells #[.int .i64 a1_0, .slice A1_1 l1_1.length c1_1, .int .i64 a1_2, .bool a1_3] 46 (0, 0)) (by (with_reducible repeat (first | refine blk_drewN ?_ _ | refine blk_drew ?_ | refine blk_alloc ?_ _)); exact BK113.out)) : gb113 ≠ gb124))
              have n9_ := Aside0.mk ((by rw [hg]; exact Nat.ne_of_gt (blk_lt (g := gb113) (o := .cells #[.int .i64 a1_0, .slice A1_1 l1_1.length c1_1, .int .i64 a1_2, .bool a1_3] 46 (0, 0)) (by (with_reducible repeat (first | refine blk_drewN ?_ _ | refine blk_drew ?_ | refine blk_alloc ?_ _)); exact BK113.out)) : gb124 ≠ gb113))
              have n10_ := Aside0.mk ((by rw [hg]; exact Nat.ne_of_lt (blk_lt (g := gb114) (o := .cells #[.int .i64 0, .slice none 0 0, .int .i64 0, .bool false] 46 (0, 0)) (by (with_reducible repeat (first | refine blk_drewN ?_ _ | refine blk_drew ?_ | refine blk_alloc ?_ _)); exact BK114.out)) : gb114 ≠ gb124))
              have n11_ := Aside0.mk ((by rw [hg]; exact Nat.ne_of_gt (blk_lt (g := gb114) (o := .cells #[.int .i64 0, .slice none 0 0, .int .i64 0, .bool false] 46 (0, 0)) (by (with_reducible repeat (first | refine blk_drewN ?_ _ | refine blk_drew ?_ | refine blk_alloc ?_ _)); exact BK114.out)) : gb124 ≠ gb114))
              clear HO117
              clear HO120
              clear BK113
              clear BK114
              clear HB
              have HO117 := n0_
              have HO120 := n1_
              have BK113 := n2_
              have BK114 := n3_
              have HB := n4_
              have BK124 := n5_
              have GW124 := n6_
              have GE124 := n7_
              have NB113_124 := n8_
              have NB124_113 := n9_
              have NB114_124 := n10_
              have NB124_114 := n11_
              clear n0_ n1_ n2_ n3_ n4_ n5_ n6_ n7_ n8_ n9_ n10_ n11_
              clear hb hbox hg
              refine hK.out _ _ ⟨(blk_cell BK113.out 0).trans rfl, (blk_cell BK113.out 1).trans rfl, (blk_cell BK113.out 2).trans rfl, (blk_cell BK113.out 3).trans rfl⟩ (fun hHeld => ?_)
              clear hK K
              refine norm_ (a' := ?_) ?_ ?_
              rotate_left
              · show Act.put _ (some 7) _ = _
                simp only [Act.put, List.setIfInBounds_toArray, List.set_cons_zero, List.set_cons_succ, i64_w, i32_w]
                rfl
              exact norm_ (by first | (simp only [putAll, Act.put, List.setIfInBounds_toArray, List.set_cons_zero, List.set_cons_succ]; done) | (simp only [putAll, Act.put, List.setIfInBounds_toArray, List.set_cons_zero, List.set_cons_succ]; rfl)) (hJ4_6_13 (v116, (.slice Ao14 y118.length co14 : Value), gb124) _ ⟨hHeld, (by (with_reducible repeat (first | apply Kd.R_alloc | apply Kd.R_drewN | apply Kd.R_drew)); exact HO117.out), (by (with_reducible repeat (first | apply Kd.R_alloc | apply Kd.R_drewN | apply Kd.R_drew)); exact HO120.out), (by (with_reducible repeat (first | refine blk_drewN ?_ _ | refine blk_drew ?_ | refine blk_alloc ?_ _)); exact BK113.out), (by (with_reducible repeat (first | refine blk_drewN ?_ _ | refine blk_drew ?_ | refine blk_alloc ?_ _)); exact BK114.out), (by (with_reducible repeat (first | refine blk_drewN ?_ _ | refine blk_drew ?_ | refine blk_alloc ?_ _)); exact BK124.out), GW124.out, GE124.out, NB113_124.out, NB124_113.out, NB114_124.out, NB124_114.out, (by repeat (first | (with_reducible first | exact HB.out | apply below_alloc | apply pw_below_drewN | apply below_drew1 | refine below_set ?_ GE113.out | refine below_set ?_ GE114.out | refine below_set ?_ GE124.out) | exact HB.out))⟩)
        · skip
          rintro ⟨v116, v119, gb124⟩ w13 ⟨hS_, h0_, h1_, h2_, h3_, h4_, h5_, h6_, h7_, h8_, h9_, h10_, h11_⟩
          have n0_ : Aside0 (Kd.R (Kd.int .i64) 3 w13 w.heap.size (fun k_ => some k_ ≠ (v119 : Value).ownBlock) v116 t115) := ⟨h0_⟩
          have n1_ : Aside0 (Kd.R (Kd.int .i64) 3 w13 w.heap.size (fun k_ => some k_ ≠ (v116 : Value).ownBlock) v119 y118) := ⟨h1_⟩
          have n2_ : Aside0 (w13.heap[gb113]? = some (.cells #[.int .i64 a1_0, .slice A1_1 l1_1.length c1_1, .int .i64 a1_2, .bool a1_3] 46 (0, 0))) := ⟨h2_⟩
          have n3_ : Aside0 (w13.heap[gb114]? = some (.cells #[.int .i64 0, .slice none 0 0, .int .i64 0, .bool false] 46 (0, 0))) := ⟨h3_⟩
          have n4_ : Aside0 (w13.heap[gb124]? = some (.cells #[.int .i64 0, .slice none 0 0, .int .i64 0, .bool false] 46 (0, 0))) := ⟨h4_⟩
          have n5_ : Aside0 (w.heap.size ≤ gb124) := ⟨h5_⟩
          have n6_ : Aside0 (w.heap.size ≤ gb124) := ⟨h6_⟩
          have n7_ : Aside0 (gb113 ≠ gb124) := ⟨h7_⟩
          have n8_ : Aside0 (gb124 ≠ gb113) := ⟨h8_⟩
          have n9_ : Aside0 (gb114 ≠ gb124) := ⟨h9_⟩
          have n10_ : Aside0 (gb124 ≠ gb114) := ⟨h10_⟩
          have n11_ : Aside0 (Below w.heap.size w w13) := ⟨h11_⟩
          clear BK113
          clear BK114
          clear HB
          clear h0_ h1_ h2_ h3_ h4_ h5_ h6_ h7_ h8_ h9_ h10_ h11_
          have HO117 := n0_
          have HO120 := n1_
          have BK113 := n2_
          have BK114 := n3_
          have BK124 := n4_
          have GW124 := n5_
          have GE124 := n6_
          have NB113_124 := n7_
          have NB124_113 := n8_
          have NB114_124 := n9_
          have NB124_114 := n10_
          have HB := n11_
          clear n0_ n1_ n2_ n3_ n4_ n5_ n6_ n7_ n8_ n9_ n10_ n11_
          have hHeld : w13.cell? ⟨gb113, 0, none⟩ = some (.int .i64 a1_0) ∧ w13.cell? ⟨gb113, 1, none⟩ = some (.slice A1_1 l1_1.length c1_1) ∧ w13.cell? ⟨gb113, 2, none⟩ = some (.int .i64 a1_2) ∧ w13.cell? ⟨gb113, 3, none⟩ = some (.bool a1_3) := hS_
          obtain ⟨Ao15, co15, eo15⟩ := Kd.R_slice HO120.out
          (first | subst eo15 | (injection eo15 with f1_ f2_ f3_; have f4_ := f1_.symm; have f5_ := f3_.symm; clear f1_ f2_ f3_; subst f4_; subst f5_))
          refine norm_ (a' := ?_) ?_ ?_
          rotate_left
          · simp only [putAll, Act.put, List.setIfInBounds_toArray, List.set_cons_zero, List.set_cons_succ]
            rfl
          refine one_ (i := 7) (N := some 16) #[true, true, true, true, true, true, true, true, true, true, true, true, false, true, false] rfl rfl (one_of HT_.out (by kernel_rfl)) (by decide) (fun K hK => ?_)
          refine Kd.R_append_rows_step (Kd.int .i64) (w0 := w) w.heap.size (by rfl) (.tmp 13) (.tmp 15) 28 3 (.int .i64 0) 8 rfl Try.underlying28 info3 rfl (by decide) (by omega) v116 t115 y118 _ _ _ (fun k_ => some k_ ≠ (.slice Ao15 y118.length co15 : Value).ownBlock) (fun _ => False) rfl rfl ?aO ?aR (fun _ _ h => h) (fun _ h => h.elim) ?aF ?aB ?aS ?aL ?_
          (case aR => repeat (first | exact (Kd.R_reads' HO120.out).2.2 | (with_reducible refine Kd.C_alloc ?_ _) | (with_reducible refine Kd.C_drewN ?_ _) | (with_reducible refine Kd.C_drew ?_)))
          (case aB => exact (by repeat (first | (with_reducible first | exact HB.out | apply below_alloc | apply pw_below_drewN | apply below_drew1 | refine below_set ?_ GE113.out | refine below_set ?_ GE114.out | refine below_set ?_ GE124.out) | exact HB.out)))
          (case aF => exact (fun k_ hk => Kd.fresh' (Kd.R_lt (by (with_reducible repeat (first | apply Kd.R_alloc | apply Kd.R_drewN | apply Kd.R_drew)); exact HO120.out)) k_ hk))
          (case aO => exact (by (with_reducible repeat (first | apply Kd.R_alloc | apply Kd.R_drewN | apply Kd.R_drew)); exact HO117.out))
          (case aS => exact (below_size (by repeat (first | (with_reducible first | exact HB.out | apply below_alloc | apply pw_below_drewN | apply below_drew1 | refine below_set ?_ GE113.out | refine below_set ?_ GE114.out | refine below_set ?_ GE124.out) | exact HB.out))))
          (case aL => have := LMc5.out; omega)
          intro v122 w14 ho hb hg hat
          rw [← Ny121.out] at ho
          have n0_ := Aside0.mk (blk_grown (g := gb113) (o := .cells #[.int .i64 a1_0, .slice A1_1 l1_1.length c1_1, .int .i64 a1_2, .bool a1_3] 46 (0, 0)) (by (with_reducible repeat (first | refine blk_drewN ?_ _ | refine blk_drew ?_ | refine blk_alloc ?_ _)); exact BK113.out) hg (Kd.R_ne HO117.out BK113.out (by decide)))
          have n1_ := Aside0.mk (blk_grown (g := gb114) (o := .cells #[.int .i64 0, .slice none 0 0, .int .i64 0, .bool false] 46 (0, 0)) (by (with_reducible repeat (first | refine blk_drewN ?_ _ | refine blk_drew ?_ | refine blk_alloc ?_ _)); exact BK114.out) hg (Kd.R_ne HO117.out BK114.out (by decide)))
          have n2_ := Aside0.mk (Kd.R_after (ok := (fun _ => True)) (by (with_reducible repeat (first | apply Kd.R_alloc | apply Kd.R_drewN | apply Kd.R_drew)); exact Kd.R_mono HO120.out (fun _ hk => ⟨trivial, hk⟩)) hg hat)
          have n3_ := Aside0.mk (blk_grown (g := gb124) (o := .cells #[.int .i64 0, .slice none 0 0, .int .i64 0, .bool false] 46 (0, 0)) (by (with_reducible repeat (first | refine blk_drewN ?_ _ | refine blk_drew ?_ | refine blk_alloc ?_ _)); exact BK124.out) hg (Kd.R_ne HO117.out BK124.out (by decide)))
          have n4_ := Aside0.mk (hb)
          have n5_ := Aside0.mk (ho)
          clear BK113
          clear BK114
          clear HO120
          clear BK124
          clear HB
          clear HO117
          have BK113 := n0_
          have BK114 := n1_
          have HO120 := n2_
          have BK124 := n3_
          have HB := n4_
          have HO123 := n5_
          clear n0_ n1_ n2_ n3_ n4_ n5_
          clear ho hb hg hat
          obtain ⟨Ao16, co16, eo16⟩ := Kd.R_slice HO123.out
          (first | subst eo16 | (injection eo16 with f1_ f2_ f3_; have f4_ := f1_.symm; have f5_ := f3_.symm; clear f1_ f2_ f3_; subst f4_; subst f5_))
          refine hK.out _ _ ⟨(blk_cell BK113.out 0).trans rfl, (blk_cell BK113.out 1).trans rfl, (blk_cell BK113.out 2).trans rfl, (blk_cell BK113.out 3).trans rfl⟩ (fun hHeld => ?_)
          clear hK K
          refine norm_ (a' := ?_) ?_ ?_
          rotate_left
          · show Act.put _ (some 16) _ = _
            simp only [Act.put, List.setIfInBounds_toArray, List.set_cons_zero, List.set_cons_succ, i64_w, i32_w]
            rfl
          refine pure_ (i := 12) (N := some 21) (v := ?_) (a' := ?_) #[true, true, true, true, true, true, true, true, true, true, true, true, true, true, false] rfl rfl (any_of HT_.out (by kernel_rfl)) (fun _ _ _ h => h) (Or.inl ⟨by rfl, ?_⟩) ?_ ?_
          rotate_left
          · intro w'
            go_simp
            with_reducible rfl
          rotate_left
          · simp only [Act.put, List.setIfInBounds_toArray, List.set_cons_zero, List.set_cons_succ, i64_w, i32_w]
            rfl
          exact norm_ (by first | (simp only [putAll, Act.put, List.setIfInBounds_toArray, List.set_cons_zero, List.set_cons_succ]; done) | (simp only [putAll, Act.put, List.setIfInBounds_toArray, List.set_cons_zero, List.set_cons_succ]; rfl)) (hJ4_6_7_13 (v116, .slice Ao15 y118.length co15, .slice Ao16 y121.length co16, gb124) _ ⟨hHeld, (by (with_reducible repeat (first | apply Kd.R_alloc | apply Kd.R_drewN | apply Kd.R_drew)); exact Kd.R_mono HO120.out (fun _ hk => hk.2)), (by (with_reducible repeat (first | apply Kd.R_alloc | apply Kd.R_drewN | apply Kd.R_drew)); exact HO123.out), (by (with_reducible repeat (first | refine blk_drewN ?_ _ | refine blk_drew ?_ | refine blk_alloc ?_ _)); exact BK113.out), (by (with_reducible repeat (first | refine blk_drewN ?_ _ | refine blk_drew ?_ | refine blk_alloc ?_ _)); exact BK114.out), (by (with_reducible repeat (first | refine blk_drewN ?_ _ | refine blk_drew ?_ | refine blk_alloc ?_ _)); exact BK124.out), GW124.out, GE124.out, NB113_124.out, NB124_113.out, NB114_124.out, NB124_114.out, (by repeat (first | (with_reducible first | exact HB.out | apply below_alloc | apply pw_below_drewN | apply below_drew1 | refine below_set ?_ GE113.out | refine below_set ?_ GE114.out | refine below_set ?_ GE124.out) | exact HB.out))⟩)
      · skip
        rintro ⟨v116, v119, v122⟩ w15 ⟨hS_, h0_, h1_, h2_, h3_, h4_⟩
        have n0_ : Aside0 (Kd.R (Kd.int .i64) 3 w15 w.heap.size (fun k_ => some k_ ≠ (v122 : Value).ownBlock) v119 y118) := ⟨h0_⟩
        have n1_ : Aside0 (Kd.R (Kd.int .i64) 3 w15 w.heap.size (fun k_ => some k_ ≠ (v119 : Value).ownBlock) v122 y121) := ⟨h1_⟩
        have n2_ : Aside0 (w15.heap[gb113]? = some (.cells #[.int .i64 a1_0, .slice A1_1 l1_1.length c1_1, .int .i64 a1_2, .bool a1_3] 46 (0, 0))) := ⟨h2_⟩
        have n3_ : Aside0 (w15.heap[gb114]? = some (.cells #[.int .i64 0, .slice none 0 0, .int .i64 0, .bool false] 46 (0, 0))) := ⟨h3_⟩
        have n4_ : Aside0 (Below w.heap.size w w15) := ⟨h4_⟩
        clear BK113
        clear BK114
        clear HB
        clear h0_ h1_ h2_ h3_ h4_
        have HO120 := n0_
        have HO123 := n1_
        have BK113 := n2_
        have BK114 := n3_
        have HB := n4_
        clear n0_ n1_ n2_ n3_ n4_
        have hHeld : w15.cell? ⟨gb113, 0, none⟩ = some (.int .i64 a1_0) ∧ w15.cell? ⟨gb113, 1, none⟩ = some (.slice A1_1 l1_1.length c1_1) ∧ w15.cell? ⟨gb113, 2, none⟩ = some (.int .i64 a1_2) ∧ w15.cell? ⟨gb113, 3, none⟩ = some (.bool a1_3) := hS_
        obtain ⟨Ao16, co16, eo16⟩ := Kd.R_slice HO123.out
        (first | subst eo16 | (injection eo16 with f1_ f2_ f3_; have f4_ := f1_.symm; have f5_ := f3_.symm; clear f1_ f2_ f3_; subst f4_; subst f5_))
        refine norm_ (a' := ?_) ?_ ?_
        rotate_left
        · simp only [putAll, Act.put, List.setIfInBounds_toArray, List.set_cons_zero, List.set_cons_succ]
          rfl
        refine one_ (i := 13) (N := some 7) #[true, true, true, true, true, true, true, true, true, true, true, true, true, true, false] rfl rfl (one_of HT_.out (by kernel_rfl)) (by decide) (fun K hK => ?_)
        refine box_step ?hg (N := 7) ?hd (cs := #[.int .i64 0, .slice none 0 0, .int .i64 0, .bool false]) (t := 46) ?hr ?_; (case hd => rfl); (case hg => rfl); (case hr => first | (go_simp; done) | (go_simp; rfl))
        intro gb124 hg w17 hbox hb
        have n0_ := Aside0.mk (Kd.R_below (by (with_reducible repeat (first | apply Kd.R_alloc | apply Kd.R_drewN | apply Kd.R_drew)); exact HO120.out) hb)
        have n1_ := Aside0.mk (Kd.R_below (by (with_reducible repeat (first | apply Kd.R_alloc | apply Kd.R_drewN | apply Kd.R_drew)); exact HO123.out) hb)
        have n2_ := Aside0.mk (blk_below (g := gb113) (o := .cells #[.int .i64 a1_0, .slice A1_1 l1_1.length c1_1, .int .i64 a1_2, .bool a1_3] 46 (0, 0)) (by (with_reducible repeat (first | refine blk_drewN ?_ _ | refine blk_drew ?_ | refine blk_alloc ?_ _)); exact BK113.out) hb)
        have n3_ := Aside0.mk (blk_below (g := gb114) (o := .cells #[.int .i64 0, .slice none 0 0, .int .i64 0, .bool false] 46 (0, 0)) (by (with_reducible repeat (first | refine blk_drewN ?_ _ | refine blk_drew ?_ | refine blk_alloc ?_ _)); exact BK114.out) hb)
        have n4_ := Aside0.mk (below_step (by repeat (first | (with_reducible first | exact HB.out | apply below_alloc | apply pw_below_drewN | apply below_drew1 | refine below_set ?_ GE113.out | refine below_set ?_ GE114.out) | exact HB.out)) hb)
        have n5_ := Aside0.mk (hbox)
        have n6_ := Aside0.mk ((by rw [hg]; exact (below_size (by repeat (first | (with_reducible first | exact HB.out | apply below_alloc | apply pw_below_drewN | apply below_drew1 | refine below_set ?_ GE113.out | refine below_set ?_ GE114.out) | exact HB.out))) : w.heap.size ≤ gb124))
        have n7_ := Aside0.mk ((by rw [hg]; exact (below_size (by repeat (first | (with_reducible first | exact HB.out | apply below_alloc | apply pw_below_drewN | apply below_drew1 | refine below_set ?_ GE113.out | refine below_set ?_ GE114.out) | exact HB.out))) : w.heap.size ≤ gb124))
        have n8_ := Aside0.mk ((by rw [hg]; exact Nat.ne_of_lt (blk_lt (g := gb113) (o := .cells #[.int .i64 a1_0, .slice A1_1 l1_1.length c1_1, .int .i64 a1_2, .bool a1_3] 46 (0, 0)) (by (with_reducible repeat (first | refine blk_drewN ?_ _ | refine blk_drew ?_ | refine blk_alloc ?_ _)); exact BK113.out)) : gb113 ≠ gb124))
        have n9_ := Aside0.mk ((by rw [hg]; exact Nat.ne_of_gt (blk_lt (g := gb113) (o := .cells #[.int .i64 a1_0, .slice A1_1 l1_1.length c1_1, .int .i64 a1_2, .bool a1_3] 46 (0, 0)) (by (with_reducible repeat (first | refine blk_drewN ?_ _ | refine blk_drew ?_ | refine blk_alloc ?_ _)); exact BK113.out)) : gb124 ≠ gb113))
        have n10_ := Aside0.mk ((by rw [hg]; exact Nat.ne_of_lt (blk_lt (g := gb114) (o := .cells #[.int .i64 0, .slice none 0 0, .int .i64 0, .bool false] 46 (0, 0)) (by (with_reducible repeat (first | refine blk_drewN ?_ _ | refine blk_drew ?_ | refine blk_alloc ?_ _)); exact BK114.out)) : gb114 ≠ gb124))
        have n11_ := Aside0.mk ((by rw [hg]; exact Nat.ne_of_gt (blk_lt (g := gb114) (o := .cells #[.int .i64 0, .slice none 0 0, .int .i64 0, .bool false] 46 (0, 0)) (by (with_reducible repeat (first | refine blk_drewN ?_ _ | refine blk_drew ?_ | refine blk_alloc ?_ _)); exact BK114.out)) : gb124 ≠ gb114))
        clear HO120
        clear HO123
        clear BK113
        clear BK114
        clear HB
        have HO120 := n0_
        have HO123 := n1_
        have BK113 := n2_
        have BK114 := n3_
        have HB := n4_
        have BK124 := n5_
        have GW124 := n6_
        have GE124 := n7_
        have NB113_124 := n8_
        have NB124_113 := n9_
        have NB114_124 := n10_
        have NB124_114 := n11_
        clear n0_ n1_ n2_ n3_ n4_ n5_ n6_ n7_ n8_ n9_ n10_ n11_
        clear hb hbox hg
        refine hK.out _ _ ⟨(blk_cell BK113.out 0).trans rfl, (blk_cell BK113.out 1).trans rfl, (blk_cell BK113.out 2).trans rfl, (blk_cell BK113.out 3).trans rfl⟩ (fun hHeld => ?_)
        clear hK K
        refine norm_ (a' := ?_) ?_ ?_
        rotate_left
        · show Act.put _ (some 7) _ = _
          simp only [Act.put, List.setIfInBounds_toArray, List.set_cons_zero, List.set_cons_succ, i64_w, i32_w]
          rfl
        exact norm_ (by first | (simp only [putAll, Act.put, List.setIfInBounds_toArray, List.set_cons_zero, List.set_cons_succ]; done) | (simp only [putAll, Act.put, List.setIfInBounds_toArray, List.set_cons_zero, List.set_cons_succ]; rfl)) (hJ4_6_7_13 (v116, v119, .slice Ao16 y121.length co16, gb124) _ ⟨hHeld, (by (with_reducible repeat (first | apply Kd.R_alloc | apply Kd.R_drewN | apply Kd.R_drew)); exact HO120.out), (by (with_reducible repeat (first | apply Kd.R_alloc | apply Kd.R_drewN | apply Kd.R_drew)); exact HO123.out), (by (with_reducible repeat (first | refine blk_drewN ?_ _ | refine blk_drew ?_ | refine blk_alloc ?_ _)); exact BK113.out), (by (with_reducible repeat (first | refine blk_drewN ?_ _ | refine blk_drew ?_ | refine blk_alloc ?_ _)); exact BK114.out), (by (with_reducible repeat (first | refine blk_drewN ?_ _ | refine blk_drew ?_ | refine blk_alloc ?_ _)); exact BK124.out), GW124.out, GE124.out, NB113_124.out, NB124_113.out, NB114_124.out, NB124_114.out, (by repeat (first | (with_reducible first | exact HB.out | apply below_alloc | apply pw_below_drewN | apply below_drew1 | refine below_set ?_ GE113.out | refine below_set ?_ GE114.out | refine below_set ?_ GE124.out) | exact HB.out))⟩)
    rintro ⟨v116, v119, v122, gb124⟩ w16 ⟨hS_, h0_, h1_, h2_, h3_, h4_, h5_, h6_, h7_, h8_, h9_, h10_, h11_⟩
    have n0_ : Aside0 (Kd.R (Kd.int .i64) 3 w16 w.heap.size (fun k_ => some k_ ≠ (v122 : Value).ownBlock) v119 y118) := ⟨h0_⟩
    have n1_ : Aside0 (Kd.R (Kd.int .i64) 3 w16 w.heap.size (fun k_ => some k_ ≠ (v119 : Value).ownBlock) v122 y121) := ⟨h1_⟩
    have n2_ : Aside0 (w16.heap[gb113]? = some (.cells #[.int .i64 a1_0, .slice A1_1 l1_1.length c1_1, .int .i64 a1_2, .bool a1_3] 46 (0, 0))) := ⟨h2_⟩
    have n3_ : Aside0 (w16.heap[gb114]? = some (.cells #[.int .i64 0, .slice none 0 0, .int .i64 0, .bool false] 46 (0, 0))) := ⟨h3_⟩
    have n4_ : Aside0 (w16.heap[gb124]? = some (.cells #[.int .i64 0, .slice none 0 0, .int .i64 0, .bool false] 46 (0, 0))) := ⟨h4_⟩
    have n5_ : Aside0 (w.heap.size ≤ gb124) := ⟨h5_⟩
    have n6_ : Aside0 (w.heap.size ≤ gb124) := ⟨h6_⟩
    have n7_ : Aside0 (gb113 ≠ gb124) := ⟨h7_⟩
    have n8_ : Aside0 (gb124 ≠ gb113) := ⟨h8_⟩
    have n9_ : Aside0 (gb114 ≠ gb124) := ⟨h9_⟩
    have n10_ : Aside0 (gb124 ≠ gb114) := ⟨h10_⟩
    have n11_ : Aside0 (Below w.heap.size w w16) := ⟨h11_⟩
    clear BK113
    clear BK114
    clear HB
    clear h0_ h1_ h2_ h3_ h4_ h5_ h6_ h7_ h8_ h9_ h10_ h11_
    have HO120 := n0_
    have HO123 := n1_
    have BK113 := n2_
    have BK114 := n3_
    have BK124 := n4_
    have GW124 := n5_
    have GE124 := n6_
    have NB113_124 := n7_
    have NB124_113 := n8_
    have NB114_124 := n9_
    have NB124_114 := n10_
    have HB := n11_
    clear n0_ n1_ n2_ n3_ n4_ n5_ n6_ n7_ n8_ n9_ n10_ n11_
    have hHeld : w16.cell? ⟨gb113, 0, none⟩ = some (.int .i64 a1_0) ∧ w16.cell? ⟨gb113, 1, none⟩ = some (.slice A1_1 l1_1.length c1_1) ∧ w16.cell? ⟨gb113, 2, none⟩ = some (.int .i64 a1_2) ∧ w16.cell? ⟨gb113, 3, none⟩ = some (.bool a1_3) := hS_
    obtain ⟨Ao17, co17, eo17⟩ := Kd.R_slice HO123.out
    (first | subst eo17 | (injection eo17 with f1_ f2_ f3_; have f4_ := f1_.symm; have f5_ := f3_.symm; clear f1_ f2_ f3_; subst f4_; subst f5_))
    refine norm_ (a' := ?_) ?_ ?_
    rotate_left
    · simp only [putAll, Act.put, List.setIfInBounds_toArray, List.set_cons_zero, List.set_cons_succ]
      rfl
    refine one_ (i := 14) (N := none) #[true, true, true, true, true, true, true, true, true, true, true, true, true, true, true] rfl rfl (one_of HT_.out (by kernel_rfl)) (by decide) (fun K hK => ?_)
    have hs18 : w16.cell? ⟨gb124, 0, none⟩ = some (.int .i64 0) := (blk_cell BK124.out 0).trans rfl
    have hfs18 := blk_frozen BK124.out 0
    have hns18_0 := NB113_124.out
    have hns18_1 := NB114_124.out
    have hms18_0 := NB124_113.out
    have hms18_1 := NB124_114.out
    have hs19 : w16.cell? ⟨gb124, 1, none⟩ = some (.slice none 0 0) := (blk_cell BK124.out 1).trans rfl
    have hfs19 := blk_frozen BK124.out 1
    have hns19_0 := NB113_124.out
    have hns19_1 := NB114_124.out
    have hms19_0 := NB124_113.out
    have hms19_1 := NB124_114.out
    have hs20 : w16.cell? ⟨gb124, 2, none⟩ = some (.int .i64 0) := (blk_cell BK124.out 2).trans rfl
    have hfs20 := blk_frozen BK124.out 2
    have hns20_0 := NB113_124.out
    have hns20_1 := NB114_124.out
    have hms20_0 := NB124_113.out
    have hms20_1 := NB124_114.out
    have hs21 : w16.cell? ⟨gb124, 3, none⟩ = some (.bool false) := (blk_cell BK124.out 3).trans rfl
    have hfs21 := blk_frozen BK124.out 3
    have hns21_0 := NB113_124.out
    have hns21_1 := NB114_124.out
    have hms21_0 := NB124_113.out
    have hms21_1 := NB124_114.out
    refine skip_ (w1 := ?_) (by rfl) rfl ?_ ?_
    rotate_left
    · go_simp
      rfl
    refine hK.out _ _ ⟨((cell_far (p := ⟨gb124, _, none⟩) NB113_124.out _).trans (((cell_far (p := ⟨gb124, _, none⟩) NB113_124.out _).trans (((cell_far (p := ⟨gb124, _, none⟩) NB113_124.out _).trans (((cell_far (p := ⟨gb124, _, none⟩) NB113_124.out _).trans (hHeld.1)))))))), ((cell_far (p := ⟨gb124, _, none⟩) NB113_124.out _).trans (((cell_far (p := ⟨gb124, _, none⟩) NB113_124.out _).trans (((cell_far (p := ⟨gb124, _, none⟩) NB113_124.out _).trans (((cell_far (p := ⟨gb124, _, none⟩) NB113_124.out _).trans (hHeld.2.1)))))))), ((cell_far (p := ⟨gb124, _, none⟩) NB113_124.out _).trans (((cell_far (p := ⟨gb124, _, none⟩) NB113_124.out _).trans (((cell_far (p := ⟨gb124, _, none⟩) NB113_124.out _).trans (((cell_far (p := ⟨gb124, _, none⟩) NB113_124.out _).trans (hHeld.2.2.1)))))))), ((cell_far (p := ⟨gb124, _, none⟩) NB113_124.out _).trans (((cell_far (p := ⟨gb124, _, none⟩) NB113_124.out _).trans (((cell_far (p := ⟨gb124, _, none⟩) NB113_124.out _).trans (((cell_far (p := ⟨gb124, _, none⟩) NB113_124.out _).trans (hHeld.2.2.2))))))))⟩ (fun hHeld => ?_)
    clear hK K
    refine done_ (done_of HT_.out (by kernel_rfl)) ?_
    have hnb22 := NB124_113.out
    have hnc22 := NB113_124.out
    have hnb23 := NB124_114.out
    have hnc23 := NB114_124.out
    have hcz24_0 : w16.cell? ⟨gb124, 0, none⟩ = some (.int .i64 0) := (blk_cell BK124.out 0).trans rfl
    have hcz24_1 : w16.cell? ⟨gb124, 1, none⟩ = some (.slice none 0 0) := (blk_cell BK124.out 1).trans rfl
    have hcz24_2 : w16.cell? ⟨gb124, 2, none⟩ = some (.int .i64 0) := (blk_cell BK124.out 2).trans rfl
    have hcz24_3 : w16.cell? ⟨gb124, 3, none⟩ = some (.bool false) := (blk_cell BK124.out 3).trans rfl
    have hfz24_0 := blk_frozen BK124.out 0
    have hfz24_1 := blk_frozen BK124.out 1
    have hfz24_2 := blk_frozen BK124.out 2
    have hfz24_3 := blk_frozen BK124.out 3
    have hnb25 := NB114_113.out
    have hnc25 := NB113_114.out
    have hcz26_0 : w16.cell? ⟨gb114, 0, none⟩ = some (.int .i64 0) := (blk_cell BK114.out 0).trans rfl
    have hcz26_1 : w16.cell? ⟨gb114, 1, none⟩ = some (.slice none 0 0) := (blk_cell BK114.out 1).trans rfl
    have hcz26_2 : w16.cell? ⟨gb114, 2, none⟩ = some (.int .i64 0) := (blk_cell BK114.out 2).trans rfl
    have hcz26_3 : w16.cell? ⟨gb114, 3, none⟩ = some (.bool false) := (blk_cell BK114.out 3).trans rfl
    have hfz26_0 := blk_frozen BK114.out 0
    have hfz26_1 := blk_frozen BK114.out 1
    have hfz26_2 := blk_frozen BK114.out 2
    have hfz26_3 := blk_frozen BK114.out 3
    generalize wrap64 (a1_2 - a2) = st at *
    by_cases c1 : a1_0 < wrap64 (a0 - 1)
    · have u1 : decide (a1_0 < wrap64 (a0 - 1)) = true := decide_eq_true c1
      have C1 := Aside0.mk c1
      clear c1
      by_cases c2 : st = 0
      · have u2 : (st == 0) = true := by rw [c2]; rfl
        have C2 := Aside0.mk c2
        clear c2
        have HQ := HRV.out
        unfold rollV at HQ
        rw [if_pos C1.out, if_pos C2.out] at HQ
        simp only [Prod.mk.injEq] at HQ
        obtain ⟨rfl, rfl, rfl, rfl⟩ := HQ
        go_wp2
        refine bodyPost_ret (results_cell_row rfl _ _ gb114 46 #[.int .i64 (wrap64 (a1_0 + 1)), .slice none 0 0, .int .i64 10, .bool false] (0, 0) _ rfl (by (with_reducible repeat (first | refine blk_drewN ?_ _ | refine blk_drew ?_ | refine blk_alloc ?_ _)); refine blk_put (cs := #[.int .i64 (wrap64 (a1_0 + 1)), .slice none 0 0, .int .i64 10, .bool false]) ?_ 3 _ rfl; (with_reducible repeat (first | refine blk_drewN ?_ _ | refine blk_drew ?_ | refine blk_alloc ?_ _)); refine blk_put (cs := #[.int .i64 (wrap64 (a1_0 + 1)), .slice none 0 0, .int .i64 0, .bool false]) ?_ 2 _ rfl; (with_reducible repeat (first | refine blk_drewN ?_ _ | refine blk_drew ?_ | refine blk_alloc ?_ _)); refine blk_put (cs := #[.int .i64 (wrap64 (a1_0 + 1)), .slice none 0 0, .int .i64 0, .bool false]) ?_ 1 _ rfl; (with_reducible repeat (first | refine blk_drewN ?_ _ | refine blk_drew ?_ | refine blk_alloc ?_ _)); refine blk_put (cs := #[.int .i64 0, .slice none 0 0, .int .i64 0, .bool false]) ?_ 0 _ rfl; (with_reducible repeat (first | refine blk_drewN ?_ _ | refine blk_drew ?_ | refine blk_alloc ?_ _)); refine blk_far ?_ NB114_124.out _; (with_reducible repeat (first | refine blk_drewN ?_ _ | refine blk_drew ?_ | refine blk_alloc ?_ _)); refine blk_far ?_ NB114_124.out _; (with_reducible repeat (first | refine blk_drewN ?_ _ | refine blk_drew ?_ | refine blk_alloc ?_ _)); refine blk_far ?_ NB114_124.out _; (with_reducible repeat (first | refine blk_drewN ?_ _ | refine blk_drew ?_ | refine blk_alloc ?_ _)); refine blk_far ?_ NB114_124.out _; (with_reducible repeat (first | refine blk_drewN ?_ _ | refine blk_drew ?_ | refine blk_alloc ?_ _)); exact BK114.out) Try.underlying46 rfl (by kernel_rfl)) rfl ?_
        exact ⟨_, rfl, by exact Kd.R_nil _ _ _ _ _, by repeat (first | (with_reducible first | exact HB.out | apply below_alloc | apply pw_below_drewN | apply below_drew1 | refine below_set ?_ GE113.out | refine below_set ?_ GE114.out | refine below_set ?_ GE124.out) | exact HB.out)⟩
      · have u2 : (st == 0) = false := by simpa using c2
        have C2 := Aside0.mk c2
        clear c2
        by_cases c3 : y121.length = 2
        · have u3 : ((y121.length : Int) == 2) = true := by rw [c3]; rfl
          have C3 := Aside0.mk c3
          clear c3
          have HQ := HRV.out
          unfold rollV at HQ
          rw [if_pos C1.out, if_neg C2.out, if_pos C3.out] at HQ
          simp only [Prod.mk.injEq] at HQ
          obtain ⟨rfl, rfl, rfl, rfl⟩ := HQ
          go_wp2
          refine bodyPost_ret (results_cell_row rfl _ _ gb114 46 #[.int .i64 (wrap64 (a1_0 + 1)), .slice none 0 0, .int .i64 10, .bool false] (0, 0) _ rfl (by (with_reducible repeat (first | refine blk_drewN ?_ _ | refine blk_drew ?_ | refine blk_alloc ?_ _)); refine blk_put (cs := #[.int .i64 (wrap64 (a1_0 + 1)), .slice none 0 0, .int .i64 10, .bool false]) ?_ 3 _ rfl; (with_reducible repeat (first | refine blk_drewN ?_ _ | refine blk_drew ?_ | refine blk_alloc ?_ _)); refine blk_put (cs := #[.int .i64 (wrap64 (a1_0 + 1)), .slice none 0 0, .int .i64 0, .bool false]) ?_ 2 _ rfl; (with_reducible repeat (first | refine blk_drewN ?_ _ | refine blk_drew ?_ | refine blk_alloc ?_ _)); refine blk_put (cs := #[.int .i64 (wrap64 (a1_0 + 1)), .slice none 0 0, .int .i64 0, .bool false]) ?_ 1 _ rfl; (with_reducible repeat (first | refine blk_drewN ?_ _ | refine blk_drew ?_ | refine blk_alloc ?_ _)); refine blk_put (cs := #[.int .i64 0, .slice none 0 0, .int .i64 0, .bool false]) ?_ 0 _ rfl; (with_reducible repeat (first | refine blk_drewN ?_ _ | refine blk_drew ?_ | refine blk_alloc ?_ _)); refine blk_far ?_ NB114_124.out _; (with_reducible repeat (first | refine blk_drewN ?_ _ | refine blk_drew ?_ | refine blk_alloc ?_ _)); refine blk_far ?_ NB114_124.out _; (with_reducible repeat (first | refine blk_drewN ?_ _ | refine blk_drew ?_ | refine blk_alloc ?_ _)); refine blk_far ?_ NB114_124.out _; (with_reducible repeat (first | refine blk_drewN ?_ _ | refine blk_drew ?_ | refine blk_alloc ?_ _)); refine blk_far ?_ NB114_124.out _; (with_reducible repeat (first | refine blk_drewN ?_ _ | refine blk_drew ?_ | refine blk_alloc ?_ _)); exact BK114.out) Try.underlying46 rfl (by kernel_rfl)) rfl ?_
          exact ⟨_, rfl, by exact Kd.R_nil _ _ _ _ _, by repeat (first | (with_reducible first | exact HB.out | apply below_alloc | apply pw_below_drewN | apply below_drew1 | refine below_set ?_ GE113.out | refine below_set ?_ GE114.out | refine below_set ?_ GE124.out) | exact HB.out)⟩
        · have u3 : ((y121.length : Int) == 2) = false := by simpa using (show ¬ (y121.length : Int) = 2 by omega)
          have C3 := Aside0.mk c3
          clear c3
          have HQ := HRV.out
          unfold rollV at HQ
          rw [if_pos C1.out, if_neg C2.out, if_neg C3.out] at HQ
          simp only [Prod.mk.injEq] at HQ
          obtain ⟨rfl, rfl, rfl, rfl⟩ := HQ
          go_wp2
          refine bodyPost_ret (results_cell_row rfl _ _ gb114 46 #[.int .i64 a1_0, .slice Ao17 y121.length co17, .int .i64 st, .bool false] (0, 0) _ rfl (by (with_reducible repeat (first | refine blk_drewN ?_ _ | refine blk_drew ?_ | refine blk_alloc ?_ _)); refine blk_put (cs := #[.int .i64 a1_0, .slice Ao17 y121.length co17, .int .i64 st, .bool false]) ?_ 3 _ rfl; (with_reducible repeat (first | refine blk_drewN ?_ _ | refine blk_drew ?_ | refine blk_alloc ?_ _)); refine blk_put (cs := #[.int .i64 a1_0, .slice Ao17 y121.length co17, .int .i64 0, .bool false]) ?_ 2 _ rfl; (with_reducible repeat (first | refine blk_drewN ?_ _ | refine blk_drew ?_ | refine blk_alloc ?_ _)); refine blk_put (cs := #[.int .i64 a1_0, .slice none 0 0, .int .i64 0, .bool false]) ?_ 1 _ rfl; (with_reducible repeat (first | refine blk_drewN ?_ _ | refine blk_drew ?_ | refine blk_alloc ?_ _)); refine blk_put (cs := #[.int .i64 0, .slice none 0 0, .int .i64 0, .bool false]) ?_ 0 _ rfl; (with_reducible repeat (first | refine blk_drewN ?_ _ | refine blk_drew ?_ | refine blk_alloc ?_ _)); refine blk_far ?_ NB114_124.out _; (with_reducible repeat (first | refine blk_drewN ?_ _ | refine blk_drew ?_ | refine blk_alloc ?_ _)); refine blk_far ?_ NB114_124.out _; (with_reducible repeat (first | refine blk_drewN ?_ _ | refine blk_drew ?_ | refine blk_alloc ?_ _)); refine blk_far ?_ NB114_124.out _; (with_reducible repeat (first | refine blk_drewN ?_ _ | refine blk_drew ?_ | refine blk_alloc ?_ _)); refine blk_far ?_ NB114_124.out _; (with_reducible repeat (first | refine blk_drewN ?_ _ | refine blk_drew ?_ | refine blk_alloc ?_ _)); exact BK114.out) Try.underlying46 rfl (by kernel_rfl)) rfl ?_
          exact ⟨_, rfl, by (with_reducible repeat (first | apply Kd.R_alloc | apply Kd.R_drewN | apply Kd.R_drew)); exact Kd.R_mono (Kd.R_far (p := ⟨gb114, 3, none⟩) (Kd.R_far (p := ⟨gb114, 2, none⟩) (Kd.R_far (p := ⟨gb114, 1, none⟩) (Kd.R_far (p := ⟨gb114, 0, none⟩) (Kd.R_far (p := ⟨gb124, 3, none⟩) (Kd.R_far (p := ⟨gb124, 2, none⟩) (Kd.R_far (p := ⟨gb124, 1, none⟩) (Kd.R_far (p := ⟨gb124, 0, none⟩) (Kd.R_types (Kd.R_types HO123.out BK124.out (by decide)) BK114.out (by decide)) (fun _ hk => hk.1.2) (.int .i64 a1_0)) (fun _ hk => hk.1.2) (.slice Ao17 y121.length co17)) (fun _ hk => hk.1.2) (.int .i64 st)) (fun _ hk => hk.1.2) (.bool false)) (fun _ hk => hk.2) (.int .i64 a1_0)) (fun _ hk => hk.2) (.slice Ao17 y121.length co17)) (fun _ hk => hk.2) (.int .i64 st)) (fun _ hk => hk.2) (.bool false)) (fun _ hk => trivial), by repeat (first | (with_reducible first | exact HB.out | apply below_alloc | apply pw_below_drewN | apply below_drew1 | refine below_set ?_ GE113.out | refine below_set ?_ GE114.out | refine below_set ?_ GE124.out) | exact HB.out)⟩
    · have u1 : decide (a1_0 < wrap64 (a0 - 1)) = false := decide_eq_false c1
      have C1 := Aside0.mk c1
      clear c1
      by_cases c2 : st = 0
      · have u2 : (st == 0) = true := by rw [c2]; rfl
        have C2 := Aside0.mk c2
        clear c2
        have B119 : (World.setCell (World.setCell (World.setCell (World.setCell (World.setCell w16 ⟨gb124, 0, none⟩ (.int .i64 a1_0)) ⟨gb124, 1, none⟩ (.slice Ao17 y121.length co17)) ⟨gb124, 2, none⟩ (.int .i64 st)) ⟨gb124, 3, none⟩ (.bool false)) ⟨gb124, 2, none⟩ (.int .i64 10)).heap[gb124]? = some (.cells #[.int .i64 a1_0, .slice Ao17 y121.length co17, .int .i64 10, .bool false] 46 (0, 0)) := by (with_reducible repeat (first | refine blk_drewN ?_ _ | refine blk_drew ?_ | refine blk_alloc ?_ _)); refine blk_put (cs := #[.int .i64 a1_0, .slice Ao17 y121.length co17, .int .i64 st, .bool false]) ?_ 2 _ rfl; (with_reducible repeat (first | refine blk_drewN ?_ _ | refine blk_drew ?_ | refine blk_alloc ?_ _)); refine blk_put (cs := #[.int .i64 a1_0, .slice Ao17 y121.length co17, .int .i64 st, .bool false]) ?_ 3 _ rfl; (with_reducible repeat (first | refine blk_drewN ?_ _ | refine blk_drew ?_ | refine blk_alloc ?_ _)); refine blk_put (cs := #[.int .i64 a1_0, .slice Ao17 y121.length co17, .int .i64 0, .bool false]) ?_ 2 _ rfl; (with_reducible repeat (first | refine blk_drewN ?_ _ | refine blk_drew ?_ | refine blk_alloc ?_ _)); refine blk_put (cs := #[.int .i64 a1_0, .slice none 0 0, .int .i64 0, .bool false]) ?_ 1 _ rfl; (with_reducible repeat (first | refine blk_drewN ?_ _ | refine blk_drew ?_ | refine blk_alloc ?_ _)); refine blk_put (cs := #[.int .i64 0, .slice none 0 0, .int .i64 0, .bool false]) ?_ 0 _ rfl; (with_reducible repeat (first | refine blk_drewN ?_ _ | refine blk_drew ?_ | refine blk_alloc ?_ _)); exact BK124.out
        have B109 : (World.setCell (World.setCell (World.setCell (World.setCell (World.setCell w16 ⟨gb124, 0, none⟩ (.int .i64 a1_0)) ⟨gb124, 1, none⟩ (.slice Ao17 y121.length co17)) ⟨gb124, 2, none⟩ (.int .i64 st)) ⟨gb124, 3, none⟩ (.bool false)) ⟨gb124, 2, none⟩ (.int .i64 10)).heap[gb114]? = some (.cells #[.int .i64 0, .slice none 0 0, .int .i64 0, .bool false] 46 (0, 0)) := by (with_reducible repeat (first | refine blk_drewN ?_ _ | refine blk_drew ?_ | refine blk_alloc ?_ _)); refine blk_far ?_ NB114_124.out _; (with_reducible repeat (first | refine blk_drewN ?_ _ | refine blk_drew ?_ | refine blk_alloc ?_ _)); refine blk_far ?_ NB114_124.out _; (with_reducible repeat (first | refine blk_drewN ?_ _ | refine blk_drew ?_ | refine blk_alloc ?_ _)); refine blk_far ?_ NB114_124.out _; (with_reducible repeat (first | refine blk_drewN ?_ _ | refine blk_drew ?_ | refine blk_alloc ?_ _)); refine blk_far ?_ NB114_124.out _; (with_reducible repeat (first | refine blk_drewN ?_ _ | refine blk_drew ?_ | refine blk_alloc ?_ _)); refine blk_far ?_ NB114_124.out _; (with_reducible repeat (first | refine blk_drewN ?_ _ | refine blk_drew ?_ | refine blk_alloc ?_ _)); exact BK114.out
        have HO9 : Kd.R (Kd.int .i64) 3 (World.setCell (World.setCell (World.setCell (World.setCell (World.setCell w16 ⟨gb124, 0, none⟩ (.int .i64 a1_0)) ⟨gb124, 1, none⟩ (.slice Ao17 y121.length co17)) ⟨gb124, 2, none⟩ (.int .i64 st)) ⟨gb124, 3, none⟩ (.bool false)) ⟨gb124, 2, none⟩ (.int .i64 10)) w.heap.size (fun k_ => k_ ≠ gb124 ∧ k_ ≠ gb114) (.slice Ao17 y121.length co17) y121 := Kd.R_mono (Kd.R_far (p := ⟨gb124, 2, none⟩) (Kd.R_far (p := ⟨gb124, 3, none⟩) (Kd.R_far (p := ⟨gb124, 2, none⟩) (Kd.R_far (p := ⟨gb124, 1, none⟩) (Kd.R_far (p := ⟨gb124, 0, none⟩) (Kd.R_types (Kd.R_types HO123.out BK124.out (by decide)) BK114.out (by decide)) (fun _ hk => hk.1.2) (.int .i64 a1_0)) (fun _ hk => hk.1.2) (.slice Ao17 y121.length co17)) (fun _ hk => hk.1.2) (.int .i64 st)) (fun _ hk => hk.1.2) (.bool false)) (fun _ hk => hk.1.2) (.int .i64 10)) (fun _ hk => ⟨hk.1.2, hk.2⟩)
        have HB9 : Below w.heap.size w (World.setCell (World.setCell (World.setCell (World.setCell (World.setCell w16 ⟨gb124, 0, none⟩ (.int .i64 a1_0)) ⟨gb124, 1, none⟩ (.slice Ao17 y121.length co17)) ⟨gb124, 2, none⟩ (.int .i64 st)) ⟨gb124, 3, none⟩ (.bool false)) ⟨gb124, 2, none⟩ (.int .i64 10)) := by repeat (first | exact HB.out | refine below_set ?_ GE124.out)
        replace B119 := Aside0.mk (blk_drew B119)
        replace B109 := Aside0.mk (blk_drew B109)
        replace HO9 := Aside0.mk (Kd.R_drew HO9)
        replace HB9 := Aside0.mk (below_drew1 HB9)
        by_cases c3 : y121.length = 3
        · have u3 : ((y121.length : Int) == 3) = true := by rw [c3]; rfl
          have C3 := Aside0.mk c3
          clear c3
          have HQ := HRV.out
          unfold rollV at HQ
          rw [if_neg C1.out, if_pos C2.out, if_pos C3.out] at HQ
          simp only [Prod.mk.injEq] at HQ
          obtain ⟨rfl, rfl, rfl, rfl⟩ := HQ
          go_wp2
          refine wp_region_still_tail 26 (by kernel_rfl) (by kernel_rfl) ?_
          simp only [List.take_succ_cons, List.take_zero, List.drop_succ_cons, List.drop_zero]
          change wpStill _ _ (World.drew (World.setCell (World.setCell (World.setCell (World.setCell (World.setCell w16 ⟨gb124, 0, none⟩ (.int .i64 a1_0)) ⟨gb124, 1, none⟩ (.slice Ao17 y121.length co17)) ⟨gb124, 2, none⟩ (.int .i64 st)) ⟨gb124, 3, none⟩ (.bool false)) ⟨gb124, 2, none⟩ (.int .i64 10))) (fun a' => wpList _ _ _ _ a' (World.drew (World.setCell (World.setCell (World.setCell (World.setCell (World.setCell w16 ⟨gb124, 0, none⟩ (.int .i64 a1_0)) ⟨gb124, 1, none⟩ (.slice Ao17 y121.length co17)) ⟨gb124, 2, none⟩ (.int .i64 st)) ⟨gb124, 3, none⟩ (.bool false)) ⟨gb124, 2, none⟩ (.int .i64 10)))) _ _
          generalize World.drew (World.setCell (World.setCell (World.setCell (World.setCell (World.setCell w16 ⟨gb124, 0, none⟩ (.int .i64 a1_0)) ⟨gb124, 1, none⟩ (.slice Ao17 y121.length co17)) ⟨gb124, 2, none⟩ (.int .i64 st)) ⟨gb124, 3, none⟩ (.bool false)) ⟨gb124, 2, none⟩ (.int .i64 10)) = w9 at *
          have cz0 : w9.cell? ⟨gb124, 0, none⟩ = some (.int .i64 a1_0) := (blk_cell B119.out 0).trans rfl
          have cz1 : w9.cell? ⟨gb124, 1, none⟩ = some (.slice Ao17 y121.length co17) := (blk_cell B119.out 1).trans rfl
          have cz2 : w9.cell? ⟨gb124, 2, none⟩ = some (.int .i64 10) := (blk_cell B119.out 2).trans rfl
          have cz3 : w9.cell? ⟨gb124, 3, none⟩ = some (.bool false) := (blk_cell B119.out 3).trans rfl
          have fz3 := blk_frozen B119.out 3
          have dz0 : w9.cell? ⟨gb114, 0, none⟩ = some (.int .i64 0) := (blk_cell B109.out 0).trans rfl
          have gz0 := blk_frozen B109.out 0
          have dz1 : w9.cell? ⟨gb114, 1, none⟩ = some (.slice none 0 0) := (blk_cell B109.out 1).trans rfl
          have gz1 := blk_frozen B109.out 1
          have dz2 : w9.cell? ⟨gb114, 2, none⟩ = some (.int .i64 0) := (blk_cell B109.out 2).trans rfl
          have gz2 := blk_frozen B109.out 2
          have dz3 : w9.cell? ⟨gb114, 3, none⟩ = some (.bool false) := (blk_cell B109.out 3).trans rfl
          have gz3 := blk_frozen B109.out 3
          have nz1 := NB114_124.out
          have nz2 := NB124_114.out
          repeat ((with_reducible refine wpStill_step (fun K hK => ?_)); go_simp; (first | (with_reducible refine hK _ ?_) | (refine iteInduction (motive := fun X => X) (fun hc => absurd hc (by simp [undef])) (fun _ => ?_); (with_reducible refine hK _ ?_))); clear hK K)
          with_reducible refine wpStill_nil ?_
          go_wp2
          refine bodyPost_ret (results_cell_row rfl _ _ gb114 46 #[.int .i64 a1_0, .slice Ao17 y121.length co17, .int .i64 10, .bool (true)] (0, 0) _ rfl (by (with_reducible repeat (first | refine blk_drewN ?_ _ | refine blk_drew ?_ | refine blk_alloc ?_ _)); refine blk_put (cs := #[.int .i64 a1_0, .slice Ao17 y121.length co17, .int .i64 10, .bool false]) ?_ 3 _ rfl; (with_reducible repeat (first | refine blk_drewN ?_ _ | refine blk_drew ?_ | refine blk_alloc ?_ _)); refine blk_put (cs := #[.int .i64 a1_0, .slice Ao17 y121.length co17, .int .i64 0, .bool false]) ?_ 2 _ rfl; (with_reducible repeat (first | refine blk_drewN ?_ _ | refine blk_drew ?_ | refine blk_alloc ?_ _)); refine blk_put (cs := #[.int .i64 a1_0, .slice none 0 0, .int .i64 0, .bool false]) ?_ 1 _ rfl; (with_reducible repeat (first | refine blk_drewN ?_ _ | refine blk_drew ?_ | refine blk_alloc ?_ _)); refine blk_put (cs := #[.int .i64 0, .slice none 0 0, .int .i64 0, .bool false]) ?_ 0 _ rfl; (with_reducible repeat (first | refine blk_drewN ?_ _ | refine blk_drew ?_ | refine blk_alloc ?_ _)); refine blk_far ?_ NB114_124.out _; (with_reducible repeat (first | refine blk_drewN ?_ _ | refine blk_drew ?_ | refine blk_alloc ?_ _)); exact B109.out) Try.underlying46 rfl (by kernel_rfl)) rfl ?_
          exact ⟨_, rfl, by (with_reducible repeat (first | apply Kd.R_alloc | apply Kd.R_drewN | apply Kd.R_drew)); exact Kd.R_mono (Kd.R_far (p := ⟨gb114, 3, none⟩) (Kd.R_far (p := ⟨gb114, 2, none⟩) (Kd.R_far (p := ⟨gb114, 1, none⟩) (Kd.R_far (p := ⟨gb114, 0, none⟩) (Kd.R_far (p := ⟨gb124, 3, none⟩) HO9.out (fun _ hk => hk.1) (.bool (true))) (fun _ hk => hk.2) (.int .i64 a1_0)) (fun _ hk => hk.2) (.slice Ao17 y121.length co17)) (fun _ hk => hk.2) (.int .i64 10)) (fun _ hk => hk.2) (.bool (true))) (fun _ hk => trivial), by repeat (first | (with_reducible first | exact HB9.out | apply below_alloc | apply pw_below_drewN | apply below_drew1 | refine below_set ?_ GE113.out | refine below_set ?_ GE114.out | refine below_set ?_ GE124.out) | exact HB9.out)⟩
        · have u3 : ((y121.length : Int) == 3) = false := by simpa using (show ¬ (y121.length : Int) = 3 by omega)
          have C3 := Aside0.mk c3
          clear c3
          by_cases c4 : y121.length = 2
          · have u4 : ((y121.length : Int) == 2) = true := by rw [c4]; rfl
            have u5 : decide ((0 : Int) < (y121.length : Int)) = true := decide_eq_true (by omega)
            have u6 : decide ((1 : Int) < (y121.length : Int)) = true := decide_eq_true (by omega)
            have u7 : decide (0 < y121.length) = true := decide_eq_true (by omega)
            have u8 : decide (1 < y121.length) = true := decide_eq_true (by omega)
            obtain ⟨_, _, HC⟩ := Kd.R_reads' HO9.out
            obtain ⟨ad, eA, k0⟩ := Kd.at_int HC 0 (by decide) (by omega)
            obtain ⟨ad', eA', k1⟩ := Kd.at_int HC 1 (by decide) (by omega)
            have v0 : 0 < y121.length := by omega
            have v1 : 1 < y121.length := by omega
            have v2 : (1 : Int) < (y121.length : Int) := by omega
            rw [show (0 : Int).toNat = 0 from rfl, show ad.add 0 = ad from by simp [Addr.add]] at k0
            rw [show (1 : Int).toNat = 1 from rfl, show ad'.add 1 = ⟨ad'.block, ad'.off + 1, none⟩ from by simp [Addr.add]] at k1
            clear HC
            rw [eA] at eA'
            obtain rfl := Option.some.inj eA'
            subst eA
            have C4 := Aside0.mk c4
            clear c4
            by_cases c5 : rd y121 0 < 10
            · have u9 : decide (rd y121 0 < 10) = true := decide_eq_true c5
              have C5 := Aside0.mk c5
              clear c5
              have HQ := HRV.out
              unfold rollV at HQ
              rw [if_neg C1.out, if_pos C2.out, if_neg C3.out, if_pos C4.out, if_pos C5.out] at HQ
              simp only [Prod.mk.injEq] at HQ
              obtain ⟨rfl, rfl, rfl, rfl⟩ := HQ
              go_wp2
              refine wp_region_still_tail 26 (by kernel_rfl) (by kernel_rfl) ?_
              simp only [List.take_succ_cons, List.take_zero, List.drop_succ_cons, List.drop_zero]
              change wpStill _ _ (World.drew (World.setCell (World.setCell (World.setCell (World.setCell (World.setCell w16 ⟨gb124, 0, none⟩ (.int .i64 a1_0)) ⟨gb124, 1, none⟩ (.slice (some ad) y121.length co17)) ⟨gb124, 2, none⟩ (.int .i64 st)) ⟨gb124, 3, none⟩ (.bool false)) ⟨gb124, 2, none⟩ (.int .i64 10))) (fun a' => wpList _ _ _ _ a' (World.drew (World.setCell (World.setCell (World.setCell (World.setCell (World.setCell w16 ⟨gb124, 0, none⟩ (.int .i64 a1_0)) ⟨gb124, 1, none⟩ (.slice (some ad) y121.length co17)) ⟨gb124, 2, none⟩ (.int .i64 st)) ⟨gb124, 3, none⟩ (.bool false)) ⟨gb124, 2, none⟩ (.int .i64 10)))) _ _
              generalize World.drew (World.setCell (World.setCell (World.setCell (World.setCell (World.setCell w16 ⟨gb124, 0, none⟩ (.int .i64 a1_0)) ⟨gb124, 1, none⟩ (.slice (some ad) y121.length co17)) ⟨gb124, 2, none⟩ (.int .i64 st)) ⟨gb124, 3, none⟩ (.bool false)) ⟨gb124, 2, none⟩ (.int .i64 10)) = w9 at *
              have cz0 : w9.cell? ⟨gb124, 0, none⟩ = some (.int .i64 a1_0) := (blk_cell B119.out 0).trans rfl
              have cz1 : w9.cell? ⟨gb124, 1, none⟩ = some (.slice (some ad) y121.length co17) := (blk_cell B119.out 1).trans rfl
              have cz2 : w9.cell? ⟨gb124, 2, none⟩ = some (.int .i64 10) := (blk_cell B119.out 2).trans rfl
              have cz3 : w9.cell? ⟨gb124, 3, none⟩ = some (.bool false) := (blk_cell B119.out 3).trans rfl
              have fz3 := blk_frozen B119.out 3
              have dz0 : w9.cell? ⟨gb114, 0, none⟩ = some (.int .i64 0) := (blk_cell B109.out 0).trans rfl
              have gz0 := blk_frozen B109.out 0
              have dz1 : w9.cell? ⟨gb114, 1, none⟩ = some (.slice none 0 0) := (blk_cell B109.out 1).trans rfl
              have gz1 := blk_frozen B109.out 1
              have dz2 : w9.cell? ⟨gb114, 2, none⟩ = some (.int .i64 0) := (blk_cell B109.out 2).trans rfl
              have gz2 := blk_frozen B109.out 2
              have dz3 : w9.cell? ⟨gb114, 3, none⟩ = some (.bool false) := (blk_cell B109.out 3).trans rfl
              have gz3 := blk_frozen B109.out 3
              have nz1 := NB114_124.out
              have nz2 := NB124_114.out
              repeat ((with_reducible refine wpStill_step (fun K hK => ?_)); go_simp; (first | (with_reducible refine hK _ ?_) | (refine iteInduction (motive := fun X => X) (fun hc => absurd hc (by simp [undef])) (fun _ => ?_); (with_reducible refine hK _ ?_))); clear hK K)
              with_reducible refine wpStill_nil ?_
              go_wp2
              refine bodyPost_ret (results_cell_row rfl _ _ gb114 46 #[.int .i64 a1_0, .slice (some ad) y121.length co17, .int .i64 10, .bool (decide (wrap64 (rd y121 0 + rd y121 1) < 10))] (0, 0) _ rfl (by (with_reducible repeat (first | refine blk_drewN ?_ _ | refine blk_drew ?_ | refine blk_alloc ?_ _)); refine blk_put (cs := #[.int .i64 a1_0, .slice (some ad) y121.length co17, .int .i64 10, .bool false]) ?_ 3 _ rfl; (with_reducible repeat (first | refine blk_drewN ?_ _ | refine blk_drew ?_ | refine blk_alloc ?_ _)); refine blk_put (cs := #[.int .i64 a1_0, .slice (some ad) y121.length co17, .int .i64 0, .bool false]) ?_ 2 _ rfl; (with_reducible repeat (first | refine blk_drewN ?_ _ | refine blk_drew ?_ | refine blk_alloc ?_ _)); refine blk_put (cs := #[.int .i64 a1_0, .slice none 0 0, .int .i64 0, .bool false]) ?_ 1 _ rfl; (with_reducible repeat (first | refine blk_drewN ?_ _ | refine blk_drew ?_ | refine blk_alloc ?_ _)); refine blk_put (cs := #[.int .i64 0, .slice none 0 0, .int .i64 0, .bool false]) ?_ 0 _ rfl; (with_reducible repeat (first | refine blk_drewN ?_ _ | refine blk_drew ?_ | refine blk_alloc ?_ _)); refine blk_far ?_ NB114_124.out _; (with_reducible repeat (first | refine blk_drewN ?_ _ | refine blk_drew ?_ | refine blk_alloc ?_ _)); exact B109.out) Try.underlying46 rfl (by kernel_rfl)) rfl ?_
              exact ⟨_, rfl, by (with_reducible repeat (first | apply Kd.R_alloc | apply Kd.R_drewN | apply Kd.R_drew)); exact Kd.R_mono (Kd.R_far (p := ⟨gb114, 3, none⟩) (Kd.R_far (p := ⟨gb114, 2, none⟩) (Kd.R_far (p := ⟨gb114, 1, none⟩) (Kd.R_far (p := ⟨gb114, 0, none⟩) (Kd.R_far (p := ⟨gb124, 3, none⟩) HO9.out (fun _ hk => hk.1) (.bool (decide (wrap64 (rd y121 0 + rd y121 1) < 10)))) (fun _ hk => hk.2) (.int .i64 a1_0)) (fun _ hk => hk.2) (.slice (some ad) y121.length co17)) (fun _ hk => hk.2) (.int .i64 10)) (fun _ hk => hk.2) (.bool (decide (wrap64 (rd y121 0 + rd y121 1) < 10)))) (fun _ hk => trivial), by repeat (first | (with_reducible first | exact HB9.out | apply below_alloc | apply pw_below_drewN | apply below_drew1 | refine below_set ?_ GE113.out | refine below_set ?_ GE114.out | refine below_set ?_ GE124.out) | exact HB9.out)⟩
            · have u9 : decide (rd y121 0 < 10) = false := decide_eq_false c5
              have C5 := Aside0.mk c5
              clear c5
              have HQ := HRV.out
              unfold rollV at HQ
              rw [if_neg C1.out, if_pos C2.out, if_neg C3.out, if_pos C4.out, if_neg C5.out] at HQ
              simp only [Prod.mk.injEq] at HQ
              obtain ⟨rfl, rfl, rfl, rfl⟩ := HQ
              go_wp2
              refine wp_region_still_tail 26 (by kernel_rfl) (by kernel_rfl) ?_
              simp only [List.take_succ_cons, List.take_zero, List.drop_succ_cons, List.drop_zero]
              change wpStill _ _ (World.drew (World.setCell (World.setCell (World.setCell (World.setCell (World.setCell w16 ⟨gb124, 0, none⟩ (.int .i64 a1_0)) ⟨gb124, 1, none⟩ (.slice (some ad) y121.length co17)) ⟨gb124, 2, none⟩ (.int .i64 st)) ⟨gb124, 3, none⟩ (.bool false)) ⟨gb124, 2, none⟩ (.int .i64 10))) (fun a' => wpList _ _ _ _ a' (World.drew (World.setCell (World.setCell (World.setCell (World.setCell (World.setCell w16 ⟨gb124, 0, none⟩ (.int .i64 a1_0)) ⟨gb124, 1, none⟩ (.slice (some ad) y121.length co17)) ⟨gb124, 2, none⟩ (.int .i64 st)) ⟨gb124, 3, none⟩ (.bool false)) ⟨gb124, 2, none⟩ (.int .i64 10)))) _ _
              generalize World.drew (World.setCell (World.setCell (World.setCell (World.setCell (World.setCell w16 ⟨gb124, 0, none⟩ (.int .i64 a1_0)) ⟨gb124, 1, none⟩ (.slice (some ad) y121.length co17)) ⟨gb124, 2, none⟩ (.int .i64 st)) ⟨gb124, 3, none⟩ (.bool false)) ⟨gb124, 2, none⟩ (.int .i64 10)) = w9 at *
              have cz0 : w9.cell? ⟨gb124, 0, none⟩ = some (.int .i64 a1_0) := (blk_cell B119.out 0).trans rfl
              have cz1 : w9.cell? ⟨gb124, 1, none⟩ = some (.slice (some ad) y121.length co17) := (blk_cell B119.out 1).trans rfl
              have cz2 : w9.cell? ⟨gb124, 2, none⟩ = some (.int .i64 10) := (blk_cell B119.out 2).trans rfl
              have cz3 : w9.cell? ⟨gb124, 3, none⟩ = some (.bool false) := (blk_cell B119.out 3).trans rfl
              have fz3 := blk_frozen B119.out 3
              have dz0 : w9.cell? ⟨gb114, 0, none⟩ = some (.int .i64 0) := (blk_cell B109.out 0).trans rfl
              have gz0 := blk_frozen B109.out 0
              have dz1 : w9.cell? ⟨gb114, 1, none⟩ = some (.slice none 0 0) := (blk_cell B109.out 1).trans rfl
              have gz1 := blk_frozen B109.out 1
              have dz2 : w9.cell? ⟨gb114, 2, none⟩ = some (.int .i64 0) := (blk_cell B109.out 2).trans rfl
              have gz2 := blk_frozen B109.out 2
              have dz3 : w9.cell? ⟨gb114, 3, none⟩ = some (.bool false) := (blk_cell B109.out 3).trans rfl
              have gz3 := blk_frozen B109.out 3
              have nz1 := NB114_124.out
              have nz2 := NB124_114.out
              repeat ((with_reducible refine wpStill_step (fun K hK => ?_)); go_simp; (first | (with_reducible refine hK _ ?_) | (refine iteInduction (motive := fun X => X) (fun hc => absurd hc (by simp [undef])) (fun _ => ?_); (with_reducible refine hK _ ?_))); clear hK K)
              with_reducible refine wpStill_nil ?_
              go_wp2
              refine bodyPost_ret (results_cell_row rfl _ _ gb114 46 #[.int .i64 a1_0, .slice (some ad) y121.length co17, .int .i64 10, .bool (false)] (0, 0) _ rfl (by (with_reducible repeat (first | refine blk_drewN ?_ _ | refine blk_drew ?_ | refine blk_alloc ?_ _)); refine blk_put (cs := #[.int .i64 a1_0, .slice (some ad) y121.length co17, .int .i64 10, .bool false]) ?_ 3 _ rfl; (with_reducible repeat (first | refine blk_drewN ?_ _ | refine blk_drew ?_ | refine blk_alloc ?_ _)); refine blk_put (cs := #[.int .i64 a1_0, .slice (some ad) y121.length co17, .int .i64 0, .bool false]) ?_ 2 _ rfl; (with_reducible repeat (first | refine blk_drewN ?_ _ | refine blk_drew ?_ | refine blk_alloc ?_ _)); refine blk_put (cs := #[.int .i64 a1_0, .slice none 0 0, .int .i64 0, .bool false]) ?_ 1 _ rfl; (with_reducible repeat (first | refine blk_drewN ?_ _ | refine blk_drew ?_ | refine blk_alloc ?_ _)); refine blk_put (cs := #[.int .i64 0, .slice none 0 0, .int .i64 0, .bool false]) ?_ 0 _ rfl; (with_reducible repeat (first | refine blk_drewN ?_ _ | refine blk_drew ?_ | refine blk_alloc ?_ _)); refine blk_far ?_ NB114_124.out _; (with_reducible repeat (first | refine blk_drewN ?_ _ | refine blk_drew ?_ | refine blk_alloc ?_ _)); exact B109.out) Try.underlying46 rfl (by kernel_rfl)) rfl ?_
              exact ⟨_, rfl, by (with_reducible repeat (first | apply Kd.R_alloc | apply Kd.R_drewN | apply Kd.R_drew)); exact Kd.R_mono (Kd.R_far (p := ⟨gb114, 3, none⟩) (Kd.R_far (p := ⟨gb114, 2, none⟩) (Kd.R_far (p := ⟨gb114, 1, none⟩) (Kd.R_far (p := ⟨gb114, 0, none⟩) (Kd.R_far (p := ⟨gb124, 3, none⟩) HO9.out (fun _ hk => hk.1) (.bool (false))) (fun _ hk => hk.2) (.int .i64 a1_0)) (fun _ hk => hk.2) (.slice (some ad) y121.length co17)) (fun _ hk => hk.2) (.int .i64 10)) (fun _ hk => hk.2) (.bool (false))) (fun _ hk => trivial), by repeat (first | (with_reducible first | exact HB9.out | apply below_alloc | apply pw_below_drewN | apply below_drew1 | refine below_set ?_ GE113.out | refine below_set ?_ GE114.out | refine below_set ?_ GE124.out) | exact HB9.out)⟩
          · have u4 : ((y121.length : Int) == 2) = false := by simpa using (show ¬ (y121.length : Int) = 2 by omega)
            have C4 := Aside0.mk c4
            clear c4
            have HQ := HRV.out
            unfold rollV at HQ
            rw [if_neg C1.out, if_pos C2.out, if_neg C3.out, if_neg C4.out] at HQ
            simp only [Prod.mk.injEq] at HQ
            obtain ⟨rfl, rfl, rfl, rfl⟩ := HQ
            go_wp2
            refine wp_region_still_tail 26 (by kernel_rfl) (by kernel_rfl) ?_
            simp only [List.take_succ_cons, List.take_zero, List.drop_succ_cons, List.drop_zero]
            change wpStill _ _ (World.drew (World.setCell (World.setCell (World.setCell (World.setCell (World.setCell w16 ⟨gb124, 0, none⟩ (.int .i64 a1_0)) ⟨gb124, 1, none⟩ (.slice Ao17 y121.length co17)) ⟨gb124, 2, none⟩ (.int .i64 st)) ⟨gb124, 3, none⟩ (.bool false)) ⟨gb124, 2, none⟩ (.int .i64 10))) (fun a' => wpList _ _ _ _ a' (World.drew (World.setCell (World.setCell (World.setCell (World.setCell (World.setCell w16 ⟨gb124, 0, none⟩ (.int .i64 a1_0)) ⟨gb124, 1, none⟩ (.slice Ao17 y121.length co17)) ⟨gb124, 2, none⟩ (.int .i64 st)) ⟨gb124, 3, none⟩ (.bool false)) ⟨gb124, 2, none⟩ (.int .i64 10)))) _ _
            generalize World.drew (World.setCell (World.setCell (World.setCell (World.setCell (World.setCell w16 ⟨gb124, 0, none⟩ (.int .i64 a1_0)) ⟨gb124, 1, none⟩ (.slice Ao17 y121.length co17)) ⟨gb124, 2, none⟩ (.int .i64 st)) ⟨gb124, 3, none⟩ (.bool false)) ⟨gb124, 2, none⟩ (.int .i64 10)) = w9 at *
            have cz0 : w9.cell? ⟨gb124, 0, none⟩ = some (.int .i64 a1_0) := (blk_cell B119.out 0).trans rfl
            have cz1 : w9.cell? ⟨gb124, 1, none⟩ = some (.slice Ao17 y121.length co17) := (blk_cell B119.out 1).trans rfl
            have cz2 : w9.cell? ⟨gb124, 2, none⟩ = some (.int .i64 10) := (blk_cell B119.out 2).trans rfl
            have cz3 : w9.cell? ⟨gb124, 3, none⟩ = some (.bool false) := (blk_cell B119.out 3).trans rfl
            have fz3 := blk_frozen B119.out 3
            have dz0 : w9.cell? ⟨gb114, 0, none⟩ = some (.int .i64 0) := (blk_cell B109.out 0).trans rfl
            have gz0 := blk_frozen B109.out 0
            have dz1 : w9.cell? ⟨gb114, 1, none⟩ = some (.slice none 0 0) := (blk_cell B109.out 1).trans rfl
            have gz1 := blk_frozen B109.out 1
            have dz2 : w9.cell? ⟨gb114, 2, none⟩ = some (.int .i64 0) := (blk_cell B109.out 2).trans rfl
            have gz2 := blk_frozen B109.out 2
            have dz3 : w9.cell? ⟨gb114, 3, none⟩ = some (.bool false) := (blk_cell B109.out 3).trans rfl
            have gz3 := blk_frozen B109.out 3
            have nz1 := NB114_124.out
            have nz2 := NB124_114.out
            repeat ((with_reducible refine wpStill_step (fun K hK => ?_)); go_simp; (first | (with_reducible refine hK _ ?_) | (refine iteInduction (motive := fun X => X) (fun hc => absurd hc (by simp [undef])) (fun _ => ?_); (with_reducible refine hK _ ?_))); clear hK K)
            with_reducible refine wpStill_nil ?_
            go_wp2
            refine bodyPost_ret (results_cell_row rfl _ _ gb114 46 #[.int .i64 a1_0, .slice Ao17 y121.length co17, .int .i64 10, .bool (false)] (0, 0) _ rfl (by (with_reducible repeat (first | refine blk_drewN ?_ _ | refine blk_drew ?_ | refine blk_alloc ?_ _)); refine blk_put (cs := #[.int .i64 a1_0, .slice Ao17 y121.length co17, .int .i64 10, .bool false]) ?_ 3 _ rfl; (with_reducible repeat (first | refine blk_drewN ?_ _ | refine blk_drew ?_ | refine blk_alloc ?_ _)); refine blk_put (cs := #[.int .i64 a1_0, .slice Ao17 y121.length co17, .int .i64 0, .bool false]) ?_ 2 _ rfl; (with_reducible repeat (first | refine blk_drewN ?_ _ | refine blk_drew ?_ | refine blk_alloc ?_ _)); refine blk_put (cs := #[.int .i64 a1_0, .slice none 0 0, .int .i64 0, .bool false]) ?_ 1 _ rfl; (with_reducible repeat (first | refine blk_drewN ?_ _ | refine blk_drew ?_ | refine blk_alloc ?_ _)); refine blk_put (cs := #[.int .i64 0, .slice none 0 0, .int .i64 0, .bool false]) ?_ 0 _ rfl; (with_reducible repeat (first | refine blk_drewN ?_ _ | refine blk_drew ?_ | refine blk_alloc ?_ _)); refine blk_far ?_ NB114_124.out _; (with_reducible repeat (first | refine blk_drewN ?_ _ | refine blk_drew ?_ | refine blk_alloc ?_ _)); exact B109.out) Try.underlying46 rfl (by kernel_rfl)) rfl ?_
            exact ⟨_, rfl, by (with_reducible repeat (first | apply Kd.R_alloc | apply Kd.R_drewN | apply Kd.R_drew)); exact Kd.R_mono (Kd.R_far (p := ⟨gb114, 3, none⟩) (Kd.R_far (p := ⟨gb114, 2, none⟩) (Kd.R_far (p := ⟨gb114, 1, none⟩) (Kd.R_far (p := ⟨gb114, 0, none⟩) (Kd.R_far (p := ⟨gb124, 3, none⟩) HO9.out (fun _ hk => hk.1) (.bool (false))) (fun _ hk => hk.2) (.int .i64 a1_0)) (fun _ hk => hk.2) (.slice Ao17 y121.length co17)) (fun _ hk => hk.2) (.int .i64 10)) (fun _ hk => hk.2) (.bool (false))) (fun _ hk => trivial), by repeat (first | (with_reducible first | exact HB9.out | apply below_alloc | apply pw_below_drewN | apply below_drew1 | refine below_set ?_ GE113.out | refine below_set ?_ GE114.out | refine below_set ?_ GE124.out) | exact HB9.out)⟩
      · have u2 : (st == 0) = false := by simpa using c2
        have C2 := Aside0.mk c2
        clear c2
        have B119 : (World.setCell (World.setCell (World.setCell (World.setCell w16 ⟨gb124, 0, none⟩ (.int .i64 a1_0)) ⟨gb124, 1, none⟩ (.slice Ao17 y121.length co17)) ⟨gb124, 2, none⟩ (.int .i64 st)) ⟨gb124, 3, none⟩ (.bool false)).heap[gb124]? = some (.cells #[.int .i64 a1_0, .slice Ao17 y121.length co17, .int .i64 st, .bool false] 46 (0, 0)) := by (with_reducible repeat (first | refine blk_drewN ?_ _ | refine blk_drew ?_ | refine blk_alloc ?_ _)); refine blk_put (cs := #[.int .i64 a1_0, .slice Ao17 y121.length co17, .int .i64 st, .bool false]) ?_ 3 _ rfl; (with_reducible repeat (first | refine blk_drewN ?_ _ | refine blk_drew ?_ | refine blk_alloc ?_ _)); refine blk_put (cs := #[.int .i64 a1_0, .slice Ao17 y121.length co17, .int .i64 0, .bool false]) ?_ 2 _ rfl; (with_reducible repeat (first | refine blk_drewN ?_ _ | refine blk_drew ?_ | refine blk_alloc ?_ _)); refine blk_put (cs := #[.int .i64 a1_0, .slice none 0 0, .int .i64 0, .bool false]) ?_ 1 _ rfl; (with_reducible repeat (first | refine blk_drewN ?_ _ | refine blk_drew ?_ | refine blk_alloc ?_ _)); refine blk_put (cs := #[.int .i64 0, .slice none 0 0, .int .i64 0, .bool false]) ?_ 0 _ rfl; (with_reducible repeat (first | refine blk_drewN ?_ _ | refine blk_drew ?_ | refine blk_alloc ?_ _)); exact BK124.out
        have B109 : (World.setCell (World.setCell (World.setCell (World.setCell w16 ⟨gb124, 0, none⟩ (.int .i64 a1_0)) ⟨gb124, 1, none⟩ (.slice Ao17 y121.length co17)) ⟨gb124, 2, none⟩ (.int .i64 st)) ⟨gb124, 3, none⟩ (.bool false)).heap[gb114]? = some (.cells #[.int .i64 0, .slice none 0 0, .int .i64 0, .bool false] 46 (0, 0)) := by (with_reducible repeat (first | refine blk_drewN ?_ _ | refine blk_drew ?_ | refine blk_alloc ?_ _)); refine blk_far ?_ NB114_124.out _; (with_reducible repeat (first | refine blk_drewN ?_ _ | refine blk_drew ?_ | refine blk_alloc ?_ _)); refine blk_far ?_ NB114_124.out _; (with_reducible repeat (first | refine blk_drewN ?_ _ | refine blk_drew ?_ | refine blk_alloc ?_ _)); refine blk_far ?_ NB114_124.out _; (with_reducible repeat (first | refine blk_drewN ?_ _ | refine blk_drew ?_ | refine blk_alloc ?_ _)); refine blk_far ?_ NB114_124.out _; (with_reducible repeat (first | refine blk_drewN ?_ _ | refine blk_drew ?_ | refine blk_alloc ?_ _)); exact BK114.out
        have HO9 : Kd.R (Kd.int .i64) 3 (World.setCell (World.setCell (World.setCell (World.setCell w16 ⟨gb124, 0, none⟩ (.int .i64 a1_0)) ⟨gb124, 1, none⟩ (.slice Ao17 y121.length co17)) ⟨gb124, 2, none⟩ (.int .i64 st)) ⟨gb124, 3, none⟩ (.bool false)) w.heap.size (fun k_ => k_ ≠ gb124 ∧ k_ ≠ gb114) (.slice Ao17 y121.length co17) y121 := Kd.R_mono (Kd.R_far (p := ⟨gb124, 3, none⟩) (Kd.R_far (p := ⟨gb124, 2, none⟩) (Kd.R_far (p := ⟨gb124, 1, none⟩) (Kd.R_far (p := ⟨gb124, 0, none⟩) (Kd.R_types (Kd.R_types HO123.out BK124.out (by decide)) BK114.out (by decide)) (fun _ hk => hk.1.2) (.int .i64 a1_0)) (fun _ hk => hk.1.2) (.slice Ao17 y121.length co17)) (fun _ hk => hk.1.2) (.int .i64 st)) (fun _ hk => hk.1.2) (.bool false)) (fun _ hk => ⟨hk.1.2, hk.2⟩)
        have HB9 : Below w.heap.size w (World.setCell (World.setCell (World.setCell (World.setCell w16 ⟨gb124, 0, none⟩ (.int .i64 a1_0)) ⟨gb124, 1, none⟩ (.slice Ao17 y121.length co17)) ⟨gb124, 2, none⟩ (.int .i64 st)) ⟨gb124, 3, none⟩ (.bool false)) := by repeat (first | exact HB.out | refine below_set ?_ GE124.out)
        replace B119 := Aside0.mk (blk_drew B119)
        replace B109 := Aside0.mk (blk_drew B109)
        replace HO9 := Aside0.mk (Kd.R_drew HO9)
        replace HB9 := Aside0.mk (below_drew1 HB9)
        by_cases c3 : y121.length = 3
        · have u3 : ((y121.length : Int) == 3) = true := by rw [c3]; rfl
          have C3 := Aside0.mk c3
          clear c3
          have HQ := HRV.out
          unfold rollV at HQ
          rw [if_neg C1.out, if_neg C2.out, if_pos C3.out] at HQ
          simp only [Prod.mk.injEq] at HQ
          obtain ⟨rfl, rfl, rfl, rfl⟩ := HQ
          go_wp2
          refine wp_region_still_tail 26 (by kernel_rfl) (by kernel_rfl) ?_
          simp only [List.take_succ_cons, List.take_zero, List.drop_succ_cons, List.drop_zero]
          change wpStill _ _ (World.drew (World.setCell (World.setCell (World.setCell (World.setCell w16 ⟨gb124, 0, none⟩ (.int .i64 a1_0)) ⟨gb124, 1, none⟩ (.slice Ao17 y121.length co17)) ⟨gb124, 2, none⟩ (.int .i64 st)) ⟨gb124, 3, none⟩ (.bool false))) (fun a' => wpList _ _ _ _ a' (World.drew (World.setCell (World.setCell (World.setCell (World.setCell w16 ⟨gb124, 0, none⟩ (.int .i64 a1_0)) ⟨gb124, 1, none⟩ (.slice Ao17 y121.length co17)) ⟨gb124, 2, none⟩ (.int .i64 st)) ⟨gb124, 3, none⟩ (.bool false)))) _ _
          generalize World.drew (World.setCell (World.setCell (World.setCell (World.setCell w16 ⟨gb124, 0, none⟩ (.int .i64 a1_0)) ⟨gb124, 1, none⟩ (.slice Ao17 y121.length co17)) ⟨gb124, 2, none⟩ (.int .i64 st)) ⟨gb124, 3, none⟩ (.bool false)) = w9 at *
          have cz0 : w9.cell? ⟨gb124, 0, none⟩ = some (.int .i64 a1_0) := (blk_cell B119.out 0).trans rfl
          have cz1 : w9.cell? ⟨gb124, 1, none⟩ = some (.slice Ao17 y121.length co17) := (blk_cell B119.out 1).trans rfl
          have cz2 : w9.cell? ⟨gb124, 2, none⟩ = some (.int .i64 st) := (blk_cell B119.out 2).trans rfl
          have cz3 : w9.cell? ⟨gb124, 3, none⟩ = some (.bool false) := (blk_cell B119.out 3).trans rfl
          have fz3 := blk_frozen B119.out 3
          have dz0 : w9.cell? ⟨gb114, 0, none⟩ = some (.int .i64 0) := (blk_cell B109.out 0).trans rfl
          have gz0 := blk_frozen B109.out 0
          have dz1 : w9.cell? ⟨gb114, 1, none⟩ = some (.slice none 0 0) := (blk_cell B109.out 1).trans rfl
          have gz1 := blk_frozen B109.out 1
          have dz2 : w9.cell? ⟨gb114, 2, none⟩ = some (.int .i64 0) := (blk_cell B109.out 2).trans rfl
          have gz2 := blk_frozen B109.out 2
          have dz3 : w9.cell? ⟨gb114, 3, none⟩ = some (.bool false) := (blk_cell B109.out 3).trans rfl
          have gz3 := blk_frozen B109.out 3
          have nz1 := NB114_124.out
          have nz2 := NB124_114.out
          repeat ((with_reducible refine wpStill_step (fun K hK => ?_)); go_simp; (first | (with_reducible refine hK _ ?_) | (refine iteInduction (motive := fun X => X) (fun hc => absurd hc (by simp [undef])) (fun _ => ?_); (with_reducible refine hK _ ?_))); clear hK K)
          with_reducible refine wpStill_nil ?_
          go_wp2
          refine bodyPost_ret (results_cell_row rfl _ _ gb114 46 #[.int .i64 a1_0, .slice Ao17 y121.length co17, .int .i64 st, .bool (true)] (0, 0) _ rfl (by (with_reducible repeat (first | refine blk_drewN ?_ _ | refine blk_drew ?_ | refine blk_alloc ?_ _)); refine blk_put (cs := #[.int .i64 a1_0, .slice Ao17 y121.length co17, .int .i64 st, .bool false]) ?_ 3 _ rfl; (with_reducible repeat (first | refine blk_drewN ?_ _ | refine blk_drew ?_ | refine blk_alloc ?_ _)); refine blk_put (cs := #[.int .i64 a1_0, .slice Ao17 y121.length co17, .int .i64 0, .bool false]) ?_ 2 _ rfl; (with_reducible repeat (first | refine blk_drewN ?_ _ | refine blk_drew ?_ | refine blk_alloc ?_ _)); refine blk_put (cs := #[.int .i64 a1_0, .slice none 0 0, .int .i64 0, .bool false]) ?_ 1 _ rfl; (with_reducible repeat (first | refine blk_drewN ?_ _ | refine blk_drew ?_ | refine blk_alloc ?_ _)); refine blk_put (cs := #[.int .i64 0, .slice none 0 0, .int .i64 0, .bool false]) ?_ 0 _ rfl; (with_reducible repeat (first | refine blk_drewN ?_ _ | refine blk_drew ?_ | refine blk_alloc ?_ _)); refine blk_far ?_ NB114_124.out _; (with_reducible repeat (first | refine blk_drewN ?_ _ | refine blk_drew ?_ | refine blk_alloc ?_ _)); exact B109.out) Try.underlying46 rfl (by kernel_rfl)) rfl ?_
          exact ⟨_, rfl, by (with_reducible repeat (first | apply Kd.R_alloc | apply Kd.R_drewN | apply Kd.R_drew)); exact Kd.R_mono (Kd.R_far (p := ⟨gb114, 3, none⟩) (Kd.R_far (p := ⟨gb114, 2, none⟩) (Kd.R_far (p := ⟨gb114, 1, none⟩) (Kd.R_far (p := ⟨gb114, 0, none⟩) (Kd.R_far (p := ⟨gb124, 3, none⟩) HO9.out (fun _ hk => hk.1) (.bool (true))) (fun _ hk => hk.2) (.int .i64 a1_0)) (fun _ hk => hk.2) (.slice Ao17 y121.length co17)) (fun _ hk => hk.2) (.int .i64 st)) (fun _ hk => hk.2) (.bool (true))) (fun _ hk => trivial), by repeat (first | (with_reducible first | exact HB9.out | apply below_alloc | apply pw_below_drewN | apply below_drew1 | refine below_set ?_ GE113.out | refine below_set ?_ GE114.out | refine below_set ?_ GE124.out) | exact HB9.out)⟩
        · have u3 : ((y121.length : Int) == 3) = false := by simpa using (show ¬ (y121.length : Int) = 3 by omega)
          have C3 := Aside0.mk c3
          clear c3
          by_cases c4 : y121.length = 2
          · have u4 : ((y121.length : Int) == 2) = true := by rw [c4]; rfl
            have u5 : decide ((0 : Int) < (y121.length : Int)) = true := decide_eq_true (by omega)
            have u6 : decide ((1 : Int) < (y121.length : Int)) = true := decide_eq_true (by omega)
            have u7 : decide (0 < y121.length) = true := decide_eq_true (by omega)
            have u8 : decide (1 < y121.length) = true := decide_eq_true (by omega)
            obtain ⟨_, _, HC⟩ := Kd.R_reads' HO9.out
            obtain ⟨ad, eA, k0⟩ := Kd.at_int HC 0 (by decide) (by omega)
            obtain ⟨ad', eA', k1⟩ := Kd.at_int HC 1 (by decide) (by omega)
            have v0 : 0 < y121.length := by omega
            have v1 : 1 < y121.length := by omega
            have v2 : (1 : Int) < (y121.length : Int) := by omega
            rw [show (0 : Int).toNat = 0 from rfl, show ad.add 0 = ad from by simp [Addr.add]] at k0
            rw [show (1 : Int).toNat = 1 from rfl, show ad'.add 1 = ⟨ad'.block, ad'.off + 1, none⟩ from by simp [Addr.add]] at k1
            clear HC
            rw [eA] at eA'
            obtain rfl := Option.some.inj eA'
            subst eA
            have C4 := Aside0.mk c4
            clear c4
            by_cases c5 : rd y121 0 < 10
            · have u9 : decide (rd y121 0 < 10) = true := decide_eq_true c5
              have C5 := Aside0.mk c5
              clear c5
              have HQ := HRV.out
              unfold rollV at HQ
              rw [if_neg C1.out, if_neg C2.out, if_neg C3.out, if_pos C4.out, if_pos C5.out] at HQ
              simp only [Prod.mk.injEq] at HQ
              obtain ⟨rfl, rfl, rfl, rfl⟩ := HQ
              go_wp2
              refine wp_region_still_tail 26 (by kernel_rfl) (by kernel_rfl) ?_
              simp only [List.take_succ_cons, List.take_zero, List.drop_succ_cons, List.drop_zero]
              change wpStill _ _ (World.drew (World.setCell (World.setCell (World.setCell (World.setCell w16 ⟨gb124, 0, none⟩ (.int .i64 a1_0)) ⟨gb124, 1, none⟩ (.slice (some ad) y121.length co17)) ⟨gb124, 2, none⟩ (.int .i64 st)) ⟨gb124, 3, none⟩ (.bool false))) (fun a' => wpList _ _ _ _ a' (World.drew (World.setCell (World.setCell (World.setCell (World.setCell w16 ⟨gb124, 0, none⟩ (.int .i64 a1_0)) ⟨gb124, 1, none⟩ (.slice (some ad) y121.length co17)) ⟨gb124, 2, none⟩ (.int .i64 st)) ⟨gb124, 3, none⟩ (.bool false)))) _ _
              generalize World.drew (World.setCell (World.setCell (World.setCell (World.setCell w16 ⟨gb124, 0, none⟩ (.int .i64 a1_0)) ⟨gb124, 1, none⟩ (.slice (some ad) y121.length co17)) ⟨gb124, 2, none⟩ (.int .i64 st)) ⟨gb124, 3, none⟩ (.bool false)) = w9 at *
              have cz0 : w9.cell? ⟨gb124, 0, none⟩ = some (.int .i64 a1_0) := (blk_cell B119.out 0).trans rfl
              have cz1 : w9.cell? ⟨gb124, 1, none⟩ = some (.slice (some ad) y121.length co17) := (blk_cell B119.out 1).trans rfl
              have cz2 : w9.cell? ⟨gb124, 2, none⟩ = some (.int .i64 st) := (blk_cell B119.out 2).trans rfl
              have cz3 : w9.cell? ⟨gb124, 3, none⟩ = some (.bool false) := (blk_cell B119.out 3).trans rfl
              have fz3 := blk_frozen B119.out 3
              have dz0 : w9.cell? ⟨gb114, 0, none⟩ = some (.int .i64 0) := (blk_cell B109.out 0).trans rfl
              have gz0 := blk_frozen B109.out 0
              have dz1 : w9.cell? ⟨gb114, 1, none⟩ = some (.slice none 0 0) := (blk_cell B109.out 1).trans rfl
              have gz1 := blk_frozen B109.out 1
              have dz2 : w9.cell? ⟨gb114, 2, none⟩ = some (.int .i64 0) := (blk_cell B109.out 2).trans rfl
              have gz2 := blk_frozen B109.out 2
              have dz3 : w9.cell? ⟨gb114, 3, none⟩ = some (.bool false) := (blk_cell B109.out 3).trans rfl
              have gz3 := blk_frozen B109.out 3
              have nz1 := NB114_124.out
              have nz2 := NB124_114.out
              repeat ((with_reducible refine wpStill_step (fun K hK => ?_)); go_simp; (first | (with_reducible refine hK _ ?_) | (refine iteInduction (motive := fun X => X) (fun hc => absurd hc (by simp [undef])) (fun _ => ?_); (with_reducible refine hK _ ?_))); clear hK K)
              with_reducible refine wpStill_nil ?_
              go_wp2
              refine bodyPost_ret (results_cell_row rfl _ _ gb114 46 #[.int .i64 a1_0, .slice (some ad) y121.length co17, .int .i64 st, .bool (decide (wrap64 (rd y121 0 + rd y121 1) < 10))] (0, 0) _ rfl (by (with_reducible repeat (first | refine blk_drewN ?_ _ | refine blk_drew ?_ | refine blk_alloc ?_ _)); refine blk_put (cs := #[.int .i64 a1_0, .slice (some ad) y121.length co17, .int .i64 st, .bool false]) ?_ 3 _ rfl; (with_reducible repeat (first | refine blk_drewN ?_ _ | refine blk_drew ?_ | refine blk_alloc ?_ _)); refine blk_put (cs := #[.int .i64 a1_0, .slice (some ad) y121.length co17, .int .i64 0, .bool false]) ?_ 2 _ rfl; (with_reducible repeat (first | refine blk_drewN ?_ _ | refine blk_drew ?_ | refine blk_alloc ?_ _)); refine blk_put (cs := #[.int .i64 a1_0, .slice none 0 0, .int .i64 0, .bool false]) ?_ 1 _ rfl; (with_reducible repeat (first | refine blk_drewN ?_ _ | refine blk_drew ?_ | refine blk_alloc ?_ _)); refine blk_put (cs := #[.int .i64 0, .slice none 0 0, .int .i64 0, .bool false]) ?_ 0 _ rfl; (with_reducible repeat (first | refine blk_drewN ?_ _ | refine blk_drew ?_ | refine blk_alloc ?_ _)); refine blk_far ?_ NB114_124.out _; (with_reducible repeat (first | refine blk_drewN ?_ _ | refine blk_drew ?_ | refine blk_alloc ?_ _)); exact B109.out) Try.underlying46 rfl (by kernel_rfl)) rfl ?_
              exact ⟨_, rfl, by (with_reducible repeat (first | apply Kd.R_alloc | apply Kd.R_drewN | apply Kd.R_drew)); exact Kd.R_mono (Kd.R_far (p := ⟨gb114, 3, none⟩) (Kd.R_far (p := ⟨gb114, 2, none⟩) (Kd.R_far (p := ⟨gb114, 1, none⟩) (Kd.R_far (p := ⟨gb114, 0, none⟩) (Kd.R_far (p := ⟨gb124, 3, none⟩) HO9.out (fun _ hk => hk.1) (.bool (decide (wrap64 (rd y121 0 + rd y121 1) < 10)))) (fun _ hk => hk.2) (.int .i64 a1_0)) (fun _ hk => hk.2) (.slice (some ad) y121.length co17)) (fun _ hk => hk.2) (.int .i64 st)) (fun _ hk => hk.2) (.bool (decide (wrap64 (rd y121 0 + rd y121 1) < 10)))) (fun _ hk => trivial), by repeat (first | (with_reducible first | exact HB9.out | apply below_alloc | apply pw_below_drewN | apply below_drew1 | refine below_set ?_ GE113.out | refine below_set ?_ GE114.out | refine below_set ?_ GE124.out) | exact HB9.out)⟩
            · have u9 : decide (rd y121 0 < 10) = false := decide_eq_false c5
              have C5 := Aside0.mk c5
              clear c5
              have HQ := HRV.out
              unfold rollV at HQ
              rw [if_neg C1.out, if_neg C2.out, if_neg C3.out, if_pos C4.out, if_neg C5.out] at HQ
              simp only [Prod.mk.injEq] at HQ
              obtain ⟨rfl, rfl, rfl, rfl⟩ := HQ
              go_wp2
              refine wp_region_still_tail 26 (by kernel_rfl) (by kernel_rfl) ?_
              simp only [List.take_succ_cons, List.take_zero, List.drop_succ_cons, List.drop_zero]
              change wpStill _ _ (World.drew (World.setCell (World.setCell (World.setCell (World.setCell w16 ⟨gb124, 0, none⟩ (.int .i64 a1_0)) ⟨gb124, 1, none⟩ (.slice (some ad) y121.length co17)) ⟨gb124, 2, none⟩ (.int .i64 st)) ⟨gb124, 3, none⟩ (.bool false))) (fun a' => wpList _ _ _ _ a' (World.drew (World.setCell (World.setCell (World.setCell (World.setCell w16 ⟨gb124, 0, none⟩ (.int .i64 a1_0)) ⟨gb124, 1, none⟩ (.slice (some ad) y121.length co17)) ⟨gb124, 2, none⟩ (.int .i64 st)) ⟨gb124, 3, none⟩ (.bool false)))) _ _
              generalize World.drew (World.setCell (World.setCell (World.setCell (World.setCell w16 ⟨gb124, 0, none⟩ (.int .i64 a1_0)) ⟨gb124, 1, none⟩ (.slice (some ad) y121.length co17)) ⟨gb124, 2, none⟩ (.int .i64 st)) ⟨gb124, 3, none⟩ (.bool false)) = w9 at *
              have cz0 : w9.cell? ⟨gb124, 0, none⟩ = some (.int .i64 a1_0) := (blk_cell B119.out 0).trans rfl
              have cz1 : w9.cell? ⟨gb124, 1, none⟩ = some (.slice (some ad) y121.length co17) := (blk_cell B119.out 1).trans rfl
              have cz2 : w9.cell? ⟨gb124, 2, none⟩ = some (.int .i64 st) := (blk_cell B119.out 2).trans rfl
              have cz3 : w9.cell? ⟨gb124, 3, none⟩ = some (.bool false) := (blk_cell B119.out 3).trans rfl
              have fz3 := blk_frozen B119.out 3
              have dz0 : w9.cell? ⟨gb114, 0, none⟩ = some (.int .i64 0) := (blk_cell B109.out 0).trans rfl
              have gz0 := blk_frozen B109.out 0
              have dz1 : w9.cell? ⟨gb114, 1, none⟩ = some (.slice none 0 0) := (blk_cell B109.out 1).trans rfl
              have gz1 := blk_frozen B109.out 1
              have dz2 : w9.cell? ⟨gb114, 2, none⟩ = some (.int .i64 0) := (blk_cell B109.out 2).trans rfl
              have gz2 := blk_frozen B109.out 2
              have dz3 : w9.cell? ⟨gb114, 3, none⟩ = some (.bool false) := (blk_cell B109.out 3).trans rfl
              have gz3 := blk_frozen B109.out 3
              have nz1 := NB114_124.out
              have nz2 := NB124_114.out
              repeat ((with_reducible refine wpStill_step (fun K hK => ?_)); go_simp; (first | (with_reducible refine hK _ ?_) | (refine iteInduction (motive := fun X => X) (fun hc => absurd hc (by simp [undef])) (fun _ => ?_); (with_reducible refine hK _ ?_))); clear hK K)
              with_reducible refine wpStill_nil ?_
              go_wp2
              refine bodyPost_ret (results_cell_row rfl _ _ gb114 46 #[.int .i64 a1_0, .slice (some ad) y121.length co17, .int .i64 st, .bool (false)] (0, 0) _ rfl (by (with_reducible repeat (first | refine blk_drewN ?_ _ | refine blk_drew ?_ | refine blk_alloc ?_ _)); refine blk_put (cs := #[.int .i64 a1_0, .slice (some ad) y121.length co17, .int .i64 st, .bool false]) ?_ 3 _ rfl; (with_reducible repeat (first | refine blk_drewN ?_ _ | refine blk_drew ?_ | refine blk_alloc ?_ _)); refine blk_put (cs := #[.int .i64 a1_0, .slice (some ad) y121.length co17, .int .i64 0, .bool false]) ?_ 2 _ rfl; (with_reducible repeat (first | refine blk_drewN ?_ _ | refine blk_drew ?_ | refine blk_alloc ?_ _)); refine blk_put (cs := #[.int .i64 a1_0, .slice none 0 0, .int .i64 0, .bool false]) ?_ 1 _ rfl; (with_reducible repeat (first | refine blk_drewN ?_ _ | refine blk_drew ?_ | refine blk_alloc ?_ _)); refine blk_put (cs := #[.int .i64 0, .slice none 0 0, .int .i64 0, .bool false]) ?_ 0 _ rfl; (with_reducible repeat (first | refine blk_drewN ?_ _ | refine blk_drew ?_ | refine blk_alloc ?_ _)); refine blk_far ?_ NB114_124.out _; (with_reducible repeat (first | refine blk_drewN ?_ _ | refine blk_drew ?_ | refine blk_alloc ?_ _)); exact B109.out) Try.underlying46 rfl (by kernel_rfl)) rfl ?_
              exact ⟨_, rfl, by (with_reducible repeat (first | apply Kd.R_alloc | apply Kd.R_drewN | apply Kd.R_drew)); exact Kd.R_mono (Kd.R_far (p := ⟨gb114, 3, none⟩) (Kd.R_far (p := ⟨gb114, 2, none⟩) (Kd.R_far (p := ⟨gb114, 1, none⟩) (Kd.R_far (p := ⟨gb114, 0, none⟩) (Kd.R_far (p := ⟨gb124, 3, none⟩) HO9.out (fun _ hk => hk.1) (.bool (false))) (fun _ hk => hk.2) (.int .i64 a1_0)) (fun _ hk => hk.2) (.slice (some ad) y121.length co17)) (fun _ hk => hk.2) (.int .i64 st)) (fun _ hk => hk.2) (.bool (false))) (fun _ hk => trivial), by repeat (first | (with_reducible first | exact HB9.out | apply below_alloc | apply pw_below_drewN | apply below_drew1 | refine below_set ?_ GE113.out | refine below_set ?_ GE114.out | refine below_set ?_ GE124.out) | exact HB9.out)⟩
          · have u4 : ((y121.length : Int) == 2) = false := by simpa using (show ¬ (y121.length : Int) = 2 by omega)
            have C4 := Aside0.mk c4
            clear c4
            have HQ := HRV.out
            unfold rollV at HQ
            rw [if_neg C1.out, if_neg C2.out, if_neg C3.out, if_neg C4.out] at HQ
            simp only [Prod.mk.injEq] at HQ
            obtain ⟨rfl, rfl, rfl, rfl⟩ := HQ
            go_wp2
            refine wp_region_still_tail 26 (by kernel_rfl) (by kernel_rfl) ?_
            simp only [List.take_succ_cons, List.take_zero, List.drop_succ_cons, List.drop_zero]
            change wpStill _ _ (World.drew (World.setCell (World.setCell (World.setCell (World.setCell w16 ⟨gb124, 0, none⟩ (.int .i64 a1_0)) ⟨gb124, 1, none⟩ (.slice Ao17 y121.length co17)) ⟨gb124, 2, none⟩ (.int .i64 st)) ⟨gb124, 3, none⟩ (.bool false))) (fun a' => wpList _ _ _ _ a' (World.drew (World.setCell (World.setCell (World.setCell (World.setCell w16 ⟨gb124, 0, none⟩ (.int .i64 a1_0)) ⟨gb124, 1, none⟩ (.slice Ao17 y121.length co17)) ⟨gb124, 2, none⟩ (.int .i64 st)) ⟨gb124, 3, none⟩ (.bool false)))) _ _
            generalize World.drew (World.setCell (World.setCell (World.setCell (World.setCell w16 ⟨gb124, 0, none⟩ (.int .i64 a1_0)) ⟨gb124, 1, none⟩ (.slice Ao17 y121.length co17)) ⟨gb124, 2, none⟩ (.int .i64 st)) ⟨gb124, 3, none⟩ (.bool false)) = w9 at *
            have cz0 : w9.cell? ⟨gb124, 0, none⟩ = some (.int .i64 a1_0) := (blk_cell B119.out 0).trans rfl
            have cz1 : w9.cell? ⟨gb124, 1, none⟩ = some (.slice Ao17 y121.length co17) := (blk_cell B119.out 1).trans rfl
            have cz2 : w9.cell? ⟨gb124, 2, none⟩ = some (.int .i64 st) := (blk_cell B119.out 2).trans rfl
            have cz3 : w9.cell? ⟨gb124, 3, none⟩ = some (.bool false) := (blk_cell B119.out 3).trans rfl
            have fz3 := blk_frozen B119.out 3
            have dz0 : w9.cell? ⟨gb114, 0, none⟩ = some (.int .i64 0) := (blk_cell B109.out 0).trans rfl
            have gz0 := blk_frozen B109.out 0
            have dz1 : w9.cell? ⟨gb114, 1, none⟩ = some (.slice none 0 0) := (blk_cell B109.out 1).trans rfl
            have gz1 := blk_frozen B109.out 1
            have dz2 : w9.cell? ⟨gb114, 2, none⟩ = some (.int .i64 0) := (blk_cell B109.out 2).trans rfl
            have gz2 := blk_frozen B109.out 2
            have dz3 : w9.cell? ⟨gb114, 3, none⟩ = some (.bool false) := (blk_cell B109.out 3).trans rfl
            have gz3 := blk_frozen B109.out 3
            have nz1 := NB114_124.out
            have nz2 := NB124_114.out
            repeat ((with_reducible refine wpStill_step (fun K hK => ?_)); go_simp; (first | (with_reducible refine hK _ ?_) | (refine iteInduction (motive := fun X => X) (fun hc => absurd hc (by simp [undef])) (fun _ => ?_); (with_reducible refine hK _ ?_))); clear hK K)
            with_reducible refine wpStill_nil ?_
            go_wp2
            refine bodyPost_ret (results_cell_row rfl _ _ gb114 46 #[.int .i64 a1_0, .slice Ao17 y121.length co17, .int .i64 st, .bool (false)] (0, 0) _ rfl (by (with_reducible repeat (first | refine blk_drewN ?_ _ | refine blk_drew ?_ | refine blk_alloc ?_ _)); refine blk_put (cs := #[.int .i64 a1_0, .slice Ao17 y121.length co17, .int .i64 st, .bool false]) ?_ 3 _ rfl; (with_reducible repeat (first | refine blk_drewN ?_ _ | refine blk_drew ?_ | refine blk_alloc ?_ _)); refine blk_put (cs := #[.int .i64 a1_0, .slice Ao17 y121.length co17, .int .i64 0, .bool false]) ?_ 2 _ rfl; (with_reducible repeat (first | refine blk_drewN ?_ _ | refine blk_drew ?_ | refine blk_alloc ?_ _)); refine blk_put (cs := #[.int .i64 a1_0, .slice none 0 0, .int .i64 0, .bool false]) ?_ 1 _ rfl; (with_reducible repeat (first | refine blk_drewN ?_ _ | refine blk_drew ?_ | refine blk_alloc ?_ _)); refine blk_put (cs := #[.int .i64 0, .slice none 0 0, .int .i64 0, .bool false]) ?_ 0 _ rfl; (with_reducible repeat (first | refine blk_drewN ?_ _ | refine blk_drew ?_ | refine blk_alloc ?_ _)); refine blk_far ?_ NB114_124.out _; (with_reducible repeat (first | refine blk_drewN ?_ _ | refine blk_drew ?_ | refine blk_alloc ?_ _)); exact B109.out) Try.underlying46 rfl (by kernel_rfl)) rfl ?_
            exact ⟨_, rfl, by (with_reducible repeat (first | apply Kd.R_alloc | apply Kd.R_drewN | apply Kd.R_drew)); exact Kd.R_mono (Kd.R_far (p := ⟨gb114, 3, none⟩) (Kd.R_far (p := ⟨gb114, 2, none⟩) (Kd.R_far (p := ⟨gb114, 1, none⟩) (Kd.R_far (p := ⟨gb114, 0, none⟩) (Kd.R_far (p := ⟨gb124, 3, none⟩) HO9.out (fun _ hk => hk.1) (.bool (false))) (fun _ hk => hk.2) (.int .i64 a1_0)) (fun _ hk => hk.2) (.slice Ao17 y121.length co17)) (fun _ hk => hk.2) (.int .i64 st)) (fun _ hk => hk.2) (.bool (false))) (fun _ hk => trivial), by repeat (first | (with_reducible first | exact HB9.out | apply below_alloc | apply pw_below_drewN | apply below_drew1 | refine below_set ?_ GE113.out | refine below_set ?_ GE114.out | refine below_set ?_ GE124.out) | exact HB9.out)⟩
  · rw [if_neg c5] at H
    exact absurd H (by simp)
open Go.Proofs.Ytdioconinnpmmaa.Pin in
theorem spec_boRoll.over (l : List Int) (h : ∀ x ∈ l, 0 ≤ x ∧ x ≤ 10) : (if l.length = 3 then true else if l.length = 2 then (if rd l 0 < 10 then decide (wrap64 (rd l 0 + rd l 1) < 10) else false) else false) = overP l := by
  unfold overP
  by_cases h3 : l.length = 3
  · rw [if_pos h3, if_pos h3]
  · rw [if_neg h3, if_neg h3]
    by_cases h2 : l.length = 2
    · rw [if_pos h2, if_pos h2]
      have e0 : rd l 0 = l.getD 0 0 := rfl
      have e1 : rd l 1 = l.getD 1 0 := rfl
      match l, h2 with
      | [a, b], _ =>
        have ha := h a (by simp)
        have hb := h b (by simp)
        have w : wrap64 (a + b) = a + b := by unfold wrap64; omega
        show (if a < 10 then decide (wrap64 (a + b) < 10) else false) = decide (a < 10 ∧ a + b < 10)
        rw [w]
        by_cases h1 : a < 10
        · rw [if_pos h1]; simp [h1]
        · rw [if_neg h1]; simp [h1]
    · rw [if_neg h2, if_neg h2]
open Go.Proofs.Ytdioconinnpmmaa.Pin in
theorem spec_boRoll.val (F : Int) (s : BoS) (p : Int) (hF : 1 ≤ F ∧ F ≤ 10) (hf : 0 ≤ s.fr ∧ s.fr < F) (hl : s.bs.length ≤ 2) (hb : ∀ b ∈ s.bs, 0 ≤ b ∧ b ≤ 10) (hs : 0 ≤ s.st ∧ s.st ≤ 10) (hp : 0 ≤ p ∧ p ≤ 10) :
    spec_boRoll.f F s.fr s.bs s.st s.ov p = some ((rollP F s p).fr, (rollP F s p).bs, (rollP F s p).st, (rollP F s p).ov) := by
  have w1 : wrap64 (F - 1) = F - 1 := by unfold wrap64; omega
  have w2 : wrap64 (s.st - p) = s.st - p := by unfold wrap64; omega
  have w3 : wrap64 (s.fr + 1) = s.fr + 1 := by unfold wrap64; omega
  have hlen : (s.bs ++ [p]).length = s.bs.length + 1 := by simp
  unfold spec_boRoll.f
  rw [spec_l1Own.val _ (by omega)]
  simp only [Option.bind_some]
  rw [if_pos (by simp only [List.length_cons, List.length_nil]; omega)]
  unfold rollV rollP
  rw [w1, w2, w3, hlen]
  by_cases h1 : s.fr < F - 1
  · rw [if_pos h1, if_pos h1]
    by_cases h2 : s.st - p = 0
    · rw [if_pos h2, if_pos h2]
    · rw [if_neg h2, if_neg h2]
      by_cases h3 : s.bs.length + 1 = 2
      · rw [if_pos h3, if_pos h3]
      · rw [if_neg h3, if_neg h3]
  · rw [if_neg h1, if_neg h1]
    have ho := spec_boRoll.over (s.bs ++ [p]) (fun x hx => by
      rcases List.mem_append.1 hx with hx | hx
      · exact hb x hx
      · rw [List.mem_singleton] at hx
        omega)
    rw [hlen] at ho
    rw [ho]
open Go.Proofs.Ytdioconinnpmmaa.Pin in
theorem spec_boRoll.rollC : RollC := fun F s p A c w1 hF hf hl hb hs hp hC hc => by
  refine (spec_boRoll.calls F s.fr A c s.bs s.st s.ov p _ _ _ _ w1 hC hc (spec_boRoll.val F s p hF hf hl hb hs hp)).mono ?_
  rintro e w' ⟨v, rfl, hr, hb2⟩
  obtain ⟨A2, c2, rfl⟩ := Kd.R_slice hr
  exact ⟨A2, c2, rfl, hr, hb2⟩

end Go.Proofs.Ytdioconinnpmmaa.MFnExactFirstGameOf
