-- Written for this claim by this session's own program out of the translation.
import Derived.Test.YtdioconinnpmmaaMFnExactBestRollx0
import Derived.Test.YtdioconinnpmmaaMFnExactBestRollx1
import Derived.Test.YtdioconinnpmmaaMFnExactBestRollx2
import Derived.Test.YtdioconinnpmmaaMFnExactBestRollx3
namespace Go.Proofs.Ytdioconinnpmmaa.MFnExactBestRoll
open Go.RowKit Go.Proofs.YtdioconinnpmmaaW.PrintWords Go.Proofs.YtdioconinnpmmaaW.PrintLast Go.Proofs.YtdioconinnpmmaaW.PrintMore
attribute [local go_sem] max2_int min2_int max_two min_two max_three min_three max_four min_four   -- for this text's walks alone
set_option linter.unusedVariables false
set_option linter.unusedSimpArgs false

/-! ### spec_boSplit: function 54 -/
def spec_boSplit.l0 : Nat → Int → List (List Int) → List Int → Int → Int → Int → List Int → Int → Bool → Option ((List (List Int)))
  | 0, _, _, _, _, _, _, _, _, _ => none
  | k + 1, x0, x5, x10, x11, x12, x153000, x153001, x153002, x153003 => if x12 < x11 then (if 0 ≤ x12 then (if x12 < (x10.length : Int) then (if (x153001.length : Int) = 0 then (if x5.length < 5864062014805 then ((some (x5 ++ [[]] : List (List Int))).bind fun y154 => (if 0 ≤ x153000 then (if x153000 < (y154.length : Int) then (if (rd_L1 y154 x153000).length < 17592186044416 then ((spec_boRoll.f x0 x153000 x153001 x153002 x153003 (rd x10 x12)).bind fun bt162 => (spec_boSplit.l0 k x0 (y154.set (x153000 : Int).toNat ((rd_L1 y154 x153000) ++ [rd x10 x12])) x10 x11 (wrap64 (x12 + 1)) bt162.1 bt162.2.1 bt162.2.2.1 bt162.2.2.2)) else (none)) else (none)) else (none))) else (none)) else (if 0 ≤ x153000 then (if x153000 < (x5.length : Int) then (if (rd_L1 x5 x153000).length < 17592186044416 then ((spec_boRoll.f x0 x153000 x153001 x153002 x153003 (rd x10 x12)).bind fun bt173 => (spec_boSplit.l0 k x0 (x5.set (x153000 : Int).toNat ((rd_L1 x5 x153000) ++ [rd x10 x12])) x10 x11 (wrap64 (x12 + 1)) bt173.1 bt173.2.1 bt173.2.2.1 bt173.2.2.2)) else (none)) else (none)) else (none))) else (none)) else (none)) else (some x5)
def spec_boSplit.f (k : Nat) (a0 : Int) (l1 : List Int) : Option ((List (List Int))) := (spec_boStart.f).bind fun bt146 => (spec_boSplit.l0 k a0 ([] : List (List Int)) l1 (l1.length : Int) 0 bt146.1 bt146.2.1 bt146.2.2.1 bt146.2.2.2)
theorem spec_boSplit.mono_l : ∀ k, (∀ y0 y1 y2 y3 y4 y5 y6 y7 y8, LeO (spec_boSplit.l0 k y0 y1 y2 y3 y4 y5 y6 y7 y8) (spec_boSplit.l0 (k + 1) y0 y1 y2 y3 y4 y5 y6 y7 y8))
  | 0 => fun _ _ _ _ _ _ _ _ _ r h => by simp [spec_boSplit.l0] at h
  | k + 1 => by
    have ih0 := spec_boSplit.mono_l k
    · intro y0 y1 y2 y3 y4 y5 y6 y7 y8
      unfold spec_boSplit.l0
      repeat' first
      | (with_reducible exact ih0 _ _ _ _ _ _ _ _ _)
      | (with_reducible exact LeO.refl _)
      | (with_reducible exact LeO.none _)
      | (with_reducible refine LeO.ite ?_ ?_)
      | (with_reducible refine LeO.bind ?_ (fun _ => ?_))
      | exact ih0 _ _ _ _ _ _ _ _ _
      | exact LeO.none _
      | refine LeO.ite ?_ ?_
      | refine LeO.bind ?_ (fun _ => ?_)
theorem spec_boSplit.mono : ∀ a0 a1 k, LeO (spec_boSplit.f k a0 a1) (spec_boSplit.f (k + 1) a0 a1) := by
  intro a0 a1 k
  have ih0 := spec_boSplit.mono_l k
  unfold spec_boSplit.f
  repeat' first
      | (with_reducible exact ih0 _ _ _ _ _ _ _ _ _)
      | (with_reducible exact LeO.refl _)
      | (with_reducible exact LeO.none _)
      | (with_reducible refine LeO.ite ?_ ?_)
      | (with_reducible refine LeO.bind ?_ (fun _ => ?_))
      | exact ih0 _ _ _ _ _ _ _ _ _
      | exact LeO.none _
      | refine LeO.ite ?_ ?_
      | refine LeO.bind ?_ (fun _ => ?_)
def spec_boSplit.T8 : Bool × List (List Nat × List Nat) := (true, [([], []), ([], []), ([1], [1]), ([], []), ([], []), ([4], [4]), ([3, 5], [3, 5]), ([6], [6]), ([], []), ([8], [8]), ([7, 9], [7, 9]), ([0, 2, 0, 1, 2, 3, 4, 5, 6, 7, 8, 9, 10], [0, 2]), ([11, 10, 10, 0, 1, 2, 3, 4, 5, 6, 7, 8, 9, 10], [10, 11])])
def spec_boSplit.B8 : List Nat := [0, 0, 2, 0, 0, 16, 56, 120, 0, 256, 1016, 2047, 4095]
theorem spec_boSplit.tab8 : rtab .any (opsOf Try.f54 8) = spec_boSplit.T8 := by kernel_rfl
theorem spec_boSplit.bits8 : waitsOk spec_boSplit.T8.2 spec_boSplit.B8 = true := by kernel_rfl
set_option maxHeartbeats 8000000 in
set_option maxRecDepth 100000 in
theorem spec_boSplit.calls (k : Nat) (a0 : Int) (A1 : Option Addr) (c1 : Nat) (l1 : List Int) (r : List (List Int)) (w : World) (hr1 : Kd.C (Kd.int .i64) w A1 l1.length l1) (hc1 : l1.length ≤ c1) (h : spec_boSplit.f k a0 l1 = some r) :
    Calls Try.prog 54 #[.int .i64 a0, .slice A1 l1.length c1] w fun e w' => ∃ v0_ : Value, e = .returned (v0_) ∧ Kd.S (Kd.slice 3 (Kd.int .i64)) 28 w' w.heap.size (fun _ => True) v0_ r ∧ Below w.heap.size w w' := by
  have hu46 := Try.underlying46
  have HR1 := Aside0.mk hr1
  have HC1 := Aside0.mk hc1
  clear hr1 hc1
  have HB := Aside0.mk (Below.refl w.heap.size w)
  have H : ((spec_boStart.f).bind fun bt146 => (spec_boSplit.l0 k a0 ([] : List (List Int)) l1 (l1.length : Int) 0 bt146.1 bt146.2.1 bt146.2.2.1 bt146.2.2.2)) = some r := h
  clear h
  replace H := Option.bind_eq_some_iff.mp H
  obtain ⟨⟨t146, t147, t150, t151⟩, A30, H⟩ := H
  replace H : (spec_boSplit.l0 k a0 ([] : List (List Int)) l1 (l1.length : Int) 0 t146 t147 t150 t151) = some r := H
  have A3 := Aside0.mk A30
  clear A30
  have H' := Aside0.mk H
  clear H
  go_enter Try.func54, Try.ntmps54
  go_wp2_with (first | ((with_reducible refine gate_callee (f := 34) rfl ?_); refine goesL_ (some 9) rfl rfl Try.func34 (by kernel_rfl) rfl #[] rfl (by (try simp only [List.map_toArray, List.map_cons, List.map_nil]); first | done | rfl | (simp only [List.length_drop, List.length_take]; rfl)) ?_; (with_reducible refine (spec_boStart.calls  t146 t147 t150 t151 _ A3.out).mono ?_); rintro e w4 ⟨v148, rfl, ho0, hb⟩; refine ⟨_, rfl, ?_⟩; have n0_ := Aside0.mk (Kd.R_lower ho0 (below_size (by repeat (first | (with_reducible first | exact HB.out | apply below_alloc | apply pw_below_drewN | apply below_drew1) | exact HB.out)))); have n1_ := Aside0.mk (below_step (by repeat (first | (with_reducible first | exact HB.out | apply below_alloc | apply pw_below_drewN | apply below_drew1) | exact HB.out)) hb); clear HB; have HO149 := n0_; have HB := n1_; clear n0_ n1_; (try clear hb); (try clear hb2); (try clear hk); (try clear hi); (try clear ho0)) | ((with_reducible refine gate_dst (N := 6) rfl ?_); refine box_event ?hg (N := 6) ?hd (cs := #[.int .i64 0, .slice none 0 0, .int .i64 0, .bool false]) (t := 46) ?hr ?_; (case hd => rfl); (case hg => rfl); (case hr => first | (go_simp; done) | (go_simp; rfl)); intro gb152 hg w5 hbox hb; have n0_ := Aside0.mk (Kd.R_below (by (with_reducible repeat (first | apply Kd.R_alloc | apply Kd.R_drewN | apply Kd.R_drew)); exact HO149.out) hb); have n1_ := Aside0.mk (below_step (by repeat (first | (with_reducible first | exact HB.out | apply below_alloc | apply pw_below_drewN | apply below_drew1) | exact HB.out)) hb); have n2_ := Aside0.mk (hbox); have n3_ := Aside0.mk ((by rw [hg]; exact (below_size (by repeat (first | (with_reducible first | exact HB.out | apply below_alloc | apply pw_below_drewN | apply below_drew1) | exact HB.out))) : w.heap.size ≤ gb152)); have n4_ := Aside0.mk ((by rw [hg]; exact (below_size (by repeat (first | (with_reducible first | exact HB.out | apply below_alloc | apply pw_below_drewN | apply below_drew1) | exact HB.out))) : w.heap.size ≤ gb152)); clear HO149; clear HB; have HO149 := n0_; have HB := n1_; have BK152 := n2_; have GW152 := n3_; have GE152 := n4_; clear n0_ n1_ n2_ n3_ n4_; clear hb hbox hg; have hcz6_0 : w5.cell? ⟨gb152, 0, none⟩ = some (.int .i64 0) := (blk_cell BK152.out 0).trans rfl; have hcz6_1 : w5.cell? ⟨gb152, 1, none⟩ = some (.slice none 0 0) := (blk_cell BK152.out 1).trans rfl; have hcz6_2 : w5.cell? ⟨gb152, 2, none⟩ = some (.int .i64 0) := (blk_cell BK152.out 2).trans rfl; have hcz6_3 : w5.cell? ⟨gb152, 3, none⟩ = some (.bool false) := (blk_cell BK152.out 3).trans rfl; have hfz6_0 := blk_frozen BK152.out 0; have hfz6_1 := blk_frozen BK152.out 1; have hfz6_2 := blk_frozen BK152.out 2; have hfz6_3 := blk_frozen BK152.out 3; obtain ⟨Ao7, co7, eo7⟩ := Kd.R_slice HO149.out; subst eo7))
  go_loopg [5, 12] k (fun kq v5 v12 w' => ∃ (x5_1 : List (List Int)) (x12_1 : Int) (x153000_1 : Int) (x153001_1 : List Int) (x153002_1 : Int) (x153003_1 : Bool) (u153001 : Value), v12 = .int .i64 x12_1 ∧ Aside0 (spec_boSplit.l0 kq a0 x5_1 l1 (l1.length : Int) x12_1 x153000_1 x153001_1 x153002_1 x153003_1 = some r) ∧ Aside0 (kq ≤ k) ∧ Aside0 (Kd.S (Kd.slice 3 (Kd.int .i64)) 28 w' w.heap.size (fun k_ => some k_ ≠ (u153001 : Value).ownBlock) v5 x5_1) ∧ Aside0 (Kd.R (Kd.int .i64) 3 w' w.heap.size (fun _ => True) u153001 x153001_1) ∧ Aside0 (w'.heap[gb152]? = some (.cells #[.int .i64 x153000_1, u153001, .int .i64 x153002_1, .bool x153003_1] 46 (0, 0))) ∧ Aside0 (Below w.heap.size w w'))
  case atStart => exact ⟨(([] : List (List Int))), (0), (t146), (t147), (t150), (t151), (.slice Ao7 t147.length co7), (by first | rfl | (simp; done) | (simp [*]; done) | (simp only [IntKind.wrap_i64, wrap64]; done)), H', ⟨Nat.le_refl _⟩, ⟨by first | exact Kd.S_nil _ _ _ _ _ | exact Kd.N_nil _ _ _ _ _ | exact Kd.V_nil _ _ _ _ _ | exact Kd.Q_nil _ _ _ _ _ | exact Kd.R_nil _ _ _ _ _⟩, ⟨by (with_reducible repeat (first | apply Kd.R_alloc | apply Kd.R_drewN | apply Kd.R_drew)); exact Kd.R_mono (Kd.R_far (p := ⟨gb152, 3, none⟩) (Kd.R_far (p := ⟨gb152, 2, none⟩) (Kd.R_far (p := ⟨gb152, 1, none⟩) (Kd.R_far (p := ⟨gb152, 0, none⟩) (Kd.R_types HO149.out BK152.out (by decide)) (fun _ hk => hk.2) (.int .i64 t146)) (fun _ hk => hk.2) (.slice Ao7 t147.length co7)) (fun _ hk => hk.2) (.int .i64 t150)) (fun _ hk => hk.2) (.bool t151)) (fun _ hk => trivial)⟩, ⟨by (with_reducible repeat (first | refine blk_drewN ?_ _ | refine blk_drew ?_ | refine blk_alloc ?_ _)); refine blk_put (cs := #[.int .i64 t146, .slice Ao7 t147.length co7, .int .i64 t150, .bool false]) ?_ 3 _ rfl; (with_reducible repeat (first | refine blk_drewN ?_ _ | refine blk_drew ?_ | refine blk_alloc ?_ _)); refine blk_put (cs := #[.int .i64 t146, .slice Ao7 t147.length co7, .int .i64 0, .bool false]) ?_ 2 _ rfl; (with_reducible repeat (first | refine blk_drewN ?_ _ | refine blk_drew ?_ | refine blk_alloc ?_ _)); refine blk_put (cs := #[.int .i64 t146, .slice none 0 0, .int .i64 0, .bool false]) ?_ 1 _ rfl; (with_reducible repeat (first | refine blk_drewN ?_ _ | refine blk_drew ?_ | refine blk_alloc ?_ _)); refine blk_put (cs := #[.int .i64 0, .slice none 0 0, .int .i64 0, .bool false]) ?_ 0 _ rfl; (with_reducible repeat (first | refine blk_drewN ?_ _ | refine blk_drew ?_ | refine blk_alloc ?_ _)); exact BK152.out⟩, ⟨by repeat (first | (with_reducible first | exact HB.out | apply below_alloc | apply pw_below_drewN | apply below_drew1 | refine below_set ?_ GE152.out) | exact HB.out)⟩⟩
  case round =>
    clear H'
    try clear c1
    try clear p2
    try clear c3
    try clear c5
    try clear hcz6_0
    try clear hcz6_1
    try clear hcz6_2
    try clear hcz6_3
    try clear hfz6_0
    try clear hfz6_1
    try clear hfz6_2
    try clear hfz6_3
    obtain ⟨x5_1, x12_1, x153000_1, x153001_1, x153002_1, x153003_1, u153001, rfl, HA, HK1, HO_5, HO_153001, BK152, HB⟩ := hrel
    cases gk with
    | zero => exact absurd HA.out (by simp [spec_boSplit.l0])
    | succ k1 =>
      have H := HA.out
      clear HA
      simp only [spec_boSplit.l0] at H
      by_cases c8 : x12_1 < (l1.length : Int)
      · rw [if_pos c8] at H
        have c8b0 : decide (x12_1 < (l1.length : Int)) = true := decide_eq_true c8
        clear c8
        by_cases c9 : 0 ≤ x12_1
        · rw [if_pos c9] at H
          have c9b0 : decide (0 ≤ x12_1) = true := decide_eq_true c9
          clear c9
          by_cases c10 : x12_1 < (l1.length : Int)
          · rw [if_pos c10] at H
            have c10b0 : decide (x12_1 < (l1.length : Int)) = true := decide_eq_true c10
            clear c10
            by_cases c11 : (x153001_1.length : Int) = 0
            · rw [if_pos c11] at H
              have c11b0 : ((x153001_1.length : Int) == 0) = true := beq_iff_eq.mpr c11
              have c11b1 : ((x153001_1.length : Int) != 0) = false := bne_eq_false_iff_eq.mpr c11
              clear c11
              by_cases c12 : x5_1.length < 5864062014805
              · rw [if_pos c12] at H
                have LMc12 := Aside0.mk c12
                clear c12
                obtain ⟨y154, hy154⟩ : ∃ y_ : List (List Int), y_ = (x5_1 ++ [[]]) := ⟨_, rfl⟩
                replace H : (if 0 ≤ x153000_1 then (if x153000_1 < (y154.length : Int) then (if (rd_L1 y154 x153000_1).length < 17592186044416 then ((spec_boRoll.f a0 x153000_1 x153001_1 x153002_1 x153003_1 (rd l1 x12_1)).bind fun bt162 => (spec_boSplit.l0 k1 a0 (y154.set (x153000_1 : Int).toNat ((rd_L1 y154 x153000_1) ++ [rd l1 x12_1])) l1 (l1.length : Int) (wrap64 (x12_1 + 1)) bt162.1 bt162.2.1 bt162.2.2.1 bt162.2.2.2)) else (none)) else (none)) else (none)) = some r := by first | (rw [hy154]; with_reducible exact H) | (have H2_ := (Option.bind_some _ _).symm.trans H; rw [hy154]; with_reducible exact H2_) | (have H2_ := (Option.bind_some _ _).symm.trans H; with_reducible exact H2_) | with_reducible exact H | (rw [hy154]; exact H) | exact H
                have Ny154 := Aside0.mk hy154
                clear hy154
                by_cases c13 : 0 ≤ x153000_1
                · rw [if_pos c13] at H
                  have c13b0 : decide (0 ≤ x153000_1) = true := decide_eq_true c13
                  clear c13
                  by_cases c14 : x153000_1 < (y154.length : Int)
                  · rw [if_pos c14] at H
                    have c14b0 : decide (x153000_1 < (y154.length : Int)) = true := decide_eq_true c14
                    clear c14
                    by_cases c15 : (rd_L1 y154 x153000_1).length < 17592186044416
                    · rw [if_pos c15] at H
                      have LMc15 := Aside0.mk c15
                      clear c15
                      obtain ⟨y158, hy158⟩ : ∃ y_ : List Int, y_ = ((rd_L1 y154 x153000_1) ++ [rd l1 x12_1]) := ⟨_, rfl⟩
                      replace H : ((spec_boRoll.f a0 x153000_1 x153001_1 x153002_1 x153003_1 (rd l1 x12_1)).bind fun bt162 => (spec_boSplit.l0 k1 a0 (y154.set (x153000_1 : Int).toNat y158) l1 (l1.length : Int) (wrap64 (x12_1 + 1)) bt162.1 bt162.2.1 bt162.2.2.1 bt162.2.2.2)) = some r := by first | (rw [hy158]; with_reducible exact H) | (have H2_ := (Option.bind_some _ _).symm.trans H; rw [hy158]; with_reducible exact H2_) | (have H2_ := (Option.bind_some _ _).symm.trans H; with_reducible exact H2_) | with_reducible exact H | (rw [hy158]; exact H) | exact H
                      have Ny158 := Aside0.mk hy158
                      clear hy158
                      obtain ⟨y161, hy161⟩ : ∃ y_ : List (List Int), y_ = (y154.set (x153000_1 : Int).toNat y158) := ⟨_, rfl⟩
                      replace H : ((spec_boRoll.f a0 x153000_1 x153001_1 x153002_1 x153003_1 (rd l1 x12_1)).bind fun bt162 => (spec_boSplit.l0 k1 a0 y161 l1 (l1.length : Int) (wrap64 (x12_1 + 1)) bt162.1 bt162.2.1 bt162.2.2.1 bt162.2.2.2)) = some r := by first | (rw [hy161]; with_reducible exact H) | (have H2_ := (Option.bind_some _ _).symm.trans H; rw [hy161]; with_reducible exact H2_) | (have H2_ := (Option.bind_some _ _).symm.trans H; with_reducible exact H2_) | with_reducible exact H | (rw [hy161]; exact H) | exact H
                      have Ny161 := Aside0.mk hy161
                      clear hy161
                      replace H := Option.bind_eq_some_iff.mp H
                      obtain ⟨⟨t162, t163, t166, t167⟩, A170, H⟩ := H
                      replace H : (spec_boSplit.l0 k1 a0 y161 l1 (l1.length : Int) (wrap64 (x12_1 + 1)) t162 t163 t166 t167) = some r := H
                      have A17 := Aside0.mk A170
                      clear A170
                      have H' := Aside0.mk H
                      clear H
                      have p153 : 0 ≤ (x12_1 : Int) := of_decide_eq_true (by first | (with_reducible assumption) | assumption)
                      have q153 : x12_1 < (l1.length : Int) := of_decide_eq_true (by first | (with_reducible assumption) | assumption)
                      obtain ⟨ad153, e153, hx153_0⟩ := Kd.at_int HR1.out x12_1 p153 q153
                      cases e153
                      replace hx153_0 := (HB.out.cell (World.block_lt_of_cell? w _ hx153_0)).trans hx153_0
                      replace p153 := eq_true p153
                      replace q153 := eq_true q153
                      have hcz18_0 : wr.cell? ⟨gb152, 0, none⟩ = some (.int .i64 x153000_1) := (blk_cell BK152.out 0).trans rfl
                      have hcz18_1 : wr.cell? ⟨gb152, 1, none⟩ = some (u153001) := (blk_cell BK152.out 1).trans rfl
                      have hcz18_2 : wr.cell? ⟨gb152, 2, none⟩ = some (.int .i64 x153002_1) := (blk_cell BK152.out 2).trans rfl
                      have hcz18_3 : wr.cell? ⟨gb152, 3, none⟩ = some (.bool x153003_1) := (blk_cell BK152.out 3).trans rfl
                      have hfz18_0 := blk_frozen BK152.out 0
                      have hfz18_1 := blk_frozen BK152.out 1
                      have hfz18_2 := blk_frozen BK152.out 2
                      have hfz18_3 := blk_frozen BK152.out 3
                      obtain ⟨Ao19, co19, eo19⟩ := Kd.R_slice HO_153001.out
                      subst eo19
                      try go_wp2_with (first | ((with_reducible refine gate_builtin (b := .append) (xs := #[.tmp 20, .tmp 21]) rfl ?_); at_builtin; refine Kd.S_append (Kd.slice 3 (Kd.int .i64)) (w0 := w) w.heap.size rfl (.tmp 20) (.tmp 21) 54 28 (.slice none 0 0) 24 rfl Try.underlying54 info28 rfl (by decide) (by omega) u5 x5_1 [] [.slice none 0 0] (fun k_ => some k_ ≠ (.slice Ao19 x153001_1.length co19 : Value).ownBlock) (fun _ => False) rfl rfl ?aP (fun _ hk => hk.elim) ?aF ?aO ?aB ?aS ?aL ?_; (case aP => exact ⟨_, rfl, Kd.R_nil _ _ _ _ _⟩); (case aB => exact (by repeat (first | (with_reducible first | exact HB.out | apply below_alloc | apply pw_below_drewN | apply below_drew1 | refine below_set ?_ GE152.out) | exact HB.out))); (case aF => exact (fun k_ hk => Kd.fresh' (Kd.R_lt (by (with_reducible repeat (first | apply Kd.R_alloc | apply Kd.R_drewN | apply Kd.R_drew)); exact HO_153001.out)) k_ hk)); (case aO => exact (by (with_reducible repeat (first | apply Kd.S_alloc | apply Kd.S_drewN | apply Kd.S_drew)); exact Kd.S_mono HO_5.out (fun k_ hk => ⟨hk, fun e_ => e_⟩))); (case aS => exact (below_size (by repeat (first | (with_reducible first | exact HB.out | apply below_alloc | apply pw_below_drewN | apply below_drew1 | refine below_set ?_ GE152.out) | exact HB.out)))); (case aL => have := LMc12.out; omega); intro v155 w20 ho hb hg hat; rw [← Ny154.out] at ho; have n0_ := Aside0.mk (Kd.R_over' (by (with_reducible repeat (first | apply Kd.R_alloc | apply Kd.R_drewN | apply Kd.R_drew)); exact HO_153001.out) (Kd.S_typed (by (with_reducible repeat (first | apply Kd.S_alloc | apply Kd.S_drewN | apply Kd.S_drew)); exact HO_5.out)) (by decide) hg); have n1_ := Aside0.mk (blk_grown (g := gb152) (o := .cells #[.int .i64 x153000_1, .slice Ao19 x153001_1.length co19, .int .i64 x153002_1, .bool x153003_1] 46 (0, 0)) (by (with_reducible repeat (first | refine blk_drewN ?_ _ | refine blk_drew ?_ | refine blk_alloc ?_ _)); exact BK152.out) hg (Kd.S_ne HO_5.out BK152.out (by decide))); have n2_ := Aside0.mk (hb); have n3_ := Aside0.mk (ho); clear HO_153001; clear BK152; clear HB; clear HO_5; have HO_153001 := n0_; have BK152 := n1_; have HB := n2_; have HO156 := n3_; clear n0_ n1_ n2_ n3_; clear ho hb hg hat))
                      have n0_ := Aside0.mk (Kd.R_drew HO_153001.out)
                      have n1_ := Aside0.mk (Kd.S_drew HO156.out)
                      have n2_ := Aside0.mk (blk_drew BK152.out)
                      have n3_ := Aside0.mk (below_drew1 HB.out)
                      clear HO_153001
                      clear HO156
                      clear BK152
                      clear HB
                      have HO_153001 := n0_
                      have HO156 := n1_
                      have BK152 := n2_
                      have HB := n3_
                      clear n0_ n1_ n2_ n3_
                      obtain ⟨Ao22, co22, eo22⟩ := Kd.S_slice HO156.out
                      (first | subst eo22 | (injection eo22 with f1_ f2_ f3_; have f4_ := f1_.symm; have f5_ := f3_.symm; clear f1_ f2_ f3_; subst f4_; subst f5_))
                      have p157 : 0 ≤ (x153000_1 : Int) := of_decide_eq_true (by first | (with_reducible assumption) | assumption)
                      have q157 : x153000_1 < (y154.length : Int) := of_decide_eq_true (by first | (with_reducible assumption) | assumption)
                      obtain ⟨ad157, A157_0, c157_0, e157, hx157_0, hl157_0, hi157_0⟩ := at_L1 (Kd.S_reads' HO156.out).2.2 x153000_1 p157 q157
                      cases e157
                      obtain ⟨ce157, hce157, hMe157, hcc157⟩ := Kd.S_get HO156.out [] x153000_1 p157 (by first | exact q157 | exact of_decide_eq_true (by first | (with_reducible assumption) | assumption) | (have e_ := (Kd.S_reads' HO156.out).1; omega))
                      obtain ⟨ve157_0, rfl, ge157_0⟩ := hMe157
                      have hv157_0 := hcc157 0 _ rfl
                      rw [Nat.add_zero, show ((Kd.slice 3 (Kd.int .i64))).sz = 1 from rfl, Nat.mul_one] at hv157_0
                      replace hv157_0 := Option.some.inj (hv157_0.symm.trans hx157_0)
                      rw [hv157_0] at ge157_0
                      have HL157_0 := Aside0.mk (show Kd.R (Kd.int .i64) 3 _ _ _ _ (rd_L1 y154 x153000_1) from ge157_0)
                      clear hv157_0 ge157_0
                      have HX157_0 := Aside0.mk hx157_0
                      clear hcc157 hce157
                      have HR157_0 := Aside0.mk hi157_0
                      have HC157_0 := Aside0.mk hl157_0
                      clear hi157_0 hl157_0
                      replace p157 := eq_true p157
                      replace q157 := eq_true q157
                      obtain ⟨go23, co23, eo23, gb23, gl23, cl23, HG23⟩ := Kd.S_form HO156.out (by have h_ : (x153000_1 : Int) < ((y154.length : Int) : Int) := of_decide_eq_true (by first | (with_reducible assumption) | assumption); have h2_ : 0 ≤ (x153000_1 : Int) := (of_decide_eq_true (by first | (with_reducible assumption) | assumption)); omega)
                      (first | cases eo23 | (injection eo23 with ea_ en_ ec_; (first | subst ea_ | (injection ea_ with ea_; subst ea_)); subst ec_; clear en_))
                      have GB23 := Aside0.mk gb23
                      have GG23 := Aside0.mk HG23
                      clear gb23 gl23 HG23
                      (first | simp only [add_plain] at hx157_0 | skip)
                      obtain ⟨oki23, ce23, hcl23, hM23, hcc23, _, _, hH23⟩ := Kd.S_elem HO156.out [] (x153000_1 : Int) (of_decide_eq_true (by first | (with_reducible assumption) | assumption)) (by have h_ : (x153000_1 : Int) < ((y154.length : Int) : Int) := of_decide_eq_true (by first | (with_reducible assumption) | assumption); first | exact h_ | (have e_ := (Kd.S_reads' HO156.out).1; omega) | simpa using h_)
                      obtain ⟨ve23_0, rfl, ge23_0⟩ := hM23
                      have hv23 := hcc23 0 _ rfl
                      have hX23 := HX157_0.out
                      (try simp only [add_plain] at hX23)
                      (try simp only [Nat.add_zero] at hv23)
                      (try rw [show ((Kd.slice 3 (Kd.int .i64))).sz = 1 from rfl, Nat.mul_one] at hv23)
                      replace hv23 := Option.some.inj (hv23.symm.trans hX23)
                      subst hv23
                      clear hX23 hcc23 hcl23
                      have UU23 := Aside0.mk (show Kd.R (Kd.int .i64) 3 _ w.heap.size oki23 (.slice A157_0 (rd_L1 y154 x153000_1).length c157_0) (rd_L1 y154 x153000_1) from ge23_0)
                      have HH23 := Aside0.mk hH23
                      have HN23 := Aside0.mk (Kd.S_reads' HO156.out).1
                      clear hH23 ge23_0
                      refine start_ (n := 13) (S := fun w' => w'.cell? ⟨gb152, 0, none⟩ = some (.int .i64 x153000_1) ∧ w'.cell? ⟨gb152, 1, none⟩ = some (.slice Ao19 x153001_1.length co19) ∧ w'.cell? ⟨gb152, 2, none⟩ = some (.int .i64 x153002_1) ∧ w'.cell? ⟨gb152, 3, none⟩ = some (.bool x153003_1) ∧ w'.cell? ⟨go23, (x153000_1).toNat, none⟩ = some (.slice A157_0 (rd_L1 y154 x153000_1).length c157_0)) (ds := [12]) #[false, false, false, false, false, false, false, false, false, false, false, false, false] (by kernel_rfl) rfl rfl ⟨(blk_cell BK152.out 0).trans rfl, (blk_cell BK152.out 1).trans rfl, (blk_cell BK152.out 2).trans rfl, (blk_cell BK152.out 3).trans rfl, hx157_0⟩ (fun hHeld => ?_); refine with_tabW spec_boSplit.tab8 spec_boSplit.bits8 (fun HT_ HW_ => ?_)
                      generalize w20.drew = w21 at HO_153001 HO156 BK152 HB GG23 HH23 HL157_0 HR157_0 HX157_0 UU23 hx157_0 hHeld ⊢
                      refine pure_ (i := 0) (N := some 23) (v := ?_) (a' := ?_) #[true, false, false, false, false, false, false, false, false, false, false, false, false] rfl rfl (any_of HT_.out (by kernel_rfl)) (fun _ _ _ h => h) (Or.inl ⟨by rfl, ?_⟩) ?_ ?_
                      rotate_left
                      · intro w'
                        go_simp
                        with_reducible rfl
                      rotate_left
                      · simp only [Act.put, List.setIfInBounds_toArray, List.set_cons_zero, List.set_cons_succ, i64_w, i32_w]
                        rfl
                      refine pure_ (i := 1) (N := some 24) (v := ?_) (a' := ?_) #[true, true, false, false, false, false, false, false, false, false, false, false, false] rfl rfl (any_of HT_.out (by kernel_rfl)) (fun _ _ _ h => h) (Or.inl ⟨by rfl, ?_⟩) ?_ ?_
                      rotate_left
                      · intro w'
                        go_simp
                        with_reducible rfl
                      rotate_left
                      · simp only [Act.put, List.setIfInBounds_toArray, List.set_cons_zero, List.set_cons_succ, i64_w, i32_w]
                        rfl
                      refine pure_ (i := 3) (N := some 26) (v := ?_) (a' := ?_) #[true, true, false, true, false, false, false, false, false, false, false, false, false] rfl rfl (any_of HT_.out (by kernel_rfl)) (fun _ _ _ h => h) (Or.inl ⟨by rfl, ?_⟩) ?_ ?_
                      rotate_left
                      · intro w'
                        go_simp
                        with_reducible rfl
                      rotate_left
                      · simp only [Act.put, List.setIfInBounds_toArray, List.set_cons_zero, List.set_cons_succ, i64_w, i32_w]
                        rfl
                      refine pure_ (i := 4) (N := some 27) (v := ?_) (a' := ?_) #[true, true, false, true, true, false, false, false, false, false, false, false, false] rfl rfl (any_of HT_.out (by kernel_rfl)) (fun _ _ _ h => h) (Or.inl ⟨by rfl, ?_⟩) ?_ ?_
                      rotate_left
                      · intro w'
                        go_simp
                        with_reducible rfl
                      rotate_left
                      · simp only [Act.put, List.setIfInBounds_toArray, List.set_cons_zero, List.set_cons_succ, i64_w, i32_w]
                        rfl
                      refine pure_ (i := 8) (N := some 31) (v := ?_) (a' := ?_) #[true, true, false, true, true, false, false, false, true, false, false, false, false] rfl rfl (any_of HT_.out (by kernel_rfl)) (fun _ _ _ h => h) (Or.inl ⟨by rfl, ?_⟩) ?_ ?_
                      rotate_left
                      · intro w'
                        go_simp
                        with_reducible rfl
                      rotate_left
                      · simp only [Act.put, List.setIfInBounds_toArray, List.set_cons_zero, List.set_cons_succ, i64_w, i32_w]
                        rfl
                      refine take_ (i := 2) (N := some 25) (v := ?_) (a' := ?_) #[true, true, true, true, true, false, false, false, true, false, false, false, false] rfl rfl (take_ofW HT_.out HW_.out (by kernel_rfl)) (fun _ _ _ h => h) (Or.inl ⟨by rfl, ?_⟩) hHeld ?_ ?_
                      rotate_left
                      · rintro w' ⟨s0, s1, s2, s3, s4⟩
                        go_simp
                        with_reducible rfl
                      rotate_left
                      · simp only [Act.put, List.setIfInBounds_toArray, List.set_cons_zero, List.set_cons_succ, i64_w, i32_w]
                        rfl
                      refine take_ (i := 5) (N := some 28) (v := ?_) (a' := ?_) #[true, true, true, true, true, true, false, false, true, false, false, false, false] rfl rfl (take_ofW HT_.out HW_.out (by kernel_rfl)) (fun _ _ _ h => h) (Or.inl ⟨by rfl, ?_⟩) hHeld ?_ ?_
                      rotate_left
                      · rintro w' ⟨s0, s1, s2, s3, s4⟩
                        go_simp
                        with_reducible rfl
                      rotate_left
                      · simp only [Act.put, List.setIfInBounds_toArray, List.set_cons_zero, List.set_cons_succ, i64_w, i32_w]
                        rfl
                      refine pure_ (i := 6) (N := some 29) (v := ?_) (a' := ?_) #[true, true, true, true, true, true, true, false, true, false, false, false, false] rfl rfl (any_of HT_.out (by kernel_rfl)) (fun _ _ _ h => h) (Or.inl ⟨by rfl, ?_⟩) ?_ ?_
                      rotate_left
                      · intro w'
                        go_simp
                        with_reducible rfl
                      rotate_left
                      · simp only [Act.put, List.setIfInBounds_toArray, List.set_cons_zero, List.set_cons_succ, i64_w, i32_w]
                        rfl
                      refine take_ (i := 7) (N := some 30) (v := ?_) (a' := ?_) #[true, true, true, true, true, true, true, true, true, false, false, false, false] rfl rfl (take_ofW HT_.out HW_.out (by kernel_rfl)) (fun _ _ _ h => h) (Or.inl ⟨by rfl, ?_⟩) hHeld ?_ ?_
                      rotate_left
                      · rintro w' ⟨s0, s1, s2, s3, s4⟩
                        go_simp
                        with_reducible rfl
                      rotate_left
                      · simp only [Act.put, List.setIfInBounds_toArray, List.set_cons_zero, List.set_cons_succ, i64_w, i32_w]
                        rfl
                      refine one_ (i := 9) (N := some 32) #[true, true, true, true, true, true, true, true, true, true, false, false, false] rfl rfl (one_of HT_.out (by kernel_rfl)) (by decide) (fun K hK => ?_)
                      refine value_ (w1 := ?_) (v := ?_) (by rfl) rfl ?_ ?_
                      rotate_left 2
                      · go_simp
                        constructor
                        · rfl
                        · rfl
                      refine hK.out _ _ ⟨(blk_cell (blk_alloc BK152.out _) 0).trans rfl, (blk_cell (blk_alloc BK152.out _) 1).trans rfl, (blk_cell (blk_alloc BK152.out _) 2).trans rfl, (blk_cell (blk_alloc BK152.out _) 3).trans rfl, (World.cell?_alloc_lt _ _ _ (World.block_lt_of_cell? _ _ (hHeld.2.2.2.2))).trans (hHeld.2.2.2.2)⟩ (fun hHeld => ?_)
                      clear hK K
                      refine norm_ (a' := ?_) ?_ ?_
                      rotate_left
                      · show Act.put _ (some 32) _ = _
                        simp only [Act.put, List.setIfInBounds_toArray, List.set_cons_zero, List.set_cons_succ, i64_w, i32_w]
                        rfl
                      refine one_ (i := 10) (N := some 33) #[true, true, true, true, true, true, true, true, true, true, true, false, false] rfl rfl (one_of HT_.out (by kernel_rfl)) (by decide) (fun K hK => ?_)
                      refine Kd.R_append_step (Kd.int .i64) (w0 := w) w.heap.size (by rfl) (.tmp 30) (.tmp 32) 28 3 (.int .i64 0) 8 rfl Try.underlying28 info3 rfl (by decide) (by omega) (.slice A157_0 (rd_L1 y154 x153000_1).length c157_0) (rd_L1 y154 x153000_1) (rd l1 x12_1) [.int .i64 (rd l1 x12_1)] (fun k_ => oki23 k_ ∨ ((fun k_ => some k_ ≠ (.slice Ao19 x153001_1.length co19 : Value).ownBlock)) k_ ∧ w21.heap.size ≤ k_) (fun _ => False) rfl rfl ?aP (fun _ hk => hk.elim) ?aF ?aO ?aB ?aS ?aL ?_
                      (case aP => exact rfl)
                      (case aB => exact (by repeat (first | (with_reducible first | exact HB.out | apply below_alloc | apply pw_below_drewN | apply below_drew1 | refine below_set ?_ GE152.out) | exact HB.out)))
                      (case aF => exact (fun k_ hk => .inr ⟨Kd.fresh' (Kd.R_lt (by (with_reducible repeat (first | apply Kd.R_alloc | apply Kd.R_drewN | apply Kd.R_drew)); exact HO_153001.out)) k_ hk, hk⟩))
                      (case aO => exact (by (with_reducible repeat (first | apply Kd.R_alloc | apply Kd.R_drewN | apply Kd.R_drew)); exact Kd.R_mono UU23.out (fun _ hk => .inl hk)))
                      (case aS => exact (below_size (by repeat (first | (with_reducible first | exact HB.out | apply below_alloc | apply pw_below_drewN | apply below_drew1 | refine below_set ?_ GE152.out) | exact HB.out))))
                      (case aL => have := LMc15.out; omega)
                      intro v159 w24 ho hb hg hat
                      (first | have HS4_ := cell_grown hg (hHeld.2.2.2.2) (by first | (rw [add_block]; exact (fun e_ => ((HL157_0.out.1 _ e_.symm).2) rfl)) | (show some (Addr.add _ _).block ≠ _; rw [add_block]; exact (fun e_ => ((HL157_0.out.1 _ e_.symm).2) rfl)) | exact (fun e_ => ((HL157_0.out.1 _ e_.symm).2) rfl)) | have HS4_ := cell_grown hg (cell_unalloc (hHeld.2.2.2.2) (by first | (rw [add_block]; exact Kd.S_lt HO156.out _ rfl) | (show (Addr.add _ _).block < _; rw [add_block]; exact Kd.S_lt HO156.out _ rfl) | exact Kd.S_lt HO156.out _ rfl)) (by first | (rw [add_block]; exact (fun e_ => ((HL157_0.out.1 _ e_.symm).2) rfl)) | (show some (Addr.add _ _).block ≠ _; rw [add_block]; exact (fun e_ => ((HL157_0.out.1 _ e_.symm).2) rfl)) | exact (fun e_ => ((HL157_0.out.1 _ e_.symm).2) rfl)))
                      rw [← Ny158.out] at ho
                      have n0_ := Aside0.mk (Kd.R_grown2 (by (with_reducible repeat (first | apply Kd.R_alloc | apply Kd.R_drewN | apply Kd.R_drew)); exact HO_153001.out) rfl hg (fun k_ e_ => (HL157_0.out.1 k_ e_).1))
                      have n1_ := Aside0.mk (blk_grown (g := gb152) (o := .cells #[.int .i64 x153000_1, .slice Ao19 x153001_1.length co19, .int .i64 x153002_1, .bool x153003_1] 46 (0, 0)) (by (with_reducible repeat (first | refine blk_drewN ?_ _ | refine blk_drew ?_ | refine blk_alloc ?_ _)); exact BK152.out) hg (Kd.R_ne HL157_0.out BK152.out (by decide)))
                      have n2_ := Aside0.mk (hb)
                      have n3_ := Aside0.mk (Kd.H_grown (Kd.H_widen (by repeat (first | exact HH23.out | refine Kd.H_alloc ?_ _ | refine Kd.H_drewN ?_ _ | refine Kd.H_drew ?_))) hg (fun k_ e_ => .inl (UU23.out.1 k_ e_)))
                      have n4_ := Aside0.mk (ho)
                      clear HO_153001
                      clear BK152
                      clear HB
                      clear HH23
                      clear HO156
                      clear UU23
                      clear HL157_0
                      have HO_153001 := n0_
                      have BK152 := n1_
                      have HB := n2_
                      have HH23 := n3_
                      have HO160 := n4_
                      clear n0_ n1_ n2_ n3_ n4_
                      clear ho hb hg hat
                      have p16 : 0 ≤ (x153000_1 : Int) := of_decide_eq_true (by first | (with_reducible assumption) | assumption)
                      have q16 : (x153000_1 : Int) < ((y154.length : Int) : Int) := of_decide_eq_true (by first | (with_reducible assumption) | assumption)
                      replace p16 := eq_true p16
                      replace q16 := eq_true q16
                      obtain ⟨Ao27, co27, eo27⟩ := Kd.R_slice HO160.out
                      (first | subst eo27 | (injection eo27 with f1_ f2_ f3_; have f4_ := f1_.symm; have f5_ := f3_.symm; clear f1_ f2_ f3_; subst f4_; subst f5_))
                      obtain ⟨_, _, hraw25, _, _, hcc25, _⟩ := Kd.H_raw HH23.out (of_decide_eq_true (by first | (with_reducible assumption) | assumption)) (by have h_ : (x153000_1 : Int) < ((y154.length : Int) : Int) := of_decide_eq_true (by first | (with_reducible assumption) | assumption); first | exact h_ | (have e_ := (HN23.out); omega) | simpa using h_)
                      obtain ⟨_, hfr25⟩ := Kd.H_at HH23.out (of_decide_eq_true (by first | (with_reducible assumption) | assumption)) (by have h_ : (x153000_1 : Int) < ((y154.length : Int) : Int) := of_decide_eq_true (by first | (with_reducible assumption) | assumption); first | exact h_ | (have e_ := (HN23.out); omega) | simpa using h_)
                      have hx25_0 := hcc25 0 _ rfl
                      have hf25_0 := hfr25 0
                      (try simp only [Nat.add_zero] at hx25_0 hf25_0)
                      (try rw [show ((Kd.slice 3 (Kd.int .i64))).sz = 1 from rfl, Nat.mul_one] at hx25_0)
                      (try rw [show ((Kd.slice 3 (Kd.int .i64))).sz = 1 from rfl, Nat.mul_one] at hf25_0)
                      have HP25 := Kd.S_seg0 HH23.out (of_decide_eq_true (by first | (with_reducible assumption) | assumption)) (by have h_ : (x153000_1 : Int) < ((y154.length : Int) : Int) := of_decide_eq_true (by first | (with_reducible assumption) | assumption); first | exact h_ | (have e_ := (HN23.out); omega) | simpa using h_) (seg := [.slice Ao27 y158.length co27]) (j := 0) (show 1 ≤ 1 from by decide) (x' := y158) (Kd.M_row HO160.out) (fun _ hk => hk)
                      (try simp only [show ((Kd.slice 3 (Kd.int .i64))).sz = 1 from rfl, Nat.mul_one, Nat.add_zero] at HP25)
                      clear hcc25 hfr25
                      have HNB152_go23 := Aside0.mk (show gb152 ≠ go23 from by have h_ := Kd.R_ne hraw25 BK152.out (by decide); intro e_; exact h_ (by rw [e_]; rfl))
                      have HS25 := HP25.1
                      rw [← Ny161.out] at HS25
                      have HQ25 := Aside0.mk HS25
                      obtain ⟨_, hgg25⟩ := Kd.R_typed hraw25 go23 rfl
                      have GG25_ := Aside0.mk hgg25
                      clear HP25 HS25 hgg25
                      refine hK.out _ _ ⟨(blk_cell BK152.out 0).trans rfl, (blk_cell BK152.out 1).trans rfl, (blk_cell BK152.out 2).trans rfl, (blk_cell BK152.out 3).trans rfl, HS4_⟩ (fun hHeld => ?_)
                      clear hK K
                      refine norm_ (a' := ?_) ?_ ?_
                      rotate_left
                      · show Act.put _ (some 33) _ = _
                        simp only [Act.put, List.setIfInBounds_toArray, List.set_cons_zero, List.set_cons_succ, i64_w, i32_w]
                        rfl
                      refine pure_ (i := 11) (N := some 34) (v := ?_) (a' := ?_) #[true, true, true, true, true, true, true, true, true, true, true, true, false] rfl rfl (any_of HT_.out (by kernel_rfl)) (fun _ _ _ h => h) (Or.inl ⟨by rfl, ?_⟩) ?_ ?_
                      rotate_left
                      · intro w'
                        go_simp
                        with_reducible rfl
                      rotate_left
                      · simp only [Act.put, List.setIfInBounds_toArray, List.set_cons_zero, List.set_cons_succ, i64_w, i32_w]
                        rfl
                      refine last_ (i := 12) (N := none) #[true, true, true, true, true, true, true, true, true, true, true, true, true] rfl rfl (one_of HT_.out (by kernel_rfl)) (by decide) (fun K hK => ?_)
                      refine skip_ (w1 := ?_) (by rfl) rfl ?_ ?_
                      rotate_left
                      · go_simp
                        rfl
                      refine hK.out _ _ ?_
                      clear hK K
                      refine done_ (done_of HT_.out (by kernel_rfl)) ?_
                      have n0_ : Aside0 (Kd.R (Kd.int .i64) 3 (w24.setCell ⟨go23, (x153000_1 : Int).toNat, none⟩ (.slice Ao27 y158.length co27)) w.heap.size (fun _ => True) (.slice Ao19 x153001_1.length co19) x153001_1) := ⟨by (with_reducible repeat (first | apply Kd.R_alloc | apply Kd.R_drewN | apply Kd.R_drew)); exact Kd.R_mono (Kd.R_far (p := ⟨go23, (x153000_1 : Int).toNat, none⟩) (Kd.R_types HO_153001.out GG25_.out (by decide)) (fun _ hk => hk.2) (.slice Ao27 y158.length co27)) (fun _ hk => trivial)⟩
                      have n1_ : Aside0 (Kd.S (Kd.slice 3 (Kd.int .i64)) 28 (w24.setCell ⟨go23, (x153000_1 : Int).toNat, none⟩ (.slice Ao27 y158.length co27)) w.heap.size (fun k_ => some k_ ≠ (.slice Ao19 x153001_1.length co19 : Value).ownBlock) (.slice (some ⟨go23, 0, none⟩) y154.length co22) y161) := ⟨by (with_reducible repeat (first | apply Kd.S_alloc | apply Kd.S_drewN | apply Kd.S_drew)); exact HQ25.out⟩
                      have n2_ : Aside0 ((w24.setCell ⟨go23, (x153000_1 : Int).toNat, none⟩ (.slice Ao27 y158.length co27)).heap[gb152]? = some (.cells #[.int .i64 x153000_1, .slice Ao19 x153001_1.length co19, .int .i64 x153002_1, .bool x153003_1] 46 (0, 0))) := ⟨by (with_reducible repeat (first | refine blk_drewN ?_ _ | refine blk_drew ?_ | refine blk_alloc ?_ _)); refine blk_far ?_ HNB152_go23.out _; (with_reducible repeat (first | refine blk_drewN ?_ _ | refine blk_drew ?_ | refine blk_alloc ?_ _)); exact BK152.out⟩
                      have n3_ : Aside0 (Below w.heap.size w (w24.setCell ⟨go23, (x153000_1 : Int).toNat, none⟩ (.slice Ao27 y158.length co27))) := ⟨by repeat (first | (with_reducible first | exact HB.out | apply below_alloc | apply pw_below_drewN | apply below_drew1 | refine below_set ?_ GB23.out | refine below_set ?_ GE152.out) | exact HB.out)⟩
                      (try clear HO_153001)
                      (try clear HO156)
                      (try clear BK152)
                      (try clear HB)
                      generalize (w24.setCell ⟨go23, (x153000_1 : Int).toNat, none⟩ (.slice Ao27 y158.length co27)) = w28 at n0_ n1_ n2_ n3_ ⊢
                      have HO_153001 := n0_
                      have HO156 := n1_
                      have BK152 := n2_
                      have HB := n3_
                      clear n0_ n1_ n2_ n3_
                      have hcz29_0 : w28.cell? ⟨gb152, 0, none⟩ = some (.int .i64 x153000_1) := (blk_cell BK152.out 0).trans rfl
                      have hcz29_1 : w28.cell? ⟨gb152, 1, none⟩ = some (.slice Ao19 x153001_1.length co19) := (blk_cell BK152.out 1).trans rfl
                      have hcz29_2 : w28.cell? ⟨gb152, 2, none⟩ = some (.int .i64 x153002_1) := (blk_cell BK152.out 2).trans rfl
                      have hcz29_3 : w28.cell? ⟨gb152, 3, none⟩ = some (.bool x153003_1) := (blk_cell BK152.out 3).trans rfl
                      have hfz29_0 := blk_frozen BK152.out 0
                      have hfz29_1 := blk_frozen BK152.out 1
                      have hfz29_2 := blk_frozen BK152.out 2
                      have hfz29_3 := blk_frozen BK152.out 3
                      try go_wp2_with (first | ((with_reducible refine gate_callee (f := 35) rfl ?_); refine goesL_ (some 38) rfl rfl Try.func35 (by kernel_rfl) rfl #[.int .i64 a0, .agg #[.int .i64 x153000_1, .slice Ao19 x153001_1.length co19, .int .i64 x153002_1, .bool x153003_1], .int .i64 (rd l1 x12_1)] rfl (by (try simp only [List.map_toArray, List.map_cons, List.map_nil]); first | done | rfl | (simp only [List.length_drop, List.length_take]; rfl)) ?_; (with_reducible refine (spec_boRoll.calls a0 x153000_1 _ _ x153001_1 x153002_1 x153003_1 (rd l1 x12_1) t162 t163 t166 t167 _ ?side1 ?side2 A17.out).mono ?_); (case side1 => repeat (first | exact (Kd.R_reads' HO_153001.out).2.2 | (with_reducible refine Kd.C_alloc ?_ _) | (with_reducible refine Kd.C_drewN ?_ _) | (with_reducible refine Kd.C_drew ?_))); (case side2 => exact (Kd.R_reads' HO_153001.out).2.1); rintro e w30 ⟨v164, rfl, ho0, hb⟩; refine ⟨_, rfl, ?_⟩; have n0_ := Aside0.mk (Kd.R_elder' (by (with_reducible repeat (first | apply Kd.R_alloc | apply Kd.R_drewN | apply Kd.R_drew)); exact HO_153001.out) (Kd.R_base ho0) hb); have n1_ := Aside0.mk (Kd.S_elder' (by (with_reducible repeat (first | apply Kd.S_alloc | apply Kd.S_drewN | apply Kd.S_drew)); exact HO156.out) (Kd.R_base ho0) hb); have n2_ := Aside0.mk (Kd.R_lower (Kd.R_new' ho0 (Kd.R_lt (by (with_reducible repeat (first | apply Kd.R_alloc | apply Kd.R_drewN | apply Kd.R_drew)); exact HO_153001.out))) (below_size (by repeat (first | (with_reducible first | exact HB.out | apply below_alloc | apply pw_below_drewN | apply below_drew1 | refine below_set ?_ GE152.out) | exact HB.out)))); have n3_ := Aside0.mk (blk_below (g := gb152) (o := .cells #[.int .i64 x153000_1, .slice Ao19 x153001_1.length co19, .int .i64 x153002_1, .bool x153003_1] 46 (0, 0)) (by (with_reducible repeat (first | refine blk_drewN ?_ _ | refine blk_drew ?_ | refine blk_alloc ?_ _)); exact BK152.out) hb); have n4_ := Aside0.mk (below_step (by repeat (first | (with_reducible first | exact HB.out | apply below_alloc | apply pw_below_drewN | apply below_drew1 | refine below_set ?_ GE152.out) | exact HB.out)) hb); clear HO_153001; clear HO156; clear BK152; clear HB; have HO_153001 := n0_; have HO156 := n1_; have HO165 := n2_; have BK152 := n3_; have HB := n4_; clear n0_ n1_ n2_ n3_ n4_; (try clear hb); (try clear hb2); (try clear hk); (try clear hi); (try clear ho0); have hcz31_0 : w30.cell? ⟨gb152, 0, none⟩ = some (.int .i64 x153000_1) := (blk_cell BK152.out 0).trans rfl; have hcz31_1 : w30.cell? ⟨gb152, 1, none⟩ = some (.slice Ao19 x153001_1.length co19) := (blk_cell BK152.out 1).trans rfl; have hcz31_2 : w30.cell? ⟨gb152, 2, none⟩ = some (.int .i64 x153002_1) := (blk_cell BK152.out 2).trans rfl; have hcz31_3 : w30.cell? ⟨gb152, 3, none⟩ = some (.bool x153003_1) := (blk_cell BK152.out 3).trans rfl; have hfz31_0 := blk_frozen BK152.out 0; have hfz31_1 := blk_frozen BK152.out 1; have hfz31_2 := blk_frozen BK152.out 2; have hfz31_3 := blk_frozen BK152.out 3; obtain ⟨Ao32, co32, eo32⟩ := Kd.R_slice HO165.out; subst eo32))
                      go_roundg k1
                      case measure => have := HK1.out; omega
                      case rel => exact ⟨(y161), (wrap64 (x12_1 + 1)), (t162), (t163), (t166), (t167), (.slice Ao32 t163.length co32), (by first | rfl | (simp; done) | (simp [*]; done) | (simp only [IntKind.wrap_i64, wrap64]; done)), H', ⟨by have := HK1.out; omega⟩, ⟨by (with_reducible repeat (first | apply Kd.S_alloc | apply Kd.S_drewN | apply Kd.S_drew)); exact Kd.S_mono (Kd.S_far (p := ⟨gb152, 3, none⟩) (Kd.S_far (p := ⟨gb152, 2, none⟩) (Kd.S_far (p := ⟨gb152, 1, none⟩) (Kd.S_far (p := ⟨gb152, 0, none⟩) (Kd.S_types HO156.out BK152.out (by decide)) (fun _ hk => hk.2) (.int .i64 t162)) (fun _ hk => hk.2) (.slice Ao32 t163.length co32)) (fun _ hk => hk.2) (.int .i64 t166)) (fun _ hk => hk.2) (.bool t167)) (fun _ hk => hk.1.2)⟩, ⟨by (with_reducible repeat (first | apply Kd.R_alloc | apply Kd.R_drewN | apply Kd.R_drew)); exact Kd.R_mono (Kd.R_far (p := ⟨gb152, 3, none⟩) (Kd.R_far (p := ⟨gb152, 2, none⟩) (Kd.R_far (p := ⟨gb152, 1, none⟩) (Kd.R_far (p := ⟨gb152, 0, none⟩) (Kd.R_types HO165.out BK152.out (by decide)) (fun _ hk => hk.2) (.int .i64 t162)) (fun _ hk => hk.2) (.slice Ao32 t163.length co32)) (fun _ hk => hk.2) (.int .i64 t166)) (fun _ hk => hk.2) (.bool t167)) (fun _ hk => trivial)⟩, ⟨by (with_reducible repeat (first | refine blk_drewN ?_ _ | refine blk_drew ?_ | refine blk_alloc ?_ _)); refine blk_put (cs := #[.int .i64 t162, .slice Ao32 t163.length co32, .int .i64 t166, .bool x153003_1]) ?_ 3 _ rfl; (with_reducible repeat (first | refine blk_drewN ?_ _ | refine blk_drew ?_ | refine blk_alloc ?_ _)); refine blk_put (cs := #[.int .i64 t162, .slice Ao32 t163.length co32, .int .i64 x153002_1, .bool x153003_1]) ?_ 2 _ rfl; (with_reducible repeat (first | refine blk_drewN ?_ _ | refine blk_drew ?_ | refine blk_alloc ?_ _)); refine blk_put (cs := #[.int .i64 t162, .slice Ao19 x153001_1.length co19, .int .i64 x153002_1, .bool x153003_1]) ?_ 1 _ rfl; (with_reducible repeat (first | refine blk_drewN ?_ _ | refine blk_drew ?_ | refine blk_alloc ?_ _)); refine blk_put (cs := #[.int .i64 x153000_1, .slice Ao19 x153001_1.length co19, .int .i64 x153002_1, .bool x153003_1]) ?_ 0 _ rfl; (with_reducible repeat (first | refine blk_drewN ?_ _ | refine blk_drew ?_ | refine blk_alloc ?_ _)); exact BK152.out⟩, ⟨by repeat (first | (with_reducible first | exact HB.out | apply below_alloc | apply pw_below_drewN | apply below_drew1 | refine below_set ?_ GE152.out) | exact HB.out)⟩⟩
                    · rw [if_neg c15] at H
                      exact absurd H (by simp)
                  · rw [if_neg c14] at H
                    exact absurd H (by simp)
                · rw [if_neg c13] at H
                  exact absurd H (by simp)
              · rw [if_neg c12] at H
                exact absurd H (by simp)
            · rw [if_neg c11] at H
              have c11b0 : ((x153001_1.length : Int) == 0) = false := beq_eq_false_iff_ne.mpr c11
              have c11b1 : ((x153001_1.length : Int) != 0) = true := bne_iff_ne.mpr c11
              have c11b2 : ¬ (x153001_1 = []) := fun h_ => c11 (by rw [h_]; rfl)
              by_cases c33 : 0 ≤ x153000_1
              · rw [if_pos c33] at H
                have c33b0 : decide (0 ≤ x153000_1) = true := decide_eq_true c33
                clear c33
                by_cases c34 : x153000_1 < (x5_1.length : Int)
                · rw [if_pos c34] at H
                  have c34b0 : decide (x153000_1 < (x5_1.length : Int)) = true := decide_eq_true c34
                  clear c34
                  by_cases c35 : (rd_L1 x5_1 x153000_1).length < 17592186044416
                  · rw [if_pos c35] at H
                    have LMc35 := Aside0.mk c35
                    clear c35
                    obtain ⟨y169, hy169⟩ : ∃ y_ : List Int, y_ = ((rd_L1 x5_1 x153000_1) ++ [rd l1 x12_1]) := ⟨_, rfl⟩
                    replace H : ((spec_boRoll.f a0 x153000_1 x153001_1 x153002_1 x153003_1 (rd l1 x12_1)).bind fun bt173 => (spec_boSplit.l0 k1 a0 (x5_1.set (x153000_1 : Int).toNat y169) l1 (l1.length : Int) (wrap64 (x12_1 + 1)) bt173.1 bt173.2.1 bt173.2.2.1 bt173.2.2.2)) = some r := by first | (rw [hy169]; with_reducible exact H) | (have H2_ := (Option.bind_some _ _).symm.trans H; rw [hy169]; with_reducible exact H2_) | (have H2_ := (Option.bind_some _ _).symm.trans H; with_reducible exact H2_) | with_reducible exact H | (rw [hy169]; exact H) | exact H
                    have Ny169 := Aside0.mk hy169
                    clear hy169
                    obtain ⟨y172, hy172⟩ : ∃ y_ : List (List Int), y_ = (x5_1.set (x153000_1 : Int).toNat y169) := ⟨_, rfl⟩
                    replace H : ((spec_boRoll.f a0 x153000_1 x153001_1 x153002_1 x153003_1 (rd l1 x12_1)).bind fun bt173 => (spec_boSplit.l0 k1 a0 y172 l1 (l1.length : Int) (wrap64 (x12_1 + 1)) bt173.1 bt173.2.1 bt173.2.2.1 bt173.2.2.2)) = some r := by first | (rw [hy172]; with_reducible exact H) | (have H2_ := (Option.bind_some _ _).symm.trans H; rw [hy172]; with_reducible exact H2_) | (have H2_ := (Option.bind_some _ _).symm.trans H; with_reducible exact H2_) | with_reducible exact H | (rw [hy172]; exact H) | exact H
                    have Ny172 := Aside0.mk hy172
                    clear hy172
                    replace H := Option.bind_eq_some_iff.mp H
                    obtain ⟨⟨t173, t174, t177, t178⟩, A370, H⟩ := H
                    replace H : (spec_boSplit.l0 k1 a0 y172 l1 (l1.length : Int) (wrap64 (x12_1 + 1)) t173 t174 t177 t178) = some r := H
                    have A37 := Aside0.mk A370
                    clear A370
                    have H' := Aside0.mk H
                    clear H
                    have p153 : 0 ≤ (x12_1 : Int) := of_decide_eq_true (by first | (with_reducible assumption) | assumption)
                    have q153 : x12_1 < (l1.length : Int) := of_decide_eq_true (by first | (with_reducible assumption) | assumption)
                    obtain ⟨ad153, e153, hx153_0⟩ := Kd.at_int HR1.out x12_1 p153 q153
                    cases e153
                    replace hx153_0 := (HB.out.cell (World.block_lt_of_cell? w _ hx153_0)).trans hx153_0
                    replace p153 := eq_true p153
                    replace q153 := eq_true q153
                    have hcz38_0 : wr.cell? ⟨gb152, 0, none⟩ = some (.int .i64 x153000_1) := (blk_cell BK152.out 0).trans rfl
                    have hcz38_1 : wr.cell? ⟨gb152, 1, none⟩ = some (u153001) := (blk_cell BK152.out 1).trans rfl
                    have hcz38_2 : wr.cell? ⟨gb152, 2, none⟩ = some (.int .i64 x153002_1) := (blk_cell BK152.out 2).trans rfl
                    have hcz38_3 : wr.cell? ⟨gb152, 3, none⟩ = some (.bool x153003_1) := (blk_cell BK152.out 3).trans rfl
                    have hfz38_0 := blk_frozen BK152.out 0
                    have hfz38_1 := blk_frozen BK152.out 1
                    have hfz38_2 := blk_frozen BK152.out 2
                    have hfz38_3 := blk_frozen BK152.out 3
                    obtain ⟨Ao39, co39, eo39⟩ := Kd.R_slice HO_153001.out
                    subst eo39
                    try go_wp2
                    have n0_ := Aside0.mk (Kd.S_drew HO_5.out)
                    have n1_ := Aside0.mk (Kd.R_drew HO_153001.out)
                    have n2_ := Aside0.mk (blk_drew BK152.out)
                    have n3_ := Aside0.mk (below_drew1 HB.out)
                    clear HO_5
                    clear HO_153001
                    clear BK152
                    clear HB
                    have HO_5 := n0_
                    have HO_153001 := n1_
                    have BK152 := n2_
                    have HB := n3_
                    clear n0_ n1_ n2_ n3_
                    obtain ⟨Ao41, co41, eo41⟩ := Kd.S_slice HO_5.out
                    (first | subst eo41 | (injection eo41 with f1_ f2_ f3_; have f4_ := f1_.symm; have f5_ := f3_.symm; clear f1_ f2_ f3_; subst f4_; subst f5_))
                    have p168 : 0 ≤ (x153000_1 : Int) := of_decide_eq_true (by first | (with_reducible assumption) | assumption)
                    have q168 : x153000_1 < (x5_1.length : Int) := of_decide_eq_true (by first | (with_reducible assumption) | assumption)
                    obtain ⟨ad168, A168_0, c168_0, e168, hx168_0, hl168_0, hi168_0⟩ := at_L1 (Kd.S_reads' HO_5.out).2.2 x153000_1 p168 q168
                    cases e168
                    obtain ⟨ce168, hce168, hMe168, hcc168⟩ := Kd.S_get HO_5.out [] x153000_1 p168 (by first | exact q168 | exact of_decide_eq_true (by first | (with_reducible assumption) | assumption) | (have e_ := (Kd.S_reads' HO_5.out).1; omega))
                    obtain ⟨ve168_0, rfl, ge168_0⟩ := hMe168
                    have hv168_0 := hcc168 0 _ rfl
                    rw [Nat.add_zero, show ((Kd.slice 3 (Kd.int .i64))).sz = 1 from rfl, Nat.mul_one] at hv168_0
                    replace hv168_0 := Option.some.inj (hv168_0.symm.trans hx168_0)
                    rw [hv168_0] at ge168_0
                    have HL168_0 := Aside0.mk (show Kd.R (Kd.int .i64) 3 _ _ _ _ (rd_L1 x5_1 x153000_1) from ge168_0)
                    clear hv168_0 ge168_0
                    have HX168_0 := Aside0.mk hx168_0
                    clear hcc168 hce168
                    have HR168_0 := Aside0.mk hi168_0
                    have HC168_0 := Aside0.mk hl168_0
                    clear hi168_0 hl168_0
                    replace p168 := eq_true p168
                    replace q168 := eq_true q168
                    obtain ⟨go42, co42, eo42, gb42, gl42, cl42, HG42⟩ := Kd.S_form HO_5.out (by have h_ : (x153000_1 : Int) < ((x5_1.length : Int) : Int) := of_decide_eq_true (by first | (with_reducible assumption) | assumption); have h2_ : 0 ≤ (x153000_1 : Int) := (of_decide_eq_true (by first | (with_reducible assumption) | assumption)); omega)
                    (first | cases eo42 | (injection eo42 with ea_ en_ ec_; (first | subst ea_ | (injection ea_ with ea_; subst ea_)); subst ec_; clear en_))
                    have GB42 := Aside0.mk gb42
                    have GG42 := Aside0.mk HG42
                    clear gb42 gl42 HG42
                    (first | simp only [add_plain] at hx168_0 | skip)
                    obtain ⟨oki42, ce42, hcl42, hM42, hcc42, _, _, hH42⟩ := Kd.S_elem HO_5.out [] (x153000_1 : Int) (of_decide_eq_true (by first | (with_reducible assumption) | assumption)) (by have h_ : (x153000_1 : Int) < ((x5_1.length : Int) : Int) := of_decide_eq_true (by first | (with_reducible assumption) | assumption); first | exact h_ | (have e_ := (Kd.S_reads' HO_5.out).1; omega) | simpa using h_)
                    obtain ⟨ve42_0, rfl, ge42_0⟩ := hM42
                    have hv42 := hcc42 0 _ rfl
                    have hX42 := HX168_0.out
                    (try simp only [add_plain] at hX42)
                    (try simp only [Nat.add_zero] at hv42)
                    (try rw [show ((Kd.slice 3 (Kd.int .i64))).sz = 1 from rfl, Nat.mul_one] at hv42)
                    replace hv42 := Option.some.inj (hv42.symm.trans hX42)
                    subst hv42
                    clear hX42 hcc42 hcl42
                    have UU42 := Aside0.mk (show Kd.R (Kd.int .i64) 3 _ w.heap.size oki42 (.slice A168_0 (rd_L1 x5_1 x153000_1).length c168_0) (rd_L1 x5_1 x153000_1) from ge42_0)
                    have HH42 := Aside0.mk hH42
                    have HN42 := Aside0.mk (Kd.S_reads' HO_5.out).1
                    clear hH42 ge42_0
                    refine start_ (n := 13) (S := fun w' => w'.cell? ⟨gb152, 0, none⟩ = some (.int .i64 x153000_1) ∧ w'.cell? ⟨gb152, 1, none⟩ = some (.slice Ao39 x153001_1.length co39) ∧ w'.cell? ⟨gb152, 2, none⟩ = some (.int .i64 x153002_1) ∧ w'.cell? ⟨gb152, 3, none⟩ = some (.bool x153003_1) ∧ w'.cell? ⟨go42, (x153000_1).toNat, none⟩ = some (.slice A168_0 (rd_L1 x5_1 x153000_1).length c168_0)) (ds := [12]) #[false, false, false, false, false, false, false, false, false, false, false, false, false] (by kernel_rfl) rfl rfl ⟨(blk_cell BK152.out 0).trans rfl, (blk_cell BK152.out 1).trans rfl, (blk_cell BK152.out 2).trans rfl, (blk_cell BK152.out 3).trans rfl, hx168_0⟩ (fun hHeld => ?_); refine with_tabW spec_boSplit.tab8 spec_boSplit.bits8 (fun HT_ HW_ => ?_)
                    generalize wr.drew = w40 at HO_5 HO_153001 BK152 HB GG42 HH42 HL168_0 HR168_0 HX168_0 UU42 hx168_0 hHeld ⊢
                    refine pure_ (i := 0) (N := some 23) (v := ?_) (a' := ?_) #[true, false, false, false, false, false, false, false, false, false, false, false, false] rfl rfl (any_of HT_.out (by kernel_rfl)) (fun _ _ _ h => h) (Or.inl ⟨by rfl, ?_⟩) ?_ ?_
                    rotate_left
                    · intro w'
                      go_simp
                      with_reducible rfl
                    rotate_left
                    · simp only [Act.put, List.setIfInBounds_toArray, List.set_cons_zero, List.set_cons_succ, i64_w, i32_w]
                      rfl
                    refine pure_ (i := 1) (N := some 24) (v := ?_) (a' := ?_) #[true, true, false, false, false, false, false, false, false, false, false, false, false] rfl rfl (any_of HT_.out (by kernel_rfl)) (fun _ _ _ h => h) (Or.inl ⟨by rfl, ?_⟩) ?_ ?_
                    rotate_left
                    · intro w'
                      go_simp
                      with_reducible rfl
                    rotate_left
                    · simp only [Act.put, List.setIfInBounds_toArray, List.set_cons_zero, List.set_cons_succ, i64_w, i32_w]
                      rfl
                    refine pure_ (i := 3) (N := some 26) (v := ?_) (a' := ?_) #[true, true, false, true, false, false, false, false, false, false, false, false, false] rfl rfl (any_of HT_.out (by kernel_rfl)) (fun _ _ _ h => h) (Or.inl ⟨by rfl, ?_⟩) ?_ ?_
                    rotate_left
                    · intro w'
                      go_simp
                      with_reducible rfl
                    rotate_left
                    · simp only [Act.put, List.setIfInBounds_toArray, List.set_cons_zero, List.set_cons_succ, i64_w, i32_w]
                      rfl
                    refine pure_ (i := 4) (N := some 27) (v := ?_) (a' := ?_) #[true, true, false, true, true, false, false, false, false, false, false, false, false] rfl rfl (any_of HT_.out (by kernel_rfl)) (fun _ _ _ h => h) (Or.inl ⟨by rfl, ?_⟩) ?_ ?_
                    rotate_left
                    · intro w'
                      go_simp
                      with_reducible rfl
                    rotate_left
                    · simp only [Act.put, List.setIfInBounds_toArray, List.set_cons_zero, List.set_cons_succ, i64_w, i32_w]
                      rfl
                    refine pure_ (i := 8) (N := some 31) (v := ?_) (a' := ?_) #[true, true, false, true, true, false, false, false, true, false, false, false, false] rfl rfl (any_of HT_.out (by kernel_rfl)) (fun _ _ _ h => h) (Or.inl ⟨by rfl, ?_⟩) ?_ ?_
                    rotate_left
                    · intro w'
                      go_simp
                      with_reducible rfl
                    rotate_left
                    · simp only [Act.put, List.setIfInBounds_toArray, List.set_cons_zero, List.set_cons_succ, i64_w, i32_w]
                      rfl
                    refine take_ (i := 2) (N := some 25) (v := ?_) (a' := ?_) #[true, true, true, true, true, false, false, false, true, false, false, false, false] rfl rfl (take_ofW HT_.out HW_.out (by kernel_rfl)) (fun _ _ _ h => h) (Or.inl ⟨by rfl, ?_⟩) hHeld ?_ ?_
                    rotate_left
                    · rintro w' ⟨s0, s1, s2, s3, s4⟩
                      go_simp
                      with_reducible rfl
                    rotate_left
                    · simp only [Act.put, List.setIfInBounds_toArray, List.set_cons_zero, List.set_cons_succ, i64_w, i32_w]
                      rfl
                    refine take_ (i := 5) (N := some 28) (v := ?_) (a' := ?_) #[true, true, true, true, true, true, false, false, true, false, false, false, false] rfl rfl (take_ofW HT_.out HW_.out (by kernel_rfl)) (fun _ _ _ h => h) (Or.inl ⟨by rfl, ?_⟩) hHeld ?_ ?_
                    rotate_left
                    · rintro w' ⟨s0, s1, s2, s3, s4⟩
                      go_simp
                      with_reducible rfl
                    rotate_left
                    · simp only [Act.put, List.setIfInBounds_toArray, List.set_cons_zero, List.set_cons_succ, i64_w, i32_w]
                      rfl
                    refine pure_ (i := 6) (N := some 29) (v := ?_) (a' := ?_) #[true, true, true, true, true, true, true, false, true, false, false, false, false] rfl rfl (any_of HT_.out (by kernel_rfl)) (fun _ _ _ h => h) (Or.inl ⟨by rfl, ?_⟩) ?_ ?_
                    rotate_left
                    · intro w'
                      go_simp
                      with_reducible rfl
                    rotate_left
                    · simp only [Act.put, List.setIfInBounds_toArray, List.set_cons_zero, List.set_cons_succ, i64_w, i32_w]
                      rfl
                    refine take_ (i := 7) (N := some 30) (v := ?_) (a' := ?_) #[true, true, true, true, true, true, true, true, true, false, false, false, false] rfl rfl (take_ofW HT_.out HW_.out (by kernel_rfl)) (fun _ _ _ h => h) (Or.inl ⟨by rfl, ?_⟩) hHeld ?_ ?_
                    rotate_left
                    · rintro w' ⟨s0, s1, s2, s3, s4⟩
                      go_simp
                      with_reducible rfl
                    rotate_left
                    · simp only [Act.put, List.setIfInBounds_toArray, List.set_cons_zero, List.set_cons_succ, i64_w, i32_w]
                      rfl
                    refine one_ (i := 9) (N := some 32) #[true, true, true, true, true, true, true, true, true, true, false, false, false] rfl rfl (one_of HT_.out (by kernel_rfl)) (by decide) (fun K hK => ?_)
                    refine value_ (w1 := ?_) (v := ?_) (by rfl) rfl ?_ ?_
                    rotate_left 2
                    · go_simp
                      constructor
                      · rfl
                      · rfl
                    refine hK.out _ _ ⟨(blk_cell (blk_alloc BK152.out _) 0).trans rfl, (blk_cell (blk_alloc BK152.out _) 1).trans rfl, (blk_cell (blk_alloc BK152.out _) 2).trans rfl, (blk_cell (blk_alloc BK152.out _) 3).trans rfl, (World.cell?_alloc_lt _ _ _ (World.block_lt_of_cell? _ _ (hHeld.2.2.2.2))).trans (hHeld.2.2.2.2)⟩ (fun hHeld => ?_)
                    clear hK K
                    refine norm_ (a' := ?_) ?_ ?_
                    rotate_left
                    · show Act.put _ (some 32) _ = _
                      simp only [Act.put, List.setIfInBounds_toArray, List.set_cons_zero, List.set_cons_succ, i64_w, i32_w]
                      rfl
                    refine one_ (i := 10) (N := some 33) #[true, true, true, true, true, true, true, true, true, true, true, false, false] rfl rfl (one_of HT_.out (by kernel_rfl)) (by decide) (fun K hK => ?_)
                    refine Kd.R_append_step (Kd.int .i64) (w0 := w) w.heap.size (by rfl) (.tmp 30) (.tmp 32) 28 3 (.int .i64 0) 8 rfl Try.underlying28 info3 rfl (by decide) (by omega) (.slice A168_0 (rd_L1 x5_1 x153000_1).length c168_0) (rd_L1 x5_1 x153000_1) (rd l1 x12_1) [.int .i64 (rd l1 x12_1)] (fun k_ => oki42 k_ ∨ ((fun k_ => some k_ ≠ (.slice Ao39 x153001_1.length co39 : Value).ownBlock)) k_ ∧ w40.heap.size ≤ k_) (fun _ => False) rfl rfl ?aP (fun _ hk => hk.elim) ?aF ?aO ?aB ?aS ?aL ?_
                    (case aP => exact rfl)
                    (case aB => exact (by repeat (first | (with_reducible first | exact HB.out | apply below_alloc | apply pw_below_drewN | apply below_drew1 | refine below_set ?_ GE152.out) | exact HB.out)))
                    (case aF => exact (fun k_ hk => .inr ⟨Kd.fresh' (Kd.R_lt (by (with_reducible repeat (first | apply Kd.R_alloc | apply Kd.R_drewN | apply Kd.R_drew)); exact HO_153001.out)) k_ hk, hk⟩))
                    (case aO => exact (by (with_reducible repeat (first | apply Kd.R_alloc | apply Kd.R_drewN | apply Kd.R_drew)); exact Kd.R_mono UU42.out (fun _ hk => .inl hk)))
                    (case aS => exact (below_size (by repeat (first | (with_reducible first | exact HB.out | apply below_alloc | apply pw_below_drewN | apply below_drew1 | refine below_set ?_ GE152.out) | exact HB.out))))
                    (case aL => have := LMc35.out; omega)
                    intro v170 w43 ho hb hg hat
                    (first | have HS4_ := cell_grown hg (hHeld.2.2.2.2) (by first | (rw [add_block]; exact (fun e_ => ((HL168_0.out.1 _ e_.symm).2) rfl)) | (show some (Addr.add _ _).block ≠ _; rw [add_block]; exact (fun e_ => ((HL168_0.out.1 _ e_.symm).2) rfl)) | exact (fun e_ => ((HL168_0.out.1 _ e_.symm).2) rfl)) | have HS4_ := cell_grown hg (cell_unalloc (hHeld.2.2.2.2) (by first | (rw [add_block]; exact Kd.S_lt HO_5.out _ rfl) | (show (Addr.add _ _).block < _; rw [add_block]; exact Kd.S_lt HO_5.out _ rfl) | exact Kd.S_lt HO_5.out _ rfl)) (by first | (rw [add_block]; exact (fun e_ => ((HL168_0.out.1 _ e_.symm).2) rfl)) | (show some (Addr.add _ _).block ≠ _; rw [add_block]; exact (fun e_ => ((HL168_0.out.1 _ e_.symm).2) rfl)) | exact (fun e_ => ((HL168_0.out.1 _ e_.symm).2) rfl)))
                    rw [← Ny169.out] at ho
                    have n0_ := Aside0.mk (Kd.R_grown2 (by (with_reducible repeat (first | apply Kd.R_alloc | apply Kd.R_drewN | apply Kd.R_drew)); exact HO_153001.out) rfl hg (fun k_ e_ => (HL168_0.out.1 k_ e_).1))
                    have n1_ := Aside0.mk (blk_grown (g := gb152) (o := .cells #[.int .i64 x153000_1, .slice Ao39 x153001_1.length co39, .int .i64 x153002_1, .bool x153003_1] 46 (0, 0)) (by (with_reducible repeat (first | refine blk_drewN ?_ _ | refine blk_drew ?_ | refine blk_alloc ?_ _)); exact BK152.out) hg (Kd.R_ne HL168_0.out BK152.out (by decide)))
                    have n2_ := Aside0.mk (hb)
                    have n3_ := Aside0.mk (Kd.H_grown (Kd.H_widen (by repeat (first | exact HH42.out | refine Kd.H_alloc ?_ _ | refine Kd.H_drewN ?_ _ | refine Kd.H_drew ?_))) hg (fun k_ e_ => .inl (UU42.out.1 k_ e_)))
                    have n4_ := Aside0.mk (ho)
                    clear HO_153001
                    clear BK152
                    clear HB
                    clear HH42
                    clear HO_5
                    clear UU42
                    clear HL168_0
                    have HO_153001 := n0_
                    have BK152 := n1_
                    have HB := n2_
                    have HH42 := n3_
                    have HO171 := n4_
                    clear n0_ n1_ n2_ n3_ n4_
                    clear ho hb hg hat
                    have p36 : 0 ≤ (x153000_1 : Int) := of_decide_eq_true (by first | (with_reducible assumption) | assumption)
                    have q36 : (x153000_1 : Int) < ((x5_1.length : Int) : Int) := of_decide_eq_true (by first | (with_reducible assumption) | assumption)
                    replace p36 := eq_true p36
                    replace q36 := eq_true q36
                    obtain ⟨Ao46, co46, eo46⟩ := Kd.R_slice HO171.out
                    (first | subst eo46 | (injection eo46 with f1_ f2_ f3_; have f4_ := f1_.symm; have f5_ := f3_.symm; clear f1_ f2_ f3_; subst f4_; subst f5_))
                    obtain ⟨_, _, hraw44, _, _, hcc44, _⟩ := Kd.H_raw HH42.out (of_decide_eq_true (by first | (with_reducible assumption) | assumption)) (by have h_ : (x153000_1 : Int) < ((x5_1.length : Int) : Int) := of_decide_eq_true (by first | (with_reducible assumption) | assumption); first | exact h_ | (have e_ := (HN42.out); omega) | simpa using h_)
                    obtain ⟨_, hfr44⟩ := Kd.H_at HH42.out (of_decide_eq_true (by first | (with_reducible assumption) | assumption)) (by have h_ : (x153000_1 : Int) < ((x5_1.length : Int) : Int) := of_decide_eq_true (by first | (with_reducible assumption) | assumption); first | exact h_ | (have e_ := (HN42.out); omega) | simpa using h_)
                    have hx44_0 := hcc44 0 _ rfl
                    have hf44_0 := hfr44 0
                    (try simp only [Nat.add_zero] at hx44_0 hf44_0)
                    (try rw [show ((Kd.slice 3 (Kd.int .i64))).sz = 1 from rfl, Nat.mul_one] at hx44_0)
                    (try rw [show ((Kd.slice 3 (Kd.int .i64))).sz = 1 from rfl, Nat.mul_one] at hf44_0)
                    have HP44 := Kd.S_seg0 HH42.out (of_decide_eq_true (by first | (with_reducible assumption) | assumption)) (by have h_ : (x153000_1 : Int) < ((x5_1.length : Int) : Int) := of_decide_eq_true (by first | (with_reducible assumption) | assumption); first | exact h_ | (have e_ := (HN42.out); omega) | simpa using h_) (seg := [.slice Ao46 y169.length co46]) (j := 0) (show 1 ≤ 1 from by decide) (x' := y169) (Kd.M_row HO171.out) (fun _ hk => hk)
                    (try simp only [show ((Kd.slice 3 (Kd.int .i64))).sz = 1 from rfl, Nat.mul_one, Nat.add_zero] at HP44)
                    clear hcc44 hfr44
                    have HNB152_go42 := Aside0.mk (show gb152 ≠ go42 from by have h_ := Kd.R_ne hraw44 BK152.out (by decide); intro e_; exact h_ (by rw [e_]; rfl))
                    have HS44 := HP44.1
                    rw [← Ny172.out] at HS44
                    have HQ44 := Aside0.mk HS44
                    obtain ⟨_, hgg44⟩ := Kd.R_typed hraw44 go42 rfl
                    have GG44_ := Aside0.mk hgg44
                    clear HP44 HS44 hgg44
                    refine hK.out _ _ ⟨(blk_cell BK152.out 0).trans rfl, (blk_cell BK152.out 1).trans rfl, (blk_cell BK152.out 2).trans rfl, (blk_cell BK152.out 3).trans rfl, HS4_⟩ (fun hHeld => ?_)
                    clear hK K
                    refine norm_ (a' := ?_) ?_ ?_
                    rotate_left
                    · show Act.put _ (some 33) _ = _
                      simp only [Act.put, List.setIfInBounds_toArray, List.set_cons_zero, List.set_cons_succ, i64_w, i32_w]
                      rfl
                    refine pure_ (i := 11) (N := some 34) (v := ?_) (a' := ?_) #[true, true, true, true, true, true, true, true, true, true, true, true, false] rfl rfl (any_of HT_.out (by kernel_rfl)) (fun _ _ _ h => h) (Or.inl ⟨by rfl, ?_⟩) ?_ ?_
                    rotate_left
                    · intro w'
                      go_simp
                      with_reducible rfl
                    rotate_left
                    · simp only [Act.put, List.setIfInBounds_toArray, List.set_cons_zero, List.set_cons_succ, i64_w, i32_w]
                      rfl
                    refine last_ (i := 12) (N := none) #[true, true, true, true, true, true, true, true, true, true, true, true, true] rfl rfl (one_of HT_.out (by kernel_rfl)) (by decide) (fun K hK => ?_)
                    refine skip_ (w1 := ?_) (by rfl) rfl ?_ ?_
                    rotate_left
                    · go_simp
                      rfl
                    refine hK.out _ _ ?_
                    clear hK K
                    refine done_ (done_of HT_.out (by kernel_rfl)) ?_
                    have n0_ : Aside0 (Kd.R (Kd.int .i64) 3 (w43.setCell ⟨go42, (x153000_1 : Int).toNat, none⟩ (.slice Ao46 y169.length co46)) w.heap.size (fun _ => True) (.slice Ao39 x153001_1.length co39) x153001_1) := ⟨by (with_reducible repeat (first | apply Kd.R_alloc | apply Kd.R_drewN | apply Kd.R_drew)); exact Kd.R_mono (Kd.R_far (p := ⟨go42, (x153000_1 : Int).toNat, none⟩) (Kd.R_types HO_153001.out GG44_.out (by decide)) (fun _ hk => hk.2) (.slice Ao46 y169.length co46)) (fun _ hk => trivial)⟩
                    have n1_ : Aside0 (Kd.S (Kd.slice 3 (Kd.int .i64)) 28 (w43.setCell ⟨go42, (x153000_1 : Int).toNat, none⟩ (.slice Ao46 y169.length co46)) w.heap.size (fun k_ => some k_ ≠ (.slice Ao39 x153001_1.length co39 : Value).ownBlock) (.slice (some ⟨go42, 0, none⟩) x5_1.length co41) y172) := ⟨by (with_reducible repeat (first | apply Kd.S_alloc | apply Kd.S_drewN | apply Kd.S_drew)); exact HQ44.out⟩
                    have n2_ : Aside0 ((w43.setCell ⟨go42, (x153000_1 : Int).toNat, none⟩ (.slice Ao46 y169.length co46)).heap[gb152]? = some (.cells #[.int .i64 x153000_1, .slice Ao39 x153001_1.length co39, .int .i64 x153002_1, .bool x153003_1] 46 (0, 0))) := ⟨by (with_reducible repeat (first | refine blk_drewN ?_ _ | refine blk_drew ?_ | refine blk_alloc ?_ _)); refine blk_far ?_ HNB152_go42.out _; (with_reducible repeat (first | refine blk_drewN ?_ _ | refine blk_drew ?_ | refine blk_alloc ?_ _)); exact BK152.out⟩
                    have n3_ : Aside0 (Below w.heap.size w (w43.setCell ⟨go42, (x153000_1 : Int).toNat, none⟩ (.slice Ao46 y169.length co46))) := ⟨by repeat (first | (with_reducible first | exact HB.out | apply below_alloc | apply pw_below_drewN | apply below_drew1 | refine below_set ?_ GB42.out | refine below_set ?_ GE152.out) | exact HB.out)⟩
                    (try clear HO_153001)
                    (try clear HO_5)
                    (try clear BK152)
                    (try clear HB)
                    generalize (w43.setCell ⟨go42, (x153000_1 : Int).toNat, none⟩ (.slice Ao46 y169.length co46)) = w47 at n0_ n1_ n2_ n3_ ⊢
                    have HO_153001 := n0_
                    have HO_5 := n1_
                    have BK152 := n2_
                    have HB := n3_
                    clear n0_ n1_ n2_ n3_
                    have hcz48_0 : w47.cell? ⟨gb152, 0, none⟩ = some (.int .i64 x153000_1) := (blk_cell BK152.out 0).trans rfl
                    have hcz48_1 : w47.cell? ⟨gb152, 1, none⟩ = some (.slice Ao39 x153001_1.length co39) := (blk_cell BK152.out 1).trans rfl
                    have hcz48_2 : w47.cell? ⟨gb152, 2, none⟩ = some (.int .i64 x153002_1) := (blk_cell BK152.out 2).trans rfl
                    have hcz48_3 : w47.cell? ⟨gb152, 3, none⟩ = some (.bool x153003_1) := (blk_cell BK152.out 3).trans rfl
                    have hfz48_0 := blk_frozen BK152.out 0
                    have hfz48_1 := blk_frozen BK152.out 1
                    have hfz48_2 := blk_frozen BK152.out 2
                    have hfz48_3 := blk_frozen BK152.out 3
                    try go_wp2_with (first | ((with_reducible refine gate_callee (f := 35) rfl ?_); refine goesL_ (some 38) rfl rfl Try.func35 (by kernel_rfl) rfl #[.int .i64 a0, .agg #[.int .i64 x153000_1, .slice Ao39 x153001_1.length co39, .int .i64 x153002_1, .bool x153003_1], .int .i64 (rd l1 x12_1)] rfl (by (try simp only [List.map_toArray, List.map_cons, List.map_nil]); first | done | rfl | (simp only [List.length_drop, List.length_take]; rfl)) ?_; (with_reducible refine (spec_boRoll.calls a0 x153000_1 _ _ x153001_1 x153002_1 x153003_1 (rd l1 x12_1) t173 t174 t177 t178 _ ?side1 ?side2 A37.out).mono ?_); (case side1 => repeat (first | exact (Kd.R_reads' HO_153001.out).2.2 | (with_reducible refine Kd.C_alloc ?_ _) | (with_reducible refine Kd.C_drewN ?_ _) | (with_reducible refine Kd.C_drew ?_))); (case side2 => exact (Kd.R_reads' HO_153001.out).2.1); rintro e w49 ⟨v175, rfl, ho0, hb⟩; refine ⟨_, rfl, ?_⟩; have n0_ := Aside0.mk (Kd.R_elder' (by (with_reducible repeat (first | apply Kd.R_alloc | apply Kd.R_drewN | apply Kd.R_drew)); exact HO_153001.out) (Kd.R_base ho0) hb); have n1_ := Aside0.mk (Kd.S_elder' (by (with_reducible repeat (first | apply Kd.S_alloc | apply Kd.S_drewN | apply Kd.S_drew)); exact HO_5.out) (Kd.R_base ho0) hb); have n2_ := Aside0.mk (Kd.R_lower (Kd.R_new' ho0 (Kd.R_lt (by (with_reducible repeat (first | apply Kd.R_alloc | apply Kd.R_drewN | apply Kd.R_drew)); exact HO_153001.out))) (below_size (by repeat (first | (with_reducible first | exact HB.out | apply below_alloc | apply pw_below_drewN | apply below_drew1 | refine below_set ?_ GE152.out) | exact HB.out)))); have n3_ := Aside0.mk (blk_below (g := gb152) (o := .cells #[.int .i64 x153000_1, .slice Ao39 x153001_1.length co39, .int .i64 x153002_1, .bool x153003_1] 46 (0, 0)) (by (with_reducible repeat (first | refine blk_drewN ?_ _ | refine blk_drew ?_ | refine blk_alloc ?_ _)); exact BK152.out) hb); have n4_ := Aside0.mk (below_step (by repeat (first | (with_reducible first | exact HB.out | apply below_alloc | apply pw_below_drewN | apply below_drew1 | refine below_set ?_ GE152.out) | exact HB.out)) hb); clear HO_153001; clear HO_5; clear BK152; clear HB; have HO_153001 := n0_; have HO_5 := n1_; have HO176 := n2_; have BK152 := n3_; have HB := n4_; clear n0_ n1_ n2_ n3_ n4_; (try clear hb); (try clear hb2); (try clear hk); (try clear hi); (try clear ho0); have hcz50_0 : w49.cell? ⟨gb152, 0, none⟩ = some (.int .i64 x153000_1) := (blk_cell BK152.out 0).trans rfl; have hcz50_1 : w49.cell? ⟨gb152, 1, none⟩ = some (.slice Ao39 x153001_1.length co39) := (blk_cell BK152.out 1).trans rfl; have hcz50_2 : w49.cell? ⟨gb152, 2, none⟩ = some (.int .i64 x153002_1) := (blk_cell BK152.out 2).trans rfl; have hcz50_3 : w49.cell? ⟨gb152, 3, none⟩ = some (.bool x153003_1) := (blk_cell BK152.out 3).trans rfl; have hfz50_0 := blk_frozen BK152.out 0; have hfz50_1 := blk_frozen BK152.out 1; have hfz50_2 := blk_frozen BK152.out 2; have hfz50_3 := blk_frozen BK152.out 3; obtain ⟨Ao51, co51, eo51⟩ := Kd.R_slice HO176.out; subst eo51))
                    go_roundg k1
                    case measure => have := HK1.out; omega
                    case rel => exact ⟨(y172), (wrap64 (x12_1 + 1)), (t173), (t174), (t177), (t178), (.slice Ao51 t174.length co51), (by first | rfl | (simp; done) | (simp [*]; done) | (simp only [IntKind.wrap_i64, wrap64]; done)), H', ⟨by have := HK1.out; omega⟩, ⟨by (with_reducible repeat (first | apply Kd.S_alloc | apply Kd.S_drewN | apply Kd.S_drew)); exact Kd.S_mono (Kd.S_far (p := ⟨gb152, 3, none⟩) (Kd.S_far (p := ⟨gb152, 2, none⟩) (Kd.S_far (p := ⟨gb152, 1, none⟩) (Kd.S_far (p := ⟨gb152, 0, none⟩) (Kd.S_types HO_5.out BK152.out (by decide)) (fun _ hk => hk.2) (.int .i64 t173)) (fun _ hk => hk.2) (.slice Ao51 t174.length co51)) (fun _ hk => hk.2) (.int .i64 t177)) (fun _ hk => hk.2) (.bool t178)) (fun _ hk => hk.1.2)⟩, ⟨by (with_reducible repeat (first | apply Kd.R_alloc | apply Kd.R_drewN | apply Kd.R_drew)); exact Kd.R_mono (Kd.R_far (p := ⟨gb152, 3, none⟩) (Kd.R_far (p := ⟨gb152, 2, none⟩) (Kd.R_far (p := ⟨gb152, 1, none⟩) (Kd.R_far (p := ⟨gb152, 0, none⟩) (Kd.R_types HO176.out BK152.out (by decide)) (fun _ hk => hk.2) (.int .i64 t173)) (fun _ hk => hk.2) (.slice Ao51 t174.length co51)) (fun _ hk => hk.2) (.int .i64 t177)) (fun _ hk => hk.2) (.bool t178)) (fun _ hk => trivial)⟩, ⟨by (with_reducible repeat (first | refine blk_drewN ?_ _ | refine blk_drew ?_ | refine blk_alloc ?_ _)); refine blk_put (cs := #[.int .i64 t173, .slice Ao51 t174.length co51, .int .i64 t177, .bool x153003_1]) ?_ 3 _ rfl; (with_reducible repeat (first | refine blk_drewN ?_ _ | refine blk_drew ?_ | refine blk_alloc ?_ _)); refine blk_put (cs := #[.int .i64 t173, .slice Ao51 t174.length co51, .int .i64 x153002_1, .bool x153003_1]) ?_ 2 _ rfl; (with_reducible repeat (first | refine blk_drewN ?_ _ | refine blk_drew ?_ | refine blk_alloc ?_ _)); refine blk_put (cs := #[.int .i64 t173, .slice Ao39 x153001_1.length co39, .int .i64 x153002_1, .bool x153003_1]) ?_ 1 _ rfl; (with_reducible repeat (first | refine blk_drewN ?_ _ | refine blk_drew ?_ | refine blk_alloc ?_ _)); refine blk_put (cs := #[.int .i64 x153000_1, .slice Ao39 x153001_1.length co39, .int .i64 x153002_1, .bool x153003_1]) ?_ 0 _ rfl; (with_reducible repeat (first | refine blk_drewN ?_ _ | refine blk_drew ?_ | refine blk_alloc ?_ _)); exact BK152.out⟩, ⟨by repeat (first | (with_reducible first | exact HB.out | apply below_alloc | apply pw_below_drewN | apply below_drew1 | refine below_set ?_ GE152.out) | exact HB.out)⟩⟩
                  · rw [if_neg c35] at H
                    exact absurd H (by simp)
                · rw [if_neg c34] at H
                  exact absurd H (by simp)
              · rw [if_neg c33] at H
                exact absurd H (by simp)
          · rw [if_neg c10] at H
            exact absurd H (by simp)
        · rw [if_neg c9] at H
          exact absurd H (by simp)
      · rw [if_neg c8] at H
        have c8b0 : decide (x12_1 < (l1.length : Int)) = false := decide_eq_false c8
        clear c8
        obtain rfl := Option.some.inj H
        go_wp2
        go_ret
        exact ⟨_, by first | rfl | (simp [errW_none, errW_some] <;> rfl) | (simp [*, errW_none, errW_some] <;> rfl), by (with_reducible repeat (first | apply Kd.S_alloc | apply Kd.S_drewN | apply Kd.S_drew)); exact Kd.S_mono HO_5.out (fun _ hk => trivial), by repeat (first | (with_reducible first | exact HB.out | apply below_alloc | apply pw_below_drewN | apply below_drew1 | refine below_set ?_ GE152.out) | exact HB.out)⟩

/-! ### spec_boOver: function 55 -/
def spec_boOver.f (k : Nat) (a0 : Int) (l1 : List Int) : Option (Bool) := (spec_boPlay.f k a0 l1).bind fun bt179 => (some bt179.2.2.2.1)
theorem spec_boOver.mono : ∀ a0 a1 k, LeO (spec_boOver.f k a0 a1) (spec_boOver.f (k + 1) a0 a1) := by
  intro a0 a1 k
  unfold spec_boOver.f
  repeat' first
      | (with_reducible exact spec_boPlay.mono _ _ _)
      | (with_reducible exact LeO.refl _)
      | (with_reducible exact LeO.none _)
      | (with_reducible refine LeO.ite ?_ ?_)
      | (with_reducible refine LeO.bind ?_ (fun _ => ?_))
      | exact spec_boPlay.mono _ _ _
      | exact LeO.none _
      | refine LeO.ite ?_ ?_
      | refine LeO.bind ?_ (fun _ => ?_)
set_option maxHeartbeats 8000000 in
set_option maxRecDepth 100000 in
theorem spec_boOver.calls (k : Nat) (a0 : Int) (A1 : Option Addr) (c1 : Nat) (l1 : List Int) (r : Bool) (w : World) (hr1 : Kd.C (Kd.int .i64) w A1 l1.length l1) (hc1 : l1.length ≤ c1) (h : spec_boOver.f k a0 l1 = some r) :
    Calls Try.prog 55 #[.int .i64 a0, .slice A1 l1.length c1] w fun e w' => e = .returned (.bool r) ∧ Below w.heap.size w w' := by
  have hu46 := Try.underlying46
  have HR1 := Aside0.mk hr1
  have HC1 := Aside0.mk hc1
  clear hr1 hc1
  have HB := Aside0.mk (Below.refl w.heap.size w)
  have H : ((spec_boPlay.f k a0 l1).bind fun bt179 => (some bt179.2.2.2.1)) = some r := h
  clear h
  replace H := Option.bind_eq_some_iff.mp H
  obtain ⟨⟨t179, t180, t183, t184, t185⟩, A30, H⟩ := H
  replace H : (some t184) = some r := H
  have A3 := Aside0.mk A30
  clear A30
  obtain rfl := Option.some.inj H
  go_enter Try.func55, Try.ntmps55
  go_wp2_with (first | ((with_reducible refine gate_callee (f := 27) rfl ?_); refine goesL_ (some 10) rfl rfl Try.func27 (by kernel_rfl) rfl #[.int .i64 a0, .slice A1 l1.length c1] rfl (by (try simp only [List.map_toArray, List.map_cons, List.map_nil]); first | done | rfl | (simp only [List.length_drop, List.length_take]; rfl)) ?_; (with_reducible refine (spec_boPlay.calls k a0 _ _ l1 t179 t180 t183 t184 t185 _ ?side1 ?side2 A3.out).mono ?_); (case side1 => repeat (first | exact HR1.out | (with_reducible refine Kd.C_alloc ?_ _) | (with_reducible refine Kd.C_drewN ?_ _) | (with_reducible refine Kd.C_drew ?_))); (case side2 => exact HC1.out); rintro e w4 ⟨v181, rfl, ho0, hb⟩; refine ⟨_, rfl, ?_⟩; have n0_ := Aside0.mk (Kd.R_lower ho0 (below_size (by repeat (first | (with_reducible first | exact HB.out | apply below_alloc | apply pw_below_drewN | apply below_drew1) | exact HB.out)))); have n1_ := Aside0.mk (below_step (by repeat (first | (with_reducible first | exact HB.out | apply below_alloc | apply pw_below_drewN | apply below_drew1) | exact HB.out)) hb); clear HB; have HO182 := n0_; have HB := n1_; clear n0_ n1_; (try clear hb); (try clear hb2); (try clear hk); (try clear hi); (try clear ho0)) | ((with_reducible refine gate_dst (N := 5) rfl ?_); refine box_event ?hg (N := 5) ?hd (cs := #[.int .i64 0, .slice none 0 0, .int .i64 0, .bool false]) (t := 46) ?hr ?_; (case hd => rfl); (case hg => rfl); (case hr => first | (go_simp; done) | (go_simp; rfl)); intro gb186 hg w5 hbox hb; have n0_ := Aside0.mk (Kd.R_below (by (with_reducible repeat (first | apply Kd.R_alloc | apply Kd.R_drewN | apply Kd.R_drew)); exact HO182.out) hb); have n1_ := Aside0.mk (below_step (by repeat (first | (with_reducible first | exact HB.out | apply below_alloc | apply pw_below_drewN | apply below_drew1) | exact HB.out)) hb); have n2_ := Aside0.mk (hbox); have n3_ := Aside0.mk ((by rw [hg]; exact (below_size (by repeat (first | (with_reducible first | exact HB.out | apply below_alloc | apply pw_below_drewN | apply below_drew1) | exact HB.out))) : w.heap.size ≤ gb186)); have n4_ := Aside0.mk ((by rw [hg]; exact (below_size (by repeat (first | (with_reducible first | exact HB.out | apply below_alloc | apply pw_below_drewN | apply below_drew1) | exact HB.out))) : w.heap.size ≤ gb186)); clear HO182; clear HB; have HO182 := n0_; have HB := n1_; have BK186 := n2_; have GW186 := n3_; have GE186 := n4_; clear n0_ n1_ n2_ n3_ n4_; clear hb hbox hg; have hcz6_0 : w5.cell? ⟨gb186, 0, none⟩ = some (.int .i64 0) := (blk_cell BK186.out 0).trans rfl; have hcz6_1 : w5.cell? ⟨gb186, 1, none⟩ = some (.slice none 0 0) := (blk_cell BK186.out 1).trans rfl; have hcz6_2 : w5.cell? ⟨gb186, 2, none⟩ = some (.int .i64 0) := (blk_cell BK186.out 2).trans rfl; have hcz6_3 : w5.cell? ⟨gb186, 3, none⟩ = some (.bool false) := (blk_cell BK186.out 3).trans rfl; have hfz6_0 := blk_frozen BK186.out 0; have hfz6_1 := blk_frozen BK186.out 1; have hfz6_2 := blk_frozen BK186.out 2; have hfz6_3 := blk_frozen BK186.out 3; obtain ⟨Ao7, co7, eo7⟩ := Kd.R_slice HO182.out; subst eo7))
  go_ret
  exact ⟨by first | rfl | (simp [errW_none, errW_some] <;> rfl) | (simp [*, errW_none, errW_some] <;> rfl), by repeat (first | (with_reducible first | exact HB.out | apply below_alloc | apply pw_below_drewN | apply below_drew1 | refine below_set ?_ GE186.out) | exact HB.out)⟩

/-! ### spec_boScores: function 51 -/
def spec_boScores.f (k : Nat) (a0 : Int) (l1 : List Int) : Option (List Int) := (spec_boSplit.f k a0 l1).bind fun bg_ => (spec_boOver.f k a0 l1).bind fun ov_ => if Go.Proofs.Ytdioconinnpmmaa.Lane.okS a0 l1 bg_ = true then some (Go.Proofs.Ytdioconinnpmmaa.Lane.scoresS a0.toNat l1 ov_ 0 0 bg_) else none
theorem spec_boScores.mono : ∀ a0 a1 k, LeO (spec_boScores.f k a0 a1) (spec_boScores.f (k + 1) a0 a1) := by
  intro a0 a1 k
  unfold spec_boScores.f
  repeat' first
      | (with_reducible exact spec_boOver.mono _ _ _)
      | (with_reducible exact spec_boSplit.mono _ _ _)
      | (with_reducible exact LeO.refl _)
      | (with_reducible exact LeO.none _)
      | (with_reducible refine LeO.ite ?_ ?_)
      | (with_reducible refine LeO.bind ?_ (fun _ => ?_))
      | exact spec_boOver.mono _ _ _
      | exact spec_boSplit.mono _ _ _
      | exact LeO.none _
      | refine LeO.ite ?_ ?_
      | refine LeO.bind ?_ (fun _ => ?_)
set_option maxHeartbeats 8000000 in
set_option maxRecDepth 100000 in
theorem spec_boScores.calls (k : Nat) (a0 : Int) (A1 : Option Addr) (c1 : Nat) (l1 : List Int) (r : List Int) (w : World) (hr1 : Kd.C (Kd.int .i64) w A1 l1.length l1) (hc1 : l1.length ≤ c1) (h : spec_boScores.f k a0 l1 = some r) :
    Calls Try.prog 51 #[.int .i64 a0, .slice A1 l1.length c1] w fun e w' => ∃ v0_ : Value, e = .returned (v0_) ∧ Kd.R (Kd.int .i64) 3 w' w.heap.size (fun _ => True) v0_ r ∧ Below w.heap.size w w' := by
  unfold spec_boScores.f at h
  obtain ⟨bg, h1, h2⟩ := Option.bind_eq_some_iff.mp h
  obtain ⟨ov, h3, h4⟩ := Option.bind_eq_some_iff.mp h2
  split at h4
  · rename_i hk
    obtain rfl := Option.some.inj h4
    exact Go.Proofs.Ytdioconinnpmmaa.Lane.specscores_calls a0 w A1 c1 l1 bg ov hr1 hc1 hk (fun w1 hr => spec_boSplit.calls k a0 A1 c1 l1 bg w1 hr hc1 h1) (fun w1 hr => spec_boOver.calls k a0 A1 c1 l1 ov w1 hr hc1 h3)
  · cases h4


end Go.Proofs.Ytdioconinnpmmaa.MFnExactBestRoll
