-- Written for this claim by this session's own program out of the translation.
import Derived.Test.YtdioconinnpmmaaMFnExactFirstGameOfx0
namespace Go.Proofs.Ytdioconinnpmmaa.MFnExactFirstGameOf
open Go.RowKit Go.Proofs.YtdioconinnpmmaaW.PrintWords Go.Proofs.YtdioconinnpmmaaW.PrintLast Go.Proofs.YtdioconinnpmmaaW.PrintMore
attribute [local go_sem] max2_int min2_int max_two min_two max_three min_three max_four min_four   -- for this text's walks alone
set_option linter.unusedVariables false
set_option linter.unusedSimpArgs false

/-! ### spec_boAdd: function 38 -/
def spec_boAdd.l0 : Nat → List Int → Int → List Int → Int → Int → Option (List Int)
  | 0, _, _, _, _, _ => none
  | k + 1, x0, x2, x8, x9, x10 => if x10 < x9 then (if 0 ≤ x10 then (if x10 < (x8.length : Int) then (if (rd x8 x10) > 0 then (if (wrap64 (x10 + x2)) < (x0.length : Int) then (if 0 ≤ (wrap64 (x10 + x2)) then (spec_boAdd.l0 k (x0.set ((wrap64 (x10 + x2)) : Int).toNat (wrap64 ((rd x0 (wrap64 (x10 + x2))) + (rd x8 x10)))) x2 x8 x9 (wrap64 (x10 + 1))) else (none)) else (spec_boAdd.l0 k x0 x2 x8 x9 (wrap64 (x10 + 1)))) else (spec_boAdd.l0 k x0 x2 x8 x9 (wrap64 (x10 + 1)))) else (none)) else (none)) else (some x0)
def spec_boAdd.f (k : Nat) (l0 : List Int) (l1 : List Int) (a2 : Int) : Option (List Int) := spec_boAdd.l0 k l0 a2 l1 (l1.length : Int) 0
theorem spec_boAdd.mono_l : ∀ k, (∀ y0 y1 y2 y3 y4, LeO (spec_boAdd.l0 k y0 y1 y2 y3 y4) (spec_boAdd.l0 (k + 1) y0 y1 y2 y3 y4))
  | 0 => fun _ _ _ _ _ r h => by simp [spec_boAdd.l0] at h
  | k + 1 => by
    have ih0 := spec_boAdd.mono_l k
    · intro y0 y1 y2 y3 y4
      unfold spec_boAdd.l0
      repeat' first
      | (with_reducible exact ih0 _ _ _ _ _)
      | (with_reducible exact LeO.refl _)
      | (with_reducible exact LeO.none _)
      | (with_reducible refine LeO.ite ?_ ?_)
      | (with_reducible refine LeO.bind ?_ (fun _ => ?_))
      | exact ih0 _ _ _ _ _
      | exact LeO.none _
      | refine LeO.ite ?_ ?_
      | refine LeO.bind ?_ (fun _ => ?_)
theorem spec_boAdd.mono : ∀ a0 a1 a2 k, LeO (spec_boAdd.f k a0 a1 a2) (spec_boAdd.f (k + 1) a0 a1 a2) := by
  intro a0 a1 a2 k
  have ih0 := spec_boAdd.mono_l k
  unfold spec_boAdd.f
  repeat' first
      | (with_reducible exact ih0 _ _ _ _ _)
      | (with_reducible exact LeO.refl _)
      | (with_reducible exact LeO.none _)
      | (with_reducible refine LeO.ite ?_ ?_)
      | (with_reducible refine LeO.bind ?_ (fun _ => ?_))
      | exact ih0 _ _ _ _ _
      | exact LeO.none _
      | refine LeO.ite ?_ ?_
      | refine LeO.bind ?_ (fun _ => ?_)
set_option maxHeartbeats 8000000 in
set_option maxRecDepth 100000 in
theorem spec_boAdd.calls (k : Nat) (P0_ : Nat → Prop) (u9000_ : Value) (l0 : List Int) (A1 : Option Addr) (c1 : Nat) (l1 : List Int) (a2 : Int) (r : List Int) (w0 w : World) (hB : Below w0.heap.size w0 w) (ho0 : Kd.R (Kd.int .i64) 3 w w0.heap.size P0_ u9000_ l0) (hr1 : ∀ W_, Kept w W_ (fun k_ => P0_ k_) → Kd.C (Kd.int .i64) W_ A1 l1.length l1) (hc1 : l1.length ≤ c1) (h : spec_boAdd.f k l0 l1 a2 = some r) :
    Calls Try.prog 38 #[u9000_, .slice A1 l1.length c1, .int .i64 a2] w fun e w' => e = .returned (.tuple #[]) ∧ Kd.R (Kd.int .i64) 3 w' w0.heap.size (fun k_ => (P0_ k_ ∨ w.heap.size ≤ k_)) u9000_ r ∧ Below w0.heap.size w0 w' ∧ Kept w w' (fun k_ => P0_ k_) := by
  have HO0 := Aside0.mk (show Kd.R (Kd.int .i64) 3 w w0.heap.size (fun k_ => (P0_ k_ ∨ w.heap.size ≤ k_)) u9000_ l0 from Kd.R_mono ho0 (fun k_ hk => (.inl hk)))
  have HR1 := Aside0.mk hr1
  have HC1 := Aside0.mk hc1
  clear hr1 hc1
  have HK := Aside0.mk (Kept.refl w (fun k_ => P0_ k_))
  have HW0 := Aside0.mk hB.size
  have HB := Aside0.mk hB
  clear hB
  have H : (spec_boAdd.l0 k l0 a2 l1 (l1.length : Int) 0) = some r := h
  clear h
  have H' := Aside0.mk H
  clear H
  go_enter Try.func38, Try.ntmps38
  go_wp2
  go_loopg [10] k (fun kq v10 w' => ∃ (x0_1 : List Int) (x10_1 : Int), v10 = .int .i64 x10_1 ∧ Aside0 (spec_boAdd.l0 kq x0_1 a2 l1 (l1.length : Int) x10_1 = some r) ∧ Aside0 (kq ≤ k) ∧ Aside0 (Kd.R (Kd.int .i64) 3 w' w0.heap.size (fun k_ => (P0_ k_ ∨ w.heap.size ≤ k_)) u9000_ x0_1) ∧ Aside0 (Kept w w' (fun k_ => P0_ k_)) ∧ Aside0 (Below w0.heap.size w0 w'))
  case atStart => exact ⟨(l0), (0), (by first | rfl | (simp; done) | (simp [*]; done) | (simp only [IntKind.wrap_i64, wrap64]; done)), H', ⟨Nat.le_refl _⟩, ⟨by (with_reducible repeat (first | apply Kd.R_alloc | apply Kd.R_drewN | apply Kd.R_drew)); exact HO0.out⟩, ⟨by repeat (first | (with_reducible first | exact HK.out | apply Kept.alloc | apply Kept.drewN | apply Kept.drew) | exact HK.out)⟩, ⟨by repeat (first | (with_reducible first | exact HB.out | apply below_alloc | apply pw_below_drewN | apply below_drew1) | exact HB.out)⟩⟩
  case round =>
    clear H'
    try clear c1
    try clear p2
    try clear c3
    obtain ⟨x0_1, x10_1, rfl, HA, HK1, HO_0, HK, HB⟩ := hrel
    cases gk with
    | zero => exact absurd HA.out (by simp [spec_boAdd.l0])
    | succ k1 =>
      have H := HA.out
      clear HA
      simp only [spec_boAdd.l0] at H
      by_cases c4 : x10_1 < (l1.length : Int)
      · rw [if_pos c4] at H
        have c4b0 : decide (x10_1 < (l1.length : Int)) = true := decide_eq_true c4
        clear c4
        by_cases c5 : 0 ≤ x10_1
        · rw [if_pos c5] at H
          have c5b0 : decide (0 ≤ x10_1) = true := decide_eq_true c5
          clear c5
          by_cases c6 : x10_1 < (l1.length : Int)
          · rw [if_pos c6] at H
            have c6b0 : decide (x10_1 < (l1.length : Int)) = true := decide_eq_true c6
            clear c6
            by_cases c7 : (rd l1 x10_1) > 0
            · rw [if_pos c7] at H
              have c7b0 : decide (0 < (rd l1 x10_1)) = true := decide_eq_true c7
              clear c7
              by_cases c8 : (wrap64 (x10_1 + a2)) < (x0_1.length : Int)
              · rw [if_pos c8] at H
                have c8b0 : decide ((wrap64 (x10_1 + a2)) < (x0_1.length : Int)) = true := decide_eq_true c8
                clear c8
                obtain ⟨ji9, hji9⟩ : ∃ j_ : Int, (wrap64 (x10_1 + a2)) = j_ := ⟨_, rfl⟩
                replace H : (if 0 ≤ (ji9) then (spec_boAdd.l0 k1 (x0_1.set ((ji9) : Int).toNat (wrap64 ((rd x0_1 (ji9)) + (rd l1 x10_1)))) a2 l1 (l1.length : Int) (wrap64 (x10_1 + 1))) else (none)) = some r := by first | (rw [hji9] at H; exact H) | (simp only [hji9] at H ⊢; exact H)
                (try rw [hji9] at c8b0)
                have hji9w : (IntKind.i64.wrap (x10_1 + a2)) = ji9 := (i64_w _).trans hji9
                by_cases c10 : 0 ≤ (ji9)
                · rw [if_pos c10] at H
                  have c10b0 : decide (0 ≤ (ji9)) = true := decide_eq_true c10
                  clear c10
                  obtain ⟨y127, hy127⟩ : ∃ y_ : List Int, y_ = (x0_1.set ((ji9) : Int).toNat (wrap64 ((rd x0_1 (ji9)) + (rd l1 x10_1)))) := ⟨_, rfl⟩
                  replace H : (spec_boAdd.l0 k1 y127 a2 l1 (l1.length : Int) (wrap64 (x10_1 + 1))) = some r := by first | (rw [hy127]; with_reducible exact H) | (have H2_ := (Option.bind_some _ _).symm.trans H; rw [hy127]; with_reducible exact H2_) | (have H2_ := (Option.bind_some _ _).symm.trans H; with_reducible exact H2_) | with_reducible exact H | (rw [hy127]; exact H) | exact H
                  have Ny127 := Aside0.mk hy127
                  clear hy127
                  have H' := Aside0.mk H
                  clear H
                  have p125 : 0 ≤ (x10_1 : Int) := of_decide_eq_true (by first | (with_reducible assumption) | assumption)
                  have q125 : x10_1 < (l1.length : Int) := of_decide_eq_true (by first | (with_reducible assumption) | assumption)
                  obtain ⟨ad125, e125, hx125_0⟩ := Kd.at_int (Kd.C_kept_now HR1.out HK.out) x10_1 p125 q125
                  cases e125
                  replace p125 := eq_true p125
                  replace q125 := eq_true q125
                  obtain ⟨Ao12, co12, eo12⟩ := Kd.R_slice HO_0.out
                  subst eo12
                  have p126 : 0 ≤ ((ji9) : Int) := of_decide_eq_true (by first | (with_reducible assumption) | assumption)
                  have q126 : (ji9) < (x0_1.length : Int) := of_decide_eq_true (by first | (with_reducible assumption) | assumption)
                  obtain ⟨ad126, e126, hx126_0⟩ := Kd.at_int (Kd.R_reads' HO_0.out).2.2 (ji9) p126 q126
                  cases e126
                  replace p126 := eq_true p126
                  replace q126 := eq_true q126
                  have p11 : 0 ≤ ((ji9) : Int) := of_decide_eq_true (by first | (with_reducible assumption) | assumption)
                  have q11 : ((ji9) : Int) < ((x0_1.length : Int) : Int) := of_decide_eq_true (by first | (with_reducible assumption) | assumption)
                  obtain ⟨go11, co11, eo11, gb11, gl11, cl11, HG11⟩ := Kd.R_form HO_0.out (by omega)
                  (first | cases eo11 | (injection eo11 with ea_ en_ ec_; (first | subst ea_ | (injection ea_ with ea_; subst ea_)); subst ec_; clear en_))
                  have GB11 := Aside0.mk gb11
                  have GG11 := Aside0.mk HG11
                  clear gb11 gl11 HG11
                  have HMgo11 := Aside0.mk (show (P0_ go11 ∨ w.heap.size ≤ go11) from (HO_0.out.1 _ rfl))
                  (first | simp only [add_plain] at hx126_0 | skip)
                  obtain ⟨hx11_0, hf11_0⟩ := Kd.R_celln 0 HO_0.out ((ji9) : Int) p11 q11
                  replace p11 := eq_true p11
                  replace q11 := eq_true q11
                  have HP13 := Kd.R_putg HO_0.out ((ji9) : Int) (wrap64 ((rd x0_1 (ji9)) + (rd l1 x10_1)))
                  go_wp2_with (first | ((with_reducible refine gate_store (t := 3) (p := 33) rfl ?_); refine store_event (t := 3) (p := 33) (v := ?vo_w14) (w1 := (wr.setCell ⟨go11, ((ji9) : Int).toNat, none⟩ (.int .i64 (wrap64 ((rd x0_1 (ji9)) + (rd l1 x10_1)))))) ?hg ?ho ?hn ?hr ?_; (case ho => rfl); (case hg => rfl); (case hn => rfl); (case hr => first | (go_simp; done) | (go_simp; rfl)); intro w14 hw; have hg : wr.grownBy w14 (some go11) := (by rw [hw]; exact HP13.2); have hp_ : Kd.R (Kd.int .i64) 3 w14 w0.heap.size (fun k_ => (P0_ k_ ∨ w.heap.size ≤ k_)) (.slice (some ⟨go11, 0, none⟩) x0_1.length co12) y127 := (by rw [hw, Ny127.out]; exact HP13.1); clear HP13; have n0_ := Aside0.mk (hp_); have n1_ := Aside0.mk ((by rw [hw]; exact below_set (HB.out) GB11.out : Below w0.heap.size w0 w14)); have n2_ := Aside0.mk (Kept.of_grown (S := (fun k_ => P0_ k_)) hg (by repeat (first | (with_reducible first | exact HK.out | apply Kept.alloc | apply Kept.drewN | apply Kept.drew) | exact HK.out)) (fun k_ e_ => (HO_0.out.1 k_ e_))); clear HO_0; clear HB; clear HK; have HO_0 := n0_; have HB := n1_; have HK := n2_; clear n0_ n1_ n2_; clear hg hw hp_))
                  go_roundg k1
                  case measure => have := HK1.out; omega
                  case rel => exact ⟨(y127), (wrap64 (x10_1 + 1)), (by first | rfl | (simp; done) | (simp [*]; done) | (simp only [IntKind.wrap_i64, wrap64]; done)), H', ⟨by have := HK1.out; omega⟩, ⟨by (with_reducible repeat (first | apply Kd.R_alloc | apply Kd.R_drewN | apply Kd.R_drew)); exact HO_0.out⟩, ⟨by repeat (first | (with_reducible first | exact HK.out | apply Kept.alloc | apply Kept.drewN | apply Kept.drew) | exact HK.out)⟩, ⟨by repeat (first | (with_reducible first | exact HB.out | apply below_alloc | apply pw_below_drewN | apply below_drew1) | exact HB.out)⟩⟩
                · rw [if_neg c10] at H
                  exact absurd H (by simp)
              · rw [if_neg c8] at H
                have c8b0 : decide ((wrap64 (x10_1 + a2)) < (x0_1.length : Int)) = false := decide_eq_false c8
                clear c8
                have H' := Aside0.mk H
                clear H
                have p125 : 0 ≤ (x10_1 : Int) := of_decide_eq_true (by first | (with_reducible assumption) | assumption)
                have q125 : x10_1 < (l1.length : Int) := of_decide_eq_true (by first | (with_reducible assumption) | assumption)
                obtain ⟨ad125, e125, hx125_0⟩ := Kd.at_int (Kd.C_kept_now HR1.out HK.out) x10_1 p125 q125
                cases e125
                replace p125 := eq_true p125
                replace q125 := eq_true q125
                obtain ⟨Ao15, co15, eo15⟩ := Kd.R_slice HO_0.out
                subst eo15
                go_wp2
                go_roundg k1
                case measure => have := HK1.out; omega
                case rel => exact ⟨(x0_1), (wrap64 (x10_1 + 1)), (by first | rfl | (simp; done) | (simp [*]; done) | (simp only [IntKind.wrap_i64, wrap64]; done)), H', ⟨by have := HK1.out; omega⟩, ⟨by (with_reducible repeat (first | apply Kd.R_alloc | apply Kd.R_drewN | apply Kd.R_drew)); exact HO_0.out⟩, ⟨by repeat (first | (with_reducible first | exact HK.out | apply Kept.alloc | apply Kept.drewN | apply Kept.drew) | exact HK.out)⟩, ⟨by repeat (first | (with_reducible first | exact HB.out | apply below_alloc | apply pw_below_drewN | apply below_drew1) | exact HB.out)⟩⟩
            · rw [if_neg c7] at H
              have c7b0 : decide (0 < (rd l1 x10_1)) = false := decide_eq_false c7
              clear c7
              have H' := Aside0.mk H
              clear H
              have p125 : 0 ≤ (x10_1 : Int) := of_decide_eq_true (by first | (with_reducible assumption) | assumption)
              have q125 : x10_1 < (l1.length : Int) := of_decide_eq_true (by first | (with_reducible assumption) | assumption)
              obtain ⟨ad125, e125, hx125_0⟩ := Kd.at_int (Kd.C_kept_now HR1.out HK.out) x10_1 p125 q125
              cases e125
              replace p125 := eq_true p125
              replace q125 := eq_true q125
              go_wp2
              go_roundg k1
              case measure => have := HK1.out; omega
              case rel => exact ⟨(x0_1), (wrap64 (x10_1 + 1)), (by first | rfl | (simp; done) | (simp [*]; done) | (simp only [IntKind.wrap_i64, wrap64]; done)), H', ⟨by have := HK1.out; omega⟩, ⟨by (with_reducible repeat (first | apply Kd.R_alloc | apply Kd.R_drewN | apply Kd.R_drew)); exact HO_0.out⟩, ⟨by repeat (first | (with_reducible first | exact HK.out | apply Kept.alloc | apply Kept.drewN | apply Kept.drew) | exact HK.out)⟩, ⟨by repeat (first | (with_reducible first | exact HB.out | apply below_alloc | apply pw_below_drewN | apply below_drew1) | exact HB.out)⟩⟩
          · rw [if_neg c6] at H
            exact absurd H (by simp)
        · rw [if_neg c5] at H
          exact absurd H (by simp)
      · rw [if_neg c4] at H
        have c4b0 : decide (x10_1 < (l1.length : Int)) = false := decide_eq_false c4
        clear c4
        obtain rfl := Option.some.inj H
        go_wp2
        first | go_end0 | ((try simp only [Exit.inBlock, Exit.then]); refine bodyPost_ret (results_none rfl _ _ _) rfl ?_)
        exact ⟨by first | rfl | (simp [errW_none, errW_some] <;> rfl) | (simp [*, errW_none, errW_some] <;> rfl), by (with_reducible repeat (first | apply Kd.R_alloc | apply Kd.R_drewN | apply Kd.R_drew)); exact HO_0.out, by repeat (first | (with_reducible first | exact HB.out | apply below_alloc | apply pw_below_drewN | apply below_drew1) | exact HB.out), by repeat (first | (with_reducible first | exact HK.out | apply Kept.alloc | apply Kept.drewN | apply Kept.drew) | exact HK.out)⟩
open Go.Proofs.Ytdioconinnpmmaa.Pin in
theorem spec_boAdd.round (h g : Int → Nat) (d : Int) (d0 : 0 ≤ d) (d1 : d ≤ 3000) (hg : ∀ t, t < 0 → g t = 0) (hc : ∀ t, h t + g (t - d) ≤ 5726805883325784576) : ∀ (n i : Nat), i + n = 301 →
    spec_boAdd.l0 (n + 1) (arrS (fun t => h t + if t - d < (i : Int) then g (t - d) else 0)) d (arrS g) ((arrS g).length : Int) (i : Int) = some (arrS (fun t => h t + g (t - d)))
  | 0, i, hi => by
    unfold spec_boAdd.l0
    rw [arrS_len, if_neg (by omega)]
    congr 1
    exact arrS_congr (fun t t0 t1 => by rw [if_pos (by omega)])
  | n + 1, i, hi => by
    unfold spec_boAdd.l0
    have hrd : rd (arrS g) (i : Int) = ((g (i : Int) : Nat) : Int) := arrS_rd g _ (by omega) (by omega)
    have w1 : wrap64 ((i : Int) + 1) = ((i + 1 : Nat) : Int) := by unfold wrap64; omega
    have w2 : wrap64 ((i : Int) + d) = (i : Int) + d := by unfold wrap64; omega
    have hl : ((arrS g).length : Int) = 301 := by rw [arrS_len]; rfl
    have hl2 : ∀ q : Int → Nat, ((arrS q).length : Int) = 301 := fun q => by rw [arrS_len]; rfl
    have ih := spec_boAdd.round h g d d0 d1 hg hc n (i + 1) (by omega)
    rw [hl] at ih
    rw [hl, if_pos (by omega), if_pos (by omega), if_pos (by omega), hrd, w1, w2, hl2]
    by_cases hz : g (i : Int) = 0
    · have e : arrS (fun t => h t + if t - d < (i : Int) then g (t - d) else 0) = arrS (fun t => h t + if t - d < ((i + 1 : Nat) : Int) then g (t - d) else 0) := arrS_congr (fun t t0 t1 => by
        by_cases e : t - d = (i : Int)
        · rw [e, if_neg (by omega), if_pos (by omega), hz]
        · by_cases h2 : t - d < (i : Int)
          · rw [if_pos h2, if_pos (by omega)]
          · rw [if_neg h2, if_neg (by omega)])
      rw [if_neg (by omega), e]
      exact ih
    · rw [if_pos (by omega)]
      by_cases hs : (i : Int) + d < 301
      · have hrd2 : rd (arrS (fun t => h t + if t - d < (i : Int) then g (t - d) else 0)) ((i : Int) + d) = ((h ((i : Int) + d) : Nat) : Int) := by
          refine (arrS_rd (fun t => h t + if t - d < (i : Int) then g (t - d) else 0) ((i : Int) + d) (by omega) hs).trans ?_
          show ((h ((i : Int) + d) + (if (i : Int) + d - d < (i : Int) then g ((i : Int) + d - d) else 0) : Nat) : Int) = _
          rw [if_neg (by omega)]
          rfl
        have hcc := hc ((i : Int) + d)
        rw [show (i : Int) + d - d = (i : Int) by omega] at hcc
        have w3 : wrap64 (((h ((i : Int) + d) : Nat) : Int) + ((g (i : Int) : Nat) : Int)) = ((h ((i : Int) + d) + g (i : Int) : Nat) : Int) := by unfold wrap64; omega
        rw [if_pos hs, if_pos (by omega), hrd2, w3, arrS_set _ _ _ (by omega)]
        have e : arrS (fun q => if q = (i : Int) + d then h ((i : Int) + d) + g (i : Int) else h q + if q - d < (i : Int) then g (q - d) else 0) = arrS (fun t => h t + if t - d < ((i + 1 : Nat) : Int) then g (t - d) else 0) := arrS_congr (fun t t0 t1 => by
          by_cases e : t = (i : Int) + d
          · rw [if_pos e, if_pos (by omega), e, show (i : Int) + d - d = (i : Int) by omega]
          · rw [if_neg e]
            by_cases h2 : t - d < (i : Int)
            · rw [if_pos h2, if_pos (by omega)]
            · rw [if_neg h2, if_neg (by omega)])
        rw [e]
        exact ih
      · have e : arrS (fun t => h t + if t - d < (i : Int) then g (t - d) else 0) = arrS (fun t => h t + if t - d < ((i + 1 : Nat) : Int) then g (t - d) else 0) := arrS_congr (fun t t0 t1 => by
          by_cases h2 : t - d < (i : Int)
          · rw [if_pos h2, if_pos (by omega)]
          · rw [if_neg h2, if_neg (by omega)])
        rw [if_neg hs, e]
        exact ih
open Go.Proofs.Ytdioconinnpmmaa.Pin in
theorem spec_boAdd.val (h g : Int → Nat) (d : Int) (d0 : 0 ≤ d) (d1 : d ≤ 3000) (hg : ∀ t, t < 0 → g t = 0) (hc : ∀ t, h t + g (t - d) ≤ 5726805883325784576) : spec_boAdd.f 302 (arrS h) (arrS g) d = some (arrS (fun t => h t + g (t - d))) := by
  have := spec_boAdd.round h g d d0 d1 hg hc 301 0 rfl
  rw [show arrS (fun t => h t + if t - d < ((0 : Nat) : Int) then g (t - d) else 0) = arrS h from arrS_congr (fun t _ _ => by
    split
    · rw [hg _ (by omega)]; rfl
    · rfl)] at this
  exact this
open Go.Proofs.Ytdioconinnpmmaa.Pin in
theorem spec_boAdd.addC : AddC := fun G cap N h g v d w0 w d0 d1 hg hc hb hcnt ht hne => by
  obtain ⟨g_, c_, rfl, h301, hgG, _⟩ := id ht
  have hC := fun W_ (hk : Kept w W_ (fun k => k = G)) => (ht.keptNe hne hk).reads
  have := spec_boAdd.calls 302 (fun k => k = G) (.slice (some ⟨G, 0, none⟩) 301 cap) (arrS h) (some ⟨g_, 0, none⟩) c_ (arrS g) d _ w0 w hb hcnt hC (by rw [arrS_len]; exact h301) (spec_boAdd.val h g d d0 d1 hg hc)
  rw [arrS_len] at this
  refine this.mono ?_
  rintro e w' ⟨rfl, hr, hb2, hk⟩
  exact ⟨rfl, CntAt.tight hr, hb2, hk⟩

/-! ### spec_boState: function 50 -/
def spec_boState.f (a0 : Int) (a1 : Int) : Option (Int) := if a0 = 0 then (some 0) else (some (wrap64 (a0 + a1)))
set_option maxHeartbeats 8000000 in
set_option maxRecDepth 100000 in
theorem spec_boState.calls (a0 : Int) (a1 : Int) (r : Int) (w : World) (h : spec_boState.f a0 a1 = some r) :
    Calls Try.prog 50 #[.int .i64 a0, .int .i64 a1] w fun e w' => e = .returned (.int .i64 r) ∧ Drawn0 w w' := by
  have H : (if a0 = 0 then (some 0) else (some (wrap64 (a0 + a1)))) = some r := h
  clear h
  by_cases c3 : a0 = 0
  · rw [if_pos c3] at H
    have c3b0 : (a0 == 0) = true := beq_iff_eq.mpr c3
    have c3b1 : (a0 != 0) = false := bne_eq_false_iff_eq.mpr c3
    clear c3
    obtain rfl := Option.some.inj H
    go_enter Try.func50, Try.ntmps50
    go_wp2
    go_ret
    exact ⟨by first | rfl | (simp; done) | (simp [*]; done), by repeat (first | exact Drawn0.refl _ | apply Drawn0.step)⟩
  · rw [if_neg c3] at H
    have c3b0 : (a0 == 0) = false := beq_eq_false_iff_ne.mpr c3
    have c3b1 : (a0 != 0) = true := bne_iff_ne.mpr c3
    obtain rfl := Option.some.inj H
    go_enter Try.func50, Try.ntmps50
    go_wp2
    go_ret
    exact ⟨by first | rfl | (simp; done) | (simp [*]; done), by repeat (first | exact Drawn0.refl _ | apply Drawn0.step)⟩

-- NOT PRINTED: function 39 (spec_boWays)

-- NOT PRINTED: function 20 (spec_boFrom)
open Go.Proofs.Ytdioconinnpmmaa.Pin in
theorem spec_boState.stateC : StateC := fun a b w a0 a2 b0 b1 => by
  refine spec_boState.calls a b _ w ?_
  unfold spec_boState.f
  split
  · rfl
  · rw [show wrap64 (a + b) = a + b by unfold wrap64; omega]

end Go.Proofs.Ytdioconinnpmmaa.MFnExactFirstGameOf
