/- Walks of the functions that the law reaches: each comes to just what the function that is told of it tells, for all arguments. -/
import Derived.Test.YtcmlmjgoidpabaaGreatDoorYMFnDartsPlayedx11
import Derived.Test.YtcmlmjgoidpabaaGreatDoorYMFnDartsPlayedx18
namespace Go.Proofs.YtcmlmjgoidpabaaGreatDoor.MFnDartsPlayed
open Go.RowKit Go.Proofs.YtcmlmjgoidpabaaGreatDoorW.PrintWords Go.Proofs.YtcmlmjgoidpabaaGreatDoorW.PrintLast Go.Proofs.YtcmlmjgoidpabaaGreatDoorW.PrintMore
attribute [local go_sem] max2_int min2_int max_two min_two max_three min_three max_four min_four
set_option linter.unusedVariables false
set_option linter.unusedSimpArgs false
def spec_ParseDarts.l0 : Nat → List (S52) → List ByteArray → Int → Int → Option ((List (S52)) × Bool)
 | 0, _, _, _, _ => none
 | k + 1, x5, x15, x16, x17 => if x17 < x16 then (if 0 ≤ x17 then (if x17 < (x15.length : Int) then ((spec_daParse.f k (rdOf ByteArray.empty x15 x17)).bind fun bt592 => (if bt592.2.2 = true then (if x5.length < 8796093022208 then (spec_ParseDarts.l0 k (x5 ++ [(⟨bt592.1, bt592.2.1⟩ : S52)]) x15 x16 (wrap64 (x17 + 1))) else (none)) else (some (([] : List (S52)), false)))) else (none)) else (none)) else (some (x5, true))
def spec_ParseDarts.f (k : Nat) (a0 : ByteArray) : Option ((List (S52)) × Bool) := (spec_l1Split.f k a0 45).bind fun t588 => (if (t588.length : Int) > 9 then (some (([] : List (S52)), false)) else (spec_ParseDarts.l0 k ([] : List (S52)) t588 (t588.length : Int) 0))
theorem spec_ParseDarts.mono_l : ∀ k, (∀ y0 y1 y2 y3, LeO (spec_ParseDarts.l0 k y0 y1 y2 y3) (spec_ParseDarts.l0 (k + 1) y0 y1 y2 y3))
 | 0 => fun _ _ _ _ r h => by simp [spec_ParseDarts.l0] at h
 | k + 1 => by
  have ih0 := spec_ParseDarts.mono_l k
  all_goals intros
  all_goals first | unfold spec_ParseDarts.l0
  all_goals repeat' first
  | (with_reducible exact ih0 _ _ _ _)
  | (with_reducible exact spec_daParse.mono _ _)
  | (with_reducible exact spec_l1Split.mono _ _ _)
  | (with_reducible exact LeO.refl _)
  | (with_reducible exact LeO.none _)
  | (with_reducible refine LeO.ite ?_ ?_)
  | (with_reducible refine LeO.bind ?_ (fun _ => ?_))
theorem spec_ParseDarts.mono : ∀ a0 k, LeO (spec_ParseDarts.f k a0) (spec_ParseDarts.f (k + 1) a0) := by
 intro a0 k
 have ih0 := spec_ParseDarts.mono_l k
 unfold spec_ParseDarts.f
 repeat' first
   | (with_reducible exact ih0 _ _ _ _)
   | (with_reducible exact spec_daParse.mono _ _)
   | (with_reducible exact spec_l1Split.mono _ _ _)
   | (with_reducible exact LeO.refl _)
   | (with_reducible exact LeO.none _)
   | (with_reducible refine LeO.ite ?_ ?_)
   | (with_reducible refine LeO.bind ?_ (fun _ => ?_))
set_option maxHeartbeats 8000000 in
set_option maxRecDepth 100000 in
theorem spec_ParseDarts.calls (k : Nat) (a0 : ByteArray) (r1 : List (S52)) (r2 : Bool) (w : World) (h : spec_ParseDarts.f k a0 = some (r1, r2)) :
  Calls Tryz.prog 55 #[.string a0] w fun e w' => ∃ v0_ : Value, e = .returned (.tuple #[v0_, .bool r2]) ∧ Kd.R k52 52 w' w.heap.size (fun _ => True) v0_ r1 ∧ Below w.heap.size w w' := by
 have hu52 := Tryz.underlying52
 have HB := aU (Below.refl w.heap.size w)
 have H : ((spec_l1Split.f k a0 45).bind fun t588 => (if (t588.length : Int) > 9 then (some (([] : List (S52)), false)) else (spec_ParseDarts.l0 k ([] : List (S52)) t588 (t588.length : Int) 0))) = some (r1, r2) := h
 clear h
 replace H := bindS H
 obtain ⟨t588, A2, H⟩ := H
 (try dsimp only at H)
 by_cases c3 : (t588.length : Int) > 9
 ·rw [if_pos c3] at H
  have c3b0 : decide (9 < (t588.length : Int)) = true := decide_eq_true c3
  have c3b1 : decide (9 < t588.length) = true := decide_eq_true (by omega)
  clear c3
  simp only [Option.some.injEq, Prod.mk.injEq] at H
  obtain ⟨rfl, rfl⟩ := H
  go_enter Tryz.func55, Tryz.ntmps55
  go_wp2_with (first | ((with_reducible refine gcU 114 rfl ?_); refine goU (some 11) Tryz.func114 #[.string a0, .int .u8 45] ?_; (with_reducible refine (spec_l1Split.calls k a0 45 t588 _ A2.out).mono ?_); rintro e w4 ⟨v589, rfl, ho0, hb⟩; refine ⟨_, rfl, ?_⟩; have HO590 := aU (Kd.R_lower ho0 (below_size hbU)); replace HB := bsU hb; (try clear ho0 hb); obtain ⟨Ao5, co5, eo5⟩ := Kd.R_slice HO590.out; subst eo5))
  go_ret2
  exact ⟨_, errU, by first | exact Kd.R_nil _ _ _ _ _ | exact Kd.N_nil _ _ _ _ _ | exact Kd.V_nil _ _ _ _ _ | exact Kd.Q_nil _ _ _ _ _ | exact Kd.S_nil _ _ _ _ _, hbU⟩
 ·rw [if_neg c3] at H
  have c3b0 : decide (9 < (t588.length : Int)) = false := decide_eq_false c3
  have c3b1 : decide (9 < t588.length) = false := decide_eq_false (by omega)
  clear c3
  have H' := aU H
  clear H
  go_enter Tryz.func55, Tryz.ntmps55
  go_wp2_with (first | ((with_reducible refine gcU 114 rfl ?_); refine goU (some 11) Tryz.func114 #[.string a0, .int .u8 45] ?_; (with_reducible refine (spec_l1Split.calls k a0 45 t588 _ A2.out).mono ?_); rintro e w6 ⟨v589, rfl, ho0, hb⟩; refine ⟨_, rfl, ?_⟩; have HO590 := aU (Kd.R_lower ho0 (below_size hbU)); replace HB := bsU hb; (try clear ho0 hb); obtain ⟨Ao7, co7, eo7⟩ := Kd.R_slice HO590.out; subst eo7))
  go_loopg [5, 17] k (fun kq v5 v17 w' => ∃ (x5_1 : List (S52)) (x17_1 : Int), v17 = .int .i64 x17_1 ∧ Aside0 (spec_ParseDarts.l0 kq x5_1 t588 (t588.length : Int) x17_1 = some (r1, r2)) ∧ Aside0 (kq ≤ k) ∧ Aside0 (Kd.R k52 52 w' w.heap.size (fun _ => True) v5 x5_1) ∧ Aside0 (Kd.R Kd.string 9 w' w.heap.size (fun _ => True) (.slice Ao7 t588.length co7) t588) ∧ Aside0 (Below w.heap.size w w'))
  case atStart => exact ⟨(([] : List (S52))), (0), eqU, H', ⟨Nat.le_refl _⟩, ⟨by first | exact Kd.R_nil _ _ _ _ _ | exact Kd.N_nil _ _ _ _ _ | exact Kd.V_nil _ _ _ _ _ | exact Kd.Q_nil _ _ _ _ _ | exact Kd.S_nil _ _ _ _ _⟩, ⟨roU HO590⟩, ⟨hbU⟩⟩
  case round =>
   clear H'
   (try clear c3b0 c3b1)
   obtain ⟨x5_1, x17_1, rfl, HA, HK1, HO_5, HO_15, HB⟩ := hrel
   cases gk with
   | zero => exact absurd HA.out (by simp [spec_ParseDarts.l0])
   | succ k1 =>
    have H := HA.out
    clear HA
    simp only [spec_ParseDarts.l0] at H
    by_cases c8 : x17_1 < (t588.length : Int)
    ·rw [if_pos c8] at H
     have c8b0 : decide (x17_1 < (t588.length : Int)) = true := decide_eq_true c8
     clear c8
     replace H := ifS H
     obtain ⟨c9, H⟩ := H
     have c9b0 : decide (0 ≤ x17_1) = true := decide_eq_true c9
     clear c9
     replace H := ifS H
     obtain ⟨c10, H⟩ := H
     have c10b0 : decide (x17_1 < (t588.length : Int)) = true := decide_eq_true c10
     clear c10
     replace H := bindS H
     obtain ⟨⟨t592, t593, t594⟩, A11, H⟩ := H
     (try dsimp only at H)
     by_cases c12 : t594 = true
     ·subst c12
      rw [if_pos rfl] at H
      replace H := ifS H
      obtain ⟨c13, H⟩ := H
      have LMc13 := aU c13
      clear c13
      obtain ⟨y596, hy596⟩ : ∃ y_ : List (S52), y_ = (x5_1 ++ [(⟨t592, t593⟩ : S52)]) := ⟨_, rfl⟩
      replace H : (spec_ParseDarts.l0 k1 y596 t588 (t588.length : Int) (wrap64 (x17_1 + 1))) = some (r1, r2) := by first | (rw [hy596]; with_reducible exact H) | (have H2_ := (Option.bind_some _ _).symm.trans H; rw [hy596]; with_reducible exact H2_) | (have H2_ := (Option.bind_some _ _).symm.trans H; with_reducible exact H2_) | with_reducible exact H | (rw [hy596]; exact H) | exact H
      have Ny596 := aU hy596
      clear hy596
      have H' := aU H
      clear H
      have p591 : 0 ≤ (x17_1 : Int) := dU
      have q591 : x17_1 < (t588.length : Int) := dU
      obtain ⟨ad591, e591, hx591_0⟩ := Kd.at_string (Kd.R_reads' HO_15.out).2.2 x17_1 p591 q591
      cases e591
      replace p591 := eq_true p591
      replace q591 := eq_true q591
      go_wp2_with (first | ((with_reducible refine gcU 115 rfl ?_); refine goU (some 23) Tryz.func115 #[.string (rdOf ByteArray.empty t588 x17_1)] ?_; (with_reducible refine (spec_daParse.calls k1 (rdOf ByteArray.empty t588 x17_1) t592 t593 true _ A11.out).mono ?_); rintro e w14 ⟨rfl, hb⟩; refine ⟨_, rfl, ?_⟩; replace HO_5 := aU (Kd.R_below (roU HO_5) hb); replace HO_15 := aU (Kd.R_below (roU HO_15) hb); replace HB := bsU hb; (try clear hb)) | ((with_reducible refine gdU 8 rfl ?_); refine bxU (cs := #[.int .i64 0, .int .i64 0]) (t := 52) ?_; intro gb595 hg w15 hbox hb; replace HO_5 := aU (Kd.R_below (Kd.R_elderB (roU HO_5) gb595 (Nat.le_of_eq hg.symm)) hb); replace HO_15 := aU (Kd.R_below (roU HO_15) hb); have BK595 := aU (hbox); have GW595 := geU hg; have GE595 := geU hg; replace HB := bsU hb; clear hb hbox hg; obtain ⟨hcz16_0, hcz16_1, hfz16_0, hfz16_1⟩ := b2U BK595) | ((with_reducible refine gate_builtin (b := .append) (xs := #[.tmp 28, .tmp 30]) rfl ?_); at_builtin; refine Kd.R_append k52 (w0 := w) w.heap.size rfl (.tmp 28) (.tmp 30) 45 52 (.agg #[(.int .i64 0), (.int .i64 0)]) 16 rfl Tryz.underlying45 info52 rfl (by decide) (by omega) u5 x5_1 (⟨t592, t593⟩ : S52) [.int .i64 t592, .int .i64 t593] (fun k_ => k_ ≠ gb595) (fun _ => False) rfl (by first | (go_simp; done) | (go_simp; rfl)) ?aP (fun _ hk => hk.elim) ?aF ?aO ?aB ?aS ?aL ?_; (case aP => exact k52_mkM _ _ _ (⟨t592, t593⟩ : S52)); (case aB => exact hbU); (case aF => exact (fun k_ hk => Kd.freshB (g := gb595) (o := .cells #[.int .i64 t592, .int .i64 t593] 52 (0, 0)) bkU k_ hk)); (case aO => exact (by (with_reducible repeat (first | apply Kd.R_alloc | apply Kd.R_drewN | apply Kd.R_drew)); exact Kd.R_mono (Kd.R_far (p := ⟨gb595, 1, none⟩) (Kd.R_far (p := ⟨gb595, 0, none⟩) (Kd.R_mono HO_5.out (fun k_ hk => (⟨hk, hk.2⟩ : _ ∧ k_ ≠ gb595))) (fun _ hk => hk.2) (.int .i64 t592)) (fun _ hk => hk.2) (.int .i64 t593)) (fun _ hk => hk.1.2))); (case aS => exact (below_size hbU)); (case aL => have := LMc13.out; omega); intro v597 w17 ho hb hg hat; rw [← Ny596.out] at ho; replace HO_15 := aU (Kd.R_over' (by (with_reducible repeat (first | apply Kd.R_alloc | apply Kd.R_drewN | apply Kd.R_drew)); exact (Kd.R_mono (Kd.R_far (p := ⟨gb595, 1, none⟩) (Kd.R_far (p := ⟨gb595, 0, none⟩) (Kd.R_types HO_15.out BK595.out (by decide)) (fun _ hk => hk.2) (.int .i64 t592)) (fun _ hk => hk.2) (.int .i64 t593)) (fun _ h_ => h_.1))) (Kd.R_typed (by (with_reducible repeat (first | apply Kd.R_alloc | apply Kd.R_drewN | apply Kd.R_drew)); exact (Kd.R_mono (Kd.R_far (p := ⟨gb595, 1, none⟩) (Kd.R_far (p := ⟨gb595, 0, none⟩) (Kd.R_mono HO_5.out (fun k_ hk => (⟨hk, hk.2⟩ : _ ∧ k_ ≠ gb595))) (fun _ hk => hk.2) (.int .i64 t592)) (fun _ hk => hk.2) (.int .i64 t593)) (fun _ h_ => h_.1)))) (by decide) hg); replace BK595 := aU (blk_grown (g := gb595) (o := .cells #[.int .i64 t592, .int .i64 t593] 52 (0, 0)) bkU hg (Kd.R_away HO_5.out (fun _ hk => hk.2))); replace HB := aU (hb); have HO598 := aU (ho); clear HO_5; clear ho hb hg hat))
      go_roundg k1
      case measure => have := HK1.out; omega
      case rel => exact ⟨(y596), (wrap64 (x17_1 + 1)), eqU, H', ⟨by have := HK1.out; omega⟩, ⟨by (with_reducible repeat (first | apply Kd.R_alloc | apply Kd.R_drewN | apply Kd.R_drew)); exact Kd.R_mono HO598.out (fun _ hk => trivial)⟩, ⟨roU HO_15⟩, ⟨hbU⟩⟩
     ·replace c12 := Bool.eq_false_iff.mpr c12
      subst c12
      rw [if_neg (show ¬ (false = true) by decide)] at H
      simp only [Option.some.injEq, Prod.mk.injEq] at H
      obtain ⟨rfl, rfl⟩ := H
      have p591 : 0 ≤ (x17_1 : Int) := dU
      have q591 : x17_1 < (t588.length : Int) := dU
      obtain ⟨ad591, e591, hx591_0⟩ := Kd.at_string (Kd.R_reads' HO_15.out).2.2 x17_1 p591 q591
      cases e591
      replace p591 := eq_true p591
      replace q591 := eq_true q591
      go_wp2_with (first | ((with_reducible refine gcU 115 rfl ?_); refine goU (some 23) Tryz.func115 #[.string (rdOf ByteArray.empty t588 x17_1)] ?_; (with_reducible refine (spec_daParse.calls k1 (rdOf ByteArray.empty t588 x17_1) t592 t593 false _ A11.out).mono ?_); rintro e w18 ⟨rfl, hb⟩; refine ⟨_, rfl, ?_⟩; replace HO_5 := aU (Kd.R_below (roU HO_5) hb); replace HO_15 := aU (Kd.R_below (roU HO_15) hb); replace HB := bsU hb; (try clear hb)) | ((with_reducible refine gdU 8 rfl ?_); refine bxU (cs := #[.int .i64 0, .int .i64 0]) (t := 52) ?_; intro gb595 hg w19 hbox hb; replace HO_5 := aU (Kd.R_below (Kd.R_elderB (roU HO_5) gb595 (Nat.le_of_eq hg.symm)) hb); replace HO_15 := aU (Kd.R_below (roU HO_15) hb); have BK595 := aU (hbox); have GW595 := geU hg; have GE595 := geU hg; replace HB := bsU hb; clear hb hbox hg; obtain ⟨hcz20_0, hcz20_1, hfz20_0, hfz20_1⟩ := b2U BK595))
      go_ret2
      exact ⟨_, errU, by first | exact Kd.R_nil _ _ _ _ _ | exact Kd.N_nil _ _ _ _ _ | exact Kd.V_nil _ _ _ _ _ | exact Kd.Q_nil _ _ _ _ _ | exact Kd.S_nil _ _ _ _ _, hbU⟩
    ·rw [if_neg c8] at H
     have c8b0 : decide (x17_1 < (t588.length : Int)) = false := decide_eq_false c8
     clear c8
     simp only [Option.some.injEq, Prod.mk.injEq] at H
     obtain ⟨rfl, rfl⟩ := H
     go_wp2
     go_ret2
     exact ⟨_, errU, by (with_reducible repeat (first | apply Kd.R_alloc | apply Kd.R_drewN | apply Kd.R_drew)); exact HO_5.out, hbU⟩
def spec_DrawIsDart.f (l0 : List Int) : Option (Int × Int) := (spec_l1Cur_dart.f l0 0 0).bind fun bt601 => (some (bt601.1, bt601.2.1))
set_option maxHeartbeats 8000000 in
set_option maxRecDepth 100000 in
theorem spec_DrawIsDart.calls (A0 : Option Addr) (c0 : Nat) (l0 : List Int) (r1 : Int) (r2 : Int) (w : World) (hr0 : Kd.C (Kd.int .u8) w A0 l0.length l0) (hc0 : l0.length ≤ c0) (h : spec_DrawIsDart.f l0 = some (r1, r2)) :
  Calls Tryz.prog 56 #[.slice A0 l0.length c0] w fun e w' => e = .returned (.agg #[.int .i64 r1, .int .i64 r2]) ∧ Below w.heap.size w w' := by
 have hu52 := Tryz.underlying52
 have hu78 := Tryz.underlying78
 have HR0 := aU hr0
 have HC0 := aU hc0
 clear hr0 hc0
 have HB := aU (Below.refl w.heap.size w)
 have H : ((spec_l1Cur_dart.f l0 0 0).bind fun bt601 => (some (bt601.1, bt601.2.1))) = some (r1, r2) := h
 clear h
 replace H := bindS H
 obtain ⟨⟨t601, t602, t603, t604⟩, A2, H⟩ := H
 (try dsimp only at H)
 simp only [Option.some.injEq, Prod.mk.injEq] at H
 obtain ⟨rfl, rfl⟩ := H
 go_enter Tryz.func56, Tryz.ntmps56
 go_wp2_with (first | ((with_reducible refine gdU 2 rfl ?_); refine bxU (cs := #[.int .i64 0, .int .i64 0]) (t := 52) ?_; intro gb599 hg w3 hbox hb; have BK599 := aU (hbox); have GW599 := geU hg; have GE599 := geU hg; replace HB := bsU hb; clear hb hbox hg) | ((with_reducible refine gdU 6 rfl ?_); refine bxU (cs := #[.slice A0 l0.length c0, .int .i64 0, .int .u64 0]) (t := 78) ?_; intro gb600 hg w4 hbox hb; have HI600 := aU ((⟨_, _, hbox, (by rw [hg]; exact (below_size hbU) : w.heap.size ≤ gb600), HR0.out⟩ : IsS78 w w4 gb600 l0 0 0)); have GW600 := geU hg; have GE600 := geU hg; replace HB := bsU hb; have NB599_600 := neU BK599 hg; have NB600_599 := enU BK599 hg; replace BK599 := bbU BK599 hb; clear hb hbox hg) | ((with_reducible refine gcU 116 rfl ?_); refine goU (some 8) Tryz.func116 #[.pointer (some ⟨gb600, 0, none⟩)] ?_; (with_reducible refine (spec_l1Cur_dart.calls gb600 l0 0 0 t601 t602 t603 t604 w _ ?side1 ?side2 A2.out).mono ?_); (case side1 => exact isU HI600); (case side2 => exact hbU); rintro e w5 ⟨rfl, hi, hb, hk⟩; refine ⟨_, rfl, ?_⟩; replace BK599 := aU (KeepBut.blk hk (g' := gb599) (o := .cells #[.int .i64 0, .int .i64 0] 52 (0, 0)) bkU NB599_600.out (by simp)); replace HB := aU (hb); replace HI600 := aU (hi); (try clear hi hb hk); have hnb6 := NB599_600.out; have hnc6 := NB600_599.out; obtain ⟨hcz7_0, hcz7_1, hfz7_0, hfz7_1⟩ := b2U BK599))
 refine bodyPost_ret (results_cell_row rfl _ _ gb599 52 #[.int .i64 t601, .int .i64 t602] (0, 0) _ rfl bkU Tryz.underlying52 rfl (by kernel_rfl)) rfl ?_
 exact ⟨errU, hbU⟩
def spec_DartText.f (k : Nat) (a0_0 : Int) (a0_1 : Int) : Option (ByteArray × Bool) := (spec_daGood.f a0_0 a0_1).bind fun t606 => (if t606 = true then ((spec_daText.f k a0_0 a0_1).bind fun t607 => (some (t607, true))) else (some ((⟨#[]⟩ : ByteArray), false)))
theorem spec_DartText.mono : ∀ a0 a1 k, LeO (spec_DartText.f k a0 a1) (spec_DartText.f (k + 1) a0 a1) := by
 intro a0 a1 k
 unfold spec_DartText.f
 repeat' first
   | (with_reducible exact spec_daText.mono _ _ _)
   | (with_reducible exact LeO.refl _)
   | (with_reducible exact LeO.none _)
   | (with_reducible refine LeO.ite ?_ ?_)
   | (with_reducible refine LeO.bind ?_ (fun _ => ?_))
set_option maxHeartbeats 8000000 in
set_option maxRecDepth 100000 in
theorem spec_DartText.calls (k : Nat) (a0_0 : Int) (a0_1 : Int) (r1 : ByteArray) (r2 : Bool) (w : World) (h : spec_DartText.f k a0_0 a0_1 = some (r1, r2)) :
  Calls Tryz.prog 58 #[.agg #[.int .i64 a0_0, .int .i64 a0_1]] w fun e w' => e = .returned (.tuple #[.string r1, .bool r2]) ∧ Below w.heap.size w w' := by
 have hu52 := Tryz.underlying52
 have HB := aU (Below.refl w.heap.size w)
 have H : ((spec_daGood.f a0_0 a0_1).bind fun t606 => (if t606 = true then ((spec_daText.f k a0_0 a0_1).bind fun t607 => (some (t607, true))) else (some ((⟨#[]⟩ : ByteArray), false)))) = some (r1, r2) := h
 clear h
 replace H := bindS H
 obtain ⟨t606, A2, H⟩ := H
 (try dsimp only at H)
 by_cases c3 : t606 = true
 ·subst c3
  rw [if_pos rfl] at H
  replace H := bindS H
  obtain ⟨t607, A4, H⟩ := H
  (try dsimp only at H)
  simp only [Option.some.injEq, Prod.mk.injEq] at H
  obtain ⟨rfl, rfl⟩ := H
  go_enter Tryz.func58, Tryz.ntmps58
  go_wp2_with (first | ((with_reducible refine gdU 1 rfl ?_); refine bxU (cs := #[.int .i64 a0_0, .int .i64 a0_1]) (t := 52) ?_; intro gb605 hg w5 hbox hb; have BK605 := aU (hbox); have GW605 := geU hg; have GE605 := geU hg; replace HB := bsU hb; clear hb hbox hg; obtain ⟨hcz6_0, hcz6_1, hfz6_0, hfz6_1⟩ := b2U BK605) | ((with_reducible refine gcU 117 rfl ?_); refine goU (some 5) Tryz.func117 #[.agg #[.int .i64 a0_0, .int .i64 a0_1]] ?_; (with_reducible refine (spec_daGood.calls a0_0 a0_1 true _ A2.out).mono ?_); rintro e w7 ⟨rfl, hb⟩; refine ⟨_, rfl, ?_⟩; replace BK605 := bbU BK605 hb; replace HB := bsU hb; (try clear hb); obtain ⟨hcz8_0, hcz8_1, hfz8_0, hfz8_1⟩ := b2U BK605) | ((with_reducible refine gcU 118 rfl ?_); refine goU (some 8) Tryz.func118 #[.agg #[.int .i64 a0_0, .int .i64 a0_1]] ?_; (with_reducible refine (spec_daText.calls k a0_0 a0_1 t607 _ A4.out).mono ?_); rintro e w9 ⟨rfl, hb⟩; refine ⟨_, rfl, ?_⟩; replace BK605 := bbU BK605 hb; replace HB := bsU hb; (try clear hb)))
  go_ret2
  exact ⟨errU, hbU⟩
 ·replace c3 := Bool.eq_false_iff.mpr c3
  subst c3
  rw [if_neg (show ¬ (false = true) by decide)] at H
  simp only [Option.some.injEq, Prod.mk.injEq] at H
  obtain ⟨rfl, rfl⟩ := H
  go_enter Tryz.func58, Tryz.ntmps58
  go_wp2_with (first | ((with_reducible refine gdU 1 rfl ?_); refine bxU (cs := #[.int .i64 a0_0, .int .i64 a0_1]) (t := 52) ?_; intro gb605 hg w10 hbox hb; have BK605 := aU (hbox); have GW605 := geU hg; have GE605 := geU hg; replace HB := bsU hb; clear hb hbox hg; obtain ⟨hcz11_0, hcz11_1, hfz11_0, hfz11_1⟩ := b2U BK605) | ((with_reducible refine gcU 117 rfl ?_); refine goU (some 5) Tryz.func117 #[.agg #[.int .i64 a0_0, .int .i64 a0_1]] ?_; (with_reducible refine (spec_daGood.calls a0_0 a0_1 false _ A2.out).mono ?_); rintro e w12 ⟨rfl, hb⟩; refine ⟨_, rfl, ?_⟩; replace BK605 := bbU BK605 hb; replace HB := bsU hb; (try clear hb)))
  go_ret2
  exact ⟨errU, hbU⟩
def spec_DrawParseDart.f (k : Nat) (l0 : List Int) : Option (ByteArray) := (spec_l1Cur_sureDart.f l0 0 0).bind fun bt609 => ((spec_daText.f k bt609.1 bt609.2.1).bind fun t613 => ((spec_l1Cur_one.f l0 bt609.2.2.1 bt609.2.2.2 3).bind fun bt614 => (if bt614.1 = true then ((spec_l1Cur_spoilt.f k l0 bt614.2.1 bt614.2.2 t613 (⟨#[48, 49, 50, 53, 100, 116, 120]⟩ : ByteArray)).bind fun bt617 => (some bt617.1)) else (some t613))))
theorem spec_DrawParseDart.mono : ∀ a0 k, LeO (spec_DrawParseDart.f k a0) (spec_DrawParseDart.f (k + 1) a0) := by
 intro a0 k
 unfold spec_DrawParseDart.f
 repeat' first
   | (with_reducible exact spec_daText.mono _ _ _)
   | (with_reducible exact spec_l1Cur_spoilt.mono _ _ _ _ _ _)
   | (with_reducible exact LeO.refl _)
   | (with_reducible exact LeO.none _)
   | (with_reducible refine LeO.ite ?_ ?_)
   | (with_reducible refine LeO.bind ?_ (fun _ => ?_))
set_option maxHeartbeats 8000000 in
set_option maxRecDepth 100000 in
theorem spec_DrawParseDart.calls (k : Nat) (A0 : Option Addr) (c0 : Nat) (l0 : List Int) (r : ByteArray) (w : World) (hr0 : Kd.C (Kd.int .u8) w A0 l0.length l0) (hc0 : l0.length ≤ c0) (h : spec_DrawParseDart.f k l0 = some r) :
  Calls Tryz.prog 59 #[.slice A0 l0.length c0] w fun e w' => e = .returned (.string r) ∧ Below w.heap.size w w' := by
 have hu78 := Tryz.underlying78
 have HR0 := aU hr0
 have HC0 := aU hc0
 clear hr0 hc0
 have HB := aU (Below.refl w.heap.size w)
 have H : ((spec_l1Cur_sureDart.f l0 0 0).bind fun bt609 => ((spec_daText.f k bt609.1 bt609.2.1).bind fun t613 => ((spec_l1Cur_one.f l0 bt609.2.2.1 bt609.2.2.2 3).bind fun bt614 => (if bt614.1 = true then ((spec_l1Cur_spoilt.f k l0 bt614.2.1 bt614.2.2 t613 (⟨#[48, 49, 50, 53, 100, 116, 120]⟩ : ByteArray)).bind fun bt617 => (some bt617.1)) else (some t613))))) = some r := h
 clear h
 replace H := bindS H
 obtain ⟨⟨t609, t610, t611, t612⟩, A2, H⟩ := H
 (try dsimp only at H)
 replace H := bindS H
 obtain ⟨t613, A3, H⟩ := H
 (try dsimp only at H)
 replace H := bindS H
 obtain ⟨⟨t614, t615, t616⟩, A4, H⟩ := H
 (try dsimp only at H)
 by_cases c5 : t614 = true
 ·subst c5
  rw [if_pos rfl] at H
  replace H := bindS H
  obtain ⟨⟨t617, t618, t619⟩, A6, H⟩ := H
  (try dsimp only at H)
  obtain rfl := Option.some.inj H
  go_enter Tryz.func59, Tryz.ntmps59
  go_wp2_with (first | ((with_reducible refine gdU 7 rfl ?_); refine bxU (cs := #[.slice A0 l0.length c0, .int .i64 0, .int .u64 0]) (t := 78) ?_; intro gb608 hg w7 hbox hb; have HI608 := aU ((⟨_, _, hbox, (by rw [hg]; exact (below_size hbU) : w.heap.size ≤ gb608), HR0.out⟩ : IsS78 w w7 gb608 l0 0 0)); have GW608 := geU hg; have GE608 := geU hg; replace HB := bsU hb; clear hb hbox hg) | ((with_reducible refine gcU 104 rfl ?_); refine goU (some 9) Tryz.func104 #[.pointer (some ⟨gb608, 0, none⟩)] ?_; (with_reducible refine (spec_l1Cur_sureDart.calls gb608 l0 0 0 t609 t610 t611 t612 w _ ?side1 ?side2 A2.out).mono ?_); (case side1 => exact isU HI608); (case side2 => exact hbU); rintro e w8 ⟨rfl, hi, hb, hk⟩; refine ⟨_, rfl, ?_⟩; replace HB := aU (hb); replace HI608 := aU (hi); (try clear hi hb hk)) | ((with_reducible refine gcU 118 rfl ?_); refine goU (some 10) Tryz.func118 #[.agg #[.int .i64 t609, .int .i64 t610]] ?_; (with_reducible refine (spec_daText.calls k t609 t610 t613 _ A3.out).mono ?_); rintro e w9 ⟨rfl, hb⟩; refine ⟨_, rfl, ?_⟩; replace HI608 := aU (IsS78.below (isU HI608) hb); replace HB := bsU hb; (try clear hb)) | ((with_reducible refine gcU 91 rfl ?_); refine goU (some 12) Tryz.func91 #[.pointer (some ⟨gb608, 0, none⟩), .int .i64 3] ?_; (with_reducible refine (spec_l1Cur_one.calls gb608 l0 t611 t612 3 true t615 t616 w _ ?side1 ?side2 A4.out).mono ?_); (case side1 => exact isU HI608); (case side2 => exact hbU); rintro e w10 ⟨rfl, hi, hb, hk⟩; refine ⟨_, rfl, ?_⟩; replace HB := aU (hb); replace HI608 := aU (hi); (try clear hi hb hk)) | ((with_reducible refine gcU 98 rfl ?_); refine goU (some 15) Tryz.func98 #[.pointer (some ⟨gb608, 0, none⟩), .string t613, .string (⟨#[48, 49, 50, 53, 100, 116, 120]⟩ : ByteArray)] ?_; (with_reducible refine (spec_l1Cur_spoilt.calls k gb608 l0 t615 t616 t613 (⟨#[48, 49, 50, 53, 100, 116, 120]⟩ : ByteArray) t617 t618 t619 w _ ?side1 ?side2 A6.out).mono ?_); (case side1 => exact isU HI608); (case side2 => exact hbU); rintro e w11 ⟨rfl, hi, hb, hk⟩; refine ⟨_, rfl, ?_⟩; replace HB := aU (hb); replace HI608 := aU (hi); (try clear hi hb hk)))
  go_ret
  exact ⟨errU, hbU⟩
 ·replace c5 := Bool.eq_false_iff.mpr c5
  subst c5
  rw [if_neg (show ¬ (false = true) by decide)] at H
  obtain rfl := Option.some.inj H
  go_enter Tryz.func59, Tryz.ntmps59
  go_wp2_with (first | ((with_reducible refine gdU 7 rfl ?_); refine bxU (cs := #[.slice A0 l0.length c0, .int .i64 0, .int .u64 0]) (t := 78) ?_; intro gb608 hg w12 hbox hb; have HI608 := aU ((⟨_, _, hbox, (by rw [hg]; exact (below_size hbU) : w.heap.size ≤ gb608), HR0.out⟩ : IsS78 w w12 gb608 l0 0 0)); have GW608 := geU hg; have GE608 := geU hg; replace HB := bsU hb; clear hb hbox hg) | ((with_reducible refine gcU 104 rfl ?_); refine goU (some 9) Tryz.func104 #[.pointer (some ⟨gb608, 0, none⟩)] ?_; (with_reducible refine (spec_l1Cur_sureDart.calls gb608 l0 0 0 t609 t610 t611 t612 w _ ?side1 ?side2 A2.out).mono ?_); (case side1 => exact isU HI608); (case side2 => exact hbU); rintro e w13 ⟨rfl, hi, hb, hk⟩; refine ⟨_, rfl, ?_⟩; replace HB := aU (hb); replace HI608 := aU (hi); (try clear hi hb hk)) | ((with_reducible refine gcU 118 rfl ?_); refine goU (some 10) Tryz.func118 #[.agg #[.int .i64 t609, .int .i64 t610]] ?_; (with_reducible refine (spec_daText.calls k t609 t610 t613 _ A3.out).mono ?_); rintro e w14 ⟨rfl, hb⟩; refine ⟨_, rfl, ?_⟩; replace HI608 := aU (IsS78.below (isU HI608) hb); replace HB := bsU hb; (try clear hb)) | ((with_reducible refine gcU 91 rfl ?_); refine goU (some 12) Tryz.func91 #[.pointer (some ⟨gb608, 0, none⟩), .int .i64 3] ?_; (with_reducible refine (spec_l1Cur_one.calls gb608 l0 t611 t612 3 false t615 t616 w _ ?side1 ?side2 A4.out).mono ?_); (case side1 => exact isU HI608); (case side2 => exact hbU); rintro e w15 ⟨rfl, hi, hb, hk⟩; refine ⟨_, rfl, ?_⟩; replace HB := aU (hb); replace HI608 := aU (hi); (try clear hi hb hk)))
  go_ret
  exact ⟨errU, hbU⟩
def spec_ParseDart.f (k : Nat) (a0 : ByteArray) : Option (Int × Int × Bool) := (spec_daParse.f k a0).bind fun bt621 => (if bt621.2.2 = true then (some (bt621.1, bt621.2.1, true)) else (some (0, 0, false)))
theorem spec_ParseDart.mono : ∀ a0 k, LeO (spec_ParseDart.f k a0) (spec_ParseDart.f (k + 1) a0) := by
 intro a0 k
 unfold spec_ParseDart.f
 repeat' first
   | (with_reducible exact spec_daParse.mono _ _)
   | (with_reducible exact LeO.refl _)
   | (with_reducible exact LeO.none _)
   | (with_reducible refine LeO.ite ?_ ?_)
   | (with_reducible refine LeO.bind ?_ (fun _ => ?_))
set_option maxHeartbeats 8000000 in
set_option maxRecDepth 100000 in
theorem spec_ParseDart.calls (k : Nat) (a0 : ByteArray) (r1 : Int) (r2 : Int) (r3 : Bool) (w : World) (h : spec_ParseDart.f k a0 = some (r1, r2, r3)) :
  Calls Tryz.prog 61 #[.string a0] w fun e w' => e = .returned (.tuple #[.agg #[.int .i64 r1, .int .i64 r2], .bool r3]) ∧ Below w.heap.size w w' := by
 have hu52 := Tryz.underlying52
 have HB := aU (Below.refl w.heap.size w)
 have H : ((spec_daParse.f k a0).bind fun bt621 => (if bt621.2.2 = true then (some (bt621.1, bt621.2.1, true)) else (some (0, 0, false)))) = some (r1, r2, r3) := h
 clear h
 replace H := bindS H
 obtain ⟨⟨t621, t622, t623⟩, A2, H⟩ := H
 (try dsimp only at H)
 by_cases c3 : t623 = true
 ·subst c3
  rw [if_pos rfl] at H
  simp only [Option.some.injEq, Prod.mk.injEq] at H
  obtain ⟨rfl, rfl, rfl⟩ := H
  go_enter Tryz.func61, Tryz.ntmps61
  go_wp2_with (first | ((with_reducible refine gdU 2 rfl ?_); refine bxU (cs := #[.int .i64 0, .int .i64 0]) (t := 52) ?_; intro gb620 hg w4 hbox hb; have BK620 := aU (hbox); have GW620 := geU hg; have GE620 := geU hg; replace HB := bsU hb; clear hb hbox hg) | ((with_reducible refine gcU 115 rfl ?_); refine goU (some 8) Tryz.func115 #[.string a0] ?_; (with_reducible refine (spec_daParse.calls k a0 t621 t622 true _ A2.out).mono ?_); rintro e w5 ⟨rfl, hb⟩; refine ⟨_, rfl, ?_⟩; replace BK620 := bbU BK620 hb; replace HB := bsU hb; (try clear hb)) | ((with_reducible refine gdU 4 rfl ?_); refine bxU (cs := #[.int .i64 0, .int .i64 0]) (t := 52) ?_; intro gb624 hg w6 hbox hb; have BK624 := aU (hbox); have GW624 := geU hg; have GE624 := geU hg; replace HB := bsU hb; have NB620_624 := neU BK620 hg; have NB624_620 := enU BK620 hg; replace BK620 := bbU BK620 hb; clear hb hbox hg; have hnb7 := NB624_620.out; have hnc7 := NB620_624.out; obtain ⟨hcz8_0, hcz8_1, hfz8_0, hfz8_1⟩ := b2U BK624; obtain ⟨hcz9_0, hcz9_1, hfz9_0, hfz9_1⟩ := b2U BK620))
  refine bodyPost_ret (results_ct rfl _ _ gb620 52 #[.int .i64 t621, .int .i64 t622] (0, 0) _ rfl bkU Tryz.underlying52 rfl (by kernel_rfl)) rfl ?_
  exact ⟨errU, hbU⟩
 ·replace c3 := Bool.eq_false_iff.mpr c3
  subst c3
  rw [if_neg (show ¬ (false = true) by decide)] at H
  simp only [Option.some.injEq, Prod.mk.injEq] at H
  obtain ⟨rfl, rfl, rfl⟩ := H
  go_enter Tryz.func61, Tryz.ntmps61
  go_wp2_with (first | ((with_reducible refine gdU 2 rfl ?_); refine bxU (cs := #[.int .i64 0, .int .i64 0]) (t := 52) ?_; intro gb620 hg w10 hbox hb; have BK620 := aU (hbox); have GW620 := geU hg; have GE620 := geU hg; replace HB := bsU hb; clear hb hbox hg) | ((with_reducible refine gcU 115 rfl ?_); refine goU (some 8) Tryz.func115 #[.string a0] ?_; (with_reducible refine (spec_daParse.calls k a0 t621 t622 false _ A2.out).mono ?_); rintro e w11 ⟨rfl, hb⟩; refine ⟨_, rfl, ?_⟩; replace BK620 := bbU BK620 hb; replace HB := bsU hb; (try clear hb)) | ((with_reducible refine gdU 4 rfl ?_); refine bxU (cs := #[.int .i64 0, .int .i64 0]) (t := 52) ?_; intro gb624 hg w12 hbox hb; have BK624 := aU (hbox); have GW624 := geU hg; have GE624 := geU hg; replace HB := bsU hb; have NB620_624 := neU BK620 hg; have NB624_620 := enU BK620 hg; replace BK620 := bbU BK620 hb; clear hb hbox hg; have hnb13 := NB624_620.out; have hnc13 := NB620_624.out; obtain ⟨hcz14_0, hcz14_1, hfz14_0, hfz14_1⟩ := b2U BK624; obtain ⟨hcz15_0, hcz15_1, hfz15_0, hfz15_1⟩ := b2U BK620))
  refine bodyPost_ret (results_ct rfl _ _ gb620 52 #[.int .i64 0, .int .i64 0] (0, 0) _ rfl bkU Tryz.underlying52 rfl (by kernel_rfl)) rfl ?_
  exact ⟨errU, hbU⟩
def spec_DrawBesideOf.f (l0 : List Int) : Option (Int) := (spec_l1Cur_pick.f l0 0 0 23).bind fun bt626 => (some (wrap64 (bt626.1 - 1)))
set_option maxHeartbeats 8000000 in
set_option maxRecDepth 100000 in
theorem spec_DrawBesideOf.calls (A0 : Option Addr) (c0 : Nat) (l0 : List Int) (r : Int) (w : World) (hr0 : Kd.C (Kd.int .u8) w A0 l0.length l0) (hc0 : l0.length ≤ c0) (h : spec_DrawBesideOf.f l0 = some r) :
  Calls Tryz.prog 62 #[.slice A0 l0.length c0] w fun e w' => e = .returned (.int .i64 r) ∧ Below w.heap.size w w' := by
 have hu78 := Tryz.underlying78
 have HR0 := aU hr0
 have HC0 := aU hc0
 clear hr0 hc0
 have HB := aU (Below.refl w.heap.size w)
 have H : ((spec_l1Cur_pick.f l0 0 0 23).bind fun bt626 => (some (wrap64 (bt626.1 - 1)))) = some r := h
 clear h
 replace H := bindS H
 obtain ⟨⟨t626, t627, t628⟩, A2, H⟩ := H
 (try dsimp only at H)
 obtain rfl := Option.some.inj H
 go_enter Tryz.func62, Tryz.ntmps62
 go_wp2_with (first | ((with_reducible refine gdU 6 rfl ?_); refine bxU (cs := #[.slice A0 l0.length c0, .int .i64 0, .int .u64 0]) (t := 78) ?_; intro gb625 hg w3 hbox hb; have HI625 := aU ((⟨_, _, hbox, (by rw [hg]; exact (below_size hbU) : w.heap.size ≤ gb625), HR0.out⟩ : IsS78 w w3 gb625 l0 0 0)); have GW625 := geU hg; have GE625 := geU hg; replace HB := bsU hb; clear hb hbox hg) | ((with_reducible refine gcU 92 rfl ?_); refine goU (some 8) Tryz.func92 #[.pointer (some ⟨gb625, 0, none⟩), .int .i64 23] ?_; (with_reducible refine (spec_l1Cur_pick.calls gb625 l0 0 0 23 t626 t627 t628 w _ ?side1 ?side2 A2.out).mono ?_); (case side1 => exact isU HI625); (case side2 => exact hbU); rintro e w4 ⟨rfl, hi, hb, hk⟩; refine ⟨_, rfl, ?_⟩; replace HB := aU (hb); replace HI625 := aU (hi); (try clear hi hb hk)))
 go_ret
 exact ⟨errU, hbU⟩
def slices_Index_int_int.l0 : Nat → List Int → Int → Int → Int → Option (Int)
 | 0, _, _, _, _ => none
 | k + 1, x0, x1, x7, x8 => if x8 < x7 then (if 0 ≤ x8 then (if x8 < (x0.length : Int) then (if x1 = (rd x0 x8) then (some x8) else (slices_Index_int_int.l0 k x0 x1 x7 (wrap64 (x8 + 1)))) else (none)) else (none)) else (some (-1))
def slices_Index_int_int.f (k : Nat) (l0 : List Int) (a1 : Int) : Option (Int) := slices_Index_int_int.l0 k l0 a1 (l0.length : Int) 0
theorem slices_Index_int_int.mono_l : ∀ k, (∀ y0 y1 y2 y3, LeO (slices_Index_int_int.l0 k y0 y1 y2 y3) (slices_Index_int_int.l0 (k + 1) y0 y1 y2 y3))
 | 0 => fun _ _ _ _ r h => by simp [slices_Index_int_int.l0] at h
 | k + 1 => by
  have ih0 := slices_Index_int_int.mono_l k
  all_goals intros
  all_goals first | unfold slices_Index_int_int.l0
  all_goals repeat' first
  | (with_reducible exact ih0 _ _ _ _)
  | (with_reducible exact LeO.refl _)
  | (with_reducible exact LeO.none _)
  | (with_reducible refine LeO.ite ?_ ?_)
  | (with_reducible refine LeO.bind ?_ (fun _ => ?_))
theorem slices_Index_int_int.mono : ∀ a0 a1 k, LeO (slices_Index_int_int.f k a0 a1) (slices_Index_int_int.f (k + 1) a0 a1) := by
 intro a0 a1 k
 have ih0 := slices_Index_int_int.mono_l k
 unfold slices_Index_int_int.f
 repeat' first
   | (with_reducible exact ih0 _ _ _ _)
   | (with_reducible exact LeO.refl _)
   | (with_reducible exact LeO.none _)
   | (with_reducible refine LeO.ite ?_ ?_)
   | (with_reducible refine LeO.bind ?_ (fun _ => ?_))
set_option maxHeartbeats 8000000 in
set_option maxRecDepth 100000 in
theorem slices_Index_int_int.calls (k : Nat) (A0 : Option Addr) (c0 : Nat) (l0 : List Int) (a1 : Int) (r : Int) (w : World) (hr0 : Kd.C (Kd.int .i64) w A0 l0.length l0) (hc0 : l0.length ≤ c0) (h : slices_Index_int_int.f k l0 a1 = some r) :
  Calls Tryz.prog 120 #[.slice A0 l0.length c0, .int .i64 a1] w fun e w' => e = .returned (.int .i64 r) ∧ Drawn0 w w' := by
 have HR0 := aU hr0
 have HC0 := aU hc0
 clear hr0 hc0
 have H : (slices_Index_int_int.l0 k l0 a1 (l0.length : Int) 0) = some r := h
 clear h
 have H' := aU H
 clear H
 go_enter Tryz.func120, Tryz.ntmps120
 go_wp2
 go_loopg [8] k (fun kq v8 w' => ∃ (x8_1 : Int), v8 = .int .i64 x8_1 ∧ Aside0 (slices_Index_int_int.l0 kq l0 a1 (l0.length : Int) x8_1 = some r) ∧ Aside0 (kq ≤ k) ∧ Drawn0 w w')
 case atStart => exact ⟨(0), eqU, H', ⟨Nat.le_refl _⟩, by repeat (first | exact Drawn0.refl _ | apply Drawn0.step)⟩
 case round =>
  clear H'
  obtain ⟨x8_1, rfl, HA, HK1, ⟨m1, rfl⟩⟩ := hrel
  cases gk with
  | zero => exact absurd HA.out (by simp [slices_Index_int_int.l0])
  | succ k1 =>
   have H := HA.out
   clear HA
   simp only [slices_Index_int_int.l0] at H
   by_cases c3 : x8_1 < (l0.length : Int)
   ·rw [if_pos c3] at H
    have c3b0 : decide (x8_1 < (l0.length : Int)) = true := decide_eq_true c3
    clear c3
    replace H := ifS H
    obtain ⟨c4, H⟩ := H
    have c4b0 : decide (0 ≤ x8_1) = true := decide_eq_true c4
    clear c4
    replace H := ifS H
    obtain ⟨c5, H⟩ := H
    have c5b0 : decide (x8_1 < (l0.length : Int)) = true := decide_eq_true c5
    clear c5
    by_cases c6 : a1 = (rd l0 x8_1)
    ·rw [if_pos c6] at H
     have c6b0 : (a1 == (rd l0 x8_1)) = true := beq_iff_eq.mpr c6
     have c6b1 : (a1 != (rd l0 x8_1)) = false := bne_eq_false_iff_eq.mpr c6
     clear c6
     obtain rfl := Option.some.inj H
     have p629 : 0 ≤ (x8_1 : Int) := dU
     have q629 : x8_1 < (l0.length : Int) := dU
     obtain ⟨ad629, e629, hx629_0⟩ := Kd.at_int HR0.out x8_1 p629 q629
     cases e629
     replace p629 := eq_true p629
     replace q629 := eq_true q629
     go_wp2
     go_ret
     exact ⟨by first | rfl | (simp; done) | (simp [*]; done), by repeat (first | exact Drawn0.refl _ | apply Drawn0.step)⟩
    ·rw [if_neg c6] at H
     have c6b0 : (a1 == (rd l0 x8_1)) = false := beq_eq_false_iff_ne.mpr c6
     have c6b1 : (a1 != (rd l0 x8_1)) = true := bne_iff_ne.mpr c6
     have H' := aU H
     clear H
     have p629 : 0 ≤ (x8_1 : Int) := dU
     have q629 : x8_1 < (l0.length : Int) := dU
     obtain ⟨ad629, e629, hx629_0⟩ := Kd.at_int HR0.out x8_1 p629 q629
     cases e629
     replace p629 := eq_true p629
     replace q629 := eq_true q629
     go_wp2
     go_roundg k1
     case measure => have := HK1.out; omega
     case rel => exact ⟨(wrap64 (x8_1 + 1)), eqU, H', ⟨by have := HK1.out; omega⟩, by repeat (first | exact Drawn0.refl _ | apply Drawn0.step)⟩
   ·rw [if_neg c3] at H
    have c3b0 : decide (x8_1 < (l0.length : Int)) = false := decide_eq_false c3
    clear c3
    obtain rfl := Option.some.inj H
    go_wp2
    go_ret
    exact ⟨by first | rfl | (simp; done) | (simp [*]; done), by repeat (first | exact Drawn0.refl _ | apply Drawn0.step)⟩
def impl_ring.f  : Option (List Int) := some (([20, 1, 18, 4, 13, 6, 10, 15, 2, 17, 3, 19, 7, 16, 8, 11, 14, 9, 12, 5] : List Int))
set_option maxHeartbeats 8000000 in
set_option maxRecDepth 100000 in
theorem impl_ring.calls  (r : List Int) (w : World) (h : impl_ring.f  = some r) :
  Calls Tryz.prog 121 #[] w fun e w' => ∃ v0_ : Value, e = .returned (v0_) ∧ Kd.R (Kd.int .i64) 3 w' w.heap.size (fun _ => True) v0_ r ∧ Below w.heap.size w w' := by
 have HB := aU (Below.refl w.heap.size w)
 have H : (some (([20, 1, 18, 4, 13, 6, 10, 15, 2, 17, 3, 19, 7, 16, 8, 11, 14, 9, 12, 5] : List Int))) = some r := h
 clear h
 obtain ⟨y630, hy630⟩ : ∃ y_ : List Int, y_ = (([20, 1, 18, 4, 13, 6, 10, 15, 2, 17, 3, 19, 7, 16, 8, 11, 14, 9, 12, 5] : List Int)) := ⟨_, rfl⟩
 replace H : (some y630) = some r := by first | (rw [hy630]; with_reducible exact H) | (have H2_ := (Option.bind_some _ _).symm.trans H; rw [hy630]; with_reducible exact H2_) | (have H2_ := (Option.bind_some _ _).symm.trans H; with_reducible exact H2_) | with_reducible exact H | (rw [hy630]; exact H) | exact H
 have Ny630 := aU hy630
 clear hy630
 obtain rfl := Option.some.inj H
 go_enter Tryz.func121, Tryz.ntmps121
 go_wp2_with (first | ((with_reducible refine gdU 1 rfl ?_); refine Kd.R_lit (Kd.int .i64) _ 3 ?hg (N := 1) ?hd (xs := ([20, 1, 18, 4, 13, 6, 10, 15, 2, 17, 3, 19, 7, 16, 8, 11, 14, 9, 12, 5] : List Int)) (inner := [.int .i64 20, .int .i64 1, .int .i64 18, .int .i64 4, .int .i64 13, .int .i64 6, .int .i64 10, .int .i64 15, .int .i64 2, .int .i64 17, .int .i64 3, .int .i64 19, .int .i64 7, .int .i64 16, .int .i64 8, .int .i64 11, .int .i64 14, .int .i64 9, .int .i64 12, .int .i64 5]) (ok := fun _ => True) (okp := fun _ => True) ?hr ?hp (fun _ hk => hk) trivial (Below.refl _ _) (Nat.le_refl _) (by simp) ?_; (case hd => rfl); (case hg => rfl); (case hr => first | (go_simp; done) | (go_simp; rfl)); (case hp => exact (Reps.one (show Kd.M (Kd.int .i64) _ _ _ 20 [.int .i64 20] from rfl) (Reps.one (show Kd.M (Kd.int .i64) _ _ _ 1 [.int .i64 1] from rfl) (Reps.one (show Kd.M (Kd.int .i64) _ _ _ 18 [.int .i64 18] from rfl) (Reps.one (show Kd.M (Kd.int .i64) _ _ _ 4 [.int .i64 4] from rfl) (Reps.one (show Kd.M (Kd.int .i64) _ _ _ 13 [.int .i64 13] from rfl) (Reps.one (show Kd.M (Kd.int .i64) _ _ _ 6 [.int .i64 6] from rfl) (Reps.one (show Kd.M (Kd.int .i64) _ _ _ 10 [.int .i64 10] from rfl) (Reps.one (show Kd.M (Kd.int .i64) _ _ _ 15 [.int .i64 15] from rfl) (Reps.one (show Kd.M (Kd.int .i64) _ _ _ 2 [.int .i64 2] from rfl) (Reps.one (show Kd.M (Kd.int .i64) _ _ _ 17 [.int .i64 17] from rfl) (Reps.one (show Kd.M (Kd.int .i64) _ _ _ 3 [.int .i64 3] from rfl) (Reps.one (show Kd.M (Kd.int .i64) _ _ _ 19 [.int .i64 19] from rfl) (Reps.one (show Kd.M (Kd.int .i64) _ _ _ 7 [.int .i64 7] from rfl) (Reps.one (show Kd.M (Kd.int .i64) _ _ _ 16 [.int .i64 16] from rfl) (Reps.one (show Kd.M (Kd.int .i64) _ _ _ 8 [.int .i64 8] from rfl) (Reps.one (show Kd.M (Kd.int .i64) _ _ _ 11 [.int .i64 11] from rfl) (Reps.one (show Kd.M (Kd.int .i64) _ _ _ 14 [.int .i64 14] from rfl) (Reps.one (show Kd.M (Kd.int .i64) _ _ _ 9 [.int .i64 9] from rfl) (Reps.one (show Kd.M (Kd.int .i64) _ _ _ 12 [.int .i64 12] from rfl) (Reps.one (show Kd.M (Kd.int .i64) _ _ _ 5 [.int .i64 5] from rfl) (Reps.none _ _)))))))))))))))))))))); intro v631 w1 ho2 hb hg_ hnew_; clear hg_ hnew_; (first | rw [← Ny630.out] at ho2 | (simp only [Int.reduceToNat] at ho2; rw [← Ny630.out] at ho2)); have HO632 := aU (Kd.R_lower ho2 (below_size hbU)); replace HB := bsU hb; clear hb ho2))
 go_ret
 exact ⟨_, errU, by (with_reducible repeat (first | apply Kd.R_alloc | apply Kd.R_drewN | apply Kd.R_drew)); exact HO632.out, hbU⟩
def impl_BesideOf.f (k : Nat) (a0 : Int) : Option (Int × Int × Bool) := (impl_ring.f).bind fun t633 => ((slices_Index_int_int.f k t633 a0).bind fun t636 => (if t636 < 0 then (some (0, 0, false)) else ((impl_ring.f).bind fun t637 => (if 0 ≤ (Int.tmod (wrap64 (t636 + 19)) 20) then (if (Int.tmod (wrap64 (t636 + 19)) 20) < (t637.length : Int) then ((impl_ring.f).bind fun t641 => (if 0 ≤ (Int.tmod (wrap64 (t636 + 1)) 20) then (if (Int.tmod (wrap64 (t636 + 1)) 20) < (t641.length : Int) then (some (rd t637 (Int.tmod (wrap64 (t636 + 19)) 20), rd t641 (Int.tmod (wrap64 (t636 + 1)) 20), true)) else (none)) else (none))) else (none)) else (none)))))
theorem impl_BesideOf.mono : ∀ a0 k, LeO (impl_BesideOf.f k a0) (impl_BesideOf.f (k + 1) a0) := by
 intro a0 k
 unfold impl_BesideOf.f
 repeat' first
   | (with_reducible exact slices_Index_int_int.mono _ _ _)
   | (with_reducible exact LeO.refl _)
   | (with_reducible exact LeO.none _)
   | (with_reducible refine LeO.ite ?_ ?_)
   | (with_reducible refine LeO.bind ?_ (fun _ => ?_))
def impl_BesideOf.T4 : Bool × List (List Nat × List Nat) := (true, [([], []), ([], []), ([1], [1]), ([2], [2]), ([0, 3], [0, 3]), ([4], [4]), ([0], []), ([], []), ([7], [7]), ([8], [8]), ([6, 9], [6, 9]), ([10], [10]), ([5, 6, 0, 1, 2, 3, 4, 5], [5]), ([11, 12, 0, 1, 2, 3, 4, 5, 6, 7, 8, 9, 10, 11, 12], [11]), ([13, 0, 1, 2, 3, 4, 5, 6, 7, 8, 9, 10, 11, 12, 13], [])])
def impl_BesideOf.B4 : List Nat := [0, 0, 2, 6, 15, 31, 1, 0, 128, 384, 961, 1985, 127, 8191, 16383]
theorem impl_BesideOf.tab4 : rtab .any (opsOf Tryz.f63 4) = impl_BesideOf.T4 := by kernel_rfl
theorem impl_BesideOf.bits4 : waitsOk impl_BesideOf.T4.2 impl_BesideOf.B4 = true := by kernel_rfl
set_option maxHeartbeats 8000000 in
set_option maxRecDepth 100000 in
theorem impl_BesideOf.calls (k : Nat) (a0 : Int) (r1 : Int) (r2 : Int) (r3 : Bool) (w : World) (h : impl_BesideOf.f k a0 = some (r1, r2, r3)) :
  Calls Tryz.prog 63 #[.int .i64 a0] w fun e w' => e = .returned (.tuple #[.int .i64 r1, .int .i64 r2, .bool r3]) ∧ Below w.heap.size w w' := by
 have HB := aU (Below.refl w.heap.size w)
 have H : ((impl_ring.f).bind fun t633 => ((slices_Index_int_int.f k t633 a0).bind fun t636 => (if t636 < 0 then (some (0, 0, false)) else ((impl_ring.f).bind fun t637 => (if 0 ≤ (Int.tmod (wrap64 (t636 + 19)) 20) then (if (Int.tmod (wrap64 (t636 + 19)) 20) < (t637.length : Int) then ((impl_ring.f).bind fun t641 => (if 0 ≤ (Int.tmod (wrap64 (t636 + 1)) 20) then (if (Int.tmod (wrap64 (t636 + 1)) 20) < (t641.length : Int) then (some (rd t637 (Int.tmod (wrap64 (t636 + 19)) 20), rd t641 (Int.tmod (wrap64 (t636 + 1)) 20), true)) else (none)) else (none))) else (none)) else (none)))))) = some (r1, r2, r3) := h
 clear h
 replace H := bindS H
 obtain ⟨t633, A2, H⟩ := H
 (try dsimp only at H)
 replace H := bindS H
 obtain ⟨t636, A3, H⟩ := H
 (try dsimp only at H)
 by_cases c4 : t636 < 0
 ·rw [if_pos c4] at H
  have c4b0 : decide (t636 < 0) = true := decide_eq_true c4
  clear c4
  simp only [Option.some.injEq, Prod.mk.injEq] at H
  obtain ⟨rfl, rfl, rfl⟩ := H
  go_enter Tryz.func63, Tryz.ntmps63
  go_wp2_with (first | ((with_reducible refine gcU 121 rfl ?_); refine goU (some 6) Tryz.func121 #[] ?_; (with_reducible refine (impl_ring.calls  t633 _ A2.out).mono ?_); rintro e w5 ⟨v634, rfl, ho0, hb⟩; refine ⟨_, rfl, ?_⟩; have HO635 := aU (Kd.R_lower ho0 (below_size hbU)); replace HB := bsU hb; (try clear ho0 hb); obtain ⟨Ao6, co6, eo6⟩ := Kd.R_slice HO635.out; subst eo6) | ((with_reducible refine gcU 120 rfl ?_); refine goU (some 8) Tryz.func120 #[.slice Ao6 t633.length co6, .int .i64 a0] ?_; (with_reducible refine (slices_Index_int_int.calls k _ _ t633 a0 t636 _ ?side1 ?side2 A3.out).mono ?_); (case side1 => exact rcU HO635); (case side2 => exact (Kd.R_reads' HO635.out).2.1); rintro e w' ⟨rfl, ⟨nd, rfl⟩⟩; refine ⟨_, rfl, ?_⟩))
  go_ret3
  exact ⟨errU, hbU⟩
 ·rw [if_neg c4] at H
  have c4b0 : decide (t636 < 0) = false := decide_eq_false c4
  clear c4
  replace H := bindS H
  obtain ⟨t637, A7, H⟩ := H
  (try dsimp only at H)
  obtain ⟨ji8, hji8⟩ : ∃ j_ : Int, (Int.tmod (wrap64 (t636 + 19)) 20) = j_ := ⟨_, rfl⟩
  replace H : (if 0 ≤ (ji8) then (if (ji8) < (t637.length : Int) then ((impl_ring.f).bind fun t641 => (if 0 ≤ (Int.tmod (wrap64 (t636 + 1)) 20) then (if (Int.tmod (wrap64 (t636 + 1)) 20) < (t641.length : Int) then (some (rd t637 (ji8), rd t641 (Int.tmod (wrap64 (t636 + 1)) 20), true)) else (none)) else (none))) else (none)) else (none)) = some (r1, r2, r3) := by first | (rw [hji8] at H; exact H) | (simp only [hji8] at H ⊢; exact H)
  (try rw [hji8] at A2)
  (try rw [hji8] at A3)
  (try rw [hji8] at A7)
  replace H := ifS H
  obtain ⟨c9, H⟩ := H
  have c9b0 : decide (0 ≤ (ji8)) = true := decide_eq_true c9
  clear c9
  replace H := ifS H
  obtain ⟨c10, H⟩ := H
  have c10b0 : decide ((ji8) < (t637.length : Int)) = true := decide_eq_true c10
  clear c10
  replace H := bindS H
  obtain ⟨t641, A11, H⟩ := H
  (try dsimp only at H)
  obtain ⟨ji12, hji12⟩ : ∃ j_ : Int, (Int.tmod (wrap64 (t636 + 1)) 20) = j_ := ⟨_, rfl⟩
  replace H : (if 0 ≤ (ji12) then (if (ji12) < (t641.length : Int) then (some (rd t637 (ji8), rd t641 (ji12), true)) else (none)) else (none)) = some (r1, r2, r3) := by first | (rw [hji12] at H; exact H) | (simp only [hji12] at H ⊢; exact H)
  (try rw [hji12] at A2)
  (try rw [hji12] at A3)
  (try rw [hji12] at A7)
  (try rw [hji12] at A11)
  replace H := ifS H
  obtain ⟨c13, H⟩ := H
  have c13b0 : decide (0 ≤ (ji12)) = true := decide_eq_true c13
  clear c13
  replace H := ifS H
  obtain ⟨c14, H⟩ := H
  have c14b0 : decide ((ji12) < (t641.length : Int)) = true := decide_eq_true c14
  clear c14
  simp only [Option.some.injEq, Prod.mk.injEq] at H
  obtain ⟨rfl, rfl, rfl⟩ := H
  go_enter Tryz.func63, Tryz.ntmps63
  try go_wp2_with (first | ((with_reducible refine gcU 121 rfl ?_); refine goU (some 6) Tryz.func121 #[] ?_; (with_reducible refine (impl_ring.calls  t633 _ A2.out).mono ?_); rintro e w15 ⟨v634, rfl, ho0, hb⟩; refine ⟨_, rfl, ?_⟩; have HO635 := aU (Kd.R_lower ho0 (below_size hbU)); replace HB := bsU hb; (try clear ho0 hb); obtain ⟨Ao16, co16, eo16⟩ := Kd.R_slice HO635.out; subst eo16) | ((with_reducible refine gcU 120 rfl ?_); refine goU (some 8) Tryz.func120 #[.slice Ao16 t633.length co16, .int .i64 a0] ?_; (with_reducible refine (slices_Index_int_int.calls k _ _ t633 a0 t636 _ ?side1 ?side2 A3.out).mono ?_); (case side1 => exact rcU HO635); (case side2 => exact (Kd.R_reads' HO635.out).2.1); rintro e w' ⟨rfl, ⟨nd, rfl⟩⟩; refine ⟨_, rfl, ?_⟩))
  (try (rw [drewN_self w15]; generalize hq_ : World.drewN w15 _ = w15; have n0_ : Aside0 (Kd.R (Kd.int .i64) 3 w15 w.heap.size (fun _ => True) (.slice Ao16 t633.length co16) t633) := ⟨by rw [← hq_]; exact (roU HO635)⟩; have n1_ : Aside0 (Below w.heap.size w w15) := ⟨by rw [← hq_]; exact hbU⟩; clear HO635 HB hq_; have HO635 := n0_; have HB := n1_; clear n0_ n1_))
  replace HO635 := aU (Kd.R_drew HO635.out)
  replace HB := aU (below_drew1 HB.out)
  refine start_ (n := 15) (S := fun _ => True) (ds := []) #[false, false, false, false, false, false, false, false, false, false, false, false, false, false, false] (by kernel_rfl) rfl rfl trivial (fun hHeld => ?_); refine with_tabW impl_BesideOf.tab4 impl_BesideOf.bits4 (fun HT_ HW_ => ?_)
  generalize w15.drew = w17 at HO635 HB hHeld ⊢
  refine puU 1 12 HT_ ?_
  refine puU 2 13 HT_ ?_
  refine puU 3 14 HT_ ?_
  refine puU 7 18 HT_ ?_
  refine puU 8 19 HT_ ?_
  refine puU 9 20 HT_ ?_
  refine onU 0 (some 11) HT_ (fun K hK => ?_)
  refine goes_ Tryz.func121 (by kernel_rfl) rfl #[] (by rfl) rfl rfl arU ?_
  with_reducible refine (impl_ring.calls  t637 _ A7.out).mono ?_
  rintro e w18 ⟨v638, rfl, ho0, hb⟩
  refine ⟨_, rfl, ?_⟩
  have HO639 := aU (Kd.R_lower (Kd.R_new' ho0 (Kd.R_lt (roU HO635))) (below_size hbU))
  replace HO635 := aU (Kd.R_elder' (roU HO635) (Kd.R_base ho0) hb)
  replace HB := bsU hb
  (try clear hb); (try clear ho0 ho0 ho0)
  obtain ⟨Ao19, co19, eo19⟩ := Kd.R_slice HO639.out
  (first | subst eo19 | (injection eo19 with f1_ f2_ f3_; have f4_ := f1_.symm; have f5_ := f3_.symm; clear f1_ f2_ f3_; subst f4_; subst f5_))
  have p640 : 0 ≤ ((ji8) : Int) := dU
  have q640 : (ji8) < (t637.length : Int) := dU
  obtain ⟨ad640, e640, hx640_0⟩ := Kd.at_int (Kd.R_reads' HO639.out).2.2 (ji8) p640 q640
  cases e640
  replace p640 := eq_true p640
  replace q640 := eq_true q640
  refine hK.out _ _ trivial (fun hHeld => ?_)
  clear hK K
  refine nmU 11 ?_
  refine puU 4 15 HT_ ?_
  refine two_ (i := 5) (j := 6) (Ni := some 16) (Nj := some 17) #[true, true, true, true, true, true, false, true, true, true, false, false, false, false, false] #[true, true, true, true, true, false, true, true, true, true, false, false, false, false, false] rfl rfl rfl rfl (two_of HT_.out (by kernel_rfl)) (by decide) (by decide) (fun K hK => ?_) (fun K hK => ?_)
  ·refine value_ (by rfl) rfl (by go_simp; first | exact ⟨rfl, rfl⟩ | rfl) ?_
   refine hK.out _ _ trivial (fun hHeld => ?_)
   clear hK K
   refine nmU 16 ?_
   refine onU 6 (some 17) HT_ (fun K hK => ?_)
   refine goes_ Tryz.func121 (by kernel_rfl) rfl #[] (by rfl) rfl rfl arU ?_
   with_reducible refine (impl_ring.calls  t641 _ A11.out).mono ?_
   rintro e w20 ⟨v642, rfl, ho0, hb⟩
   replace hx640_0 := (hb.cell (World.block_lt_of_cell? _ _ hx640_0)).trans hx640_0
   refine ⟨_, rfl, ?_⟩
   have HO643 := aU (Kd.R_lower (Kd.R_new' (Kd.R_new' ho0 (Kd.R_lt (roU HO635))) (Kd.R_lt (roU HO639))) (below_size hbU))
   replace HO635 := aU (Kd.R_elder' (roU HO635) (Kd.R_base ho0) hb)
   replace HO639 := aU (Kd.R_elder' (roU HO639) (Kd.R_base ho0) hb)
   replace HB := bsU hb
   (try clear hb); (try clear ho0 ho0 ho0 ho0)
   obtain ⟨Ao21, co21, eo21⟩ := Kd.R_slice HO643.out
   (first | subst eo21 | (injection eo21 with f1_ f2_ f3_; have f4_ := f1_.symm; have f5_ := f3_.symm; clear f1_ f2_ f3_; subst f4_; subst f5_))
   have p644 : 0 ≤ ((ji12) : Int) := dU
   have q644 : (ji12) < (t641.length : Int) := dU
   obtain ⟨ad644, e644, hx644_0⟩ := Kd.at_int (Kd.R_reads' HO643.out).2.2 (ji12) p644 q644
   cases e644
   replace p644 := eq_true p644
   replace q644 := eq_true q644
   refine hK.out _ _ trivial (fun hHeld => ?_)
   clear hK K
   refine nmU 17 ?_
   refine puU 10 21 HT_ ?_
   refine puU 12 2 HT_ ?_
   refine onU 11 (some 22) HT_ (fun K hK => ?_)
   refine value_ (by rfl) rfl (by go_simp; first | exact ⟨rfl, rfl⟩ | rfl) ?_
   refine hK.out _ _ trivial (fun hHeld => ?_)
   clear hK K
   refine nmU 22 ?_
   refine puU 13 3 HT_ ?_
   refine puU 14 4 HT_ ?_
   refine dnU HT_ ?_
   try go_wp2
   go_ret3
   exact ⟨by first | rfl | (simp [errW_none, errW_some] <;> rfl) | (simp only [← hji8, ← hji12]; first | rfl | (simp [errW_none, errW_some] <;> rfl)) | (simp [*, errW_none, errW_some] <;> rfl), hbU⟩
  ·refine goes_ Tryz.func121 (by kernel_rfl) rfl #[] (by rfl) rfl rfl arU ?_
   with_reducible refine (impl_ring.calls  t641 _ A11.out).mono ?_
   rintro e w20 ⟨v642, rfl, ho0, hb⟩
   replace hx640_0 := (hb.cell (World.block_lt_of_cell? _ _ hx640_0)).trans hx640_0
   refine ⟨_, rfl, ?_⟩
   have HO643 := aU (Kd.R_lower (Kd.R_new' (Kd.R_new' ho0 (Kd.R_lt (roU HO635))) (Kd.R_lt (roU HO639))) (below_size hbU))
   replace HO635 := aU (Kd.R_elder' (roU HO635) (Kd.R_base ho0) hb)
   replace HO639 := aU (Kd.R_elder' (roU HO639) (Kd.R_base ho0) hb)
   replace HB := bsU hb
   (try clear hb); (try clear ho0 ho0 ho0 ho0)
   obtain ⟨Ao21, co21, eo21⟩ := Kd.R_slice HO643.out
   (first | subst eo21 | (injection eo21 with f1_ f2_ f3_; have f4_ := f1_.symm; have f5_ := f3_.symm; clear f1_ f2_ f3_; subst f4_; subst f5_))
   have p644 : 0 ≤ ((ji12) : Int) := dU
   have q644 : (ji12) < (t641.length : Int) := dU
   obtain ⟨ad644, e644, hx644_0⟩ := Kd.at_int (Kd.R_reads' HO643.out).2.2 (ji12) p644 q644
   cases e644
   replace p644 := eq_true p644
   replace q644 := eq_true q644
   refine hK.out _ _ trivial (fun hHeld => ?_)
   clear hK K
   refine nmU 17 ?_
   refine puU 10 21 HT_ ?_
   refine two_ (i := 5) (j := 11) (Ni := some 16) (Nj := some 22) #[true, true, true, true, true, true, true, true, true, true, true, false, false, false, false] #[true, true, true, true, true, false, true, true, true, true, true, true, false, false, false] rfl rfl rfl rfl (two_of HT_.out (by kernel_rfl)) (by decide) (by decide) (fun K hK => ?_) (fun K hK => ?_)
   ·refine value_ (by rfl) rfl (by go_simp; first | exact ⟨rfl, rfl⟩ | rfl) ?_
    refine hK.out _ _ trivial (fun hHeld => ?_)
    clear hK K
    refine nmU 16 ?_
    refine puU 12 2 HT_ ?_
    refine onU 11 (some 22) HT_ (fun K hK => ?_)
    refine value_ (by rfl) rfl (by go_simp; first | exact ⟨rfl, rfl⟩ | rfl) ?_
    refine hK.out _ _ trivial (fun hHeld => ?_)
    clear hK K
    refine nmU 22 ?_
    refine puU 13 3 HT_ ?_
    refine puU 14 4 HT_ ?_
    refine dnU HT_ ?_
    try go_wp2
    go_ret3
    exact ⟨by first | rfl | (simp [errW_none, errW_some] <;> rfl) | (simp only [← hji8, ← hji12]; first | rfl | (simp [errW_none, errW_some] <;> rfl)) | (simp [*, errW_none, errW_some] <;> rfl), hbU⟩
   ·refine value_ (by rfl) rfl (by go_simp; first | exact ⟨rfl, rfl⟩ | rfl) ?_
    refine hK.out _ _ trivial (fun hHeld => ?_)
    clear hK K
    refine nmU 22 ?_
    refine onU 5 (some 16) HT_ (fun K hK => ?_)
    refine value_ (by rfl) rfl (by go_simp; first | exact ⟨rfl, rfl⟩ | rfl) ?_
    refine hK.out _ _ trivial (fun hHeld => ?_)
    clear hK K
    refine nmU 16 ?_
    refine puU 12 2 HT_ ?_
    refine puU 13 3 HT_ ?_
    refine puU 14 4 HT_ ?_
    refine dnU HT_ ?_
    try go_wp2
    go_ret3
    exact ⟨by first | rfl | (simp [errW_none, errW_some] <;> rfl) | (simp only [← hji8, ← hji12]; first | rfl | (simp [errW_none, errW_some] <;> rfl)) | (simp [*, errW_none, errW_some] <;> rfl), hbU⟩
def spec_daRing.f  : Option (List Int) := some (([20, 1, 18, 4, 13, 6, 10, 15, 2, 17, 3, 19, 7, 16, 8, 11, 14, 9, 12, 5] : List Int))
set_option maxHeartbeats 8000000 in
set_option maxRecDepth 100000 in
theorem spec_daRing.calls  (r : List Int) (w : World) (h : spec_daRing.f  = some r) :
  Calls Tryz.prog 123 #[] w fun e w' => ∃ v0_ : Value, e = .returned (v0_) ∧ Kd.R (Kd.int .i64) 3 w' w.heap.size (fun _ => True) v0_ r ∧ Below w.heap.size w w' := by
 have HB := aU (Below.refl w.heap.size w)
 have H : (some (([20, 1, 18, 4, 13, 6, 10, 15, 2, 17, 3, 19, 7, 16, 8, 11, 14, 9, 12, 5] : List Int))) = some r := h
 clear h
 obtain ⟨y645, hy645⟩ : ∃ y_ : List Int, y_ = (([20, 1, 18, 4, 13, 6, 10, 15, 2, 17, 3, 19, 7, 16, 8, 11, 14, 9, 12, 5] : List Int)) := ⟨_, rfl⟩
 replace H : (some y645) = some r := by first | (rw [hy645]; with_reducible exact H) | (have H2_ := (Option.bind_some _ _).symm.trans H; rw [hy645]; with_reducible exact H2_) | (have H2_ := (Option.bind_some _ _).symm.trans H; with_reducible exact H2_) | with_reducible exact H | (rw [hy645]; exact H) | exact H
 have Ny645 := aU hy645
 clear hy645
 obtain rfl := Option.some.inj H
 go_enter Tryz.func123, Tryz.ntmps123
 go_wp2_with (first | ((with_reducible refine gdU 1 rfl ?_); refine Kd.R_lit (Kd.int .i64) _ 3 ?hg (N := 1) ?hd (xs := ([20, 1, 18, 4, 13, 6, 10, 15, 2, 17, 3, 19, 7, 16, 8, 11, 14, 9, 12, 5] : List Int)) (inner := [.int .i64 20, .int .i64 1, .int .i64 18, .int .i64 4, .int .i64 13, .int .i64 6, .int .i64 10, .int .i64 15, .int .i64 2, .int .i64 17, .int .i64 3, .int .i64 19, .int .i64 7, .int .i64 16, .int .i64 8, .int .i64 11, .int .i64 14, .int .i64 9, .int .i64 12, .int .i64 5]) (ok := fun _ => True) (okp := fun _ => True) ?hr ?hp (fun _ hk => hk) trivial (Below.refl _ _) (Nat.le_refl _) (by simp) ?_; (case hd => rfl); (case hg => rfl); (case hr => first | (go_simp; done) | (go_simp; rfl)); (case hp => exact (Reps.one (show Kd.M (Kd.int .i64) _ _ _ 20 [.int .i64 20] from rfl) (Reps.one (show Kd.M (Kd.int .i64) _ _ _ 1 [.int .i64 1] from rfl) (Reps.one (show Kd.M (Kd.int .i64) _ _ _ 18 [.int .i64 18] from rfl) (Reps.one (show Kd.M (Kd.int .i64) _ _ _ 4 [.int .i64 4] from rfl) (Reps.one (show Kd.M (Kd.int .i64) _ _ _ 13 [.int .i64 13] from rfl) (Reps.one (show Kd.M (Kd.int .i64) _ _ _ 6 [.int .i64 6] from rfl) (Reps.one (show Kd.M (Kd.int .i64) _ _ _ 10 [.int .i64 10] from rfl) (Reps.one (show Kd.M (Kd.int .i64) _ _ _ 15 [.int .i64 15] from rfl) (Reps.one (show Kd.M (Kd.int .i64) _ _ _ 2 [.int .i64 2] from rfl) (Reps.one (show Kd.M (Kd.int .i64) _ _ _ 17 [.int .i64 17] from rfl) (Reps.one (show Kd.M (Kd.int .i64) _ _ _ 3 [.int .i64 3] from rfl) (Reps.one (show Kd.M (Kd.int .i64) _ _ _ 19 [.int .i64 19] from rfl) (Reps.one (show Kd.M (Kd.int .i64) _ _ _ 7 [.int .i64 7] from rfl) (Reps.one (show Kd.M (Kd.int .i64) _ _ _ 16 [.int .i64 16] from rfl) (Reps.one (show Kd.M (Kd.int .i64) _ _ _ 8 [.int .i64 8] from rfl) (Reps.one (show Kd.M (Kd.int .i64) _ _ _ 11 [.int .i64 11] from rfl) (Reps.one (show Kd.M (Kd.int .i64) _ _ _ 14 [.int .i64 14] from rfl) (Reps.one (show Kd.M (Kd.int .i64) _ _ _ 9 [.int .i64 9] from rfl) (Reps.one (show Kd.M (Kd.int .i64) _ _ _ 12 [.int .i64 12] from rfl) (Reps.one (show Kd.M (Kd.int .i64) _ _ _ 5 [.int .i64 5] from rfl) (Reps.none _ _)))))))))))))))))))))); intro v646 w1 ho2 hb hg_ hnew_; clear hg_ hnew_; (first | rw [← Ny645.out] at ho2 | (simp only [Int.reduceToNat] at ho2; rw [← Ny645.out] at ho2)); have HO647 := aU (Kd.R_lower ho2 (below_size hbU)); replace HB := bsU hb; clear hb ho2))
 go_ret
 exact ⟨_, errU, by (with_reducible repeat (first | apply Kd.R_alloc | apply Kd.R_drewN | apply Kd.R_drew)); exact HO647.out, hbU⟩
end Go.Proofs.YtcmlmjgoidpabaaGreatDoor.MFnDartsPlayed

