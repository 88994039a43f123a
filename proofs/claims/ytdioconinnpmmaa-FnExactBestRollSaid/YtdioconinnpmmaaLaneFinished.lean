/- What the program's function answers on a lane: for every number of frames and every list of rolls. -/
import Derived.Test.YtdioconinnpmmaaLaneR
import Derived.Test.YtdioconinnpmmaaLaneFin
set_option linter.unusedVariables false
set_option linter.unusedSimpArgs false
namespace Go.Proofs.Ytdioconinnpmmaa.Lane
open Go.RowKit Go.Proofs.YtdioconinnpmmaaW.PrintWords Go.Proofs.YtdioconinnpmmaaW.PrintLast
set_option maxRecDepth 100000 in
set_option maxHeartbeats 8000000 in
theorem finished_some (w : World) (F : Nat) (A : Option Addr) (c : Nat) (xs ys : List Int) (most : Bool) (t1 : Int) (t2 : Bool) (hr : ReadsInt w .i64 A xs.length xs) (s : List (List Int) × Int × Bool) (hv : readV (F : Int) xs = some s) (hc : xs.length ≤ c)
    (hys : ys = gameV F most (22 - xs.length) xs s)
    (HClone : ∀ w1, ReadsInt w1 .i64 A xs.length xs → Calls Try.prog 33 #[.slice A xs.length c] w1 fun e w' => ∃ v0 : Value, e = .returned v0 ∧ Kd.R (Kd.int .i64) 3 w' w1.heap.size (fun _ => True) v0 xs ∧ Below w1.heap.size w1 w')
    (HTotal : ∀ w1 A' c', Kd.C (Kd.int .i64) w1 A' ys.length ys → ys.length ≤ c' → Calls Try.prog 53 #[.int .i64 (F : Int), .slice A' ys.length c'] w1 fun e w' => e = .returned (.tuple #[.int .i64 t1, .bool t2]) ∧ Below w1.heap.size w1 w') :
    Calls Try.prog 46 #[.int .i64 (F : Int), .slice A xs.length c, .bool most] w fun e w' => e = .returned (.tuple #[.int .i64 t1, .bool t2]) ∧ Below w.heap.size w w' := by
  obtain ⟨fa, fb, hx21, hgd, hp0, hp1⟩ := read_good hv
  rw [Int.toNat_natCast] at hgd
  have hrv : rollsV F xs ([], 10, true) = some s := by
    unfold readV at hv
    rw [if_pos ⟨fa, fb, hx21⟩, Int.toNat_natCast] at hv
    exact hv
  have HR := Aside0.mk hr
  have HT := Aside0.mk HTotal
  have HCl := Aside0.mk HClone
  have HY := Aside0.mk hys
  have HG := Aside0.mk hgd
  have HRV := Aside0.mk hrv
  have HF := Aside0.mk (show 1 ≤ F ∧ F ≤ 10 by omega)
  have HP := Aside0.mk (And.intro hp0 hp1)
  have HX := Aside0.mk hx21
  clear HTotal HClone hys hgd fa fb hx21 hrv hp0 hp1 hr
  go_enter Try.func46, Try.ntmps46
  go_wp2_with (first
    | (go_at_call 30; refine (read_some hv _ _ _ HR.out).mono ?_; rintro e w' ⟨rfl, own, hl, hg, p0, p1, f0, f1, hb⟩; rw [Int.toNat_natCast] at hl; have HL := Aside0.mk hl; have HB := Aside0.mk hb; clear hl hg p0 p1 f0 f1 hb)
    | (go_at_call 33; refine (HCl.out _ ?hrd).mono ?_; (case hrd => exact HR.out.below (by repeat (first | exact HB.out | apply pw_below_drewN)));
       rintro e w1 ⟨v0, rfl, ho, hb1⟩;
       have HO := Aside0.mk (Kd.R_mono (Kd.R_bound ho) (ok' := fun k => ¬ (own k ∧ k < w'.heap.size)) (fun k hk h2 => Nat.lt_irrefl _ (Nat.lt_of_lt_of_le h2.2 hk.2.1)));
       have HL1 := Aside0.mk (HL.out.bound.step (fun k _ hk => hb1.block k hk));
       have HB1 := Aside0.mk (HB.out.trans (hb1.mono HB.out.size));
       have HS1 := Aside0.mk hb1.size;
       clear ho hb1))
  go_loopg [10] (22 - xs.length) (fun kq v10 wx => ∃ (game : List Int) (bg : List (List Int)) (p : Int) (q : Bool) (ow : Nat → Prop), Aside0 (Kd.R (Kd.int .i64) 3 wx w.heap.size (fun k => ¬ ow k) v10 game) ∧ Aside0 (LN wx w.heap.size ow w.heap.size (F : Int) bg p q) ∧
    Aside0 (∀ k, ow k → k < wx.heap.size) ∧ Aside0 (Good F bg ∧ 0 ≤ p ∧ p ≤ 10) ∧ Aside0 (Below w.heap.size w wx) ∧ Aside0 (rollsV F game ([], 10, true) = some (bg, p, q)) ∧ Aside0 (gameV F most kq game (bg, p, q) = ys) ∧ Aside0 (game.length + kq = 22))
  case atStart => exact ⟨xs, s.1, s.2.1, s.2.2, _, ⟨Kd.R_lower HO.out HB.out.size⟩, HL1, ⟨fun k hk => Nat.lt_of_lt_of_le hk.2 HS1.out⟩, ⟨HG.out, HP.out⟩, HB1, HRV, ⟨HY.out.symm⟩, ⟨by have := HX.out; omega⟩⟩
  case round =>
    clear HO HL1 HS1 HB1 HL HB HRV HG HP
    obtain ⟨game, bg, p, q, ow, HO, HL, HW, HG, HB, HRV, HY2, HK⟩ := hrel
    have hlen : game.length ≤ 21 := rolls_few HF.out.2 HRV.out HG.out.1
    obtain ⟨l1, l2, l3, k', lk, l4⟩ := g_len HK.out hlen
    have HK2 := Aside0.mk l2
    have HK3 := Aside0.mk l3
    have HK4 := Aside0.mk l1
    clear l1 l2 l3 hlen
    obtain ⟨A0, c0, e0⟩ := Kd.R_slice HO.out
    subst e0
    cases ha : allV F bg with
    | true =>
      have hg : game = ys := by
        rw [← HY2.out, lk]
        show _ = (if _ then _ else _)
        rw [if_pos ha]
      subst hg
      go_wp2_with (first
        | (go_at_call 31; refine (all_calls HL.out HF.out.1 HG.out.1.1).mono ?_; rw [ha]; rintro e w'' ⟨rfl, ⟨nd, rfl⟩⟩)
        | (go_at_call 53; refine (HT.out _ _ _ ?hC ?hc).mono ?_; (case hC => first | exact (Kd.R_reads' HO.out).2.2 | exact Kd.C_drewN (Kd.R_reads' HO.out).2.2 _); (case hc => exact (Kd.R_reads' HO.out).2.1); rintro e w9 ⟨rfl, hb9⟩))
      go_ret2
      exact ⟨rfl, by repeat (first | exact below_step HB.out hb9 | exact below_step (pw_below_drewN HB.out _) hb9 | apply pw_below_drewN)⟩
    | false =>
      obtain ⟨m0, m2, m3, _, fz, _, _⟩ := HL.out.cells
      have hm0 := ball_may most ha HG.out.2.1
      have hstep0 : gameV F most gk game (bg, p, q) = gameV F most k' (game ++ [ballV most p]) (stepV F (bg, p, q) (ballV most p)) := by
        rw [lk]
        show (if _ then _ else _) = _
        rw [if_neg (by rw [ha]; decide)]
      cases most with
      | true =>
        have hm : mayV F bg p p = true := hm0
        have hstep : gameV F true gk game (bg, p, q) = gameV F true k' (game ++ [p]) (stepV F (bg, p, q) p) := hstep0
        clear hm0 hstep0
        go_wp2_with (first
          | (go_at_call 31; refine (all_calls HL.out HF.out.1 HG.out.1.1).mono ?_; rw [ha]; rintro e w'' ⟨rfl, ⟨nd, rfl⟩⟩)
          | ((with_reducible refine gate_builtin (b := .append) (xs := #[.tmp 30, .tmp 32]) rfl ?_); at_builtin; refine Kd.R_append (Kd.int .i64) (w0 := w) w.heap.size rfl (.tmp 30) (.tmp 32) 28 3 (.int .i64 0) 8 rfl Try.underlying28 info3 rfl (by decide) (by decide) (.slice A0 game.length c0) game p [.int .i64 p] (fun k => ¬ ow k) (fun _ => False) rfl rfl ?aP (fun _ hk => hk.elim) ?aF ?aO ?aB ?aS ?aL ?_; (case aP => exact rfl); (case aB => exact (by repeat (first | exact HB.out | apply below_alloc | apply pw_below_drewN))); (case aF => exact (fun k hk ho => Nat.lt_irrefl _ (Nat.lt_of_lt_of_le (HW.out k ho) hk))); (case aO => exact (by (with_reducible repeat (first | apply Kd.R_alloc | apply Kd.R_drewN | apply Kd.R_drew)); exact HO.out)); (case aS => exact (below_size (by repeat (first | exact HB.out | apply below_alloc | apply pw_below_drewN)))); (case aL => exact HK4.out); intro v13 w13 ho hb hg hat; have HO2 := Aside0.mk ho; have HB2 := Aside0.mk hb; have HL2 := Aside0.mk (LN.step (HL.out.drawnN nd) (fun k hk hlt => hg.block k hlt (fun he => HO.out.1 k he.symm hk))); have HW2 := Aside0.mk hg; clear ho hb hg hat)
          | (go_at_call 45; refine (roll_calls _ HL2.out HF.out.1 HF.out.2 HG.out.1 HG.out.2.2).mono ?_; rw [hm]; rintro e w2 ⟨rfl, hw2⟩))
        rw [if_pos trivial] at hw2
        obtain ⟨ow', hL3, hW3⟩ := hw2
        go_roundg (gk - 1)
        case measure => exact HK3.out
        case rel =>
          refine ⟨game ++ [p], _, _, _, fun k => ow' k ∧ k < w2.heap.size, ⟨?_⟩, ⟨hL3.bound⟩, ⟨fun k hk => hk.2⟩, ⟨good_beg HF.out.1 HG.out.1 hm HG.out.2.2, ?_⟩, ⟨HB2.out.trans hW3.below⟩, ⟨rolls_more F game _ _ _ HRV.out hm⟩, ⟨?_⟩, ⟨?_⟩⟩
          · exact Kd.R_mono (Kd.R_step (Kd.R_bound HO2.out) (fun k hk hlt => hW3.kept k hlt hk.1)) (fun k hk h2 => (hW3.new k h2.1).elim hk.1 (fun h3 => Nat.lt_irrefl _ (Nat.lt_of_lt_of_le hk.2.2.1 h3)))
          · have hm2 := hm
            unfold mayV at hm2
            simp only [Bool.and_eq_true, decide_eq_true_eq] at hm2
            exact end_pins hm2.2 HG.out.2.2
          · rw [l4]
            exact hstep.symm.trans HY2.out
          · rw [List.length_append, List.length_singleton]
            exact HK2.out
      | false =>
        have hm : mayV F bg p 0 = true := hm0
        have hstep : gameV F false gk game (bg, p, q) = gameV F false k' (game ++ [0]) (stepV F (bg, p, q) 0) := hstep0
        clear hm0 hstep0
        go_wp2_with (first
          | (go_at_call 31; refine (all_calls HL.out HF.out.1 HG.out.1.1).mono ?_; rw [ha]; rintro e w'' ⟨rfl, ⟨nd, rfl⟩⟩)
          | ((with_reducible refine gate_builtin (b := .append) (xs := #[.tmp 30, .tmp 32]) rfl ?_); at_builtin; refine Kd.R_append (Kd.int .i64) (w0 := w) w.heap.size rfl (.tmp 30) (.tmp 32) 28 3 (.int .i64 0) 8 rfl Try.underlying28 info3 rfl (by decide) (by decide) (.slice A0 game.length c0) game 0 [.int .i64 0] (fun k => ¬ ow k) (fun _ => False) rfl rfl ?aP (fun _ hk => hk.elim) ?aF ?aO ?aB ?aS ?aL ?_; (case aP => exact rfl); (case aB => exact (by repeat (first | exact HB.out | apply below_alloc | apply pw_below_drewN))); (case aF => exact (fun k hk ho => Nat.lt_irrefl _ (Nat.lt_of_lt_of_le (HW.out k ho) hk))); (case aO => exact (by (with_reducible repeat (first | apply Kd.R_alloc | apply Kd.R_drewN | apply Kd.R_drew)); exact HO.out)); (case aS => exact (below_size (by repeat (first | exact HB.out | apply below_alloc | apply pw_below_drewN)))); (case aL => exact HK4.out); intro v13 w13 ho hb hg hat; have HO2 := Aside0.mk ho; have HB2 := Aside0.mk hb; have HL2 := Aside0.mk (LN.step (HL.out.drawnN nd) (fun k hk hlt => hg.block k hlt (fun he => HO.out.1 k he.symm hk))); have HW2 := Aside0.mk hg; clear ho hb hg hat)
          | (go_at_call 45; refine (roll_calls _ HL2.out HF.out.1 HF.out.2 HG.out.1 HG.out.2.2).mono ?_; rw [hm]; rintro e w2 ⟨rfl, hw2⟩))
        rw [if_pos trivial] at hw2
        obtain ⟨ow', hL3, hW3⟩ := hw2
        go_roundg (gk - 1)
        case measure => exact HK3.out
        case rel =>
          refine ⟨game ++ [0], _, _, _, fun k => ow' k ∧ k < w2.heap.size, ⟨?_⟩, ⟨hL3.bound⟩, ⟨fun k hk => hk.2⟩, ⟨good_beg HF.out.1 HG.out.1 hm HG.out.2.2, ?_⟩, ⟨HB2.out.trans hW3.below⟩, ⟨rolls_more F game _ _ _ HRV.out hm⟩, ⟨?_⟩, ⟨?_⟩⟩
          · exact Kd.R_mono (Kd.R_step (Kd.R_bound HO2.out) (fun k hk hlt => hW3.kept k hlt hk.1)) (fun k hk h2 => (hW3.new k h2.1).elim hk.1 (fun h3 => Nat.lt_irrefl _ (Nat.lt_of_lt_of_le hk.2.2.1 h3)))
          · have hm2 := hm
            unfold mayV at hm2
            simp only [Bool.and_eq_true, decide_eq_true_eq] at hm2
            exact end_pins hm2.2 HG.out.2.2
          · rw [l4]
            exact hstep.symm.trans HY2.out
          · rw [List.length_append, List.length_singleton]
            exact HK2.out
set_option maxRecDepth 100000 in
set_option maxHeartbeats 4000000 in
theorem finished_none (w : World) (F : Int) (A : Option Addr) (c : Nat) (xs : List Int) (most : Bool) (hr : ReadsInt w .i64 A xs.length xs) (hv : readV F xs = none) :
    Calls Try.prog 46 #[.int .i64 F, .slice A xs.length c, .bool most] w fun e w' => e = .returned (.tuple #[.int .i64 0, .bool false]) ∧ Below w.heap.size w w' := by
  go_enter Try.func46, Try.ntmps46
  go_wp2_with (go_at_call 30; refine (read_none hv _ _ _ hr).mono ?_; rintro e w' ⟨rfl, hb⟩)
  go_ret2
  exact ⟨rfl, by repeat (first | exact hb | apply pw_below_drewN)⟩
theorem finished_calls (w : World) (F : Int) (A : Option Addr) (c : Nat) (xs : List Int) (most : Bool) (t1 : Int) (t2 : Bool) (hr : Kd.C (Kd.int .i64) w A xs.length xs) (hc : xs.length ≤ c)
    (hn : readV F xs = none → t1 = 0 ∧ t2 = false)
    (HClone : ∀ w1, Kd.C (Kd.int .i64) w1 A xs.length xs → Calls Try.prog 33 #[.slice A xs.length c] w1 fun e w' => ∃ v0 : Value, e = .returned v0 ∧ Kd.R (Kd.int .i64) 3 w' w1.heap.size (fun _ => True) v0 xs ∧ Below w1.heap.size w1 w')
    (HTotal : (readV F xs).isSome = true → ∀ w1 A' c', Kd.C (Kd.int .i64) w1 A' (gameOf F xs most).length (gameOf F xs most) → (gameOf F xs most).length ≤ c' →
      Calls Try.prog 53 #[.int .i64 F, .slice A' (gameOf F xs most).length c'] w1 fun e w' => e = .returned (.tuple #[.int .i64 t1, .bool t2]) ∧ Below w1.heap.size w1 w') :
    Calls Try.prog 46 #[.int .i64 F, .slice A xs.length c, .bool most] w fun e w' => e = .returned (.tuple #[.int .i64 t1, .bool t2]) ∧ Below w.heap.size w w' := by
  cases hv : readV F xs with
  | none =>
    obtain ⟨rfl, rfl⟩ := hn hv
    exact finished_none w F A c xs most (of_C hr) hv
  | some s =>
    obtain ⟨f0, f1, _⟩ := read_good hv
    obtain ⟨n, rfl⟩ : ∃ n : Nat, F = (n : Int) := ⟨F.toNat, by omega⟩
    refine finished_some w n A c xs (gameOf (n : Int) xs most) most t1 t2 (of_C hr) s hv hc ?_ (fun w1 h => HClone w1 (C_of' h)) (HTotal (by rw [hv]; rfl))
    unfold gameOf
    rw [hv, Int.toNat_natCast]
end Go.Proofs.Ytdioconinnpmmaa.Lane
