/- What the program's function answers on a lane: for every number of frames and every list of rolls. -/
import Derived.Test.YtdioconinnpmmaaLaneR
import Derived.Test.YtdioconinnpmmaaLaneFin
set_option linter.unusedVariables false
set_option linter.unusedSimpArgs false
namespace Go.Proofs.Ytdioconinnpmmaa.Lane
open Go.RowKit Go.Proofs.YtdioconinnpmmaaW.PrintWords Go.Proofs.YtdioconinnpmmaaW.PrintLast
/-- The first of some balls with which a total can be reached. -/
def bestL (g : Int → Option (Int × Bool)) (total : Int) : Nat → Int → Option (Int × Bool)
  | 0, _ => some (0, false)
  | d + 1, n => (g n).bind fun m => if total ≤ m.1 then some (n, true) else bestL g total d (n + 1)
/-- How many pins the next ball may knock down, where it is asked. -/
def bestC (F : Int) (xs : List Int) (total : Int) : Option Int := match readV F xs with
  | some s => if 0 ≤ total ∧ total ≤ 300 then (if allV F.toNat s.1 = true then none else some s.2.1) else none
  | none => none
theorem bestL_mono {g g' : Int → Option (Int × Bool)} (h : ∀ n, LeO (g n) (g' n)) (total : Int) : ∀ (d : Nat) (n : Int), LeO (bestL g total d n) (bestL g' total d n)
  | 0, n => LeO.refl _
  | d + 1, n => by
    unfold bestL
    exact LeO.bind (h n) (fun _ => LeO.ite (LeO.refl _) (bestL_mono h total d (n + 1)))
theorem b_inv {i d P k : Nat} (h : i + d = P + 1 ∧ k = d + 1) (hi : i < P + 1) : ∃ d', d = d' + 1 ∧ (i + 1) + d' = P + 1 ∧ k - 1 = d' + 1 ∧ k - 1 < k := ⟨d - 1, by omega, by omega, by omega, by omega⟩
theorem b_zero {i d P k : Nat} (h : i + d = P + 1 ∧ k = d + 1) (hi : ¬ i < P + 1) : d = 0 := by omega
theorem b_w {P : Nat} (h : P ≤ 10) : wrap64 ((P : Int) + 1) = (P : Int) + 1 := by
  unfold wrap64
  omega
theorem b_i {i P : Nat} (h : P ≤ 10) (hi : i < P + 1) : wrap64 ((i : Int) + 1) = ((i + 1 : Nat) : Int) := by
  unfold wrap64
  omega
theorem b_len {l : Nat} (h : l ≤ 21) : (l + 1) * 8 ≤ 140737488355328 := by omega
set_option maxRecDepth 100000 in
set_option maxHeartbeats 8000000 in
theorem best_some (w : World) (F : Int) (A : Option Addr) (c : Nat) (xs : List Int) (total : Int) (P : Nat) (bg : List (List Int)) (q : Bool) (g : Int → Option (Int × Bool)) (r1 : Int) (r2 : Bool)
    (hr : ReadsInt w .i64 A xs.length xs) (hv : readV F xs = some (bg, (P : Int), q)) (hc : xs.length ≤ c) (ht : 0 ≤ total ∧ total ≤ 300) (ha : allV F.toNat bg = false) (hb0 : bestL g total (P + 1) 0 = some (r1, r2))
    (HClone : ∀ w1, ReadsInt w1 .i64 A xs.length xs → Calls Try.prog 33 #[.slice A xs.length c] w1 fun e w' => ∃ v0 : Value, e = .returned v0 ∧ Kd.R (Kd.int .i64) 3 w' w1.heap.size (fun _ => True) v0 xs ∧ Below w1.heap.size w1 w')
    (HMost : ∀ n m, g n = some m → ∀ w1 A' l c', l = xs.length + 1 → Kd.C (Kd.int .i64) w1 A' l (xs ++ [n]) → l ≤ c' → Calls Try.prog 32 #[.int .i64 F, .slice A' l c'] w1 fun e w' => e = .returned (.tuple #[.int .i64 m.1, .bool m.2]) ∧ Below w1.heap.size w1 w') :
    Calls Try.prog 13 #[.int .i64 F, .slice A xs.length c, .int .i64 total] w fun e w' => e = .returned (.tuple #[.int .i64 r1, .bool r2]) ∧ Below w.heap.size w w' := by
  obtain ⟨fa, fb, hx21, hgd, hp0, hp1⟩ := read_good hv
  simp only at hgd hp0 hp1
  have HR := Aside0.mk hr
  have HM := Aside0.mk HMost
  have HCl := Aside0.mk HClone
  have HG := Aside0.mk hgd
  have HX := Aside0.mk hx21
  have HBL := Aside0.mk hb0
  have HP := Aside0.mk (show P ≤ 10 by omega)
  have hw := b_w (P := P) (by omega)
  have t1 : decide (0 ≤ total ∧ total ≤ 300) = true := decide_eq_true ht
  clear HMost HClone hgd hx21 hr hb0 hp0 hp1 ht
  go_enter Try.func13, Try.ntmps13
  go_wp2_with (first
    | (go_at_call 30; refine (read_some3 hv _ _ _ HR.out).mono ?_; rintro e w' ⟨rfl, own, hl, hg, p0, p1, f0, f1, hb⟩; obtain ⟨k0, k2, k3, _, fz, _, _⟩ := hl.cells; have HL := Aside0.mk hl; have HB := Aside0.mk hb; have HF := Aside0.mk f0; clear hl hg p0 p1 f0 f1 hb)
    | (go_at_call 22; refine (within_calls _ _ _ _).mono ?_; rw [t1]; rintro e w'' ⟨rfl, ⟨nd, rfl⟩⟩)
    | (go_at_call 31; refine (all_calls (HL.out.drawnN nd) HF.out HG.out.1).mono ?_; rw [ha]; rintro e w'' ⟨rfl, ⟨nd2, rfl⟩⟩))
  rw [hw]
  go_loopg [35] (P + 2) (fun kq v35 wx => ∃ (i d : Nat), v35 = .int .i64 (i : Int) ∧ Aside0 (Below w.heap.size w wx) ∧ Aside0 (bestL g total d (i : Int) = some (r1, r2)) ∧ Aside0 (i + d = P + 1 ∧ kq = d + 1))
  case atStart => exact ⟨0, P + 1, by simp, ⟨by repeat (first | exact HB.out | apply pw_below_drewN)⟩, HBL, ⟨by omega⟩⟩
  case round =>
    clear HB HL HBL
    obtain ⟨i, d, rfl, HB, HV, HI⟩ := hrel
    by_cases hi : i < P + 1
    · have u1 : decide ((i : Int) < (P : Int) + 1) = true := decide_eq_true (by omega)
      have wi := b_i HP.out hi
      have wi2 : IntKind.i64.wrap ((i : Int) + 1) = ((i + 1 : Nat) : Int) := by rw [wrapK]; exact wi
      obtain ⟨d', rfl, j1, j2, j3⟩ := b_inv HI.out hi
      have J1 := Aside0.mk (And.intro j1 j2)
      have J3 := Aside0.mk j3
      obtain ⟨m, hm1, hm2⟩ := Option.bind_eq_some_iff.mp (show ((g (i : Int)).bind fun m => if total ≤ m.1 then some ((i : Int), true) else bestL g total d' ((i : Int) + 1)) = some (r1, r2) from HV.out)
      have HMM := Aside0.mk (HM.out _ _ hm1)
      clear hm1 j1 j2 j3
      by_cases hq : total ≤ m.1
      · have u2 : decide (total ≤ m.1) = true := decide_eq_true hq
        rw [if_pos hq] at hm2
        have e0 := Option.some.inj hm2
        have e1 := congrArg (fun p => p.1) e0
        have e2 := congrArg (fun p => p.2) e0
        dsimp only at e1 e2
        subst e1 e2
        clear hm2 e0 hq
        go_wp2_with (first | (go_at_call 33; refine (HCl.out _ ?hrd).mono ?_; (case hrd => exact HR.out.below (by repeat (first | exact HB.out | apply pw_below_drewN))); rintro e w1 ⟨v0, rfl, ho, hb1⟩; obtain ⟨A0, c0, e0⟩ := Kd.R_slice ho; subst e0; have HO := Aside0.mk (Kd.R_lower ho (below_size (w := w) (by repeat (first | exact HB.out | apply pw_below_drewN)))); have HB1 := Aside0.mk (below_step (by repeat (first | exact HB.out | apply pw_below_drewN)) hb1); clear ho hb1) | ((with_reducible refine gate_builtin (b := .append) (xs := #[.tmp 41, .tmp 43]) rfl ?_); at_builtin; refine Kd.R_append (Kd.int .i64) (w0 := w) w.heap.size rfl (.tmp 41) (.tmp 43) 28 3 (.int .i64 0) 8 rfl Try.underlying28 info3 rfl (by decide) (by decide) (.slice A0 xs.length c0) xs (i : Int) [.int .i64 (i : Int)] (fun _ => True) (fun _ => False) rfl rfl ?aP (fun _ hk => hk.elim) ?aF ?aO ?aB ?aS ?aL ?_; (case aP => exact rfl); (case aB => exact (by repeat (first | exact HB1.out | apply below_alloc | apply pw_below_drewN))); (case aF => exact (fun _ _ => trivial)); (case aO => exact (by (with_reducible repeat (first | apply Kd.R_alloc | apply Kd.R_drewN | apply Kd.R_drew)); exact HO.out)); (case aS => exact (below_size (by repeat (first | exact HB1.out | apply below_alloc | apply pw_below_drewN)))); (case aL => exact b_len HX.out); intro v13 w13 ho hb hg hat; obtain ⟨A2, c2, e2⟩ := Kd.R_slice ho; subst e2; have hC3 := (Kd.R_reads' ho).2.2; have hL3 := (Kd.R_reads' ho).2.1; rw [List.length_append, List.length_singleton] at hC3 hL3; have HC3 := Aside0.mk hC3; have HL3 := Aside0.mk hL3; have HB2 := Aside0.mk hb; clear ho hb hg hat hC3 hL3) | (go_at_call 32; refine (HMM.out _ _ _ _ rfl ?hC ?hc).mono ?_; (case hC => exact HC3.out); (case hc => exact HL3.out); rintro e w9 ⟨rfl, hb9⟩; have HB9 := Aside0.mk (below_step (by repeat (first | exact HB2.out | apply below_alloc | apply pw_below_drewN)) hb9); clear hb9))
        go_ret2
        exact ⟨rfl, by repeat (first | exact HB9.out | apply below_alloc | apply pw_below_drewN)⟩
      · have u2 : decide (total ≤ m.1) = false := decide_eq_false hq
        rw [if_neg hq] at hm2
        have HM2 := Aside0.mk hm2
        clear hm2 hq
        go_wp2_with (first | (go_at_call 33; refine (HCl.out _ ?hrd).mono ?_; (case hrd => exact HR.out.below (by repeat (first | exact HB.out | apply pw_below_drewN))); rintro e w1 ⟨v0, rfl, ho, hb1⟩; obtain ⟨A0, c0, e0⟩ := Kd.R_slice ho; subst e0; have HO := Aside0.mk (Kd.R_lower ho (below_size (w := w) (by repeat (first | exact HB.out | apply pw_below_drewN)))); have HB1 := Aside0.mk (below_step (by repeat (first | exact HB.out | apply pw_below_drewN)) hb1); clear ho hb1) | ((with_reducible refine gate_builtin (b := .append) (xs := #[.tmp 41, .tmp 43]) rfl ?_); at_builtin; refine Kd.R_append (Kd.int .i64) (w0 := w) w.heap.size rfl (.tmp 41) (.tmp 43) 28 3 (.int .i64 0) 8 rfl Try.underlying28 info3 rfl (by decide) (by decide) (.slice A0 xs.length c0) xs (i : Int) [.int .i64 (i : Int)] (fun _ => True) (fun _ => False) rfl rfl ?aP (fun _ hk => hk.elim) ?aF ?aO ?aB ?aS ?aL ?_; (case aP => exact rfl); (case aB => exact (by repeat (first | exact HB1.out | apply below_alloc | apply pw_below_drewN))); (case aF => exact (fun _ _ => trivial)); (case aO => exact (by (with_reducible repeat (first | apply Kd.R_alloc | apply Kd.R_drewN | apply Kd.R_drew)); exact HO.out)); (case aS => exact (below_size (by repeat (first | exact HB1.out | apply below_alloc | apply pw_below_drewN)))); (case aL => exact b_len HX.out); intro v13 w13 ho hb hg hat; obtain ⟨A2, c2, e2⟩ := Kd.R_slice ho; subst e2; have hC3 := (Kd.R_reads' ho).2.2; have hL3 := (Kd.R_reads' ho).2.1; rw [List.length_append, List.length_singleton] at hC3 hL3; have HC3 := Aside0.mk hC3; have HL3 := Aside0.mk hL3; have HB2 := Aside0.mk hb; clear ho hb hg hat hC3 hL3) | (go_at_call 32; refine (HMM.out _ _ _ _ rfl ?hC ?hc).mono ?_; (case hC => exact HC3.out); (case hc => exact HL3.out); rintro e w9 ⟨rfl, hb9⟩; have HB9 := Aside0.mk (below_step (by repeat (first | exact HB2.out | apply below_alloc | apply pw_below_drewN)) hb9); clear hb9))
        go_roundg (gk - 1)
        case measure => exact J3.out
        case rel => exact ⟨i + 1, d', (by first | rfl | (rw [wi2]) | (rw [wi])), ⟨by repeat (first | exact HB9.out | apply below_alloc | apply pw_below_drewN)⟩, HM2, J1⟩
    · have u1 : decide ((i : Int) < (P : Int) + 1) = false := decide_eq_false (by omega)
      have hd := b_zero HI.out hi
      subst hd
      have e0 := Option.some.inj (show some ((0 : Int), false) = some (r1, r2) from HV.out)
      have e1 := congrArg (fun p => p.1) e0
      have e2 := congrArg (fun p => p.2) e0
      dsimp only at e1 e2
      subst e1 e2
      go_wp2
      go_ret2
      exact ⟨rfl, by repeat (first | exact HB.out | apply below_alloc | apply pw_below_drewN)⟩
set_option maxRecDepth 100000 in
set_option maxHeartbeats 4000000 in
theorem best_none (w : World) (F : Int) (A : Option Addr) (c : Nat) (xs : List Int) (total : Int) (hr : ReadsInt w .i64 A xs.length xs) (hn : bestC F xs total = none) :
    Calls Try.prog 13 #[.int .i64 F, .slice A xs.length c, .int .i64 total] w fun e w' => e = .returned (.tuple #[.int .i64 0, .bool false]) ∧ Below w.heap.size w w' := by
  unfold bestC at hn
  cases hv : readV F xs with
  | none =>
    go_enter Try.func13, Try.ntmps13
    go_wp2_with (go_at_call 30; refine (read_none hv _ _ _ hr).mono ?_; rintro e w' ⟨rfl, hb⟩)
    go_ret2
    exact ⟨rfl, by repeat (first | exact hb | apply pw_below_drewN)⟩
  | some s =>
    rw [hv] at hn
    by_cases ht : 0 ≤ total ∧ total ≤ 300
    · simp only [if_pos ht] at hn
      have ha : allV F.toNat s.1 = true := by
        cases h : allV F.toNat s.1 with
        | true => rfl
        | false => rw [h] at hn; cases hn
      have t1 : decide (0 ≤ total ∧ total ≤ 300) = true := decide_eq_true ht
      clear hn ht
      go_enter Try.func13, Try.ntmps13
      go_wp2_with (first
        | (go_at_call 30; refine (read_some hv _ _ _ hr).mono ?_; rintro e w' ⟨rfl, own, hl, hg, p0, p1, f0, f1, hb⟩)
        | (go_at_call 22; refine (within_calls _ _ _ _).mono ?_; rw [t1]; rintro e w'' ⟨rfl, ⟨nd, rfl⟩⟩)
        | (go_at_call 31; refine (all_calls (hl.drawnN nd) f0 hg.1).mono ?_; rw [ha]; rintro e w'' ⟨rfl, ⟨nd2, rfl⟩⟩))
      go_ret2
      exact ⟨rfl, by repeat (first | exact hb | apply pw_below_drewN)⟩
    · have t1 : decide (0 ≤ total ∧ total ≤ 300) = false := decide_eq_false ht
      clear hn ht
      go_enter Try.func13, Try.ntmps13
      go_wp2_with (first
        | (go_at_call 30; refine (read_some hv _ _ _ hr).mono ?_; rintro e w' ⟨rfl, own, hl, hg, p0, p1, f0, f1, hb⟩)
        | (go_at_call 22; refine (within_calls _ _ _ _).mono ?_; rw [t1]; rintro e w'' ⟨rfl, ⟨nd, rfl⟩⟩))
      go_ret2
      exact ⟨rfl, by repeat (first | exact hb | apply pw_below_drewN)⟩
theorem best_calls (w : World) (F : Int) (A : Option Addr) (c : Nat) (xs : List Int) (total : Int) (P : Int) (g : Int → Option (Int × Bool)) (r1 : Int) (r2 : Bool) (hr : Kd.C (Kd.int .i64) w A xs.length xs) (hc : xs.length ≤ c) (hP : bestC F xs total = some P) (hb : bestL g total (P.toNat + 1) 0 = some (r1, r2))
    (HClone : ∀ w1, Kd.C (Kd.int .i64) w1 A xs.length xs → Calls Try.prog 33 #[.slice A xs.length c] w1 fun e w' => ∃ v0 : Value, e = .returned v0 ∧ Kd.R (Kd.int .i64) 3 w' w1.heap.size (fun _ => True) v0 xs ∧ Below w1.heap.size w1 w')
    (HMost : ∀ n m, g n = some m → ∀ w1 A' c', Kd.C (Kd.int .i64) w1 A' (xs ++ [n]).length (xs ++ [n]) → (xs ++ [n]).length ≤ c' → Calls Try.prog 32 #[.int .i64 F, .slice A' (xs ++ [n]).length c'] w1 fun e w' => e = .returned (.tuple #[.int .i64 m.1, .bool m.2]) ∧ Below w1.heap.size w1 w') :
    Calls Try.prog 13 #[.int .i64 F, .slice A xs.length c, .int .i64 total] w fun e w' => e = .returned (.tuple #[.int .i64 r1, .bool r2]) ∧ Below w.heap.size w w' := by
  unfold bestC at hP
  cases hv : readV F xs with
  | none => rw [hv] at hP; cases hP
  | some s =>
    rw [hv] at hP
    by_cases ht : 0 ≤ total ∧ total ≤ 300
    · simp only [if_pos ht] at hP
      cases ha : allV F.toNat s.1 with
      | true => rw [ha] at hP; cases hP
      | false =>
        rw [ha, if_neg (by decide)] at hP
        have hP := Option.some.inj hP
        obtain ⟨bg, p, q⟩ := s
        simp only at hP ha
        subst hP
        have h0 := (read_good hv).2.2.2.2.1
        simp only at h0
        obtain ⟨n, rfl⟩ : ∃ n : Nat, p = (n : Int) := ⟨p.toNat, by omega⟩
        rw [Int.toNat_natCast] at hb
        exact best_some w F A c xs total n bg q g r1 r2 (of_C hr) hv hc ht ha hb (fun w1 h => HClone w1 (C_of' h)) (fun n m hm w1 A' l c' hl hC hc' => by
          subst hl
          have := HMost n m hm w1 A' c' (by simpa using hC) (by simpa using hc')
          simpa using this)
    · simp only [if_neg ht] at hP
      cases hP
end Go.Proofs.Ytdioconinnpmmaa.Lane
