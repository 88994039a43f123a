/- What the reference counts for the frames of rolls: for every number of frames of 1 to 10 and every list of rolls. -/
import Derived.Test.YtdioconinnpmmaaLaneSum
set_option linter.unusedVariables false
set_option linter.unusedSimpArgs false
namespace Go.Proofs.Ytdioconinnpmmaa.Lane
open Go.RowKit Go.Proofs.YtdioconinnpmmaaW.PrintWords Go.Proofs.YtdioconinnpmmaaW.PrintLast
theorem w_sum (ys : List Int) (j : Nat) (hj : j < ys.length) (hb : ∀ x ∈ ys, 0 ≤ x ∧ x ≤ 10) (hl : ys.length ≤ 100) : wrap64 ((ys.take j).sum + ys[j]) = (ys.take j).sum + ys[j] := by
  have h1 := sum_le (ys.take j) (fun x h => hb x (List.mem_of_mem_take h))
  have h2 := hb _ (List.getElem_mem hj)
  rw [List.length_take] at h1
  unfold wrap64
  omega
theorem s_j (j l : Nat) (h : j < l) (h1 : l ≤ 100) : wrap64 ((j : Int) + 1) = ((j + 1 : Nat) : Int) := by
  unfold wrap64
  omega
theorem s_jm {j k l : Nat} (h : j + k = l + 1 ∧ j ≤ l) (hj : j < l) : k - 1 < k := by omega
theorem s_jr {j k l : Nat} (h : j + k = l + 1 ∧ j ≤ l) (hj : j < l) : j + 1 + (k - 1) = l + 1 ∧ j + 1 ≤ l := by omega
theorem w_b {a b : Int} (h : 0 ≤ a ∧ a ≤ 10) (k : 0 ≤ b ∧ b ≤ 10) : wrap64 (a + b) = a + b := by
  unfold wrap64
  omega
/-- How many balls a frame counts, and where the counting stops, as the reference has it. -/
def manyS (r : List Int) : Nat := if r.getD 0 0 = 10 then 3 else if 1 < r.length ∧ r.getD 0 0 + r.getD 1 0 = 10 then 3 else 2
def haltS (F k : Nat) (all : Bool) (m place l : Nat) : Prop := (k + 1 = F ∧ all = false) ∨ l < place + m
instance (F k : Nat) (all : Bool) (m place l : Nat) : Decidable (haltS F k all m place l) := by unfold haltS; infer_instance
def scoresS (F : Nat) (xs : List Int) (all : Bool) : Nat → Nat → List (List Int) → List Int
  | _, _, [] => []
  | k, place, r :: t => if haltS F k all (manyS r) place xs.length then [] else ((xs.drop place).take (manyS r)).sum :: scoresS F xs all (k + 1) (place + r.length) t
theorem scoresS_step (F : Nat) (xs : List Int) (all : Bool) (k place : Nat) (r : List Int) (t : List (List Int)) (h : ¬ haltS F k all (manyS r) place xs.length) :
    scoresS F xs all k place (r :: t) = ((xs.drop place).take (manyS r)).sum :: scoresS F xs all (k + 1) (place + r.length) t := by
  show (if _ then _ else _) = _
  rw [if_neg h]
theorem scoresS_stop (F : Nat) (xs : List Int) (all : Bool) (k place : Nat) (r : List Int) (t : List (List Int)) (h : haltS F k all (manyS r) place xs.length) :
    scoresS F xs all k place (r :: t) = [] := by
  show (if _ then _ else _) = _
  rw [if_pos h]
theorem rows_at {w : World} {A : Option Addr} {n : Nat} {xs : List (List Int)} (h : Kd.C (Kd.slice 3 (Kd.int .i64)) w A n xs) (i : Nat) (h1 : i < n) (hl : i < xs.length) : ∃ ad A0 c0, A = some ad ∧ w.cell? (ad.add i) = some (.slice A0 xs[i].length c0) ∧ ReadsInt w .i64 A0 xs[i].length xs[i] := by
  obtain ⟨ad, c, e, _, hK, hc0⟩ := Kd.C_get h ([] : List Int) (i : Int) (by omega) (by omega)
  have hc : ∀ j u, c[j]? = some u → w.cell? (ad.add (((i : Int)).toNat * 1 + j)) = some u := hc0
  obtain ⟨A0, c0, rfl, l0, g0⟩ := hK
  have hq := hc 0 _ rfl
  rw [Nat.mul_one, Nat.add_zero, Int.toNat_natCast] at hq
  rw [Int.toNat_natCast, show xs.getD i [] = xs[i] by simp [List.getD_eq_getElem?_getD, hl]] at *
  exact ⟨ad, A0, c0, e, hq, of_C g0⟩
set_option maxRecDepth 100000 in
set_option maxHeartbeats 16000000 in
theorem specscores_walk (n : Nat) (w : World) (A : Option Addr) (c : Nat) (xs : List Int) (bg : List (List Int)) (ov : Bool) (hr : ReadsInt w .i64 A xs.length xs) (hc : xs.length ≤ c) (hn : 1 ≤ n ∧ n ≤ 10)
    (hbl : bg.length ≤ n) (hbg : ∀ r ∈ bg, r ≠ [] ∧ r.length ≤ 3 ∧ ∀ x ∈ r, 0 ≤ x ∧ x ≤ 10) (hxl : xs.length ≤ 21) (hxs : ∀ x ∈ xs, 0 ≤ x ∧ x ≤ 10)
    (HSplit : ∀ w1, ReadsInt w1 .i64 A xs.length xs → Calls Try.prog 54 #[.int .i64 (n : Int), .slice A xs.length c] w1 fun e w' => ∃ v0 : Value, e = .returned v0 ∧ Kd.S (Kd.slice 3 (Kd.int .i64)) 28 w' w1.heap.size (fun _ => True) v0 bg ∧ Below w1.heap.size w1 w')
    (HOver : ∀ w1, ReadsInt w1 .i64 A xs.length xs → Calls Try.prog 55 #[.int .i64 (n : Int), .slice A xs.length c] w1 fun e w' => e = .returned (.bool ov) ∧ Below w1.heap.size w1 w') :
    Calls Try.prog 51 #[.int .i64 (n : Int), .slice A xs.length c] w fun e w' => ∃ v0 : Value, e = .returned v0 ∧ Kd.R (Kd.int .i64) 3 w' w.heap.size (fun _ => True) v0 (scoresS n xs ov 0 0 bg) ∧ Below w.heap.size w w' := by
  have HR := Aside0.mk hr
  have HXS := Aside0.mk hxs
  have HG := Aside0.mk hbg
  have HF := Aside0.mk hn
  have HX := Aside0.mk hxl
  have HC := Aside0.mk hc
  have HBL := Aside0.mk hbl
  have HOV := Aside0.mk HOver
  clear hr hxs hbg hn hxl hc hbl HOver
  go_enter Try.func51, Try.ntmps51
  go_wp2_with (go_at_call 54; refine (HSplit _ HR.out).mono ?_; rintro e ws ⟨v0, rfl, hs, hb⟩; obtain ⟨As, cs, es⟩ := Kd.S_slice hs; subst es; have HCW := Aside0.mk (Kd.S_reads' hs).2.2; have HB := Aside0.mk hb; clear hs hb)
  clear HSplit
  go_loopg [5, 6, 17] (bg.length + 1) (fun kq v5 v6 v17 wx => ∃ (i place : Nat) (out : List Int), v17 = .int .i64 (i : Int) ∧ v6 = .int .i64 (place : Int) ∧ Aside0 (Kd.R (Kd.int .i64) 3 wx ws.heap.size (fun _ => True) v5 out) ∧ Aside0 (Below ws.heap.size ws wx) ∧
    Aside0 (out ++ scoresS n xs ov i place (bg.drop i) = scoresS n xs ov 0 0 bg) ∧ Aside0 (i + kq = bg.length + 1 ∧ i ≤ bg.length ∧ place ≤ 3 * i ∧ out.length ≤ i))
  case atStart => exact ⟨0, 0, [], by simp, by simp, ⟨Kd.R_nil _ _ _ _ _⟩, ⟨Below.refl _ _⟩, ⟨by simp⟩, ⟨by simp⟩⟩
  case round =>
    obtain ⟨i, place, out, rfl, rfl, HO, HBW, HV, HI⟩ := hrel
    have HBA := Aside0.mk (below_step HB.out HBW.out)
    by_cases hi : i < bg.length
    · obtain ⟨ad, A2, c2, rfl, r2, hRR⟩ := rows_at (Kd.C_below HCW.out HBW.out) i hi hi
      have hmem : bg[i] ∈ bg := List.getElem_mem hi
      obtain ⟨hne, hl3, hx⟩ := HG.out _ hmem
      have hdrop : bg.drop i = bg[i] :: bg.drop (i + 1) := List.drop_eq_getElem_cons hi
      have u1 : decide ((i : Int) < (bg.length : Int)) = true := decide_eq_true (Int.ofNat_lt.2 hi)
      have HP := Aside0.mk (s_p HI.out hi HBL.out HF.out.2)
      have u2 : decide (i < bg.length) = true := decide_eq_true hi
      generalize hrr : bg[i] = r at *
      have h0 : 0 < r.length := List.length_pos_iff.2 hne
      obtain ⟨ar, rfl, r5⟩ := hRR.2.2 h0
      have q0 := r5 0 h0
      rw [show ar.add 0 = ar from by simp [Addr.add]] at q0
      have w3 : wrap64 ((n : Int) - 1) = (n : Int) - 1 := c_frames n HF.out.1 HF.out.2
      have u9 : decide ((0 : Int) < (r.length : Int)) = true := decide_eq_true (Int.ofNat_lt.2 h0)
      have u10 : (0 : Int) < (r.length : Int) := Int.ofNat_lt.2 h0
      have HL3 := Aside0.mk hl3
      have hm0 := hx (r.getD 0 0) (by rw [List.getD_eq_getElem?_getD, List.getElem?_eq_getElem h0]; exact List.getElem_mem _)
      generalize hx0 : r.getD 0 0 = x0 at q0 hm0
      by_cases h10 : x0 = 10
      · have u11 : (x0 == 10) = true := by simpa using h10
        have hcnt : manyS r = 3 := by unfold manyS; rw [hx0, if_pos h10]
        clear r5 hRR hmem hx hl3 hne hm0
        by_cases hlast : i + 1 = n
        · have ul : ((i : Int) == (n : Int) - 1) = true := s_last hlast
          cases ov with
          | false =>
            have hV : out = scoresS n xs false 0 0 bg := by rw [← HV.out, hdrop, scoresS_stop _ _ _ _ _ _ _ (Or.inl ⟨hlast, rfl⟩), List.append_nil]
            go_wp2
            refine wp_region_quiet_lit (by kernel_rfl) (by kernel_rfl) ?_
            repeat ((with_reducible refine wpQuiet_step (fun K hK => ?_)); go_simp; (first | ((with_reducible refine hK _ ?_); clear hK K) | (refine iteInduction (motive := fun X => X) (fun hc => absurd hc (by simp [undef])) (fun _ => ?_); (with_reducible refine hK _ ?_); clear hK K)))
            with_reducible refine wpQuiet_nil ?_
            intro _ hw'
            obtain ⟨nq, hw''⟩ := hw'
            subst hw''
            go_wp2_with fail
            go_at_call 55
            refine (HOV.out _ ?hrd).mono ?_
            case hrd => exact HR.out.below (by repeat (first | exact HBA.out | apply pw_below_drewN))
            rintro e w9 ⟨rfl, hb9⟩
            have HO9 := Aside0.mk (Kd.R_below (Kd.R_drewN HO.out nq) hb9)
            have HBA9 := Aside0.mk (below_step (pw_below_drewN HBA.out nq) hb9)
            have HBW9 := Aside0.mk (below_step (pw_below_drewN HBW.out nq) hb9)
            clear HO HBA HBW hb9
            have HO := HO9
            have HBA := HBA9
            have HBW := HBW9
            clear HO9 HBA9 HBW9
            go_wp2
            go_ret
            refine ⟨_, rfl, ?_, ?_⟩
            · rw [← hV]
              (with_reducible repeat (first | apply Kd.R_alloc | apply Kd.R_drewN | apply Kd.R_drew)); exact Kd.R_lower HO.out (below_size HB.out)
            · repeat (first | exact HBA.out | apply pw_below_drewN)
          | true =>
            have wM : wrap64 ((place : Int) + 3) = (place : Int) + 3 := s_w place 3 HP.out.1 (by decide) (by decide)
            have wM2 : IntKind.i64.wrap ((place : Int) + 3) = (place : Int) + 3 := by rw [wrapK]; exact wM
            by_cases hm : xs.length < place + 3
            · have um : decide ((xs.length : Int) < (place : Int) + 3) = true := s_t _ _ 3 _ rfl hm
              have hV : out = scoresS n xs true 0 0 bg := by rw [← HV.out, hdrop, scoresS_stop _ _ _ _ _ _ _ (Or.inr (by rw [hcnt]; exact hm)), List.append_nil]
              go_wp2
              refine wp_region_quiet_lit (by kernel_rfl) (by kernel_rfl) ?_
              repeat ((with_reducible refine wpQuiet_step (fun K hK => ?_)); go_simp; (first | ((with_reducible refine hK _ ?_); clear hK K) | (refine iteInduction (motive := fun X => X) (fun hc => absurd hc (by simp [undef])) (fun _ => ?_); (with_reducible refine hK _ ?_); clear hK K)))
              with_reducible refine wpQuiet_nil ?_
              intro _ hw'
              obtain ⟨nq, hw''⟩ := hw'
              subst hw''
              go_wp2_with fail
              go_at_call 55
              refine (HOV.out _ ?hrd).mono ?_
              case hrd => exact HR.out.below (by repeat (first | exact HBA.out | apply pw_below_drewN))
              rintro e w9 ⟨rfl, hb9⟩
              have HO9 := Aside0.mk (Kd.R_below (Kd.R_drewN HO.out nq) hb9)
              have HBA9 := Aside0.mk (below_step (pw_below_drewN HBA.out nq) hb9)
              have HBW9 := Aside0.mk (below_step (pw_below_drewN HBW.out nq) hb9)
              clear HO HBA HBW hb9
              have HO := HO9
              have HBA := HBA9
              have HBW := HBW9
              clear HO9 HBA9 HBW9
              go_wp2
              go_ret
              refine ⟨_, rfl, ?_, ?_⟩
              · rw [← hV]
                (with_reducible repeat (first | apply Kd.R_alloc | apply Kd.R_drewN | apply Kd.R_drew)); exact Kd.R_lower HO.out (below_size HB.out)
              · repeat (first | exact HBA.out | apply pw_below_drewN)
            · have um : decide ((xs.length : Int) < (place : Int) + 3) = false := s_f _ _ 3 _ rfl hm
              have hgo : ¬ haltS n i true (manyS r) place xs.length := fun h => h.elim (fun h => absurd h.2 (by decide)) (fun h => hm (by rw [hcnt] at h; exact h))
              obtain ⟨A', hS, hRS⟩ := slice_mid A c xs place 3 (Nat.le_of_not_lt hm) HC.out
              rw [show ((3 : Nat) : Int) = 3 from rfl] at hS
              have hbx : ∀ x ∈ (xs.drop place).take 3, 0 ≤ x ∧ x ≤ 10 := fun x h => HXS.out x (List.mem_of_mem_drop (List.mem_of_mem_take h))
              have hbl : ((xs.drop place).take 3).length ≤ 100 := s_21 (l := 0) xs HX.out
              have hval : out ++ scoresS n xs true i place (bg.drop i) = (out ++ [((xs.drop place).take 3).sum]) ++ scoresS n xs true (i + 1) (place + r.length) (bg.drop (i + 1)) := by rw [hdrop, scoresS_step _ _ _ _ _ _ _ hgo, hcnt, List.append_assoc]; rfl
              have wL : wrap64 ((place : Int) + (r.length : Int)) = ((place + r.length : Nat) : Int) := s_L place r.length HP.out.1 HL3.out
              have wL2 : IntKind.i64.wrap ((place : Int) + (r.length : Int)) = ((place + r.length : Nat) : Int) := by rw [wrapK]; exact wL
              have HBX := Aside0.mk hbx
              have HLM := Aside0.mk hbl
              have HRS := Aside0.mk hRS
              clear hRS hbx hbl hgo
              generalize ((xs.drop place).take 3) = ys at *
              go_wp2
              refine wp_region_quiet_lit (by kernel_rfl) (by kernel_rfl) ?_
              repeat ((with_reducible refine wpQuiet_step (fun K hK => ?_)); go_simp; (first | ((with_reducible refine hK _ ?_); clear hK K) | (refine iteInduction (motive := fun X => X) (fun hc => absurd hc (by simp [undef])) (fun _ => ?_); (with_reducible refine hK _ ?_); clear hK K)))
              with_reducible refine wpQuiet_nil ?_
              intro _ hw'
              obtain ⟨nq, hw''⟩ := hw'
              subst hw''
              go_wp2_with fail
              go_at_call 55
              refine (HOV.out _ ?hrd).mono ?_
              case hrd => exact HR.out.below (by repeat (first | exact HBA.out | apply pw_below_drewN))
              rintro e w9 ⟨rfl, hb9⟩
              have HO9 := Aside0.mk (Kd.R_below (Kd.R_drewN HO.out nq) hb9)
              have HBA9 := Aside0.mk (below_step (pw_below_drewN HBA.out nq) hb9)
              have HBW9 := Aside0.mk (below_step (pw_below_drewN HBW.out nq) hb9)
              clear HO HBA HBW hb9
              have HO := HO9
              have HBA := HBA9
              have HBW := HBW9
              clear HO9 HBA9 HBW9
              go_wp2
              have HRY := Aside0.mk (HRS.out _ (HR.out.below HBA.out))
              generalize hsum : ys.sum = y at *
              generalize gk = gko at *
              go_loopg [10, 66] (ys.length + 1) (fun kq v10 v66 wy => ∃ (j nn : Nat), v66 = .int .i64 (j : Int) ∧ v10 = .int .i64 (ys.take j).sum ∧ wy = w9.drewN nn ∧ Aside0 (j + kq = ys.length + 1 ∧ j ≤ ys.length))
              case atStart => exact ⟨0, 0, by simp, by simp, rfl, ⟨by omega⟩⟩
              case round =>
                obtain ⟨j, nn, rfl, rfl, rfl, HJ⟩ := hrel
                by_cases hj : j < ys.length
                · obtain ⟨ay, rfl, hcy⟩ := HRY.out.2.2 (Nat.lt_of_le_of_lt (Nat.zero_le _) hj)
                  have hcj := hcy j hj
                  have t1 : decide ((j : Int) < (ys.length : Int)) = true := decide_eq_true (Int.ofNat_lt.2 hj)
                  have t2 : decide (j < ys.length) = true := decide_eq_true hj
                  have hst := sum_take ys j hj
                  have hwq := w_sum ys j hj HBX.out HLM.out
                  have hwq2 : IntKind.i64.wrap ((ys.take j).sum + ys[j]) = (ys.take j).sum + ys[j] := by rw [wrapK]; exact hwq
                  rw [List.getD_eq_getElem?_getD, List.getElem?_eq_getElem hj, Option.getD_some] at hcj
                  clear hcy
                  generalize ys[j] = x at *
                  generalize (ys.take j).sum = q at *
                  have hwj := s_j j ys.length hj HLM.out
                  have hwj2 : IntKind.i64.wrap ((j : Int) + 1) = ((j + 1 : Nat) : Int) := by rw [wrapK]; exact hwj
                  go_wp2
                  go_roundg (gk - 1)
                  case measure => exact s_jm HJ.out hj
                  case rel =>
                    refine ⟨j + 1, nn, ?_, ?_, rfl, ⟨s_jr HJ.out hj⟩⟩
                    · first | rfl | (rw [hwj2]) | (rw [hwj])
                    · rw [hst]; try (first | rfl | (rw [hwq2]) | (rw [hwq]))
                · have t1 : decide ((j : Int) < (ys.length : Int)) = false := decide_eq_false (fun h => hj (Int.ofNat_lt.1 h))
                  have t2 : decide (j < ys.length) = false := decide_eq_false hj
                  have hj2 : j = ys.length := Nat.le_antisymm HJ.out.2 (Nat.le_of_not_lt hj)
                  have hq : (ys.take j).sum = y := by rw [hj2, List.take_length]; exact hsum
                  generalize (ys.take j).sum = q at *
                  subst hq
                  go_wp2_with (first | ((with_reducible refine gate_builtin (b := .append) (xs := #[.tmp 74, .tmp 76]) rfl ?_); at_builtin; refine Kd.R_append (Kd.int .i64) (w0 := ws) ws.heap.size rfl (.tmp 74) (.tmp 76) 28 3 (.int .i64 0) 8 rfl Try.underlying28 info3 rfl (by decide) (by decide) u5 out q [.int .i64 q] (fun _ => True) (fun _ => False) rfl rfl ?aP (fun _ hk => hk.elim) ?aF ?aO ?aB ?aS ?aL ?_; (case aP => exact rfl); (case aB => exact (by repeat (first | exact HBW.out | apply below_alloc | apply pw_below_drewN))); (case aF => exact (fun _ _ => trivial)); (case aO => exact (by (with_reducible repeat (first | apply Kd.R_alloc | apply Kd.R_drewN | apply Kd.R_drew)); exact HO.out)); (case aS => exact (below_size (by repeat (first | exact HBW.out | apply below_alloc | apply pw_below_drewN)))); (case aL => exact s_al HP.out.2.2); intro v13 w13 ho hb hg hat; have HO2 := Aside0.mk ho; have HBW2 := Aside0.mk hb; clear ho hb hg hat))
                  go_roundg (gko - 1)
                  case measure => exact s_m HI.out hi
                  case rel =>
                    refine ⟨i + 1, place + r.length, out ++ [q], ?_, ?_, ⟨by (with_reducible repeat (first | apply Kd.R_alloc | apply Kd.R_drewN | apply Kd.R_drew)); exact HO2.out⟩, ⟨by repeat (first | exact HBW2.out | apply pw_below_drewN)⟩, ⟨?_⟩, ⟨?_⟩⟩
                    · have : wrap64 ((i : Int) + 1) = ((i + 1 : Nat) : Int) := s_i i HP.out.2.1
                      first | rfl | (rw [wrapK, this]) | (simp [wrapK, this]; done)
                    · first | rfl | (rw [wL2]) | (rw [wL]) | (simp [wL]; done)
                    · rw [← hval]; exact HV.out
                    · rw [List.length_append]; exact s_inv HI.out hi HL3.out
        · have ul : ((i : Int) == (n : Int) - 1) = false := s_nlast hlast
          have wM : wrap64 ((place : Int) + 3) = (place : Int) + 3 := s_w place 3 HP.out.1 (by decide) (by decide)
          have wM2 : IntKind.i64.wrap ((place : Int) + 3) = (place : Int) + 3 := by rw [wrapK]; exact wM
          by_cases hm : xs.length < place + 3
          · have um : decide ((xs.length : Int) < (place : Int) + 3) = true := s_t _ _ 3 _ rfl hm
            have hV : out = scoresS n xs ov 0 0 bg := by rw [← HV.out, hdrop, scoresS_stop _ _ _ _ _ _ _ (Or.inr (by rw [hcnt]; exact hm)), List.append_nil]
            go_wp2
            refine wp_region_quiet_lit (by kernel_rfl) (by kernel_rfl) ?_
            repeat ((with_reducible refine wpQuiet_step (fun K hK => ?_)); go_simp; (first | ((with_reducible refine hK _ ?_); clear hK K) | (refine iteInduction (motive := fun X => X) (fun hc => absurd hc (by simp [undef])) (fun _ => ?_); (with_reducible refine hK _ ?_); clear hK K)))
            with_reducible refine wpQuiet_nil ?_
            intro _ hw'
            obtain ⟨nq, hw''⟩ := hw'
            subst hw''
            go_wp2
            go_ret
            refine ⟨_, rfl, ?_, ?_⟩
            · rw [← hV]
              (with_reducible repeat (first | apply Kd.R_alloc | apply Kd.R_drewN | apply Kd.R_drew)); exact Kd.R_lower HO.out (below_size HB.out)
            · repeat (first | exact HBA.out | apply pw_below_drewN)
          · have um : decide ((xs.length : Int) < (place : Int) + 3) = false := s_f _ _ 3 _ rfl hm
            have hgo : ¬ haltS n i ov (manyS r) place xs.length := fun h => h.elim (fun h => hlast h.1) (fun h => hm (by rw [hcnt] at h; exact h))
            obtain ⟨A', hS, hRS⟩ := slice_mid A c xs place 3 (Nat.le_of_not_lt hm) HC.out
            rw [show ((3 : Nat) : Int) = 3 from rfl] at hS
            have hbx : ∀ x ∈ (xs.drop place).take 3, 0 ≤ x ∧ x ≤ 10 := fun x h => HXS.out x (List.mem_of_mem_drop (List.mem_of_mem_take h))
            have hbl : ((xs.drop place).take 3).length ≤ 100 := s_21 (l := 0) xs HX.out
            have hval : out ++ scoresS n xs ov i place (bg.drop i) = (out ++ [((xs.drop place).take 3).sum]) ++ scoresS n xs ov (i + 1) (place + r.length) (bg.drop (i + 1)) := by rw [hdrop, scoresS_step _ _ _ _ _ _ _ hgo, hcnt, List.append_assoc]; rfl
            have wL : wrap64 ((place : Int) + (r.length : Int)) = ((place + r.length : Nat) : Int) := s_L place r.length HP.out.1 HL3.out
            have wL2 : IntKind.i64.wrap ((place : Int) + (r.length : Int)) = ((place + r.length : Nat) : Int) := by rw [wrapK]; exact wL
            have HBX := Aside0.mk hbx
            have HLM := Aside0.mk hbl
            have HRS := Aside0.mk hRS
            clear hRS hbx hbl hgo
            generalize ((xs.drop place).take 3) = ys at *
            go_wp2
            refine wp_region_quiet_lit (by kernel_rfl) (by kernel_rfl) ?_
            repeat ((with_reducible refine wpQuiet_step (fun K hK => ?_)); go_simp; (first | ((with_reducible refine hK _ ?_); clear hK K) | (refine iteInduction (motive := fun X => X) (fun hc => absurd hc (by simp [undef])) (fun _ => ?_); (with_reducible refine hK _ ?_); clear hK K)))
            with_reducible refine wpQuiet_nil ?_
            intro _ hw'
            obtain ⟨nq, hw''⟩ := hw'
            subst hw''
            go_wp2
            have HO9 := Aside0.mk (Kd.R_drewN HO.out nq)
            have HBA9 := Aside0.mk (pw_below_drewN HBA.out nq)
            have HBW9 := Aside0.mk (pw_below_drewN HBW.out nq)
            clear HO HBA HBW
            have HO := HO9
            have HBA := HBA9
            have HBW := HBW9
            clear HO9 HBA9 HBW9
            generalize World.drewN wr nq = w9 at *
            have HRY := Aside0.mk (HRS.out _ (HR.out.below HBA.out))
            generalize hsum : ys.sum = y at *
            generalize gk = gko at *
            go_loopg [10, 66] (ys.length + 1) (fun kq v10 v66 wy => ∃ (j nn : Nat), v66 = .int .i64 (j : Int) ∧ v10 = .int .i64 (ys.take j).sum ∧ wy = w9.drewN nn ∧ Aside0 (j + kq = ys.length + 1 ∧ j ≤ ys.length))
            case atStart => exact ⟨0, 0, by simp, by simp, rfl, ⟨by omega⟩⟩
            case round =>
              obtain ⟨j, nn, rfl, rfl, rfl, HJ⟩ := hrel
              by_cases hj : j < ys.length
              · obtain ⟨ay, rfl, hcy⟩ := HRY.out.2.2 (Nat.lt_of_le_of_lt (Nat.zero_le _) hj)
                have hcj := hcy j hj
                have t1 : decide ((j : Int) < (ys.length : Int)) = true := decide_eq_true (Int.ofNat_lt.2 hj)
                have t2 : decide (j < ys.length) = true := decide_eq_true hj
                have hst := sum_take ys j hj
                have hwq := w_sum ys j hj HBX.out HLM.out
                have hwq2 : IntKind.i64.wrap ((ys.take j).sum + ys[j]) = (ys.take j).sum + ys[j] := by rw [wrapK]; exact hwq
                rw [List.getD_eq_getElem?_getD, List.getElem?_eq_getElem hj, Option.getD_some] at hcj
                clear hcy
                generalize ys[j] = x at *
                generalize (ys.take j).sum = q at *
                have hwj := s_j j ys.length hj HLM.out
                have hwj2 : IntKind.i64.wrap ((j : Int) + 1) = ((j + 1 : Nat) : Int) := by rw [wrapK]; exact hwj
                go_wp2
                go_roundg (gk - 1)
                case measure => exact s_jm HJ.out hj
                case rel =>
                  refine ⟨j + 1, nn, ?_, ?_, rfl, ⟨s_jr HJ.out hj⟩⟩
                  · first | rfl | (rw [hwj2]) | (rw [hwj])
                  · rw [hst]; try (first | rfl | (rw [hwq2]) | (rw [hwq]))
              · have t1 : decide ((j : Int) < (ys.length : Int)) = false := decide_eq_false (fun h => hj (Int.ofNat_lt.1 h))
                have t2 : decide (j < ys.length) = false := decide_eq_false hj
                have hj2 : j = ys.length := Nat.le_antisymm HJ.out.2 (Nat.le_of_not_lt hj)
                have hq : (ys.take j).sum = y := by rw [hj2, List.take_length]; exact hsum
                generalize (ys.take j).sum = q at *
                subst hq
                go_wp2_with (first | ((with_reducible refine gate_builtin (b := .append) (xs := #[.tmp 74, .tmp 76]) rfl ?_); at_builtin; refine Kd.R_append (Kd.int .i64) (w0 := ws) ws.heap.size rfl (.tmp 74) (.tmp 76) 28 3 (.int .i64 0) 8 rfl Try.underlying28 info3 rfl (by decide) (by decide) u5 out q [.int .i64 q] (fun _ => True) (fun _ => False) rfl rfl ?aP (fun _ hk => hk.elim) ?aF ?aO ?aB ?aS ?aL ?_; (case aP => exact rfl); (case aB => exact (by repeat (first | exact HBW.out | apply below_alloc | apply pw_below_drewN))); (case aF => exact (fun _ _ => trivial)); (case aO => exact (by (with_reducible repeat (first | apply Kd.R_alloc | apply Kd.R_drewN | apply Kd.R_drew)); exact HO.out)); (case aS => exact (below_size (by repeat (first | exact HBW.out | apply below_alloc | apply pw_below_drewN)))); (case aL => exact s_al HP.out.2.2); intro v13 w13 ho hb hg hat; have HO2 := Aside0.mk ho; have HBW2 := Aside0.mk hb; clear ho hb hg hat))
                go_roundg (gko - 1)
                case measure => exact s_m HI.out hi
                case rel =>
                  refine ⟨i + 1, place + r.length, out ++ [q], ?_, ?_, ⟨by (with_reducible repeat (first | apply Kd.R_alloc | apply Kd.R_drewN | apply Kd.R_drew)); exact HO2.out⟩, ⟨by repeat (first | exact HBW2.out | apply pw_below_drewN)⟩, ⟨?_⟩, ⟨?_⟩⟩
                  · have : wrap64 ((i : Int) + 1) = ((i + 1 : Nat) : Int) := s_i i HP.out.2.1
                    first | rfl | (rw [wrapK, this]) | (simp [wrapK, this]; done)
                  · first | rfl | (rw [wL2]) | (rw [wL]) | (simp [wL]; done)
                  · rw [← hval]; exact HV.out
                  · rw [List.length_append]; exact s_inv HI.out hi HL3.out
      · have u11 : (x0 == 10) = false := by simpa using h10
        by_cases h2 : 1 < r.length
        · have u12 : decide ((1 : Int) < (r.length : Int)) = true := decide_eq_true (Int.ofNat_lt.2 h2)
          have u13 : (1 : Int) < (r.length : Int) := Int.ofNat_lt.2 h2
          have q1 := r5 1 h2
          rw [show ar.add 1 = ⟨ar.block, ar.off + 1, none⟩ from by simp [Addr.add]] at q1
          have hm1 := hx (r.getD 1 0) (by rw [List.getD_eq_getElem?_getD, List.getElem?_eq_getElem h2]; exact List.getElem_mem _)
          generalize hx1 : r.getD 1 0 = x1 at q1 hm1
          have wS : wrap64 (x0 + x1) = x0 + x1 := w_b hm0 hm1
          have wS2 : IntKind.i64.wrap (x0 + x1) = x0 + x1 := by rw [wrapK]; exact wS
          by_cases hs10 : x0 + x1 = 10
          · have u14 : (x0 + x1 == 10) = true := by simpa using hs10
            have hcnt : manyS r = 3 := by unfold manyS; rw [hx0, if_neg h10, hx1, if_pos ⟨h2, hs10⟩]
            clear r5 hRR hmem hx hl3 hne hm0 hm1
            by_cases hlast : i + 1 = n
            · have ul : ((i : Int) == (n : Int) - 1) = true := s_last hlast
              cases ov with
              | false =>
                have hV : out = scoresS n xs false 0 0 bg := by rw [← HV.out, hdrop, scoresS_stop _ _ _ _ _ _ _ (Or.inl ⟨hlast, rfl⟩), List.append_nil]
                go_wp2
                refine wp_region_quiet_lit (by kernel_rfl) (by kernel_rfl) ?_
                repeat ((with_reducible refine wpQuiet_step (fun K hK => ?_)); go_simp; (first | ((with_reducible refine hK _ ?_); clear hK K) | (refine iteInduction (motive := fun X => X) (fun hc => absurd hc (by simp [undef])) (fun _ => ?_); (with_reducible refine hK _ ?_); clear hK K)))
                with_reducible refine wpQuiet_nil ?_
                intro _ hw'
                obtain ⟨nq, hw''⟩ := hw'
                subst hw''
                go_wp2_with fail
                go_at_call 55
                refine (HOV.out _ ?hrd).mono ?_
                case hrd => exact HR.out.below (by repeat (first | exact HBA.out | apply pw_below_drewN))
                rintro e w9 ⟨rfl, hb9⟩
                have HO9 := Aside0.mk (Kd.R_below (Kd.R_drewN HO.out nq) hb9)
                have HBA9 := Aside0.mk (below_step (pw_below_drewN HBA.out nq) hb9)
                have HBW9 := Aside0.mk (below_step (pw_below_drewN HBW.out nq) hb9)
                clear HO HBA HBW hb9
                have HO := HO9
                have HBA := HBA9
                have HBW := HBW9
                clear HO9 HBA9 HBW9
                go_wp2
                go_ret
                refine ⟨_, rfl, ?_, ?_⟩
                · rw [← hV]
                  (with_reducible repeat (first | apply Kd.R_alloc | apply Kd.R_drewN | apply Kd.R_drew)); exact Kd.R_lower HO.out (below_size HB.out)
                · repeat (first | exact HBA.out | apply pw_below_drewN)
              | true =>
                have wM : wrap64 ((place : Int) + 3) = (place : Int) + 3 := s_w place 3 HP.out.1 (by decide) (by decide)
                have wM2 : IntKind.i64.wrap ((place : Int) + 3) = (place : Int) + 3 := by rw [wrapK]; exact wM
                by_cases hm : xs.length < place + 3
                · have um : decide ((xs.length : Int) < (place : Int) + 3) = true := s_t _ _ 3 _ rfl hm
                  have hV : out = scoresS n xs true 0 0 bg := by rw [← HV.out, hdrop, scoresS_stop _ _ _ _ _ _ _ (Or.inr (by rw [hcnt]; exact hm)), List.append_nil]
                  go_wp2
                  refine wp_region_quiet_lit (by kernel_rfl) (by kernel_rfl) ?_
                  repeat ((with_reducible refine wpQuiet_step (fun K hK => ?_)); go_simp; (first | ((with_reducible refine hK _ ?_); clear hK K) | (refine iteInduction (motive := fun X => X) (fun hc => absurd hc (by simp [undef])) (fun _ => ?_); (with_reducible refine hK _ ?_); clear hK K)))
                  with_reducible refine wpQuiet_nil ?_
                  intro _ hw'
                  obtain ⟨nq, hw''⟩ := hw'
                  subst hw''
                  go_wp2_with fail
                  go_at_call 55
                  refine (HOV.out _ ?hrd).mono ?_
                  case hrd => exact HR.out.below (by repeat (first | exact HBA.out | apply pw_below_drewN))
                  rintro e w9 ⟨rfl, hb9⟩
                  have HO9 := Aside0.mk (Kd.R_below (Kd.R_drewN HO.out nq) hb9)
                  have HBA9 := Aside0.mk (below_step (pw_below_drewN HBA.out nq) hb9)
                  have HBW9 := Aside0.mk (below_step (pw_below_drewN HBW.out nq) hb9)
                  clear HO HBA HBW hb9
                  have HO := HO9
                  have HBA := HBA9
                  have HBW := HBW9
                  clear HO9 HBA9 HBW9
                  go_wp2
                  go_ret
                  refine ⟨_, rfl, ?_, ?_⟩
                  · rw [← hV]
                    (with_reducible repeat (first | apply Kd.R_alloc | apply Kd.R_drewN | apply Kd.R_drew)); exact Kd.R_lower HO.out (below_size HB.out)
                  · repeat (first | exact HBA.out | apply pw_below_drewN)
                · have um : decide ((xs.length : Int) < (place : Int) + 3) = false := s_f _ _ 3 _ rfl hm
                  have hgo : ¬ haltS n i true (manyS r) place xs.length := fun h => h.elim (fun h => absurd h.2 (by decide)) (fun h => hm (by rw [hcnt] at h; exact h))
                  obtain ⟨A', hS, hRS⟩ := slice_mid A c xs place 3 (Nat.le_of_not_lt hm) HC.out
                  rw [show ((3 : Nat) : Int) = 3 from rfl] at hS
                  have hbx : ∀ x ∈ (xs.drop place).take 3, 0 ≤ x ∧ x ≤ 10 := fun x h => HXS.out x (List.mem_of_mem_drop (List.mem_of_mem_take h))
                  have hbl : ((xs.drop place).take 3).length ≤ 100 := s_21 (l := 0) xs HX.out
                  have hval : out ++ scoresS n xs true i place (bg.drop i) = (out ++ [((xs.drop place).take 3).sum]) ++ scoresS n xs true (i + 1) (place + r.length) (bg.drop (i + 1)) := by rw [hdrop, scoresS_step _ _ _ _ _ _ _ hgo, hcnt, List.append_assoc]; rfl
                  have wL : wrap64 ((place : Int) + (r.length : Int)) = ((place + r.length : Nat) : Int) := s_L place r.length HP.out.1 HL3.out
                  have wL2 : IntKind.i64.wrap ((place : Int) + (r.length : Int)) = ((place + r.length : Nat) : Int) := by rw [wrapK]; exact wL
                  have HBX := Aside0.mk hbx
                  have HLM := Aside0.mk hbl
                  have HRS := Aside0.mk hRS
                  clear hRS hbx hbl hgo
                  generalize ((xs.drop place).take 3) = ys at *
                  go_wp2
                  refine wp_region_quiet_lit (by kernel_rfl) (by kernel_rfl) ?_
                  repeat ((with_reducible refine wpQuiet_step (fun K hK => ?_)); go_simp; (first | ((with_reducible refine hK _ ?_); clear hK K) | (refine iteInduction (motive := fun X => X) (fun hc => absurd hc (by simp [undef])) (fun _ => ?_); (with_reducible refine hK _ ?_); clear hK K)))
                  with_reducible refine wpQuiet_nil ?_
                  intro _ hw'
                  obtain ⟨nq, hw''⟩ := hw'
                  subst hw''
                  go_wp2_with fail
                  go_at_call 55
                  refine (HOV.out _ ?hrd).mono ?_
                  case hrd => exact HR.out.below (by repeat (first | exact HBA.out | apply pw_below_drewN))
                  rintro e w9 ⟨rfl, hb9⟩
                  have HO9 := Aside0.mk (Kd.R_below (Kd.R_drewN HO.out nq) hb9)
                  have HBA9 := Aside0.mk (below_step (pw_below_drewN HBA.out nq) hb9)
                  have HBW9 := Aside0.mk (below_step (pw_below_drewN HBW.out nq) hb9)
                  clear HO HBA HBW hb9
                  have HO := HO9
                  have HBA := HBA9
                  have HBW := HBW9
                  clear HO9 HBA9 HBW9
                  go_wp2
                  have HRY := Aside0.mk (HRS.out _ (HR.out.below HBA.out))
                  generalize hsum : ys.sum = y at *
                  generalize gk = gko at *
                  go_loopg [10, 66] (ys.length + 1) (fun kq v10 v66 wy => ∃ (j nn : Nat), v66 = .int .i64 (j : Int) ∧ v10 = .int .i64 (ys.take j).sum ∧ wy = w9.drewN nn ∧ Aside0 (j + kq = ys.length + 1 ∧ j ≤ ys.length))
                  case atStart => exact ⟨0, 0, by simp, by simp, rfl, ⟨by omega⟩⟩
                  case round =>
                    obtain ⟨j, nn, rfl, rfl, rfl, HJ⟩ := hrel
                    by_cases hj : j < ys.length
                    · obtain ⟨ay, rfl, hcy⟩ := HRY.out.2.2 (Nat.lt_of_le_of_lt (Nat.zero_le _) hj)
                      have hcj := hcy j hj
                      have t1 : decide ((j : Int) < (ys.length : Int)) = true := decide_eq_true (Int.ofNat_lt.2 hj)
                      have t2 : decide (j < ys.length) = true := decide_eq_true hj
                      have hst := sum_take ys j hj
                      have hwq := w_sum ys j hj HBX.out HLM.out
                      have hwq2 : IntKind.i64.wrap ((ys.take j).sum + ys[j]) = (ys.take j).sum + ys[j] := by rw [wrapK]; exact hwq
                      rw [List.getD_eq_getElem?_getD, List.getElem?_eq_getElem hj, Option.getD_some] at hcj
                      clear hcy
                      generalize ys[j] = x at *
                      generalize (ys.take j).sum = q at *
                      have hwj := s_j j ys.length hj HLM.out
                      have hwj2 : IntKind.i64.wrap ((j : Int) + 1) = ((j + 1 : Nat) : Int) := by rw [wrapK]; exact hwj
                      go_wp2
                      go_roundg (gk - 1)
                      case measure => exact s_jm HJ.out hj
                      case rel =>
                        refine ⟨j + 1, nn, ?_, ?_, rfl, ⟨s_jr HJ.out hj⟩⟩
                        · first | rfl | (rw [hwj2]) | (rw [hwj])
                        · rw [hst]; try (first | rfl | (rw [hwq2]) | (rw [hwq]))
                    · have t1 : decide ((j : Int) < (ys.length : Int)) = false := decide_eq_false (fun h => hj (Int.ofNat_lt.1 h))
                      have t2 : decide (j < ys.length) = false := decide_eq_false hj
                      have hj2 : j = ys.length := Nat.le_antisymm HJ.out.2 (Nat.le_of_not_lt hj)
                      have hq : (ys.take j).sum = y := by rw [hj2, List.take_length]; exact hsum
                      generalize (ys.take j).sum = q at *
                      subst hq
                      go_wp2_with (first | ((with_reducible refine gate_builtin (b := .append) (xs := #[.tmp 74, .tmp 76]) rfl ?_); at_builtin; refine Kd.R_append (Kd.int .i64) (w0 := ws) ws.heap.size rfl (.tmp 74) (.tmp 76) 28 3 (.int .i64 0) 8 rfl Try.underlying28 info3 rfl (by decide) (by decide) u5 out q [.int .i64 q] (fun _ => True) (fun _ => False) rfl rfl ?aP (fun _ hk => hk.elim) ?aF ?aO ?aB ?aS ?aL ?_; (case aP => exact rfl); (case aB => exact (by repeat (first | exact HBW.out | apply below_alloc | apply pw_below_drewN))); (case aF => exact (fun _ _ => trivial)); (case aO => exact (by (with_reducible repeat (first | apply Kd.R_alloc | apply Kd.R_drewN | apply Kd.R_drew)); exact HO.out)); (case aS => exact (below_size (by repeat (first | exact HBW.out | apply below_alloc | apply pw_below_drewN)))); (case aL => exact s_al HP.out.2.2); intro v13 w13 ho hb hg hat; have HO2 := Aside0.mk ho; have HBW2 := Aside0.mk hb; clear ho hb hg hat))
                      go_roundg (gko - 1)
                      case measure => exact s_m HI.out hi
                      case rel =>
                        refine ⟨i + 1, place + r.length, out ++ [q], ?_, ?_, ⟨by (with_reducible repeat (first | apply Kd.R_alloc | apply Kd.R_drewN | apply Kd.R_drew)); exact HO2.out⟩, ⟨by repeat (first | exact HBW2.out | apply pw_below_drewN)⟩, ⟨?_⟩, ⟨?_⟩⟩
                        · have : wrap64 ((i : Int) + 1) = ((i + 1 : Nat) : Int) := s_i i HP.out.2.1
                          first | rfl | (rw [wrapK, this]) | (simp [wrapK, this]; done)
                        · first | rfl | (rw [wL2]) | (rw [wL]) | (simp [wL]; done)
                        · rw [← hval]; exact HV.out
                        · rw [List.length_append]; exact s_inv HI.out hi HL3.out
            · have ul : ((i : Int) == (n : Int) - 1) = false := s_nlast hlast
              have wM : wrap64 ((place : Int) + 3) = (place : Int) + 3 := s_w place 3 HP.out.1 (by decide) (by decide)
              have wM2 : IntKind.i64.wrap ((place : Int) + 3) = (place : Int) + 3 := by rw [wrapK]; exact wM
              by_cases hm : xs.length < place + 3
              · have um : decide ((xs.length : Int) < (place : Int) + 3) = true := s_t _ _ 3 _ rfl hm
                have hV : out = scoresS n xs ov 0 0 bg := by rw [← HV.out, hdrop, scoresS_stop _ _ _ _ _ _ _ (Or.inr (by rw [hcnt]; exact hm)), List.append_nil]
                go_wp2
                refine wp_region_quiet_lit (by kernel_rfl) (by kernel_rfl) ?_
                repeat ((with_reducible refine wpQuiet_step (fun K hK => ?_)); go_simp; (first | ((with_reducible refine hK _ ?_); clear hK K) | (refine iteInduction (motive := fun X => X) (fun hc => absurd hc (by simp [undef])) (fun _ => ?_); (with_reducible refine hK _ ?_); clear hK K)))
                with_reducible refine wpQuiet_nil ?_
                intro _ hw'
                obtain ⟨nq, hw''⟩ := hw'
                subst hw''
                go_wp2
                go_ret
                refine ⟨_, rfl, ?_, ?_⟩
                · rw [← hV]
                  (with_reducible repeat (first | apply Kd.R_alloc | apply Kd.R_drewN | apply Kd.R_drew)); exact Kd.R_lower HO.out (below_size HB.out)
                · repeat (first | exact HBA.out | apply pw_below_drewN)
              · have um : decide ((xs.length : Int) < (place : Int) + 3) = false := s_f _ _ 3 _ rfl hm
                have hgo : ¬ haltS n i ov (manyS r) place xs.length := fun h => h.elim (fun h => hlast h.1) (fun h => hm (by rw [hcnt] at h; exact h))
                obtain ⟨A', hS, hRS⟩ := slice_mid A c xs place 3 (Nat.le_of_not_lt hm) HC.out
                rw [show ((3 : Nat) : Int) = 3 from rfl] at hS
                have hbx : ∀ x ∈ (xs.drop place).take 3, 0 ≤ x ∧ x ≤ 10 := fun x h => HXS.out x (List.mem_of_mem_drop (List.mem_of_mem_take h))
                have hbl : ((xs.drop place).take 3).length ≤ 100 := s_21 (l := 0) xs HX.out
                have hval : out ++ scoresS n xs ov i place (bg.drop i) = (out ++ [((xs.drop place).take 3).sum]) ++ scoresS n xs ov (i + 1) (place + r.length) (bg.drop (i + 1)) := by rw [hdrop, scoresS_step _ _ _ _ _ _ _ hgo, hcnt, List.append_assoc]; rfl
                have wL : wrap64 ((place : Int) + (r.length : Int)) = ((place + r.length : Nat) : Int) := s_L place r.length HP.out.1 HL3.out
                have wL2 : IntKind.i64.wrap ((place : Int) + (r.length : Int)) = ((place + r.length : Nat) : Int) := by rw [wrapK]; exact wL
                have HBX := Aside0.mk hbx
                have HLM := Aside0.mk hbl
                have HRS := Aside0.mk hRS
                clear hRS hbx hbl hgo
                generalize ((xs.drop place).take 3) = ys at *
                go_wp2
                refine wp_region_quiet_lit (by kernel_rfl) (by kernel_rfl) ?_
                repeat ((with_reducible refine wpQuiet_step (fun K hK => ?_)); go_simp; (first | ((with_reducible refine hK _ ?_); clear hK K) | (refine iteInduction (motive := fun X => X) (fun hc => absurd hc (by simp [undef])) (fun _ => ?_); (with_reducible refine hK _ ?_); clear hK K)))
                with_reducible refine wpQuiet_nil ?_
                intro _ hw'
                obtain ⟨nq, hw''⟩ := hw'
                subst hw''
                go_wp2
                have HO9 := Aside0.mk (Kd.R_drewN HO.out nq)
                have HBA9 := Aside0.mk (pw_below_drewN HBA.out nq)
                have HBW9 := Aside0.mk (pw_below_drewN HBW.out nq)
                clear HO HBA HBW
                have HO := HO9
                have HBA := HBA9
                have HBW := HBW9
                clear HO9 HBA9 HBW9
                generalize World.drewN wr nq = w9 at *
                have HRY := Aside0.mk (HRS.out _ (HR.out.below HBA.out))
                generalize hsum : ys.sum = y at *
                generalize gk = gko at *
                go_loopg [10, 66] (ys.length + 1) (fun kq v10 v66 wy => ∃ (j nn : Nat), v66 = .int .i64 (j : Int) ∧ v10 = .int .i64 (ys.take j).sum ∧ wy = w9.drewN nn ∧ Aside0 (j + kq = ys.length + 1 ∧ j ≤ ys.length))
                case atStart => exact ⟨0, 0, by simp, by simp, rfl, ⟨by omega⟩⟩
                case round =>
                  obtain ⟨j, nn, rfl, rfl, rfl, HJ⟩ := hrel
                  by_cases hj : j < ys.length
                  · obtain ⟨ay, rfl, hcy⟩ := HRY.out.2.2 (Nat.lt_of_le_of_lt (Nat.zero_le _) hj)
                    have hcj := hcy j hj
                    have t1 : decide ((j : Int) < (ys.length : Int)) = true := decide_eq_true (Int.ofNat_lt.2 hj)
                    have t2 : decide (j < ys.length) = true := decide_eq_true hj
                    have hst := sum_take ys j hj
                    have hwq := w_sum ys j hj HBX.out HLM.out
                    have hwq2 : IntKind.i64.wrap ((ys.take j).sum + ys[j]) = (ys.take j).sum + ys[j] := by rw [wrapK]; exact hwq
                    rw [List.getD_eq_getElem?_getD, List.getElem?_eq_getElem hj, Option.getD_some] at hcj
                    clear hcy
                    generalize ys[j] = x at *
                    generalize (ys.take j).sum = q at *
                    have hwj := s_j j ys.length hj HLM.out
                    have hwj2 : IntKind.i64.wrap ((j : Int) + 1) = ((j + 1 : Nat) : Int) := by rw [wrapK]; exact hwj
                    go_wp2
                    go_roundg (gk - 1)
                    case measure => exact s_jm HJ.out hj
                    case rel =>
                      refine ⟨j + 1, nn, ?_, ?_, rfl, ⟨s_jr HJ.out hj⟩⟩
                      · first | rfl | (rw [hwj2]) | (rw [hwj])
                      · rw [hst]; try (first | rfl | (rw [hwq2]) | (rw [hwq]))
                  · have t1 : decide ((j : Int) < (ys.length : Int)) = false := decide_eq_false (fun h => hj (Int.ofNat_lt.1 h))
                    have t2 : decide (j < ys.length) = false := decide_eq_false hj
                    have hj2 : j = ys.length := Nat.le_antisymm HJ.out.2 (Nat.le_of_not_lt hj)
                    have hq : (ys.take j).sum = y := by rw [hj2, List.take_length]; exact hsum
                    generalize (ys.take j).sum = q at *
                    subst hq
                    go_wp2_with (first | ((with_reducible refine gate_builtin (b := .append) (xs := #[.tmp 74, .tmp 76]) rfl ?_); at_builtin; refine Kd.R_append (Kd.int .i64) (w0 := ws) ws.heap.size rfl (.tmp 74) (.tmp 76) 28 3 (.int .i64 0) 8 rfl Try.underlying28 info3 rfl (by decide) (by decide) u5 out q [.int .i64 q] (fun _ => True) (fun _ => False) rfl rfl ?aP (fun _ hk => hk.elim) ?aF ?aO ?aB ?aS ?aL ?_; (case aP => exact rfl); (case aB => exact (by repeat (first | exact HBW.out | apply below_alloc | apply pw_below_drewN))); (case aF => exact (fun _ _ => trivial)); (case aO => exact (by (with_reducible repeat (first | apply Kd.R_alloc | apply Kd.R_drewN | apply Kd.R_drew)); exact HO.out)); (case aS => exact (below_size (by repeat (first | exact HBW.out | apply below_alloc | apply pw_below_drewN)))); (case aL => exact s_al HP.out.2.2); intro v13 w13 ho hb hg hat; have HO2 := Aside0.mk ho; have HBW2 := Aside0.mk hb; clear ho hb hg hat))
                    go_roundg (gko - 1)
                    case measure => exact s_m HI.out hi
                    case rel =>
                      refine ⟨i + 1, place + r.length, out ++ [q], ?_, ?_, ⟨by (with_reducible repeat (first | apply Kd.R_alloc | apply Kd.R_drewN | apply Kd.R_drew)); exact HO2.out⟩, ⟨by repeat (first | exact HBW2.out | apply pw_below_drewN)⟩, ⟨?_⟩, ⟨?_⟩⟩
                      · have : wrap64 ((i : Int) + 1) = ((i + 1 : Nat) : Int) := s_i i HP.out.2.1
                        first | rfl | (rw [wrapK, this]) | (simp [wrapK, this]; done)
                      · first | rfl | (rw [wL2]) | (rw [wL]) | (simp [wL]; done)
                      · rw [← hval]; exact HV.out
                      · rw [List.length_append]; exact s_inv HI.out hi HL3.out
          · have u14 : (x0 + x1 == 10) = false := by simpa using hs10
            have hcnt : manyS r = 2 := by unfold manyS; rw [hx0, if_neg h10, hx1, if_neg (fun h => hs10 h.2)]
            clear r5 hRR hmem hx hl3 hne hm0 hm1
            by_cases hlast : i + 1 = n
            · have ul : ((i : Int) == (n : Int) - 1) = true := s_last hlast
              cases ov with
              | false =>
                have hV : out = scoresS n xs false 0 0 bg := by rw [← HV.out, hdrop, scoresS_stop _ _ _ _ _ _ _ (Or.inl ⟨hlast, rfl⟩), List.append_nil]
                go_wp2
                refine wp_region_quiet_lit (by kernel_rfl) (by kernel_rfl) ?_
                repeat ((with_reducible refine wpQuiet_step (fun K hK => ?_)); go_simp; (first | ((with_reducible refine hK _ ?_); clear hK K) | (refine iteInduction (motive := fun X => X) (fun hc => absurd hc (by simp [undef])) (fun _ => ?_); (with_reducible refine hK _ ?_); clear hK K)))
                with_reducible refine wpQuiet_nil ?_
                intro _ hw'
                obtain ⟨nq, hw''⟩ := hw'
                subst hw''
                go_wp2_with fail
                go_at_call 55
                refine (HOV.out _ ?hrd).mono ?_
                case hrd => exact HR.out.below (by repeat (first | exact HBA.out | apply pw_below_drewN))
                rintro e w9 ⟨rfl, hb9⟩
                have HO9 := Aside0.mk (Kd.R_below (Kd.R_drewN HO.out nq) hb9)
                have HBA9 := Aside0.mk (below_step (pw_below_drewN HBA.out nq) hb9)
                have HBW9 := Aside0.mk (below_step (pw_below_drewN HBW.out nq) hb9)
                clear HO HBA HBW hb9
                have HO := HO9
                have HBA := HBA9
                have HBW := HBW9
                clear HO9 HBA9 HBW9
                go_wp2
                go_ret
                refine ⟨_, rfl, ?_, ?_⟩
                · rw [← hV]
                  (with_reducible repeat (first | apply Kd.R_alloc | apply Kd.R_drewN | apply Kd.R_drew)); exact Kd.R_lower HO.out (below_size HB.out)
                · repeat (first | exact HBA.out | apply pw_below_drewN)
              | true =>
                have wM : wrap64 ((place : Int) + 2) = (place : Int) + 2 := s_w place 2 HP.out.1 (by decide) (by decide)
                have wM2 : IntKind.i64.wrap ((place : Int) + 2) = (place : Int) + 2 := by rw [wrapK]; exact wM
                by_cases hm : xs.length < place + 2
                · have um : decide ((xs.length : Int) < (place : Int) + 2) = true := s_t _ _ 2 _ rfl hm
                  have hV : out = scoresS n xs true 0 0 bg := by rw [← HV.out, hdrop, scoresS_stop _ _ _ _ _ _ _ (Or.inr (by rw [hcnt]; exact hm)), List.append_nil]
                  go_wp2
                  refine wp_region_quiet_lit (by kernel_rfl) (by kernel_rfl) ?_
                  repeat ((with_reducible refine wpQuiet_step (fun K hK => ?_)); go_simp; (first | ((with_reducible refine hK _ ?_); clear hK K) | (refine iteInduction (motive := fun X => X) (fun hc => absurd hc (by simp [undef])) (fun _ => ?_); (with_reducible refine hK _ ?_); clear hK K)))
                  with_reducible refine wpQuiet_nil ?_
                  intro _ hw'
                  obtain ⟨nq, hw''⟩ := hw'
                  subst hw''
                  go_wp2_with fail
                  go_at_call 55
                  refine (HOV.out _ ?hrd).mono ?_
                  case hrd => exact HR.out.below (by repeat (first | exact HBA.out | apply pw_below_drewN))
                  rintro e w9 ⟨rfl, hb9⟩
                  have HO9 := Aside0.mk (Kd.R_below (Kd.R_drewN HO.out nq) hb9)
                  have HBA9 := Aside0.mk (below_step (pw_below_drewN HBA.out nq) hb9)
                  have HBW9 := Aside0.mk (below_step (pw_below_drewN HBW.out nq) hb9)
                  clear HO HBA HBW hb9
                  have HO := HO9
                  have HBA := HBA9
                  have HBW := HBW9
                  clear HO9 HBA9 HBW9
                  go_wp2
                  go_ret
                  refine ⟨_, rfl, ?_, ?_⟩
                  · rw [← hV]
                    (with_reducible repeat (first | apply Kd.R_alloc | apply Kd.R_drewN | apply Kd.R_drew)); exact Kd.R_lower HO.out (below_size HB.out)
                  · repeat (first | exact HBA.out | apply pw_below_drewN)
                · have um : decide ((xs.length : Int) < (place : Int) + 2) = false := s_f _ _ 2 _ rfl hm
                  have hgo : ¬ haltS n i true (manyS r) place xs.length := fun h => h.elim (fun h => absurd h.2 (by decide)) (fun h => hm (by rw [hcnt] at h; exact h))
                  obtain ⟨A', hS, hRS⟩ := slice_mid A c xs place 2 (Nat.le_of_not_lt hm) HC.out
                  rw [show ((2 : Nat) : Int) = 2 from rfl] at hS
                  have hbx : ∀ x ∈ (xs.drop place).take 2, 0 ≤ x ∧ x ≤ 10 := fun x h => HXS.out x (List.mem_of_mem_drop (List.mem_of_mem_take h))
                  have hbl : ((xs.drop place).take 2).length ≤ 100 := s_21 (l := 0) xs HX.out
                  have hval : out ++ scoresS n xs true i place (bg.drop i) = (out ++ [((xs.drop place).take 2).sum]) ++ scoresS n xs true (i + 1) (place + r.length) (bg.drop (i + 1)) := by rw [hdrop, scoresS_step _ _ _ _ _ _ _ hgo, hcnt, List.append_assoc]; rfl
                  have wL : wrap64 ((place : Int) + (r.length : Int)) = ((place + r.length : Nat) : Int) := s_L place r.length HP.out.1 HL3.out
                  have wL2 : IntKind.i64.wrap ((place : Int) + (r.length : Int)) = ((place + r.length : Nat) : Int) := by rw [wrapK]; exact wL
                  have HBX := Aside0.mk hbx
                  have HLM := Aside0.mk hbl
                  have HRS := Aside0.mk hRS
                  clear hRS hbx hbl hgo
                  generalize ((xs.drop place).take 2) = ys at *
                  go_wp2
                  refine wp_region_quiet_lit (by kernel_rfl) (by kernel_rfl) ?_
                  repeat ((with_reducible refine wpQuiet_step (fun K hK => ?_)); go_simp; (first | ((with_reducible refine hK _ ?_); clear hK K) | (refine iteInduction (motive := fun X => X) (fun hc => absurd hc (by simp [undef])) (fun _ => ?_); (with_reducible refine hK _ ?_); clear hK K)))
                  with_reducible refine wpQuiet_nil ?_
                  intro _ hw'
                  obtain ⟨nq, hw''⟩ := hw'
                  subst hw''
                  go_wp2_with fail
                  go_at_call 55
                  refine (HOV.out _ ?hrd).mono ?_
                  case hrd => exact HR.out.below (by repeat (first | exact HBA.out | apply pw_below_drewN))
                  rintro e w9 ⟨rfl, hb9⟩
                  have HO9 := Aside0.mk (Kd.R_below (Kd.R_drewN HO.out nq) hb9)
                  have HBA9 := Aside0.mk (below_step (pw_below_drewN HBA.out nq) hb9)
                  have HBW9 := Aside0.mk (below_step (pw_below_drewN HBW.out nq) hb9)
                  clear HO HBA HBW hb9
                  have HO := HO9
                  have HBA := HBA9
                  have HBW := HBW9
                  clear HO9 HBA9 HBW9
                  go_wp2
                  have HRY := Aside0.mk (HRS.out _ (HR.out.below HBA.out))
                  generalize hsum : ys.sum = y at *
                  generalize gk = gko at *
                  go_loopg [10, 66] (ys.length + 1) (fun kq v10 v66 wy => ∃ (j nn : Nat), v66 = .int .i64 (j : Int) ∧ v10 = .int .i64 (ys.take j).sum ∧ wy = w9.drewN nn ∧ Aside0 (j + kq = ys.length + 1 ∧ j ≤ ys.length))
                  case atStart => exact ⟨0, 0, by simp, by simp, rfl, ⟨by omega⟩⟩
                  case round =>
                    obtain ⟨j, nn, rfl, rfl, rfl, HJ⟩ := hrel
                    by_cases hj : j < ys.length
                    · obtain ⟨ay, rfl, hcy⟩ := HRY.out.2.2 (Nat.lt_of_le_of_lt (Nat.zero_le _) hj)
                      have hcj := hcy j hj
                      have t1 : decide ((j : Int) < (ys.length : Int)) = true := decide_eq_true (Int.ofNat_lt.2 hj)
                      have t2 : decide (j < ys.length) = true := decide_eq_true hj
                      have hst := sum_take ys j hj
                      have hwq := w_sum ys j hj HBX.out HLM.out
                      have hwq2 : IntKind.i64.wrap ((ys.take j).sum + ys[j]) = (ys.take j).sum + ys[j] := by rw [wrapK]; exact hwq
                      rw [List.getD_eq_getElem?_getD, List.getElem?_eq_getElem hj, Option.getD_some] at hcj
                      clear hcy
                      generalize ys[j] = x at *
                      generalize (ys.take j).sum = q at *
                      have hwj := s_j j ys.length hj HLM.out
                      have hwj2 : IntKind.i64.wrap ((j : Int) + 1) = ((j + 1 : Nat) : Int) := by rw [wrapK]; exact hwj
                      go_wp2
                      go_roundg (gk - 1)
                      case measure => exact s_jm HJ.out hj
                      case rel =>
                        refine ⟨j + 1, nn, ?_, ?_, rfl, ⟨s_jr HJ.out hj⟩⟩
                        · first | rfl | (rw [hwj2]) | (rw [hwj])
                        · rw [hst]; try (first | rfl | (rw [hwq2]) | (rw [hwq]))
                    · have t1 : decide ((j : Int) < (ys.length : Int)) = false := decide_eq_false (fun h => hj (Int.ofNat_lt.1 h))
                      have t2 : decide (j < ys.length) = false := decide_eq_false hj
                      have hj2 : j = ys.length := Nat.le_antisymm HJ.out.2 (Nat.le_of_not_lt hj)
                      have hq : (ys.take j).sum = y := by rw [hj2, List.take_length]; exact hsum
                      generalize (ys.take j).sum = q at *
                      subst hq
                      go_wp2_with (first | ((with_reducible refine gate_builtin (b := .append) (xs := #[.tmp 74, .tmp 76]) rfl ?_); at_builtin; refine Kd.R_append (Kd.int .i64) (w0 := ws) ws.heap.size rfl (.tmp 74) (.tmp 76) 28 3 (.int .i64 0) 8 rfl Try.underlying28 info3 rfl (by decide) (by decide) u5 out q [.int .i64 q] (fun _ => True) (fun _ => False) rfl rfl ?aP (fun _ hk => hk.elim) ?aF ?aO ?aB ?aS ?aL ?_; (case aP => exact rfl); (case aB => exact (by repeat (first | exact HBW.out | apply below_alloc | apply pw_below_drewN))); (case aF => exact (fun _ _ => trivial)); (case aO => exact (by (with_reducible repeat (first | apply Kd.R_alloc | apply Kd.R_drewN | apply Kd.R_drew)); exact HO.out)); (case aS => exact (below_size (by repeat (first | exact HBW.out | apply below_alloc | apply pw_below_drewN)))); (case aL => exact s_al HP.out.2.2); intro v13 w13 ho hb hg hat; have HO2 := Aside0.mk ho; have HBW2 := Aside0.mk hb; clear ho hb hg hat))
                      go_roundg (gko - 1)
                      case measure => exact s_m HI.out hi
                      case rel =>
                        refine ⟨i + 1, place + r.length, out ++ [q], ?_, ?_, ⟨by (with_reducible repeat (first | apply Kd.R_alloc | apply Kd.R_drewN | apply Kd.R_drew)); exact HO2.out⟩, ⟨by repeat (first | exact HBW2.out | apply pw_below_drewN)⟩, ⟨?_⟩, ⟨?_⟩⟩
                        · have : wrap64 ((i : Int) + 1) = ((i + 1 : Nat) : Int) := s_i i HP.out.2.1
                          first | rfl | (rw [wrapK, this]) | (simp [wrapK, this]; done)
                        · first | rfl | (rw [wL2]) | (rw [wL]) | (simp [wL]; done)
                        · rw [← hval]; exact HV.out
                        · rw [List.length_append]; exact s_inv HI.out hi HL3.out
            · have ul : ((i : Int) == (n : Int) - 1) = false := s_nlast hlast
              have wM : wrap64 ((place : Int) + 2) = (place : Int) + 2 := s_w place 2 HP.out.1 (by decide) (by decide)
              have wM2 : IntKind.i64.wrap ((place : Int) + 2) = (place : Int) + 2 := by rw [wrapK]; exact wM
              by_cases hm : xs.length < place + 2
              · have um : decide ((xs.length : Int) < (place : Int) + 2) = true := s_t _ _ 2 _ rfl hm
                have hV : out = scoresS n xs ov 0 0 bg := by rw [← HV.out, hdrop, scoresS_stop _ _ _ _ _ _ _ (Or.inr (by rw [hcnt]; exact hm)), List.append_nil]
                go_wp2
                refine wp_region_quiet_lit (by kernel_rfl) (by kernel_rfl) ?_
                repeat ((with_reducible refine wpQuiet_step (fun K hK => ?_)); go_simp; (first | ((with_reducible refine hK _ ?_); clear hK K) | (refine iteInduction (motive := fun X => X) (fun hc => absurd hc (by simp [undef])) (fun _ => ?_); (with_reducible refine hK _ ?_); clear hK K)))
                with_reducible refine wpQuiet_nil ?_
                intro _ hw'
                obtain ⟨nq, hw''⟩ := hw'
                subst hw''
                go_wp2
                go_ret
                refine ⟨_, rfl, ?_, ?_⟩
                · rw [← hV]
                  (with_reducible repeat (first | apply Kd.R_alloc | apply Kd.R_drewN | apply Kd.R_drew)); exact Kd.R_lower HO.out (below_size HB.out)
                · repeat (first | exact HBA.out | apply pw_below_drewN)
              · have um : decide ((xs.length : Int) < (place : Int) + 2) = false := s_f _ _ 2 _ rfl hm
                have hgo : ¬ haltS n i ov (manyS r) place xs.length := fun h => h.elim (fun h => hlast h.1) (fun h => hm (by rw [hcnt] at h; exact h))
                obtain ⟨A', hS, hRS⟩ := slice_mid A c xs place 2 (Nat.le_of_not_lt hm) HC.out
                rw [show ((2 : Nat) : Int) = 2 from rfl] at hS
                have hbx : ∀ x ∈ (xs.drop place).take 2, 0 ≤ x ∧ x ≤ 10 := fun x h => HXS.out x (List.mem_of_mem_drop (List.mem_of_mem_take h))
                have hbl : ((xs.drop place).take 2).length ≤ 100 := s_21 (l := 0) xs HX.out
                have hval : out ++ scoresS n xs ov i place (bg.drop i) = (out ++ [((xs.drop place).take 2).sum]) ++ scoresS n xs ov (i + 1) (place + r.length) (bg.drop (i + 1)) := by rw [hdrop, scoresS_step _ _ _ _ _ _ _ hgo, hcnt, List.append_assoc]; rfl
                have wL : wrap64 ((place : Int) + (r.length : Int)) = ((place + r.length : Nat) : Int) := s_L place r.length HP.out.1 HL3.out
                have wL2 : IntKind.i64.wrap ((place : Int) + (r.length : Int)) = ((place + r.length : Nat) : Int) := by rw [wrapK]; exact wL
                have HBX := Aside0.mk hbx
                have HLM := Aside0.mk hbl
                have HRS := Aside0.mk hRS
                clear hRS hbx hbl hgo
                generalize ((xs.drop place).take 2) = ys at *
                go_wp2
                refine wp_region_quiet_lit (by kernel_rfl) (by kernel_rfl) ?_
                repeat ((with_reducible refine wpQuiet_step (fun K hK => ?_)); go_simp; (first | ((with_reducible refine hK _ ?_); clear hK K) | (refine iteInduction (motive := fun X => X) (fun hc => absurd hc (by simp [undef])) (fun _ => ?_); (with_reducible refine hK _ ?_); clear hK K)))
                with_reducible refine wpQuiet_nil ?_
                intro _ hw'
                obtain ⟨nq, hw''⟩ := hw'
                subst hw''
                go_wp2
                have HO9 := Aside0.mk (Kd.R_drewN HO.out nq)
                have HBA9 := Aside0.mk (pw_below_drewN HBA.out nq)
                have HBW9 := Aside0.mk (pw_below_drewN HBW.out nq)
                clear HO HBA HBW
                have HO := HO9
                have HBA := HBA9
                have HBW := HBW9
                clear HO9 HBA9 HBW9
                generalize World.drewN wr nq = w9 at *
                have HRY := Aside0.mk (HRS.out _ (HR.out.below HBA.out))
                generalize hsum : ys.sum = y at *
                generalize gk = gko at *
                go_loopg [10, 66] (ys.length + 1) (fun kq v10 v66 wy => ∃ (j nn : Nat), v66 = .int .i64 (j : Int) ∧ v10 = .int .i64 (ys.take j).sum ∧ wy = w9.drewN nn ∧ Aside0 (j + kq = ys.length + 1 ∧ j ≤ ys.length))
                case atStart => exact ⟨0, 0, by simp, by simp, rfl, ⟨by omega⟩⟩
                case round =>
                  obtain ⟨j, nn, rfl, rfl, rfl, HJ⟩ := hrel
                  by_cases hj : j < ys.length
                  · obtain ⟨ay, rfl, hcy⟩ := HRY.out.2.2 (Nat.lt_of_le_of_lt (Nat.zero_le _) hj)
                    have hcj := hcy j hj
                    have t1 : decide ((j : Int) < (ys.length : Int)) = true := decide_eq_true (Int.ofNat_lt.2 hj)
                    have t2 : decide (j < ys.length) = true := decide_eq_true hj
                    have hst := sum_take ys j hj
                    have hwq := w_sum ys j hj HBX.out HLM.out
                    have hwq2 : IntKind.i64.wrap ((ys.take j).sum + ys[j]) = (ys.take j).sum + ys[j] := by rw [wrapK]; exact hwq
                    rw [List.getD_eq_getElem?_getD, List.getElem?_eq_getElem hj, Option.getD_some] at hcj
                    clear hcy
                    generalize ys[j] = x at *
                    generalize (ys.take j).sum = q at *
                    have hwj := s_j j ys.length hj HLM.out
                    have hwj2 : IntKind.i64.wrap ((j : Int) + 1) = ((j + 1 : Nat) : Int) := by rw [wrapK]; exact hwj
                    go_wp2
                    go_roundg (gk - 1)
                    case measure => exact s_jm HJ.out hj
                    case rel =>
                      refine ⟨j + 1, nn, ?_, ?_, rfl, ⟨s_jr HJ.out hj⟩⟩
                      · first | rfl | (rw [hwj2]) | (rw [hwj])
                      · rw [hst]; try (first | rfl | (rw [hwq2]) | (rw [hwq]))
                  · have t1 : decide ((j : Int) < (ys.length : Int)) = false := decide_eq_false (fun h => hj (Int.ofNat_lt.1 h))
                    have t2 : decide (j < ys.length) = false := decide_eq_false hj
                    have hj2 : j = ys.length := Nat.le_antisymm HJ.out.2 (Nat.le_of_not_lt hj)
                    have hq : (ys.take j).sum = y := by rw [hj2, List.take_length]; exact hsum
                    generalize (ys.take j).sum = q at *
                    subst hq
                    go_wp2_with (first | ((with_reducible refine gate_builtin (b := .append) (xs := #[.tmp 74, .tmp 76]) rfl ?_); at_builtin; refine Kd.R_append (Kd.int .i64) (w0 := ws) ws.heap.size rfl (.tmp 74) (.tmp 76) 28 3 (.int .i64 0) 8 rfl Try.underlying28 info3 rfl (by decide) (by decide) u5 out q [.int .i64 q] (fun _ => True) (fun _ => False) rfl rfl ?aP (fun _ hk => hk.elim) ?aF ?aO ?aB ?aS ?aL ?_; (case aP => exact rfl); (case aB => exact (by repeat (first | exact HBW.out | apply below_alloc | apply pw_below_drewN))); (case aF => exact (fun _ _ => trivial)); (case aO => exact (by (with_reducible repeat (first | apply Kd.R_alloc | apply Kd.R_drewN | apply Kd.R_drew)); exact HO.out)); (case aS => exact (below_size (by repeat (first | exact HBW.out | apply below_alloc | apply pw_below_drewN)))); (case aL => exact s_al HP.out.2.2); intro v13 w13 ho hb hg hat; have HO2 := Aside0.mk ho; have HBW2 := Aside0.mk hb; clear ho hb hg hat))
                    go_roundg (gko - 1)
                    case measure => exact s_m HI.out hi
                    case rel =>
                      refine ⟨i + 1, place + r.length, out ++ [q], ?_, ?_, ⟨by (with_reducible repeat (first | apply Kd.R_alloc | apply Kd.R_drewN | apply Kd.R_drew)); exact HO2.out⟩, ⟨by repeat (first | exact HBW2.out | apply pw_below_drewN)⟩, ⟨?_⟩, ⟨?_⟩⟩
                      · have : wrap64 ((i : Int) + 1) = ((i + 1 : Nat) : Int) := s_i i HP.out.2.1
                        first | rfl | (rw [wrapK, this]) | (simp [wrapK, this]; done)
                      · first | rfl | (rw [wL2]) | (rw [wL]) | (simp [wL]; done)
                      · rw [← hval]; exact HV.out
                      · rw [List.length_append]; exact s_inv HI.out hi HL3.out
        · have u12 : decide ((1 : Int) < (r.length : Int)) = false := decide_eq_false (fun h => h2 (Int.ofNat_lt.1 h))
          have hcnt : manyS r = 2 := by unfold manyS; rw [hx0, if_neg h10, if_neg (fun h => h2 h.1)]
          clear r5 hRR hmem hx hl3 hne hm0
          by_cases hlast : i + 1 = n
          · have ul : ((i : Int) == (n : Int) - 1) = true := s_last hlast
            cases ov with
            | false =>
              have hV : out = scoresS n xs false 0 0 bg := by rw [← HV.out, hdrop, scoresS_stop _ _ _ _ _ _ _ (Or.inl ⟨hlast, rfl⟩), List.append_nil]
              go_wp2
              refine wp_region_quiet_lit (by kernel_rfl) (by kernel_rfl) ?_
              repeat ((with_reducible refine wpQuiet_step (fun K hK => ?_)); go_simp; (first | ((with_reducible refine hK _ ?_); clear hK K) | (refine iteInduction (motive := fun X => X) (fun hc => absurd hc (by simp [undef])) (fun _ => ?_); (with_reducible refine hK _ ?_); clear hK K)))
              with_reducible refine wpQuiet_nil ?_
              intro _ hw'
              obtain ⟨nq, hw''⟩ := hw'
              subst hw''
              go_wp2_with fail
              go_at_call 55
              refine (HOV.out _ ?hrd).mono ?_
              case hrd => exact HR.out.below (by repeat (first | exact HBA.out | apply pw_below_drewN))
              rintro e w9 ⟨rfl, hb9⟩
              have HO9 := Aside0.mk (Kd.R_below (Kd.R_drewN HO.out nq) hb9)
              have HBA9 := Aside0.mk (below_step (pw_below_drewN HBA.out nq) hb9)
              have HBW9 := Aside0.mk (below_step (pw_below_drewN HBW.out nq) hb9)
              clear HO HBA HBW hb9
              have HO := HO9
              have HBA := HBA9
              have HBW := HBW9
              clear HO9 HBA9 HBW9
              go_wp2
              go_ret
              refine ⟨_, rfl, ?_, ?_⟩
              · rw [← hV]
                (with_reducible repeat (first | apply Kd.R_alloc | apply Kd.R_drewN | apply Kd.R_drew)); exact Kd.R_lower HO.out (below_size HB.out)
              · repeat (first | exact HBA.out | apply pw_below_drewN)
            | true =>
              have wM : wrap64 ((place : Int) + 2) = (place : Int) + 2 := s_w place 2 HP.out.1 (by decide) (by decide)
              have wM2 : IntKind.i64.wrap ((place : Int) + 2) = (place : Int) + 2 := by rw [wrapK]; exact wM
              by_cases hm : xs.length < place + 2
              · have um : decide ((xs.length : Int) < (place : Int) + 2) = true := s_t _ _ 2 _ rfl hm
                have hV : out = scoresS n xs true 0 0 bg := by rw [← HV.out, hdrop, scoresS_stop _ _ _ _ _ _ _ (Or.inr (by rw [hcnt]; exact hm)), List.append_nil]
                go_wp2
                refine wp_region_quiet_lit (by kernel_rfl) (by kernel_rfl) ?_
                repeat ((with_reducible refine wpQuiet_step (fun K hK => ?_)); go_simp; (first | ((with_reducible refine hK _ ?_); clear hK K) | (refine iteInduction (motive := fun X => X) (fun hc => absurd hc (by simp [undef])) (fun _ => ?_); (with_reducible refine hK _ ?_); clear hK K)))
                with_reducible refine wpQuiet_nil ?_
                intro _ hw'
                obtain ⟨nq, hw''⟩ := hw'
                subst hw''
                go_wp2_with fail
                go_at_call 55
                refine (HOV.out _ ?hrd).mono ?_
                case hrd => exact HR.out.below (by repeat (first | exact HBA.out | apply pw_below_drewN))
                rintro e w9 ⟨rfl, hb9⟩
                have HO9 := Aside0.mk (Kd.R_below (Kd.R_drewN HO.out nq) hb9)
                have HBA9 := Aside0.mk (below_step (pw_below_drewN HBA.out nq) hb9)
                have HBW9 := Aside0.mk (below_step (pw_below_drewN HBW.out nq) hb9)
                clear HO HBA HBW hb9
                have HO := HO9
                have HBA := HBA9
                have HBW := HBW9
                clear HO9 HBA9 HBW9
                go_wp2
                go_ret
                refine ⟨_, rfl, ?_, ?_⟩
                · rw [← hV]
                  (with_reducible repeat (first | apply Kd.R_alloc | apply Kd.R_drewN | apply Kd.R_drew)); exact Kd.R_lower HO.out (below_size HB.out)
                · repeat (first | exact HBA.out | apply pw_below_drewN)
              · have um : decide ((xs.length : Int) < (place : Int) + 2) = false := s_f _ _ 2 _ rfl hm
                have hgo : ¬ haltS n i true (manyS r) place xs.length := fun h => h.elim (fun h => absurd h.2 (by decide)) (fun h => hm (by rw [hcnt] at h; exact h))
                obtain ⟨A', hS, hRS⟩ := slice_mid A c xs place 2 (Nat.le_of_not_lt hm) HC.out
                rw [show ((2 : Nat) : Int) = 2 from rfl] at hS
                have hbx : ∀ x ∈ (xs.drop place).take 2, 0 ≤ x ∧ x ≤ 10 := fun x h => HXS.out x (List.mem_of_mem_drop (List.mem_of_mem_take h))
                have hbl : ((xs.drop place).take 2).length ≤ 100 := s_21 (l := 0) xs HX.out
                have hval : out ++ scoresS n xs true i place (bg.drop i) = (out ++ [((xs.drop place).take 2).sum]) ++ scoresS n xs true (i + 1) (place + r.length) (bg.drop (i + 1)) := by rw [hdrop, scoresS_step _ _ _ _ _ _ _ hgo, hcnt, List.append_assoc]; rfl
                have wL : wrap64 ((place : Int) + (r.length : Int)) = ((place + r.length : Nat) : Int) := s_L place r.length HP.out.1 HL3.out
                have wL2 : IntKind.i64.wrap ((place : Int) + (r.length : Int)) = ((place + r.length : Nat) : Int) := by rw [wrapK]; exact wL
                have HBX := Aside0.mk hbx
                have HLM := Aside0.mk hbl
                have HRS := Aside0.mk hRS
                clear hRS hbx hbl hgo
                generalize ((xs.drop place).take 2) = ys at *
                go_wp2
                refine wp_region_quiet_lit (by kernel_rfl) (by kernel_rfl) ?_
                repeat ((with_reducible refine wpQuiet_step (fun K hK => ?_)); go_simp; (first | ((with_reducible refine hK _ ?_); clear hK K) | (refine iteInduction (motive := fun X => X) (fun hc => absurd hc (by simp [undef])) (fun _ => ?_); (with_reducible refine hK _ ?_); clear hK K)))
                with_reducible refine wpQuiet_nil ?_
                intro _ hw'
                obtain ⟨nq, hw''⟩ := hw'
                subst hw''
                go_wp2_with fail
                go_at_call 55
                refine (HOV.out _ ?hrd).mono ?_
                case hrd => exact HR.out.below (by repeat (first | exact HBA.out | apply pw_below_drewN))
                rintro e w9 ⟨rfl, hb9⟩
                have HO9 := Aside0.mk (Kd.R_below (Kd.R_drewN HO.out nq) hb9)
                have HBA9 := Aside0.mk (below_step (pw_below_drewN HBA.out nq) hb9)
                have HBW9 := Aside0.mk (below_step (pw_below_drewN HBW.out nq) hb9)
                clear HO HBA HBW hb9
                have HO := HO9
                have HBA := HBA9
                have HBW := HBW9
                clear HO9 HBA9 HBW9
                go_wp2
                have HRY := Aside0.mk (HRS.out _ (HR.out.below HBA.out))
                generalize hsum : ys.sum = y at *
                generalize gk = gko at *
                go_loopg [10, 66] (ys.length + 1) (fun kq v10 v66 wy => ∃ (j nn : Nat), v66 = .int .i64 (j : Int) ∧ v10 = .int .i64 (ys.take j).sum ∧ wy = w9.drewN nn ∧ Aside0 (j + kq = ys.length + 1 ∧ j ≤ ys.length))
                case atStart => exact ⟨0, 0, by simp, by simp, rfl, ⟨by omega⟩⟩
                case round =>
                  obtain ⟨j, nn, rfl, rfl, rfl, HJ⟩ := hrel
                  by_cases hj : j < ys.length
                  · obtain ⟨ay, rfl, hcy⟩ := HRY.out.2.2 (Nat.lt_of_le_of_lt (Nat.zero_le _) hj)
                    have hcj := hcy j hj
                    have t1 : decide ((j : Int) < (ys.length : Int)) = true := decide_eq_true (Int.ofNat_lt.2 hj)
                    have t2 : decide (j < ys.length) = true := decide_eq_true hj
                    have hst := sum_take ys j hj
                    have hwq := w_sum ys j hj HBX.out HLM.out
                    have hwq2 : IntKind.i64.wrap ((ys.take j).sum + ys[j]) = (ys.take j).sum + ys[j] := by rw [wrapK]; exact hwq
                    rw [List.getD_eq_getElem?_getD, List.getElem?_eq_getElem hj, Option.getD_some] at hcj
                    clear hcy
                    generalize ys[j] = x at *
                    generalize (ys.take j).sum = q at *
                    have hwj := s_j j ys.length hj HLM.out
                    have hwj2 : IntKind.i64.wrap ((j : Int) + 1) = ((j + 1 : Nat) : Int) := by rw [wrapK]; exact hwj
                    go_wp2
                    go_roundg (gk - 1)
                    case measure => exact s_jm HJ.out hj
                    case rel =>
                      refine ⟨j + 1, nn, ?_, ?_, rfl, ⟨s_jr HJ.out hj⟩⟩
                      · first | rfl | (rw [hwj2]) | (rw [hwj])
                      · rw [hst]; try (first | rfl | (rw [hwq2]) | (rw [hwq]))
                  · have t1 : decide ((j : Int) < (ys.length : Int)) = false := decide_eq_false (fun h => hj (Int.ofNat_lt.1 h))
                    have t2 : decide (j < ys.length) = false := decide_eq_false hj
                    have hj2 : j = ys.length := Nat.le_antisymm HJ.out.2 (Nat.le_of_not_lt hj)
                    have hq : (ys.take j).sum = y := by rw [hj2, List.take_length]; exact hsum
                    generalize (ys.take j).sum = q at *
                    subst hq
                    go_wp2_with (first | ((with_reducible refine gate_builtin (b := .append) (xs := #[.tmp 74, .tmp 76]) rfl ?_); at_builtin; refine Kd.R_append (Kd.int .i64) (w0 := ws) ws.heap.size rfl (.tmp 74) (.tmp 76) 28 3 (.int .i64 0) 8 rfl Try.underlying28 info3 rfl (by decide) (by decide) u5 out q [.int .i64 q] (fun _ => True) (fun _ => False) rfl rfl ?aP (fun _ hk => hk.elim) ?aF ?aO ?aB ?aS ?aL ?_; (case aP => exact rfl); (case aB => exact (by repeat (first | exact HBW.out | apply below_alloc | apply pw_below_drewN))); (case aF => exact (fun _ _ => trivial)); (case aO => exact (by (with_reducible repeat (first | apply Kd.R_alloc | apply Kd.R_drewN | apply Kd.R_drew)); exact HO.out)); (case aS => exact (below_size (by repeat (first | exact HBW.out | apply below_alloc | apply pw_below_drewN)))); (case aL => exact s_al HP.out.2.2); intro v13 w13 ho hb hg hat; have HO2 := Aside0.mk ho; have HBW2 := Aside0.mk hb; clear ho hb hg hat))
                    go_roundg (gko - 1)
                    case measure => exact s_m HI.out hi
                    case rel =>
                      refine ⟨i + 1, place + r.length, out ++ [q], ?_, ?_, ⟨by (with_reducible repeat (first | apply Kd.R_alloc | apply Kd.R_drewN | apply Kd.R_drew)); exact HO2.out⟩, ⟨by repeat (first | exact HBW2.out | apply pw_below_drewN)⟩, ⟨?_⟩, ⟨?_⟩⟩
                      · have : wrap64 ((i : Int) + 1) = ((i + 1 : Nat) : Int) := s_i i HP.out.2.1
                        first | rfl | (rw [wrapK, this]) | (simp [wrapK, this]; done)
                      · first | rfl | (rw [wL2]) | (rw [wL]) | (simp [wL]; done)
                      · rw [← hval]; exact HV.out
                      · rw [List.length_append]; exact s_inv HI.out hi HL3.out
          · have ul : ((i : Int) == (n : Int) - 1) = false := s_nlast hlast
            have wM : wrap64 ((place : Int) + 2) = (place : Int) + 2 := s_w place 2 HP.out.1 (by decide) (by decide)
            have wM2 : IntKind.i64.wrap ((place : Int) + 2) = (place : Int) + 2 := by rw [wrapK]; exact wM
            by_cases hm : xs.length < place + 2
            · have um : decide ((xs.length : Int) < (place : Int) + 2) = true := s_t _ _ 2 _ rfl hm
              have hV : out = scoresS n xs ov 0 0 bg := by rw [← HV.out, hdrop, scoresS_stop _ _ _ _ _ _ _ (Or.inr (by rw [hcnt]; exact hm)), List.append_nil]
              go_wp2
              refine wp_region_quiet_lit (by kernel_rfl) (by kernel_rfl) ?_
              repeat ((with_reducible refine wpQuiet_step (fun K hK => ?_)); go_simp; (first | ((with_reducible refine hK _ ?_); clear hK K) | (refine iteInduction (motive := fun X => X) (fun hc => absurd hc (by simp [undef])) (fun _ => ?_); (with_reducible refine hK _ ?_); clear hK K)))
              with_reducible refine wpQuiet_nil ?_
              intro _ hw'
              obtain ⟨nq, hw''⟩ := hw'
              subst hw''
              go_wp2
              go_ret
              refine ⟨_, rfl, ?_, ?_⟩
              · rw [← hV]
                (with_reducible repeat (first | apply Kd.R_alloc | apply Kd.R_drewN | apply Kd.R_drew)); exact Kd.R_lower HO.out (below_size HB.out)
              · repeat (first | exact HBA.out | apply pw_below_drewN)
            · have um : decide ((xs.length : Int) < (place : Int) + 2) = false := s_f _ _ 2 _ rfl hm
              have hgo : ¬ haltS n i ov (manyS r) place xs.length := fun h => h.elim (fun h => hlast h.1) (fun h => hm (by rw [hcnt] at h; exact h))
              obtain ⟨A', hS, hRS⟩ := slice_mid A c xs place 2 (Nat.le_of_not_lt hm) HC.out
              rw [show ((2 : Nat) : Int) = 2 from rfl] at hS
              have hbx : ∀ x ∈ (xs.drop place).take 2, 0 ≤ x ∧ x ≤ 10 := fun x h => HXS.out x (List.mem_of_mem_drop (List.mem_of_mem_take h))
              have hbl : ((xs.drop place).take 2).length ≤ 100 := s_21 (l := 0) xs HX.out
              have hval : out ++ scoresS n xs ov i place (bg.drop i) = (out ++ [((xs.drop place).take 2).sum]) ++ scoresS n xs ov (i + 1) (place + r.length) (bg.drop (i + 1)) := by rw [hdrop, scoresS_step _ _ _ _ _ _ _ hgo, hcnt, List.append_assoc]; rfl
              have wL : wrap64 ((place : Int) + (r.length : Int)) = ((place + r.length : Nat) : Int) := s_L place r.length HP.out.1 HL3.out
              have wL2 : IntKind.i64.wrap ((place : Int) + (r.length : Int)) = ((place + r.length : Nat) : Int) := by rw [wrapK]; exact wL
              have HBX := Aside0.mk hbx
              have HLM := Aside0.mk hbl
              have HRS := Aside0.mk hRS
              clear hRS hbx hbl hgo
              generalize ((xs.drop place).take 2) = ys at *
              go_wp2
              refine wp_region_quiet_lit (by kernel_rfl) (by kernel_rfl) ?_
              repeat ((with_reducible refine wpQuiet_step (fun K hK => ?_)); go_simp; (first | ((with_reducible refine hK _ ?_); clear hK K) | (refine iteInduction (motive := fun X => X) (fun hc => absurd hc (by simp [undef])) (fun _ => ?_); (with_reducible refine hK _ ?_); clear hK K)))
              with_reducible refine wpQuiet_nil ?_
              intro _ hw'
              obtain ⟨nq, hw''⟩ := hw'
              subst hw''
              go_wp2
              have HO9 := Aside0.mk (Kd.R_drewN HO.out nq)
              have HBA9 := Aside0.mk (pw_below_drewN HBA.out nq)
              have HBW9 := Aside0.mk (pw_below_drewN HBW.out nq)
              clear HO HBA HBW
              have HO := HO9
              have HBA := HBA9
              have HBW := HBW9
              clear HO9 HBA9 HBW9
              generalize World.drewN wr nq = w9 at *
              have HRY := Aside0.mk (HRS.out _ (HR.out.below HBA.out))
              generalize hsum : ys.sum = y at *
              generalize gk = gko at *
              go_loopg [10, 66] (ys.length + 1) (fun kq v10 v66 wy => ∃ (j nn : Nat), v66 = .int .i64 (j : Int) ∧ v10 = .int .i64 (ys.take j).sum ∧ wy = w9.drewN nn ∧ Aside0 (j + kq = ys.length + 1 ∧ j ≤ ys.length))
              case atStart => exact ⟨0, 0, by simp, by simp, rfl, ⟨by omega⟩⟩
              case round =>
                obtain ⟨j, nn, rfl, rfl, rfl, HJ⟩ := hrel
                by_cases hj : j < ys.length
                · obtain ⟨ay, rfl, hcy⟩ := HRY.out.2.2 (Nat.lt_of_le_of_lt (Nat.zero_le _) hj)
                  have hcj := hcy j hj
                  have t1 : decide ((j : Int) < (ys.length : Int)) = true := decide_eq_true (Int.ofNat_lt.2 hj)
                  have t2 : decide (j < ys.length) = true := decide_eq_true hj
                  have hst := sum_take ys j hj
                  have hwq := w_sum ys j hj HBX.out HLM.out
                  have hwq2 : IntKind.i64.wrap ((ys.take j).sum + ys[j]) = (ys.take j).sum + ys[j] := by rw [wrapK]; exact hwq
                  rw [List.getD_eq_getElem?_getD, List.getElem?_eq_getElem hj, Option.getD_some] at hcj
                  clear hcy
                  generalize ys[j] = x at *
                  generalize (ys.take j).sum = q at *
                  have hwj := s_j j ys.length hj HLM.out
                  have hwj2 : IntKind.i64.wrap ((j : Int) + 1) = ((j + 1 : Nat) : Int) := by rw [wrapK]; exact hwj
                  go_wp2
                  go_roundg (gk - 1)
                  case measure => exact s_jm HJ.out hj
                  case rel =>
                    refine ⟨j + 1, nn, ?_, ?_, rfl, ⟨s_jr HJ.out hj⟩⟩
                    · first | rfl | (rw [hwj2]) | (rw [hwj])
                    · rw [hst]; try (first | rfl | (rw [hwq2]) | (rw [hwq]))
                · have t1 : decide ((j : Int) < (ys.length : Int)) = false := decide_eq_false (fun h => hj (Int.ofNat_lt.1 h))
                  have t2 : decide (j < ys.length) = false := decide_eq_false hj
                  have hj2 : j = ys.length := Nat.le_antisymm HJ.out.2 (Nat.le_of_not_lt hj)
                  have hq : (ys.take j).sum = y := by rw [hj2, List.take_length]; exact hsum
                  generalize (ys.take j).sum = q at *
                  subst hq
                  go_wp2_with (first | ((with_reducible refine gate_builtin (b := .append) (xs := #[.tmp 74, .tmp 76]) rfl ?_); at_builtin; refine Kd.R_append (Kd.int .i64) (w0 := ws) ws.heap.size rfl (.tmp 74) (.tmp 76) 28 3 (.int .i64 0) 8 rfl Try.underlying28 info3 rfl (by decide) (by decide) u5 out q [.int .i64 q] (fun _ => True) (fun _ => False) rfl rfl ?aP (fun _ hk => hk.elim) ?aF ?aO ?aB ?aS ?aL ?_; (case aP => exact rfl); (case aB => exact (by repeat (first | exact HBW.out | apply below_alloc | apply pw_below_drewN))); (case aF => exact (fun _ _ => trivial)); (case aO => exact (by (with_reducible repeat (first | apply Kd.R_alloc | apply Kd.R_drewN | apply Kd.R_drew)); exact HO.out)); (case aS => exact (below_size (by repeat (first | exact HBW.out | apply below_alloc | apply pw_below_drewN)))); (case aL => exact s_al HP.out.2.2); intro v13 w13 ho hb hg hat; have HO2 := Aside0.mk ho; have HBW2 := Aside0.mk hb; clear ho hb hg hat))
                  go_roundg (gko - 1)
                  case measure => exact s_m HI.out hi
                  case rel =>
                    refine ⟨i + 1, place + r.length, out ++ [q], ?_, ?_, ⟨by (with_reducible repeat (first | apply Kd.R_alloc | apply Kd.R_drewN | apply Kd.R_drew)); exact HO2.out⟩, ⟨by repeat (first | exact HBW2.out | apply pw_below_drewN)⟩, ⟨?_⟩, ⟨?_⟩⟩
                    · have : wrap64 ((i : Int) + 1) = ((i + 1 : Nat) : Int) := s_i i HP.out.2.1
                      first | rfl | (rw [wrapK, this]) | (simp [wrapK, this]; done)
                    · first | rfl | (rw [wL2]) | (rw [wL]) | (simp [wL]; done)
                    · rw [← hval]; exact HV.out
                    · rw [List.length_append]; exact s_inv HI.out hi HL3.out
    · have u1 : decide ((i : Int) < (bg.length : Int)) = false := decide_eq_false (by omega)
      have u2 : decide (i < bg.length) = false := decide_eq_false hi
      have hV : out = scoresS n xs ov 0 0 bg := by rw [← HV.out, List.drop_eq_nil_of_le (by omega)]; unfold scoresS; simp
      go_wp2
      go_ret
      refine ⟨_, rfl, ?_, ?_⟩
      · rw [← hV]
        (with_reducible repeat (first | apply Kd.R_alloc | apply Kd.R_drewN | apply Kd.R_drew)); exact Kd.R_lower HO.out (below_size HB.out)
      · repeat (first | exact HBA.out | apply pw_below_drewN)
theorem C_of {w : World} {A : Option Addr} {n : Nat} {xs : List Int} (h : ReadsInt w .i64 A n xs) : Kd.C (Kd.int .i64) w A n xs := Kd.C_of_reads (d := (0 : Int)) (readsInt_of.mp h)
/-- Where the walk holds: few frames, each of few small numbers, and few rolls. -/
def okS (F : Int) (xs : List Int) (bg : List (List Int)) : Bool :=
  decide (1 ≤ F ∧ F ≤ 10 ∧ (bg.length : Int) ≤ F ∧ xs.length ≤ 21) && (bg.all (fun r => decide (r ≠ [] ∧ r.length ≤ 3) && r.all (fun x => decide (0 ≤ x ∧ x ≤ 10))) && xs.all (fun x => decide (0 ≤ x ∧ x ≤ 10)))
theorem okS_iff {F : Int} {xs : List Int} {bg : List (List Int)} : okS F xs bg = true ↔ (1 ≤ F ∧ F ≤ 10 ∧ (bg.length : Int) ≤ F ∧ xs.length ≤ 21) ∧ (∀ r ∈ bg, (r ≠ [] ∧ r.length ≤ 3) ∧ ∀ x ∈ r, 0 ≤ x ∧ x ≤ 10) ∧ ∀ x ∈ xs, 0 ≤ x ∧ x ≤ 10 := by
  unfold okS
  simp only [Bool.and_eq_true, decide_eq_true_eq, List.all_eq_true]
theorem specscores_calls (F : Int) (w : World) (A : Option Addr) (c : Nat) (xs : List Int) (bg : List (List Int)) (ov : Bool) (hr : Kd.C (Kd.int .i64) w A xs.length xs) (hc : xs.length ≤ c) (hk : okS F xs bg = true)
    (HSplit : ∀ w1, Kd.C (Kd.int .i64) w1 A xs.length xs → Calls Try.prog 54 #[.int .i64 F, .slice A xs.length c] w1 fun e w' => ∃ v0 : Value, e = .returned v0 ∧ Kd.S (Kd.slice 3 (Kd.int .i64)) 28 w' w1.heap.size (fun _ => True) v0 bg ∧ Below w1.heap.size w1 w')
    (HOver : ∀ w1, Kd.C (Kd.int .i64) w1 A xs.length xs → Calls Try.prog 55 #[.int .i64 F, .slice A xs.length c] w1 fun e w' => e = .returned (.bool ov) ∧ Below w1.heap.size w1 w') :
    Calls Try.prog 51 #[.int .i64 F, .slice A xs.length c] w fun e w' => ∃ v0 : Value, e = .returned v0 ∧ Kd.R (Kd.int .i64) 3 w' w.heap.size (fun _ => True) v0 (scoresS F.toNat xs ov 0 0 bg) ∧ Below w.heap.size w w' := by
  obtain ⟨h1, h2, h3⟩ := okS_iff.mp hk
  obtain ⟨n, rfl⟩ : ∃ n : Nat, F = (n : Int) := ⟨F.toNat, by omega⟩
  rw [Int.toNat_natCast]
  exact specscores_walk n w A c xs bg ov (of_C hr) hc (by omega) (by omega) (fun r hr => ⟨(h2 r hr).1.1, (h2 r hr).1.2, (h2 r hr).2⟩) h1.2.2.2 h3 (fun w1 h => HSplit w1 (C_of h)) (fun w1 h => HOver w1 (C_of h))
end Go.Proofs.Ytdioconinnpmmaa.Lane
