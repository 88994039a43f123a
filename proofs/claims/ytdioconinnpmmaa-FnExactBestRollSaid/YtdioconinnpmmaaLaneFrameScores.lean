/- What the program's function answers on a lane: for every number of frames and every list of rolls. -/
import Derived.Test.YtdioconinnpmmaaLaneR
import Derived.Test.YtdioconinnpmmaaLaneSum
set_option linter.unusedVariables false
set_option linter.unusedSimpArgs false
namespace Go.Proofs.Ytdioconinnpmmaa.Lane
open Go.RowKit Go.Proofs.YtdioconinnpmmaaW.PrintWords Go.Proofs.YtdioconinnpmmaaW.PrintLast
set_option maxRecDepth 100000 in
set_option maxHeartbeats 8000000 in
theorem scores_some (w : World) (F : Int) (A : Option Addr) (c : Nat) (xs : List Int) (hr : ReadsInt w .i64 A xs.length xs) (hc : xs.length ≤ c) (bg : List (List Int)) (pins : Int) (fr : Bool) (hv : readV F xs = some (bg, pins, fr)) (hxs : ∀ x ∈ xs, 0 ≤ x ∧ x ≤ 10) :
    Calls Try.prog 58 #[.int .i64 F, .slice A xs.length c] w fun e w' => ∃ v0 : Value, e = .returned (.tuple #[v0, .bool true]) ∧ Kd.R (Kd.int .i64) 3 w' w.heap.size (fun _ => True) v0 (scoresV F.toNat xs (allV F.toNat bg) 0 0 bg) ∧ Below w.heap.size w w' := by
  obtain ⟨f0, f1, hx21, hgd, _, _⟩ := read_good hv
  obtain ⟨n, rfl⟩ : ∃ n : Nat, F = (n : Int) := ⟨F.toNat, by omega⟩
  rw [Int.toNat_natCast] at hgd ⊢
  simp only at hgd
  have HR := Aside0.mk hr
  have HXS := Aside0.mk hxs
  have HG := Aside0.mk hgd
  have HF := Aside0.mk (show 1 ≤ n ∧ n ≤ 10 by omega)
  have HX := Aside0.mk hx21
  have HC := Aside0.mk hc
  clear hxs hgd f0 f1 hx21
  go_enter Try.func58, Try.ntmps58
  go_wp2_with (first | (go_at_call 30; refine (read_some3 hv _ _ _ hr).mono ?_; rintro e w' ⟨rfl, own, hl, hg, p0, p1, f0, f1, hb⟩; obtain ⟨k0, k2, k3, ⟨Ab, cb, k1⟩, fz, _, _⟩ := hl.cells; rw [Int.toNat_natCast] at hl; have HL := Aside0.mk hl; have HB := Aside0.mk hb; clear hl hb hg p0 p1 f0 f1 hr hv) | ((with_reducible refine gate_dst (N := 21) rfl ?_); refine Kd.R_lit (Kd.int .i64) _ 3 ?hg (N := 21) ?hd (xs := ([] : List Int)) (inner := []) (ok := fun _ => True) (okp := fun _ => True) ?hr ?hp (fun _ hk => hk) trivial (Below.refl _ _) (Nat.le_refl _) (by simp) ?_; (case hd => rfl); (case hg => rfl); (case hr => first | (go_simp; done) | (go_simp; rfl)); (case hp => exact (Reps.none _ _)); intro v21 w3 ho hb2 hg_ hnew_; clear hg_ hnew_; have k1w := k1; have k1 := pw_cell_below hb2 k1; have HO := Aside0.mk ho; have HB2 := Aside0.mk hb2; clear ho hb2))
  go_loopg [8, 9, 27] (bg.length + 1) (fun kq v8 v9 v27 wx => ∃ (i place : Nat) (out : List Int), v27 = .int .i64 (i : Int) ∧ v9 = .int .i64 (place : Int) ∧ Aside0 (Kd.R (Kd.int .i64) 3 wx w'.heap.size (fun _ => True) v8 out) ∧ Aside0 (Below w'.heap.size w' wx) ∧
    Aside0 (out ++ scoresV n xs (allV n bg) i place (bg.drop i) = scoresV n xs (allV n bg) 0 0 bg) ∧ Aside0 (i + kq = bg.length + 1 ∧ i ≤ bg.length ∧ place ≤ 3 * i ∧ out.length ≤ i))
  case atStart => exact ⟨0, 0, [], by simp, by simp, HO, HB2, ⟨by simp⟩, ⟨by simp⟩⟩
  case round =>
    obtain ⟨i, place, out, rfl, rfl, HO, HBW, HV, HI⟩ := hrel
    by_cases hi : i < bg.length
    · have HLW := HL.out.step (fun k _ hk => HBW.out.block k hk)
      have HBA := Aside0.mk (below_step HB.out HBW.out)
      obtain ⟨B, cap, A2, c2, r1, r2, r3, r4⟩ := HLW.row i hi
      have k1W := pw_cell_below HBW.out k1w
      rw [k1W] at r1
      simp only [Option.some.injEq, Value.slice.injEq, true_and] at r1
      obtain ⟨rfl, rfl⟩ := r1
      have hmem : bg[i] ∈ bg := List.getElem_mem hi
      obtain ⟨hne, hl3, hx⟩ := HG.out.1 _ hmem
      have hdrop : bg.drop i = bg[i] :: bg.drop (i + 1) := List.drop_eq_getElem_cons hi
      have hin := HG.out.2.1
      have u1 : decide ((i : Int) < (bg.length : Int)) = true := decide_eq_true (Int.ofNat_lt.2 hi)
      have HP := Aside0.mk (s_p HI.out hi hin HF.out.2)
      have u2 : decide (i < bg.length) = true := decide_eq_true hi
      generalize hrr : bg[i] = r at *
      have h0 : 0 < r.length := List.length_pos_iff.2 hne
      obtain ⟨R, rfl, r5⟩ := r4 0 h0
      have h00 : r.getD 0 0 = r[0] := by simp [List.getD_eq_getElem?_getD, h0]
      have hRR : ReadsInt wr .i64 (some ⟨R, 0, none⟩) r.length r := ⟨rfl, Nat.le_trans hl3 (by decide), fun _ => ⟨_, rfl, fun j hj => by obtain ⟨R', e1, e2⟩ := r4 j hj; cases e1; rw [add_plain, e2, List.getD_eq_getElem?_getD, List.getElem?_eq_getElem hj]; rfl⟩⟩
      have HALL := Aside0.mk (fun (q : Nat) => all_calls (HLW.drawnN q) HF.out.1 HG.out.1)
      have HALL0 := Aside0.mk (all_calls HLW HF.out.1 HG.out.1)
      have HDONE := Aside0.mk (fun (q : Nat) (p : Option Addr) => done_calls (w := wr.drewN q) p (some ⟨R, 0, none⟩) c2 r hne r4)
      have HDONE0 := Aside0.mk (fun (p : Option Addr) => done_calls (w := wr) p (some ⟨R, 0, none⟩) c2 r hne r4)
      have HSUM := Aside0.mk (fun (q : Nat) => sum_calls (wr.drewN q) (some ⟨R, 0, none⟩) c2 r (hRR.drewN q) hx (Nat.le_trans hl3 (by decide)))
      have HSUM0 := Aside0.mk (sum_calls wr (some ⟨R, 0, none⟩) c2 r hRR hx (Nat.le_trans hl3 (by decide)))
      have w3 : wrap64 ((n : Int) - 1) = (n : Int) - 1 := c_frames n HF.out.1 HF.out.2
      have u9 : decide ((0 : Int) < (r.length : Int)) = true := decide_eq_true (Int.ofNat_lt.2 h0)
      have u10 : (0 : Int) < (r.length : Int) := Int.ofNat_lt.2 h0
      have HL3 := Aside0.mk hl3
      have HIN := Aside0.mk hin
      clear r4 hRR hmem hx hl3 hin hne
      by_cases hlast : i + 1 = n
      · have ul : ((i : Int) == (n : Int) - 1) = true := s_last hlast
        have hcnt : cntV n i r = r.length := by unfold cntV; rw [if_pos hlast]
        cases ha : allV n bg with
        | false =>
          have hstop : haltV n i (allV n bg) r = true ∨ xs.length < place + cntV n i r := Or.inl (by unfold haltV; rw [if_pos hlast, ha]; rfl)
          have hV : out = scoresV n xs (allV n bg) 0 0 bg := by rw [← HV.out, hdrop, scores_stop _ _ _ _ _ _ _ hstop, List.append_nil]
          go_wp2_with (first | (go_at_call 31; (first | (with_reducible refine (HALL.out _).mono ?_) | (with_reducible refine HALL0.out.mono ?_)); rw [ha]; rintro e w'' ⟨rfl, ⟨nd, rfl⟩⟩))
          go_ret2
          refine ⟨_, rfl, ?_, ?_⟩
          · rw [← hV]
            (with_reducible repeat (first | apply Kd.R_alloc | apply Kd.R_drewN | apply Kd.R_drew)); exact Kd.R_lower HO.out (below_size HB.out)
          · repeat (first | exact HBA.out | apply pw_below_drewN)
        | true =>
          have hhalt : haltV n i (allV n bg) r = false := by unfold haltV; rw [if_pos hlast, ha]; rfl
          have wM : wrap64 ((place : Int) + (r.length : Int)) = (place : Int) + (r.length : Int) := s_w place (r.length : Int) HP.out.1 (Int.natCast_nonneg _) (Int.ofNat_le.2 HL3.out)
          have wM2 : IntKind.i64.wrap ((place : Int) + (r.length : Int)) = (place : Int) + (r.length : Int) := by rw [wrapK]; exact wM
          by_cases hm : xs.length < place + r.length
          · have hstop : haltV n i (allV n bg) r = true ∨ xs.length < place + cntV n i r := Or.inr (by rw [hcnt]; exact hm)
            have um : decide ((xs.length : Int) < (place : Int) + (r.length : Int)) = true := s_t _ _ r.length _ rfl hm
            have hV : out = scoresV n xs (allV n bg) 0 0 bg := by rw [← HV.out, hdrop, scores_stop _ _ _ _ _ _ _ hstop, List.append_nil]
            go_wp2_with (first | (go_at_call 31; (first | (with_reducible refine (HALL.out _).mono ?_) | (with_reducible refine HALL0.out.mono ?_)); rw [ha]; rintro e w'' ⟨rfl, ⟨nd, rfl⟩⟩))
            go_ret2
            refine ⟨_, rfl, ?_, ?_⟩
            · rw [← hV]
              (with_reducible repeat (first | apply Kd.R_alloc | apply Kd.R_drewN | apply Kd.R_drew)); exact Kd.R_lower HO.out (below_size HB.out)
            · repeat (first | exact HBA.out | apply pw_below_drewN)
          · have um : decide ((xs.length : Int) < (place : Int) + (r.length : Int)) = false := s_f _ _ r.length _ rfl hm
            have hgo : ¬ (haltV n i (allV n bg) r = true ∨ xs.length < place + cntV n i r) := fun h => h.elim (fun h => absurd (hhalt.symm.trans h) (by decide)) (fun h => hm (by rw [hcnt] at h; exact h))
            obtain ⟨A', hS, hRS⟩ := slice_mid A c xs place r.length (Nat.le_of_not_lt hm) HC.out
            have hRW := hRS wr (HR.out.below HBA.out)
            have hbx : ∀ x ∈ (xs.drop place).take r.length, 0 ≤ x ∧ x ≤ 10 := fun x h => HXS.out x (List.mem_of_mem_drop (List.mem_of_mem_take h))
            have hbl : ((xs.drop place).take r.length).length ≤ 100 := s_21 (l := 0) xs HX.out
            have HMID := Aside0.mk (fun (q : Nat) => sum_calls (wr.drewN q) A' (c - place) _ (hRW.drewN q) hbx hbl)
            have HMID0 := Aside0.mk (sum_calls wr A' (c - place) _ hRW hbx hbl)
            have hval : out ++ scoresV n xs (allV n bg) i place (bg.drop i) = (out ++ [((xs.drop place).take r.length).sum]) ++ scoresV n xs (allV n bg) (i + 1) (place + r.length) (bg.drop (i + 1)) := by rw [hdrop, scores_step _ _ _ _ _ _ _ hgo, hcnt, List.append_assoc]; rfl
            have wL : wrap64 ((place : Int) + (r.length : Int)) = ((place + r.length : Nat) : Int) := s_L place r.length HP.out.1 HL3.out
            have wL2 : IntKind.i64.wrap ((place : Int) + (r.length : Int)) = ((place + r.length : Nat) : Int) := by rw [wrapK]; exact wL
            clear hRS hRW hbx hbl hgo
            generalize ((xs.drop place).take r.length).length = lm at *
            generalize hy : ((xs.drop place).take r.length).sum = y at *
            go_wp2_with (first | (go_at_call 31; (first | (with_reducible refine (HALL.out _).mono ?_) | (with_reducible refine HALL0.out.mono ?_)); rw [ha]; rintro e w'' ⟨rfl, ⟨nd, rfl⟩⟩) | (go_at_call 49; (first | (with_reducible refine (HMID.out _).mono ?_) | (with_reducible refine HMID0.out.mono ?_)); rintro e w'' ⟨rfl, ⟨nd4, rfl⟩⟩) | ((with_reducible refine gate_builtin (b := .append) (xs := #[.tmp 66, .tmp 74]) rfl ?_); at_builtin; refine Kd.R_append (Kd.int .i64) (w0 := w') w'.heap.size rfl (.tmp 66) (.tmp 74) 28 3 (.int .i64 0) 8 rfl Try.underlying28 info3 rfl (by decide) (by decide) u8 out y [.int .i64 y] (fun _ => True) (fun _ => False) rfl rfl ?aP (fun _ hk => hk.elim) ?aF ?aO ?aB ?aS ?aL ?_; (case aP => exact rfl); (case aB => exact (by repeat (first | exact HBW.out | apply below_alloc | apply pw_below_drewN))); (case aF => exact (fun _ _ => trivial)); (case aO => exact (by (with_reducible repeat (first | apply Kd.R_alloc | apply Kd.R_drewN | apply Kd.R_drew)); exact HO.out)); (case aS => exact (below_size (by repeat (first | exact HBW.out | apply below_alloc | apply pw_below_drewN)))); (case aL => exact s_al HP.out.2.2); intro v13 w13 ho hb hg hat; have HO2 := Aside0.mk ho; have HBW2 := Aside0.mk hb; clear ho hb hg hat))
            go_roundg (gk - 1)
            case measure => exact s_m HI.out hi
            case rel =>
              refine ⟨i + 1, place + r.length, out ++ [y], ?_, ?_, ⟨by (with_reducible repeat (first | apply Kd.R_alloc | apply Kd.R_drewN | apply Kd.R_drew)); exact HO2.out⟩, ⟨by repeat (first | exact HBW2.out | apply pw_below_drewN)⟩, ⟨?_⟩, ⟨?_⟩⟩
              · have : wrap64 ((i : Int) + 1) = ((i + 1 : Nat) : Int) := s_i i HP.out.2.1
                first | rfl | (rw [wrapK, this]) | (simp [wrapK, this]; done)
              · first | rfl | (rw [wL2]) | (rw [wL]) | (simp [wL]; done)
              · rw [← hval]; exact HV.out
              · rw [List.length_append]; exact s_inv HI.out hi HL3.out
      · have ul : ((i : Int) == (n : Int) - 1) = false := s_nlast hlast
        cases hd : doneV r with
        | false =>
          have hstop : haltV n i (allV n bg) r = true ∨ xs.length < place + cntV n i r := Or.inl (by unfold haltV; rw [if_neg hlast, hd]; rfl)
          have hV : out = scoresV n xs (allV n bg) 0 0 bg := by rw [← HV.out, hdrop, scores_stop _ _ _ _ _ _ _ hstop, List.append_nil]
          go_wp2_with (first | (go_at_call 52; (first | (with_reducible refine (HDONE.out _ _).mono ?_) | (with_reducible refine (HDONE0.out _).mono ?_)); rw [hd]; rintro e w'' ⟨rfl, ⟨nd2, rfl⟩⟩))
          go_ret2
          refine ⟨_, rfl, ?_, ?_⟩
          · rw [← hV]
            (with_reducible repeat (first | apply Kd.R_alloc | apply Kd.R_drewN | apply Kd.R_drew)); exact Kd.R_lower HO.out (below_size HB.out)
          · repeat (first | exact HBA.out | apply pw_below_drewN)
        | true =>
          have hhalt : haltV n i (allV n bg) r = false := by unfold haltV; rw [if_neg hlast, hd]; rfl
          by_cases h10 : r[0] = 10
          · have u11 : (r[0] == 10) = true := by simpa using h10
            have hcnt : cntV n i r = 3 := by unfold cntV; rw [if_neg hlast, if_neg (fun h => h.1 (by rw [h00]; exact h10))]
            have wM : wrap64 ((place : Int) + 3) = (place : Int) + 3 := s_w place 3 HP.out.1 (by decide) (by decide)
            have wM2 : IntKind.i64.wrap ((place : Int) + 3) = (place : Int) + 3 := by rw [wrapK]; exact wM
            by_cases hm : xs.length < place + 3
            · have hstop : haltV n i (allV n bg) r = true ∨ xs.length < place + cntV n i r := Or.inr (by rw [hcnt]; exact hm)
              have um : decide ((xs.length : Int) < (place : Int) + 3) = true := s_t _ _ 3 _ rfl hm
              have hV : out = scoresV n xs (allV n bg) 0 0 bg := by rw [← HV.out, hdrop, scores_stop _ _ _ _ _ _ _ hstop, List.append_nil]
              go_wp2_with (first | (go_at_call 52; (first | (with_reducible refine (HDONE.out _ _).mono ?_) | (with_reducible refine (HDONE0.out _).mono ?_)); rw [hd]; rintro e w'' ⟨rfl, ⟨nd2, rfl⟩⟩) | (go_at_call 49; (first | (with_reducible refine (HSUM.out _).mono ?_) | (with_reducible refine HSUM0.out.mono ?_)); rintro e w'' ⟨rfl, ⟨nd3, rfl⟩⟩))
              go_ret2
              refine ⟨_, rfl, ?_, ?_⟩
              · rw [← hV]
                (with_reducible repeat (first | apply Kd.R_alloc | apply Kd.R_drewN | apply Kd.R_drew)); exact Kd.R_lower HO.out (below_size HB.out)
              · repeat (first | exact HBA.out | apply pw_below_drewN)
            · have um : decide ((xs.length : Int) < (place : Int) + 3) = false := s_f _ _ 3 _ rfl hm
              have hgo : ¬ (haltV n i (allV n bg) r = true ∨ xs.length < place + cntV n i r) := fun h => h.elim (fun h => absurd (hhalt.symm.trans h) (by decide)) (fun h => hm (by rw [hcnt] at h; exact h))
              obtain ⟨A', hS, hRS⟩ := slice_mid A c xs place 3 (Nat.le_of_not_lt hm) HC.out
              rw [show ((3 : Nat) : Int) = 3 from rfl] at hS
              have hRW := hRS wr (HR.out.below HBA.out)
              have hbx : ∀ x ∈ (xs.drop place).take 3, 0 ≤ x ∧ x ≤ 10 := fun x h => HXS.out x (List.mem_of_mem_drop (List.mem_of_mem_take h))
              have hbl : ((xs.drop place).take 3).length ≤ 100 := s_21 (l := 0) xs HX.out
              have HMID := Aside0.mk (fun (q : Nat) => sum_calls (wr.drewN q) A' (c - place) _ (hRW.drewN q) hbx hbl)
              have HMID0 := Aside0.mk (sum_calls wr A' (c - place) _ hRW hbx hbl)
              have hval : out ++ scoresV n xs (allV n bg) i place (bg.drop i) = (out ++ [((xs.drop place).take 3).sum]) ++ scoresV n xs (allV n bg) (i + 1) (place + r.length) (bg.drop (i + 1)) := by rw [hdrop, scores_step _ _ _ _ _ _ _ hgo, hcnt, List.append_assoc]; rfl
              have wL : wrap64 ((place : Int) + (r.length : Int)) = ((place + r.length : Nat) : Int) := s_L place r.length HP.out.1 HL3.out
              have wL2 : IntKind.i64.wrap ((place : Int) + (r.length : Int)) = ((place + r.length : Nat) : Int) := by rw [wrapK]; exact wL
              clear hRS hRW hbx hbl hgo
              generalize ((xs.drop place).take 3).length = lm at *
              generalize hy : ((xs.drop place).take 3).sum = y at *
              go_wp2_with (first | (go_at_call 52; (first | (with_reducible refine (HDONE.out _ _).mono ?_) | (with_reducible refine (HDONE0.out _).mono ?_)); rw [hd]; rintro e w'' ⟨rfl, ⟨nd2, rfl⟩⟩) | (go_at_call 49; (first | (with_reducible refine (HSUM.out _).mono ?_) | (with_reducible refine HSUM0.out.mono ?_)); rintro e w'' ⟨rfl, ⟨nd3, rfl⟩⟩) | (go_at_call 49; (first | (with_reducible refine (HMID.out _).mono ?_) | (with_reducible refine HMID0.out.mono ?_)); rintro e w'' ⟨rfl, ⟨nd4, rfl⟩⟩) | ((with_reducible refine gate_builtin (b := .append) (xs := #[.tmp 66, .tmp 74]) rfl ?_); at_builtin; refine Kd.R_append (Kd.int .i64) (w0 := w') w'.heap.size rfl (.tmp 66) (.tmp 74) 28 3 (.int .i64 0) 8 rfl Try.underlying28 info3 rfl (by decide) (by decide) u8 out y [.int .i64 y] (fun _ => True) (fun _ => False) rfl rfl ?aP (fun _ hk => hk.elim) ?aF ?aO ?aB ?aS ?aL ?_; (case aP => exact rfl); (case aB => exact (by repeat (first | exact HBW.out | apply below_alloc | apply pw_below_drewN))); (case aF => exact (fun _ _ => trivial)); (case aO => exact (by (with_reducible repeat (first | apply Kd.R_alloc | apply Kd.R_drewN | apply Kd.R_drew)); exact HO.out)); (case aS => exact (below_size (by repeat (first | exact HBW.out | apply below_alloc | apply pw_below_drewN)))); (case aL => exact s_al HP.out.2.2); intro v13 w13 ho hb hg hat; have HO2 := Aside0.mk ho; have HBW2 := Aside0.mk hb; clear ho hb hg hat))
              go_roundg (gk - 1)
              case measure => exact s_m HI.out hi
              case rel =>
                refine ⟨i + 1, place + r.length, out ++ [y], ?_, ?_, ⟨by (with_reducible repeat (first | apply Kd.R_alloc | apply Kd.R_drewN | apply Kd.R_drew)); exact HO2.out⟩, ⟨by repeat (first | exact HBW2.out | apply pw_below_drewN)⟩, ⟨?_⟩, ⟨?_⟩⟩
                · have : wrap64 ((i : Int) + 1) = ((i + 1 : Nat) : Int) := s_i i HP.out.2.1
                  first | rfl | (rw [wrapK, this]) | (simp [wrapK, this]; done)
                · first | rfl | (rw [wL2]) | (rw [wL]) | (simp [wL]; done)
                · rw [← hval]; exact HV.out
                · rw [List.length_append]; exact s_inv HI.out hi HL3.out
          · have u11 : (r[0] == 10) = false := by simpa using h10
            by_cases hs10 : r.sum < 10
            · have u12 : decide (r.sum < 10) = true := decide_eq_true hs10
              have hcnt : cntV n i r = 2 := by unfold cntV; rw [if_neg hlast, if_pos ⟨by rw [h00]; exact h10, hs10⟩]
              have wM : wrap64 ((place : Int) + 2) = (place : Int) + 2 := s_w place 2 HP.out.1 (by decide) (by decide)
              have wM2 : IntKind.i64.wrap ((place : Int) + 2) = (place : Int) + 2 := by rw [wrapK]; exact wM
              by_cases hm : xs.length < place + 2
              · have hstop : haltV n i (allV n bg) r = true ∨ xs.length < place + cntV n i r := Or.inr (by rw [hcnt]; exact hm)
                have um : decide ((xs.length : Int) < (place : Int) + 2) = true := s_t _ _ 2 _ rfl hm
                have hV : out = scoresV n xs (allV n bg) 0 0 bg := by rw [← HV.out, hdrop, scores_stop _ _ _ _ _ _ _ hstop, List.append_nil]
                go_wp2_with (first | (go_at_call 52; (first | (with_reducible refine (HDONE.out _ _).mono ?_) | (with_reducible refine (HDONE0.out _).mono ?_)); rw [hd]; rintro e w'' ⟨rfl, ⟨nd2, rfl⟩⟩) | (go_at_call 49; (first | (with_reducible refine (HSUM.out _).mono ?_) | (with_reducible refine HSUM0.out.mono ?_)); rintro e w'' ⟨rfl, ⟨nd3, rfl⟩⟩))
                go_ret2
                refine ⟨_, rfl, ?_, ?_⟩
                · rw [← hV]
                  (with_reducible repeat (first | apply Kd.R_alloc | apply Kd.R_drewN | apply Kd.R_drew)); exact Kd.R_lower HO.out (below_size HB.out)
                · repeat (first | exact HBA.out | apply pw_below_drewN)
              · have um : decide ((xs.length : Int) < (place : Int) + 2) = false := s_f _ _ 2 _ rfl hm
                have hgo : ¬ (haltV n i (allV n bg) r = true ∨ xs.length < place + cntV n i r) := fun h => h.elim (fun h => absurd (hhalt.symm.trans h) (by decide)) (fun h => hm (by rw [hcnt] at h; exact h))
                obtain ⟨A', hS, hRS⟩ := slice_mid A c xs place 2 (Nat.le_of_not_lt hm) HC.out
                rw [show ((2 : Nat) : Int) = 2 from rfl] at hS
                have hRW := hRS wr (HR.out.below HBA.out)
                have hbx : ∀ x ∈ (xs.drop place).take 2, 0 ≤ x ∧ x ≤ 10 := fun x h => HXS.out x (List.mem_of_mem_drop (List.mem_of_mem_take h))
                have hbl : ((xs.drop place).take 2).length ≤ 100 := s_21 (l := 0) xs HX.out
                have HMID := Aside0.mk (fun (q : Nat) => sum_calls (wr.drewN q) A' (c - place) _ (hRW.drewN q) hbx hbl)
                have HMID0 := Aside0.mk (sum_calls wr A' (c - place) _ hRW hbx hbl)
                have hval : out ++ scoresV n xs (allV n bg) i place (bg.drop i) = (out ++ [((xs.drop place).take 2).sum]) ++ scoresV n xs (allV n bg) (i + 1) (place + r.length) (bg.drop (i + 1)) := by rw [hdrop, scores_step _ _ _ _ _ _ _ hgo, hcnt, List.append_assoc]; rfl
                have wL : wrap64 ((place : Int) + (r.length : Int)) = ((place + r.length : Nat) : Int) := s_L place r.length HP.out.1 HL3.out
                have wL2 : IntKind.i64.wrap ((place : Int) + (r.length : Int)) = ((place + r.length : Nat) : Int) := by rw [wrapK]; exact wL
                clear hRS hRW hbx hbl hgo
                generalize ((xs.drop place).take 2).length = lm at *
                generalize hy : ((xs.drop place).take 2).sum = y at *
                go_wp2_with (first | (go_at_call 52; (first | (with_reducible refine (HDONE.out _ _).mono ?_) | (with_reducible refine (HDONE0.out _).mono ?_)); rw [hd]; rintro e w'' ⟨rfl, ⟨nd2, rfl⟩⟩) | (go_at_call 49; (first | (with_reducible refine (HSUM.out _).mono ?_) | (with_reducible refine HSUM0.out.mono ?_)); rintro e w'' ⟨rfl, ⟨nd3, rfl⟩⟩) | (go_at_call 49; (first | (with_reducible refine (HMID.out _).mono ?_) | (with_reducible refine HMID0.out.mono ?_)); rintro e w'' ⟨rfl, ⟨nd4, rfl⟩⟩) | ((with_reducible refine gate_builtin (b := .append) (xs := #[.tmp 66, .tmp 74]) rfl ?_); at_builtin; refine Kd.R_append (Kd.int .i64) (w0 := w') w'.heap.size rfl (.tmp 66) (.tmp 74) 28 3 (.int .i64 0) 8 rfl Try.underlying28 info3 rfl (by decide) (by decide) u8 out y [.int .i64 y] (fun _ => True) (fun _ => False) rfl rfl ?aP (fun _ hk => hk.elim) ?aF ?aO ?aB ?aS ?aL ?_; (case aP => exact rfl); (case aB => exact (by repeat (first | exact HBW.out | apply below_alloc | apply pw_below_drewN))); (case aF => exact (fun _ _ => trivial)); (case aO => exact (by (with_reducible repeat (first | apply Kd.R_alloc | apply Kd.R_drewN | apply Kd.R_drew)); exact HO.out)); (case aS => exact (below_size (by repeat (first | exact HBW.out | apply below_alloc | apply pw_below_drewN)))); (case aL => exact s_al HP.out.2.2); intro v13 w13 ho hb hg hat; have HO2 := Aside0.mk ho; have HBW2 := Aside0.mk hb; clear ho hb hg hat))
                go_roundg (gk - 1)
                case measure => exact s_m HI.out hi
                case rel =>
                  refine ⟨i + 1, place + r.length, out ++ [y], ?_, ?_, ⟨by (with_reducible repeat (first | apply Kd.R_alloc | apply Kd.R_drewN | apply Kd.R_drew)); exact HO2.out⟩, ⟨by repeat (first | exact HBW2.out | apply pw_below_drewN)⟩, ⟨?_⟩, ⟨?_⟩⟩
                  · have : wrap64 ((i : Int) + 1) = ((i + 1 : Nat) : Int) := s_i i HP.out.2.1
                    first | rfl | (rw [wrapK, this]) | (simp [wrapK, this]; done)
                  · first | rfl | (rw [wL2]) | (rw [wL]) | (simp [wL]; done)
                  · rw [← hval]; exact HV.out
                  · rw [List.length_append]; exact s_inv HI.out hi HL3.out
            · have u12 : decide (r.sum < 10) = false := decide_eq_false hs10
              have hcnt : cntV n i r = 3 := by unfold cntV; rw [if_neg hlast, if_neg (fun h => hs10 h.2)]
              have wM : wrap64 ((place : Int) + 3) = (place : Int) + 3 := s_w place 3 HP.out.1 (by decide) (by decide)
              have wM2 : IntKind.i64.wrap ((place : Int) + 3) = (place : Int) + 3 := by rw [wrapK]; exact wM
              by_cases hm : xs.length < place + 3
              · have hstop : haltV n i (allV n bg) r = true ∨ xs.length < place + cntV n i r := Or.inr (by rw [hcnt]; exact hm)
                have um : decide ((xs.length : Int) < (place : Int) + 3) = true := s_t _ _ 3 _ rfl hm
                have hV : out = scoresV n xs (allV n bg) 0 0 bg := by rw [← HV.out, hdrop, scores_stop _ _ _ _ _ _ _ hstop, List.append_nil]
                go_wp2_with (first | (go_at_call 52; (first | (with_reducible refine (HDONE.out _ _).mono ?_) | (with_reducible refine (HDONE0.out _).mono ?_)); rw [hd]; rintro e w'' ⟨rfl, ⟨nd2, rfl⟩⟩) | (go_at_call 49; (first | (with_reducible refine (HSUM.out _).mono ?_) | (with_reducible refine HSUM0.out.mono ?_)); rintro e w'' ⟨rfl, ⟨nd3, rfl⟩⟩))
                go_ret2
                refine ⟨_, rfl, ?_, ?_⟩
                · rw [← hV]
                  (with_reducible repeat (first | apply Kd.R_alloc | apply Kd.R_drewN | apply Kd.R_drew)); exact Kd.R_lower HO.out (below_size HB.out)
                · repeat (first | exact HBA.out | apply pw_below_drewN)
              · have um : decide ((xs.length : Int) < (place : Int) + 3) = false := s_f _ _ 3 _ rfl hm
                have hgo : ¬ (haltV n i (allV n bg) r = true ∨ xs.length < place + cntV n i r) := fun h => h.elim (fun h => absurd (hhalt.symm.trans h) (by decide)) (fun h => hm (by rw [hcnt] at h; exact h))
                obtain ⟨A', hS, hRS⟩ := slice_mid A c xs place 3 (Nat.le_of_not_lt hm) HC.out
                rw [show ((3 : Nat) : Int) = 3 from rfl] at hS
                have hRW := hRS wr (HR.out.below HBA.out)
                have hbx : ∀ x ∈ (xs.drop place).take 3, 0 ≤ x ∧ x ≤ 10 := fun x h => HXS.out x (List.mem_of_mem_drop (List.mem_of_mem_take h))
                have hbl : ((xs.drop place).take 3).length ≤ 100 := s_21 (l := 0) xs HX.out
                have HMID := Aside0.mk (fun (q : Nat) => sum_calls (wr.drewN q) A' (c - place) _ (hRW.drewN q) hbx hbl)
                have HMID0 := Aside0.mk (sum_calls wr A' (c - place) _ hRW hbx hbl)
                have hval : out ++ scoresV n xs (allV n bg) i place (bg.drop i) = (out ++ [((xs.drop place).take 3).sum]) ++ scoresV n xs (allV n bg) (i + 1) (place + r.length) (bg.drop (i + 1)) := by rw [hdrop, scores_step _ _ _ _ _ _ _ hgo, hcnt, List.append_assoc]; rfl
                have wL : wrap64 ((place : Int) + (r.length : Int)) = ((place + r.length : Nat) : Int) := s_L place r.length HP.out.1 HL3.out
                have wL2 : IntKind.i64.wrap ((place : Int) + (r.length : Int)) = ((place + r.length : Nat) : Int) := by rw [wrapK]; exact wL
                clear hRS hRW hbx hbl hgo
                generalize ((xs.drop place).take 3).length = lm at *
                generalize hy : ((xs.drop place).take 3).sum = y at *
                go_wp2_with (first | (go_at_call 52; (first | (with_reducible refine (HDONE.out _ _).mono ?_) | (with_reducible refine (HDONE0.out _).mono ?_)); rw [hd]; rintro e w'' ⟨rfl, ⟨nd2, rfl⟩⟩) | (go_at_call 49; (first | (with_reducible refine (HSUM.out _).mono ?_) | (with_reducible refine HSUM0.out.mono ?_)); rintro e w'' ⟨rfl, ⟨nd3, rfl⟩⟩) | (go_at_call 49; (first | (with_reducible refine (HMID.out _).mono ?_) | (with_reducible refine HMID0.out.mono ?_)); rintro e w'' ⟨rfl, ⟨nd4, rfl⟩⟩) | ((with_reducible refine gate_builtin (b := .append) (xs := #[.tmp 66, .tmp 74]) rfl ?_); at_builtin; refine Kd.R_append (Kd.int .i64) (w0 := w') w'.heap.size rfl (.tmp 66) (.tmp 74) 28 3 (.int .i64 0) 8 rfl Try.underlying28 info3 rfl (by decide) (by decide) u8 out y [.int .i64 y] (fun _ => True) (fun _ => False) rfl rfl ?aP (fun _ hk => hk.elim) ?aF ?aO ?aB ?aS ?aL ?_; (case aP => exact rfl); (case aB => exact (by repeat (first | exact HBW.out | apply below_alloc | apply pw_below_drewN))); (case aF => exact (fun _ _ => trivial)); (case aO => exact (by (with_reducible repeat (first | apply Kd.R_alloc | apply Kd.R_drewN | apply Kd.R_drew)); exact HO.out)); (case aS => exact (below_size (by repeat (first | exact HBW.out | apply below_alloc | apply pw_below_drewN)))); (case aL => exact s_al HP.out.2.2); intro v13 w13 ho hb hg hat; have HO2 := Aside0.mk ho; have HBW2 := Aside0.mk hb; clear ho hb hg hat))
                go_roundg (gk - 1)
                case measure => exact s_m HI.out hi
                case rel =>
                  refine ⟨i + 1, place + r.length, out ++ [y], ?_, ?_, ⟨by (with_reducible repeat (first | apply Kd.R_alloc | apply Kd.R_drewN | apply Kd.R_drew)); exact HO2.out⟩, ⟨by repeat (first | exact HBW2.out | apply pw_below_drewN)⟩, ⟨?_⟩, ⟨?_⟩⟩
                  · have : wrap64 ((i : Int) + 1) = ((i + 1 : Nat) : Int) := s_i i HP.out.2.1
                    first | rfl | (rw [wrapK, this]) | (simp [wrapK, this]; done)
                  · first | rfl | (rw [wL2]) | (rw [wL]) | (simp [wL]; done)
                  · rw [← hval]; exact HV.out
                  · rw [List.length_append]; exact s_inv HI.out hi HL3.out
    · have u1 : decide ((i : Int) < (bg.length : Int)) = false := decide_eq_false (by omega)
      have u2 : decide (i < bg.length) = false := decide_eq_false hi
      have hV : out = scoresV n xs (allV n bg) 0 0 bg := by rw [← HV.out, List.drop_eq_nil_of_le (by omega)]; unfold scoresV; simp
      have HBA := Aside0.mk (below_step HB.out HBW.out)
      go_wp2
      go_ret2
      refine ⟨_, rfl, ?_, ?_⟩
      · rw [← hV]
        (with_reducible repeat (first | apply Kd.R_alloc | apply Kd.R_drewN | apply Kd.R_drew)); exact Kd.R_lower HO.out (below_size HB.out)
      · repeat (first | exact HBA.out | apply pw_below_drewN)
theorem rolls_small (F : Nat) : ∀ (l : List Int) (s s' : List (List Int) × Int × Bool), rollsV F l s = some s' → 0 ≤ s.2.1 ∧ s.2.1 ≤ 10 → ∀ x ∈ l, 0 ≤ x ∧ x ≤ 10
  | [], _, _, _, _ => by simp
  | n :: l, s, s', h, hp => by
    unfold rollsV at h
    split at h
    · rename_i hm
      unfold mayV at hm
      simp only [Bool.and_eq_true, decide_eq_true_eq] at hm
      intro x hx
      rcases List.mem_cons.1 hx with rfl | hx
      · omega
      · exact rolls_small F l _ s' h (end_pins hm.2 hp.2) x hx
    · cases h
theorem read_small {F : Int} {xs : List Int} {s : List (List Int) × Int × Bool} (h : readV F xs = some s) : ∀ x ∈ xs, 0 ≤ x ∧ x ≤ 10 := by
  obtain ⟨h1, h2, h3, _⟩ := read_good h
  unfold readV at h
  rw [if_pos ⟨h1, h2, h3⟩] at h
  exact rolls_small _ xs _ _ h ⟨by decide, by decide⟩
def scoresOf (F : Int) (xs : List Int) : List Int × Bool := match readV F xs with
  | some s => (scoresV F.toNat xs (allV F.toNat s.1) 0 0 s.1, true)
  | none => ([], false)
set_option maxRecDepth 100000 in
set_option maxHeartbeats 4000000 in
theorem scores_calls (w : World) (F : Int) (A : Option Addr) (c : Nat) (xs : List Int) (hr : ReadsInt w .i64 A xs.length xs) (hc : xs.length ≤ c) :
    Calls Try.prog 58 #[.int .i64 F, .slice A xs.length c] w fun e w' => ∃ v0 : Value, e = .returned (.tuple #[v0, .bool (scoresOf F xs).2]) ∧ Kd.R (Kd.int .i64) 3 w' w.heap.size (fun _ => True) v0 (scoresOf F xs).1 ∧ Below w.heap.size w w' := by
  cases hv : readV F xs with
  | none =>
    rw [show scoresOf F xs = ([], false) by unfold scoresOf; rw [hv]]
    go_enter Try.func58, Try.ntmps58
    go_wp2_with (go_at_call 30; refine (read_none hv _ _ _ hr).mono ?_; rintro e w' ⟨rfl, hb⟩)
    go_ret2
    exact ⟨_, rfl, Kd.R_nil _ _ _ _ _, by repeat (first | exact hb | apply pw_below_drewN)⟩
  | some s =>
    rw [show scoresOf F xs = (scoresV F.toNat xs (allV F.toNat s.1) 0 0 s.1, true) by unfold scoresOf; rw [hv]]
    exact scores_some w F A c xs hr hc s.1 s.2.1 s.2.2 hv (read_small hv)
end Go.Proofs.Ytdioconinnpmmaa.Lane
