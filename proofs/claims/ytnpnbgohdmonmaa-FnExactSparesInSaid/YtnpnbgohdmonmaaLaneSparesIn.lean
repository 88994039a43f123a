/- What the program's function answers on a lane: for every number of frames and every list of rolls. -/
import Derived.BigQuiet
import Derived.Test.YtnpnbgohdmonmaaLaneR
import Derived.Test.YtnpnbgohdmonmaaLaneMany
set_option linter.unusedVariables false
set_option linter.unusedSimpArgs false
namespace Go.Proofs.Ytnpnbgohdmonmaa.Lane
open Go.RowKit Go.Proofs.YtnpnbgohdmonmaaW.PrintWords Go.Proofs.YtnpnbgohdmonmaaW.PrintLast
def spareV (r : List Int) : Bool := decide (2 ≤ r.length) && (r.getD 0 0 != 10) && (r.getD 0 0 + r.getD 1 0 == 10)
set_option maxRecDepth 100000 in
set_option maxHeartbeats 4000000 in
theorem spares_some (w : World) (F : Int) (A : Option Addr) (c : Nat) (xs : List Int) (hr : ReadsInt w .i64 A xs.length xs) (bg : List (List Int)) (pins : Int) (fr : Bool) (hv : readV F xs = some (bg, pins, fr)) :
    Calls Try.prog 24 #[.int .i64 F, .slice A xs.length c] w fun e w' => e = .returned (.tuple #[.int .i64 (manyV spareV bg), .bool true]) ∧ Below w.heap.size w w' := by
  go_enter Try.func24, Try.ntmps24
  go_wp2_with (first | (go_at_call 47; refine (read_some3 hv _ _ _ hr).mono ?_; rintro e w' ⟨rfl, own, hl, hg, p0, p1, f0, f1, hb⟩; obtain ⟨k0, k2, k3, ⟨Ab, cb, k1⟩, fz, _, _⟩ := hl.cells))
  have hfew := hg.1
  have hlen := hg.2.1
  have HL := Aside0.mk hl
  have HB := Aside0.mk hb
  have HW := Aside0.mk hfew
  have HN := Aside0.mk (show bg.length ≤ 10 by omega)
  clear hl hb hfew hlen hg hv hr
  go_loopg [8, 24] (bg.length + 1) (fun kq v8 v24 wx => ∃ (i : Nat), v24 = .int .i64 (i : Int) ∧ v8 = .int .i64 (manyV spareV (bg.take i)) ∧ Aside0 (Drawn0 w' wx) ∧ Aside0 (i + kq = bg.length + 1 ∧ i ≤ bg.length))
  case atStart => exact ⟨0, by simp, by simp [manyV], ⟨Drawn0.refl _⟩, ⟨by omega⟩⟩
  case round =>
    obtain ⟨i, rfl, rfl, HD, HI⟩ := hrel
    have HLW := HL.out.drawn HD.out
    have k1W := k1
    obtain ⟨n0, e0⟩ := HD.out
    rw [show w'.cell? ⟨w.heap.size, 1, none⟩ = wr.cell? ⟨w.heap.size, 1, none⟩ by rw [e0]; rfl] at k1W
    have E0 := Aside0.mk e0
    clear e0
    by_cases hi : i < bg.length
    · obtain ⟨B, cap, A2, c2, r1, r2, r3, r4⟩ := HLW.row i hi
      rw [k1W] at r1
      simp only [Option.some.injEq, Value.slice.injEq, true_and] at r1
      obtain ⟨rfl, rfl⟩ := r1
      have hmem : bg[i] ∈ bg := List.getElem_mem hi
      obtain ⟨hne, hl3, hx⟩ := HW.out _ hmem
      have h0 : 0 < bg[i].length := List.length_pos_iff.2 hne
      obtain ⟨R, rfl, r5⟩ := r4 0 h0
      have u1 : decide ((i : Int) < (bg.length : Int)) = true := decide_eq_true (by omega)
      have u2 : decide (i < bg.length) = true := decide_eq_true hi
      have u3 : decide ((0 : Int) < (bg[i].length : Int)) = true := decide_eq_true (by omega)
      have u3n : decide (0 < bg[i].length) = true := decide_eq_true h0
      have hst := manyV_step spareV bg i hi
      have hml := manyV_le spareV bg i (by omega)
      generalize hq : manyV spareV (bg.take i) = q at *
      obtain ⟨d, hd, hd1, hst2⟩ : ∃ d : Int, (if spareV bg[i] = true then (1 : Int) else 0) = d ∧ (0 ≤ d ∧ d ≤ 1) ∧ manyV spareV (bg.take (i + 1)) = q + d := ⟨_, rfl, by split <;> omega, hst⟩
      clear hst
      have hx0 := hx (bg[i][0]) (List.getElem_mem h0)
      have hi9 := HN.out
      by_cases hk : 2 ≤ bg[i].length
      · have h1l : 1 < bg[i].length := by omega
        obtain ⟨R', e', r6⟩ := r4 1 h1l
        obtain rfl : R = R' := by simpa using e'
        have u4 : decide ((2 : Int) ≤ (bg[i].length : Int)) = true := decide_eq_true (by omega)
        have u5 : decide ((1 : Int) < (bg[i].length : Int)) = true := decide_eq_true (by omega)
        have v1 : (1 : Int) < (bg[i].length : Int) := by omega
        have u6 : decide (1 < bg[i].length) = true := decide_eq_true (by omega)
        have hx1 := hx (bg[i][1]) (List.getElem_mem h1l)
        have hsv : spareV bg[i] = ((!(bg[i][0] == 10)) && (bg[i][0] + bg[i][1] == 10)) := by
          unfold spareV
          rw [decide_eq_true hk]
          simp [List.getD_eq_getElem?_getD, List.getElem?_eq_getElem h0, List.getElem?_eq_getElem h1l, bne]
        rw [hsv] at hd
        have hw : wrap64 (bg[i][0] + bg[i][1]) = bg[i][0] + bg[i][1] := by
          unfold wrap64
          omega
        have hw2 : IntKind.i64.wrap (bg[i][0] + bg[i][1]) = bg[i][0] + bg[i][1] := by rw [wrapK]; exact hw
        generalize bg[i][0] = x at *
        generalize bg[i][1] = y at *
        by_cases hx10 : x = 10
        · have u7 : (x == 10) = true := by simpa using hx10
          rw [u7] at hd
          go_wp2
          refine wp_region_quiet_lit (by kernel_rfl) (by kernel_rfl) ?_
          repeat ((with_reducible refine wpQuiet_step (fun K hK => ?_)); go_simp; (first | ((with_reducible refine hK _ ?_); clear hK K) | (refine iteInduction (motive := fun X => X) (fun hc => absurd hc (by simp [undef])) (fun _ => ?_); (with_reducible refine hK _ ?_); clear hK K)))
          with_reducible refine wpQuiet_step (fun K hK => ?_)
          go_simp
          refine ⟨.int .i64 d, fun _ => ?_, hK _ ?_⟩
          · go_at_call 52
            refine Calls.quiet_of ((btoi_of (d := d) _ (by first | exact hd | (rw [← hd, show (x != 10) = true by simp [bne, u7]]; rfl))).mono ?_)
            rintro e w'' ⟨rfl, ⟨nd, rfl⟩⟩
            exact ⟨rfl, nd, rfl⟩
          clear hK K
          repeat ((with_reducible refine wpQuiet_step (fun K hK => ?_)); go_simp; (first | ((with_reducible refine hK _ ?_); clear hK K) | (refine iteInduction (motive := fun X => X) (fun hc => absurd hc (by simp [undef])) (fun _ => ?_); (with_reducible refine hK _ ?_); clear hK K)))
          with_reducible refine wpQuiet_nil ?_
          intro _ hw'
          obtain ⟨nq, hw''⟩ := hw'
          subst hw''
          go_wp2
          go_roundg (gk - 1)
          case measure => have := HI.out; omega
          case rel =>
            refine ⟨i + 1, ?_, ?_, ⟨⟨n0 + nq, by rw [E0.out, World.drewN_drewN]⟩⟩, ⟨by have := HI.out; omega⟩⟩
            · have : wrap64 ((i : Int) + 1) = ((i + 1 : Nat) : Int) := by
                unfold wrap64
                omega
              first | rfl | (rw [wrapK, this]) | (simp [wrapK, this]; done)
            · rw [hst2]
              have : wrap64 (q + d) = q + d := by
                unfold wrap64
                omega
              first | rfl | (rw [wrapK, this]) | (simp [wrapK, this]; done)
        · have u7 : (x == 10) = false := by simpa using hx10
          rw [u7] at hd
          by_cases hxy : x + y = 10
          · have u8 : (x + y == 10) = true := by simpa using hxy
            rw [u8] at hd
            go_wp2
            refine wp_region_quiet_lit (by kernel_rfl) (by kernel_rfl) ?_
            repeat ((with_reducible refine wpQuiet_step (fun K hK => ?_)); go_simp; (first | ((with_reducible refine hK _ ?_); clear hK K) | (refine iteInduction (motive := fun X => X) (fun hc => absurd hc (by simp [undef])) (fun _ => ?_); (with_reducible refine hK _ ?_); clear hK K)))
            with_reducible refine wpQuiet_step (fun K hK => ?_)
            go_simp
            refine ⟨.int .i64 d, fun _ => ?_, hK _ ?_⟩
            · go_at_call 52
              refine Calls.quiet_of ((btoi_of (d := d) _ (by first | exact hd | (rw [← hd, show (x != 10) = true by simp [bne, u7]]; rfl))).mono ?_)
              rintro e w'' ⟨rfl, ⟨nd, rfl⟩⟩
              exact ⟨rfl, nd, rfl⟩
            clear hK K
            repeat ((with_reducible refine wpQuiet_step (fun K hK => ?_)); go_simp; (first | ((with_reducible refine hK _ ?_); clear hK K) | (refine iteInduction (motive := fun X => X) (fun hc => absurd hc (by simp [undef])) (fun _ => ?_); (with_reducible refine hK _ ?_); clear hK K)))
            with_reducible refine wpQuiet_nil ?_
            intro _ hw'
            obtain ⟨nq, hw''⟩ := hw'
            subst hw''
            go_wp2
            go_roundg (gk - 1)
            case measure => have := HI.out; omega
            case rel =>
              refine ⟨i + 1, ?_, ?_, ⟨⟨n0 + nq, by rw [E0.out, World.drewN_drewN]⟩⟩, ⟨by have := HI.out; omega⟩⟩
              · have : wrap64 ((i : Int) + 1) = ((i + 1 : Nat) : Int) := by
                  unfold wrap64
                  omega
                first | rfl | (rw [wrapK, this]) | (simp [wrapK, this]; done)
              · rw [hst2]
                have : wrap64 (q + d) = q + d := by
                  unfold wrap64
                  omega
                first | rfl | (rw [wrapK, this]) | (simp [wrapK, this]; done)
          · have u8 : (x + y == 10) = false := by simpa using hxy
            rw [u8] at hd
            go_wp2
            refine wp_region_quiet_lit (by kernel_rfl) (by kernel_rfl) ?_
            repeat ((with_reducible refine wpQuiet_step (fun K hK => ?_)); go_simp; (first | ((with_reducible refine hK _ ?_); clear hK K) | (refine iteInduction (motive := fun X => X) (fun hc => absurd hc (by simp [undef])) (fun _ => ?_); (with_reducible refine hK _ ?_); clear hK K)))
            with_reducible refine wpQuiet_step (fun K hK => ?_)
            go_simp
            refine ⟨.int .i64 d, fun _ => ?_, hK _ ?_⟩
            · go_at_call 52
              refine Calls.quiet_of ((btoi_of (d := d) _ (by first | exact hd | (rw [← hd, show (x != 10) = true by simp [bne, u7]]; rfl))).mono ?_)
              rintro e w'' ⟨rfl, ⟨nd, rfl⟩⟩
              exact ⟨rfl, nd, rfl⟩
            clear hK K
            repeat ((with_reducible refine wpQuiet_step (fun K hK => ?_)); go_simp; (first | ((with_reducible refine hK _ ?_); clear hK K) | (refine iteInduction (motive := fun X => X) (fun hc => absurd hc (by simp [undef])) (fun _ => ?_); (with_reducible refine hK _ ?_); clear hK K)))
            with_reducible refine wpQuiet_nil ?_
            intro _ hw'
            obtain ⟨nq, hw''⟩ := hw'
            subst hw''
            go_wp2
            go_roundg (gk - 1)
            case measure => have := HI.out; omega
            case rel =>
              refine ⟨i + 1, ?_, ?_, ⟨⟨n0 + nq, by rw [E0.out, World.drewN_drewN]⟩⟩, ⟨by have := HI.out; omega⟩⟩
              · have : wrap64 ((i : Int) + 1) = ((i + 1 : Nat) : Int) := by
                  unfold wrap64
                  omega
                first | rfl | (rw [wrapK, this]) | (simp [wrapK, this]; done)
              · rw [hst2]
                have : wrap64 (q + d) = q + d := by
                  unfold wrap64
                  omega
                first | rfl | (rw [wrapK, this]) | (simp [wrapK, this]; done)
      · have u4 : decide ((2 : Int) ≤ (bg[i].length : Int)) = false := decide_eq_false (by omega)
        have hsv : spareV bg[i] = false := by
          unfold spareV
          rw [decide_eq_false hk]
          rfl
        rw [hsv] at hd
        go_wp2
        refine wp_region_quiet_lit (by kernel_rfl) (by kernel_rfl) ?_
        repeat ((with_reducible refine wpQuiet_step (fun K hK => ?_)); go_simp; (first | ((with_reducible refine hK _ ?_); clear hK K) | (refine iteInduction (motive := fun X => X) (fun hc => absurd hc (by simp [undef])) (fun _ => ?_); (with_reducible refine hK _ ?_); clear hK K)))
        with_reducible refine wpQuiet_step (fun K hK => ?_)
        go_simp
        refine ⟨.int .i64 d, fun _ => ?_, hK _ ?_⟩
        · go_at_call 52
          refine Calls.quiet_of ((btoi_of (d := d) _ (by first | exact hd | (rw [← hd, show (x != 10) = true by simp [bne, u7]]; rfl))).mono ?_)
          rintro e w'' ⟨rfl, ⟨nd, rfl⟩⟩
          exact ⟨rfl, nd, rfl⟩
        clear hK K
        repeat ((with_reducible refine wpQuiet_step (fun K hK => ?_)); go_simp; (first | ((with_reducible refine hK _ ?_); clear hK K) | (refine iteInduction (motive := fun X => X) (fun hc => absurd hc (by simp [undef])) (fun _ => ?_); (with_reducible refine hK _ ?_); clear hK K)))
        with_reducible refine wpQuiet_nil ?_
        intro _ hw'
        obtain ⟨nq, hw''⟩ := hw'
        subst hw''
        go_wp2
        go_roundg (gk - 1)
        case measure => have := HI.out; omega
        case rel =>
          refine ⟨i + 1, ?_, ?_, ⟨⟨n0 + nq, by rw [E0.out, World.drewN_drewN]⟩⟩, ⟨by have := HI.out; omega⟩⟩
          · have : wrap64 ((i : Int) + 1) = ((i + 1 : Nat) : Int) := by
              unfold wrap64
              omega
            first | rfl | (rw [wrapK, this]) | (simp [wrapK, this]; done)
          · rw [hst2]
            have : wrap64 (q + d) = q + d := by
              unfold wrap64
              omega
            first | rfl | (rw [wrapK, this]) | (simp [wrapK, this]; done)
    · have u1 : decide ((i : Int) < (bg.length : Int)) = false := decide_eq_false (by omega)
      have u2 : decide (i < bg.length) = false := decide_eq_false hi
      have hi2 : i = bg.length := by have := HI.out; omega
      go_wp2
      go_ret2
      refine ⟨?_, by rw [E0.out]; repeat (first | exact HB.out | apply pw_below_drewN)⟩
      subst hi2
      first | rfl | (rw [List.take_length]; rfl)
def sparesOf (F : Int) (xs : List Int) : Int × Bool := match readV F xs with
  | some s => (manyV spareV s.1, true)
  | none => (0, false)
theorem spares_calls (w : World) (F : Int) (A : Option Addr) (c : Nat) (xs : List Int) (hr : ReadsInt w .i64 A xs.length xs) :
    Calls Try.prog 24 #[.int .i64 F, .slice A xs.length c] w fun e w' => e = .returned (.tuple #[.int .i64 (sparesOf F xs).1, .bool (sparesOf F xs).2]) ∧ Below w.heap.size w w' := by
  cases hv : readV F xs with
  | none =>
    rw [show sparesOf F xs = (0, false) by unfold sparesOf; rw [hv]]
    go_enter Try.func24, Try.ntmps24
    go_wp2_with (go_at_call 47; refine (read_none hv _ _ _ hr).mono ?_; rintro e w' ⟨rfl, hb⟩)
    go_ret2
    exact ⟨rfl, by repeat (first | exact hb | apply pw_below_drewN)⟩
  | some s =>
    rw [show sparesOf F xs = (manyV spareV s.1, true) by unfold sparesOf; rw [hv]]
    exact spares_some w F A c xs hr s.1 s.2.1 s.2.2 hv
end Go.Proofs.Ytnpnbgohdmonmaa.Lane
