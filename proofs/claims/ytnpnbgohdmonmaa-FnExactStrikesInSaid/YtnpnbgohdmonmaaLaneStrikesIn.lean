/- What the program's function answers on a lane: for every number of frames and every list of rolls. -/
import Derived.Test.YtnpnbgohdmonmaaLaneR
import Derived.Test.YtnpnbgohdmonmaaLaneMany
set_option linter.unusedVariables false
set_option linter.unusedSimpArgs false
namespace Go.Proofs.Ytnpnbgohdmonmaa.Lane
open Go.RowKit Go.Proofs.YtnpnbgohdmonmaaW.PrintWords Go.Proofs.YtnpnbgohdmonmaaW.PrintLast
def strikeV (r : List Int) : Bool := r.getD 0 0 == 10
set_option maxRecDepth 100000 in
set_option maxHeartbeats 4000000 in
theorem strikes_some (w : World) (F : Int) (A : Option Addr) (c : Nat) (xs : List Int) (hr : ReadsInt w .i64 A xs.length xs) (bg : List (List Int)) (pins : Int) (fr : Bool) (hv : readV F xs = some (bg, pins, fr)) :
    Calls Try.prog 26 #[.int .i64 F, .slice A xs.length c] w fun e w' => e = .returned (.tuple #[.int .i64 (manyV strikeV bg), .bool true]) ∧ Below w.heap.size w w' := by
  go_enter Try.func26, Try.ntmps26
  go_wp2_with (first | (go_at_call 47; refine (read_some3 hv _ _ _ hr).mono ?_; rintro e w' ⟨rfl, own, hl, hg, p0, p1, f0, f1, hb⟩; obtain ⟨k0, k2, k3, ⟨Ab, cb, k1⟩, fz, _, _⟩ := hl.cells))
  have hfew := hg.1
  have hlen := hg.2.1
  have HL := Aside0.mk hl
  have HB := Aside0.mk hb
  have HW := Aside0.mk hfew
  have HN := Aside0.mk (show bg.length ≤ 10 by omega)
  clear hl hb hfew hlen hg hv hr
  go_loopg [8, 24] (bg.length + 1) (fun kq v8 v24 wx => ∃ (i n : Nat), v24 = .int .i64 (i : Int) ∧ v8 = .int .i64 (manyV strikeV (bg.take i)) ∧ wx = w'.drewN n ∧ Aside0 (i + kq = bg.length + 1 ∧ i ≤ bg.length))
  case atStart => exact ⟨0, 0, by simp, by simp [manyV], rfl, ⟨by omega⟩⟩
  case round =>
    obtain ⟨i, n, rfl, rfl, rfl, HI⟩ := hrel
    by_cases hi : i < bg.length
    · obtain ⟨B, cap, A2, c2, r1, r2, r3, r4⟩ := HL.out.row i hi
      rw [k1] at r1
      simp only [Option.some.injEq, Value.slice.injEq, true_and] at r1
      obtain ⟨rfl, rfl⟩ := r1
      have hmem : bg[i] ∈ bg := List.getElem_mem hi
      obtain ⟨hne, hl3, hx⟩ := HW.out _ hmem
      have h0 : 0 < bg[i].length := List.length_pos_iff.2 hne
      obtain ⟨R, rfl, r5⟩ := r4 0 h0
      have u1 : decide ((i : Int) < (bg.length : Int)) = true := decide_eq_true (by omega)
      have u2 : decide (i < bg.length) = true := decide_eq_true hi
      have u3 : decide ((0 : Int) < (bg[i].length : Int)) = true := decide_eq_true (by omega)
      have hst := manyV_step strikeV bg i hi
      have hml := manyV_le strikeV bg i (by omega)
      have hb0 : strikeV bg[i] = (bg[i][0] == 10) := by unfold strikeV; simp [List.getD_eq_getElem?_getD, List.getElem?_eq_getElem h0]
      rw [hb0] at hst
      generalize bg[i][0] = x at *
      generalize hq : manyV strikeV (bg.take i) = q at *
      generalize hd : (if (x == 10) = true then (1 : Int) else 0) = d at *
      have hd1 : 0 ≤ d ∧ d ≤ 1 := by rw [← hd]; split <;> omega
      go_wp2_with (first | (go_at_call 52; refine (btoi_of _ hd).mono ?_; rintro e w'' ⟨rfl, ⟨nd, rfl⟩⟩))
      have hi9 := HN.out
      go_roundg (gk - 1)
      case measure => have := HI.out; omega
      case rel =>
        refine ⟨i + 1, n + nd, ?_, ?_, ?_, ⟨by have := HI.out; omega⟩⟩
        · have : wrap64 ((i : Int) + 1) = ((i + 1 : Nat) : Int) := by
            unfold wrap64
            omega
          first | rfl | simp [this] | (rw [wrapK, this])
        · rw [hst]
          have : wrap64 (q + d) = q + d := by
            unfold wrap64
            omega
          first | rfl | simp [this] | (rw [wrapK, this])
        · first | rfl | simp
    · have u1 : decide ((i : Int) < (bg.length : Int)) = false := decide_eq_false (by omega)
      have u2 : decide (i < bg.length) = false := decide_eq_false hi
      have hi2 : i = bg.length := by have := HI.out; omega
      go_wp2
      go_ret2
      refine ⟨?_, by repeat (first | exact HB.out | apply pw_below_drewN)⟩
      subst hi2
      first | rfl | (rw [List.take_length]; rfl)
def strikesOf (F : Int) (xs : List Int) : Int × Bool := match readV F xs with
  | some s => (manyV strikeV s.1, true)
  | none => (0, false)
theorem strikes_calls (w : World) (F : Int) (A : Option Addr) (c : Nat) (xs : List Int) (hr : ReadsInt w .i64 A xs.length xs) :
    Calls Try.prog 26 #[.int .i64 F, .slice A xs.length c] w fun e w' => e = .returned (.tuple #[.int .i64 (strikesOf F xs).1, .bool (strikesOf F xs).2]) ∧ Below w.heap.size w w' := by
  cases hv : readV F xs with
  | none =>
    rw [show strikesOf F xs = (0, false) by unfold strikesOf; rw [hv]]
    go_enter Try.func26, Try.ntmps26
    go_wp2_with (go_at_call 47; refine (read_none hv _ _ _ hr).mono ?_; rintro e w' ⟨rfl, hb⟩)
    go_ret2
    exact ⟨rfl, by repeat (first | exact hb | apply pw_below_drewN)⟩
  | some s =>
    rw [show strikesOf F xs = (manyV strikeV s.1, true) by unfold strikesOf; rw [hv]]
    exact strikes_some w F A c xs hr s.1 s.2.1 s.2.2 hv
end Go.Proofs.Ytnpnbgohdmonmaa.Lane
