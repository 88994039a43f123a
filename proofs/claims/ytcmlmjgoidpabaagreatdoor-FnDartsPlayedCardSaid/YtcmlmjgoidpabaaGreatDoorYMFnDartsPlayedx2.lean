/- Walks of the functions that the law reaches: each comes to just what the function that is told of it tells, for all arguments. -/
import Derived.Test.YtcmlmjgoidpabaaGreatDoorYMFnDartsPlayedx0
namespace Go.Proofs.YtcmlmjgoidpabaaGreatDoor.MFnDartsPlayed
open Go.RowKit Go.Proofs.YtcmlmjgoidpabaaGreatDoorW.PrintWords Go.Proofs.YtcmlmjgoidpabaaGreatDoorW.PrintLast Go.Proofs.YtcmlmjgoidpabaaGreatDoorW.PrintMore
attribute [local go_sem] max2_int min2_int max_two min_two max_three min_three max_four min_four
set_option linter.unusedVariables false
set_option linter.unusedSimpArgs false
def laws_big.f (l0 : List Int) (l1 : List Int) : Option (Bool) := if (l0.length : Int) > 1048576 then (some true) else (some (decide ((l1.length : Int) > (wrap64 (1048576 - (l0.length : Int))))))
set_option maxHeartbeats 8000000 in
set_option maxRecDepth 100000 in
theorem laws_big.calls (A0 : Option Addr) (c0 : Nat) (l0 : List Int) (A1 : Option Addr) (c1 : Nat) (l1 : List Int) (r : Bool) (w : World) (hr0 : Kd.C (Kd.int .u8) w A0 l0.length l0) (hc0 : l0.length ≤ c0) (hr1 : Kd.C (Kd.int .u8) w A1 l1.length l1) (hc1 : l1.length ≤ c1) (h : laws_big.f l0 l1 = some r) :
  Calls Tryz.prog 5 #[.slice A0 l0.length c0, .slice A1 l1.length c1] w fun e w' => e = .returned (.bool r) ∧ Drawn0 w w' := by
 have HR0 := aU hr0
 have HC0 := aU hc0
 clear hr0 hc0
 have HR1 := aU hr1
 have HC1 := aU hc1
 clear hr1 hc1
 have H : (if (l0.length : Int) > 1048576 then (some true) else (some (decide ((l1.length : Int) > (wrap64 (1048576 - (l0.length : Int))))))) = some r := h
 clear h
 by_cases c3 : (l0.length : Int) > 1048576
 ·rw [if_pos c3] at H
  have c3b0 : decide (1048576 < (l0.length : Int)) = true := decide_eq_true c3
  have c3b1 : decide (1048576 < l0.length) = true := decide_eq_true (by omega)
  clear c3
  obtain rfl := Option.some.inj H
  go_enter Tryz.func5, Tryz.ntmps5
  go_wp2
  go_ret
  exact ⟨by first | rfl | (simp; done) | (simp [*]; done), by repeat (first | exact Drawn0.refl _ | apply Drawn0.step)⟩
 ·rw [if_neg c3] at H
  have c3b0 : decide (1048576 < (l0.length : Int)) = false := decide_eq_false c3
  have c3b1 : decide (1048576 < l0.length) = false := decide_eq_false (by omega)
  clear c3
  obtain rfl := Option.some.inj H
  go_enter Tryz.func5, Tryz.ntmps5
  go_wp2
  go_ret
  exact ⟨by first | rfl | (simp; done) | (simp [*]; done), by repeat (first | exact Drawn0.refl _ | apply Drawn0.step)⟩
def IsS78 (w0 W : World) (g : Nat) (f0 : List Int) (f1 : Int) (f2 : Int) : Prop := ∃ A0 c0, W.heap[g]? = some (.cells #[.slice A0 f0.length c0, .int .i64 f1, .int .u64 f2] 78 (0, 0)) ∧ w0.heap.size ≤ g ∧ Kd.C (Kd.int .u8) w0 A0 f0.length f0
theorem IsS78.grown {w0 W : World} {g : Nat} {f0 : List Int} {f1 : Int} {f2 : Int} {W1 : World} {row : Option Nat} (h : IsS78 w0 W g f0 f1 f2) (hw : W.grownBy W1 row) (hne : some g ≠ row) : IsS78 w0 W1 g f0 f1 f2 := by
 obtain ⟨A0, c0, hb, hg, hr0⟩ := h
 exact ⟨A0, c0, blk_grown hb hw hne, hg, hr0⟩
theorem IsS78.below {w0 W : World} {g : Nat} {f0 : List Int} {f1 : Int} {f2 : Int} {W1 : World} (h : IsS78 w0 W g f0 f1 f2) (hw : Below W.heap.size W W1) : IsS78 w0 W1 g f0 f1 f2 := h.grown (grown_of_below hw none) (by simp)
theorem IsS78.drewN {w0 W : World} {g : Nat} {f0 : List Int} {f1 : Int} {f2 : Int} (h : IsS78 w0 W g f0 f1 f2) (m : Nat) : IsS78 w0 (W.drewN m) g f0 f1 f2 := h
theorem IsS78.apart {w0 W : World} {g : Nat} {f0 : List Int} {f1 : Int} {f2 : Int} {α : Type} {d : Kd α} {e : Nat} {base : Nat} {ok : Nat → Prop} {v : Value} {xs : List α} (h : IsS78 w0 W g f0 f1 f2) (ho : d.R e W base ok v xs) (ht : ∀ q, q ∈ e :: d.E → q ≠ 78) : d.R e W base (fun k => ok k ∧ k ≠ g) v xs := by
 obtain ⟨A0, c0, hb, hg, hr0⟩ := h
 exact Kd.R_types ho hb ht
theorem IsS78.own_ne {w0 W : World} {g : Nat} {f0 : List Int} {f1 : Int} {f2 : Int} {α : Type} {d : Kd α} {e : Nat} {base : Nat} {ok : Nat → Prop} {v : Value} {xs : List α} (h : IsS78 w0 W g f0 f1 f2) (ho : d.R e W base ok v xs) (ht : e ≠ 78) : some g ≠ v.ownBlock := by
 obtain ⟨A0, c0, hb, hg, hr0⟩ := h
 exact Kd.R_ne ho hb ht
theorem IsS78.apartS {w0 W : World} {g : Nat} {f0 : List Int} {f1 : Int} {f2 : Int} {α : Type} {d : Kd α} {e : Nat} {base : Nat} {ok : Nat → Prop} {v : Value} {xs : List α} (h : IsS78 w0 W g f0 f1 f2) (ho : d.S e W base ok v xs) (ht : ∀ q, q ∈ e :: d.E → q ≠ 78) : d.S e W base (fun k => ok k ∧ k ≠ g) v xs := by
 obtain ⟨A0, c0, hb, hg, hr0⟩ := h
 exact Kd.S_types ho hb ht
theorem IsS78.own_neS {w0 W : World} {g : Nat} {f0 : List Int} {f1 : Int} {f2 : Int} {α : Type} {d : Kd α} {e : Nat} {base : Nat} {ok : Nat → Prop} {v : Value} {xs : List α} (h : IsS78 w0 W g f0 f1 f2) (ho : d.S e W base ok v xs) (ht : e ≠ 78) : some g ≠ v.ownBlock := by
 obtain ⟨A0, c0, hb, hg, hr0⟩ := h
 exact Kd.S_ne ho hb ht
theorem IsS78.lt {w0 W : World} {g : Nat} {f0 : List Int} {f1 : Int} {f2 : Int} (h : IsS78 w0 W g f0 f1 f2) : g < W.heap.size := by
 obtain ⟨A0, c0, hb, hg, hr0⟩ := h
 exact blk_lt hb
theorem IsS78.ge {w0 W : World} {g : Nat} {f0 : List Int} {f1 : Int} {f2 : Int} (h : IsS78 w0 W g f0 f1 f2) : w0.heap.size ≤ g := by
 obtain ⟨A0, c0, hb, hg, hr0⟩ := h
 exact hg
theorem IsS78.far {w0 W : World} {g : Nat} {f0 : List Int} {f1 : Int} {f2 : Int} {p : Addr} (h : IsS78 w0 W g f0 f1 f2) (hne : g ≠ p.block) (u : Value) : IsS78 w0 (W.setCell p u) g f0 f1 f2 := by
 obtain ⟨A0, c0, hb, hg, hr0⟩ := h
 exact ⟨A0, c0, blk_far hb hne u, hg, hr0⟩
theorem cellS78_0 {W : World} {g : Nat} {A0 : Option Addr} {c0 : Nat} {f0 : List Int} {f1 : Int} {f2 : Int} (h : W.heap[g]? = some (.cells #[.slice A0 f0.length c0, .int .i64 f1, .int .u64 f2] 78 (0, 0))) : W.cell? ⟨g, 0, none⟩ = some (.slice A0 f0.length c0) := (blk_cell h 0).trans rfl
theorem cellS78_1 {W : World} {g : Nat} {A0 : Option Addr} {c0 : Nat} {f0 : List Int} {f1 : Int} {f2 : Int} (h : W.heap[g]? = some (.cells #[.slice A0 f0.length c0, .int .i64 f1, .int .u64 f2] 78 (0, 0))) : W.cell? ⟨g, 1, none⟩ = some (.int .i64 f1) := (blk_cell h 1).trans rfl
theorem IsS78.set_1 {w0 W : World} {g : Nat} {f0 : List Int} {f1 : Int} {f2 : Int} (h : IsS78 w0 W g f0 f1 f2) (x : Int) : IsS78 w0 (W.setCell ⟨g, 1, none⟩ (.int .i64 x)) g f0 x f2 := by
 obtain ⟨A0, c0, hb, hg, hr0⟩ := h
 exact ⟨A0, c0, by simpa using blk_set hb 1 (.int .i64 x), hg, hr0⟩
theorem cellS78_2 {W : World} {g : Nat} {A0 : Option Addr} {c0 : Nat} {f0 : List Int} {f1 : Int} {f2 : Int} (h : W.heap[g]? = some (.cells #[.slice A0 f0.length c0, .int .i64 f1, .int .u64 f2] 78 (0, 0))) : W.cell? ⟨g, 2, none⟩ = some (.int .u64 f2) := (blk_cell h 2).trans rfl
theorem IsS78.set_2 {w0 W : World} {g : Nat} {f0 : List Int} {f1 : Int} {f2 : Int} (h : IsS78 w0 W g f0 f1 f2) (x : Int) : IsS78 w0 (W.setCell ⟨g, 2, none⟩ (.int .u64 x)) g f0 f1 x := by
 obtain ⟨A0, c0, hb, hg, hr0⟩ := h
 exact ⟨A0, c0, by simpa using blk_set hb 2 (.int .u64 x), hg, hr0⟩
def spec_l1Cur_next.f (s0_0 : List Int) (s0_1 : Int) (s0_2 : Int) : Option (Int × Int × Int) := if s0_1 < (s0_0.length : Int) then (if 0 ≤ s0_1 then (if (wrap64 (s0_1 + 1)) ≤ (s0_0.length : Int) then (some (wrap64 (rd s0_0 s0_1), wrap64 (s0_1 + 1), IntKind.u64.wrap ((IntKind.u64.wrap ((IntKind.u64.wrap (s0_2 * 6364136223846793005)) + (IntKind.u64.wrap (wrap64 (rd s0_0 s0_1))))) + 1442695040888963407))) else (some (wrap64 (Go.bits .and .u64 ((IntKind.u64.wrap ((IntKind.u64.wrap ((IntKind.u64.wrap (s0_2 * 6364136223846793005)) + (IntKind.u64.wrap (wrap64 (rd s0_0 s0_1))))) + 1442695040888963407)) / 1099511627776) 255), wrap64 (s0_1 + 1), IntKind.u64.wrap ((IntKind.u64.wrap ((IntKind.u64.wrap (s0_2 * 6364136223846793005)) + (IntKind.u64.wrap (wrap64 (rd s0_0 s0_1))))) + 1442695040888963407)))) else (none)) else (if (wrap64 (s0_1 + 1)) ≤ (s0_0.length : Int) then (some (0, wrap64 (s0_1 + 1), IntKind.u64.wrap ((IntKind.u64.wrap (IntKind.u64.wrap (s0_2 * 6364136223846793005))) + 1442695040888963407))) else (some (wrap64 (Go.bits .and .u64 ((IntKind.u64.wrap ((IntKind.u64.wrap (IntKind.u64.wrap (s0_2 * 6364136223846793005))) + 1442695040888963407)) / 1099511627776) 255), wrap64 (s0_1 + 1), IntKind.u64.wrap ((IntKind.u64.wrap (IntKind.u64.wrap (s0_2 * 6364136223846793005))) + 1442695040888963407))))
set_option maxHeartbeats 8000000 in
set_option maxRecDepth 100000 in
theorem spec_l1Cur_next.calls (g : Nat) (s0_0 : List Int) (s0_1 : Int) (s0_2 : Int) (r1 : Int) (r2 : Int) (r3 : Int) (w0 w : World) (hI : IsS78 w0 w g s0_0 s0_1 s0_2) (hB : Below w0.heap.size w0 w) (h : spec_l1Cur_next.f s0_0 s0_1 s0_2 = some (r1, r2, r3)) :
  Calls Tryz.prog 136 #[.pointer (some ⟨g, 0, none⟩)] w fun e w' => e = .returned (.int .i64 r1) ∧ IsS78 w0 w' g s0_0 r2 r3 ∧ Below w0.heap.size w0 w' ∧ KeepBut w w' g none := by
 have HI0 := aU hI
 have HK := aU (KeepBut.refl w g none)
 have HL := aU hB.size
 clear hI
 have HW0 := aU hB.size
 have HB := aU hB
 clear hB
 have H : (if s0_1 < (s0_0.length : Int) then (if 0 ≤ s0_1 then (if (wrap64 (s0_1 + 1)) ≤ (s0_0.length : Int) then (some (wrap64 (rd s0_0 s0_1), wrap64 (s0_1 + 1), IntKind.u64.wrap ((IntKind.u64.wrap ((IntKind.u64.wrap (s0_2 * 6364136223846793005)) + (IntKind.u64.wrap (wrap64 (rd s0_0 s0_1))))) + 1442695040888963407))) else (some (wrap64 (Go.bits .and .u64 ((IntKind.u64.wrap ((IntKind.u64.wrap ((IntKind.u64.wrap (s0_2 * 6364136223846793005)) + (IntKind.u64.wrap (wrap64 (rd s0_0 s0_1))))) + 1442695040888963407)) / 1099511627776) 255), wrap64 (s0_1 + 1), IntKind.u64.wrap ((IntKind.u64.wrap ((IntKind.u64.wrap (s0_2 * 6364136223846793005)) + (IntKind.u64.wrap (wrap64 (rd s0_0 s0_1))))) + 1442695040888963407)))) else (none)) else (if (wrap64 (s0_1 + 1)) ≤ (s0_0.length : Int) then (some (0, wrap64 (s0_1 + 1), IntKind.u64.wrap ((IntKind.u64.wrap (IntKind.u64.wrap (s0_2 * 6364136223846793005))) + 1442695040888963407))) else (some (wrap64 (Go.bits .and .u64 ((IntKind.u64.wrap ((IntKind.u64.wrap (IntKind.u64.wrap (s0_2 * 6364136223846793005))) + 1442695040888963407)) / 1099511627776) 255), wrap64 (s0_1 + 1), IntKind.u64.wrap ((IntKind.u64.wrap (IntKind.u64.wrap (s0_2 * 6364136223846793005))) + 1442695040888963407))))) = some (r1, r2, r3) := h
 clear h
 by_cases c2 : s0_1 < (s0_0.length : Int)
 ·rw [if_pos c2] at H
  have c2b0 : decide (s0_1 < (s0_0.length : Int)) = true := decide_eq_true c2
  clear c2
  replace H := ifS H
  obtain ⟨c3, H⟩ := H
  have c3b0 : decide (0 ≤ s0_1) = true := decide_eq_true c3
  clear c3
  by_cases c4 : (wrap64 (s0_1 + 1)) ≤ (s0_0.length : Int)
  ·rw [if_pos c4] at H
   have c4b0 : decide ((wrap64 (s0_1 + 1)) ≤ (s0_0.length : Int)) = true := decide_eq_true c4
   clear c4
   simp only [Option.some.injEq, Prod.mk.injEq] at H
   obtain ⟨rfl, rfl, rfl⟩ := H
   obtain ⟨ASz5_0, cSz5_0, HGz5, hgz5, HSz5_0⟩ := HI0.out
   have hcz5_0 := cellS78_0 HGz5
   have hcz5_1 := cellS78_1 HGz5
   have hcz5_2 := cellS78_2 HGz5
   have hfz5_1 := blk_frozen HGz5 1
   have hfz5_2 := blk_frozen HGz5 2
   clear HGz5 hgz5
   have p101 : 0 ≤ (s0_1 : Int) := dU
   have q101 : s0_1 < (s0_0.length : Int) := dU
   obtain ⟨ad101, e101, hx101_0⟩ := Kd.at_int HSz5_0 s0_1 p101 q101
   cases e101
   replace hx101_0 := pw_cell_below HB.out hx101_0
   replace p101 := eq_true p101
   replace q101 := eq_true q101
   go_enter Tryz.func136, Tryz.ntmps136
   go_wp2
   repeat (go_quiet (fail); try go_wp2)
   go_ret
   exact ⟨errU, isU HI0, hbU, kpU HK⟩
  ·rw [if_neg c4] at H
   have c4b0 : decide ((wrap64 (s0_1 + 1)) ≤ (s0_0.length : Int)) = false := decide_eq_false c4
   clear c4
   simp only [Option.some.injEq, Prod.mk.injEq] at H
   obtain ⟨rfl, rfl, rfl⟩ := H
   obtain ⟨ASz6_0, cSz6_0, HGz6, hgz6, HSz6_0⟩ := HI0.out
   have hcz6_0 := cellS78_0 HGz6
   have hcz6_1 := cellS78_1 HGz6
   have hcz6_2 := cellS78_2 HGz6
   have hfz6_1 := blk_frozen HGz6 1
   have hfz6_2 := blk_frozen HGz6 2
   clear HGz6 hgz6
   have p101 : 0 ≤ (s0_1 : Int) := dU
   have q101 : s0_1 < (s0_0.length : Int) := dU
   obtain ⟨ad101, e101, hx101_0⟩ := Kd.at_int HSz6_0 s0_1 p101 q101
   cases e101
   replace hx101_0 := pw_cell_below HB.out hx101_0
   replace p101 := eq_true p101
   replace q101 := eq_true q101
   go_enter Tryz.func136, Tryz.ntmps136
   go_wp2
   repeat (go_quiet (fail); try go_wp2)
   go_ret
   exact ⟨errU, isU HI0, hbU, kpU HK⟩
 ·rw [if_neg c2] at H
  have c2b0 : decide (s0_1 < (s0_0.length : Int)) = false := decide_eq_false c2
  clear c2
  by_cases c7 : (wrap64 (s0_1 + 1)) ≤ (s0_0.length : Int)
  ·rw [if_pos c7] at H
   have c7b0 : decide ((wrap64 (s0_1 + 1)) ≤ (s0_0.length : Int)) = true := decide_eq_true c7
   clear c7
   simp only [Option.some.injEq, Prod.mk.injEq] at H
   obtain ⟨rfl, rfl, rfl⟩ := H
   obtain ⟨ASz8_0, cSz8_0, HGz8, hgz8, HSz8_0⟩ := HI0.out
   have hcz8_0 := cellS78_0 HGz8
   have hcz8_1 := cellS78_1 HGz8
   have hcz8_2 := cellS78_2 HGz8
   have hfz8_1 := blk_frozen HGz8 1
   have hfz8_2 := blk_frozen HGz8 2
   clear HGz8 hgz8
   go_enter Tryz.func136, Tryz.ntmps136
   go_wp2
   repeat (go_quiet (fail); try go_wp2)
   go_ret
   exact ⟨errU, isU HI0, hbU, kpU HK⟩
  ·rw [if_neg c7] at H
   have c7b0 : decide ((wrap64 (s0_1 + 1)) ≤ (s0_0.length : Int)) = false := decide_eq_false c7
   clear c7
   simp only [Option.some.injEq, Prod.mk.injEq] at H
   obtain ⟨rfl, rfl, rfl⟩ := H
   obtain ⟨ASz9_0, cSz9_0, HGz9, hgz9, HSz9_0⟩ := HI0.out
   have hcz9_0 := cellS78_0 HGz9
   have hcz9_1 := cellS78_1 HGz9
   have hcz9_2 := cellS78_2 HGz9
   have hfz9_1 := blk_frozen HGz9 1
   have hfz9_2 := blk_frozen HGz9 2
   clear HGz9 hgz9
   go_enter Tryz.func136, Tryz.ntmps136
   go_wp2
   repeat (go_quiet (fail); try go_wp2)
   go_ret
   exact ⟨errU, isU HI0, hbU, kpU HK⟩
def spec_l1Cur_pick.f (s0_0 : List Int) (s0_1 : Int) (s0_2 : Int) (a1 : Int) : Option (Int × Int × Int) := if a1 ≤ 1 then (some (0, s0_1, s0_2)) else ((spec_l1Cur_next.f s0_0 s0_1 s0_2).bind fun bt102 => (if a1 > 200 then ((spec_l1Cur_next.f s0_0 bt102.2.1 bt102.2.2).bind fun bt105 => (if a1 = 0 then (none) else (some (Int.tmod (wrap64 ((wrap64 (bt102.1 * 256)) + bt105.1)) a1, bt105.2.1, bt105.2.2)))) else (if a1 = 0 then (none) else (some (Int.tmod bt102.1 a1, bt102.2.1, bt102.2.2)))))
set_option maxHeartbeats 8000000 in
set_option maxRecDepth 100000 in
theorem spec_l1Cur_pick.calls (g : Nat) (s0_0 : List Int) (s0_1 : Int) (s0_2 : Int) (a1 : Int) (r1 : Int) (r2 : Int) (r3 : Int) (w0 w : World) (hI : IsS78 w0 w g s0_0 s0_1 s0_2) (hB : Below w0.heap.size w0 w) (h : spec_l1Cur_pick.f s0_0 s0_1 s0_2 a1 = some (r1, r2, r3)) :
  Calls Tryz.prog 92 #[.pointer (some ⟨g, 0, none⟩), .int .i64 a1] w fun e w' => e = .returned (.int .i64 r1) ∧ IsS78 w0 w' g s0_0 r2 r3 ∧ Below w0.heap.size w0 w' ∧ KeepBut w w' g none := by
 have HI0 := aU hI
 have HK := aU (KeepBut.refl w g none)
 have HL := aU hB.size
 clear hI
 have HW0 := aU hB.size
 have HB := aU hB
 clear hB
 have H : (if a1 ≤ 1 then (some (0, s0_1, s0_2)) else ((spec_l1Cur_next.f s0_0 s0_1 s0_2).bind fun bt102 => (if a1 > 200 then ((spec_l1Cur_next.f s0_0 bt102.2.1 bt102.2.2).bind fun bt105 => (if a1 = 0 then (none) else (some (Int.tmod (wrap64 ((wrap64 (bt102.1 * 256)) + bt105.1)) a1, bt105.2.1, bt105.2.2)))) else (if a1 = 0 then (none) else (some (Int.tmod bt102.1 a1, bt102.2.1, bt102.2.2)))))) = some (r1, r2, r3) := h
 clear h
 by_cases c3 : a1 ≤ 1
 ·rw [if_pos c3] at H
  have c3b0 : decide (a1 ≤ 1) = true := decide_eq_true c3
  clear c3
  simp only [Option.some.injEq, Prod.mk.injEq] at H
  obtain ⟨rfl, rfl, rfl⟩ := H
  go_enter Tryz.func92, Tryz.ntmps92
  go_wp2
  go_ret
  exact ⟨errU, isU HI0, hbU, kpU HK⟩
 ·rw [if_neg c3] at H
  have c3b0 : decide (a1 ≤ 1) = false := decide_eq_false c3
  clear c3
  replace H := bindS H
  obtain ⟨⟨t102, t103, t104⟩, A4, H⟩ := H
  (try dsimp only at H)
  by_cases c5 : a1 > 200
  ·rw [if_pos c5] at H
   have c5b0 : decide (200 < a1) = true := decide_eq_true c5
   clear c5
   replace H := bindS H
   obtain ⟨⟨t105, t106, t107⟩, A6, H⟩ := H
   (try dsimp only at H)
   replace H := ifN H
   obtain ⟨c7, H⟩ := H
   have c7b0 : (a1 == 0) = false := beq_eq_false_iff_ne.mpr c7
   have c7b1 : (a1 != 0) = true := bne_iff_ne.mpr c7
   simp only [Option.some.injEq, Prod.mk.injEq] at H
   obtain ⟨rfl, rfl, rfl⟩ := H
   go_enter Tryz.func92, Tryz.ntmps92
   go_wp2_with (first | ((with_reducible refine gcU 136 rfl ?_); refine goU (some 9) Tryz.func136 #[.pointer (some ⟨g, 0, none⟩)] ?_; (with_reducible refine (spec_l1Cur_next.calls g s0_0 s0_1 s0_2 t102 t103 t104 w0 _ ?side1 ?side2 A4.out).mono ?_); (case side1 => exact isU HI0); (case side2 => exact hbU); rintro e w8 ⟨rfl, hi, hb, hk⟩; refine ⟨_, rfl, ?_⟩; replace HK := aU (KeepBut.trans (kpU HK) hk (.inl rfl)); replace HB := aU (hb); replace HI0 := aU (hi); (try clear hi hb hk)) | ((with_reducible refine gcU 136 rfl ?_); refine goU (some 15) Tryz.func136 #[.pointer (some ⟨g, 0, none⟩)] ?_; (with_reducible refine (spec_l1Cur_next.calls g s0_0 t103 t104 t105 t106 t107 w0 _ ?side1 ?side2 A6.out).mono ?_); (case side1 => exact isU HI0); (case side2 => exact hbU); rintro e w9 ⟨rfl, hi, hb, hk⟩; refine ⟨_, rfl, ?_⟩; replace HK := aU (KeepBut.trans (kpU HK) hk (.inl rfl)); replace HB := aU (hb); replace HI0 := aU (hi); (try clear hi hb hk)))
   go_ret
   exact ⟨errU, isU HI0, hbU, kpU HK⟩
  ·rw [if_neg c5] at H
   have c5b0 : decide (200 < a1) = false := decide_eq_false c5
   clear c5
   replace H := ifN H
   obtain ⟨c10, H⟩ := H
   have c10b0 : (a1 == 0) = false := beq_eq_false_iff_ne.mpr c10
   have c10b1 : (a1 != 0) = true := bne_iff_ne.mpr c10
   simp only [Option.some.injEq, Prod.mk.injEq] at H
   obtain ⟨rfl, rfl, rfl⟩ := H
   go_enter Tryz.func92, Tryz.ntmps92
   go_wp2_with (first | ((with_reducible refine gcU 136 rfl ?_); refine goU (some 9) Tryz.func136 #[.pointer (some ⟨g, 0, none⟩)] ?_; (with_reducible refine (spec_l1Cur_next.calls g s0_0 s0_1 s0_2 t102 t103 t104 w0 _ ?side1 ?side2 A4.out).mono ?_); (case side1 => exact isU HI0); (case side2 => exact hbU); rintro e w11 ⟨rfl, hi, hb, hk⟩; refine ⟨_, rfl, ?_⟩; replace HK := aU (KeepBut.trans (kpU HK) hk (.inl rfl)); replace HB := aU (hb); replace HI0 := aU (hi); (try clear hi hb hk)))
   go_ret
   exact ⟨errU, isU HI0, hbU, kpU HK⟩
def spec_l1Cur_one.f (s0_0 : List Int) (s0_1 : Int) (s0_2 : Int) (a1 : Int) : Option (Bool × Int × Int) := (spec_l1Cur_pick.f s0_0 s0_1 s0_2 a1).bind fun bt108 => (some ((bt108.1 == 0), bt108.2.1, bt108.2.2))
set_option maxHeartbeats 8000000 in
set_option maxRecDepth 100000 in
theorem spec_l1Cur_one.calls (g : Nat) (s0_0 : List Int) (s0_1 : Int) (s0_2 : Int) (a1 : Int) (r1 : Bool) (r2 : Int) (r3 : Int) (w0 w : World) (hI : IsS78 w0 w g s0_0 s0_1 s0_2) (hB : Below w0.heap.size w0 w) (h : spec_l1Cur_one.f s0_0 s0_1 s0_2 a1 = some (r1, r2, r3)) :
  Calls Tryz.prog 91 #[.pointer (some ⟨g, 0, none⟩), .int .i64 a1] w fun e w' => e = .returned (.bool r1) ∧ IsS78 w0 w' g s0_0 r2 r3 ∧ Below w0.heap.size w0 w' ∧ KeepBut w w' g none := by
 have HI0 := aU hI
 have HK := aU (KeepBut.refl w g none)
 have HL := aU hB.size
 clear hI
 have HW0 := aU hB.size
 have HB := aU hB
 clear hB
 have H : ((spec_l1Cur_pick.f s0_0 s0_1 s0_2 a1).bind fun bt108 => (some ((bt108.1 == 0), bt108.2.1, bt108.2.2))) = some (r1, r2, r3) := h
 clear h
 replace H := bindS H
 obtain ⟨⟨t108, t109, t110⟩, A3, H⟩ := H
 (try dsimp only at H)
 simp only [Option.some.injEq, Prod.mk.injEq] at H
 obtain ⟨rfl, rfl, rfl⟩ := H
 go_enter Tryz.func91, Tryz.ntmps91
 go_wp2_with (first | ((with_reducible refine gcU 92 rfl ?_); refine goU (some 7) Tryz.func92 #[.pointer (some ⟨g, 0, none⟩), .int .i64 a1] ?_; (with_reducible refine (spec_l1Cur_pick.calls g s0_0 s0_1 s0_2 a1 t108 t109 t110 w0 _ ?side1 ?side2 A3.out).mono ?_); (case side1 => exact isU HI0); (case side2 => exact hbU); rintro e w4 ⟨rfl, hi, hb, hk⟩; refine ⟨_, rfl, ?_⟩; replace HK := aU (KeepBut.trans (kpU HK) hk (.inl rfl)); replace HB := aU (hb); replace HI0 := aU (hi); (try clear hi hb hk)))
 go_ret
 exact ⟨errU, isU HI0, hbU, kpU HK⟩
def spec_l1In.f (a0 : Int) (a1 : Int) (a2 : Int) : Option (Bool) := if a0 ≥ a1 then (some (decide (a0 ≤ a2))) else (some false)
set_option maxHeartbeats 8000000 in
set_option maxRecDepth 100000 in
theorem spec_l1In.calls (a0 : Int) (a1 : Int) (a2 : Int) (r : Bool) (w : World) (h : spec_l1In.f a0 a1 a2 = some r) :
  Calls Tryz.prog 96 #[.int .i64 a0, .int .i64 a1, .int .i64 a2] w fun e w' => e = .returned (.bool r) ∧ Drawn0 w w' := by
 have H : (if a0 ≥ a1 then (some (decide (a0 ≤ a2))) else (some false)) = some r := h
 clear h
 by_cases c4 : a0 ≥ a1
 ·rw [if_pos c4] at H
  have c4b0 : decide (a1 ≤ a0) = true := decide_eq_true c4
  clear c4
  obtain rfl := Option.some.inj H
  go_enter Tryz.func96, Tryz.ntmps96
  go_wp2
  go_ret
  exact ⟨by first | rfl | (simp; done) | (simp [*]; done), by repeat (first | exact Drawn0.refl _ | apply Drawn0.step)⟩
 ·rw [if_neg c4] at H
  have c4b0 : decide (a1 ≤ a0) = false := decide_eq_false c4
  clear c4
  obtain rfl := Option.some.inj H
  go_enter Tryz.func96, Tryz.ntmps96
  go_wp2
  go_ret
  exact ⟨by first | rfl | (simp; done) | (simp [*]; done), by repeat (first | exact Drawn0.refl _ | apply Drawn0.step)⟩
def spec_l1Cur_sureDart.f (s0_0 : List Int) (s0_1 : Int) (s0_2 : Int) : Option (Int × Int × Int × Int) := (spec_l1Cur_one.f s0_0 s0_1 s0_2 9).bind fun bt112 => (if bt112.1 = true then ((spec_l1Cur_pick.f s0_0 bt112.2.1 bt112.2.2 2).bind fun bt115 => (some (25, wrap64 (1 + bt115.1), bt115.2.1, bt115.2.2))) else ((spec_l1Cur_pick.f s0_0 bt112.2.1 bt112.2.2 20).bind fun bt118 => ((spec_l1Cur_pick.f s0_0 bt118.2.1 bt118.2.2 3).bind fun bt121 => (some (wrap64 (1 + bt118.1), wrap64 (1 + bt121.1), bt121.2.1, bt121.2.2)))))
set_option maxHeartbeats 8000000 in
set_option maxRecDepth 100000 in
theorem spec_l1Cur_sureDart.calls (g : Nat) (s0_0 : List Int) (s0_1 : Int) (s0_2 : Int) (r1 : Int) (r2 : Int) (r3 : Int) (r4 : Int) (w0 w : World) (hI : IsS78 w0 w g s0_0 s0_1 s0_2) (hB : Below w0.heap.size w0 w) (h : spec_l1Cur_sureDart.f s0_0 s0_1 s0_2 = some (r1, r2, r3, r4)) :
  Calls Tryz.prog 104 #[.pointer (some ⟨g, 0, none⟩)] w fun e w' => e = .returned (.agg #[.int .i64 r1, .int .i64 r2]) ∧ IsS78 w0 w' g s0_0 r3 r4 ∧ Below w0.heap.size w0 w' ∧ KeepBut w w' g none := by
 have hu52 := Tryz.underlying52
 have HI0 := aU hI
 have HK := aU (KeepBut.refl w g none)
 have HL := aU hB.size
 clear hI
 have HW0 := aU hB.size
 have HB := aU hB
 clear hB
 have H : ((spec_l1Cur_one.f s0_0 s0_1 s0_2 9).bind fun bt112 => (if bt112.1 = true then ((spec_l1Cur_pick.f s0_0 bt112.2.1 bt112.2.2 2).bind fun bt115 => (some (25, wrap64 (1 + bt115.1), bt115.2.1, bt115.2.2))) else ((spec_l1Cur_pick.f s0_0 bt112.2.1 bt112.2.2 20).bind fun bt118 => ((spec_l1Cur_pick.f s0_0 bt118.2.1 bt118.2.2 3).bind fun bt121 => (some (wrap64 (1 + bt118.1), wrap64 (1 + bt121.1), bt121.2.1, bt121.2.2)))))) = some (r1, r2, r3, r4) := h
 clear h
 replace H := bindS H
 obtain ⟨⟨t112, t113, t114⟩, A2, H⟩ := H
 (try dsimp only at H)
 by_cases c3 : t112 = true
 ·subst c3
  rw [if_pos rfl] at H
  replace H := bindS H
  obtain ⟨⟨t115, t116, t117⟩, A4, H⟩ := H
  (try dsimp only at H)
  simp only [Option.some.injEq, Prod.mk.injEq] at H
  obtain ⟨rfl, rfl, rfl, rfl⟩ := H
  go_enter Tryz.func104, Tryz.ntmps104
  go_wp2_with (first | ((with_reducible refine gdU 2 rfl ?_); refine bxU (cs := #[.int .i64 0, .int .i64 0]) (t := 52) ?_; intro gb111 hg w5 hbox hb; replace HB := bsU hb; have BK111 := aU (hbox); have GW111 := aU ((by rw [hg]; exact (keep_size (w := w) (g := g) (row := none) (kpU HK)) : w.heap.size ≤ gb111)); have GE111 := aU ((Nat.le_trans HW0.out (by rw [hg]; exact (keep_size (w := w) (g := g) (row := none) (kpU HK)) : w.heap.size ≤ gb111) : w0.heap.size ≤ gb111)); replace HK := aU (KeepBut.trans (kpU HK) (KeepBut.of_below hb g none) (.inl rfl)); have NB0_111 := aU ((by rw [hg]; exact Nat.ne_of_lt (IsS78.lt (show IsS78 w0 _ g s0_0 s0_1 s0_2 from isU HI0)) : g ≠ gb111)); have NB111_0 := aU ((by rw [hg]; exact Nat.ne_of_gt (IsS78.lt (show IsS78 w0 _ g s0_0 s0_1 s0_2 from isU HI0)) : gb111 ≠ g)); replace HI0 := aU (IsS78.below (isU HI0) hb); clear hb hbox hg) | ((with_reducible refine gcU 91 rfl ?_); refine goU (some 4) Tryz.func91 #[.pointer (some ⟨g, 0, none⟩), .int .i64 9] ?_; (with_reducible refine (spec_l1Cur_one.calls g s0_0 s0_1 s0_2 9 true t113 t114 w0 _ ?side1 ?side2 A2.out).mono ?_); (case side1 => exact isU HI0); (case side2 => exact hbU); rintro e w6 ⟨rfl, hi, hb, hk⟩; refine ⟨_, rfl, ?_⟩; replace BK111 := aU (KeepBut.blk hk (g' := gb111) (o := .cells #[.int .i64 0, .int .i64 0] 52 (0, 0)) bkU NB111_0.out (by simp)); replace HK := aU (KeepBut.trans (kpU HK) hk (.inl rfl)); replace HB := aU (hb); replace HI0 := aU (hi); (try clear hi hb hk)) | ((with_reducible refine gcU 92 rfl ?_); refine goU (some 6) Tryz.func92 #[.pointer (some ⟨g, 0, none⟩), .int .i64 2] ?_; (with_reducible refine (spec_l1Cur_pick.calls g s0_0 t113 t114 2 t115 t116 t117 w0 _ ?side1 ?side2 A4.out).mono ?_); (case side1 => exact isU HI0); (case side2 => exact hbU); rintro e w7 ⟨rfl, hi, hb, hk⟩; refine ⟨_, rfl, ?_⟩; replace BK111 := aU (KeepBut.blk hk (g' := gb111) (o := .cells #[.int .i64 0, .int .i64 0] 52 (0, 0)) bkU NB111_0.out (by simp)); replace HK := aU (KeepBut.trans (kpU HK) hk (.inl rfl)); replace HB := aU (hb); replace HI0 := aU (hi); (try clear hi hb hk); have hnb8 := NB111_0.out; have hnc8 := NB0_111.out; obtain ⟨hcz9_0, hcz9_1, hfz9_0, hfz9_1⟩ := b2U BK111))
  refine bodyPost_ret (results_cell_row rfl _ _ gb111 52 #[.int .i64 25, .int .i64 (wrap64 (1 + t115))] (0, 0) _ rfl bkU Tryz.underlying52 rfl (by kernel_rfl)) rfl ?_
  exact ⟨errU, isU HI0, hbU, kpU HK⟩
 ·replace c3 := Bool.eq_false_iff.mpr c3
  subst c3
  rw [if_neg (show ¬ (false = true) by decide)] at H
  replace H := bindS H
  obtain ⟨⟨t118, t119, t120⟩, A10, H⟩ := H
  (try dsimp only at H)
  replace H := bindS H
  obtain ⟨⟨t121, t122, t123⟩, A11, H⟩ := H
  (try dsimp only at H)
  simp only [Option.some.injEq, Prod.mk.injEq] at H
  obtain ⟨rfl, rfl, rfl, rfl⟩ := H
  go_enter Tryz.func104, Tryz.ntmps104
  go_wp2_with (first | ((with_reducible refine gdU 2 rfl ?_); refine bxU (cs := #[.int .i64 0, .int .i64 0]) (t := 52) ?_; intro gb111 hg w12 hbox hb; replace HB := bsU hb; have BK111 := aU (hbox); have GW111 := aU ((by rw [hg]; exact (keep_size (w := w) (g := g) (row := none) (kpU HK)) : w.heap.size ≤ gb111)); have GE111 := aU ((Nat.le_trans HW0.out (by rw [hg]; exact (keep_size (w := w) (g := g) (row := none) (kpU HK)) : w.heap.size ≤ gb111) : w0.heap.size ≤ gb111)); replace HK := aU (KeepBut.trans (kpU HK) (KeepBut.of_below hb g none) (.inl rfl)); have NB0_111 := aU ((by rw [hg]; exact Nat.ne_of_lt (IsS78.lt (show IsS78 w0 _ g s0_0 s0_1 s0_2 from isU HI0)) : g ≠ gb111)); have NB111_0 := aU ((by rw [hg]; exact Nat.ne_of_gt (IsS78.lt (show IsS78 w0 _ g s0_0 s0_1 s0_2 from isU HI0)) : gb111 ≠ g)); replace HI0 := aU (IsS78.below (isU HI0) hb); clear hb hbox hg) | ((with_reducible refine gcU 91 rfl ?_); refine goU (some 4) Tryz.func91 #[.pointer (some ⟨g, 0, none⟩), .int .i64 9] ?_; (with_reducible refine (spec_l1Cur_one.calls g s0_0 s0_1 s0_2 9 false t113 t114 w0 _ ?side1 ?side2 A2.out).mono ?_); (case side1 => exact isU HI0); (case side2 => exact hbU); rintro e w13 ⟨rfl, hi, hb, hk⟩; refine ⟨_, rfl, ?_⟩; replace BK111 := aU (KeepBut.blk hk (g' := gb111) (o := .cells #[.int .i64 0, .int .i64 0] 52 (0, 0)) bkU NB111_0.out (by simp)); replace HK := aU (KeepBut.trans (kpU HK) hk (.inl rfl)); replace HB := aU (hb); replace HI0 := aU (hi); (try clear hi hb hk)) | ((with_reducible refine gcU 92 rfl ?_); refine goU (some 10) Tryz.func92 #[.pointer (some ⟨g, 0, none⟩), .int .i64 20] ?_; (with_reducible refine (spec_l1Cur_pick.calls g s0_0 t113 t114 20 t118 t119 t120 w0 _ ?side1 ?side2 A10.out).mono ?_); (case side1 => exact isU HI0); (case side2 => exact hbU); rintro e w14 ⟨rfl, hi, hb, hk⟩; refine ⟨_, rfl, ?_⟩; replace BK111 := aU (KeepBut.blk hk (g' := gb111) (o := .cells #[.int .i64 0, .int .i64 0] 52 (0, 0)) bkU NB111_0.out (by simp)); replace HK := aU (KeepBut.trans (kpU HK) hk (.inl rfl)); replace HB := aU (hb); replace HI0 := aU (hi); (try clear hi hb hk)) | ((with_reducible refine gcU 92 rfl ?_); refine goU (some 13) Tryz.func92 #[.pointer (some ⟨g, 0, none⟩), .int .i64 3] ?_; (with_reducible refine (spec_l1Cur_pick.calls g s0_0 t119 t120 3 t121 t122 t123 w0 _ ?side1 ?side2 A11.out).mono ?_); (case side1 => exact isU HI0); (case side2 => exact hbU); rintro e w15 ⟨rfl, hi, hb, hk⟩; refine ⟨_, rfl, ?_⟩; replace BK111 := aU (KeepBut.blk hk (g' := gb111) (o := .cells #[.int .i64 0, .int .i64 0] 52 (0, 0)) bkU NB111_0.out (by simp)); replace HK := aU (KeepBut.trans (kpU HK) hk (.inl rfl)); replace HB := aU (hb); replace HI0 := aU (hi); (try clear hi hb hk); have hnb16 := NB111_0.out; have hnc16 := NB0_111.out; obtain ⟨hcz17_0, hcz17_1, hfz17_0, hfz17_1⟩ := b2U BK111))
  refine bodyPost_ret (results_cell_row rfl _ _ gb111 52 #[.int .i64 (wrap64 (1 + t118)), .int .i64 (wrap64 (1 + t121))] (0, 0) _ rfl bkU Tryz.underlying52 rfl (by kernel_rfl)) rfl ?_
  exact ⟨errU, isU HI0, hbU, kpU HK⟩
def spec_l1Cur_among.f (s0_0 : List Int) (s0_1 : Int) (s0_2 : Int) (l1 : List Int) : Option (Int × Int × Int) := (spec_l1Cur_pick.f s0_0 s0_1 s0_2 (l1.length : Int)).bind fun bt124 => (if 0 ≤ bt124.1 then (if bt124.1 < (l1.length : Int) then (some (rd l1 bt124.1, bt124.2.1, bt124.2.2)) else (none)) else (none))
set_option maxHeartbeats 8000000 in
set_option maxRecDepth 100000 in
theorem spec_l1Cur_among.calls (g : Nat) (s0_0 : List Int) (s0_1 : Int) (s0_2 : Int) (A1 : Option Addr) (c1 : Nat) (l1 : List Int) (r1 : Int) (r2 : Int) (r3 : Int) (w0 w : World) (hI : IsS78 w0 w g s0_0 s0_1 s0_2) (hB : Below w0.heap.size w0 w) (hr1 : Kd.C (Kd.int .i64) w A1 l1.length l1) (hc1 : l1.length ≤ c1) (hf1 : ∀ ad, A1 = some ad → 0 < l1.length → ad.block ≠ g) (h : spec_l1Cur_among.f s0_0 s0_1 s0_2 l1 = some (r1, r2, r3)) :
  Calls Tryz.prog 95 #[.pointer (some ⟨g, 0, none⟩), .slice A1 l1.length c1] w fun e w' => e = .returned (.int .i64 r1) ∧ IsS78 w0 w' g s0_0 r2 r3 ∧ Below w0.heap.size w0 w' ∧ KeepBut w w' g none := by
 have HR1 := aU hr1
 have HC1 := aU hc1
 clear hr1 hc1
 have HI0 := aU hI
 have HK := aU (KeepBut.refl w g none)
 have HL := aU hB.size
 clear hI
 have HW0 := aU hB.size
 have HB := aU hB
 clear hB
 have H : ((spec_l1Cur_pick.f s0_0 s0_1 s0_2 (l1.length : Int)).bind fun bt124 => (if 0 ≤ bt124.1 then (if bt124.1 < (l1.length : Int) then (some (rd l1 bt124.1, bt124.2.1, bt124.2.2)) else (none)) else (none))) = some (r1, r2, r3) := h
 clear h
 replace H := bindS H
 obtain ⟨⟨t124, t125, t126⟩, A3, H⟩ := H
 (try dsimp only at H)
 replace H := ifS H
 obtain ⟨c4, H⟩ := H
 have c4b0 : decide (0 ≤ t124) = true := decide_eq_true c4
 clear c4
 replace H := ifS H
 obtain ⟨c5, H⟩ := H
 have c5b0 : decide (t124 < (l1.length : Int)) = true := decide_eq_true c5
 clear c5
 simp only [Option.some.injEq, Prod.mk.injEq] at H
 obtain ⟨rfl, rfl, rfl⟩ := H
 go_enter Tryz.func95, Tryz.ntmps95
 go_wp2_with (first | ((with_reducible refine gcU 92 rfl ?_); refine goU (some 9) Tryz.func92 #[.pointer (some ⟨g, 0, none⟩), .int .i64 (l1.length : Int)] ?_; (with_reducible refine (spec_l1Cur_pick.calls g s0_0 s0_1 s0_2 (l1.length : Int) t124 t125 t126 w0 _ ?side1 ?side2 A3.out).mono ?_); (case side1 => exact isU HI0); (case side2 => exact hbU); rintro e w6 ⟨rfl, hi, hb, hk⟩; refine ⟨_, rfl, ?_⟩; replace HK := aU (KeepBut.trans (kpU HK) hk (.inl rfl)); replace HB := aU (hb); replace HI0 := aU (hi); (try clear hi hb hk); have p127 : 0 ≤ (t124 : Int) := dU; have q127 : t124 < (l1.length : Int) := dU; obtain ⟨ad127, e127, hx127_0⟩ := Kd.at_int HR1.out t124 p127 q127; cases e127; replace hx127_0 := keep_cell HK.out hx127_0 (by first | (rw [add_block]; exact hf1 _ rfl (by omega)) | exact hf1 _ rfl (by omega) | exact hf1 ad127 rfl (by omega)); replace p127 := eq_true p127; replace q127 := eq_true q127))
 go_ret
 exact ⟨errU, isU HI0, hbU, kpU HK⟩
def spec_l1Cur_dart.f (s0_0 : List Int) (s0_1 : Int) (s0_2 : Int) : Option (Int × Int × Int × Int) := (spec_l1Cur_one.f s0_0 s0_1 s0_2 14).bind fun bt129 => (if bt129.1 = true then ((spec_l1Cur_among.f s0_0 bt129.2.1 bt129.2.2 (([(-1), 0, 1, 20, 21, 25, 25, 4611686018427387904] : List Int))).bind fun bt135 => ((spec_l1Cur_among.f s0_0 bt135.2.1 bt135.2.2 (([(-1), 0, 1, 2, 3, 4] : List Int))).bind fun bt141 => (some (bt135.1, bt141.1, bt141.2.1, bt141.2.2)))) else ((spec_l1Cur_sureDart.f s0_0 bt129.2.1 bt129.2.2).bind fun bt144 => (some (bt144.1, bt144.2.1, bt144.2.2.1, bt144.2.2.2))))
set_option maxHeartbeats 8000000 in
set_option maxRecDepth 100000 in
theorem spec_l1Cur_dart.calls (g : Nat) (s0_0 : List Int) (s0_1 : Int) (s0_2 : Int) (r1 : Int) (r2 : Int) (r3 : Int) (r4 : Int) (w0 w : World) (hI : IsS78 w0 w g s0_0 s0_1 s0_2) (hB : Below w0.heap.size w0 w) (h : spec_l1Cur_dart.f s0_0 s0_1 s0_2 = some (r1, r2, r3, r4)) :
  Calls Tryz.prog 116 #[.pointer (some ⟨g, 0, none⟩)] w fun e w' => e = .returned (.agg #[.int .i64 r1, .int .i64 r2]) ∧ IsS78 w0 w' g s0_0 r3 r4 ∧ Below w0.heap.size w0 w' ∧ KeepBut w w' g none := by
 have hu52 := Tryz.underlying52
 have HI0 := aU hI
 have HK := aU (KeepBut.refl w g none)
 have HL := aU hB.size
 clear hI
 have HW0 := aU hB.size
 have HB := aU hB
 clear hB
 have H : ((spec_l1Cur_one.f s0_0 s0_1 s0_2 14).bind fun bt129 => (if bt129.1 = true then ((spec_l1Cur_among.f s0_0 bt129.2.1 bt129.2.2 (([(-1), 0, 1, 20, 21, 25, 25, 4611686018427387904] : List Int))).bind fun bt135 => ((spec_l1Cur_among.f s0_0 bt135.2.1 bt135.2.2 (([(-1), 0, 1, 2, 3, 4] : List Int))).bind fun bt141 => (some (bt135.1, bt141.1, bt141.2.1, bt141.2.2)))) else ((spec_l1Cur_sureDart.f s0_0 bt129.2.1 bt129.2.2).bind fun bt144 => (some (bt144.1, bt144.2.1, bt144.2.2.1, bt144.2.2.2))))) = some (r1, r2, r3, r4) := h
 clear h
 replace H := bindS H
 obtain ⟨⟨t129, t130, t131⟩, A2, H⟩ := H
 (try dsimp only at H)
 by_cases c3 : t129 = true
 ·subst c3
  rw [if_pos rfl] at H
  obtain ⟨y132, hy132⟩ : ∃ y_ : List Int, y_ = (([(-1), 0, 1, 20, 21, 25, 25, 4611686018427387904] : List Int)) := ⟨_, rfl⟩
  replace H : ((spec_l1Cur_among.f s0_0 t130 t131 y132).bind fun bt135 => ((spec_l1Cur_among.f s0_0 bt135.2.1 bt135.2.2 (([(-1), 0, 1, 2, 3, 4] : List Int))).bind fun bt141 => (some (bt135.1, bt141.1, bt141.2.1, bt141.2.2)))) = some (r1, r2, r3, r4) := by first | (rw [hy132]; with_reducible exact H) | (have H2_ := (Option.bind_some _ _).symm.trans H; rw [hy132]; with_reducible exact H2_) | (have H2_ := (Option.bind_some _ _).symm.trans H; with_reducible exact H2_) | with_reducible exact H | (rw [hy132]; exact H) | exact H
  have Ny132 := aU hy132
  clear hy132
  replace H := bindS H
  obtain ⟨⟨t135, t136, t137⟩, A4, H⟩ := H
  (try dsimp only at H)
  obtain ⟨y138, hy138⟩ : ∃ y_ : List Int, y_ = (([(-1), 0, 1, 2, 3, 4] : List Int)) := ⟨_, rfl⟩
  replace H : ((spec_l1Cur_among.f s0_0 t136 t137 y138).bind fun bt141 => (some (t135, bt141.1, bt141.2.1, bt141.2.2))) = some (r1, r2, r3, r4) := by first | (rw [hy138]; with_reducible exact H) | (have H2_ := (Option.bind_some _ _).symm.trans H; rw [hy138]; with_reducible exact H2_) | (have H2_ := (Option.bind_some _ _).symm.trans H; with_reducible exact H2_) | with_reducible exact H | (rw [hy138]; exact H) | exact H
  have Ny138 := aU hy138
  clear hy138
  replace H := bindS H
  obtain ⟨⟨t141, t142, t143⟩, A5, H⟩ := H
  (try dsimp only at H)
  simp only [Option.some.injEq, Prod.mk.injEq] at H
  obtain ⟨rfl, rfl, rfl, rfl⟩ := H
  go_enter Tryz.func116, Tryz.ntmps116
  go_wp2_with (first | ((with_reducible refine gdU 2 rfl ?_); refine bxU (cs := #[.int .i64 0, .int .i64 0]) (t := 52) ?_; intro gb128 hg w6 hbox hb; replace HB := bsU hb; have BK128 := aU (hbox); have GW128 := aU ((by rw [hg]; exact (keep_size (w := w) (g := g) (row := none) (kpU HK)) : w.heap.size ≤ gb128)); have GE128 := aU ((Nat.le_trans HW0.out (by rw [hg]; exact (keep_size (w := w) (g := g) (row := none) (kpU HK)) : w.heap.size ≤ gb128) : w0.heap.size ≤ gb128)); replace HK := aU (KeepBut.trans (kpU HK) (KeepBut.of_below hb g none) (.inl rfl)); have NB0_128 := aU ((by rw [hg]; exact Nat.ne_of_lt (IsS78.lt (show IsS78 w0 _ g s0_0 s0_1 s0_2 from isU HI0)) : g ≠ gb128)); have NB128_0 := aU ((by rw [hg]; exact Nat.ne_of_gt (IsS78.lt (show IsS78 w0 _ g s0_0 s0_1 s0_2 from isU HI0)) : gb128 ≠ g)); replace HI0 := aU (IsS78.below (isU HI0) hb); clear hb hbox hg) | ((with_reducible refine gcU 91 rfl ?_); refine goU (some 4) Tryz.func91 #[.pointer (some ⟨g, 0, none⟩), .int .i64 14] ?_; (with_reducible refine (spec_l1Cur_one.calls g s0_0 s0_1 s0_2 14 true t130 t131 w0 _ ?side1 ?side2 A2.out).mono ?_); (case side1 => exact isU HI0); (case side2 => exact hbU); rintro e w7 ⟨rfl, hi, hb, hk⟩; refine ⟨_, rfl, ?_⟩; replace BK128 := aU (KeepBut.blk hk (g' := gb128) (o := .cells #[.int .i64 0, .int .i64 0] 52 (0, 0)) bkU NB128_0.out (by simp)); replace HK := aU (KeepBut.trans (kpU HK) hk (.inl rfl)); replace HB := aU (hb); replace HI0 := aU (hi); (try clear hi hb hk)) | ((with_reducible refine gdU 6 rfl ?_); refine Kd.R_lit (Kd.int .i64) _ 3 ?hg (N := 6) ?hd (xs := ([(-1), 0, 1, 20, 21, 25, 25, 4611686018427387904] : List Int)) (inner := [.int .i64 (-1), .int .i64 0, .int .i64 1, .int .i64 20, .int .i64 21, .int .i64 25, .int .i64 25, .int .i64 4611686018427387904]) (ok := fun _ => True) (okp := fun _ => True) ?hr ?hp (fun _ hk => hk) trivial (Below.refl _ _) (Nat.le_refl _) (by simp) ?_; (case hd => rfl); (case hg => rfl); (case hr => first | (go_simp; done) | (go_simp; rfl)); (case hp => exact (Reps.one (show Kd.M (Kd.int .i64) _ _ _ (-1) [.int .i64 (-1)] from rfl) (Reps.one (show Kd.M (Kd.int .i64) _ _ _ 0 [.int .i64 0] from rfl) (Reps.one (show Kd.M (Kd.int .i64) _ _ _ 1 [.int .i64 1] from rfl) (Reps.one (show Kd.M (Kd.int .i64) _ _ _ 20 [.int .i64 20] from rfl) (Reps.one (show Kd.M (Kd.int .i64) _ _ _ 21 [.int .i64 21] from rfl) (Reps.one (show Kd.M (Kd.int .i64) _ _ _ 25 [.int .i64 25] from rfl) (Reps.one (show Kd.M (Kd.int .i64) _ _ _ 25 [.int .i64 25] from rfl) (Reps.one (show Kd.M (Kd.int .i64) _ _ _ 4611686018427387904 [.int .i64 4611686018427387904] from rfl) (Reps.none _ _)))))))))); intro v133 w8 ho9 hb hg_ hnew_; clear hg_ hnew_; (first | rw [← Ny132.out] at ho9 | (simp only [Int.reduceToNat] at ho9; rw [← Ny132.out] at ho9)); have HO134 := aU (Kd.R_lower ho9 (keep_size (w := w) (g := g) (row := none) (kpU HK))); replace HI0 := aU (IsS78.below (isU HI0) hb); replace BK128 := bbU BK128 hb; replace HK := aU (KeepBut.trans (kpU HK) (KeepBut.of_below hb g none) (.inl rfl)); replace HB := bsU hb; clear hb ho9; obtain ⟨Ao10, co10, eo10⟩ := Kd.R_slice HO134.out; subst eo10) | ((with_reducible refine gcU 95 rfl ?_); refine goU (some 7) Tryz.func95 #[.pointer (some ⟨g, 0, none⟩), .slice Ao10 y132.length co10] ?_; (with_reducible refine (spec_l1Cur_among.calls g s0_0 t130 t131 _ _ y132 t135 t136 t137 w0 _ ?side1 ?side2 ?side3 ?side4 ?side5 A4.out).mono ?_); (case side1 => exact isU HI0); (case side2 => exact hbU); (case side3 => exact rcU HO134); (case side4 => exact (Kd.R_reads' HO134.out).2.1); (case side5 => exact far_slice (IsS78.own_ne HI0.out HO134.out (by decide))); rintro e w11 ⟨rfl, hi, hb, hk⟩; refine ⟨_, rfl, ?_⟩; replace BK128 := aU (KeepBut.blk hk (g' := gb128) (o := .cells #[.int .i64 0, .int .i64 0] 52 (0, 0)) bkU NB128_0.out (by simp)); replace HO134 := aU (Kd.R_mono (Kd.R_keep (IsS78.apart (show IsS78 w0 _ g s0_0 t130 t131 from isU HI0) (roU HO134) (by decide)) hk (fun _ h => h.2)) (fun _ h => h.1)); replace HK := aU (KeepBut.trans (kpU HK) hk (.inl rfl)); replace HB := aU (hb); replace HI0 := aU (hi); (try clear hi hb hk)) | ((with_reducible refine gdU 9 rfl ?_); refine Kd.R_lit (Kd.int .i64) _ 3 ?hg (N := 9) ?hd (xs := ([(-1), 0, 1, 2, 3, 4] : List Int)) (inner := [.int .i64 (-1), .int .i64 0, .int .i64 1, .int .i64 2, .int .i64 3, .int .i64 4]) (ok := fun _ => True) (okp := fun _ => True) ?hr ?hp (fun _ hk => hk) trivial (Below.refl _ _) (Nat.le_refl _) (by simp) ?_; (case hd => rfl); (case hg => rfl); (case hr => first | (go_simp; done) | (go_simp; rfl)); (case hp => exact (Reps.one (show Kd.M (Kd.int .i64) _ _ _ (-1) [.int .i64 (-1)] from rfl) (Reps.one (show Kd.M (Kd.int .i64) _ _ _ 0 [.int .i64 0] from rfl) (Reps.one (show Kd.M (Kd.int .i64) _ _ _ 1 [.int .i64 1] from rfl) (Reps.one (show Kd.M (Kd.int .i64) _ _ _ 2 [.int .i64 2] from rfl) (Reps.one (show Kd.M (Kd.int .i64) _ _ _ 3 [.int .i64 3] from rfl) (Reps.one (show Kd.M (Kd.int .i64) _ _ _ 4 [.int .i64 4] from rfl) (Reps.none _ _)))))))); intro v139 w12 ho13 hb hg_ hnew_; clear hg_ hnew_; (first | rw [← Ny138.out] at ho13 | (simp only [Int.reduceToNat] at ho13; rw [← Ny138.out] at ho13)); have HO140 := aU (Kd.R_lower (Kd.R_new' ho13 (Kd.R_lt (roU HO134))) (keep_size (w := w) (g := g) (row := none) (kpU HK))); replace HO134 := aU (Kd.R_elder' (roU HO134) (Kd.R_base ho13) hb); replace HI0 := aU (IsS78.below (isU HI0) hb); replace BK128 := bbU BK128 hb; replace HK := aU (KeepBut.trans (kpU HK) (KeepBut.of_below hb g none) (.inl rfl)); replace HB := bsU hb; clear hb ho13; obtain ⟨Ao14, co14, eo14⟩ := Kd.R_slice HO140.out; subst eo14) | ((with_reducible refine gcU 95 rfl ?_); refine goU (some 10) Tryz.func95 #[.pointer (some ⟨g, 0, none⟩), .slice Ao14 y138.length co14] ?_; (with_reducible refine (spec_l1Cur_among.calls g s0_0 t136 t137 _ _ y138 t141 t142 t143 w0 _ ?side1 ?side2 ?side3 ?side4 ?side5 A5.out).mono ?_); (case side1 => exact isU HI0); (case side2 => exact hbU); (case side3 => exact rcU HO140); (case side4 => exact (Kd.R_reads' HO140.out).2.1); (case side5 => exact far_slice (IsS78.own_ne HI0.out HO140.out (by decide))); rintro e w15 ⟨rfl, hi, hb, hk⟩; refine ⟨_, rfl, ?_⟩; replace BK128 := aU (KeepBut.blk hk (g' := gb128) (o := .cells #[.int .i64 0, .int .i64 0] 52 (0, 0)) bkU NB128_0.out (by simp)); replace HO134 := aU (Kd.R_mono (Kd.R_keep (IsS78.apart (show IsS78 w0 _ g s0_0 t136 t137 from isU HI0) (roU HO134) (by decide)) hk (fun _ h => h.2)) (fun _ h => h.1)); replace HO140 := aU (Kd.R_mono (Kd.R_keep (IsS78.apart (show IsS78 w0 _ g s0_0 t136 t137 from isU HI0) (roU HO140) (by decide)) hk (fun _ h => h.2)) (fun _ h => h.1)); replace HK := aU (KeepBut.trans (kpU HK) hk (.inl rfl)); replace HB := aU (hb); replace HI0 := aU (hi); (try clear hi hb hk); have hnb16 := NB128_0.out; have hnc16 := NB0_128.out; obtain ⟨hcz17_0, hcz17_1, hfz17_0, hfz17_1⟩ := b2U BK128))
  refine bodyPost_ret (results_cell_row rfl _ _ gb128 52 #[.int .i64 t135, .int .i64 t141] (0, 0) _ rfl bkU Tryz.underlying52 rfl (by kernel_rfl)) rfl ?_
  exact ⟨errU, isU HI0, hbU, kpU HK⟩
 ·replace c3 := Bool.eq_false_iff.mpr c3
  subst c3
  rw [if_neg (show ¬ (false = true) by decide)] at H
  replace H := bindS H
  obtain ⟨⟨t144, t145, t146, t147⟩, A18, H⟩ := H
  (try dsimp only at H)
  simp only [Option.some.injEq, Prod.mk.injEq] at H
  obtain ⟨rfl, rfl, rfl, rfl⟩ := H
  go_enter Tryz.func116, Tryz.ntmps116
  go_wp2_with (first | ((with_reducible refine gdU 2 rfl ?_); refine bxU (cs := #[.int .i64 0, .int .i64 0]) (t := 52) ?_; intro gb128 hg w19 hbox hb; replace HB := bsU hb; have BK128 := aU (hbox); have GW128 := aU ((by rw [hg]; exact (keep_size (w := w) (g := g) (row := none) (kpU HK)) : w.heap.size ≤ gb128)); have GE128 := aU ((Nat.le_trans HW0.out (by rw [hg]; exact (keep_size (w := w) (g := g) (row := none) (kpU HK)) : w.heap.size ≤ gb128) : w0.heap.size ≤ gb128)); replace HK := aU (KeepBut.trans (kpU HK) (KeepBut.of_below hb g none) (.inl rfl)); have NB0_128 := aU ((by rw [hg]; exact Nat.ne_of_lt (IsS78.lt (show IsS78 w0 _ g s0_0 s0_1 s0_2 from isU HI0)) : g ≠ gb128)); have NB128_0 := aU ((by rw [hg]; exact Nat.ne_of_gt (IsS78.lt (show IsS78 w0 _ g s0_0 s0_1 s0_2 from isU HI0)) : gb128 ≠ g)); replace HI0 := aU (IsS78.below (isU HI0) hb); clear hb hbox hg) | ((with_reducible refine gcU 91 rfl ?_); refine goU (some 4) Tryz.func91 #[.pointer (some ⟨g, 0, none⟩), .int .i64 14] ?_; (with_reducible refine (spec_l1Cur_one.calls g s0_0 s0_1 s0_2 14 false t130 t131 w0 _ ?side1 ?side2 A2.out).mono ?_); (case side1 => exact isU HI0); (case side2 => exact hbU); rintro e w20 ⟨rfl, hi, hb, hk⟩; refine ⟨_, rfl, ?_⟩; replace BK128 := aU (KeepBut.blk hk (g' := gb128) (o := .cells #[.int .i64 0, .int .i64 0] 52 (0, 0)) bkU NB128_0.out (by simp)); replace HK := aU (KeepBut.trans (kpU HK) hk (.inl rfl)); replace HB := aU (hb); replace HI0 := aU (hi); (try clear hi hb hk)) | ((with_reducible refine gcU 104 rfl ?_); refine goU (some 13) Tryz.func104 #[.pointer (some ⟨g, 0, none⟩)] ?_; (with_reducible refine (spec_l1Cur_sureDart.calls g s0_0 t130 t131 t144 t145 t146 t147 w0 _ ?side1 ?side2 A18.out).mono ?_); (case side1 => exact isU HI0); (case side2 => exact hbU); rintro e w21 ⟨rfl, hi, hb, hk⟩; refine ⟨_, rfl, ?_⟩; replace BK128 := aU (KeepBut.blk hk (g' := gb128) (o := .cells #[.int .i64 0, .int .i64 0] 52 (0, 0)) bkU NB128_0.out (by simp)); replace HK := aU (KeepBut.trans (kpU HK) hk (.inl rfl)); replace HB := aU (hb); replace HI0 := aU (hi); (try clear hi hb hk); have hnb22 := NB128_0.out; have hnc22 := NB0_128.out; obtain ⟨hcz23_0, hcz23_1, hfz23_0, hfz23_1⟩ := b2U BK128))
  refine bodyPost_ret (results_cell_row rfl _ _ gb128 52 #[.int .i64 t144, .int .i64 t145] (0, 0) _ rfl bkU Tryz.underlying52 rfl (by kernel_rfl)) rfl ?_
  exact ⟨errU, isU HI0, hbU, kpU HK⟩
def spec_l1Least.f (a0 : Int) (a1 : Int) : Option (Int) := if a0 < a1 then (some a0) else (some a1)
set_option maxHeartbeats 8000000 in
set_option maxRecDepth 100000 in
theorem spec_l1Least.calls (a0 : Int) (a1 : Int) (r : Int) (w : World) (h : spec_l1Least.f a0 a1 = some r) :
  Calls Tryz.prog 125 #[.int .i64 a0, .int .i64 a1] w fun e w' => e = .returned (.int .i64 r) ∧ Drawn0 w w' := by
 have H : (if a0 < a1 then (some a0) else (some a1)) = some r := h
 clear h
 by_cases c3 : a0 < a1
 ·rw [if_pos c3] at H
  have c3b0 : decide (a0 < a1) = true := decide_eq_true c3
  clear c3
  obtain rfl := Option.some.inj H
  go_enter Tryz.func125, Tryz.ntmps125
  go_wp2
  go_ret
  exact ⟨by first | rfl | (simp; done) | (simp [*]; done), by repeat (first | exact Drawn0.refl _ | apply Drawn0.step)⟩
 ·rw [if_neg c3] at H
  have c3b0 : decide (a0 < a1) = false := decide_eq_false c3
  clear c3
  obtain rfl := Option.some.inj H
  go_enter Tryz.func125, Tryz.ntmps125
  go_wp2
  go_ret
  exact ⟨by first | rfl | (simp; done) | (simp [*]; done), by repeat (first | exact Drawn0.refl _ | apply Drawn0.step)⟩
def spec_l1Cur_left.f (s0_0 : List Int) (s0_1 : Int) (s0_2 : Int) : Option (Int × Int × Int) := (spec_l1Cur_one.f s0_0 s0_1 s0_2 8).bind fun bt148 => (if bt148.1 = true then ((spec_l1Cur_among.f s0_0 bt148.2.1 bt148.2.2 (([(-1), 0, 1, 2, 180, 501, 1001, 1002, 4611686018427387904] : List Int))).bind fun bt154 => (some (bt154.1, bt154.2.1, bt154.2.2))) else ((spec_l1Cur_pick.f s0_0 bt148.2.1 bt148.2.2 190).bind fun bt157 => (some (bt157.1, bt157.2.1, bt157.2.2))))
set_option maxHeartbeats 8000000 in
set_option maxRecDepth 100000 in
theorem spec_l1Cur_left.calls (g : Nat) (s0_0 : List Int) (s0_1 : Int) (s0_2 : Int) (r1 : Int) (r2 : Int) (r3 : Int) (w0 w : World) (hI : IsS78 w0 w g s0_0 s0_1 s0_2) (hB : Below w0.heap.size w0 w) (h : spec_l1Cur_left.f s0_0 s0_1 s0_2 = some (r1, r2, r3)) :
  Calls Tryz.prog 138 #[.pointer (some ⟨g, 0, none⟩)] w fun e w' => e = .returned (.int .i64 r1) ∧ IsS78 w0 w' g s0_0 r2 r3 ∧ Below w0.heap.size w0 w' ∧ KeepBut w w' g none := by
 have HI0 := aU hI
 have HK := aU (KeepBut.refl w g none)
 have HL := aU hB.size
 clear hI
 have HW0 := aU hB.size
 have HB := aU hB
 clear hB
 have H : ((spec_l1Cur_one.f s0_0 s0_1 s0_2 8).bind fun bt148 => (if bt148.1 = true then ((spec_l1Cur_among.f s0_0 bt148.2.1 bt148.2.2 (([(-1), 0, 1, 2, 180, 501, 1001, 1002, 4611686018427387904] : List Int))).bind fun bt154 => (some (bt154.1, bt154.2.1, bt154.2.2))) else ((spec_l1Cur_pick.f s0_0 bt148.2.1 bt148.2.2 190).bind fun bt157 => (some (bt157.1, bt157.2.1, bt157.2.2))))) = some (r1, r2, r3) := h
 clear h
 replace H := bindS H
 obtain ⟨⟨t148, t149, t150⟩, A2, H⟩ := H
 (try dsimp only at H)
 by_cases c3 : t148 = true
 ·subst c3
  rw [if_pos rfl] at H
  obtain ⟨y151, hy151⟩ : ∃ y_ : List Int, y_ = (([(-1), 0, 1, 2, 180, 501, 1001, 1002, 4611686018427387904] : List Int)) := ⟨_, rfl⟩
  replace H : ((spec_l1Cur_among.f s0_0 t149 t150 y151).bind fun bt154 => (some (bt154.1, bt154.2.1, bt154.2.2))) = some (r1, r2, r3) := by first | (rw [hy151]; with_reducible exact H) | (have H2_ := (Option.bind_some _ _).symm.trans H; rw [hy151]; with_reducible exact H2_) | (have H2_ := (Option.bind_some _ _).symm.trans H; with_reducible exact H2_) | with_reducible exact H | (rw [hy151]; exact H) | exact H
  have Ny151 := aU hy151
  clear hy151
  replace H := bindS H
  obtain ⟨⟨t154, t155, t156⟩, A4, H⟩ := H
  (try dsimp only at H)
  simp only [Option.some.injEq, Prod.mk.injEq] at H
  obtain ⟨rfl, rfl, rfl⟩ := H
  go_enter Tryz.func138, Tryz.ntmps138
  go_wp2_with (first | ((with_reducible refine gcU 91 rfl ?_); refine goU (some 4) Tryz.func91 #[.pointer (some ⟨g, 0, none⟩), .int .i64 8] ?_; (with_reducible refine (spec_l1Cur_one.calls g s0_0 s0_1 s0_2 8 true t149 t150 w0 _ ?side1 ?side2 A2.out).mono ?_); (case side1 => exact isU HI0); (case side2 => exact hbU); rintro e w5 ⟨rfl, hi, hb, hk⟩; refine ⟨_, rfl, ?_⟩; replace HK := aU (KeepBut.trans (kpU HK) hk (.inl rfl)); replace HB := aU (hb); replace HI0 := aU (hi); (try clear hi hb hk)) | ((with_reducible refine gdU 6 rfl ?_); refine Kd.R_lit (Kd.int .i64) _ 3 ?hg (N := 6) ?hd (xs := ([(-1), 0, 1, 2, 180, 501, 1001, 1002, 4611686018427387904] : List Int)) (inner := [.int .i64 (-1), .int .i64 0, .int .i64 1, .int .i64 2, .int .i64 180, .int .i64 501, .int .i64 1001, .int .i64 1002, .int .i64 4611686018427387904]) (ok := fun _ => True) (okp := fun _ => True) ?hr ?hp (fun _ hk => hk) trivial (Below.refl _ _) (Nat.le_refl _) (by simp) ?_; (case hd => rfl); (case hg => rfl); (case hr => first | (go_simp; done) | (go_simp; rfl)); (case hp => exact (Reps.one (show Kd.M (Kd.int .i64) _ _ _ (-1) [.int .i64 (-1)] from rfl) (Reps.one (show Kd.M (Kd.int .i64) _ _ _ 0 [.int .i64 0] from rfl) (Reps.one (show Kd.M (Kd.int .i64) _ _ _ 1 [.int .i64 1] from rfl) (Reps.one (show Kd.M (Kd.int .i64) _ _ _ 2 [.int .i64 2] from rfl) (Reps.one (show Kd.M (Kd.int .i64) _ _ _ 180 [.int .i64 180] from rfl) (Reps.one (show Kd.M (Kd.int .i64) _ _ _ 501 [.int .i64 501] from rfl) (Reps.one (show Kd.M (Kd.int .i64) _ _ _ 1001 [.int .i64 1001] from rfl) (Reps.one (show Kd.M (Kd.int .i64) _ _ _ 1002 [.int .i64 1002] from rfl) (Reps.one (show Kd.M (Kd.int .i64) _ _ _ 4611686018427387904 [.int .i64 4611686018427387904] from rfl) (Reps.none _ _))))))))))); intro v152 w6 ho7 hb hg_ hnew_; clear hg_ hnew_; (first | rw [← Ny151.out] at ho7 | (simp only [Int.reduceToNat] at ho7; rw [← Ny151.out] at ho7)); have HO153 := aU (Kd.R_lower ho7 (keep_size (w := w) (g := g) (row := none) (kpU HK))); replace HI0 := aU (IsS78.below (isU HI0) hb); replace HK := aU (KeepBut.trans (kpU HK) (KeepBut.of_below hb g none) (.inl rfl)); replace HB := bsU hb; clear hb ho7; obtain ⟨Ao8, co8, eo8⟩ := Kd.R_slice HO153.out; subst eo8) | ((with_reducible refine gcU 95 rfl ?_); refine goU (some 7) Tryz.func95 #[.pointer (some ⟨g, 0, none⟩), .slice Ao8 y151.length co8] ?_; (with_reducible refine (spec_l1Cur_among.calls g s0_0 t149 t150 _ _ y151 t154 t155 t156 w0 _ ?side1 ?side2 ?side3 ?side4 ?side5 A4.out).mono ?_); (case side1 => exact isU HI0); (case side2 => exact hbU); (case side3 => exact rcU HO153); (case side4 => exact (Kd.R_reads' HO153.out).2.1); (case side5 => exact far_slice (IsS78.own_ne HI0.out HO153.out (by decide))); rintro e w9 ⟨rfl, hi, hb, hk⟩; refine ⟨_, rfl, ?_⟩; replace HO153 := aU (Kd.R_mono (Kd.R_keep (IsS78.apart (show IsS78 w0 _ g s0_0 t149 t150 from isU HI0) (roU HO153) (by decide)) hk (fun _ h => h.2)) (fun _ h => h.1)); replace HK := aU (KeepBut.trans (kpU HK) hk (.inl rfl)); replace HB := aU (hb); replace HI0 := aU (hi); (try clear hi hb hk)))
  go_ret
  exact ⟨errU, isU HI0, hbU, kpU HK⟩
 ·replace c3 := Bool.eq_false_iff.mpr c3
  subst c3
  rw [if_neg (show ¬ (false = true) by decide)] at H
  replace H := bindS H
  obtain ⟨⟨t157, t158, t159⟩, A10, H⟩ := H
  (try dsimp only at H)
  simp only [Option.some.injEq, Prod.mk.injEq] at H
  obtain ⟨rfl, rfl, rfl⟩ := H
  go_enter Tryz.func138, Tryz.ntmps138
  go_wp2_with (first | ((with_reducible refine gcU 91 rfl ?_); refine goU (some 4) Tryz.func91 #[.pointer (some ⟨g, 0, none⟩), .int .i64 8] ?_; (with_reducible refine (spec_l1Cur_one.calls g s0_0 s0_1 s0_2 8 false t149 t150 w0 _ ?side1 ?side2 A2.out).mono ?_); (case side1 => exact isU HI0); (case side2 => exact hbU); rintro e w11 ⟨rfl, hi, hb, hk⟩; refine ⟨_, rfl, ?_⟩; replace HK := aU (KeepBut.trans (kpU HK) hk (.inl rfl)); replace HB := aU (hb); replace HI0 := aU (hi); (try clear hi hb hk)) | ((with_reducible refine gcU 92 rfl ?_); refine goU (some 9) Tryz.func92 #[.pointer (some ⟨g, 0, none⟩), .int .i64 190] ?_; (with_reducible refine (spec_l1Cur_pick.calls g s0_0 t149 t150 190 t157 t158 t159 w0 _ ?side1 ?side2 A10.out).mono ?_); (case side1 => exact isU HI0); (case side2 => exact hbU); rintro e w12 ⟨rfl, hi, hb, hk⟩; refine ⟨_, rfl, ?_⟩; replace HK := aU (KeepBut.trans (kpU HK) hk (.inl rfl)); replace HB := aU (hb); replace HI0 := aU (hi); (try clear hi hb hk)))
  go_ret
  exact ⟨errU, isU HI0, hbU, kpU HK⟩
def spec_daLeft.f (a0 : Int) : Option (Bool) := (spec_l1In.f a0 0 1001).bind fun t160 => (some t160)
set_option maxHeartbeats 8000000 in
set_option maxRecDepth 100000 in
theorem spec_daLeft.calls (a0 : Int) (r : Bool) (w : World) (h : spec_daLeft.f a0 = some r) :
  Calls Tryz.prog 106 #[.int .i64 a0] w fun e w' => e = .returned (.bool r) ∧ Drawn0 w w' := by
 have H : ((spec_l1In.f a0 0 1001).bind fun t160 => (some t160)) = some r := h
 clear h
 replace H := bindS H
 obtain ⟨t160, A2, H⟩ := H
 (try dsimp only at H)
 obtain rfl := Option.some.inj H
 go_enter Tryz.func106, Tryz.ntmps106
 go_wp2_with (first | ((with_reducible refine gcU 96 rfl ?_); refine goU (some 4) Tryz.func96 #[.int .i64 a0, .int .i64 0, .int .i64 1001] ?_; (with_reducible refine (spec_l1In.calls a0 0 1001 t160 _ A2.out).mono ?_); rintro e w' ⟨rfl, ⟨nd, rfl⟩⟩; refine ⟨_, rfl, ?_⟩))
 go_ret
 exact ⟨by first | rfl | (simp; done) | (simp [*]; done), by repeat (first | exact Drawn0.refl _ | apply Drawn0.step)⟩
def spec_daDarts.f (a0 : Int) : Option (Bool) := (spec_l1In.f a0 1 3).bind fun t161 => (some t161)
set_option maxHeartbeats 8000000 in
set_option maxRecDepth 100000 in
theorem spec_daDarts.calls (a0 : Int) (r : Bool) (w : World) (h : spec_daDarts.f a0 = some r) :
  Calls Tryz.prog 155 #[.int .i64 a0] w fun e w' => e = .returned (.bool r) ∧ Drawn0 w w' := by
 have H : ((spec_l1In.f a0 1 3).bind fun t161 => (some t161)) = some r := h
 clear h
 replace H := bindS H
 obtain ⟨t161, A2, H⟩ := H
 (try dsimp only at H)
 obtain rfl := Option.some.inj H
 go_enter Tryz.func155, Tryz.ntmps155
 go_wp2_with (first | ((with_reducible refine gcU 96 rfl ?_); refine goU (some 4) Tryz.func96 #[.int .i64 a0, .int .i64 1, .int .i64 3] ?_; (with_reducible refine (spec_l1In.calls a0 1 3 t161 _ A2.out).mono ?_); rintro e w' ⟨rfl, ⟨nd, rfl⟩⟩; refine ⟨_, rfl, ?_⟩))
 go_ret
 exact ⟨by first | rfl | (simp; done) | (simp [*]; done), by repeat (first | exact Drawn0.refl _ | apply Drawn0.step)⟩
def spec_daGood.f (a0_0 : Int) (a0_1 : Int) : Option (Bool) := if a0_0 = 25 then ((spec_l1In.f a0_1 1 2).bind fun t163 => (some t163)) else ((spec_l1In.f a0_0 1 20).bind fun t164 => (if t164 = true then ((spec_l1In.f a0_1 1 3).bind fun t165 => (some t165)) else (some false)))
set_option maxHeartbeats 8000000 in
set_option maxRecDepth 100000 in
theorem spec_daGood.calls (a0_0 : Int) (a0_1 : Int) (r : Bool) (w : World) (h : spec_daGood.f a0_0 a0_1 = some r) :
  Calls Tryz.prog 117 #[.agg #[.int .i64 a0_0, .int .i64 a0_1]] w fun e w' => e = .returned (.bool r) ∧ Below w.heap.size w w' := by
 have hu52 := Tryz.underlying52
 have HB := aU (Below.refl w.heap.size w)
 have H : (if a0_0 = 25 then ((spec_l1In.f a0_1 1 2).bind fun t163 => (some t163)) else ((spec_l1In.f a0_0 1 20).bind fun t164 => (if t164 = true then ((spec_l1In.f a0_1 1 3).bind fun t165 => (some t165)) else (some false)))) = some r := h
 clear h
 by_cases c2 : a0_0 = 25
 ·rw [if_pos c2] at H
  have c2b0 : (a0_0 == 25) = true := beq_iff_eq.mpr c2
  have c2b1 : (a0_0 != 25) = false := bne_eq_false_iff_eq.mpr c2
  clear c2
  replace H := bindS H
  obtain ⟨t163, A3, H⟩ := H
  (try dsimp only at H)
  obtain rfl := Option.some.inj H
  go_enter Tryz.func117, Tryz.ntmps117
  go_wp2_with (first | ((with_reducible refine gdU 1 rfl ?_); refine bxU (cs := #[.int .i64 a0_0, .int .i64 a0_1]) (t := 52) ?_; intro gb162 hg w4 hbox hb; have BK162 := aU (hbox); have GW162 := geU hg; have GE162 := geU hg; replace HB := bsU hb; clear hb hbox hg; obtain ⟨hcz5_0, hcz5_1, hfz5_0, hfz5_1⟩ := b2U BK162) | ((with_reducible refine gcU 96 rfl ?_); refine goU (some 8) Tryz.func96 #[.int .i64 a0_1, .int .i64 1, .int .i64 2] ?_; (with_reducible refine (spec_l1In.calls a0_1 1 2 t163 _ A3.out).mono ?_); rintro e w' ⟨rfl, ⟨nd, rfl⟩⟩; refine ⟨_, rfl, ?_⟩))
  go_ret
  exact ⟨errU, hbU⟩
 ·rw [if_neg c2] at H
  have c2b0 : (a0_0 == 25) = false := beq_eq_false_iff_ne.mpr c2
  have c2b1 : (a0_0 != 25) = true := bne_iff_ne.mpr c2
  replace H := bindS H
  obtain ⟨t164, A6, H⟩ := H
  (try dsimp only at H)
  by_cases c7 : t164 = true
  ·subst c7
   rw [if_pos rfl] at H
   replace H := bindS H
   obtain ⟨t165, A8, H⟩ := H
   (try dsimp only at H)
   obtain rfl := Option.some.inj H
   go_enter Tryz.func117, Tryz.ntmps117
   go_wp2_with (first | ((with_reducible refine gdU 1 rfl ?_); refine bxU (cs := #[.int .i64 a0_0, .int .i64 a0_1]) (t := 52) ?_; intro gb162 hg w9 hbox hb; have BK162 := aU (hbox); have GW162 := geU hg; have GE162 := geU hg; replace HB := bsU hb; clear hb hbox hg; obtain ⟨hcz10_0, hcz10_1, hfz10_0, hfz10_1⟩ := b2U BK162) | ((with_reducible refine gcU 96 rfl ?_); refine goU (some 11) Tryz.func96 #[.int .i64 a0_0, .int .i64 1, .int .i64 20] ?_; (with_reducible refine (spec_l1In.calls a0_0 1 20 true _ A6.out).mono ?_); rintro e w' ⟨rfl, ⟨nd, rfl⟩⟩; refine ⟨_, rfl, ?_⟩) | (go_at_call 96; (with_reducible refine (spec_l1In.calls a0_1 1 3 t165 _ A8.out).mono ?_); rintro e w' ⟨rfl, ⟨nd, rfl⟩⟩))
   go_ret
   exact ⟨errU, hbU⟩
  ·replace c7 := Bool.eq_false_iff.mpr c7
   subst c7
   rw [if_neg (show ¬ (false = true) by decide)] at H
   obtain rfl := Option.some.inj H
   go_enter Tryz.func117, Tryz.ntmps117
   go_wp2_with (first | ((with_reducible refine gdU 1 rfl ?_); refine bxU (cs := #[.int .i64 a0_0, .int .i64 a0_1]) (t := 52) ?_; intro gb162 hg w11 hbox hb; have BK162 := aU (hbox); have GW162 := geU hg; have GE162 := geU hg; replace HB := bsU hb; clear hb hbox hg; obtain ⟨hcz12_0, hcz12_1, hfz12_0, hfz12_1⟩ := b2U BK162) | ((with_reducible refine gcU 96 rfl ?_); refine goU (some 11) Tryz.func96 #[.int .i64 a0_0, .int .i64 1, .int .i64 20] ?_; (with_reducible refine (spec_l1In.calls a0_0 1 20 false _ A6.out).mono ?_); rintro e w' ⟨rfl, ⟨nd, rfl⟩⟩; refine ⟨_, rfl, ?_⟩))
   go_ret
   exact ⟨errU, hbU⟩
mutual
def spec_daAll.l0 : Nat → List (S52) → Int → Option ((List (S52)))
 | 0, _, _ => none
 | k + 1, x1, x2 => if x2 > 0 then (spec_daAll.l1 k x1 x2 3) else (some x1)
def spec_daAll.l1 : Nat → List (S52) → Int → Int → Option ((List (S52)))
 | 0, _, _, _ => none
 | k + 1, x1, x2, x3 => if x3 > 0 then (if x3 = 0 then (none) else (if (Int.tmod x2 x3) = 0 then ((spec_daGood.f (wrap64 (Int.tdiv x2 x3)) x3).bind fun t167 => (if t167 = true then (if x1.length < 8796093022208 then (spec_daAll.l1 k (x1 ++ [(⟨wrap64 (Int.tdiv x2 x3), x3⟩ : S52)]) x2 (wrap64 (x3 - 1))) else (none)) else (spec_daAll.l1 k x1 x2 (wrap64 (x3 - 1))))) else (spec_daAll.l1 k x1 x2 (wrap64 (x3 - 1))))) else (spec_daAll.l0 k x1 (wrap64 (x2 - 1)))
end
def spec_daAll.f (k : Nat)  : Option ((List (S52))) := spec_daAll.l0 k ([] : List (S52)) 60
theorem spec_daAll.mono_l : ∀ k, (∀ y0 y1, LeO (spec_daAll.l0 k y0 y1) (spec_daAll.l0 (k + 1) y0 y1)) ∧ (∀ y0 y1 y2, LeO (spec_daAll.l1 k y0 y1 y2) (spec_daAll.l1 (k + 1) y0 y1 y2))
 | 0 => ⟨fun _ _ r h => by simp [spec_daAll.l0] at h, fun _ _ _ r h => by simp [spec_daAll.l1] at h⟩
 | k + 1 => by
  obtain ⟨ih0, ih1⟩ := spec_daAll.mono_l k
  refine ⟨?_, ?_⟩
  all_goals intros
  all_goals first | unfold spec_daAll.l0 | unfold spec_daAll.l1
  all_goals repeat' first
  | (with_reducible exact ih0 _ _)
  | (with_reducible exact ih1 _ _ _)
  | (with_reducible exact LeO.refl _)
  | (with_reducible exact LeO.none _)
  | (with_reducible refine LeO.ite ?_ ?_)
  | (with_reducible refine LeO.bind ?_ (fun _ => ?_))
theorem spec_daAll.mono : ∀ k, LeO (spec_daAll.f k ) (spec_daAll.f (k + 1) ) := by
 intro  k
 obtain ⟨ih0, ih1⟩ := spec_daAll.mono_l k
 unfold spec_daAll.f
 repeat' first
   | (with_reducible exact ih0 _ _)
   | (with_reducible exact ih1 _ _ _)
   | (with_reducible exact LeO.refl _)
   | (with_reducible exact LeO.none _)
   | (with_reducible refine LeO.ite ?_ ?_)
   | (with_reducible refine LeO.bind ?_ (fun _ => ?_))
set_option maxHeartbeats 8000000 in
set_option maxRecDepth 100000 in
theorem spec_daAll.calls (k : Nat)  (r : List (S52)) (w : World) (h : spec_daAll.f k  = some r) :
  Calls Tryz.prog 176 #[] w fun e w' => ∃ v0_ : Value, e = .returned (v0_) ∧ Kd.R k52 52 w' w.heap.size (fun _ => True) v0_ r ∧ Below w.heap.size w w' := by
 have hu52 := Tryz.underlying52
 have HB := aU (Below.refl w.heap.size w)
 have H : (spec_daAll.l0 k ([] : List (S52)) 60) = some r := h
 clear h
 have H' := aU H
 clear H
 go_enter Tryz.func176, Tryz.ntmps176
 go_wp2
 go_loopg [1, 2] k (fun kq v1 v2 w' => ∃ (x1_1 : List (S52)) (x2_1 : Int), v2 = .int .i64 x2_1 ∧ Aside0 (spec_daAll.l0 kq x1_1 x2_1 = some r) ∧ Aside0 (kq ≤ k) ∧ Aside0 (Kd.R k52 52 w' w.heap.size (fun _ => True) v1 x1_1) ∧ Aside0 (Below w.heap.size w w'))
 case atStart => exact ⟨(([] : List (S52))), (60), eqU, H', ⟨Nat.le_refl _⟩, ⟨by first | exact Kd.R_nil _ _ _ _ _ | exact Kd.N_nil _ _ _ _ _ | exact Kd.V_nil _ _ _ _ _ | exact Kd.Q_nil _ _ _ _ _ | exact Kd.S_nil _ _ _ _ _⟩, ⟨hbU⟩⟩
 case round =>
  clear H'
  obtain ⟨x1_1, x2_1, rfl, HA, HK1, HO_1, HB⟩ := hrel
  cases gk with
  | zero => exact absurd HA.out (by simp [spec_daAll.l0])
  | succ k1 =>
   have H := HA.out
   clear HA
   simp only [spec_daAll.l0] at H
   by_cases c1 : x2_1 > 0
   ·rw [if_pos c1] at H
    have c1b0 : decide (0 < x2_1) = true := decide_eq_true c1
    clear c1
    have H' := aU H
    clear H
    go_wp2
    go_loopg [1, 3] k1 (fun kq v1 v3 w' => ∃ (x1_2 : List (S52)) (x3_2 : Int), v3 = .int .i64 x3_2 ∧ Aside0 (spec_daAll.l1 kq x1_2 x2_1 x3_2 = some r) ∧ Aside0 (kq ≤ k1) ∧ Aside0 (Kd.R k52 52 w' w.heap.size (fun _ => True) v1 x1_2) ∧ Aside0 (Below w.heap.size w w'))
    case atStart => exact ⟨(x1_1), (3), eqU, H', ⟨Nat.le_refl _⟩, ⟨roU HO_1⟩, ⟨hbU⟩⟩
    case round =>
     clear H'
     (try clear c1b0)
     obtain ⟨x1_2, x3_2, rfl, HA, HK2, HO_1, HB⟩ := hrel
     cases gk with
     | zero => exact absurd HA.out (by simp [spec_daAll.l1])
     | succ k2 =>
      have H := HA.out
      clear HA
      simp only [spec_daAll.l1] at H
      by_cases c2 : x3_2 > 0
      ·rw [if_pos c2] at H
       have c2b0 : decide (0 < x3_2) = true := decide_eq_true c2
       clear c2
       replace H := ifN H
       obtain ⟨c3, H⟩ := H
       have c3b0 : (x3_2 == 0) = false := beq_eq_false_iff_ne.mpr c3
       have c3b1 : (x3_2 != 0) = true := bne_iff_ne.mpr c3
       by_cases c4 : (Int.tmod x2_1 x3_2) = 0
       ·rw [if_pos c4] at H
        have c4b0 : ((Int.tmod x2_1 x3_2) == 0) = true := beq_iff_eq.mpr c4
        have c4b1 : ((Int.tmod x2_1 x3_2) != 0) = false := bne_eq_false_iff_eq.mpr c4
        clear c4
        replace H := bindS H
        obtain ⟨t167, A5, H⟩ := H
        (try dsimp only at H)
        by_cases c6 : t167 = true
        ·subst c6
         rw [if_pos rfl] at H
         replace H := ifS H
         obtain ⟨c7, H⟩ := H
         have LMc7 := aU c7
         clear c7
         obtain ⟨y168, hy168⟩ : ∃ y_ : List (S52), y_ = (x1_2 ++ [(⟨wrap64 (Int.tdiv x2_1 x3_2), x3_2⟩ : S52)]) := ⟨_, rfl⟩
         replace H : (spec_daAll.l1 k2 y168 x2_1 (wrap64 (x3_2 - 1))) = some r := by first | (rw [hy168]; with_reducible exact H) | (have H2_ := (Option.bind_some _ _).symm.trans H; rw [hy168]; with_reducible exact H2_) | (have H2_ := (Option.bind_some _ _).symm.trans H; with_reducible exact H2_) | with_reducible exact H | (rw [hy168]; exact H) | exact H
         have Ny168 := aU hy168
         clear hy168
         have H' := aU H
         clear H
         go_wp2_with (first | ((with_reducible refine gdU 4 rfl ?_); refine bxU (cs := #[.int .i64 0, .int .i64 0]) (t := 52) ?_; intro gb166 hg w8 hbox hb; replace HO_1 := aU (Kd.R_below (Kd.R_elderB (roU HO_1) gb166 (Nat.le_of_eq hg.symm)) hb); have BK166 := aU (hbox); have GW166 := geU hg; have GE166 := geU hg; replace HB := bsU hb; clear hb hbox hg; obtain ⟨hcz9_0, hcz9_1, hfz9_0, hfz9_1⟩ := b2U BK166) | (go_at_call 117; (with_reducible refine (spec_daGood.calls (wrap64 (Int.tdiv x2_1 x3_2)) x3_2 true _ A5.out).mono ?_); rintro e w10 ⟨rfl, hb⟩; replace HO_1 := aU (Kd.R_below (by (with_reducible repeat (first | apply Kd.R_alloc | apply Kd.R_drewN | apply Kd.R_drew)); exact (Kd.R_mono (Kd.R_far (p := ⟨gb166, 1, none⟩) (Kd.R_far (p := ⟨gb166, 0, none⟩) (Kd.R_mono HO_1.out (fun k_ hk => (⟨hk, hk.2⟩ : _ ∧ k_ ≠ gb166))) (fun _ hk => hk.2) (.int .i64 (wrap64 (Int.tdiv x2_1 x3_2)))) (fun _ hk => hk.2) (.int .i64 x3_2)) (fun _ h_ => h_.1))) hb); replace BK166 := aU (blk_below (g := gb166) (o := .cells #[.int .i64 (wrap64 (Int.tdiv x2_1 x3_2)), .int .i64 x3_2] 52 (0, 0)) bkU hb); replace HB := bsU hb; (try clear hb); obtain ⟨hcz11_0, hcz11_1, hfz11_0, hfz11_1⟩ := b2U BK166) | ((with_reducible refine gate_builtin (b := .append) (xs := #[.tmp 26, .tmp 28]) rfl ?_); at_builtin; refine Kd.R_append k52 (w0 := w) w.heap.size rfl (.tmp 26) (.tmp 28) 45 52 (.agg #[(.int .i64 0), (.int .i64 0)]) 16 rfl Tryz.underlying45 info52 rfl (by decide) (by omega) u1 x1_2 (⟨wrap64 (Int.tdiv x2_1 x3_2), x3_2⟩ : S52) [.int .i64 (wrap64 (Int.tdiv x2_1 x3_2)), .int .i64 x3_2] (fun k_ => k_ ≠ gb166) (fun _ => False) rfl rfl ?aP (fun _ hk => hk.elim) ?aF ?aO ?aB ?aS ?aL ?_; (case aP => exact k52_mkM _ _ _ (⟨wrap64 (Int.tdiv x2_1 x3_2), x3_2⟩ : S52)); (case aB => exact hbU); (case aF => exact (fun k_ hk => Kd.freshB (g := gb166) (o := .cells #[.int .i64 (wrap64 (Int.tdiv x2_1 x3_2)), .int .i64 x3_2] 52 (0, 0)) bkU k_ hk)); (case aO => exact (by (with_reducible repeat (first | apply Kd.R_alloc | apply Kd.R_drewN | apply Kd.R_drew)); exact Kd.R_mono HO_1.out (fun _ hk => hk.2))); (case aS => exact (below_size hbU)); (case aL => have := LMc7.out; omega); intro v169 w12 ho hb hg hat; rw [← Ny168.out] at ho; replace BK166 := aU (blk_grown (g := gb166) (o := .cells #[.int .i64 (wrap64 (Int.tdiv x2_1 x3_2)), .int .i64 x3_2] 52 (0, 0)) bkU hg (Kd.R_away HO_1.out (fun _ hk => hk.2))); replace HB := aU (hb); have HO170 := aU (ho); clear HO_1; clear ho hb hg hat))
         go_roundg k2
         case measure => have := HK1.out; have := HK2.out; omega
         case rel => exact ⟨(y168), (wrap64 (x3_2 - 1)), eqU, H', ⟨by have := HK1.out; have := HK2.out; omega⟩, ⟨by (with_reducible repeat (first | apply Kd.R_alloc | apply Kd.R_drewN | apply Kd.R_drew)); exact Kd.R_mono HO170.out (fun _ hk => trivial)⟩, ⟨hbU⟩⟩
        ·replace c6 := Bool.eq_false_iff.mpr c6
         subst c6
         rw [if_neg (show ¬ (false = true) by decide)] at H
         have H' := aU H
         clear H
         go_wp2_with (first | ((with_reducible refine gdU 4 rfl ?_); refine bxU (cs := #[.int .i64 0, .int .i64 0]) (t := 52) ?_; intro gb166 hg w13 hbox hb; replace HO_1 := aU (Kd.R_below (Kd.R_elderB (roU HO_1) gb166 (Nat.le_of_eq hg.symm)) hb); have BK166 := aU (hbox); have GW166 := geU hg; have GE166 := geU hg; replace HB := bsU hb; clear hb hbox hg; obtain ⟨hcz14_0, hcz14_1, hfz14_0, hfz14_1⟩ := b2U BK166) | (go_at_call 117; (with_reducible refine (spec_daGood.calls (wrap64 (Int.tdiv x2_1 x3_2)) x3_2 false _ A5.out).mono ?_); rintro e w15 ⟨rfl, hb⟩; replace HO_1 := aU (Kd.R_below (by (with_reducible repeat (first | apply Kd.R_alloc | apply Kd.R_drewN | apply Kd.R_drew)); exact (Kd.R_mono (Kd.R_far (p := ⟨gb166, 1, none⟩) (Kd.R_far (p := ⟨gb166, 0, none⟩) (Kd.R_mono HO_1.out (fun k_ hk => (⟨hk, hk.2⟩ : _ ∧ k_ ≠ gb166))) (fun _ hk => hk.2) (.int .i64 (wrap64 (Int.tdiv x2_1 x3_2)))) (fun _ hk => hk.2) (.int .i64 x3_2)) (fun _ h_ => h_.1))) hb); replace BK166 := aU (blk_below (g := gb166) (o := .cells #[.int .i64 (wrap64 (Int.tdiv x2_1 x3_2)), .int .i64 x3_2] 52 (0, 0)) bkU hb); replace HB := bsU hb; (try clear hb)))
         go_roundg k2
         case measure => have := HK1.out; have := HK2.out; omega
         case rel => exact ⟨(x1_2), (wrap64 (x3_2 - 1)), eqU, H', ⟨by have := HK1.out; have := HK2.out; omega⟩, ⟨by (with_reducible repeat (first | apply Kd.R_alloc | apply Kd.R_drewN | apply Kd.R_drew)); exact Kd.R_mono HO_1.out (fun _ hk => trivial)⟩, ⟨hbU⟩⟩
       ·rw [if_neg c4] at H
        have c4b0 : ((Int.tmod x2_1 x3_2) == 0) = false := beq_eq_false_iff_ne.mpr c4
        have c4b1 : ((Int.tmod x2_1 x3_2) != 0) = true := bne_iff_ne.mpr c4
        have H' := aU H
        clear H
        go_wp2_with (first | ((with_reducible refine gdU 4 rfl ?_); refine bxU (cs := #[.int .i64 0, .int .i64 0]) (t := 52) ?_; intro gb166 hg w16 hbox hb; replace HO_1 := aU (Kd.R_below (Kd.R_elderB (roU HO_1) gb166 (Nat.le_of_eq hg.symm)) hb); have BK166 := aU (hbox); have GW166 := geU hg; have GE166 := geU hg; replace HB := bsU hb; clear hb hbox hg; obtain ⟨hcz17_0, hcz17_1, hfz17_0, hfz17_1⟩ := b2U BK166))
        go_roundg k2
        case measure => have := HK1.out; have := HK2.out; omega
        case rel => exact ⟨(x1_2), (wrap64 (x3_2 - 1)), eqU, H', ⟨by have := HK1.out; have := HK2.out; omega⟩, ⟨by (with_reducible repeat (first | apply Kd.R_alloc | apply Kd.R_drewN | apply Kd.R_drew)); exact Kd.R_mono (Kd.R_far (p := ⟨gb166, 1, none⟩) (Kd.R_far (p := ⟨gb166, 0, none⟩) (Kd.R_mono HO_1.out (fun k_ hk => (⟨hk, hk.2⟩ : _ ∧ k_ ≠ gb166))) (fun _ hk => hk.2) (.int .i64 (wrap64 (Int.tdiv x2_1 x3_2)))) (fun _ hk => hk.2) (.int .i64 x3_2)) (fun _ hk => trivial)⟩, ⟨hbU⟩⟩
      ·rw [if_neg c2] at H
       have c2b0 : decide (0 < x3_2) = false := decide_eq_false c2
       clear c2
       have H' := aU H
       clear H
       go_wp2
       go_roundg k2
       case measure => have := HK1.out; have := HK2.out; omega
       case rel => exact ⟨(x1_2), (wrap64 (x2_1 - 1)), eqU, H', ⟨by have := HK1.out; have := HK2.out; omega⟩, ⟨roU HO_1⟩, ⟨hbU⟩⟩
   ·rw [if_neg c1] at H
    have c1b0 : decide (0 < x2_1) = false := decide_eq_false c1
    clear c1
    obtain rfl := Option.some.inj H
    go_wp2
    go_ret
    exact ⟨_, errU, by (with_reducible repeat (first | apply Kd.R_alloc | apply Kd.R_drewN | apply Kd.R_drew)); exact HO_1.out, hbU⟩
end Go.Proofs.YtcmlmjgoidpabaaGreatDoor.MFnDartsPlayed

