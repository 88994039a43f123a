/- Walks of the functions that the law reaches: each comes to just what the function that is told of it tells, for all arguments. -/
import Derived.Test.YtcmlmjgoidpabaaDoorZMFnFramesCountedx0
import Derived.Test.YtcmlmjgoidpabaaDoorZMFnFramesCountedx2
namespace Go.Proofs.YtcmlmjgoidpabaaDoor.MFnFramesCounted
open Go.RowKit Go.Proofs.YtcmlmjgoidpabaaDoorW.PrintWords Go.Proofs.YtcmlmjgoidpabaaDoorW.PrintLast Go.Proofs.YtcmlmjgoidpabaaDoorW.PrintMore
set_option linter.unusedVariables false
set_option linter.unusedSimpArgs false
def spec_frPot.l0 : Nat → Int → Bool → ByteArray → Int → Int → Bool → Int → Option (Int × Bool × Int × Bool)
 | 0, _, _, _, _, _, _, _ => none
 | k + 1, x1, x6, x7, x8, x212000, x212001, x212002 => if x8 < (x7.size : Int) then (if x6 = true then (spec_frPot.l0 k x1 true x7 (wrap64 (x8 + 1)) x212000 x212001 x212002) else (if 0 ≤ x8 then (spec_frPot.l0 k x1 ((bt x7 x8) == x1) x7 (wrap64 (x8 + 1)) x212000 x212001 x212002) else (none))) else (if x6 = true then (if x212001 = true then (some (x212000, false, x212002, true)) else (if x212000 > 0 then (some (wrap64 (x212000 - 1), true, x212002, true)) else (some (x212000, x212001, wrap64 (x212002 + 1), true)))) else (some (x212000, x212001, x212002, false)))
def spec_frPot.f (k : Nat) (a0_0 : Int) (a0_1 : Bool) (a0_2 : Int) (a1 : Int) : Option (Int × Bool × Int × Bool) := (spec_frNext.f k a0_0 a0_1 a0_2).bind fun t213 => (spec_frPot.l0 k a1 false t213 0 a0_0 a0_1 a0_2)
theorem spec_frPot.mono_l : ∀ k, (∀ y0 y1 y2 y3 y4 y5 y6, LeO (spec_frPot.l0 k y0 y1 y2 y3 y4 y5 y6) (spec_frPot.l0 (k + 1) y0 y1 y2 y3 y4 y5 y6))
 | 0 => fun _ _ _ _ _ _ _ r h => by simp [spec_frPot.l0] at h
 | k + 1 => by
  have ih0 := spec_frPot.mono_l k
  ·intro y0 y1 y2 y3 y4 y5 y6
   unfold spec_frPot.l0
   repeat' first
   | (with_reducible exact ih0 _ _ _ _ _ _ _)
   | (with_reducible exact spec_frNext.mono _ _ _ _)
   | (with_reducible exact LeO.refl _)
   | (with_reducible exact LeO.none _)
   | (with_reducible refine LeO.ite ?_ ?_)
   | (with_reducible refine LeO.bind ?_ (fun _ => ?_))
   | exact ih0 _ _ _ _ _ _ _
   | exact spec_frNext.mono _ _ _ _
   | exact LeO.none _
   | refine LeO.ite ?_ ?_
   | refine LeO.bind ?_ (fun _ => ?_)
theorem spec_frPot.mono : ∀ a0 a1 a2 a3 k, LeO (spec_frPot.f k a0 a1 a2 a3) (spec_frPot.f (k + 1) a0 a1 a2 a3) := by
 intro a0 a1 a2 a3 k
 have ih0 := spec_frPot.mono_l k
 unfold spec_frPot.f
 repeat' first
   | (with_reducible exact ih0 _ _ _ _ _ _ _)
   | (with_reducible exact spec_frNext.mono _ _ _ _)
   | (with_reducible exact LeO.refl _)
   | (with_reducible exact LeO.none _)
   | (with_reducible refine LeO.ite ?_ ?_)
   | (with_reducible refine LeO.bind ?_ (fun _ => ?_))
   | exact ih0 _ _ _ _ _ _ _
   | exact spec_frNext.mono _ _ _ _
   | exact LeO.none _
   | refine LeO.ite ?_ ?_
   | refine LeO.bind ?_ (fun _ => ?_)
set_option maxHeartbeats 8000000 in
set_option maxRecDepth 100000 in
theorem spec_frPot.calls (k : Nat) (a0_0 : Int) (a0_1 : Bool) (a0_2 : Int) (a1 : Int) (r1 : Int) (r2 : Bool) (r3 : Int) (r4 : Bool) (w : World) (h : spec_frPot.f k a0_0 a0_1 a0_2 a1 = some (r1, r2, r3, r4)) :
  Calls Tryd.prog 39 #[.agg #[.int .i64 a0_0, .bool a0_1, .int .i64 a0_2], .int .u8 a1] w fun e w' => e = .returned (.tuple #[.agg #[.int .i64 r1, .bool r2, .int .i64 r3], .bool r4]) ∧ Below w.heap.size w w' := by
 have hu25 := Tryd.underlying25
 have HB := Aside0.mk (Below.refl w.heap.size w)
 have H : ((spec_frNext.f k a0_0 a0_1 a0_2).bind fun t213 => (spec_frPot.l0 k a1 false t213 0 a0_0 a0_1 a0_2)) = some (r1, r2, r3, r4) := h
 clear h
 replace H := Option.bind_eq_some_iff.mp H
 obtain ⟨t213, A30, H⟩ := H
 (try dsimp only at H)
 have A3 := Aside0.mk A30
 clear A30
 have H' := Aside0.mk H
 clear H
 go_enter Tryd.func39, Tryd.ntmps39
 go_wp2_with (first | ((with_reducible refine gate_dst (N := 2) rfl ?_); refine bxU (cs := #[.int .i64 a0_0, .bool a0_1, .int .i64 a0_2]) (t := 25) ?_; intro gb211 hg w4 hbox hb; have n0_ := bsU hb; have n1_ := Aside0.mk (hbox); have n2_ := geU hg; have n3_ := geU hg; clear HB; have HB := n0_; have BK211 := n1_; have GW211 := n2_; have GE211 := n3_; clear n0_ n1_ n2_ n3_; clear hb hbox hg) | ((with_reducible refine gate_dst (N := 4) rfl ?_); refine bxU (cs := #[.int .i64 0, .bool false, .int .i64 0]) (t := 25) ?_; intro gb212 hg w5 hbox hb; have n0_ := bbU BK211 hb; have n1_ := bsU hb; have n2_ := Aside0.mk (hbox); have n3_ := geU hg; have n4_ := geU hg; have n5_ := neU BK211 hg; have n6_ := enU BK211 hg; clear BK211; clear HB; have BK211 := n0_; have HB := n1_; have BK212 := n2_; have GW212 := n3_; have GE212 := n4_; have NB211_212 := n5_; have NB212_211 := n6_; clear n0_ n1_ n2_ n3_ n4_ n5_ n6_; clear hb hbox hg; have hnb6 := NB211_212.out; have hnc6 := NB212_211.out; obtain ⟨hcz7_0, hcz7_1, hcz7_2, hfz7_0, hfz7_1, hfz7_2⟩ := b3U BK211) | ((with_reducible refine gate_callee (f := 38) rfl ?_); refine goU (some 10) Tryd.func38 #[.agg #[.int .i64 a0_0, .bool a0_1, .int .i64 a0_2]] ?_; (with_reducible refine (spec_frNext.calls k a0_0 a0_1 a0_2 t213 _ A3.out).mono ?_); rintro e w8 ⟨rfl, hb⟩; refine ⟨_, rfl, ?_⟩; have n0_ := bbU BK211 hb; have n1_ := bbU BK212 hb; have n2_ := bsU hb; clear BK211; clear BK212; clear HB; have BK211 := n0_; have BK212 := n1_; have HB := n2_; clear n0_ n1_ n2_; (try clear hb); (try clear hb2); (try clear hk); (try clear hi)))
 go_loopg [6, 8] k (fun kq v6 v8 w' => ∃ (x6_1 : Bool) (x8_1 : Int), v6 = .bool x6_1 ∧ v8 = .int .i64 x8_1 ∧ Aside0 (spec_frPot.l0 kq a1 x6_1 t213 x8_1 a0_0 a0_1 a0_2 = some (r1, r2, r3, r4)) ∧ Aside0 (kq ≤ k) ∧ Aside0 (w'.heap[gb211]? = some (.cells #[.int .i64 a0_0, .bool a0_1, .int .i64 a0_2] 25 (0, 0))) ∧ Aside0 (w'.heap[gb212]? = some (.cells #[.int .i64 0, .bool false, .int .i64 0] 25 (0, 0))) ∧ Aside0 (Below w.heap.size w w'))
 case atStart => exact ⟨(false), (0), eqU, eqU, H', ⟨Nat.le_refl _⟩, ⟨bkU⟩, ⟨bkU⟩, ⟨hbU⟩⟩
 case round =>
  clear H'
  (try clear c3); (try clear hcz7_0); (try clear hcz7_1); (try clear hcz7_2); (try clear hfz7_0); (try clear hfz7_1); (try clear hfz7_2)
  obtain ⟨x6_1, x8_1, rfl, rfl, HA, HK1, BK211, BK212, HB⟩ := hrel
  cases gk with
  | zero => exact absurd HA.out (by simp [spec_frPot.l0])
  | succ k1 =>
   have H := HA.out
   clear HA
   simp only [spec_frPot.l0] at H
   by_cases c9 : x8_1 < (t213.size : Int)
   ·rw [if_pos c9] at H
    have c9b0 : decide (x8_1 < (t213.size : Int)) = true := decide_eq_true c9
    clear c9
    by_cases c10 : x6_1 = true
    ·subst c10
     rw [if_pos rfl] at H
     have H' := Aside0.mk H
     clear H
     go_wp2
     go_roundg k1
     case measure => have := HK1.out; omega
     case rel => exact ⟨(true), (wrap64 (x8_1 + 1)), eqU, eqU, H', ⟨by have := HK1.out; omega⟩, ⟨bkU⟩, ⟨bkU⟩, ⟨hbU⟩⟩
    ·replace c10 := Bool.eq_false_iff.mpr c10
     subst c10
     rw [if_neg (show ¬ (false = true) by decide)] at H
     by_cases c11 : 0 ≤ x8_1
     ·rw [if_pos c11] at H
      have c11b0 : decide (0 ≤ x8_1) = true := decide_eq_true c11
      clear c11
      have H' := Aside0.mk H
      clear H
      have p12 : 0 ≤ (x8_1 : Int) := of_decide_eq_true (by first | (with_reducible assumption) | assumption)
      have q12 : x8_1 < (t213.size : Int) := of_decide_eq_true (by first | (with_reducible assumption) | assumption)
      have hx12 := bt_at t213 x8_1
      replace p12 := eq_true p12
      replace q12 := eq_true q12
      go_wp2
      go_roundg k1
      case measure => have := HK1.out; omega
      case rel => exact ⟨(((bt t213 x8_1) == a1)), (wrap64 (x8_1 + 1)), eqU, eqU, H', ⟨by have := HK1.out; omega⟩, ⟨bkU⟩, ⟨bkU⟩, ⟨hbU⟩⟩
     ·rw [if_neg c11] at H
      exact absurd H (by simp)
   ·rw [if_neg c9] at H
    have c9b0 : decide (x8_1 < (t213.size : Int)) = false := decide_eq_false c9
    clear c9
    by_cases c13 : x6_1 = true
    ·subst c13
     rw [if_pos rfl] at H
     by_cases c14 : a0_1 = true
     ·subst c14
      rw [if_pos rfl] at H
      simp only [Option.some.injEq, Prod.mk.injEq] at H
      obtain ⟨rfl, rfl, rfl, rfl⟩ := H
      have hnb15 := NB211_212.out
      have hnc15 := NB212_211.out
      obtain ⟨hcz16_0, hcz16_1, hcz16_2, hfz16_0, hfz16_1, hfz16_2⟩ := b3U BK211
      obtain ⟨hcz17_0, hcz17_1, hcz17_2, hfz17_0, hfz17_1, hfz17_2⟩ := b3U BK212
      go_wp2
      refine bodyPost_ret (results_ct rfl _ _ gb212 25 #[.int .i64 a0_0, .bool false, .int .i64 a0_2] (0, 0) _ rfl bkU Tryd.underlying25 rfl (by kernel_rfl)) rfl ?_
      exact ⟨by first | rfl | (simp [errW_none, errW_some] <;> rfl) | (simp [*, errW_none, errW_some] <;> rfl), hbU⟩
     ·replace c14 := Bool.eq_false_iff.mpr c14
      subst c14
      rw [if_neg (show ¬ (false = true) by decide)] at H
      by_cases c18 : a0_0 > 0
      ·rw [if_pos c18] at H
       have c18b0 : decide (0 < a0_0) = true := decide_eq_true c18
       clear c18
       simp only [Option.some.injEq, Prod.mk.injEq] at H
       obtain ⟨rfl, rfl, rfl, rfl⟩ := H
       have hnb19 := NB211_212.out
       have hnc19 := NB212_211.out
       obtain ⟨hcz20_0, hcz20_1, hcz20_2, hfz20_0, hfz20_1, hfz20_2⟩ := b3U BK211
       obtain ⟨hcz21_0, hcz21_1, hcz21_2, hfz21_0, hfz21_1, hfz21_2⟩ := b3U BK212
       go_wp2
       refine bodyPost_ret (results_ct rfl _ _ gb212 25 #[.int .i64 (wrap64 (a0_0 - 1)), .bool true, .int .i64 a0_2] (0, 0) _ rfl bkU Tryd.underlying25 rfl (by kernel_rfl)) rfl ?_
       exact ⟨by first | rfl | (simp [errW_none, errW_some] <;> rfl) | (simp [*, errW_none, errW_some] <;> rfl), hbU⟩
      ·rw [if_neg c18] at H
       have c18b0 : decide (0 < a0_0) = false := decide_eq_false c18
       clear c18
       simp only [Option.some.injEq, Prod.mk.injEq] at H
       obtain ⟨rfl, rfl, rfl, rfl⟩ := H
       have hnb22 := NB211_212.out
       have hnc22 := NB212_211.out
       obtain ⟨hcz23_0, hcz23_1, hcz23_2, hfz23_0, hfz23_1, hfz23_2⟩ := b3U BK211
       obtain ⟨hcz24_0, hcz24_1, hcz24_2, hfz24_0, hfz24_1, hfz24_2⟩ := b3U BK212
       go_wp2
       refine bodyPost_ret (results_ct rfl _ _ gb212 25 #[.int .i64 a0_0, .bool false, .int .i64 (wrap64 (a0_2 + 1))] (0, 0) _ rfl bkU Tryd.underlying25 rfl (by kernel_rfl)) rfl ?_
       exact ⟨by first | rfl | (simp [errW_none, errW_some] <;> rfl) | (simp [*, errW_none, errW_some] <;> rfl), hbU⟩
    ·replace c13 := Bool.eq_false_iff.mpr c13
     subst c13
     rw [if_neg (show ¬ (false = true) by decide)] at H
     simp only [Option.some.injEq, Prod.mk.injEq] at H
     obtain ⟨rfl, rfl, rfl, rfl⟩ := H
     have hnb25 := NB211_212.out
     have hnc25 := NB212_211.out
     obtain ⟨hcz26_0, hcz26_1, hcz26_2, hfz26_0, hfz26_1, hfz26_2⟩ := b3U BK211
     obtain ⟨hcz27_0, hcz27_1, hcz27_2, hfz27_0, hfz27_1, hfz27_2⟩ := b3U BK212
     go_wp2
     refine bodyPost_ret (results_ct rfl _ _ gb212 25 #[.int .i64 a0_0, .bool a0_1, .int .i64 a0_2] (0, 0) _ rfl bkU Tryd.underlying25 rfl (by kernel_rfl)) rfl ?_
     exact ⟨by first | rfl | (simp [errW_none, errW_some] <;> rfl) | (simp [*, errW_none, errW_some] <;> rfl), hbU⟩
def spec_l1Least.f (a0 : Int) (a1 : Int) : Option (Int) := if a0 < a1 then (some a0) else (some a1)
set_option maxHeartbeats 8000000 in
set_option maxRecDepth 100000 in
theorem spec_l1Least.calls (a0 : Int) (a1 : Int) (r : Int) (w : World) (h : spec_l1Least.f a0 a1 = some r) :
  Calls Tryd.prog 45 #[.int .i64 a0, .int .i64 a1] w fun e w' => e = .returned (.int .i64 r) ∧ Drawn0 w w' := by
 have H : (if a0 < a1 then (some a0) else (some a1)) = some r := h
 clear h
 by_cases c3 : a0 < a1
 ·rw [if_pos c3] at H
  have c3b0 : decide (a0 < a1) = true := decide_eq_true c3
  clear c3
  obtain rfl := Option.some.inj H
  go_enter Tryd.func45, Tryd.ntmps45
  go_wp2
  go_ret
  exact ⟨by first | rfl | (simp; done) | (simp [*]; done), by repeat (first | exact Drawn0.refl _ | apply Drawn0.step)⟩
 ·rw [if_neg c3] at H
  have c3b0 : decide (a0 < a1) = false := decide_eq_false c3
  clear c3
  obtain rfl := Option.some.inj H
  go_enter Tryd.func45, Tryd.ntmps45
  go_wp2
  go_ret
  exact ⟨by first | rfl | (simp; done) | (simp [*]; done), by repeat (first | exact Drawn0.refl _ | apply Drawn0.step)⟩
end Go.Proofs.YtcmlmjgoidpabaaDoor.MFnFramesCounted

