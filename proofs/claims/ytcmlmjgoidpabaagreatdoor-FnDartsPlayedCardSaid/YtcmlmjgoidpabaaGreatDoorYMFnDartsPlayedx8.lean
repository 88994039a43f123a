/- Walks of the functions that the law reaches: each comes to just what the function that is told of it tells, for all arguments. -/
import Derived.Test.YtcmlmjgoidpabaaGreatDoorYMFnDartsPlayedx7
namespace Go.Proofs.YtcmlmjgoidpabaaGreatDoor.MFnDartsPlayed
open Go.RowKit Go.Proofs.YtcmlmjgoidpabaaGreatDoorW.PrintWords Go.Proofs.YtcmlmjgoidpabaaGreatDoorW.PrintLast Go.Proofs.YtcmlmjgoidpabaaGreatDoorW.PrintMore
attribute [local go_sem] max2_int min2_int max_two min_two max_three min_three max_four min_four
set_option linter.unusedVariables false
set_option linter.unusedSimpArgs false
mutual
def spec_DrawPlayLeg.l0 : Nat → Int → Int → List (List (S52)) → Int → List Int → Int → Int → Option (Int × (List (List (S52))))
 | 0, _, _, _, _, _, _, _ => none
 | k + 1, x5, x6, x7, x8, x321000, x321001, x321002 => if x8 > 0 then (spec_DrawPlayLeg.j1 k x5 x6 x7 x8 (decide (x6 > 0)) x321000 x321001 x321002) else (spec_DrawPlayLeg.j1 k x5 x6 x7 x8 false x321000 x321001 x321002)
def spec_DrawPlayLeg.j1 : Nat → Int → Int → List (List (S52)) → Int → Bool → List Int → Int → Int → Option (Int × (List (List (S52))))
 | 0, _, _, _, _, _, _, _, _ => none
 | k + 1, x5, x6, x7, x8, x27, x321000, x321001, x321002 => if x27 = true then ((spec_l1Cur_sureDart.f x321000 x321001 x321002).bind fun bt330 => ((spec_l1Cur_sureDart.f x321000 bt330.2.2.1 bt330.2.2.2).bind fun bt334 => ((spec_l1Cur_sureDart.f x321000 bt334.2.2.1 bt334.2.2.2).bind fun bt338 => ((some (([(⟨bt330.1, bt330.2.1⟩ : S52), (⟨bt334.1, bt334.2.1⟩ : S52), (⟨bt338.1, bt338.2.1⟩ : S52)] : List (S52)) : List (S52))).bind fun y342 => ((spec_daVisit.f k x6 y342).bind fun bt345 => (if bt345.2.2 = true then (if x7.length < 5864062014805 then (spec_DrawPlayLeg.l0 k x5 bt345.1 (x7 ++ [y342]) (wrap64 (x8 - 1)) x321000 bt338.2.2.1 bt338.2.2.2) else (none)) else (if 1 ≤ (y342.length : Int) then ((some (y342.take (1 : Int).toNat : List (S52))).bind fun y351 => ((spec_daVisit.f k x6 y351).bind fun bt354 => (if x7.length < 5864062014805 then (spec_DrawPlayLeg.l0 k x5 bt354.1 (x7 ++ [y351]) (wrap64 (x8 - 1)) x321000 bt338.2.2.1 bt338.2.2.2) else (none)))) else (none)))))))) else ((spec_l1Cur_one.f x321000 x321001 x321002 10).bind fun bt360 => (if bt360.1 = true then ((spec_l1Cur_darts.f k x321000 bt360.2.1 bt360.2.2 3).bind fun bt363 => (if x7.length < 5864062014805 then (some (x5, (x7 ++ [bt363.1]))) else (none))) else (some (x5, x7))))
end
def spec_DrawPlayLeg.f (k : Nat) (l0 : List Int) : Option (Int × (List (List (S52)))) := (spec_l1Cur_among.f l0 0 0 (([501, 301, 170, 100, 60, 40, 0, 1001, 1002, (-1)] : List Int))).bind fun bt324 => ((spec_l1Cur_pick.f l0 bt324.2.1 bt324.2.2 6).bind fun bt327 => (spec_DrawPlayLeg.l0 k bt324.1 bt324.1 ([] : List (List (S52))) bt327.1 l0 bt327.2.1 bt327.2.2))
theorem spec_DrawPlayLeg.mono_l : ∀ k, (∀ y0 y1 y2 y3 y4 y5 y6, LeO (spec_DrawPlayLeg.l0 k y0 y1 y2 y3 y4 y5 y6) (spec_DrawPlayLeg.l0 (k + 1) y0 y1 y2 y3 y4 y5 y6)) ∧ (∀ y0 y1 y2 y3 y4 y5 y6 y7, LeO (spec_DrawPlayLeg.j1 k y0 y1 y2 y3 y4 y5 y6 y7) (spec_DrawPlayLeg.j1 (k + 1) y0 y1 y2 y3 y4 y5 y6 y7))
 | 0 => ⟨fun _ _ _ _ _ _ _ r h => by simp [spec_DrawPlayLeg.l0] at h, fun _ _ _ _ _ _ _ _ r h => by simp [spec_DrawPlayLeg.j1] at h⟩
 | k + 1 => by
  obtain ⟨ih0, ih1⟩ := spec_DrawPlayLeg.mono_l k
  refine ⟨?_, ?_⟩
  all_goals intros
  all_goals first | unfold spec_DrawPlayLeg.l0 | unfold spec_DrawPlayLeg.j1
  all_goals repeat' first
  | (with_reducible exact ih0 _ _ _ _ _ _ _)
  | (with_reducible exact ih1 _ _ _ _ _ _ _ _)
  | (with_reducible exact spec_daVisit.mono _ _ _)
  | (with_reducible exact spec_l1Cur_darts.mono _ _ _ _ _)
  | (with_reducible exact LeO.refl _)
  | (with_reducible exact LeO.none _)
  | (with_reducible refine LeO.ite ?_ ?_)
  | (with_reducible refine LeO.bind ?_ (fun _ => ?_))
theorem spec_DrawPlayLeg.mono : ∀ a0 k, LeO (spec_DrawPlayLeg.f k a0) (spec_DrawPlayLeg.f (k + 1) a0) := by
 intro a0 k
 obtain ⟨ih0, ih1⟩ := spec_DrawPlayLeg.mono_l k
 unfold spec_DrawPlayLeg.f
 repeat' first
   | (with_reducible exact ih0 _ _ _ _ _ _ _)
   | (with_reducible exact ih1 _ _ _ _ _ _ _ _)
   | (with_reducible exact spec_daVisit.mono _ _ _)
   | (with_reducible exact spec_l1Cur_darts.mono _ _ _ _ _)
   | (with_reducible exact LeO.refl _)
   | (with_reducible exact LeO.none _)
   | (with_reducible refine LeO.ite ?_ ?_)
   | (with_reducible refine LeO.bind ?_ (fun _ => ?_))
set_option maxHeartbeats 8000000 in
set_option maxRecDepth 100000 in
theorem spec_DrawPlayLeg.calls (k : Nat) (A0 : Option Addr) (c0 : Nat) (l0 : List Int) (r1 : Int) (r2 : List (List (S52))) (w : World) (hr0 : Kd.C (Kd.int .u8) w A0 l0.length l0) (hc0 : l0.length ≤ c0) (h : spec_DrawPlayLeg.f k l0 = some (r1, r2)) :
  Calls Tryz.prog 45 #[.slice A0 l0.length c0] w fun e w' => ∃ v1_ : Value, e = .returned (.tuple #[.int .i64 r1, v1_]) ∧ Kd.S (Kd.slice 52 k52) 45 w' w.heap.size (fun _ => True) v1_ r2 ∧ Below w.heap.size w w' := by
 have hu78 := Tryz.underlying78
 have HR0 := aU hr0
 have HC0 := aU hc0
 clear hr0 hc0
 have HB := aU (Below.refl w.heap.size w)
 have H : ((spec_l1Cur_among.f l0 0 0 (([501, 301, 170, 100, 60, 40, 0, 1001, 1002, (-1)] : List Int))).bind fun bt324 => ((spec_l1Cur_pick.f l0 bt324.2.1 bt324.2.2 6).bind fun bt327 => (spec_DrawPlayLeg.l0 k bt324.1 bt324.1 ([] : List (List (S52))) bt327.1 l0 bt327.2.1 bt327.2.2))) = some (r1, r2) := h
 clear h
 obtain ⟨y321, hy321⟩ : ∃ y_ : List Int, y_ = (([501, 301, 170, 100, 60, 40, 0, 1001, 1002, (-1)] : List Int)) := ⟨_, rfl⟩
 replace H : ((spec_l1Cur_among.f l0 0 0 y321).bind fun bt324 => ((spec_l1Cur_pick.f l0 bt324.2.1 bt324.2.2 6).bind fun bt327 => (spec_DrawPlayLeg.l0 k bt324.1 bt324.1 ([] : List (List (S52))) bt327.1 l0 bt327.2.1 bt327.2.2))) = some (r1, r2) := by first | (rw [hy321]; with_reducible exact H) | (have H2_ := (Option.bind_some _ _).symm.trans H; rw [hy321]; with_reducible exact H2_) | (have H2_ := (Option.bind_some _ _).symm.trans H; with_reducible exact H2_) | with_reducible exact H | (rw [hy321]; exact H) | exact H
 have Ny321 := aU hy321
 clear hy321
 replace H := bindS H
 obtain ⟨⟨t324, t325, t326⟩, A2, H⟩ := H
 (try dsimp only at H)
 replace H := bindS H
 obtain ⟨⟨t327, t328, t329⟩, A3, H⟩ := H
 (try dsimp only at H)
 have H' := aU H
 clear H
 go_enter Tryz.func45, Tryz.ntmps45
 go_wp2_with (first | ((with_reducible refine gdU 15 rfl ?_); refine bxU (cs := #[.slice A0 l0.length c0, .int .i64 0, .int .u64 0]) (t := 78) ?_; intro gb320 hg w4 hbox hb; have HI320 := aU ((⟨_, _, hbox, (by rw [hg]; exact (below_size hbU) : w.heap.size ≤ gb320), HR0.out⟩ : IsS78 w w4 gb320 l0 0 0)); have GW320 := geU hg; have GE320 := geU hg; replace HB := bsU hb; clear hb hbox hg) | ((with_reducible refine gdU 17 rfl ?_); refine Kd.R_lit (Kd.int .i64) _ 3 ?hg (N := 17) ?hd (xs := ([501, 301, 170, 100, 60, 40, 0, 1001, 1002, (-1)] : List Int)) (inner := [.int .i64 501, .int .i64 301, .int .i64 170, .int .i64 100, .int .i64 60, .int .i64 40, .int .i64 0, .int .i64 1001, .int .i64 1002, .int .i64 (-1)]) (ok := fun _ => True) (okp := fun _ => True) ?hr ?hp (fun _ hk => hk) trivial (Below.refl _ _) (Nat.le_refl _) (by simp) ?_; (case hd => rfl); (case hg => rfl); (case hr => first | (go_simp; done) | (go_simp; rfl)); (case hp => exact (Reps.one (show Kd.M (Kd.int .i64) _ _ _ 501 [.int .i64 501] from rfl) (Reps.one (show Kd.M (Kd.int .i64) _ _ _ 301 [.int .i64 301] from rfl) (Reps.one (show Kd.M (Kd.int .i64) _ _ _ 170 [.int .i64 170] from rfl) (Reps.one (show Kd.M (Kd.int .i64) _ _ _ 100 [.int .i64 100] from rfl) (Reps.one (show Kd.M (Kd.int .i64) _ _ _ 60 [.int .i64 60] from rfl) (Reps.one (show Kd.M (Kd.int .i64) _ _ _ 40 [.int .i64 40] from rfl) (Reps.one (show Kd.M (Kd.int .i64) _ _ _ 0 [.int .i64 0] from rfl) (Reps.one (show Kd.M (Kd.int .i64) _ _ _ 1001 [.int .i64 1001] from rfl) (Reps.one (show Kd.M (Kd.int .i64) _ _ _ 1002 [.int .i64 1002] from rfl) (Reps.one (show Kd.M (Kd.int .i64) _ _ _ (-1) [.int .i64 (-1)] from rfl) (Reps.none _ _)))))))))))); intro v322 w5 ho6 hb hg_ hnew_; clear hg_ hnew_; (first | rw [← Ny321.out] at ho6 | (simp only [Int.reduceToNat] at ho6; rw [← Ny321.out] at ho6)); have HO323 := aU (Kd.R_lower ho6 (below_size hbU)); replace HI320 := aU (IsS78.below (isU HI320) hb); replace HB := bsU hb; clear hb ho6; obtain ⟨Ao7, co7, eo7⟩ := Kd.R_slice HO323.out; subst eo7) | ((with_reducible refine gcU 95 rfl ?_); refine goU (some 18) Tryz.func95 #[.pointer (some ⟨gb320, 0, none⟩), .slice Ao7 y321.length co7] ?_; (with_reducible refine (spec_l1Cur_among.calls gb320 l0 0 0 _ _ y321 t324 t325 t326 w _ ?side1 ?side2 ?side3 ?side4 ?side5 A2.out).mono ?_); (case side1 => exact isU HI320); (case side2 => exact hbU); (case side3 => exact rcU HO323); (case side4 => exact (Kd.R_reads' HO323.out).2.1); (case side5 => exact far_slice (IsS78.own_ne HI320.out HO323.out (by decide))); rintro e w8 ⟨rfl, hi, hb, hk⟩; refine ⟨_, rfl, ?_⟩; replace HO323 := aU (Kd.R_mono (Kd.R_keep (IsS78.apart (show IsS78 w _ gb320 l0 0 0 from isU HI320) (roU HO323) (by decide)) hk (fun _ h => h.2)) (fun _ h => h.1)); replace HB := aU (hb); replace HI320 := aU (hi); (try clear hi hb hk)) | ((with_reducible refine gcU 92 rfl ?_); refine goU (some 21) Tryz.func92 #[.pointer (some ⟨gb320, 0, none⟩), .int .i64 6] ?_; (with_reducible refine (spec_l1Cur_pick.calls gb320 l0 t325 t326 6 t327 t328 t329 w _ ?side1 ?side2 A3.out).mono ?_); (case side1 => exact isU HI320); (case side2 => exact hbU); rintro e w9 ⟨rfl, hi, hb, hk⟩; refine ⟨_, rfl, ?_⟩; replace HO323 := aU (Kd.R_mono (Kd.R_keep (IsS78.apart (show IsS78 w _ gb320 l0 t325 t326 from isU HI320) (roU HO323) (by decide)) hk (fun _ h => h.2)) (fun _ h => h.1)); replace HB := aU (hb); replace HI320 := aU (hi); (try clear hi hb hk)))
 go_loopg [6, 7, 8] k (fun kq v6 v7 v8 w' => ∃ (x6_1 : Int) (x7_1 : List (List (S52))) (x8_1 : Int) (x321001_1 : Int) (x321002_1 : Int), v6 = .int .i64 x6_1 ∧ v8 = .int .i64 x8_1 ∧ Aside0 (spec_DrawPlayLeg.l0 kq t324 x6_1 x7_1 x8_1 l0 x321001_1 x321002_1 = some (r1, r2)) ∧ Aside0 (kq ≤ k) ∧ Aside0 (Kd.S (Kd.slice 52 k52) 45 w' w.heap.size (fun _ => True) v7 x7_1) ∧ Aside0 (IsS78 w w' gb320 l0 x321001_1 x321002_1) ∧ Aside0 (Below w.heap.size w w'))
 case atStart => exact ⟨(t324), (([] : List (List (S52)))), (t327), (t328), (t329), eqU, eqU, H', ⟨Nat.le_refl _⟩, ⟨by first | exact Kd.S_nil _ _ _ _ _ | exact Kd.N_nil _ _ _ _ _ | exact Kd.V_nil _ _ _ _ _ | exact Kd.Q_nil _ _ _ _ _ | exact Kd.R_nil _ _ _ _ _⟩, ⟨isU HI320⟩, ⟨hbU⟩⟩
 case round =>
  clear H'
  obtain ⟨x6_1, x7_1, x8_1, x321001_1, x321002_1, rfl, rfl, HA, HK1, HO_7, HI320, HB⟩ := hrel
  cases gk with
  | zero => exact absurd HA.out (by simp [spec_DrawPlayLeg.l0])
  | succ k1 =>
   have H := HA.out
   clear HA
   simp only [spec_DrawPlayLeg.l0] at H
   have HC10 := aU H
   clear H
   go_upto_region 6 with (fail)
   go_cut [27] (fun v27 wc => ∃ (kq : Nat) (x27_9 : Bool), v27 = .bool x27_9 ∧ Aside0 (spec_DrawPlayLeg.j1 kq t324 x6_1 x7_1 x8_1 x27_9 l0 x321001_1 x321002_1 = some (r1, r2)) ∧ Aside0 (kq ≤ k1) ∧ Aside0 (Kd.S (Kd.slice 52 k52) 45 wc w.heap.size (fun _ => True) u7 x7_1) ∧ Aside0 (IsS78 w wc gb320 l0 x321001_1 x321002_1) ∧ Aside0 (Below w.heap.size w wc))
   case first =>
    have H := HC10.out
    clear HC10
    by_cases c11 : x8_1 > 0
    ·rw [if_pos c11] at H
     have c11b0 : decide (0 < x8_1) = true := decide_eq_true c11
     clear c11
     (first | rw [c11b0] | (simp only [i64_w, i32_w]; rw [c11b0]) | skip)
     have H' := aU H
     clear H
     go_wp2
     go_meet
     case rel => exact ⟨_, (decide (x6_1 > 0)), eqU, H', ⟨by have := HK1.out; first | omega | exact Nat.le_refl _⟩, ⟨soU HO_7⟩, ⟨isU HI320⟩, ⟨hbU⟩⟩
    ·rw [if_neg c11] at H
     have c11b0 : decide (0 < x8_1) = false := decide_eq_false c11
     clear c11
     (first | rw [c11b0] | (simp only [i64_w, i32_w]; rw [c11b0]) | skip)
     have H' := aU H
     clear H
     go_wp2
     go_meet
     case rel => exact ⟨_, (false), eqU, H', ⟨by have := HK1.out; first | omega | exact Nat.le_refl _⟩, ⟨soU HO_7⟩, ⟨isU HI320⟩, ⟨hbU⟩⟩
   case rest =>
    clear HC10
    obtain ⟨kq, x27_9, rfl, HA, HJ9, HO_7, HI320, HB⟩ := hcut
    cases kq with
    | zero => exact absurd HA.out (by simp [spec_DrawPlayLeg.j1])
    | succ kj9 =>
     have H := HA.out
     clear HA
     simp only [spec_DrawPlayLeg.j1] at H
     by_cases c12 : x27_9 = true
     ·subst c12
      rw [if_pos rfl] at H
      replace H := bindS H
      obtain ⟨⟨t330, t331, t332, t333⟩, A13, H⟩ := H
      (try dsimp only at H)
      replace H := bindS H
      obtain ⟨⟨t334, t335, t336, t337⟩, A14, H⟩ := H
      (try dsimp only at H)
      replace H := bindS H
      obtain ⟨⟨t338, t339, t340, t341⟩, A15, H⟩ := H
      (try dsimp only at H)
      obtain ⟨y342, hy342⟩ : ∃ y_ : List (S52), y_ = (([(⟨t330, t331⟩ : S52), (⟨t334, t335⟩ : S52), (⟨t338, t339⟩ : S52)] : List (S52))) := ⟨_, rfl⟩
      replace H : ((spec_daVisit.f kj9 x6_1 y342).bind fun bt345 => (if bt345.2.2 = true then (if x7_1.length < 5864062014805 then (spec_DrawPlayLeg.l0 kj9 t324 bt345.1 (x7_1 ++ [y342]) (wrap64 (x8_1 - 1)) l0 t340 t341) else (none)) else (if 1 ≤ (y342.length : Int) then ((some (y342.take (1 : Int).toNat : List (S52))).bind fun y351 => ((spec_daVisit.f kj9 x6_1 y351).bind fun bt354 => (if x7_1.length < 5864062014805 then (spec_DrawPlayLeg.l0 kj9 t324 bt354.1 (x7_1 ++ [y351]) (wrap64 (x8_1 - 1)) l0 t340 t341) else (none)))) else (none)))) = some (r1, r2) := by first | (rw [hy342]; with_reducible exact H) | (have H2_ := (Option.bind_some _ _).symm.trans H; rw [hy342]; with_reducible exact H2_) | (have H2_ := (Option.bind_some _ _).symm.trans H; with_reducible exact H2_) | with_reducible exact H | (rw [hy342]; exact H) | exact H
      have Ny342 := aU hy342
      clear hy342
      replace H := bindS H
      obtain ⟨⟨t345, t346, t347⟩, A16, H⟩ := H
      (try dsimp only at H)
      by_cases c17 : t347 = true
      ·subst c17
       rw [if_pos rfl] at H
       replace H := ifS H
       obtain ⟨c18, H⟩ := H
       have LMc18 := aU c18
       clear c18
       obtain ⟨y348, hy348⟩ : ∃ y_ : List (List (S52)), y_ = (x7_1 ++ [y342]) := ⟨_, rfl⟩
       replace H : (spec_DrawPlayLeg.l0 kj9 t324 t345 y348 (wrap64 (x8_1 - 1)) l0 t340 t341) = some (r1, r2) := by first | (rw [hy348]; with_reducible exact H) | (have H2_ := (Option.bind_some _ _).symm.trans H; rw [hy348]; with_reducible exact H2_) | (have H2_ := (Option.bind_some _ _).symm.trans H; with_reducible exact H2_) | with_reducible exact H | (rw [hy348]; exact H) | exact H
       have Ny348 := aU hy348
       clear hy348
       have H' := aU H
       clear H
       go_wp2_with (first | ((with_reducible refine gcU 104 rfl ?_); refine goU (some 31) Tryz.func104 #[.pointer (some ⟨gb320, 0, none⟩)] ?_; (with_reducible refine (spec_l1Cur_sureDart.calls gb320 l0 x321001_1 x321002_1 t330 t331 t332 t333 w _ ?side1 ?side2 A13.out).mono ?_); (case side1 => exact isU HI320); (case side2 => exact hbU); rintro e w19 ⟨rfl, hi, hb, hk⟩; refine ⟨_, rfl, ?_⟩; replace HO_7 := aU (Kd.S_mono (Kd.S_keep (IsS78.apartS (show IsS78 w _ gb320 l0 x321001_1 x321002_1 from isU HI320) (soU HO_7) (by decide)) hk (fun _ h => h.2)) (fun _ h => h.1)); replace HB := aU (hb); replace HI320 := aU (hi); (try clear hi hb hk)) | ((with_reducible refine gcU 104 rfl ?_); refine goU (some 33) Tryz.func104 #[.pointer (some ⟨gb320, 0, none⟩)] ?_; (with_reducible refine (spec_l1Cur_sureDart.calls gb320 l0 t332 t333 t334 t335 t336 t337 w _ ?side1 ?side2 A14.out).mono ?_); (case side1 => exact isU HI320); (case side2 => exact hbU); rintro e w20 ⟨rfl, hi, hb, hk⟩; refine ⟨_, rfl, ?_⟩; replace HO_7 := aU (Kd.S_mono (Kd.S_keep (IsS78.apartS (show IsS78 w _ gb320 l0 t332 t333 from isU HI320) (soU HO_7) (by decide)) hk (fun _ h => h.2)) (fun _ h => h.1)); replace HB := aU (hb); replace HI320 := aU (hi); (try clear hi hb hk)) | ((with_reducible refine gcU 104 rfl ?_); refine goU (some 35) Tryz.func104 #[.pointer (some ⟨gb320, 0, none⟩)] ?_; (with_reducible refine (spec_l1Cur_sureDart.calls gb320 l0 t336 t337 t338 t339 t340 t341 w _ ?side1 ?side2 A15.out).mono ?_); (case side1 => exact isU HI320); (case side2 => exact hbU); rintro e w21 ⟨rfl, hi, hb, hk⟩; refine ⟨_, rfl, ?_⟩; replace HO_7 := aU (Kd.S_mono (Kd.S_keep (IsS78.apartS (show IsS78 w _ gb320 l0 t336 t337 from isU HI320) (soU HO_7) (by decide)) hk (fun _ h => h.2)) (fun _ h => h.1)); replace HB := aU (hb); replace HI320 := aU (hi); (try clear hi hb hk)) | ((with_reducible refine gdU 36 rfl ?_); refine Kd.R_lit k52 _ 52 ?hg (N := 36) ?hd (xs := ([(⟨t330, t331⟩ : S52), (⟨t334, t335⟩ : S52), (⟨t338, t339⟩ : S52)] : List (S52))) (inner := [.int .i64 t330, .int .i64 t331, .int .i64 t334, .int .i64 t335, .int .i64 t338, .int .i64 t339]) (ok := fun _ => True) (okp := fun _ => True) ?hr ?hp (fun _ hk => hk) trivial (Below.refl _ _) (Nat.le_refl _) (by simp) ?_; (case hd => rfl); (case hg => rfl); (case hr => first | (go_simp; done) | (go_simp; rfl)); (case hp => exact (Reps.c2 (show Kd.M k52 _ _ _ (⟨t330, t331⟩ : S52) [.int .i64 t330, .int .i64 t331] from (k52_mkM _ _ _ (⟨t330, t331⟩ : S52) )) (Reps.c2 (show Kd.M k52 _ _ _ (⟨t334, t335⟩ : S52) [.int .i64 t334, .int .i64 t335] from (k52_mkM _ _ _ (⟨t334, t335⟩ : S52) )) (Reps.c2 (show Kd.M k52 _ _ _ (⟨t338, t339⟩ : S52) [.int .i64 t338, .int .i64 t339] from (k52_mkM _ _ _ (⟨t338, t339⟩ : S52) )) (Reps.none _ _))))); intro v343 w22 ho23 hb hg_ hnew_; clear hg_ hnew_; (first | rw [← Ny342.out] at ho23 | (simp only [Int.reduceToNat] at ho23; rw [← Ny342.out] at ho23)); replace HO_7 := aU (Kd.S_elder' (soU HO_7) (Kd.R_base ho23) hb); have HO344 := aU (Kd.R_lower ho23 (below_size hbU)); replace HI320 := aU (IsS78.below (isU HI320) hb); replace HB := bsU hb; clear hb ho23; obtain ⟨Ao24, co24, eo24⟩ := Kd.R_slice HO344.out; subst eo24) | ((with_reducible refine gcU 103 rfl ?_); refine goU (some 40) Tryz.func103 #[.int .i64 x6_1, .slice Ao24 y342.length co24] ?_; (with_reducible refine (spec_daVisit.calls kj9 x6_1 _ _ y342 t345 t346 true _ ?side1 ?side2 A16.out).mono ?_); (case side1 => exact rcU HO344); (case side2 => exact (Kd.R_reads' HO344.out).2.1); rintro e w25 ⟨rfl, hb⟩; refine ⟨_, rfl, ?_⟩; replace HO_7 := aU (Kd.S_below (soU HO_7) hb); replace HO344 := aU (Kd.R_below (roU HO344) hb); replace HI320 := aU (IsS78.below (isU HI320) hb); replace HB := bsU hb; (try clear hb)) | ((with_reducible refine gate_builtin (b := .append) (xs := #[.tmp 55, .tmp 57]) rfl ?_); at_builtin; refine Kd.S_append (Kd.slice 52 k52) (w0 := w) w.heap.size rfl (.tmp 55) (.tmp 57) 53 45 (.slice none 0 0) 24 rfl Tryz.underlying53 info45 rfl (by decide) (by omega) u7 x7_1 y342 [.slice Ao24 y342.length co24] (fun _ => True) (fun k_ => some k_ = (.slice Ao24 y342.length co24 : Value).ownBlock) rfl rfl ?aP (fun k_ hk_ => ((Kd.R_mono (ok' := fun k_ => ((fun _ => True)) k_ ∧ some k_ ≠ (u7 : Value).ownBlock) (Kd.R_apart' (HO344.out) (Kd.S_typed HO_7.out) (by decide)) (fun k_ hk => ⟨trivial, hk.2⟩))).1 k_ hk_.symm) ?aF ?aO ?aB ?aS ?aL ?_; (case aP => exact Kd.M_row (Kd.R_mono (Kd.R_tight rfl (Kd.R_mono (ok' := fun k_ => ((fun _ => True)) k_ ∧ some k_ ≠ (u7 : Value).ownBlock) (Kd.R_apart' (HO344.out) (Kd.S_typed HO_7.out) (by decide)) (fun k_ hk => ⟨trivial, hk.2⟩))) (fun _ h_ => h_))); (case aB => exact hbU); (case aF => exact (fun _ _ => trivial)); (case aO => exact (by (with_reducible repeat (first | apply Kd.S_alloc | apply Kd.S_drewN | apply Kd.S_drew)); exact Kd.S_mono HO_7.out (fun k_ hk => ⟨trivial, fun e_ => hk.2 (by first | exact e_ | (cases Ao24 <;> exact e_) | (cases Ao35 <;> exact e_) | (cases Ao47 <;> exact e_) | (cases Ao7 <;> exact e_))⟩))); (case aS => exact (below_size hbU)); (case aL => have := LMc18.out; omega); intro v349 w26 ho hb hg hat; rw [← Ny348.out] at ho; replace HI320 := aU (IsS78.grown (isU HI320) hg (IsS78.own_neS HI320.out HO_7.out (by decide))); replace HB := aU (hb); have HO350 := aU (ho); clear HO_7 HO344; clear ho hb hg hat))
       go_roundg kj9
       case measure => have := HK1.out; have := HJ9.out; omega
       case rel => exact ⟨(t345), (y348), (wrap64 (x8_1 - 1)), (t340), (t341), eqU, eqU, H', ⟨by have := HK1.out; have := HJ9.out; omega⟩, ⟨soU HO350⟩, ⟨isU HI320⟩, ⟨hbU⟩⟩
      ·replace c17 := Bool.eq_false_iff.mpr c17
       subst c17
       rw [if_neg (show ¬ (false = true) by decide)] at H
       replace H := ifS H
       obtain ⟨c27, H⟩ := H
       have c27b0 := eq_true c27
       have c27b1 : decide (1 ≤ (y342.length : Int)) = true := decide_eq_true c27
       clear c27
       obtain ⟨y351, hy351⟩ : ∃ y_ : List (S52), y_ = (y342.take (1 : Int).toNat) := ⟨_, rfl⟩
       replace H : ((spec_daVisit.f kj9 x6_1 y351).bind fun bt354 => (if x7_1.length < 5864062014805 then (spec_DrawPlayLeg.l0 kj9 t324 bt354.1 (x7_1 ++ [y351]) (wrap64 (x8_1 - 1)) l0 t340 t341) else (none))) = some (r1, r2) := by first | (rw [hy351]; with_reducible exact H) | (have H2_ := (Option.bind_some _ _).symm.trans H; rw [hy351]; with_reducible exact H2_) | (have H2_ := (Option.bind_some _ _).symm.trans H; with_reducible exact H2_) | with_reducible exact H | (rw [hy351]; exact H) | exact H
       have Ny351 := aU hy351
       clear hy351
       replace H := bindS H
       obtain ⟨⟨t354, t355, t356⟩, A28, H⟩ := H
       (try dsimp only at H)
       replace H := ifS H
       obtain ⟨c29, H⟩ := H
       have LMc29 := aU c29
       clear c29
       obtain ⟨y357, hy357⟩ : ∃ y_ : List (List (S52)), y_ = (x7_1 ++ [y351]) := ⟨_, rfl⟩
       replace H : (spec_DrawPlayLeg.l0 kj9 t324 t354 y357 (wrap64 (x8_1 - 1)) l0 t340 t341) = some (r1, r2) := by first | (rw [hy357]; with_reducible exact H) | (have H2_ := (Option.bind_some _ _).symm.trans H; rw [hy357]; with_reducible exact H2_) | (have H2_ := (Option.bind_some _ _).symm.trans H; with_reducible exact H2_) | with_reducible exact H | (rw [hy357]; exact H) | exact H
       have Ny357 := aU hy357
       clear hy357
       have H' := aU H
       clear H
       go_wp2_with (first | ((with_reducible refine gcU 104 rfl ?_); refine goU (some 31) Tryz.func104 #[.pointer (some ⟨gb320, 0, none⟩)] ?_; (with_reducible refine (spec_l1Cur_sureDart.calls gb320 l0 x321001_1 x321002_1 t330 t331 t332 t333 w _ ?side1 ?side2 A13.out).mono ?_); (case side1 => exact isU HI320); (case side2 => exact hbU); rintro e w30 ⟨rfl, hi, hb, hk⟩; refine ⟨_, rfl, ?_⟩; replace HO_7 := aU (Kd.S_mono (Kd.S_keep (IsS78.apartS (show IsS78 w _ gb320 l0 x321001_1 x321002_1 from isU HI320) (soU HO_7) (by decide)) hk (fun _ h => h.2)) (fun _ h => h.1)); replace HB := aU (hb); replace HI320 := aU (hi); (try clear hi hb hk)) | ((with_reducible refine gcU 104 rfl ?_); refine goU (some 33) Tryz.func104 #[.pointer (some ⟨gb320, 0, none⟩)] ?_; (with_reducible refine (spec_l1Cur_sureDart.calls gb320 l0 t332 t333 t334 t335 t336 t337 w _ ?side1 ?side2 A14.out).mono ?_); (case side1 => exact isU HI320); (case side2 => exact hbU); rintro e w31 ⟨rfl, hi, hb, hk⟩; refine ⟨_, rfl, ?_⟩; replace HO_7 := aU (Kd.S_mono (Kd.S_keep (IsS78.apartS (show IsS78 w _ gb320 l0 t332 t333 from isU HI320) (soU HO_7) (by decide)) hk (fun _ h => h.2)) (fun _ h => h.1)); replace HB := aU (hb); replace HI320 := aU (hi); (try clear hi hb hk)) | ((with_reducible refine gcU 104 rfl ?_); refine goU (some 35) Tryz.func104 #[.pointer (some ⟨gb320, 0, none⟩)] ?_; (with_reducible refine (spec_l1Cur_sureDart.calls gb320 l0 t336 t337 t338 t339 t340 t341 w _ ?side1 ?side2 A15.out).mono ?_); (case side1 => exact isU HI320); (case side2 => exact hbU); rintro e w32 ⟨rfl, hi, hb, hk⟩; refine ⟨_, rfl, ?_⟩; replace HO_7 := aU (Kd.S_mono (Kd.S_keep (IsS78.apartS (show IsS78 w _ gb320 l0 t336 t337 from isU HI320) (soU HO_7) (by decide)) hk (fun _ h => h.2)) (fun _ h => h.1)); replace HB := aU (hb); replace HI320 := aU (hi); (try clear hi hb hk)) | ((with_reducible refine gdU 36 rfl ?_); refine Kd.R_lit k52 _ 52 ?hg (N := 36) ?hd (xs := ([(⟨t330, t331⟩ : S52), (⟨t334, t335⟩ : S52), (⟨t338, t339⟩ : S52)] : List (S52))) (inner := [.int .i64 t330, .int .i64 t331, .int .i64 t334, .int .i64 t335, .int .i64 t338, .int .i64 t339]) (ok := fun _ => True) (okp := fun _ => True) ?hr ?hp (fun _ hk => hk) trivial (Below.refl _ _) (Nat.le_refl _) (by simp) ?_; (case hd => rfl); (case hg => rfl); (case hr => first | (go_simp; done) | (go_simp; rfl)); (case hp => exact (Reps.c2 (show Kd.M k52 _ _ _ (⟨t330, t331⟩ : S52) [.int .i64 t330, .int .i64 t331] from (k52_mkM _ _ _ (⟨t330, t331⟩ : S52) )) (Reps.c2 (show Kd.M k52 _ _ _ (⟨t334, t335⟩ : S52) [.int .i64 t334, .int .i64 t335] from (k52_mkM _ _ _ (⟨t334, t335⟩ : S52) )) (Reps.c2 (show Kd.M k52 _ _ _ (⟨t338, t339⟩ : S52) [.int .i64 t338, .int .i64 t339] from (k52_mkM _ _ _ (⟨t338, t339⟩ : S52) )) (Reps.none _ _))))); intro v343 w33 ho34 hb hg_ hnew_; clear hg_ hnew_; (first | rw [← Ny342.out] at ho34 | (simp only [Int.reduceToNat] at ho34; rw [← Ny342.out] at ho34)); replace HO_7 := aU (Kd.S_elder' (soU HO_7) (Kd.R_base ho34) hb); have HO344 := aU (Kd.R_lower ho34 (below_size hbU)); replace HI320 := aU (IsS78.below (isU HI320) hb); replace HB := bsU hb; clear hb ho34; obtain ⟨Ao35, co35, eo35⟩ := Kd.R_slice HO344.out; subst eo35) | ((with_reducible refine gcU 103 rfl ?_); refine goU (some 40) Tryz.func103 #[.int .i64 x6_1, .slice Ao35 y342.length co35] ?_; (with_reducible refine (spec_daVisit.calls kj9 x6_1 _ _ y342 t345 t346 false _ ?side1 ?side2 A16.out).mono ?_); (case side1 => exact rcU HO344); (case side2 => exact (Kd.R_reads' HO344.out).2.1); rintro e w36 ⟨rfl, hb⟩; refine ⟨_, rfl, ?_⟩; replace HO_7 := aU (Kd.S_below (soU HO_7) hb); replace HO344 := aU (Kd.R_below (roU HO344) hb); replace HI320 := aU (IsS78.below (isU HI320) hb); replace HB := bsU hb; (try clear hb); have q37 : (1 : Int) ≤ ((y342.length : Int) : Int) := dU; obtain ⟨i037, hi037, _, hsz37, _⟩ := info_parts info52; have hcut37 := cut_to (P := Tryz.prog) 45 52 .i64 Tryz.underlying45 hi037 Ao35 y342.length co35 1 (by omega) q37 (Kd.R_reads' HO344.out).2.1; have hr37 := Kd.R_take (m := (1 : Int).toNat) HO344.out (by omega); have hy37 : y351.length = (1 : Int).toNat := (by rw [Ny351.out, List.length_take]; omega); rw [← Ny351.out] at hr37; rw [← hy37] at hr37 hcut37; clear hy37 hi037 hsz37 HO344; have HO353 := aU hr37; clear hr37; replace q37 := eq_true q37) | ((with_reducible refine gcU 103 rfl ?_); refine goU (some 51) Tryz.func103 #[.int .i64 x6_1, .slice Ao35 y351.length co35] ?_; (with_reducible refine (spec_daVisit.calls kj9 x6_1 _ _ y351 t354 t355 t356 _ ?side1 ?side2 A28.out).mono ?_); (case side1 => exact rcU HO353); (case side2 => exact (Kd.R_reads' HO353.out).2.1); rintro e w38 ⟨rfl, hb⟩; refine ⟨_, rfl, ?_⟩; replace HO_7 := aU (Kd.S_below (soU HO_7) hb); replace HO353 := aU (Kd.R_below (roU HO353) hb); replace HI320 := aU (IsS78.below (isU HI320) hb); replace HB := bsU hb; (try clear hb)) | ((with_reducible refine gate_builtin (b := .append) (xs := #[.tmp 55, .tmp 57]) rfl ?_); at_builtin; refine Kd.S_append (Kd.slice 52 k52) (w0 := w) w.heap.size rfl (.tmp 55) (.tmp 57) 53 45 (.slice none 0 0) 24 rfl Tryz.underlying53 info45 rfl (by decide) (by omega) u7 x7_1 y351 [.slice Ao35 y351.length co35] (fun _ => True) (fun k_ => some k_ = (.slice Ao35 y351.length co35 : Value).ownBlock) rfl rfl ?aP (fun k_ hk_ => ((Kd.R_mono (ok' := fun k_ => ((fun _ => True)) k_ ∧ some k_ ≠ (u7 : Value).ownBlock) (Kd.R_apart' (HO353.out) (Kd.S_typed HO_7.out) (by decide)) (fun k_ hk => ⟨trivial, hk.2⟩))).1 k_ hk_.symm) ?aF ?aO ?aB ?aS ?aL ?_; (case aP => exact Kd.M_row (Kd.R_mono (Kd.R_tight rfl (Kd.R_mono (ok' := fun k_ => ((fun _ => True)) k_ ∧ some k_ ≠ (u7 : Value).ownBlock) (Kd.R_apart' (HO353.out) (Kd.S_typed HO_7.out) (by decide)) (fun k_ hk => ⟨trivial, hk.2⟩))) (fun _ h_ => h_))); (case aB => exact hbU); (case aF => exact (fun _ _ => trivial)); (case aO => exact (by (with_reducible repeat (first | apply Kd.S_alloc | apply Kd.S_drewN | apply Kd.S_drew)); exact Kd.S_mono HO_7.out (fun k_ hk => ⟨trivial, fun e_ => hk.2 (by first | exact e_ | (cases Ao24 <;> exact e_) | (cases Ao35 <;> exact e_) | (cases Ao47 <;> exact e_) | (cases Ao7 <;> exact e_))⟩))); (case aS => exact (below_size hbU)); (case aL => have := LMc29.out; omega); intro v358 w39 ho hb hg hat; rw [← Ny357.out] at ho; replace HI320 := aU (IsS78.grown (isU HI320) hg (IsS78.own_neS HI320.out HO_7.out (by decide))); replace HB := aU (hb); have HO359 := aU (ho); clear HO_7 HO353; clear ho hb hg hat))
       go_roundg kj9
       case measure => have := HK1.out; have := HJ9.out; omega
       case rel => exact ⟨(t354), (y357), (wrap64 (x8_1 - 1)), (t340), (t341), eqU, eqU, H', ⟨by have := HK1.out; have := HJ9.out; omega⟩, ⟨soU HO359⟩, ⟨isU HI320⟩, ⟨hbU⟩⟩
     ·replace c12 := Bool.eq_false_iff.mpr c12
      subst c12
      rw [if_neg (show ¬ (false = true) by decide)] at H
      replace H := bindS H
      obtain ⟨⟨t360, t361, t362⟩, A40, H⟩ := H
      (try dsimp only at H)
      by_cases c41 : t360 = true
      ·subst c41
       rw [if_pos rfl] at H
       replace H := bindS H
       obtain ⟨⟨t363, t366, t367⟩, A42, H⟩ := H
       (try dsimp only at H)
       replace H := ifS H
       obtain ⟨c43, H⟩ := H
       have LMc43 := aU c43
       clear c43
       obtain ⟨y368, hy368⟩ : ∃ y_ : List (List (S52)), y_ = (x7_1 ++ [t363]) := ⟨_, rfl⟩
       replace H : (some (t324, y368)) = some (r1, r2) := by first | (rw [hy368]; with_reducible exact H) | (have H2_ := (Option.bind_some _ _).symm.trans H; rw [hy368]; with_reducible exact H2_) | (have H2_ := (Option.bind_some _ _).symm.trans H; with_reducible exact H2_) | with_reducible exact H | (rw [hy368]; exact H) | exact H
       have Ny368 := aU hy368
       clear hy368
       simp only [Option.some.injEq, Prod.mk.injEq] at H
       obtain ⟨rfl, rfl⟩ := H
       go_wp2_with (first | ((with_reducible refine gcU 91 rfl ?_); refine goU (some 61) Tryz.func91 #[.pointer (some ⟨gb320, 0, none⟩), .int .i64 10] ?_; (with_reducible refine (spec_l1Cur_one.calls gb320 l0 x321001_1 x321002_1 10 true t361 t362 w _ ?side1 ?side2 A40.out).mono ?_); (case side1 => exact isU HI320); (case side2 => exact hbU); rintro e w44 ⟨rfl, hi, hb, hk⟩; refine ⟨_, rfl, ?_⟩; replace HO_7 := aU (Kd.S_mono (Kd.S_keep (IsS78.apartS (show IsS78 w _ gb320 l0 x321001_1 x321002_1 from isU HI320) (soU HO_7) (by decide)) hk (fun _ h => h.2)) (fun _ h => h.1)); replace HB := aU (hb); replace HI320 := aU (hi); (try clear hi hb hk)) | ((with_reducible refine gcU 105 rfl ?_); refine goU (some 64) Tryz.func105 #[.pointer (some ⟨gb320, 0, none⟩), .int .i64 3] ?_; (with_reducible refine (spec_l1Cur_darts.calls kj9 gb320 l0 t361 t362 3 t363 t366 t367 w _ ?side1 ?side2 A42.out).mono ?_); (case side1 => exact isU HI320); (case side2 => exact hbU); rintro e w45 ⟨v364, rfl, ho0, hi, hb, hk⟩; refine ⟨_, rfl, ?_⟩; replace HO_7 := aU (Kd.S_mono (Kd.S_told (Kd.S_oldK (IsS78.apartS (show IsS78 w _ gb320 l0 t361 t362 from isU HI320) (soU HO_7) (by decide)) hk) (Kd.R_base ho0)) (fun _ h_ => h_.1)); have HO365 := aU (Kd.R_lower ho0 (below_size hbU)); replace HB := aU (hb); replace HI320 := aU (hi); (try clear ho0 hi hb hk); obtain ⟨Ao47, co47, eo47⟩ := Kd.R_slice HO365.out; subst eo47) | ((with_reducible refine gate_builtin (b := .append) (xs := #[.tmp 62, .tmp 65]) rfl ?_); at_builtin; refine Kd.S_append (Kd.slice 52 k52) (w0 := w) w.heap.size rfl (.tmp 62) (.tmp 65) 53 45 (.slice none 0 0) 24 rfl Tryz.underlying53 info45 rfl (by decide) (by omega) u7 x7_1 t363 [.slice Ao47 t363.length co47] (fun _ => True) (fun k_ => some k_ = (.slice Ao47 t363.length co47 : Value).ownBlock) rfl rfl ?aP (fun k_ hk_ => ((Kd.R_mono (ok' := fun k_ => ((fun _ => True)) k_ ∧ some k_ ≠ (u7 : Value).ownBlock) (Kd.R_apart' (HO365.out) (Kd.S_typed HO_7.out) (by decide)) (fun k_ hk => ⟨trivial, hk.2⟩))).1 k_ hk_.symm) ?aF ?aO ?aB ?aS ?aL ?_; (case aP => exact Kd.M_row (Kd.R_mono (Kd.R_tight rfl (Kd.R_mono (ok' := fun k_ => ((fun _ => True)) k_ ∧ some k_ ≠ (u7 : Value).ownBlock) (Kd.R_apart' (HO365.out) (Kd.S_typed HO_7.out) (by decide)) (fun k_ hk => ⟨trivial, hk.2⟩))) (fun _ h_ => h_))); (case aB => exact hbU); (case aF => exact (fun _ _ => trivial)); (case aO => exact (by (with_reducible repeat (first | apply Kd.S_alloc | apply Kd.S_drewN | apply Kd.S_drew)); exact Kd.S_mono HO_7.out (fun k_ hk => ⟨trivial, fun e_ => hk.2 (by first | exact e_ | (cases Ao24 <;> exact e_) | (cases Ao35 <;> exact e_) | (cases Ao47 <;> exact e_) | (cases Ao7 <;> exact e_))⟩))); (case aS => exact (below_size hbU)); (case aL => have := LMc43.out; omega); intro v369 w46 ho hb hg hat; rw [← Ny368.out] at ho; replace HI320 := aU (IsS78.grown (isU HI320) hg (IsS78.own_neS HI320.out HO_7.out (by decide))); replace HB := aU (hb); have HO370 := aU (ho); clear HO_7 HO365; clear ho hb hg hat))
       go_ret2
       exact ⟨_, errU, by (with_reducible repeat (first | apply Kd.S_alloc | apply Kd.S_drewN | apply Kd.S_drew)); exact HO370.out, hbU⟩
      ·replace c41 := Bool.eq_false_iff.mpr c41
       subst c41
       rw [if_neg (show ¬ (false = true) by decide)] at H
       simp only [Option.some.injEq, Prod.mk.injEq] at H
       obtain ⟨rfl, rfl⟩ := H
       go_wp2_with (first | ((with_reducible refine gcU 91 rfl ?_); refine goU (some 61) Tryz.func91 #[.pointer (some ⟨gb320, 0, none⟩), .int .i64 10] ?_; (with_reducible refine (spec_l1Cur_one.calls gb320 l0 x321001_1 x321002_1 10 false t361 t362 w _ ?side1 ?side2 A40.out).mono ?_); (case side1 => exact isU HI320); (case side2 => exact hbU); rintro e w48 ⟨rfl, hi, hb, hk⟩; refine ⟨_, rfl, ?_⟩; replace HO_7 := aU (Kd.S_mono (Kd.S_keep (IsS78.apartS (show IsS78 w _ gb320 l0 x321001_1 x321002_1 from isU HI320) (soU HO_7) (by decide)) hk (fun _ h => h.2)) (fun _ h => h.1)); replace HB := aU (hb); replace HI320 := aU (hi); (try clear hi hb hk)))
       go_ret2
       exact ⟨_, errU, by (with_reducible repeat (first | apply Kd.S_alloc | apply Kd.S_drewN | apply Kd.S_drew)); exact HO_7.out, hbU⟩
mutual
def impl_PlayLeg.j0 : Nat → Int → List (List (S52)) → Bool → Option (List Int × Bool)
 | 0, _, _, _ => none
 | k + 1, x0, x1, x18 => if x18 = true then (some (([] : List Int), false)) else (impl_PlayLeg.l0 k x0 (([x0] : List Int)) x1 (x1.length : Int) 0)
def impl_PlayLeg.l0 : Nat → Int → List Int → List (List (S52)) → Int → Int → Option (List Int × Bool)
 | 0, _, _, _, _, _ => none
 | k + 1, x0, x6, x21, x22, x23 => if x23 < x22 then (if 0 ≤ x23 then (if x23 < (x21.length : Int) then ((impl_LeftAfter.f k x0 (rd_L3 x21 x23)).bind fun bt376 => (if bt376.2 = true then (if x6.length < 17592186044416 then (impl_PlayLeg.l0 k bt376.1 (x6 ++ [bt376.1]) x21 x22 (wrap64 (x23 + 1))) else (none)) else (some (([] : List Int), false)))) else (none)) else (none)) else (some (x6, true))
end
def impl_PlayLeg.f (k : Nat) (a0 : Int) (l1 : List (List (S52))) : Option (List Int × Bool) := (impl_within.f a0 0 1001).bind fun t371 => (if t371 = true then (impl_PlayLeg.j0 k a0 l1 (decide ((l1.length : Int) > 100))) else (impl_PlayLeg.j0 k a0 l1 true))
theorem impl_PlayLeg.mono_l : ∀ k, (∀ y0 y1 y2, LeO (impl_PlayLeg.j0 k y0 y1 y2) (impl_PlayLeg.j0 (k + 1) y0 y1 y2)) ∧ (∀ y0 y1 y2 y3 y4, LeO (impl_PlayLeg.l0 k y0 y1 y2 y3 y4) (impl_PlayLeg.l0 (k + 1) y0 y1 y2 y3 y4))
 | 0 => ⟨fun _ _ _ r h => by simp [impl_PlayLeg.j0] at h, fun _ _ _ _ _ r h => by simp [impl_PlayLeg.l0] at h⟩
 | k + 1 => by
  obtain ⟨ih0, ih1⟩ := impl_PlayLeg.mono_l k
  refine ⟨?_, ?_⟩
  all_goals intros
  all_goals first | unfold impl_PlayLeg.j0 | unfold impl_PlayLeg.l0
  all_goals repeat' first
  | (with_reducible exact ih0 _ _ _)
  | (with_reducible exact ih1 _ _ _ _ _)
  | (with_reducible exact impl_LeftAfter.mono _ _ _)
  | (with_reducible exact LeO.refl _)
  | (with_reducible exact LeO.none _)
  | (with_reducible refine LeO.ite ?_ ?_)
  | (with_reducible refine LeO.bind ?_ (fun _ => ?_))
theorem impl_PlayLeg.mono : ∀ a0 a1 k, LeO (impl_PlayLeg.f k a0 a1) (impl_PlayLeg.f (k + 1) a0 a1) := by
 intro a0 a1 k
 obtain ⟨ih0, ih1⟩ := impl_PlayLeg.mono_l k
 unfold impl_PlayLeg.f
 repeat' first
   | (with_reducible exact ih0 _ _ _)
   | (with_reducible exact ih1 _ _ _ _ _)
   | (with_reducible exact impl_LeftAfter.mono _ _ _)
   | (with_reducible exact LeO.refl _)
   | (with_reducible exact LeO.none _)
   | (with_reducible refine LeO.ite ?_ ?_)
   | (with_reducible refine LeO.bind ?_ (fun _ => ?_))
set_option maxHeartbeats 8000000 in
set_option maxRecDepth 100000 in
theorem impl_PlayLeg.calls (k : Nat) (a0 : Int) (A1 : Option Addr) (c1 : Nat) (l1 : List (List (S52))) (r1 : List Int) (r2 : Bool) (w : World) (hr1 : Kd.C (Kd.slice 52 k52) w A1 l1.length l1) (hc1 : l1.length ≤ c1) (h : impl_PlayLeg.f k a0 l1 = some (r1, r2)) :
  Calls Tryz.prog 46 #[.int .i64 a0, .slice A1 l1.length c1] w fun e w' => ∃ v0_ : Value, e = .returned (.tuple #[v0_, .bool r2]) ∧ Kd.R (Kd.int .i64) 3 w' w.heap.size (fun _ => True) v0_ r1 ∧ Below w.heap.size w w' := by
 have HR1 := aU hr1
 have HC1 := aU hc1
 clear hr1 hc1
 have HB := aU (Below.refl w.heap.size w)
 have H : ((impl_within.f a0 0 1001).bind fun t371 => (if t371 = true then (impl_PlayLeg.j0 k a0 l1 (decide ((l1.length : Int) > 100))) else (impl_PlayLeg.j0 k a0 l1 true))) = some (r1, r2) := h
 clear h
 have HC3 := aU H
 clear H
 go_enter Tryz.func46, Tryz.ntmps46
 go_upto_region 1 with (fail)
 go_cut [18] (fun v18 wc => ∃ (kq : Nat) (x18_2 : Bool), v18 = .bool x18_2 ∧ Aside0 (impl_PlayLeg.j0 kq a0 l1 x18_2 = some (r1, r2)) ∧ Aside0 (kq ≤ k) ∧ Aside0 (Below w.heap.size w wc))
 case first =>
  have H := HC3.out
  clear HC3
  replace H := bindS H
  obtain ⟨t371, A4, H⟩ := H
  (try dsimp only at H)
  by_cases c5 : t371 = true
  ·subst c5
   rw [if_pos rfl] at H
   have H' := aU H
   clear H
   go_wp2_with (first | ((with_reducible refine gcU 87 rfl ?_); refine goU (some 12) Tryz.func87 #[.int .i64 a0, .int .i64 0, .int .i64 1001] ?_; (with_reducible refine (impl_within.calls a0 0 1001 true _ A4.out).mono ?_); rintro e w' ⟨rfl, ⟨nd, rfl⟩⟩; refine ⟨_, rfl, ?_⟩))
   go_meet
   case rel => exact ⟨_, (decide ((l1.length : Int) > 100)), eqU, H', ⟨by first | omega | exact Nat.le_refl _⟩, ⟨hbU⟩⟩
  ·replace c5 := Bool.eq_false_iff.mpr c5
   subst c5
   rw [if_neg (show ¬ (false = true) by decide)] at H
   have H' := aU H
   clear H
   go_wp2_with (first | ((with_reducible refine gcU 87 rfl ?_); refine goU (some 12) Tryz.func87 #[.int .i64 a0, .int .i64 0, .int .i64 1001] ?_; (with_reducible refine (impl_within.calls a0 0 1001 false _ A4.out).mono ?_); rintro e w' ⟨rfl, ⟨nd, rfl⟩⟩; refine ⟨_, rfl, ?_⟩))
   go_meet
   case rel => exact ⟨_, (true), eqU, H', ⟨by first | omega | exact Nat.le_refl _⟩, ⟨hbU⟩⟩
 case rest =>
  clear HC3
  obtain ⟨kq, x18_2, rfl, HA, HJ2, HB⟩ := hcut
  cases kq with
  | zero => exact absurd HA.out (by simp [impl_PlayLeg.j0])
  | succ kj2 =>
   have H := HA.out
   clear HA
   simp only [impl_PlayLeg.j0] at H
   by_cases c6 : x18_2 = true
   ·subst c6
    rw [if_pos rfl] at H
    simp only [Option.some.injEq, Prod.mk.injEq] at H
    obtain ⟨rfl, rfl⟩ := H
    go_wp2
    go_ret2
    exact ⟨_, errU, by first | exact Kd.R_nil _ _ _ _ _ | exact Kd.N_nil _ _ _ _ _ | exact Kd.V_nil _ _ _ _ _ | exact Kd.Q_nil _ _ _ _ _ | exact Kd.S_nil _ _ _ _ _, hbU⟩
   ·replace c6 := Bool.eq_false_iff.mpr c6
    subst c6
    rw [if_neg (show ¬ (false = true) by decide)] at H
    obtain ⟨y372, hy372⟩ : ∃ y_ : List Int, y_ = (([a0] : List Int)) := ⟨_, rfl⟩
    replace H : (impl_PlayLeg.l0 kj2 a0 y372 l1 (l1.length : Int) 0) = some (r1, r2) := by first | (rw [hy372]; with_reducible exact H) | (have H2_ := (Option.bind_some _ _).symm.trans H; rw [hy372]; with_reducible exact H2_) | (have H2_ := (Option.bind_some _ _).symm.trans H; with_reducible exact H2_) | with_reducible exact H | (rw [hy372]; exact H) | exact H
    have Ny372 := aU hy372
    clear hy372
    have H' := aU H
    clear H
    go_wp2_with (first | ((with_reducible refine gdU 20 rfl ?_); (try (refine gate_guard (by rfl) ?_; dsimp only)); refine Kd.R_lit (Kd.int .i64) _ 3 ?hg (N := 20) ?hd (xs := ([a0] : List Int)) (inner := [.int .i64 a0]) (ok := fun _ => True) (okp := fun _ => True) ?hr ?hp (fun _ hk => hk) trivial (Below.refl _ _) (Nat.le_refl _) (by simp) ?_; (case hd => rfl); (case hg => rfl); (case hr => first | (go_simp; done) | (go_simp; rfl)); (case hp => exact (Reps.one (show Kd.M (Kd.int .i64) _ _ _ a0 [.int .i64 a0] from rfl) (Reps.none _ _))); intro v373 w7 ho8 hb hg_ hnew_; clear hg_ hnew_; (first | rw [← Ny372.out] at ho8 | (simp only [Int.reduceToNat] at ho8; rw [← Ny372.out] at ho8)); have HO374 := aU (Kd.R_lower ho8 (below_size hbU)); replace HB := bsU hb; clear hb ho8))
    go_loopg [0, 6, 23] kj2 (fun kq v0 v6 v23 w' => ∃ (x0_2 : Int) (x6_2 : List Int) (x23_2 : Int), v0 = .int .i64 x0_2 ∧ v23 = .int .i64 x23_2 ∧ Aside0 (impl_PlayLeg.l0 kq x0_2 x6_2 l1 (l1.length : Int) x23_2 = some (r1, r2)) ∧ Aside0 (kq ≤ kj2) ∧ Aside0 (Kd.R (Kd.int .i64) 3 w' w.heap.size (fun _ => True) v6 x6_2) ∧ Aside0 (Below w.heap.size w w'))
    case atStart => exact ⟨(a0), (y372), (0), eqU, eqU, H', ⟨Nat.le_refl _⟩, ⟨roU HO374⟩, ⟨hbU⟩⟩
    case round =>
     clear H'
     (try clear c6)
     obtain ⟨x0_2, x6_2, x23_2, rfl, rfl, HA, HK2, HO_6, HB⟩ := hrel
     cases gk with
     | zero => exact absurd HA.out (by simp [impl_PlayLeg.l0])
     | succ k2 =>
      have H := HA.out
      clear HA
      simp only [impl_PlayLeg.l0] at H
      by_cases c9 : x23_2 < (l1.length : Int)
      ·rw [if_pos c9] at H
       have c9b0 : decide (x23_2 < (l1.length : Int)) = true := decide_eq_true c9
       clear c9
       replace H := ifS H
       obtain ⟨c10, H⟩ := H
       have c10b0 : decide (0 ≤ x23_2) = true := decide_eq_true c10
       clear c10
       replace H := ifS H
       obtain ⟨c11, H⟩ := H
       have c11b0 : decide (x23_2 < (l1.length : Int)) = true := decide_eq_true c11
       clear c11
       replace H := bindS H
       obtain ⟨⟨t376, t377⟩, A12, H⟩ := H
       (try dsimp only at H)
       by_cases c13 : t377 = true
       ·subst c13
        rw [if_pos rfl] at H
        replace H := ifS H
        obtain ⟨c14, H⟩ := H
        have LMc14 := aU c14
        clear c14
        obtain ⟨y378, hy378⟩ : ∃ y_ : List Int, y_ = (x6_2 ++ [t376]) := ⟨_, rfl⟩
        replace H : (impl_PlayLeg.l0 k2 t376 y378 l1 (l1.length : Int) (wrap64 (x23_2 + 1))) = some (r1, r2) := by first | (rw [hy378]; with_reducible exact H) | (have H2_ := (Option.bind_some _ _).symm.trans H; rw [hy378]; with_reducible exact H2_) | (have H2_ := (Option.bind_some _ _).symm.trans H; with_reducible exact H2_) | with_reducible exact H | (rw [hy378]; exact H) | exact H
        have Ny378 := aU hy378
        clear hy378
        have H' := aU H
        clear H
        have p375 : 0 ≤ (x23_2 : Int) := dU
        have q375 : x23_2 < (l1.length : Int) := dU
        obtain ⟨ad375, A375_0, c375_0, e375, hx375_0, hl375_0, hi375_0⟩ := at_L3 HR1.out x23_2 p375 q375
        cases e375
        replace hx375_0 := (HB.out.cell (World.block_lt_of_cell? w _ hx375_0)).trans hx375_0
        have HR375_0 := aU hi375_0
        have HC375_0 := aU hl375_0
        clear hi375_0 hl375_0
        replace p375 := eq_true p375
        replace q375 := eq_true q375
        go_wp2_with (first | ((with_reducible refine gcU 40 rfl ?_); refine goU (some 30) Tryz.func40 #[.int .i64 x0_2, .slice A375_0 (rd_L3 l1 x23_2).length c375_0] ?_; (with_reducible refine (impl_LeftAfter.calls k2 x0_2 _ _ (rd_L3 l1 x23_2) t376 true _ ?side1 ?side2 A12.out).mono ?_); (case side1 => repeat (first | exact (Kd.C_below HR375_0.out HB.out) | (with_reducible refine Kd.C_alloc ?_ _) | (with_reducible refine Kd.C_drewN ?_ _) | (with_reducible refine Kd.C_drew ?_))); (case side2 => exact HC375_0.out); rintro e w15 ⟨rfl, hb⟩; refine ⟨_, rfl, ?_⟩; replace HO_6 := aU (Kd.R_below (roU HO_6) hb); replace HB := bsU hb; (try clear hb)) | ((with_reducible refine gate_builtin (b := .append) (xs := #[.tmp 36, .tmp 38]) rfl ?_); (try (refine gate_guard (by rfl) ?_; dsimp only)); at_builtin; refine Kd.R_append (Kd.int .i64) (w0 := w) w.heap.size rfl (.tmp 36) (.tmp 38) 56 3 (.int .i64 0) 8 rfl Tryz.underlying56 info3 rfl (by decide) (by omega) u6 x6_2 t376 [.int .i64 t376] (fun _ => True) (fun _ => False) rfl rfl ?aP (fun _ hk => hk.elim) ?aF ?aO ?aB ?aS ?aL ?_; (case aP => exact rfl); (case aB => exact hbU); (case aF => exact (fun _ _ => trivial)); (case aO => exact (roU HO_6)); (case aS => exact (below_size hbU)); (case aL => have := LMc14.out; omega); intro v379 w16 ho hb hg hat; rw [← Ny378.out] at ho; replace HB := aU (hb); have HO380 := aU (ho); clear HO_6; clear ho hb hg hat))
        go_roundg k2
        case measure => have := HJ2.out; have := HK2.out; omega
        case rel => exact ⟨(t376), (y378), (wrap64 (x23_2 + 1)), eqU, eqU, H', ⟨by have := HJ2.out; have := HK2.out; omega⟩, ⟨roU HO380⟩, ⟨hbU⟩⟩
       ·replace c13 := Bool.eq_false_iff.mpr c13
        subst c13
        rw [if_neg (show ¬ (false = true) by decide)] at H
        simp only [Option.some.injEq, Prod.mk.injEq] at H
        obtain ⟨rfl, rfl⟩ := H
        have p375 : 0 ≤ (x23_2 : Int) := dU
        have q375 : x23_2 < (l1.length : Int) := dU
        obtain ⟨ad375, A375_0, c375_0, e375, hx375_0, hl375_0, hi375_0⟩ := at_L3 HR1.out x23_2 p375 q375
        cases e375
        replace hx375_0 := (HB.out.cell (World.block_lt_of_cell? w _ hx375_0)).trans hx375_0
        have HR375_0 := aU hi375_0
        have HC375_0 := aU hl375_0
        clear hi375_0 hl375_0
        replace p375 := eq_true p375
        replace q375 := eq_true q375
        go_wp2_with (first | ((with_reducible refine gcU 40 rfl ?_); refine goU (some 30) Tryz.func40 #[.int .i64 x0_2, .slice A375_0 (rd_L3 l1 x23_2).length c375_0] ?_; (with_reducible refine (impl_LeftAfter.calls k2 x0_2 _ _ (rd_L3 l1 x23_2) t376 false _ ?side1 ?side2 A12.out).mono ?_); (case side1 => repeat (first | exact (Kd.C_below HR375_0.out HB.out) | (with_reducible refine Kd.C_alloc ?_ _) | (with_reducible refine Kd.C_drewN ?_ _) | (with_reducible refine Kd.C_drew ?_))); (case side2 => exact HC375_0.out); rintro e w17 ⟨rfl, hb⟩; refine ⟨_, rfl, ?_⟩; replace HO_6 := aU (Kd.R_below (roU HO_6) hb); replace HB := bsU hb; (try clear hb)))
        go_ret2
        exact ⟨_, errU, by first | exact Kd.R_nil _ _ _ _ _ | exact Kd.N_nil _ _ _ _ _ | exact Kd.V_nil _ _ _ _ _ | exact Kd.Q_nil _ _ _ _ _ | exact Kd.S_nil _ _ _ _ _, hbU⟩
      ·rw [if_neg c9] at H
       have c9b0 : decide (x23_2 < (l1.length : Int)) = false := decide_eq_false c9
       clear c9
       simp only [Option.some.injEq, Prod.mk.injEq] at H
       obtain ⟨rfl, rfl⟩ := H
       go_wp2
       go_ret2
       exact ⟨_, errU, by (with_reducible repeat (first | apply Kd.R_alloc | apply Kd.R_drewN | apply Kd.R_drew)); exact HO_6.out, hbU⟩
mutual
def spec_PlayLeg.j0 : Nat → Int → List (List (S52)) → Bool → Option (List Int × Bool)
 | 0, _, _, _ => none
 | k + 1, x0, x1, x19 => if x19 = true then (some (([] : List Int), false)) else (spec_PlayLeg.l0 k x0 (([x0] : List Int)) x1 (x1.length : Int) 0)
def spec_PlayLeg.l0 : Nat → Int → List Int → List (List (S52)) → Int → Int → Option (List Int × Bool)
 | 0, _, _, _, _, _ => none
 | k + 1, x0, x6, x22, x23, x24 => if x24 < x23 then (if 0 ≤ x24 then (if x24 < (x22.length : Int) then ((spec_daAsked.f k x0 (rd_L3 x22 x24)).bind fun t386 => (if t386 = true then ((spec_daVisit.f k x0 (rd_L3 x22 x24)).bind fun bt387 => (if bt387.2.2 = true then (if x6.length < 17592186044416 then (spec_PlayLeg.l0 k bt387.1 (x6 ++ [bt387.1]) x22 x23 (wrap64 (x24 + 1))) else (none)) else (some (([] : List Int), false)))) else (some (([] : List Int), false)))) else (none)) else (none)) else (some (x6, true))
end
def spec_PlayLeg.f (k : Nat) (a0 : Int) (l1 : List (List (S52))) : Option (List Int × Bool) := (spec_daLeft.f a0).bind fun t381 => (if t381 = true then (spec_PlayLeg.j0 k a0 l1 (decide ((l1.length : Int) > 100))) else (spec_PlayLeg.j0 k a0 l1 true))
theorem spec_PlayLeg.mono_l : ∀ k, (∀ y0 y1 y2, LeO (spec_PlayLeg.j0 k y0 y1 y2) (spec_PlayLeg.j0 (k + 1) y0 y1 y2)) ∧ (∀ y0 y1 y2 y3 y4, LeO (spec_PlayLeg.l0 k y0 y1 y2 y3 y4) (spec_PlayLeg.l0 (k + 1) y0 y1 y2 y3 y4))
 | 0 => ⟨fun _ _ _ r h => by simp [spec_PlayLeg.j0] at h, fun _ _ _ _ _ r h => by simp [spec_PlayLeg.l0] at h⟩
 | k + 1 => by
  obtain ⟨ih0, ih1⟩ := spec_PlayLeg.mono_l k
  refine ⟨?_, ?_⟩
  all_goals intros
  all_goals first | unfold spec_PlayLeg.j0 | unfold spec_PlayLeg.l0
  all_goals repeat' first
  | (with_reducible exact ih0 _ _ _)
  | (with_reducible exact ih1 _ _ _ _ _)
  | (with_reducible exact spec_daAsked.mono _ _ _)
  | (with_reducible exact spec_daVisit.mono _ _ _)
  | (with_reducible exact LeO.refl _)
  | (with_reducible exact LeO.none _)
  | (with_reducible refine LeO.ite ?_ ?_)
  | (with_reducible refine LeO.bind ?_ (fun _ => ?_))
theorem spec_PlayLeg.mono : ∀ a0 a1 k, LeO (spec_PlayLeg.f k a0 a1) (spec_PlayLeg.f (k + 1) a0 a1) := by
 intro a0 a1 k
 obtain ⟨ih0, ih1⟩ := spec_PlayLeg.mono_l k
 unfold spec_PlayLeg.f
 repeat' first
   | (with_reducible exact ih0 _ _ _)
   | (with_reducible exact ih1 _ _ _ _ _)
   | (with_reducible exact spec_daAsked.mono _ _ _)
   | (with_reducible exact spec_daVisit.mono _ _ _)
   | (with_reducible exact LeO.refl _)
   | (with_reducible exact LeO.none _)
   | (with_reducible refine LeO.ite ?_ ?_)
   | (with_reducible refine LeO.bind ?_ (fun _ => ?_))
set_option maxHeartbeats 8000000 in
set_option maxRecDepth 100000 in
theorem spec_PlayLeg.calls (k : Nat) (a0 : Int) (A1 : Option Addr) (c1 : Nat) (l1 : List (List (S52))) (r1 : List Int) (r2 : Bool) (w : World) (hr1 : Kd.C (Kd.slice 52 k52) w A1 l1.length l1) (hc1 : l1.length ≤ c1) (h : spec_PlayLeg.f k a0 l1 = some (r1, r2)) :
  Calls Tryz.prog 47 #[.int .i64 a0, .slice A1 l1.length c1] w fun e w' => ∃ v0_ : Value, e = .returned (.tuple #[v0_, .bool r2]) ∧ Kd.R (Kd.int .i64) 3 w' w.heap.size (fun _ => True) v0_ r1 ∧ Below w.heap.size w w' := by
 have HR1 := aU hr1
 have HC1 := aU hc1
 clear hr1 hc1
 have HB := aU (Below.refl w.heap.size w)
 have H : ((spec_daLeft.f a0).bind fun t381 => (if t381 = true then (spec_PlayLeg.j0 k a0 l1 (decide ((l1.length : Int) > 100))) else (spec_PlayLeg.j0 k a0 l1 true))) = some (r1, r2) := h
 clear h
 have HC3 := aU H
 clear H
 go_enter Tryz.func47, Tryz.ntmps47
 go_upto_region 1 with (fail)
 go_cut [19] (fun v19 wc => ∃ (kq : Nat) (x19_2 : Bool), v19 = .bool x19_2 ∧ Aside0 (spec_PlayLeg.j0 kq a0 l1 x19_2 = some (r1, r2)) ∧ Aside0 (kq ≤ k) ∧ Aside0 (Below w.heap.size w wc))
 case first =>
  have H := HC3.out
  clear HC3
  replace H := bindS H
  obtain ⟨t381, A4, H⟩ := H
  (try dsimp only at H)
  by_cases c5 : t381 = true
  ·subst c5
   rw [if_pos rfl] at H
   have H' := aU H
   clear H
   go_wp2_with (first | ((with_reducible refine gcU 106 rfl ?_); refine goU (some 13) Tryz.func106 #[.int .i64 a0] ?_; (with_reducible refine (spec_daLeft.calls a0 true _ A4.out).mono ?_); rintro e w' ⟨rfl, ⟨nd, rfl⟩⟩; refine ⟨_, rfl, ?_⟩))
   go_meet
   case rel => exact ⟨_, (decide ((l1.length : Int) > 100)), eqU, H', ⟨by first | omega | exact Nat.le_refl _⟩, ⟨hbU⟩⟩
  ·replace c5 := Bool.eq_false_iff.mpr c5
   subst c5
   rw [if_neg (show ¬ (false = true) by decide)] at H
   have H' := aU H
   clear H
   go_wp2_with (first | ((with_reducible refine gcU 106 rfl ?_); refine goU (some 13) Tryz.func106 #[.int .i64 a0] ?_; (with_reducible refine (spec_daLeft.calls a0 false _ A4.out).mono ?_); rintro e w' ⟨rfl, ⟨nd, rfl⟩⟩; refine ⟨_, rfl, ?_⟩))
   go_meet
   case rel => exact ⟨_, (true), eqU, H', ⟨by first | omega | exact Nat.le_refl _⟩, ⟨hbU⟩⟩
 case rest =>
  clear HC3
  obtain ⟨kq, x19_2, rfl, HA, HJ2, HB⟩ := hcut
  cases kq with
  | zero => exact absurd HA.out (by simp [spec_PlayLeg.j0])
  | succ kj2 =>
   have H := HA.out
   clear HA
   simp only [spec_PlayLeg.j0] at H
   by_cases c6 : x19_2 = true
   ·subst c6
    rw [if_pos rfl] at H
    simp only [Option.some.injEq, Prod.mk.injEq] at H
    obtain ⟨rfl, rfl⟩ := H
    go_wp2
    go_ret2
    exact ⟨_, errU, by first | exact Kd.R_nil _ _ _ _ _ | exact Kd.N_nil _ _ _ _ _ | exact Kd.V_nil _ _ _ _ _ | exact Kd.Q_nil _ _ _ _ _ | exact Kd.S_nil _ _ _ _ _, hbU⟩
   ·replace c6 := Bool.eq_false_iff.mpr c6
    subst c6
    rw [if_neg (show ¬ (false = true) by decide)] at H
    obtain ⟨y382, hy382⟩ : ∃ y_ : List Int, y_ = (([a0] : List Int)) := ⟨_, rfl⟩
    replace H : (spec_PlayLeg.l0 kj2 a0 y382 l1 (l1.length : Int) 0) = some (r1, r2) := by first | (rw [hy382]; with_reducible exact H) | (have H2_ := (Option.bind_some _ _).symm.trans H; rw [hy382]; with_reducible exact H2_) | (have H2_ := (Option.bind_some _ _).symm.trans H; with_reducible exact H2_) | with_reducible exact H | (rw [hy382]; exact H) | exact H
    have Ny382 := aU hy382
    clear hy382
    have H' := aU H
    clear H
    go_wp2_with (first | ((with_reducible refine gdU 21 rfl ?_); (try (refine gate_guard (by rfl) ?_; dsimp only)); refine Kd.R_lit (Kd.int .i64) _ 3 ?hg (N := 21) ?hd (xs := ([a0] : List Int)) (inner := [.int .i64 a0]) (ok := fun _ => True) (okp := fun _ => True) ?hr ?hp (fun _ hk => hk) trivial (Below.refl _ _) (Nat.le_refl _) (by simp) ?_; (case hd => rfl); (case hg => rfl); (case hr => first | (go_simp; done) | (go_simp; rfl)); (case hp => exact (Reps.one (show Kd.M (Kd.int .i64) _ _ _ a0 [.int .i64 a0] from rfl) (Reps.none _ _))); intro v383 w7 ho8 hb hg_ hnew_; clear hg_ hnew_; (first | rw [← Ny382.out] at ho8 | (simp only [Int.reduceToNat] at ho8; rw [← Ny382.out] at ho8)); have HO384 := aU (Kd.R_lower ho8 (below_size hbU)); replace HB := bsU hb; clear hb ho8))
    go_loopg [0, 6, 24] kj2 (fun kq v0 v6 v24 w' => ∃ (x0_2 : Int) (x6_2 : List Int) (x24_2 : Int), v0 = .int .i64 x0_2 ∧ v24 = .int .i64 x24_2 ∧ Aside0 (spec_PlayLeg.l0 kq x0_2 x6_2 l1 (l1.length : Int) x24_2 = some (r1, r2)) ∧ Aside0 (kq ≤ kj2) ∧ Aside0 (Kd.R (Kd.int .i64) 3 w' w.heap.size (fun _ => True) v6 x6_2) ∧ Aside0 (Below w.heap.size w w'))
    case atStart => exact ⟨(a0), (y382), (0), eqU, eqU, H', ⟨Nat.le_refl _⟩, ⟨roU HO384⟩, ⟨hbU⟩⟩
    case round =>
     clear H'
     (try clear c6)
     obtain ⟨x0_2, x6_2, x24_2, rfl, rfl, HA, HK2, HO_6, HB⟩ := hrel
     cases gk with
     | zero => exact absurd HA.out (by simp [spec_PlayLeg.l0])
     | succ k2 =>
      have H := HA.out
      clear HA
      simp only [spec_PlayLeg.l0] at H
      by_cases c9 : x24_2 < (l1.length : Int)
      ·rw [if_pos c9] at H
       have c9b0 : decide (x24_2 < (l1.length : Int)) = true := decide_eq_true c9
       clear c9
       replace H := ifS H
       obtain ⟨c10, H⟩ := H
       have c10b0 : decide (0 ≤ x24_2) = true := decide_eq_true c10
       clear c10
       replace H := ifS H
       obtain ⟨c11, H⟩ := H
       have c11b0 : decide (x24_2 < (l1.length : Int)) = true := decide_eq_true c11
       clear c11
       replace H := bindS H
       obtain ⟨t386, A12, H⟩ := H
       (try dsimp only at H)
       by_cases c13 : t386 = true
       ·subst c13
        rw [if_pos rfl] at H
        replace H := bindS H
        obtain ⟨⟨t387, t388, t389⟩, A14, H⟩ := H
        (try dsimp only at H)
        by_cases c15 : t389 = true
        ·subst c15
         rw [if_pos rfl] at H
         replace H := ifS H
         obtain ⟨c16, H⟩ := H
         have LMc16 := aU c16
         clear c16
         obtain ⟨y390, hy390⟩ : ∃ y_ : List Int, y_ = (x6_2 ++ [t387]) := ⟨_, rfl⟩
         replace H : (spec_PlayLeg.l0 k2 t387 y390 l1 (l1.length : Int) (wrap64 (x24_2 + 1))) = some (r1, r2) := by first | (rw [hy390]; with_reducible exact H) | (have H2_ := (Option.bind_some _ _).symm.trans H; rw [hy390]; with_reducible exact H2_) | (have H2_ := (Option.bind_some _ _).symm.trans H; with_reducible exact H2_) | with_reducible exact H | (rw [hy390]; exact H) | exact H
         have Ny390 := aU hy390
         clear hy390
         have H' := aU H
         clear H
         have p385 : 0 ≤ (x24_2 : Int) := dU
         have q385 : x24_2 < (l1.length : Int) := dU
         obtain ⟨ad385, A385_0, c385_0, e385, hx385_0, hl385_0, hi385_0⟩ := at_L3 HR1.out x24_2 p385 q385
         cases e385
         replace hx385_0 := (HB.out.cell (World.block_lt_of_cell? w _ hx385_0)).trans hx385_0
         have HR385_0 := aU hi385_0
         have HC385_0 := aU hl385_0
         clear hi385_0 hl385_0
         replace p385 := eq_true p385
         replace q385 := eq_true q385
         go_wp2_with (first | ((with_reducible refine gcU 102 rfl ?_); refine goU (some 30) Tryz.func102 #[.int .i64 x0_2, .slice A385_0 (rd_L3 l1 x24_2).length c385_0] ?_; (with_reducible refine (spec_daAsked.calls k2 x0_2 _ _ (rd_L3 l1 x24_2) true _ ?side1 ?side2 A12.out).mono ?_); (case side1 => repeat (first | exact (Kd.C_below HR385_0.out HB.out) | (with_reducible refine Kd.C_alloc ?_ _) | (with_reducible refine Kd.C_drewN ?_ _) | (with_reducible refine Kd.C_drew ?_))); (case side2 => exact HC385_0.out); rintro e w17 ⟨rfl, hb⟩; refine ⟨_, rfl, ?_⟩; replace HO_6 := aU (Kd.R_below (roU HO_6) hb); replace HB := bsU hb; (try clear hb)) | ((with_reducible refine gcU 103 rfl ?_); refine goU (some 35) Tryz.func103 #[.int .i64 x0_2, .slice A385_0 (rd_L3 l1 x24_2).length c385_0] ?_; (with_reducible refine (spec_daVisit.calls k2 x0_2 _ _ (rd_L3 l1 x24_2) t387 t388 true _ ?side1 ?side2 A14.out).mono ?_); (case side1 => repeat (first | exact (Kd.C_below HR385_0.out HB.out) | (with_reducible refine Kd.C_alloc ?_ _) | (with_reducible refine Kd.C_drewN ?_ _) | (with_reducible refine Kd.C_drew ?_))); (case side2 => exact HC385_0.out); rintro e w18 ⟨rfl, hb⟩; refine ⟨_, rfl, ?_⟩; replace HO_6 := aU (Kd.R_below (roU HO_6) hb); replace HB := bsU hb; (try clear hb)) | ((with_reducible refine gate_builtin (b := .append) (xs := #[.tmp 42, .tmp 44]) rfl ?_); (try (refine gate_guard (by rfl) ?_; dsimp only)); at_builtin; refine Kd.R_append (Kd.int .i64) (w0 := w) w.heap.size rfl (.tmp 42) (.tmp 44) 56 3 (.int .i64 0) 8 rfl Tryz.underlying56 info3 rfl (by decide) (by omega) u6 x6_2 t387 [.int .i64 t387] (fun _ => True) (fun _ => False) rfl rfl ?aP (fun _ hk => hk.elim) ?aF ?aO ?aB ?aS ?aL ?_; (case aP => exact rfl); (case aB => exact hbU); (case aF => exact (fun _ _ => trivial)); (case aO => exact (roU HO_6)); (case aS => exact (below_size hbU)); (case aL => have := LMc16.out; omega); intro v391 w19 ho hb hg hat; rw [← Ny390.out] at ho; replace HB := aU (hb); have HO392 := aU (ho); clear HO_6; clear ho hb hg hat))
         go_roundg k2
         case measure => have := HJ2.out; have := HK2.out; omega
         case rel => exact ⟨(t387), (y390), (wrap64 (x24_2 + 1)), eqU, eqU, H', ⟨by have := HJ2.out; have := HK2.out; omega⟩, ⟨roU HO392⟩, ⟨hbU⟩⟩
        ·replace c15 := Bool.eq_false_iff.mpr c15
         subst c15
         rw [if_neg (show ¬ (false = true) by decide)] at H
         simp only [Option.some.injEq, Prod.mk.injEq] at H
         obtain ⟨rfl, rfl⟩ := H
         have p385 : 0 ≤ (x24_2 : Int) := dU
         have q385 : x24_2 < (l1.length : Int) := dU
         obtain ⟨ad385, A385_0, c385_0, e385, hx385_0, hl385_0, hi385_0⟩ := at_L3 HR1.out x24_2 p385 q385
         cases e385
         replace hx385_0 := (HB.out.cell (World.block_lt_of_cell? w _ hx385_0)).trans hx385_0
         have HR385_0 := aU hi385_0
         have HC385_0 := aU hl385_0
         clear hi385_0 hl385_0
         replace p385 := eq_true p385
         replace q385 := eq_true q385
         go_wp2_with (first | ((with_reducible refine gcU 102 rfl ?_); refine goU (some 30) Tryz.func102 #[.int .i64 x0_2, .slice A385_0 (rd_L3 l1 x24_2).length c385_0] ?_; (with_reducible refine (spec_daAsked.calls k2 x0_2 _ _ (rd_L3 l1 x24_2) true _ ?side1 ?side2 A12.out).mono ?_); (case side1 => repeat (first | exact (Kd.C_below HR385_0.out HB.out) | (with_reducible refine Kd.C_alloc ?_ _) | (with_reducible refine Kd.C_drewN ?_ _) | (with_reducible refine Kd.C_drew ?_))); (case side2 => exact HC385_0.out); rintro e w20 ⟨rfl, hb⟩; refine ⟨_, rfl, ?_⟩; replace HO_6 := aU (Kd.R_below (roU HO_6) hb); replace HB := bsU hb; (try clear hb)) | ((with_reducible refine gcU 103 rfl ?_); refine goU (some 35) Tryz.func103 #[.int .i64 x0_2, .slice A385_0 (rd_L3 l1 x24_2).length c385_0] ?_; (with_reducible refine (spec_daVisit.calls k2 x0_2 _ _ (rd_L3 l1 x24_2) t387 t388 false _ ?side1 ?side2 A14.out).mono ?_); (case side1 => repeat (first | exact (Kd.C_below HR385_0.out HB.out) | (with_reducible refine Kd.C_alloc ?_ _) | (with_reducible refine Kd.C_drewN ?_ _) | (with_reducible refine Kd.C_drew ?_))); (case side2 => exact HC385_0.out); rintro e w21 ⟨rfl, hb⟩; refine ⟨_, rfl, ?_⟩; replace HO_6 := aU (Kd.R_below (roU HO_6) hb); replace HB := bsU hb; (try clear hb)))
         go_ret2
         exact ⟨_, errU, by first | exact Kd.R_nil _ _ _ _ _ | exact Kd.N_nil _ _ _ _ _ | exact Kd.V_nil _ _ _ _ _ | exact Kd.Q_nil _ _ _ _ _ | exact Kd.S_nil _ _ _ _ _, hbU⟩
       ·replace c13 := Bool.eq_false_iff.mpr c13
        subst c13
        rw [if_neg (show ¬ (false = true) by decide)] at H
        simp only [Option.some.injEq, Prod.mk.injEq] at H
        obtain ⟨rfl, rfl⟩ := H
        have p385 : 0 ≤ (x24_2 : Int) := dU
        have q385 : x24_2 < (l1.length : Int) := dU
        obtain ⟨ad385, A385_0, c385_0, e385, hx385_0, hl385_0, hi385_0⟩ := at_L3 HR1.out x24_2 p385 q385
        cases e385
        replace hx385_0 := (HB.out.cell (World.block_lt_of_cell? w _ hx385_0)).trans hx385_0
        have HR385_0 := aU hi385_0
        have HC385_0 := aU hl385_0
        clear hi385_0 hl385_0
        replace p385 := eq_true p385
        replace q385 := eq_true q385
        go_wp2_with (first | ((with_reducible refine gcU 102 rfl ?_); refine goU (some 30) Tryz.func102 #[.int .i64 x0_2, .slice A385_0 (rd_L3 l1 x24_2).length c385_0] ?_; (with_reducible refine (spec_daAsked.calls k2 x0_2 _ _ (rd_L3 l1 x24_2) false _ ?side1 ?side2 A12.out).mono ?_); (case side1 => repeat (first | exact (Kd.C_below HR385_0.out HB.out) | (with_reducible refine Kd.C_alloc ?_ _) | (with_reducible refine Kd.C_drewN ?_ _) | (with_reducible refine Kd.C_drew ?_))); (case side2 => exact HC385_0.out); rintro e w22 ⟨rfl, hb⟩; refine ⟨_, rfl, ?_⟩; replace HO_6 := aU (Kd.R_below (roU HO_6) hb); replace HB := bsU hb; (try clear hb)))
        go_ret2
        exact ⟨_, errU, by first | exact Kd.R_nil _ _ _ _ _ | exact Kd.N_nil _ _ _ _ _ | exact Kd.V_nil _ _ _ _ _ | exact Kd.Q_nil _ _ _ _ _ | exact Kd.S_nil _ _ _ _ _, hbU⟩
      ·rw [if_neg c9] at H
       have c9b0 : decide (x24_2 < (l1.length : Int)) = false := decide_eq_false c9
       clear c9
       simp only [Option.some.injEq, Prod.mk.injEq] at H
       obtain ⟨rfl, rfl⟩ := H
       go_wp2
       go_ret2
       exact ⟨_, errU, by (with_reducible repeat (first | apply Kd.R_alloc | apply Kd.R_drewN | apply Kd.R_drew)); exact HO_6.out, hbU⟩
def spec_DrawScoreOf.f (k : Nat) (l0 : List Int) : Option ((List (S52))) := (spec_l1Cur_darts.f k l0 0 0 10).bind fun bt394 => (some bt394.1)
theorem spec_DrawScoreOf.mono : ∀ a0 k, LeO (spec_DrawScoreOf.f k a0) (spec_DrawScoreOf.f (k + 1) a0) := by
 intro a0 k
 unfold spec_DrawScoreOf.f
 repeat' first
   | (with_reducible exact spec_l1Cur_darts.mono _ _ _ _ _)
   | (with_reducible exact LeO.refl _)
   | (with_reducible exact LeO.none _)
   | (with_reducible refine LeO.ite ?_ ?_)
   | (with_reducible refine LeO.bind ?_ (fun _ => ?_))
set_option maxHeartbeats 8000000 in
set_option maxRecDepth 100000 in
theorem spec_DrawScoreOf.calls (k : Nat) (A0 : Option Addr) (c0 : Nat) (l0 : List Int) (r : List (S52)) (w : World) (hr0 : Kd.C (Kd.int .u8) w A0 l0.length l0) (hc0 : l0.length ≤ c0) (h : spec_DrawScoreOf.f k l0 = some r) :
  Calls Tryz.prog 48 #[.slice A0 l0.length c0] w fun e w' => ∃ v0_ : Value, e = .returned (v0_) ∧ Kd.R k52 52 w' w.heap.size (fun _ => True) v0_ r ∧ Below w.heap.size w w' := by
 have hu78 := Tryz.underlying78
 have HR0 := aU hr0
 have HC0 := aU hc0
 clear hr0 hc0
 have HB := aU (Below.refl w.heap.size w)
 have H : ((spec_l1Cur_darts.f k l0 0 0 10).bind fun bt394 => (some bt394.1)) = some r := h
 clear h
 replace H := bindS H
 obtain ⟨⟨t394, t397, t398⟩, A2, H⟩ := H
 (try dsimp only at H)
 obtain rfl := Option.some.inj H
 go_enter Tryz.func48, Tryz.ntmps48
 go_wp2_with (first | ((with_reducible refine gdU 6 rfl ?_); refine bxU (cs := #[.slice A0 l0.length c0, .int .i64 0, .int .u64 0]) (t := 78) ?_; intro gb393 hg w3 hbox hb; have HI393 := aU ((⟨_, _, hbox, (by rw [hg]; exact (below_size hbU) : w.heap.size ≤ gb393), HR0.out⟩ : IsS78 w w3 gb393 l0 0 0)); have GW393 := geU hg; have GE393 := geU hg; replace HB := bsU hb; clear hb hbox hg) | ((with_reducible refine gcU 105 rfl ?_); refine goU (some 8) Tryz.func105 #[.pointer (some ⟨gb393, 0, none⟩), .int .i64 10] ?_; (with_reducible refine (spec_l1Cur_darts.calls k gb393 l0 0 0 10 t394 t397 t398 w _ ?side1 ?side2 A2.out).mono ?_); (case side1 => exact isU HI393); (case side2 => exact hbU); rintro e w4 ⟨v395, rfl, ho0, hi, hb, hk⟩; refine ⟨_, rfl, ?_⟩; have HO396 := aU (Kd.R_lower ho0 (below_size hbU)); replace HB := aU (hb); replace HI393 := aU (hi); (try clear ho0 hi hb hk)))
 go_ret
 exact ⟨_, errU, by (with_reducible repeat (first | apply Kd.R_alloc | apply Kd.R_drewN | apply Kd.R_drew)); exact HO396.out, hbU⟩
end Go.Proofs.YtcmlmjgoidpabaaGreatDoor.MFnDartsPlayed

