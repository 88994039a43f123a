/- What the reading of rolls answers: for every number of frames and every list of rolls. -/
import Derived.Test.YtdioconinnpmmaaDoorLaneA
import Derived.Test.YtdioconinnpmmaaDoorLaneB
import Derived.Test.YtdioconinnpmmaaDoorLaneC
set_option linter.unusedVariables false
set_option linter.unusedSimpArgs false
namespace Go.Proofs.YtdioconinnpmmaaDoor.Lane
open Go.RowKit Go.Proofs.YtdioconinnpmmaaDoorW.PrintWords Go.Proofs.YtdioconinnpmmaaDoorW.PrintLast
def newV (F : Nat) (bg : List (List Int)) : Bool := bg.length == 0 || (decide ((bg.length : Int) - 1 < (F : Int) - 1) && doneV (bg.getD (bg.length - 1) []))
def begV (F : Nat) (bg : List (List Int)) (n : Int) : List (List Int) :=
  if newV F bg = true then (bg ++ [[]]).set bg.length [n] else bg.set (bg.length - 1) (bg.getD (bg.length - 1) [] ++ [n])
def mayV (F : Nat) (bg : List (List Int)) (pins n : Int) : Bool := !allV F bg && decide (0 ≤ n ∧ n ≤ pins)
/-- The lane's frames are as they can be. -/
def Good (F : Nat) (bg : List (List Int)) : Prop := Few bg ∧ bg.length ≤ F ∧ ∀ i (h : i < bg.length), i + 1 < F → bg[i].length ≤ 2
theorem roll_calls {w : World} {base g F : Nat} {own : Nat → Prop} {bg : List (List Int)} {fresh : Bool} {pins : Int} (n : Int)
    (h : LN w base own g (F : Int) bg pins fresh) (hF : 1 ≤ F) (hF9 : F ≤ 10) (hs : Good F bg) (p1 : pins ≤ 10) :
    Calls Tryd.prog 17 #[.pointer (some ⟨g, 0, none⟩), .int .i64 n] w fun e w' => e = .returned (.bool (mayV F bg pins n)) ∧
      if mayV F bg pins n = true then ∃ own', LN w' base own' g F (begV F bg n) (endV F ((begV F bg n).length - 1) (begV F bg n) (pins - n)).1 (endV F ((begV F bg n).length - 1) (begV F bg n) (pins - n)).2 ∧ Went base own own' w w'
      else Drawn0 w w' := by
  obtain ⟨hf, hl, hg⟩ := hs
  unfold mayV
  cases ha : allV F bg with
  | true =>
    refine (roll_all w base g F own bg fresh pins n h hF hf ha).mono ?_
    rintro e w' ⟨rfl, hd⟩
    exact ⟨rfl, hd⟩
  | false =>
    cases hn : decide (0 ≤ n ∧ n ≤ pins) with
    | false =>
      refine (roll_out w base g F own bg fresh pins n h hF hf ha hn).mono ?_
      rintro e w' ⟨rfl, hd⟩
      exact ⟨rfl, hd⟩
    | true =>
      obtain ⟨n0, n1⟩ := of_decide_eq_true hn
      simp only [Bool.not_false, Bool.and_self, if_true]
      by_cases h0 : bg.length = 0
      · have hb : begV F bg n = (bg ++ [[]]).set bg.length ([] ++ [n]) := by simp [begV, newV, h0]
        rw [hb]
        have hlen : ((bg ++ [[]]).set bg.length ([] ++ [n])).length - 1 = bg.length := by simp
        rw [hlen]
        exact roll_first w base g F bg.length own bg fresh pins n _ h hF hf ha rfl (bg.length + 1) rfl [] rfl (bg ++ [[]]) rfl h0 (by omega) n0 n1 p1 hF9 rfl
      · obtain ⟨m, hm⟩ : ∃ m, bg.length = m + 1 := ⟨bg.length - 1, by omega⟩
        have hm0 : m < bg.length := by omega
        have hgd : bg.getD (bg.length - 1) [] = bg[m] := by
          rw [hm, Nat.add_sub_cancel, List.getD_eq_getElem?_getD, List.getElem?_eq_getElem hm0]
          rfl
        have hq0 : decide ((bg.length : Int) - 1 < (F : Int) - 1) = decide ((m : Int) < (F : Int) - 1) := by
          have : (bg.length : Int) - 1 = (m : Int) := by omega
          rw [this]
        cases hq : decide ((m : Int) < (F : Int) - 1) with
        | false =>
          have hb : begV F bg n = bg.set m (bg[m] ++ [n]) := by
            unfold begV newV
            rw [hgd, hq0, hq, show (bg.length == 0) = false by simpa using h0, hm]
            simp
          rw [hb]
          have hlen : (bg.set m (bg[m] ++ [n])).length - 1 = m := by simp [hm]
          rw [hlen]
          exact roll_old w base g F bg.length own bg fresh pins n _ h hF hf ha rfl m hm hm0 (by intro h; cases h) (by omega) n0 n1 p1 hF9 hq
        | true =>
          cases hd : doneV bg[m] with
          | false =>
            have hb : begV F bg n = bg.set m (bg[m] ++ [n]) := by
              unfold begV newV
              rw [hgd, hq0, hq, hd, show (bg.length == 0) = false by simpa using h0, hm]
              simp
            rw [hb]
            have hlen : (bg.set m (bg[m] ++ [n])).length - 1 = m := by simp [hm]
            rw [hlen]
            exact roll_old w base g F bg.length own bg fresh pins n _ h hF hf ha rfl m hm hm0 (fun _ => hd) (by omega) n0 n1 p1 hF9 hq
          | true =>
            have hb : begV F bg n = (bg ++ [[]]).set bg.length ([] ++ [n]) := by
              unfold begV newV
              rw [hgd, hq0, hq, hd]
              simp
            rw [hb]
            have hlen : ((bg ++ [[]]).set bg.length ([] ++ [n])).length - 1 = bg.length := by simp
            rw [hlen]
            exact roll_next w base g F bg.length own bg fresh pins n _ h hF hf ha rfl (bg.length + 1) rfl [] rfl (bg ++ [[]]) rfl m hm hm0 hq hd (by omega) n0 n1 p1 hF9 rfl
theorem good_beg {F : Nat} {bg : List (List Int)} {pins n : Int} (hF : 1 ≤ F) (hs : Good F bg) (h : mayV F bg pins n = true) (p1 : pins ≤ 10) : Good F (begV F bg n) := by
  obtain ⟨hf, hl, hg⟩ := hs
  unfold mayV at h
  simp only [Bool.and_eq_true, Bool.not_eq_true', decide_eq_true_eq] at h
  obtain ⟨ha, n0, n1⟩ := h
  unfold begV
  cases hn : newV F bg with
  | true =>
    simp only [if_true]
    have e : (bg ++ [[]]).set bg.length [n] = bg ++ [[n]] := by simp
    rw [e]
    refine ⟨?_, ?_, ?_⟩
    · intro r hr
      rcases List.mem_append.1 hr with hr | hr
      · exact hf r hr
      · obtain rfl : r = [n] := by simpa using hr
        exact ⟨by simp, by simp, fun x hx => by obtain rfl : x = n := by simpa using hx
                                                omega⟩
    · rw [List.length_append]
      unfold newV at hn
      simp only [Bool.or_eq_true, beq_iff_eq, Bool.and_eq_true, decide_eq_true_eq] at hn
      have : ([[n]] : List (List Int)).length = 1 := rfl
      omega
    · intro i hi hF'
      by_cases h : i < bg.length
      · rw [List.getElem_append_left h]
        exact hg i h hF'
      · rw [List.getElem_append_right (by omega)]
        simp
  | false =>
    simp only [Bool.false_eq_true, if_false]
    unfold newV at hn
    simp only [Bool.or_eq_false_iff, beq_eq_false_iff_ne, Bool.and_eq_false_iff, decide_eq_false_iff_not] at hn
    obtain ⟨h0, hn⟩ := hn
    obtain ⟨m, hm⟩ : ∃ m, bg.length = m + 1 := ⟨bg.length - 1, by omega⟩
    have hm0 : m < bg.length := by omega
    have hgd : bg.getD (bg.length - 1) [] = bg[m] := by
      rw [hm, Nat.add_sub_cancel, List.getD_eq_getElem?_getD, List.getElem?_eq_getElem hm0]
      rfl
    rw [hgd] at hn ⊢
    rw [hm, Nat.add_sub_cancel]
    have hr := hf bg[m] (List.getElem_mem _)
    have hlen : bg[m].length ≤ 2 ∧ (m + 1 < F → bg[m].length ≤ 1) := by
      by_cases hq : m + 1 < F
      · have h2 := hg m hm0 hq
        rcases hn with hn | hn
        · omega
        · unfold doneV at hn
          simp only [Bool.or_eq_false_iff, beq_eq_false_iff_ne] at hn
          exact ⟨h2, fun _ => by have := hn.1; omega⟩
      · refine ⟨?_, fun h => absurd h hq⟩
        have e : F = m + 1 := by omega
        unfold allV at ha
        rw [if_neg (by omega)] at ha
        have e2 : bg.getD (F - 1) [] = bg[m] := by rw [← hgd, e, hm]
        rw [e2] at ha
        have h3 := hr.2.1
        match hx : bg[m], h3 with
        | [], _ => simp
        | [a], _ => simp
        | [a, b], _ => simp
        | [a, b, c], _ => rw [hx] at ha; simp at ha
    refine ⟨?_, by rw [List.length_set]; exact hl, ?_⟩
    · intro r hr'
      rcases List.mem_or_eq_of_mem_set hr' with h | rfl
      · exact hf r h
      · refine ⟨by simp, by rw [List.length_append]; simp; omega, fun x hx => ?_⟩
        rcases List.mem_append.1 hx with hx | hx
        · exact hr.2.2 x hx
        · obtain rfl : x = n := by simpa using hx
          omega
    · intro i hi hF'
      rw [List.length_set] at hi
      rw [List.getElem_set]
      split
      · next e =>
        subst e
        rw [List.length_append]
        have := hlen.2 hF'
        simp
        omega
      · exact hg i hi hF'
theorem end_pins {F k : Nat} {bg : List (List Int)} {pins n : Int} (h : 0 ≤ n ∧ n ≤ pins) (p : pins ≤ 10) : 0 ≤ (endV F k bg (pins - n)).1 ∧ (endV F k bg (pins - n)).1 ≤ 10 := by
  unfold endV
  split
  · simp
  · simp only
    omega
set_option maxRecDepth 100000 in
set_option maxHeartbeats 4000000 in
theorem new_calls (w : World) (F : Int) : Calls Tryd.prog 15 #[.int .i64 F] w fun e w' => e = .returned (.pointer (some ⟨w.heap.size, 0, none⟩)) ∧ ∃ n, w' = (w.drewN n).alloc (.cells #[.int .i64 F, .slice none 0 0, .int .i64 10, .bool true] 37) := by
  go_enter Tryd.func15, Tryd.ntmps15
  go_wp2
  go_ret
  exact ⟨rfl, 0, rfl⟩
/-- The lane before the first ball. -/
theorem LN.start (w : World) (base n : Nat) (F : Int) (hb : base ≤ w.heap.size) :
    LN ((w.drewN n).alloc (.cells #[.int .i64 F, .slice none 0 0, .int .i64 10, .bool true] 37)) base (fun k => w.heap.size ≤ k) w.heap.size F [] 10 true := by
  refine ⟨.slice none 0 0, [], heap_alloc_new (w.drewN n) _, hb, Nat.le_refl _, own_nil _ _ _ _, fun k hk => by simp [Value.ownBlock] at hk, rfl, fun i h => absurd h (by simp), fun i j h => absurd h (by simp)⟩
theorem good_start (F : Nat) : Good F [] := ⟨fun r hr => by simp at hr, Nat.zero_le _, fun i h => absurd h (by simp)⟩
/-- What balls have led to: none where one of them cannot be rolled. -/
def rollsV (F : Nat) : List Int → List (List Int) × Int × Bool → Option (List (List Int) × Int × Bool)
  | [], s => some s
  | n :: ns, s => if mayV F s.1 s.2.1 n = true then rollsV F ns (begV F s.1 n, endV F ((begV F s.1 n).length - 1) (begV F s.1 n) (s.2.1 - n)) else none
def readV (F : Int) (xs : List Int) : Option (List (List Int) × Int × Bool) :=
  if 1 ≤ F ∧ F ≤ 10 ∧ xs.length ≤ 21 then rollsV F.toNat xs ([], 10, true) else none
def ReadPost (F : Nat) (xs : List Int) (w : World) (e : Ending) (w' : World) : Prop := Below w.heap.size w w' ∧ match rollsV F xs ([], 10, true) with
      | none => e = .returned (.tuple #[.pointer none, .bool false])
      | some s => e = .returned (.tuple #[.pointer (some ⟨w.heap.size, 0, none⟩), .bool true]) ∧ ∃ own, LN w' w.heap.size own w.heap.size F s.1 s.2.1 s.2.2 ∧ Good F s.1 ∧ 0 ≤ s.2.1 ∧ s.2.1 ≤ 10
set_option maxRecDepth 100000 in
set_option maxHeartbeats 8000000 in
theorem read_walk (w : World) (F : Nat) (A : Option Addr) (c : Nat) (xs : List Int) (hF : 1 ≤ F) (hF9 : F ≤ 10) (hx : xs.length ≤ 21) (hr : ReadsInt w .i64 A xs.length xs) :
    Calls Tryd.prog 32 #[.int .i64 (F : Int), .slice A xs.length c] w fun e w' => ReadPost F xs w e w' := by
  have t1 : decide (1 ≤ (F : Int) ∧ (F : Int) ≤ 10) = true := decide_eq_true (by omega)
  have t2 : decide ((21 : Int) < (xs.length : Int)) = false := decide_eq_false (by omega)
  have HR := Aside0.mk hr
  have HX := Aside0.mk hx
  clear hr hx
  go_enter Tryd.func32, Tryd.ntmps32
  go_wp2_with (first | (go_at_call 14; refine (within_calls _ _ _ _).mono ?_; rw [t1]; rintro e w' ⟨rfl, ⟨nd, rfl⟩⟩) | (go_at_call 15; refine (new_calls _ _).mono ?_; rintro e w' ⟨rfl, nd, rfl⟩))
  go_loopg [21] (xs.length + 1) (fun kq v21 w' => ∃ (i : Nat) (bg : List (List Int)) (p : Int) (f : Bool) (own : Nat → Prop), v21 = .int .i64 (i : Int) ∧ Aside0 (i + kq = xs.length + 1 ∧ i ≤ xs.length) ∧ Aside0 (rollsV F (xs.drop i) (bg, p, f) = rollsV F xs ([], 10, true)) ∧ Aside0 (LN w' w.heap.size own w.heap.size F bg p f) ∧ Aside0 (Good F bg ∧ 0 ≤ p ∧ p ≤ 10) ∧ Aside0 (Below w.heap.size w w'))
  case atStart => exact ⟨0, [], 10, true, fun k => w.heap.size ≤ k, by simp, ⟨by omega⟩, ⟨by simp⟩, ⟨LN.start w w.heap.size _ F (Nat.le_refl _)⟩, ⟨good_start F, by decide, by decide⟩, ⟨below_alloc (pw_below_drewN (Below.refl _ _) _) _⟩⟩
  case round =>
    obtain ⟨i, bg, p, f, own, rfl, HI, HV, HL, HG, HB⟩ := hrel
    by_cases hi : i < xs.length
    · obtain ⟨ad, rfl, hc⟩ := HR.out.2.2 (by omega)
      have hci := pw_cell_below HB.out (hc i hi)
      have u1 : decide ((i : Int) < (xs.length : Int)) = true := decide_eq_true (by omega)
      have u2 : decide (i < xs.length) = true := decide_eq_true hi
      have hst : rollsV F (xs.drop i) (bg, p, f) = if mayV F bg p (xs.getD i 0) = true then rollsV F (xs.drop (i + 1)) (begV F bg (xs.getD i 0), endV F ((begV F bg (xs.getD i 0)).length - 1) (begV F bg (xs.getD i 0)) (p - xs.getD i 0)) else none := by
        rw [List.drop_eq_getElem_cons hi]
        show (if mayV F bg p xs[i] = true then _ else _) = _
        simp [List.getD_eq_getElem?_getD, List.getElem?_eq_getElem hi]
      rw [hst] at HV
      clear hst hc
      generalize xs.getD i 0 = x at *
      have HI0 := Aside0.mk hi
      cases hm : mayV F bg p x with
      | false =>
        rw [hm] at HV
        go_wp2_with (go_at_call 17; refine (roll_calls _ HL.out hF hF9 HG.out.1 HG.out.2.2).mono ?_; rw [hm]; rintro e w' ⟨rfl, ⟨nd, rfl⟩⟩)
        go_ret2
        have hv : rollsV F xs ([], 10, true) = none := by rw [← HV.out]; rfl
        unfold ReadPost
        refine ⟨by first | exact HB.out | exact pw_below_drewN HB.out _, ?_⟩
        rw [hv]
        rfl
      | true =>
        rw [hm] at HV
        go_wp2_with (go_at_call 17; refine (roll_calls _ HL.out hF hF9 HG.out.1 HG.out.2.2).mono ?_; rw [hm]; rintro e w' ⟨rfl, hw'⟩)
        rw [if_pos trivial] at hw'
        obtain ⟨own', hL', hW'⟩ := hw'
        go_roundg (gk - 1)
        case measure => have := HI.out; omega
        case rel =>
          refine ⟨i + 1, _, _, _, own', ?_, ⟨by have := HI.out; omega⟩, HV, ⟨hL'⟩, ⟨good_beg hF HG.out.1 hm HG.out.2.2, ?_⟩, ⟨HB.out.trans hW'.below⟩⟩
          · have : wrap64 ((i : Int) + 1) = ((i + 1 : Nat) : Int) := by
              have := HI.out
              have := HX.out
              unfold wrap64
              omega
            first | rfl | simp [this] | (rw [wrapK, this])
          · have hm2 := hm
            unfold mayV at hm2
            simp only [Bool.and_eq_true, decide_eq_true_eq] at hm2
            exact end_pins hm2.2 HG.out.2.2
    · have u1 : decide ((i : Int) < (xs.length : Int)) = false := decide_eq_false (by omega)
      have u2 : decide (i < xs.length) = false := decide_eq_false hi
      clear hi
      go_wp2
      repeat (go_quiet (fail); try go_wp2)
      go_ret2
      have hv : rollsV F xs ([], 10, true) = some (bg, p, f) := by
        rw [← HV.out, List.drop_eq_nil_of_le (by have := of_decide_eq_false u2; omega)]
        rfl
      unfold ReadPost
      refine ⟨by first | exact HB.out | exact pw_below_drewN HB.out _, ?_⟩
      rw [hv]
      exact ⟨rfl, own, HL.out, HG.out⟩
set_option maxRecDepth 100000 in
set_option maxHeartbeats 8000000 in
theorem read_no1 (w : World) (F : Int) (A : Option Addr) (n c : Nat) (t1 : decide (1 ≤ F ∧ F ≤ 10) = false) :
    Calls Tryd.prog 32 #[.int .i64 F, .slice A n c] w fun e w' => e = .returned (.tuple #[.pointer none, .bool false]) ∧ Drawn0 w w' := by
  go_enter Tryd.func32, Tryd.ntmps32
  go_wp2_with (go_at_call 14; refine (within_calls _ _ _ _).mono ?_; rw [t1]; rintro e w' ⟨rfl, ⟨nd, rfl⟩⟩)
  go_ret2
  exact ⟨rfl, by repeat (first | exact Drawn0.refl _ | apply Drawn0.step)⟩
set_option maxRecDepth 100000 in
set_option maxHeartbeats 8000000 in
theorem read_no2 (w : World) (F : Int) (A : Option Addr) (n c : Nat) (t1 : decide (1 ≤ F ∧ F ≤ 10) = true) (t2 : decide ((21 : Int) < (n : Int)) = true) :
    Calls Tryd.prog 32 #[.int .i64 F, .slice A n c] w fun e w' => e = .returned (.tuple #[.pointer none, .bool false]) ∧ Drawn0 w w' := by
  go_enter Tryd.func32, Tryd.ntmps32
  go_wp2_with (go_at_call 14; refine (within_calls _ _ _ _).mono ?_; rw [t1]; rintro e w' ⟨rfl, ⟨nd, rfl⟩⟩)
  go_ret2
  exact ⟨rfl, by repeat (first | exact Drawn0.refl _ | apply Drawn0.step)⟩
/-- What readRolls answers. -/
def ReadAll (F : Int) (xs : List Int) (w : World) (e : Ending) (w' : World) : Prop := Below w.heap.size w w' ∧ match readV F xs with
      | none => e = .returned (.tuple #[.pointer none, .bool false])
      | some s => e = .returned (.tuple #[.pointer (some ⟨w.heap.size, 0, none⟩), .bool true]) ∧ ∃ own, LN w' w.heap.size own w.heap.size F s.1 s.2.1 s.2.2 ∧ Good F.toNat s.1 ∧ 0 ≤ s.2.1 ∧ s.2.1 ≤ 10
theorem read_calls (w : World) (F : Int) (A : Option Addr) (c : Nat) (xs : List Int) (hr : ReadsInt w .i64 A xs.length xs) :
    Calls Tryd.prog 32 #[.int .i64 F, .slice A xs.length c] w fun e w' => ReadAll F xs w e w' := by
  unfold ReadAll readV
  by_cases h1 : 1 ≤ F ∧ F ≤ 10
  · by_cases h2 : xs.length ≤ 21
    · rw [if_pos ⟨h1.1, h1.2, h2⟩]
      obtain ⟨G, rfl⟩ : ∃ G : Nat, F = (G : Int) := ⟨F.toNat, by omega⟩
      refine (read_walk w G A c xs (by omega) (by omega) h2 hr).mono ?_
      intro e w' h
      exact h
    · rw [if_neg (fun h => h2 h.2.2)]
      refine (read_no2 w F A xs.length c (decide_eq_true h1) (decide_eq_true (by omega))).mono ?_
      rintro e w' ⟨rfl, hd⟩
      exact ⟨hd.below, rfl⟩
  · rw [if_neg (fun h => h1 ⟨h.1, h.2.1⟩)]
    refine (read_no1 w F A xs.length c (decide_eq_false h1)).mono ?_
    rintro e w' ⟨rfl, hd⟩
    exact ⟨hd.below, rfl⟩
end Go.Proofs.YtdioconinnpmmaaDoor.Lane
