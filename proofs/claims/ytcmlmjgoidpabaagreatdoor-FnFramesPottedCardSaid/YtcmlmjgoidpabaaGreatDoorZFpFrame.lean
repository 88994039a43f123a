/- What is told of each frame, reckoned out. -/
import Derived.Test.YtcmlmjgoidpabaaGreatDoorZFpBase
set_option linter.unusedVariables false
set_option linter.unusedSimpArgs false
namespace Go.Proofs.YtcmlmjgoidpabaaGreatDoor.Pure
open Go.RowKit Go.Proofs.YtcmlmjgoidpabaaGreatDoor.MFnFramesPotted Go.Proofs.YtcmlmjgoidpabaaGreatDoorW.PrintWords Go.Proofs.YtcmlmjgoidpabaaGreatDoorW.PrintLast
def cntL (r : Int) (c : Bool) (l : Int) : Int := match impl_BallsLeft.f 200 r c l with | some v => v.1 | none => 0
def highL (r : Int) (c : Bool) (l : Int) : Int := match impl_PointsLeft.f 200 r c l with | some v => v.1 | none => 0
def leastL (r : Int) (c : Bool) (l : Int) : Int := match impl_LeastBreak.f 200 r c l with | some v => v.1 | none => 0
def nextL (r : Int) (c : Bool) (l : Int) : ByteArray := match impl_Frame_next.f r c l with | some v => v | none => ⟨#[]⟩
def breakL (r : Int) (c : Bool) (l : Int) : ByteArray := match impl_HighestBreak.f 200 r c l with | some v => v.1 | none => ⟨#[]⟩
def textL (r : Int) (c : Bool) (l : Int) : ByteArray := match impl_FrameText.f 200 r c l with | some v => v.1 | none => ⟨#[]⟩
def sB (a b : ByteArray) : Bool := decide (a.data.toList = b.data.toList)
theorem sB_eq {a b : ByteArray} (h : sB a b = true) : a = b := ByteArray.ext (Array.ext' (of_decide_eq_true h))
def qS (o : Option (ByteArray × Bool)) (a : ByteArray) : Bool := match o with | some (x, true) => sB x a | _ => false
def qI (o : Option (Int × Bool)) (a : Int) : Bool := match o with | some (x, true) => decide (x = a) | _ => false
def qH (o : Option (ByteArray × Int × Bool)) (a : ByteArray) (p : Int) : Bool := match o with | some (x, y, true) => sB x a && decide (y = p) | _ => false
def qF (o : Option (Int × Bool × Int × Bool)) (r : Int) (c : Bool) (l : Int) : Bool := match o with | some (x, y, z, true) => decide (x = r) && (y == c) && decide (z = l) | _ => false
theorem qS_eq {o : Option (ByteArray × Bool)} {a : ByteArray} (h : qS o a = true) : o = some (a, true) := by
  unfold qS at h
  split at h
  · rw [sB_eq h]
  · cases h
theorem qI_eq {o : Option (Int × Bool)} {a : Int} (h : qI o a = true) : o = some (a, true) := by
  unfold qI at h
  split at h
  · rw [of_decide_eq_true h]
  · cases h
theorem qH_eq {o : Option (ByteArray × Int × Bool)} {a : ByteArray} {p : Int} (h : qH o a p = true) : o = some (a, p, true) := by
  unfold qH at h
  split at h
  · rw [Bool.and_eq_true] at h
    rw [sB_eq h.1, of_decide_eq_true h.2]
  · cases h
def tellB (r : Int) (c : Bool) (l : Int) : Bool :=
  qS (impl_NextBalls.f 200 r c l) (nextL r c l) && qS (spec_NextBalls.f 200 r c l) (nextL r c l) && qH (impl_HighestBreak.f 200 r c l) (breakL r c l) (highL r c l) && qH (spec_HighestBreak.f 200 r c l) (breakL r c l) (highL r c l) &&
  qI (impl_LeastBreak.f 200 r c l) (leastL r c l) && qI (spec_LeastBreak.f 200 r c l) (leastL r c l) && qI (impl_PointsLeft.f 200 r c l) (highL r c l) && qI (spec_PointsLeft.f 200 r c l) (highL r c l) &&
  qI (impl_BallsLeft.f 200 r c l) (cntL r c l) && qI (spec_BallsLeft.f 200 r c l) (cntL r c l) && qS (impl_FrameText.f 200 r c l) (textL r c l) && qS (spec_FrameText.f 200 r c l) (textL r c l)
def holdB (r : Int) (c : Bool) (l : Int) : Bool :=
  decide (((breakL r c l).size : Int) = cntL r c l) && decide (leastL r c l ≤ highL r c l) && decide (0 ≤ cntL r c l ∧ cntL r c l ≤ 36 ∧ 0 ≤ highL r c l ∧ highL r c l ≤ 147) &&
  (match impl_FrameAfter.f 200 r c l (breakL r c l) with | some (_, _, z, true) => decide (z = 8) | _ => false) && qI (impl_PointsOf.f 200 (breakL r c l)) (highL r c l) &&
  ((nextL r c l).data.toList.isEmpty == decide (l = 8)) && decide ((nextL r c l).size ≤ 6) &&
  ((nextL r c l).data.toList.all fun b => decide (49 ≤ b.toNat ∧ b.toNat ≤ 55) && goodB (potS r c l).1 (potS r c l).2.1 (potS r c l).2.2 && decide (cntL (potS r c l).1 (potS r c l).2.1 (potS r c l).2.2 = cntL r c l - 1) && decide ((b.toNat : Int) - 48 + highL (potS r c l).1 (potS r c l).2.1 (potS r c l).2.2 ≤ highL r c l)) &&
  decide ((nextL r c l).data.toList.Pairwise (· < ·))
def oI (o : Option Int) (a : Int) : Bool := match o with | some x => decide (x = a) | none => false
theorem oI_eq {o : Option Int} {a : Int} (h : oI o a = true) : o = some a := by
  unfold oI at h
  split at h
  · rw [of_decide_eq_true h]
  · cases h
def codeB (r : Int) (c : Bool) (l : Int) : Bool :=
  decide (3 ≤ (textL r c l).size ∧ (textL r c l).size ≤ 4) && oI (spec_l1Read.f 200 ((textL r c l).extract 0 ((textL r c l).size - 2))) r && ((bt (textL r c l) (((textL r c l).size - 2 : Nat) : Int) == 99) == c) &&
  oI (spec_l1Read.f 200 ((textL r c l).extract ((textL r c l).size - 1) (textL r c l).size)) l && (match spec_frText.f 200 r c l with | some t => sB t (textL r c l) | none => false)
set_option maxRecDepth 100000 in
theorem tell_all : ∀ r < 16, ∀ c : Bool, ∀ l < 9, goodB (r : Nat) c (l : Nat) = true → tellB (r : Nat) c (l : Nat) = true := by decide +kernel
set_option maxRecDepth 100000 in
theorem hold_all : ∀ r < 16, ∀ c : Bool, ∀ l < 9, goodB (r : Nat) c (l : Nat) = true → holdB (r : Nat) c (l : Nat) = true := by decide +kernel
set_option maxRecDepth 100000 in
theorem code_all : ∀ r < 16, ∀ c : Bool, ∀ l < 9, goodB (r : Nat) c (l : Nat) = true → codeB (r : Nat) c (l : Nat) = true := by decide +kernel
theorem all_of {p : Int → Bool → Int → Bool} (h : ∀ r < 16, ∀ c : Bool, ∀ l < 9, goodB (r : Nat) c (l : Nat) = true → p (r : Nat) c (l : Nat) = true) {r : Int} {c : Bool} {l : Int} (g : goodB r c l = true) : p r c l = true := by
  obtain ⟨h1, h2, h3, h4, _⟩ := good_range g
  obtain ⟨n, rfl⟩ : ∃ n : Nat, r = (n : Int) := ⟨r.toNat, by omega⟩
  obtain ⟨m, rfl⟩ : ∃ m : Nat, l = (m : Int) := ⟨l.toNat, by omega⟩
  exact h n (by omega) c m (by omega) g
structure Told (r : Int) (c : Bool) (l : Int) : Prop where
  inext : Tot (fun k => impl_NextBalls.f k r c l) (Eq (nextL r c l, true))
  snext : Tot (fun k => spec_NextBalls.f k r c l) (Eq (nextL r c l, true))
  ihigh : Tot (fun k => impl_HighestBreak.f k r c l) (Eq (breakL r c l, highL r c l, true))
  shigh : Tot (fun k => spec_HighestBreak.f k r c l) (Eq (breakL r c l, highL r c l, true))
  ileast : Tot (fun k => impl_LeastBreak.f k r c l) (Eq (leastL r c l, true))
  sleast : Tot (fun k => spec_LeastBreak.f k r c l) (Eq (leastL r c l, true))
  ileft : Tot (fun k => impl_PointsLeft.f k r c l) (Eq (highL r c l, true))
  sleft : Tot (fun k => spec_PointsLeft.f k r c l) (Eq (highL r c l, true))
  iballs : Tot (fun k => impl_BallsLeft.f k r c l) (Eq (cntL r c l, true))
  sballs : Tot (fun k => spec_BallsLeft.f k r c l) (Eq (cntL r c l, true))
  itext : Tot (fun k => impl_FrameText.f k r c l) (Eq (textL r c l, true))
  stext : Tot (fun k => spec_FrameText.f k r c l) (Eq (textL r c l, true))
theorem told {r : Int} {c : Bool} {l : Int} (g : goodB r c l = true) : Told r c l := by
  have h := all_of tell_all g
  unfold tellB at h
  simp only [Bool.and_eq_true] at h
  obtain ⟨⟨⟨⟨⟨⟨⟨⟨⟨⟨⟨h1, h2⟩, h3⟩, h4⟩, h5⟩, h6⟩, h7⟩, h8⟩, h9⟩, h10⟩, h11⟩, h12⟩ := h
  exact ⟨Tot.of (Ev.of (fun k => impl_NextBalls.mono _ _ _ k) (qS_eq h1)), Tot.of (Ev.of (fun k => spec_NextBalls.mono _ _ _ k) (qS_eq h2)), Tot.of (Ev.of (fun k => impl_HighestBreak.mono _ _ _ k) (qH_eq h3)), Tot.of (Ev.of (fun k => spec_HighestBreak.mono _ _ _ k) (qH_eq h4)),
    Tot.of (Ev.of (fun k => impl_LeastBreak.mono _ _ _ k) (qI_eq h5)), Tot.of (Ev.of (fun k => spec_LeastBreak.mono _ _ _ k) (qI_eq h6)), Tot.of (Ev.of (fun k => impl_PointsLeft.mono _ _ _ k) (qI_eq h7)), Tot.of (Ev.of (fun k => spec_PointsLeft.mono _ _ _ k) (qI_eq h8)),
    Tot.of (Ev.of (fun k => impl_BallsLeft.mono _ _ _ k) (qI_eq h9)), Tot.of (Ev.of (fun k => spec_BallsLeft.mono _ _ _ k) (qI_eq h10)), Tot.of (Ev.of (fun k => impl_FrameText.mono _ _ _ k) (qS_eq h11)), Tot.of (Ev.of (fun k => spec_FrameText.mono _ _ _ k) (qS_eq h12))⟩
structure Holds (r : Int) (c : Bool) (l : Int) : Prop where
  size : ((breakL r c l).size : Int) = cntL r c l
  least : leastL r c l ≤ highL r c l
  range : 0 ≤ cntL r c l ∧ cntL r c l ≤ 36 ∧ 0 ≤ highL r c l ∧ highL r c l ≤ 147
  after : ∃ x y, Tot (fun k => impl_FrameAfter.f k r c l (breakL r c l)) (Eq (x, y, 8, true))
  points : Tot (fun k => impl_PointsOf.f k (breakL r c l)) (Eq (highL r c l, true))
  over : ((nextL r c l).data.toList.isEmpty = decide (l = 8))
  few : (nextL r c l).size ≤ 6
  ball : ∀ b ∈ (nextL r c l).data.toList, 49 ≤ b.toNat ∧ b.toNat ≤ 55 ∧ goodB (potS r c l).1 (potS r c l).2.1 (potS r c l).2.2 = true ∧ cntL (potS r c l).1 (potS r c l).2.1 (potS r c l).2.2 = cntL r c l - 1 ∧ (b.toNat : Int) - 48 + highL (potS r c l).1 (potS r c l).2.1 (potS r c l).2.2 ≤ highL r c l
  rising : (nextL r c l).data.toList.Pairwise (· < ·)
theorem holdsF {r : Int} {c : Bool} {l : Int} (g : goodB r c l = true) : Holds r c l := by
  have h := all_of hold_all g
  unfold holdB at h
  simp only [Bool.and_eq_true, decide_eq_true_eq] at h
  obtain ⟨⟨⟨⟨⟨⟨⟨⟨h1, h2⟩, h3⟩, h4⟩, h5⟩, h6⟩, h7⟩, h8⟩, h9⟩ := h
  refine ⟨h1, h2, h3, ?_, Tot.of (Ev.of (fun k => impl_PointsOf.mono _ k) (qI_eq h5)), eq_of_beq h6, h7, fun b hb => ?_, h9⟩
  · split at h4
    · rename_i x y z hz
      rw [decide_eq_true_eq] at h4
      subst h4
      exact ⟨_, _, Tot.of (Ev.of (fun k => impl_FrameAfter.mono _ _ _ _ k) hz)⟩
    · cases h4
  · have := List.all_eq_true.1 h8 b hb
    simp only [Bool.and_eq_true, decide_eq_true_eq] at this
    obtain ⟨⟨⟨⟨k1, k2⟩, k3⟩, k4⟩, k5⟩ := this
    exact ⟨k1, k2, k3, k4, k5⟩
structure Code (r : Int) (c : Bool) (l : Int) : Prop where
  size : 3 ≤ (textL r c l).size ∧ (textL r c l).size ≤ 4
  reds : Tot (fun k => spec_l1Read.f k ((textL r c l).extract 0 ((textL r c l).size - 2))) (Eq r)
  colour : (bt (textL r c l) (((textL r c l).size - 2 : Nat) : Int) == 99) = c
  least : Tot (fun k => spec_l1Read.f k ((textL r c l).extract ((textL r c l).size - 1) (textL r c l).size)) (Eq l)
  text : Tot (fun k => spec_frText.f k r c l) (Eq (textL r c l))
theorem codeF {r : Int} {c : Bool} {l : Int} (g : goodB r c l = true) : Code r c l := by
  have h := all_of code_all g
  unfold codeB at h
  simp only [Bool.and_eq_true, decide_eq_true_eq] at h
  obtain ⟨⟨⟨⟨h1, h2⟩, h3⟩, h4⟩, h5⟩ := h
  refine ⟨h1, Tot.of (Ev.of (fun k => spec_l1Read.mono _ k) (oI_eq h2)), eq_of_beq h3, Tot.of (Ev.of (fun k => spec_l1Read.mono _ k) (oI_eq h4)), ?_⟩
  split at h5
  · rename_i t ht
    rw [← sB_eq h5]
    exact Tot.of (Ev.of (fun k => spec_frText.mono _ _ _ k) ht)
  · cases h5
end Go.Proofs.YtcmlmjgoidpabaaGreatDoor.Pure

