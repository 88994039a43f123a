/- The points of texts: both tell alike. -/
import Derived.Test.YtcmlmjgoidpabaaGreatDoorZFpBase
set_option linter.unusedVariables false
set_option linter.unusedSimpArgs false
namespace Go.Proofs.YtcmlmjgoidpabaaGreatDoor.Pure
open Go.RowKit Go.Proofs.YtcmlmjgoidpabaaGreatDoor.MFnFramesPotted Go.Proofs.YtcmlmjgoidpabaaGreatDoorW.PrintWords Go.Proofs.YtcmlmjgoidpabaaGreatDoorW.PrintLast
namespace PL
theorem points_two (a : ByteArray) (ha : a.size ≤ 36) : ∀ (d i : Nat) (x : Int), i + d = a.size → Two (fun k => spec_frPoints.l0 k a x (i : Int)) (fun k => impl_PointsOf.l0 k a x (a.size : Int) (i : Int)) (fun u v => v = (u, true)) := by
  intro d
  induction d with
  | zero =>
    intro i x h
    refine Two.lstep (fun k => spec_frPoints.l0.eq_2 _ _ _ _) (Two.rstep (fun k => impl_PointsOf.l0.eq_2 _ _ _ _ _) ?_)
    exact Two.lneg (by omega) (Two.rneg (by omega) (Two.ret rfl))
  | succ d ih =>
    intro i x h
    refine Two.lstep (fun k => spec_frPoints.l0.eq_2 _ _ _ _) (Two.rstep (fun k => impl_PointsOf.l0.eq_2 _ _ _ _ _) ?_)
    refine Two.lpos (by omega) (Two.lpos (by omega) (Two.rpos (by omega) (Two.rpos (by omega) (Two.rpos (by omega) ?_))))
    rw [wrap_nat i (by omega)]
    exact ih (i + 1) _ (by omega)
theorem dropWhile_nil {p : UInt8 → Bool} : ∀ (l : List UInt8), (∀ b ∈ l, p b = true) → l.dropWhile p = []
  | [], _ => rfl
  | x :: l, h => by
    rw [List.dropWhile_cons, if_pos (h x (List.mem_cons_self ..))]
    exact dropWhile_nil l (fun b hb => h b (List.mem_cons_of_mem _ hb))
theorem trim_none {l cs : List UInt8} (h : ∀ b ∈ l, cs.contains b = true) : Lib.trimS l cs = [] := by
  unfold Lib.trimS Lib.trimRightS Lib.trimLeftS
  have e : l.reverse.dropWhile (cs.contains ·) = [] := by
    refine dropWhile_nil _ (fun b hb => ?_)
    exact h b (by simpa using hb)
  rw [e]
  rfl
theorem bytes_of {a : ByteArray} (h : ∀ j : Nat, j < a.size → 49 ≤ bt a (j : Int) ∧ bt a (j : Int) ≤ 55) : ∀ b ∈ a.data.toList, ([49, 50, 51, 52, 53, 54, 55] : List UInt8).contains b = true := by
  intro b hb
  obtain ⟨j, hj, rfl⟩ := List.getElem_of_mem hb
  have hj' : j < a.size := by rw [size_list]; exact hj
  have hh := h j hj'
  have e : bt a (j : Int) = ((a.data.toList[j]).toNat : Int) := by
    unfold bt
    simp only [Int.toNat_natCast]
    rw [dif_pos hj']
    rfl
  rw [e] at hh
  generalize a.data.toList[j] = b at *
  have h1 : 49 ≤ b.toNat ∧ b.toNat ≤ 55 := by omega
  have : b = 49 ∨ b = 50 ∨ b = 51 ∨ b = 52 ∨ b = 53 ∨ b = 54 ∨ b = 55 := by
    have e2 : ∀ n : Nat, n < 256 → b.toNat = n → b = UInt8.ofNat n := fun n hn e => by
      apply UInt8.toNat_inj.1
      rw [UInt8.toNat_ofNat', e]
      omega
    have h3 : b.toNat = 49 ∨ b.toNat = 50 ∨ b.toNat = 51 ∨ b.toNat = 52 ∨ b.toNat = 53 ∨ b.toNat = 54 ∨ b.toNat = 55 := by omega
    rcases h3 with h | h | h | h | h | h | h <;> have := e2 _ (by omega) h <;> simp [this]
  rcases this with rfl | rfl | rfl | rfl | rfl | rfl | rfl <;> decide
theorem points_t (a : ByteArray) (ha : a.size ≤ 36) (h : ∀ j : Nat, j < a.size → 49 ≤ bt a (j : Int) ∧ bt a (j : Int) ≤ 55) : Two (fun k => spec_frPoints.f k a) (fun k => impl_PointsOf.f k a) (fun u v => v = (u, true)) := by
  unfold spec_frPoints.f impl_PointsOf.f
  refine Two.rneg (by omega) ?_
  have e : strings_Trim.f a (⟨#[49, 50, 51, 52, 53, 54, 55]⟩ : ByteArray) = some ⟨#[]⟩ := by
    unfold strings_Trim.f
    rw [if_pos ⟨by omega, by decide, by decide⟩]
    rw [show (⟨#[49, 50, 51, 52, 53, 54, 55]⟩ : ByteArray).data.toList = [49, 50, 51, 52, 53, 54, 55] from rfl, trim_none (bytes_of h)]
  rw [e]
  refine Two.rsome (Two.rstep (fun k => impl_PointsOf.j0.eq_2 _ _ _) ?_)
  refine Two.rneg (by decide +kernel) ?_
  exact points_two a ha a.size 0 0 (by omega)
end PL
theorem dropWhile_all {p : UInt8 → Bool} : ∀ {l : List UInt8}, l.dropWhile p = [] → ∀ b ∈ l, p b = true
  | [], _, b, hb => by cases hb
  | x :: l, h, b, hb => by
    rw [List.dropWhile_cons] at h
    split at h
    · rename_i hx
      rcases List.mem_cons.1 hb with rfl | hb
      · exact hx
      · exact dropWhile_all h b hb
    · cases h
theorem dropWhile_head {p : UInt8 → Bool} : ∀ {l : List UInt8} {x : UInt8} {m : List UInt8}, l.dropWhile p = x :: m → p x = false
  | [], x, m, h => by cases h
  | y :: l, x, m, h => by
    rw [List.dropWhile_cons] at h
    split at h
    · exact dropWhile_head h
    · rename_i hy
      injection h with h1 h2
      subst h1
      simpa using hy
theorem trim_all {l cs : List UInt8} (h : Lib.trimS l cs = []) : ∀ b ∈ l, cs.contains b = true := by
  unfold Lib.trimS Lib.trimRightS Lib.trimLeftS at h
  have h2 := dropWhile_all h
  cases hd : l.reverse.dropWhile (cs.contains ·) with
  | nil =>
    intro b hb
    exact dropWhile_all hd b (by simpa using hb)
  | cons x m =>
    rw [hd] at h2
    have h3 := h2 x (by simp)
    have h4 := dropWhile_head hd
    rw [h3] at h4
    cases h4
theorem spoints_loop (a : ByteArray) (ha : a.size ≤ 36) (v : Int × Bool) (hgood : (∀ j : Nat, j < a.size → 49 ≤ bt a (j : Int) ∧ bt a (j : Int) ≤ 55) → Tot (fun k => spec_frPoints.f k a) (fun u => v = (u, true))) (hbad : ¬ (∀ j : Nat, j < a.size → 49 ≤ bt a (j : Int) ∧ bt a (j : Int) ≤ 55) → v = (0, false)) :
    ∀ (d i : Nat), i + d = a.size → (∀ j : Nat, j < i → 49 ≤ bt a (j : Int) ∧ bt a (j : Int) ≤ 55) → Tot (fun k => spec_PointsOf.l0 k a (i : Int)) (Eq v) := by
  intro d
  induction d with
  | zero =>
    intro i h hb
    refine Tot.step (fun k => spec_PointsOf.l0.eq_2 _ _ _) (Tot.neg (by omega) (Tot.bind (hgood (fun j hj => hb j (by omega))) ?_))
    rintro u hu
    exact Tot.ret hu
  | succ d ih =>
    intro i h hb
    have hr := bt_range a (i : Int)
    refine Tot.step (fun k => spec_PointsOf.l0.eq_2 _ _ _) (Tot.pos (by omega) (Tot.pos (by omega) ?_))
    rw [l1In_eq, wrap_in (x := bt a (i : Int)) (by omega) (by omega), wrap_in (by omega) (by omega), wrap_nat i (by omega)]
    refine Tot.some_bind (Tot.ite (fun q => ?_) (fun q => Tot.ret ?_))
    · have q : 1 ≤ bt a (i : Int) - 48 ∧ bt a (i : Int) - 48 ≤ 7 := by simpa using q
      refine ih (i + 1) (by omega) (fun j hj => ?_)
      by_cases e : j = i
      · subst e; omega
      · exact hb j (by omega)
    · have q : ¬ (1 ≤ bt a (i : Int) - 48 ∧ bt a (i : Int) - 48 ≤ 7) := by simpa using q
      exact hbad (fun hall => q (by have := hall i (by omega); omega))
theorem points_both (a : ByteArray) : ∃ v, Tot (fun k => impl_PointsOf.f k a) (Eq v) ∧ Tot (fun k => spec_PointsOf.f k a) (Eq v) := by
  by_cases hs : (a.size : Int) > 36
  · refine ⟨(0, false), ?_, ?_⟩
    · unfold impl_PointsOf.f
      exact Tot.pos hs (Tot.step (fun k => impl_PointsOf.j0.eq_2 _ _ _) (Tot.pos rfl (Tot.ret rfl)))
    · unfold spec_PointsOf.f
      exact Tot.pos hs (Tot.ret rfl)
  · by_cases hall : ∀ j : Nat, j < a.size → 49 ≤ bt a (j : Int) ∧ bt a (j : Int) ≤ 55
    · obtain ⟨u, v, hu, hv, rfl⟩ := PL.points_t a (by omega) hall
      refine ⟨(u, true), Tot.of hv, ?_⟩
      unfold spec_PointsOf.f
      refine Tot.neg hs ?_
      exact spoints_loop a (by omega) (u, true) (fun _ => ⟨u, hu, rfl⟩) (fun n => absurd hall n) a.size 0 (by omega) (fun j hj => by omega)
    · refine ⟨(0, false), ?_, ?_⟩
      · unfold impl_PointsOf.f
        refine Tot.neg hs ?_
        unfold strings_Trim.f
        rw [if_pos ⟨by omega, by decide, by decide⟩]
        refine Tot.some_bind (Tot.step (fun k => impl_PointsOf.j0.eq_2 _ _ _) (Tot.pos ?_ (Tot.ret rfl)))
        rw [bne_iff_ne, ByteArray.toList_eq]
        intro e
        refine hall (fun j hj => ?_)
        have hm := trim_all (by simpa using e)
        have hj' : j < a.data.toList.length := by rw [← size_list]; exact hj
        have hc := hm _ (List.getElem_mem hj')
        have hbt : bt a (j : Int) = ((a.data.toList[j]).toNat : Int) := by
          unfold bt
          simp only [Int.toNat_natCast]
          rw [dif_pos hj]
          rfl
        rw [hbt]
        generalize a.data.toList[j] = b at *
        simp only [List.contains_iff_mem, List.mem_cons, List.not_mem_nil, or_false] at hc
        rcases hc with rfl | rfl | rfl | rfl | rfl | rfl | rfl <;> decide
      · unfold spec_PointsOf.f
        refine Tot.neg hs ?_
        exact spoints_loop a (by omega) (0, false) (fun h => absurd h hall) (fun _ => rfl) a.size 0 (by omega) (fun j hj => by omega)
end Go.Proofs.YtcmlmjgoidpabaaGreatDoor.Pure

