/- What the program's function answers on a lane: for every number of frames and every list of rolls. -/
import Derived.Test.YtnpnbgohdmonmaaLaneR
import Derived.Test.YtnpnbgohdmonmaaLaneGood
set_option linter.unusedVariables false
set_option linter.unusedSimpArgs false
namespace Go.Proofs.Ytnpnbgohdmonmaa.Lane
open Go.RowKit Go.Proofs.YtnpnbgohdmonmaaW.PrintWords Go.Proofs.YtnpnbgohdmonmaaW.PrintLast
/-- The frames of a lane are rows that lie apart. -/
theorem LN.rows {w : World} {base : Nat} {own : Nat → Prop} {g : Nat} {fr pins : Int} {bg : List (List Int)} {fresh : Bool} (h : LN w base own g fr bg pins fresh) :
    ∃ v : Value, w.cell? ⟨g, 1, none⟩ = some v ∧ Kd.S (Kd.slice 3 (Kd.int .i64)) 22 w base (fun _ => True) v bg := by
  obtain ⟨bv, vs, h1, h2, h3, h4, h5, h6, h7, h8⟩ := h
  refine ⟨bv, by simp [World.cell?, h1], ?_⟩
  let f : Nat → Nat := fun k => (vs.findIdx (fun v => v.ownBlock == some k))
  have hf : ∀ i (hi : i < vs.length) k, vs[i].ownBlock = some k → f k = i := by
    intro i hi k hk
    have hlt : f k < vs.length := List.findIdx_lt_length_of_exists ⟨vs[i], List.getElem_mem hi, by simp [hk]⟩
    have hp := List.findIdx_getElem (w := hlt) (xs := vs) (p := fun v => v.ownBlock == some k)
    simp only [beq_iff_eq] at hp
    by_cases he : f k = i
    · exact he
    · rcases h8 i (f k) hi hlt (Ne.symm he) with h | h
      · rw [hk] at h; cases h
      · exact absurd (hk.trans hp.symm) h
  refine ⟨f, fun _ _ => trivial, vs, ?_, ?_, ?_⟩
  · rw [List.length_zipIdx, ← h6]; exact h4
  · rw [List.length_zipIdx, h6]; exact (Nat.mul_one _).symm
  · intro j p hj
    rw [List.getElem?_zipIdx, Nat.zero_add] at hj
    obtain ⟨q, hq, rfl⟩ := Option.map_eq_some_iff.1 hj
    obtain ⟨hj1, rfl⟩ := List.getElem?_eq_some_iff.1 hq
    have hj2 : j < vs.length := by omega
    obtain ⟨h7a, h7b⟩ := h7 j hj2 hj1
    show ∃ v, (vs.drop (j * 1)).take 1 = [v] ∧ _
    refine ⟨vs[j], ?_, ?_⟩
    · rw [Nat.mul_one, List.drop_eq_getElem_cons hj2]; rfl
    · refine Kd.R_of_own h7a (fun k hk => ⟨⟨trivial, ?_⟩, hf j hj2 k hk⟩)
      intro he
      obtain ⟨c1, e1⟩ := own_typed h7a k hk
      obtain ⟨c2, e2⟩ := own_typed h4 k he.symm
      rw [e1] at e2
      injection e2 with e3
      injection e3 with e4 e5
      exact absurd e5 (by decide)
def framesOf (F : Int) (xs : List Int) : List (List Int) × Bool := match readV F xs with
  | some s => (s.1, true)
  | none => ([], false)
set_option maxRecDepth 100000 in
set_option maxHeartbeats 4000000 in
theorem frames_calls (w : World) (F : Int) (A : Option Addr) (c : Nat) (xs : List Int) (hr : ReadsInt w .i64 A xs.length xs) :
    Calls Try.prog 30 #[.int .i64 F, .slice A xs.length c] w fun e w' => ∃ v0 : Value, e = .returned (.tuple #[v0, .bool (framesOf F xs).2]) ∧ Kd.S (Kd.slice 3 (Kd.int .i64)) 22 w' w.heap.size (fun _ => True) v0 (framesOf F xs).1 ∧ Below w.heap.size w w' := by
  cases hv : readV F xs with
  | none =>
    rw [show framesOf F xs = ([], false) by unfold framesOf; rw [hv]]
    go_enter Try.func30, Try.ntmps30
    go_wp2_with (go_at_call 47; refine (read_none hv _ _ _ hr).mono ?_; rintro e w' ⟨rfl, hb⟩)
    go_ret2
    exact ⟨_, rfl, Kd.S_nil _ _ _ _ _, by repeat (first | exact hb | apply pw_below_drewN)⟩
  | some s =>
    rw [show framesOf F xs = (s.1, true) by unfold framesOf; rw [hv]]
    go_enter Try.func30, Try.ntmps30
    go_wp2_with (go_at_call 47; refine (read_some hv _ _ _ hr).mono ?_; rintro e w' ⟨rfl, own, hl, hg, p0, p1, f0, f1, hb⟩; obtain ⟨v, hv1, hS⟩ := hl.rows; have HS := Aside0.mk hS; clear hS hl)
    go_ret2
    exact ⟨_, rfl, by repeat (first | exact HS.out | apply Kd.S_drewN), by repeat (first | exact hb | apply pw_below_drewN)⟩
end Go.Proofs.Ytnpnbgohdmonmaa.Lane
