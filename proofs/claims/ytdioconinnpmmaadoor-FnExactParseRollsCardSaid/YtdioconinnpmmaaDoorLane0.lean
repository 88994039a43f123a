/- What a lane is in memory, and how it takes a ball: nothing is asked. -/
import Derived.Test.YtdioconinnpmmaaDoorWMore
import Derived.Test.YtdioconinnpmmaaDoorProg
import Derived.Outline
import Derived.Deep.RegionLaw
import Derived.Deep.RegionHeldLaw
set_option linter.unusedVariables false
set_option linter.unusedSimpArgs false
namespace Go.Proofs.YtdioconinnpmmaaDoor.Lane
open Go.RowKit Go.Proofs.YtdioconinnpmmaaDoorW.PrintWords Go.Proofs.YtdioconinnpmmaaDoorW.PrintLast
/-! ### A lane in memory -/
/-- A lane at block g of w: its frames' number, the balls of each frame that has begun, the pins that stand, whether they are fresh. Its blocks are own's. -/
def LN (w : World) (base : Nat) (own : Nat → Prop) (g : Nat) (fr : Int) (bg : List (List Int)) (pins : Int) (fresh : Bool) : Prop :=
  ∃ (bv : Value) (vs : List Value),
    w.heap[g]? = some (.cells #[.int .i64 fr, bv, .int .i64 pins, .bool fresh] 37 (0, 0)) ∧ base ≤ g ∧ own g ∧
    w.ownsRow base 22 1 bv vs.length vs ∧ (∀ k, bv.ownBlock = some k → own k) ∧ vs.length = bg.length ∧
    (∀ i (h : i < vs.length) (h' : i < bg.length), w.ownsRow base 3 1 vs[i] bg[i].length (nums .i64 bg[i]) ∧ ∀ k, vs[i].ownBlock = some k → own k) ∧
    (∀ i j (hi : i < vs.length) (hj : j < vs.length), i ≠ j → vs[i].ownBlock = none ∨ vs[i].ownBlock ≠ vs[j].ownBlock)
theorem own_slice1 {w : World} {base e n : Nat} {v : Value} {xs : List Value} (h : w.ownsRow base e 1 v n xs) : ∃ A c, v = .slice A n c := by
  rcases h.2 with ⟨rfl, rfl⟩ | ⟨g, cap, cur, rfl, _⟩
  · exact ⟨none, 0, rfl⟩
  · exact ⟨_, cap, rfl⟩
/-- Where frame i of a lane lies. -/
theorem LN.row {w : World} {base : Nat} {own : Nat → Prop} {g : Nat} {fr pins : Int} {bg : List (List Int)} {fresh : Bool} (h : LN w base own g fr bg pins fresh) (i : Nat) (hi : i < bg.length) :
    ∃ B cap A c, w.cell? ⟨g, 1, none⟩ = some (.slice (some ⟨B, 0, none⟩) bg.length cap) ∧ w.cell? ⟨B, i, none⟩ = some (.slice A bg[i].length c) ∧ w.frozen? ⟨B, i, none⟩ = false ∧
      (∀ j (hj : j < bg[i].length), ∃ R, A = some ⟨R, 0, none⟩ ∧ w.cell? ⟨R, j, none⟩ = some (.int .i64 bg[i][j])) := by
  obtain ⟨bv, vs, h1, h2, h3, h4, h5, h6, h7, h8⟩ := h
  obtain ⟨B, cap, rfl, _, _⟩ := h4.form (by omega)
  obtain ⟨h7a, _⟩ := h7 i (by omega) hi
  obtain ⟨A, c, hA⟩ := own_slice1 h7a
  refine ⟨B, cap, A, c, ?_, ?_, h4.frozenAt i, ?_⟩
  · have : w.cell? ⟨g, 1, none⟩ = some (.slice (some ⟨B, 0, none⟩) vs.length cap) := by simp [World.cell?, h1]
    rw [this, h6]
  · rw [h4.cellAt i (by omega), List.getElem?_eq_getElem (by omega), hA]
  · intro j hj
    rw [hA] at h7a
    obtain ⟨R, c2, e, _, _⟩ := h7a.form (by omega)
    injection e with e1 e2 e3
    subst e1
    refine ⟨R, rfl, ?_⟩
    rw [h7a.cellAt j (by omega)]
    simp [nums, hj]
theorem LN.cells {w : World} {base : Nat} {own : Nat → Prop} {g : Nat} {fr pins : Int} {bg : List (List Int)} {fresh : Bool} (h : LN w base own g fr bg pins fresh) :
    w.cell? ⟨g, 0, none⟩ = some (.int .i64 fr) ∧ w.cell? ⟨g, 2, none⟩ = some (.int .i64 pins) ∧ w.cell? ⟨g, 3, none⟩ = some (.bool fresh) ∧ (∃ A c, w.cell? ⟨g, 1, none⟩ = some (.slice A bg.length c)) ∧ (∀ j, w.frozen? ⟨g, j, none⟩ = false) ∧ g < w.heap.size ∧ bg.length ≤ maxLen := by
  obtain ⟨bv, vs, h1, h2, h3, h4, h5, h6, h7, h8⟩ := h
  have hlt : g < w.heap.size := (Array.getElem?_eq_some_iff.1 h1).1
  refine ⟨by simp [World.cell?, h1], by simp [World.cell?, h1], by simp [World.cell?, h1], ?_, fun j => by simp [World.frozen?, h1], hlt, ?_⟩
  · obtain ⟨A, c, rfl⟩ := own_slice1 h4
    exact ⟨A, c, by simp [World.cell?, h1, h6]⟩
  · rw [← h6]
    rcases h4.2 with ⟨_, e⟩ | ⟨_, cap, _, _, _, _, e1, e2, _⟩
    · omega
    · omega
theorem LN.drawn {w w' : World} {base : Nat} {own : Nat → Prop} {g : Nat} {fr pins : Int} {bg : List (List Int)} {fresh : Bool} (h : LN w base own g fr bg pins fresh) (hd : Drawn0 w w') : LN w' base own g fr bg pins fresh := by
  obtain ⟨n, rfl⟩ := hd
  exact h
theorem LN.mono {w : World} {base : Nat} {own own' : Nat → Prop} {g : Nat} {fr pins : Int} {bg : List (List Int)} {fresh : Bool} (h : LN w base own g fr bg pins fresh) (ho : ∀ k, own k → own' k) : LN w base own' g fr bg pins fresh := by
  obtain ⟨bv, vs, h1, h2, h3, h4, h5, h6, h7, h8⟩ := h
  exact ⟨bv, vs, h1, h2, ho _ h3, h4, fun k hk => ho _ (h5 k hk), h6, fun i hi hi' => ⟨(h7 i hi hi').1, fun k hk => ho _ ((h7 i hi hi').2 k hk)⟩, h8⟩
/-- What is written elsewhere leaves a lane as it is. -/
theorem LN.step {w w1 : World} {base : Nat} {own : Nat → Prop} {g : Nat} {fr pins : Int} {bg : List (List Int)} {fresh : Bool} (h : LN w base own g fr bg pins fresh) (hm : ∀ k, own k → k < w.heap.size → w1.heap[k]? = w.heap[k]?) : LN w1 base own g fr bg pins fresh := by
  obtain ⟨bv, vs, h1, h2, h3, h4, h5, h6, h7, h8⟩ := h
  have mv : ∀ {e n : Nat} {v : Value} {xs : List Value}, w.ownsRow base e 1 v n xs → (∀ k, v.ownBlock = some k → own k) → w1.ownsRow base e 1 v n xs := fun hr ho => own_move hr (fun k hk => hm k (ho k hk) (hr.lt k hk).2)
  exact ⟨bv, vs, (hm g h3 (Array.getElem?_eq_some_iff.1 h1).1).trans h1, h2, h3, mv h4 h5, h5, h6, fun i hi hi' => ⟨mv (h7 i hi hi').1 (h7 i hi hi').2, (h7 i hi hi').2⟩, h8⟩
/-- One cell of the lane's own block, but the balls', is written. -/
theorem LN.put {w : World} {base : Nat} {own : Nat → Prop} {g : Nat} {fr pins : Int} {bg : List (List Int)} {fresh : Bool} (h : LN w base own g fr bg pins fresh) :
    (∀ x, LN (w.setCell ⟨g, 2, none⟩ (.int .i64 x)) base own g fr bg x fresh) ∧ (∀ x, LN (w.setCell ⟨g, 3, none⟩ (.bool x)) base own g fr bg pins x) := by
  obtain ⟨bv, vs, h1, h2, h3, h4, h5, h6, h7, h8⟩ := h
  have mv : ∀ {j : Nat} {u : Value} {e n : Nat} {v : Value} {xs : List Value}, e ≠ 37 → w.ownsRow base e 1 v n xs → (w.setCell ⟨g, j, none⟩ u).ownsRow base e 1 v n xs := by
    intro j u e n v xs he hr
    refine own_move hr (fun k hk => Below.heap_setCell w _ u k ?_)
    rintro rfl
    obtain ⟨cells, hc⟩ := own_typed hr _ hk
    rw [h1] at hc
    injection hc with hc
    injection hc with _ ht
    exact he ht.symm
  have mk : ∀ {j : Nat} {u : Value} {cs : Array Value}, (w.setCell ⟨g, j, none⟩ u).heap[g]? = some (.cells cs 37 (0, 0)) → ∀ p f, cs = #[.int .i64 fr, bv, .int .i64 p, .bool f] → LN (w.setCell ⟨g, j, none⟩ u) base own g fr bg p f := by
    intro j u cs hb p f hcs
    exact ⟨bv, vs, by rw [hb, hcs], h2, h3, mv (by decide) h4, h5, h6, fun i hi hi' => ⟨mv (by decide) (h7 i hi hi').1, (h7 i hi hi').2⟩, h8⟩
  exact ⟨fun x => mk (blk_set h1 2 (.int .i64 x)) _ _ (by simp), fun x => mk (blk_set h1 3 (.bool x)) _ _ (by simp)⟩
/-- How the blocks of a lane lie to each other. -/
theorem LN.apart {w : World} {base : Nat} {own : Nat → Prop} {g B m cap : Nat} {fr pins : Int} {bg : List (List Int)} {fresh : Bool} {v : Value} (h : LN w base own g fr bg pins fresh) (hm : m < bg.length)
    (c1 : w.cell? ⟨g, 1, none⟩ = some (.slice (some ⟨B, 0, none⟩) bg.length cap)) (cr : w.cell? ⟨B, m, none⟩ = some v) :
    w.ownsRow base 3 1 v bg[m].length (nums .i64 bg[m]) ∧ g ≠ B ∧ some g ≠ v.ownBlock ∧ some B ≠ v.ownBlock := by
  obtain ⟨bv, vs, h1, h2, h3, h4, h5, h6, h7, h8⟩ := h
  have e1 : bv = .slice (some ⟨B, 0, none⟩) vs.length cap := by
    have : w.cell? ⟨g, 1, none⟩ = some bv := by simp [World.cell?, h1]
    rw [this] at c1
    injection c1 with c1
    rw [c1, h6]
  subst e1
  have hm' : m < vs.length := by omega
  have ev : vs[m] = v := by
    have := h4.cellAt m (by omega)
    rw [cr, List.getElem?_eq_getElem hm'] at this
    injection this with this
    exact this.symm
  have hrow := h7 m hm' hm
  rw [ev] at hrow
  obtain ⟨cellsB, hcB⟩ := own_typed h4 B rfl
  refine ⟨hrow.1, fun e => ?_, fun e => ?_, fun e => ?_⟩
  · subst e
    rw [h1] at hcB
    injection hcB with hc
    injection hc with _ ht
    exact absurd ht (by decide)
  · obtain ⟨cells, hc⟩ := own_typed hrow.1 g e.symm
    rw [h1] at hc
    injection hc with hc
    injection hc with _ ht
    exact absurd ht (by decide)
  · obtain ⟨cells, hc⟩ := own_typed hrow.1 B e.symm
    rw [hcB] at hc
    injection hc with hc
    injection hc with _ ht
    exact absurd ht (by decide)
theorem LN.apart1 {w : World} {base : Nat} {own : Nat → Prop} {g : Nat} {fr pins : Int} {bg : List (List Int)} {fresh : Bool} {v : Value} (h : LN w base own g fr bg pins fresh) (c1 : w.cell? ⟨g, 1, none⟩ = some v) :
    some g ≠ v.ownBlock := by
  obtain ⟨bv, vs, h1, h2, h3, h4, h5, h6, h7, h8⟩ := h
  have e1 : bv = v := by
    have : w.cell? ⟨g, 1, none⟩ = some bv := by simp [World.cell?, h1]
    rw [this] at c1
    injection c1 with c1
  subst e1
  intro e
  obtain ⟨cells, hc⟩ := own_typed h4 g e.symm
  rw [h1] at hc
  injection hc with hc
  injection hc with _ ht
  exact absurd ht (by decide)
/-- From w to w' nothing but a lane has been written; what is new in it lies in new blocks. -/
structure Went (base : Nat) (own own' : Nat → Prop) (w w' : World) : Prop where
  below : Below base w w'
  sub : ∀ k, own k → own' k
  new : ∀ k, own' k → own k ∨ w.heap.size ≤ k
  kept : ∀ k, k < w.heap.size → ¬ own k → w'.heap[k]? = w.heap[k]?
theorem Went.refl (base : Nat) (own : Nat → Prop) (w : World) : Went base own own w w := ⟨Below.refl _ _, fun _ h => h, fun _ h => .inl h, fun _ _ _ => rfl⟩
theorem Went.trans {base : Nat} {o1 o2 o3 : Nat → Prop} {a b c : World} (h : Went base o1 o2 a b) (k : Went base o2 o3 b c) : Went base o1 o3 a c :=
  ⟨h.below.trans k.below, fun j hj => k.sub _ (h.sub _ hj), fun j hj => (k.new j hj).elim (fun hj => h.new j hj) (fun hj => .inr (Nat.le_trans h.below.size hj)),
   fun j hj hn => (k.kept j (Nat.lt_of_lt_of_le hj h.below.size) (fun h2 => (h.new j h2).elim hn (fun h3 => by omega))).trans (h.kept j hj hn)⟩
theorem Went.drawn {base : Nat} {o1 o2 : Nat → Prop} {a b c : World} (h : Went base o1 o2 a b) (hd : Drawn0 b c) : Went base o1 o2 a c := by
  obtain ⟨n, rfl⟩ := hd
  exact ⟨pw_below_drewN h.below n, h.sub, h.new, h.kept⟩
theorem Went.drawnN {base : Nat} {o1 o2 : Nat → Prop} {a b : World} (h : Went base o1 o2 a b) (n : Nat) : Went base o1 o2 a (b.drewN n) := h.drawn ⟨⟨n, rfl⟩⟩
theorem Went.put {base : Nat} {o1 o2 : Nat → Prop} {a b : World} (h : Went base o1 o2 a b) {g : Nat} (hb : base ≤ g) (hg : o2 g) (j : Nat) (u : Value) : Went base o1 o2 a (b.setCell ⟨g, j, none⟩ u) :=
  ⟨h.below.setCell hb u, h.sub, h.new, fun k hk hn => (Below.heap_setCell b _ u k (by rintro rfl; exact (h.new _ hg).elim hn (fun h3 => Nat.lt_irrefl _ (Nat.lt_of_lt_of_le hk h3)))).trans (h.kept k hk hn)⟩
/-- A ball is laid behind those of a frame that has begun. -/
theorem LN.push {w w1 : World} {base : Nat} {own : Nat → Prop} {g B m cap : Nat} {fr pins n : Int} {bg : List (List Int)} {fresh : Bool} {v v1 : Value} (h : LN w base own g fr bg pins fresh) (hm : m < bg.length)
    (c1 : w.cell? ⟨g, 1, none⟩ = some (.slice (some ⟨B, 0, none⟩) bg.length cap)) (cr : w.cell? ⟨B, m, none⟩ = some v) (hown : w1.ownsRow base 3 1 v1 (bg[m].length + 1) (nums .i64 bg[m] ++ [.int .i64 n])) (hB : Below base w w1) (hg : w.grownBy w1 v.ownBlock)
    (hat : v1.ownBlock = v.ownBlock ∨ ∃ b, v1.ownBlock = some b ∧ w.heap.size ≤ b) :
    ∃ own', LN (w1.setCell ⟨B, m, none⟩ v1) base own' g fr (bg.set m (bg[m] ++ [n])) pins fresh ∧ Went base own own' w (w1.setCell ⟨B, m, none⟩ v1) := by
  obtain ⟨bv, vs, h1, h2, h3, h4, h5, h6, h7, h8⟩ := h
  have e1 : bv = .slice (some ⟨B, 0, none⟩) vs.length cap := by
    have : w.cell? ⟨g, 1, none⟩ = some bv := by simp [World.cell?, h1]
    rw [this] at c1
    injection c1 with c1
    rw [c1, h6]
  subst e1
  have hm' : m < vs.length := by omega
  have ev : vs[m] = v := by
    have := h4.cellAt m (by omega)
    rw [cr, List.getElem?_eq_getElem hm'] at this
    injection this with this
    exact this.symm
  have hrow := h7 m hm' hm
  rw [ev] at hrow
  have lt : ∀ {e n : Nat} {u : Value} {xs : List Value}, w.ownsRow base e 1 u n xs → ∀ k, u.ownBlock = some k → k < w.heap.size := fun hr k hk => (hr.lt k hk).2
  have hBo : own B := h5 B rfl
  have hbB : base ≤ B := (h4.lt B rfl).1
  -- the lane's block, the balls' rows: not the row that has grown
  have hgr : some g ≠ v.ownBlock := fun e => by
    obtain ⟨cells, hc⟩ := own_typed hrow.1 g e.symm
    rw [h1] at hc
    injection hc with hc
    injection hc with _ ht
    exact absurd ht (by decide)
  have hBr : some B ≠ v.ownBlock := fun e => by
    obtain ⟨cells, hc⟩ := own_typed hrow.1 B e.symm
    obtain ⟨cells', hc'⟩ := own_typed h4 B rfl
    rw [hc'] at hc
    injection hc with hc
    injection hc with _ ht
    exact absurd ht (by decide)
  have hgB : g ≠ B := fun e => by
    subst e
    obtain ⟨cells', hc'⟩ := own_typed h4 g rfl
    rw [h1] at hc'
    injection hc' with hc
    injection hc with _ ht
    exact absurd ht (by decide)
  have h4' : w1.ownsRow base 22 1 (.slice (some ⟨B, 0, none⟩) vs.length cap) vs.length vs := h4.kept hg (.inr (fun e => hBr (by rw [← e]; rfl)))
  have h4s := (h4'.stored m v1).1
  have hB1 : ∀ k, v1.ownBlock = some k → own k ∨ w.heap.size ≤ k := by
    intro k hk
    rcases hat with e | ⟨b, hb, hl⟩
    · exact .inl (hrow.2 k (by rw [← e]; exact hk))
    · rw [hb] at hk
      injection hk with hk
      exact .inr (hk ▸ hl)
  have ltB := lt h4 B rfl
  have mvB : ∀ {n : Nat} {u : Value} {xs : List Value}, w1.ownsRow base 3 1 u n xs → (w1.setCell ⟨B, m, none⟩ v1).ownsRow base 3 1 u n xs := by
    intro n u xs hr
    refine own_move hr (fun k hk => Below.heap_setCell w1 _ v1 k ?_)
    intro e
    rw [show k = B from e] at hk
    obtain ⟨cells, hc⟩ := own_typed hr _ hk
    obtain ⟨cells', hc'⟩ := own_typed h4' B rfl
    rw [hc'] at hc
    injection hc with hc
    injection hc with _ ht
    exact absurd ht (by decide)
  refine ⟨fun k => own k ∨ w.heap.size ≤ k, ⟨.slice (some ⟨B, 0, none⟩) vs.length cap, vs.set m v1, ?_, h2, .inl h3, ?_, fun k hk => .inl (h5 k hk), by simp [h6], ?_, ?_⟩, ?_⟩
  · rw [Below.heap_setCell _ _ _ _ hgB]
    exact blk_grown h1 hg hgr
  · rw [List.length_set]
    exact h4s
  · intro i hi hi'
    simp only [List.length_set] at hi hi'
    by_cases e : m = i
    · subst e
      refine ⟨?_, ?_⟩
      · have := mvB hown
        simpa [nums] using this
      · intro k hk
        exact hB1 k (by simpa using hk)
    · have hr := h7 i hi hi'
      have := mvB (hr.1.kept hg (by
        rcases h8 i m hi hm' (fun h => e h.symm) with h | h
        · exact .inl h
        · exact .inr (by rw [ev] at h; exact h)))
      refine ⟨?_, ?_⟩
      · simpa [List.getElem_set, e] using this
      · intro k hk
        exact .inl (hr.2 k (by simpa [List.getElem_set, e] using hk))
  · intro i j hi hj hne
    simp only [List.length_set] at hi hj
    have far : ∀ j (hj : j < vs.length), m ≠ j → v1.ownBlock = none ∨ v1.ownBlock ≠ vs[j].ownBlock := by
      intro j hj hne
      rcases hat with e | ⟨b, hb, hl⟩
      · rw [e, ← ev]
        exact h8 m j hm' hj hne
      · refine .inr (fun hc => ?_)
        have := lt (h7 j hj (by omega)).1 b (by rw [← hc]; exact hb)
        omega
    by_cases e1 : m = i
    · subst e1
      have := far j hj hne
      simpa [List.getElem_set, hne] using this
    · by_cases e2 : m = j
      · subst e2
        have := far i hi e1
        simp only [List.getElem_set, e1, if_false, if_true]
        rcases this with h | h
        · rw [h]
          cases hx : vs[i].ownBlock with
          | none => exact .inl rfl
          | some k => exact .inr (by simp)
        · exact .inr (fun h' => h h'.symm)
      · simpa [List.getElem_set, e1, e2] using h8 i j hi hj hne
  · refine ⟨hB.setCell hbB v1, fun _ h => .inl h, fun _ h => h, fun k hk hn => ?_⟩
    rw [Below.heap_setCell _ _ _ _ (fun e => hn (by rw [e]; exact hBo))]
    refine hg.block k hk (fun e => hn (hrow.2 k e.symm))
theorem own_fun {w : World} {b b' n : Nat} {e e' : TypeId} {v : Value} {xs xs' : List Value} (h : w.ownsRow b e 1 v n xs) (h' : w.ownsRow b' e' 1 v n xs') : xs = xs' := by
  have l1 : xs.length = n := by have := h.1; omega
  have l2 : xs'.length = n := by have := h'.1; omega
  rcases Nat.eq_zero_or_pos n with h0 | h0
  · rw [List.eq_nil_of_length_eq_zero (l1.trans h0), List.eq_nil_of_length_eq_zero (l2.trans h0)]
  · obtain ⟨g, cap, rfl, _, _⟩ := h.form h0
    refine List.ext_getElem? (fun i => ?_)
    by_cases hi : i < n
    · rw [← h.cellAt i (by omega), ← h'.cellAt i (by omega)]
    · rw [List.getElem?_eq_none (by omega), List.getElem?_eq_none (by omega)]
/-- A new frame begins, with no balls. -/
theorem LN.more {w w1 : World} {base : Nat} {own : Nat → Prop} {g : Nat} {fr pins : Int} {bg : List (List Int)} {fresh : Bool} {v v1 : Value} {xs : List Value} (h : LN w base own g fr bg pins fresh)
    (c1 : w.cell? ⟨g, 1, none⟩ = some v) (hown0 : w.ownsRow base 22 1 v bg.length xs) (hown : w1.ownsRow base 22 1 v1 (bg.length + 1) (xs ++ [.slice none 0 0])) (hB : Below base w w1) (hg : w.grownBy w1 v.ownBlock)
    (hat : v1.ownBlock = v.ownBlock ∨ ∃ b, v1.ownBlock = some b ∧ w.heap.size ≤ b) :
    ∃ own', LN (w1.setCell ⟨g, 1, none⟩ v1) base own' g fr (bg ++ [[]]) pins fresh ∧ Went base own own' w (w1.setCell ⟨g, 1, none⟩ v1) := by
  obtain ⟨bv, vs, h1, h2, h3, h4, h5, h6, h7, h8⟩ := h
  have e1 : bv = v := by
    have : w.cell? ⟨g, 1, none⟩ = some bv := by simp [World.cell?, h1]
    rw [this] at c1
    injection c1 with c1
  subst e1
  rw [h6] at h4
  obtain rfl := own_fun h4 hown0
  have hgr : some g ≠ bv.ownBlock := fun e => by
    obtain ⟨cells, hc⟩ := own_typed h4 g e.symm
    rw [h1] at hc
    injection hc with hc
    injection hc with _ ht
    exact absurd ht (by decide)
  have h1' := blk_grown h1 hg hgr
  have mv : ∀ {e n : Nat} {u : Value} {xs : List Value}, e ≠ 37 → w1.ownsRow base e 1 u n xs → (w1.setCell ⟨g, 1, none⟩ v1).ownsRow base e 1 u n xs := by
    intro e n u xs he hr
    refine own_move hr (fun k hk => Below.heap_setCell w1 _ v1 k ?_)
    rintro rfl
    obtain ⟨cells, hc⟩ := own_typed hr _ hk
    rw [h1'] at hc
    injection hc with hc
    injection hc with _ ht
    exact he ht.symm
  have row : ∀ i (hi : i < vs.length) (hi' : i < bg.length), (w1.setCell ⟨g, 1, none⟩ v1).ownsRow base 3 1 vs[i] bg[i].length (nums .i64 bg[i]) := by
    intro i hi hi'
    have hr := (h7 i hi hi').1
    exact mv (by decide) (hr.kept hg (own_type_ne hr h4 (by decide)))
  refine ⟨fun k => own k ∨ w.heap.size ≤ k, ⟨v1, vs ++ [.slice none 0 0], ?_, h2, .inl h3, ?_, ?_, by simp [h6], ?_, ?_⟩, ?_⟩
  · rw [blk_set h1' 1 v1]
    simp
  · have := mv (by decide) hown
    simpa [h6] using this
  · intro k hk
    rcases hat with e | ⟨b, hb, hl⟩
    · exact .inl (h5 k (by rw [← e]; exact hk))
    · rw [hb] at hk
      injection hk with hk
      exact .inr (hk ▸ hl)
  · intro i hi hi'
    by_cases e : i < vs.length
    · rw [List.getElem_append_left e, List.getElem_append_left (by omega)]
      exact ⟨row i e (by omega), fun k hk => .inl ((h7 i e (by omega)).2 k hk)⟩
    · rw [List.getElem_append_right (by omega), List.getElem_append_right (by omega)]
      simp only [List.getElem_singleton]
      exact ⟨own_nil _ _ _ _, fun k hk => by simp [Value.ownBlock] at hk⟩
  · intro i j hi hj hne
    by_cases e : i < vs.length
    · rw [List.getElem_append_left e]
      by_cases e2 : j < vs.length
      · rw [List.getElem_append_left e2]
        exact h8 i j e e2 hne
      · rw [List.getElem_append_right (by omega)]
        simp only [List.getElem_singleton]
        cases hx : vs[i].ownBlock with
        | none => exact .inl rfl
        | some k => exact .inr (by simp [Value.ownBlock])
    · rw [List.getElem_append_right (by omega)]
      simp only [List.getElem_singleton]
      exact .inl rfl
  · refine ⟨hB.setCell h2 v1, fun _ h => .inl h, fun _ h => h, fun k hk hn => ?_⟩
    rw [Below.heap_setCell _ _ _ _ (fun e => hn (by rw [e]; exact h3))]
    exact hg.block k hk (fun e => hn (h5 k e.symm))
/-- The pins that stand, and whether they are fresh, are written. -/
theorem LN.putW {w0 w2 : World} {base : Nat} {own own2 : Nat → Prop} {g : Nat} {fr pins : Int} {bg : List (List Int)} {fresh : Bool} (hL : LN w2 base own2 g fr bg pins fresh) (hW : Went base own own2 w0 w2) (x : Int) (b : Bool) :
    LN ((w2.setCell ⟨g, 2, none⟩ (.int .i64 x)).setCell ⟨g, 3, none⟩ (.bool b)) base own2 g fr bg x b ∧ Went base own own2 w0 ((w2.setCell ⟨g, 2, none⟩ (.int .i64 x)).setCell ⟨g, 3, none⟩ (.bool b)) := by
  have h1 := (hL.put.1 x).put.2 b
  obtain ⟨bv, vs, e1, e2, e3, _⟩ := hL
  exact ⟨h1, (hW.put e2 e3 2 _).put e2 e3 3 _⟩
theorem LN.drawnN {w : World} {base : Nat} {own : Nat → Prop} {g : Nat} {fr pins : Int} {bg : List (List Int)} {fresh : Bool} (h : LN w base own g fr bg pins fresh) (n : Nat) : LN (w.drewN n) base own g fr bg pins fresh := h.drawn ⟨⟨n, rfl⟩⟩
theorem drewN_zero (w : World) : w.drewN 0 = w := rfl
theorem wrapK (x : Int) : IntKind.i64.wrap x = wrap64 x := by simp only [IntKind.wrap_i64, wrap64]
set_option maxHeartbeats 4000000 in
theorem all_few (w : World) (g F m c : Nat) (A : Option Addr) (c0 : w.cell? ⟨g, 0, none⟩ = some (.int .i64 (F : Int))) (c1 : w.cell? ⟨g, 1, none⟩ = some (.slice A m c)) (hlt : m < F) :
    Calls Tryd.prog 27 #[.pointer (some ⟨g, 0, none⟩)] w fun e w' => e = .returned (.bool false) ∧ Drawn0 w w' := by
  have t1 : decide ((m : Int) < (F : Int)) = true := decide_eq_true (by omega)
  have t2 : decide (m < F) = true := decide_eq_true hlt
  go_enter Tryd.func27, Tryd.ntmps27
  go_wp2_with fail
  go_quiet (fail)
  go_wp2
  go_ret
  exact ⟨rfl, by repeat (first | exact Drawn0.refl _ | apply Drawn0.step)⟩
set_option maxHeartbeats 4000000 in
theorem all_three (w : World) (g K m c B n c2 : Nat) (A2 : Option Addr) (c0 : w.cell? ⟨g, 0, none⟩ = some (.int .i64 ((K + 1 : Nat) : Int))) (c1 : w.cell? ⟨g, 1, none⟩ = some (.slice (some ⟨B, 0, none⟩) m c)) (hge : K < m) (hm : m ≤ 9223372036854775807)
  (cr : w.cell? ⟨B, K, none⟩ = some (.slice A2 n c2)) (hn : n ≤ 9223372036854775807) (h3 : n = 3) :
    Calls Tryd.prog 27 #[.pointer (some ⟨g, 0, none⟩)] w fun e w' => e = .returned (.bool true) ∧ Drawn0 w w' := by
  subst h3
  have t1 : decide ((m : Int) < ((K + 1 : Nat) : Int)) = false := decide_eq_false (by omega)
  have t2 : decide (m < K + 1) = false := decide_eq_false (by omega)
  have hw : wrap64 (((K + 1 : Nat) : Int) - 1) = (K : Int) := by unfold wrap64; omega
  have hw2 : IntKind.i64.wrap (((K + 1 : Nat) : Int) - 1) = (K : Int) := by rw [wrapK]; exact hw
  go_enter Tryd.func27, Tryd.ntmps27
  go_wp2_with fail
  go_quiet (fail)
  go_wp2_with fail
  go_quiet (fail)
  go_wp2_with fail
  go_quiet (fail)
  go_wp2
  go_ret
  exact ⟨rfl, by repeat (first | exact Drawn0.refl _ | apply Drawn0.step)⟩
set_option maxHeartbeats 4000000 in
theorem all_other (w : World) (g K m c B n c2 : Nat) (A2 : Option Addr) (c0 : w.cell? ⟨g, 0, none⟩ = some (.int .i64 ((K + 1 : Nat) : Int))) (c1 : w.cell? ⟨g, 1, none⟩ = some (.slice (some ⟨B, 0, none⟩) m c)) (hge : K < m) (hm : m ≤ 9223372036854775807)
  (cr : w.cell? ⟨B, K, none⟩ = some (.slice A2 n c2)) (h3 : n ≠ 3) (h2 : n ≠ 2) :
    Calls Tryd.prog 27 #[.pointer (some ⟨g, 0, none⟩)] w fun e w' => e = .returned (.bool false) ∧ Drawn0 w w' := by
  have t1 : decide ((m : Int) < ((K + 1 : Nat) : Int)) = false := decide_eq_false (by omega)
  have t2 : decide (m < K + 1) = false := decide_eq_false (by omega)
  have hw : wrap64 (((K + 1 : Nat) : Int) - 1) = (K : Int) := by unfold wrap64; omega
  have hw2 : IntKind.i64.wrap (((K + 1 : Nat) : Int) - 1) = (K : Int) := by rw [wrapK]; exact hw
  have e3 : ((n : Int) == 3) = false := by rw [beq_eq_false_iff_ne]; omega
  have e2 : ((n : Int) == 2) = false := by rw [beq_eq_false_iff_ne]; omega
  clear h3 h2
  go_enter Tryd.func27, Tryd.ntmps27
  go_wp2_with fail
  go_quiet (fail)
  go_wp2_with fail
  go_quiet (fail)
  go_wp2_with fail
  go_quiet (fail)
  go_wp2
  go_ret
  exact ⟨rfl, by repeat (first | exact Drawn0.refl _ | apply Drawn0.step)⟩
set_option maxHeartbeats 4000000 in
theorem all_ten (w : World) (g K m c B n c2 : Nat) (A2 : Option Addr) (c0 : w.cell? ⟨g, 0, none⟩ = some (.int .i64 ((K + 1 : Nat) : Int))) (c1 : w.cell? ⟨g, 1, none⟩ = some (.slice (some ⟨B, 0, none⟩) m c)) (hge : K < m) (hm : m ≤ 9223372036854775807)
  (cr : w.cell? ⟨B, K, none⟩ = some (.slice A2 n c2)) (hn : n ≤ 9223372036854775807) (R : Nat) (hA : A2 = some ⟨R, 0, none⟩) (h2 : n = 2) (r0 : w.cell? ⟨R, 0, none⟩ = some (.int .i64 10)) :
    Calls Tryd.prog 27 #[.pointer (some ⟨g, 0, none⟩)] w fun e w' => e = .returned (.bool false) ∧ Drawn0 w w' := by
  subst h2
  subst hA
  have t1 : decide ((m : Int) < ((K + 1 : Nat) : Int)) = false := decide_eq_false (by omega)
  have t2 : decide (m < K + 1) = false := decide_eq_false (by omega)
  have hw : wrap64 (((K + 1 : Nat) : Int) - 1) = (K : Int) := by unfold wrap64; omega
  have hw2 : IntKind.i64.wrap (((K + 1 : Nat) : Int) - 1) = (K : Int) := by rw [wrapK]; exact hw
  go_enter Tryd.func27, Tryd.ntmps27
  go_wp2_with fail
  go_quiet (fail)
  go_wp2_with fail
  go_quiet (fail)
  go_wp2_with fail
  go_quiet (fail)
  go_wp2
  go_ret
  exact ⟨rfl, by repeat (first | exact Drawn0.refl _ | apply Drawn0.step)⟩
set_option maxHeartbeats 4000000 in
theorem all_two (w : World) (g K m c B n c2 : Nat) (A2 : Option Addr) (c0 : w.cell? ⟨g, 0, none⟩ = some (.int .i64 ((K + 1 : Nat) : Int))) (c1 : w.cell? ⟨g, 1, none⟩ = some (.slice (some ⟨B, 0, none⟩) m c)) (hge : K < m) (hm : m ≤ 9223372036854775807)
  (cr : w.cell? ⟨B, K, none⟩ = some (.slice A2 n c2)) (hn : n ≤ 9223372036854775807) (R : Nat) (a b : Int) (hA : A2 = some ⟨R, 0, none⟩) (h2 : n = 2) (r0 : w.cell? ⟨R, 0, none⟩ = some (.int .i64 a)) (r1 : w.cell? ⟨R, 1, none⟩ = some (.int .i64 b)) (ha : a ≠ 10) (v : Bool) (hv : decide (wrap64 (a + b) < 10) = v) :
    Calls Tryd.prog 27 #[.pointer (some ⟨g, 0, none⟩)] w fun e w' => e = .returned (.bool v) ∧ Drawn0 w w' := by
  subst h2
  subst hA
  have t1 : decide ((m : Int) < ((K + 1 : Nat) : Int)) = false := decide_eq_false (by omega)
  have t2 : decide (m < K + 1) = false := decide_eq_false (by omega)
  have hw : wrap64 (((K + 1 : Nat) : Int) - 1) = (K : Int) := by unfold wrap64; omega
  have hw2 : IntKind.i64.wrap (((K + 1 : Nat) : Int) - 1) = (K : Int) := by rw [wrapK]; exact hw
  have e1 : (a == 10) = false := by rw [beq_eq_false_iff_ne]; exact ha
  have e2 : (a != 10) = true := by rw [bne_iff_ne]; exact ha
  have e3 : decide (IntKind.i64.wrap (a + b) < 10) = v := by rw [wrapK]; exact hv
  clear ha
  go_enter Tryd.func27, Tryd.ntmps27
  go_wp2_with fail
  go_quiet (fail)
  go_wp2_with fail
  go_quiet (fail)
  go_wp2_with fail
  go_quiet (fail)
  go_wp2
  go_ret
  exact ⟨rfl, by repeat (first | exact Drawn0.refl _ | apply Drawn0.step)⟩
def allV (F : Nat) (bg : List (List Int)) : Bool :=
  if bg.length < F then false else
  match bg.getD (F - 1) [] with
  | [a, b] => (a != 10) && decide (a + b < 10)
  | [_, _, _] => true
  | _ => false
def doneV (r : List Int) : Bool := r.length == 2 || r.getD 0 0 == 10
/-- No number of pins is greater than ten. -/
def Few (bg : List (List Int)) : Prop := ∀ r ∈ bg, r ≠ [] ∧ r.length ≤ 3 ∧ ∀ x ∈ r, 0 ≤ x ∧ x ≤ 10
theorem all_calls {w : World} {base : Nat} {own : Nat → Prop} {g F : Nat} {pins : Int} {bg : List (List Int)} {fresh : Bool} (h : LN w base own g (F : Int) bg pins fresh) (hF : 1 ≤ F) (hs : Few bg) :
    Calls Tryd.prog 27 #[.pointer (some ⟨g, 0, none⟩)] w fun e w' => e = .returned (.bool (allV F bg)) ∧ Drawn0 w w' := by
  obtain ⟨c0, _, _, ⟨A, c, c1⟩, _, _, hm⟩ := h.cells
  unfold maxLen at hm
  by_cases hlt : bg.length < F
  · have := all_few w g F bg.length c A c0 c1 hlt
    unfold allV
    rw [if_pos hlt]
    exact this
  · obtain ⟨K, rfl⟩ : ∃ K, F = K + 1 := ⟨F - 1, by omega⟩
    obtain ⟨B, cap, A2, c2, d1, d2, _, d4⟩ := h.row K (by omega)
    have hrow : bg.getD (K + 1 - 1) [] = bg[K] := by simp [List.getD_eq_getElem?_getD, List.getElem?_eq_getElem (show K < bg.length by omega)]
    obtain ⟨hne, h3, hx⟩ := hs bg[K] (List.getElem_mem _)
    unfold allV
    rw [if_neg hlt, hrow]
    have key : ∀ (r : List Int), bg[K] = r → Calls Tryd.prog 27 #[.pointer (some ⟨g, 0, none⟩)] w fun e w' => e = .returned (.bool (match r with | [a, b] => (a != 10) && decide (a + b < 10) | [_, _, _] => true | _ => false)) ∧ Drawn0 w w' := by
      intro r hr
      match r, hr with
      | [], hr => exact absurd hr hne
      | [a], hr => exact all_other w g K bg.length cap B bg[K].length c2 A2 c0 d1 (by omega) (by omega) d2 (by rw [hr]; simp) (by rw [hr]; simp)
      | [a, b], hr =>
        obtain ⟨R, hA, r0⟩ := d4 0 (by rw [hr]; simp)
        obtain ⟨R', hA', r1⟩ := d4 1 (by rw [hr]; simp)
        rw [hA] at hA'
        injection hA' with hA'
        injection hA' with hA' _
        subst hA'
        have e0 : bg[K][0]'(by rw [hr]; simp) = a := by simp [hr]
        have e1 : bg[K][1]'(by rw [hr]; simp) = b := by simp [hr]
        rw [e0] at r0
        rw [e1] at r1
        have hl : bg[K].length = 2 := by rw [hr]; rfl
        have ha := hx a (by rw [hr]; simp)
        have hb := hx b (by rw [hr]; simp)
        by_cases h10 : a = 10
        · subst h10
          exact all_ten w g K bg.length cap B bg[K].length c2 A2 c0 d1 (by omega) (by omega) d2 (by omega) R hA hl r0
        · have := all_two w g K bg.length cap B bg[K].length c2 A2 c0 d1 (by omega) (by omega) d2 (by omega) R a b hA hl r0 r1 h10 (decide (a + b < 10)) (by rw [show wrap64 (a + b) = a + b by unfold wrap64; omega])
          refine this.mono fun e w' ⟨he, hd⟩ => ⟨?_, hd⟩
          show e = .returned (.bool ((a != 10) && decide (a + b < 10)))
          rw [he, show (a != 10) = true by rw [bne_iff_ne]; exact h10, Bool.true_and]
      | [a, b, c], hr => exact all_three w g K bg.length cap B bg[K].length c2 A2 c0 d1 (by omega) (by omega) d2 (by rw [hr]; simp) (by rw [hr]; rfl)
      | a :: b :: c :: d :: r, hr => rw [hr] at h3; simp at h3
    exact key bg[K] rfl
set_option maxHeartbeats 4000000 in
theorem done_two (w : World) (p A : Option Addr) (n c : Nat) (h2 : n = 2) :
    Calls Tryd.prog 28 #[.pointer p, .slice A n c] w fun e w' => e = .returned (.bool true) ∧ Drawn0 w w' := by
  subst h2
  go_enter Tryd.func28, Tryd.ntmps28
  go_wp2
  go_ret
  exact ⟨rfl, by repeat (first | exact Drawn0.refl _ | apply Drawn0.step)⟩
set_option maxHeartbeats 4000000 in
theorem done_one (w : World) (p : Option Addr) (R n c : Nat) (a : Int) (v : Bool) (h2 : n ≠ 2) (h0 : 0 < n) (r0 : w.cell? ⟨R, 0, none⟩ = some (.int .i64 a)) (hv : (a == 10) = v) :
    Calls Tryd.prog 28 #[.pointer p, .slice (some ⟨R, 0, none⟩) n c] w fun e w' => e = .returned (.bool v) ∧ Drawn0 w w' := by
  have e2 : ((n : Int) == 2) = false := by rw [beq_eq_false_iff_ne]; omega
  have t1 : decide ((0 : Int) < (n : Int)) = true := decide_eq_true (by omega)
  clear h2
  go_enter Tryd.func28, Tryd.ntmps28
  go_wp2
  go_ret
  exact ⟨rfl, by repeat (first | exact Drawn0.refl _ | apply Drawn0.step)⟩
theorem done_calls {w : World} (p A : Option Addr) (c : Nat) (r : List Int) (hne : r ≠ []) (hr : ∀ j (hj : j < r.length), ∃ R, A = some ⟨R, 0, none⟩ ∧ w.cell? ⟨R, j, none⟩ = some (.int .i64 r[j])) :
    Calls Tryd.prog 28 #[.pointer p, .slice A r.length c] w fun e w' => e = .returned (.bool (doneV r)) ∧ Drawn0 w w' := by
  by_cases h2 : r.length = 2
  · have := done_two w p A r.length c h2
    unfold doneV
    rw [show (r.length == 2) = true by simpa using h2, Bool.true_or]
    exact this
  · have h0 : 0 < r.length := List.length_pos_iff.2 hne
    obtain ⟨R, rfl, hc⟩ := hr 0 h0
    have := done_one w p R r.length c r[0] (r[0] == 10) h2 h0 hc rfl
    unfold doneV
    rw [show (r.length == 2) = false by simpa using h2, Bool.false_or, show r.getD 0 0 = r[0] by simp [List.getD_eq_getElem?_getD, h0]]
    exact this
set_option maxHeartbeats 4000000 in
theorem within_calls (a b c : Int) (w : World) : Calls Tryd.prog 14 #[.int .i64 a, .int .i64 b, .int .i64 c] w fun e w' => e = .returned (.bool (decide (b ≤ a ∧ a ≤ c))) ∧ Drawn0 w w' := by
  by_cases h : b ≤ a
  · have t1 : decide (b ≤ a) = true := decide_eq_true h
    have t2 : decide (b ≤ a ∧ a ≤ c) = decide (a ≤ c) := by simp [h]
    rw [t2]
    clear t2
    go_enter Tryd.func14, Tryd.ntmps14
    go_wp2
    go_ret
    exact ⟨rfl, by repeat (first | exact Drawn0.refl _ | apply Drawn0.step)⟩
  · have t1 : decide (b ≤ a) = false := decide_eq_false h
    have t2 : decide (b ≤ a ∧ a ≤ c) = false := by simp [h]
    rw [t2]
    clear t2
    go_enter Tryd.func14, Tryd.ntmps14
    go_wp2
    go_ret
    exact ⟨rfl, by repeat (first | exact Drawn0.refl _ | apply Drawn0.step)⟩
theorem info3 : (Tryd.prog.info? 3).map (fun i => (i.zero, i.size, i.bytes)) = some (some (.int .i64 0), 1, 8) := by kernel_rfl
theorem infoI : (Tryd.prog.info? 22).map (fun i => (i.zero, i.size, i.bytes)) = some (some (.slice none 0 0), 1, 24) := by kernel_rfl
def To (a2 : Option Addr → Nat → Act) (X : World → Prop) : Exit → Act → World → Prop
  | .normal, a, w => ∃ A k, a = a2 A k ∧ X w
  | _, _, _ => False
theorem wp_cut {P : Program} {c : Code} {Q : Exit → Act → World → Prop} {a : Act} {w : World} (a2 : Option Addr → Nat → Act) (X : World → Prop)
    (h : Code.wp P c (To a2 X) a w) (k : ∀ A j w2, X w2 → Q .normal (a2 A j) w2) : Code.wp P c Q a w :=
  Code.wp_mono (fun e a w he => by
    cases e with
    | normal =>
      obtain ⟨A, j, rfl, hx⟩ := he
      exact k A j w hx
    | _ => exact False.elim he) h
def endV (F k : Nat) (bg : List (List Int)) (p : Int) : Int × Bool := if p = 0 ∨ ((k : Int) < (F : Int) - 1 ∧ doneV (bg.getD k []) = true) then (10, true) else (p, false)
theorem c_neg (m : Nat) : decide ((m : Int) < 0) = false := decide_eq_false (by omega)
theorem c_bytes (a M : Nat) (h : a = M) (h2 : M < 100) : (a + 1) * 24 ≤ 140737488355328 := by omega
theorem c_less (M m : Nat) (h : M = m + 1) (h2 : M < 100) : wrap64 ((M : Int) - 1) = (m : Int) := by unfold wrap64; omega
theorem c_more (M m : Nat) (h : M = m + 1) (h2 : M < 100) : wrap64 ((m : Int) + 1) = (M : Int) := by unfold wrap64; omega
theorem c_frames (F : Nat) (h : 1 ≤ F) (h2 : F ≤ 10) : wrap64 ((F : Int) - 1) = (F : Int) - 1 := by unfold wrap64; omega
set_option maxRecDepth 100000 in
set_option maxHeartbeats 8000000 in
theorem roll_all (w : World) (base g F : Nat) (own : Nat → Prop) (bg : List (List Int)) (fresh : Bool) (pins n : Int)
    (h : LN w base own g (F : Int) bg pins fresh) (hF : 1 ≤ F) (hs : Few bg) (ha : allV F bg = true) :
    Calls Tryd.prog 17 #[.pointer (some ⟨g, 0, none⟩), .int .i64 n] w fun e w' => e = .returned (.bool false) ∧ Drawn0 w w' := by
  obtain ⟨c0, c2, c3, _, _⟩ := h.cells
  have HH := Aside0.mk h
  have HS := Aside0.mk hs
  clear h hs
  go_enter Tryd.func17, Tryd.ntmps17
  go_wp2_with (first | (go_at_call 27; refine (all_calls HH.out hF HS.out).mono ?_; rintro e w' ⟨rfl, ⟨nd, rfl⟩⟩) | (go_at_call 14; refine (within_calls _ _ _ _).mono ?_; rintro e w' ⟨rfl, ⟨nd, rfl⟩⟩))
  go_ret
  exact ⟨rfl, by repeat (first | exact Drawn0.refl _ | apply Drawn0.step)⟩
set_option maxRecDepth 100000 in
set_option maxHeartbeats 8000000 in
theorem roll_out (w : World) (base g F : Nat) (own : Nat → Prop) (bg : List (List Int)) (fresh : Bool) (pins n : Int)
    (h : LN w base own g (F : Int) bg pins fresh) (hF : 1 ≤ F) (hs : Few bg) (ha : allV F bg = false) (hn : decide (0 ≤ n ∧ n ≤ pins) = false) :
    Calls Tryd.prog 17 #[.pointer (some ⟨g, 0, none⟩), .int .i64 n] w fun e w' => e = .returned (.bool false) ∧ Drawn0 w w' := by
  obtain ⟨c0, c2, c3, _, _⟩ := h.cells
  have HH := Aside0.mk h
  have HS := Aside0.mk hs
  clear h hs
  go_enter Tryd.func17, Tryd.ntmps17
  go_wp2_with (first | (go_at_call 27; refine (all_calls HH.out hF HS.out).mono ?_; rintro e w' ⟨rfl, ⟨nd, rfl⟩⟩) | (go_at_call 14; refine (within_calls _ _ _ _).mono ?_; rw [hn]; rintro e w' ⟨rfl, ⟨nd, rfl⟩⟩))
  go_ret
  exact ⟨rfl, by repeat (first | exact Drawn0.refl _ | apply Drawn0.step)⟩
end Go.Proofs.YtdioconinnpmmaaDoor.Lane
