/- What the closure that counts games tells, and the map that it keeps: for at most ten frames. -/
import Derived.Test.YtdioconinnpmmaaWMore
import Derived.Test.YtdioconinnpmmaaProg
import Derived.Outline
import Derived.Deep.RegionLaw
import Derived.StillTailTactics
import Derived.Laws.EntriesVeiled
import Derived.Maps.OwnSet
import Derived.DeepKeys4
import Derived.ChangeBookTie2
set_option linter.unusedVariables false
set_option linter.unusedSimpArgs false
namespace Go.Proofs.Ytdioconinnpmmaa.Pin
open Go.RowKit Go.Proofs.YtdioconinnpmmaaW.PrintWords Go.Proofs.YtdioconinnpmmaaW.PrintLast
/-! ### Pins: what the closure counts; the map that it keeps -/
abbrev Pk := Int × Int × Int
/-- The balls of a frame but the last. -/
def innerL : List (List Int) := ((List.range 10).flatMap fun (a : Nat) => (List.range (11 - a)).map fun (b : Nat) => [(a : Int), (b : Int)]) ++ [[10]]
/-- The balls of a last frame. -/
def lastL : List (List Int) := (List.range 11).flatMap fun (a : Nat) => (List.range 11).flatMap fun (b : Nat) =>
  if a < 10 ∧ 10 < a + b then [] else if a < 10 ∧ a + b < 10 then [[(a : Int), (b : Int)]] else (List.range (if a = 10 ∧ b < 10 then 11 - b else 11)).map fun (c : Nat) => [(a : Int), (b : Int), (c : Int)]
def framesV (n : Int) : List (List Int) := if n = 1 then lastL else innerL
def pointsV (x y : Int) : List Int → Int
  | [a] => a * x
  | [a, b] => a * x + b * y
  | a :: b :: c :: _ => a * x + b * y + c
  | [] => 0
def nextV (k : Pk) (fr : List Int) : Pk := if fr.getD 0 0 = 10 then (k.1 - 1, k.2.2 + 1, 2) else if fr.sum = 10 then (k.1 - 1, 2, 1) else (k.1 - 1, 1, 1)
def okPk (k : Pk) : Prop := (1 ≤ k.1 ∧ k.1 ≤ 10) ∧ (1 ≤ k.2.1 ∧ k.2.1 ≤ 3) ∧ (1 ≤ k.2.2 ∧ k.2.2 ≤ 2) ∧ k.2.2 ≤ k.2.1
/-- How many games of so many frames go on to a total. -/
def cntP : Nat → Int → Int → Int → Nat
  | 0, _, _, t => if t = 0 then 1 else 0
  | n + 1, x, y, t => ((framesV ((n + 1 : Nat) : Int)).map fun fr => cntP n (nextV (0, x, y) fr).2.1 (nextV (0, x, y) fr).2.2 (t - pointsV x y fr)).sum
def tabAt (k : Pk) (t : Int) : Int := cntP k.1.toNat k.2.1 k.2.2 t
theorem sum_le {α : Type} (f : α → Nat) (B : Nat) : ∀ (L : List α), (∀ x ∈ L, f x ≤ B) → (L.map f).sum ≤ L.length * B
  | [], _ => by simp
  | x :: L, h => by
    have h1 := h x (List.mem_cons_self ..)
    have h2 := sum_le f B L (fun y hy => h y (List.mem_cons_of_mem _ hy))
    simp only [List.map_cons, List.sum_cons, List.length_cons, Nat.add_mul]
    omega
theorem sum_zero {α : Type} (f : α → Nat) : ∀ (L : List α), (∀ x ∈ L, f x = 0) → (L.map f).sum = 0
  | [], _ => rfl
  | x :: L, h => by
    have h1 := h x (List.mem_cons_self ..)
    have h2 := sum_zero f L (fun y hy => h y (List.mem_cons_of_mem _ hy))
    simp only [List.map_cons, List.sum_cons]
    omega
theorem inner_len : innerL.length = 66 := by decide +kernel
theorem last_len : lastL.length = 241 := by decide +kernel
/-- What is known of a frame's balls. -/
def frOk (fr : List Int) : Bool := match fr with
  | [a] => decide (a = 10)
  | [a, b] => decide ((0 ≤ a ∧ a < 10) ∧ 0 ≤ b ∧ a + b ≤ 10)
  | [a, b, c] => decide ((0 ≤ a ∧ a ≤ 10) ∧ (0 ≤ b ∧ b ≤ 10) ∧ 0 ≤ c ∧ c ≤ 10)
  | _ => false
theorem inner_all : innerL.all (fun fr => frOk fr && decide (fr.length ≤ 2)) = true := by decide +kernel
theorem last_all : lastL.all frOk = true := by decide +kernel
theorem frames_ok (n : Int) : ∀ fr ∈ framesV n, frOk fr = true := by
  intro fr h
  unfold framesV at h
  split at h
  · exact List.all_eq_true.1 last_all fr h
  · have := List.all_eq_true.1 inner_all fr h
    simp only [Bool.and_eq_true] at this
    exact this.1
theorem mul3 {a x : Int} (a0 : 0 ≤ a) (a1 : a ≤ 10) (hx : x = 1 ∨ x = 2 ∨ x = 3) : 0 ≤ a * x ∧ a * x ≤ 10 * x := by rcases hx with rfl | rfl | rfl <;> omega
theorem points_in {fr : List Int} (h : frOk fr = true) {x y : Int} (x0 : 1 ≤ x) (x1 : x ≤ 3) (y0 : 1 ≤ y) (y1 : y ≤ 2) : 0 ≤ pointsV x y fr ∧ pointsV x y fr ≤ 60 := by
  have hx : x = 1 ∨ x = 2 ∨ x = 3 := by omega
  have hy : y = 1 ∨ y = 2 ∨ y = 3 := by omega
  match fr, h with
  | [a], h =>
    have h := of_decide_eq_true h
    subst h
    show 0 ≤ 10 * x ∧ 10 * x ≤ 60
    omega
  | [a, b], h =>
    have h := of_decide_eq_true h
    have m1 := mul3 h.1.1 (by omega) hx
    have m2 := mul3 (a := b) h.2.1 (by omega) hy
    show 0 ≤ a * x + b * y ∧ a * x + b * y ≤ 60
    omega
  | [a, b, c], h =>
    have h := of_decide_eq_true h
    have m1 := mul3 h.1.1 h.1.2 hx
    have m2 := mul3 (a := b) h.2.1.1 h.2.1.2 hy
    show 0 ≤ a * x + b * y + c ∧ a * x + b * y + c ≤ 60
    omega
/-- The state behind a frame is one of four. -/
theorem next_in (x y : Int) (y0 : 1 ≤ y) (y1 : y ≤ 2) (fr : List Int) : (1 ≤ (nextV (0, x, y) fr).2.1 ∧ (nextV (0, x, y) fr).2.1 ≤ 3) ∧ 1 ≤ (nextV (0, x, y) fr).2.2 ∧ (nextV (0, x, y) fr).2.2 ≤ 2 := by
  unfold nextV
  split
  · simp only; omega
  · split <;> (simp only; omega)
theorem next_of (k : Pk) (fr : List Int) : nextV k fr = (k.1 - 1, (nextV (0, k.2.1, k.2.2) fr).2.1, (nextV (0, k.2.1, k.2.2) fr).2.2) := by
  unfold nextV
  split
  · rfl
  · split <;> rfl
/-- y is never more than x. -/
theorem next_le (x y : Int) (y0 : 1 ≤ y) (fr : List Int) : (nextV (0, x, y) fr).2.2 ≤ (nextV (0, x, y) fr).2.1 := by
  unfold nextV
  split
  · simp only; omega
  · split <;> (simp only; omega)
theorem next_ok {k : Pk} (h : okPk k) (h2 : 2 ≤ k.1) (fr : List Int) : okPk (nextV k fr) := by
  rw [next_of]
  have := next_in k.2.1 k.2.2 h.2.2.1.1 h.2.2.1.2 fr
  have h3 := next_le k.2.1 k.2.2 h.2.2.1.1 fr
  have h1 := h.1
  exact ⟨⟨by simp only; omega, by simp only; omega⟩, this.1, this.2, h3⟩
theorem cnt_low : ∀ (n : Nat) (x y t : Int), (1 ≤ x ∧ x ≤ 3) → (1 ≤ y ∧ y ≤ 2) → t < 0 → cntP n x y t = 0
  | 0, x, y, t, _, _, ht => by unfold cntP; rw [if_neg (by omega)]
  | n + 1, x, y, t, hx, hy, ht => by
    unfold cntP
    refine sum_zero _ _ (fun fr hfr => ?_)
    have hp := points_in (frames_ok _ fr hfr) hx.1 hx.2 hy.1 hy.2
    have hn := next_in x y hy.1 hy.2 fr
    exact cnt_low n _ _ _ hn.1 hn.2 (by omega)
/-- No more than so many. -/
def capP : Nat → Nat
  | 0 => 1
  | n + 1 => (framesV ((n + 1 : Nat) : Int)).length * capP n
theorem cnt_cap : ∀ (n : Nat) (x y t : Int), cntP n x y t ≤ capP n
  | 0, x, y, t => by unfold cntP capP; split <;> omega
  | n + 1, x, y, t => by
    unfold cntP capP
    exact sum_le _ _ _ (fun fr _ => cnt_cap n _ _ _)
theorem cap_succ (n : Nat) : capP (n + 1) = (framesV ((n + 1 : Nat) : Int)).length * capP n := capP.eq_2 n
theorem cap_two (m : Nat) : capP (m + 1 + 1) = 66 * capP (m + 1) := by
  rw [cap_succ]
  unfold framesV
  rw [if_neg (by omega), inner_len]
theorem cap_one : capP 1 = 241 := by
  rw [cap_succ]
  unfold framesV
  rw [if_pos (by decide), last_len]
  rfl
theorem cap_all (n : Nat) (hn : n ≤ 10) : capP n ≤ 5726805883325784576 := by
  have h0 : capP 0 = 1 := capP.eq_1
  have h1 := cap_one
  have h2 : capP 2 = 15906 := by rw [cap_two 0, h1]
  have h3 : capP 3 = 1049796 := by rw [cap_two 1, h2]
  have h4 : capP 4 = 69286536 := by rw [cap_two 2, h3]
  have h5 : capP 5 = 4572911376 := by rw [cap_two 3, h4]
  have h6 : capP 6 = 301812150816 := by rw [cap_two 4, h5]
  have h7 : capP 7 = 19919601953856 := by rw [cap_two 5, h6]
  have h8 : capP 8 = 1314693728954496 := by rw [cap_two 6, h7]
  have h9 : capP 9 = 86769786110996736 := by rw [cap_two 7, h8]
  have h10 : capP 10 = 5726805883325784576 := by rw [cap_two 8, h9]
  have hc : n = 0 ∨ n = 1 ∨ n = 2 ∨ n = 3 ∨ n = 4 ∨ n = 5 ∨ n = 6 ∨ n = 7 ∨ n = 8 ∨ n = 9 ∨ n = 10 := by omega
  rcases hc with rfl | rfl | rfl | rfl | rfl | rfl | rfl | rfl | rfl | rfl | rfl
  · rw [h0]; decide
  · rw [h1]; decide
  · rw [h2]; decide
  · rw [h3]; decide
  · rw [h4]; decide
  · rw [h5]; decide
  · rw [h6]; decide
  · rw [h7]; decide
  · rw [h8]; decide
  · rw [h9]; decide
  · rw [h10]; decide
/-- The greatest total. -/
def topP (n : Nat) (x y : Int) : Int := if n = 0 then 0 else 30 * n + 10 * (x - 1) + 10 * (y - 1)
theorem points_top {fr : List Int} (h : frOk fr = true) {n : Nat} (hn : fr ∈ framesV ((n + 1 : Nat) : Int)) {x y : Int} (x0 : 1 ≤ x) (x1 : x ≤ 3) (y0 : 1 ≤ y) (y1 : y ≤ 2) (hxy : y ≤ x) :
    pointsV x y fr + topP n (nextV (0, x, y) fr).2.1 (nextV (0, x, y) fr).2.2 ≤ topP (n + 1) x y := by
  have hx : x = 1 ∨ x = 2 ∨ x = 3 := by omega
  have hy : y = 1 ∨ y = 2 ∨ y = 3 := by omega
  by_cases h0 : n = 0
  · subst h0
    unfold topP
    rw [if_pos rfl, if_neg (by omega)]
    match fr, h with
    | [a], h =>
      have h := of_decide_eq_true h
      subst h
      show 10 * x + 0 ≤ _
      omega
    | [a, b], h =>
      have h := of_decide_eq_true h
      have m1 := mul3 h.1.1 (by omega) hx
      have m2 := mul3 (a := b) h.2.1 (by omega) hy
      show a * x + b * y + 0 ≤ _
      omega
    | [a, b, c], h =>
      have h := of_decide_eq_true h
      have m1 := mul3 h.1.1 h.1.2 hx
      have m2 := mul3 (a := b) h.2.1.1 h.2.1.2 hy
      show a * x + b * y + c + 0 ≤ _
      omega
  · unfold topP
    rw [if_neg h0, if_neg (by omega)]
    have hin : fr ∈ innerL := by
      unfold framesV at hn
      rwa [if_neg (by omega)] at hn
    have h2 := List.all_eq_true.1 inner_all fr hin
    simp only [Bool.and_eq_true, decide_eq_true_eq] at h2
    match fr, h, h2 with
    | [a], h, _ =>
      have h := of_decide_eq_true h
      subst h
      have e : nextV (0, x, y) [10] = (0 - 1, y + 1, 2) := if_pos rfl
      rw [e]
      show 10 * x + (30 * (n : Int) + 10 * (y + 1 - 1) + 10 * (2 - 1)) ≤ 30 * ((n + 1 : Nat) : Int) + 10 * (x - 1) + 10 * (y - 1)
      omega
    | [a, b], h, _ =>
      have h := of_decide_eq_true h
      have hs : a * x + b * y ≤ (a + b) * x := by
        rw [Int.add_mul]
        have : b * y ≤ b * x := Int.mul_le_mul_of_nonneg_left hxy h.2.1
        omega
      have m3 := mul3 (a := a + b) (by omega) h.2.2 hx
      have ha : ([a, b] : List Int).getD 0 0 ≠ 10 := by show a ≠ 10; omega
      unfold nextV
      rw [if_neg ha]
      show a * x + b * y + _ ≤ _
      have hsum : ([a, b] : List Int).sum = a + b := by simp
      rw [hsum]
      by_cases h10 : a + b = 10
      · rw [if_pos h10]
        simp only
        rw [h10] at hs
        omega
      · rw [if_neg h10]
        simp only
        have m4 := mul3 (a := a + b) (x := x) (by omega) (by omega) hx
        have m5 : (a + b) * x ≤ 9 * x := by rcases hx with rfl | rfl | rfl <;> omega
        omega
    | [a, b, c], _, h2 =>
      have := h2.2
      simp at this
theorem cnt_high : ∀ (n : Nat) (x y t : Int), (1 ≤ x ∧ x ≤ 3) → (1 ≤ y ∧ y ≤ 2) → y ≤ x → topP n x y < t → cntP n x y t = 0
  | 0, x, y, t, _, _, _, ht => by
    unfold topP at ht
    rw [if_pos rfl] at ht
    unfold cntP
    rw [if_neg (by omega)]
  | n + 1, x, y, t, hx, hy, hxy, ht => by
    unfold cntP
    refine sum_zero _ _ (fun fr hfr => ?_)
    have hp := points_top (frames_ok _ fr hfr) hfr hx.1 hx.2 hy.1 hy.2 hxy
    have hn := next_in x y hy.1 hy.2 fr
    exact cnt_high n _ _ _ hn.1 hn.2 (next_le x y hy.1 fr) (by omega)
theorem top_in {n : Nat} (hn : n ≤ 10) {x y : Int} (x1 : x ≤ 3) (y1 : y ≤ 2) : topP n x y ≤ 330 := by unfold topP; split <;> omega
/-! the map -/
def pinV (k : Pk) : Value := .agg #[.int .i64 k.1, .int .i64 k.2.1, .int .i64 k.2.2]
theorem pinV_inj {k q : Pk} (h : pinV k = pinV q) : k = q := by
  obtain ⟨a, b, c⟩ := k
  obtain ⟨a', b', c'⟩ := q
  unfold pinV at h
  simp only [Value.agg.injEq, Array.mk.injEq, List.cons.injEq, Value.int.injEq, true_and, and_true] at h
  obtain ⟨rfl, rfl, rfl⟩ := h
  rfl
theorem rowKey : (43 : TypeId) < Try.prog.types.size := of_decide_eq_true (by kernel_rfl)
theorem wideKey : (match Try.prog.underlying 43 with | some (.array _ _) | some (.struct _) => true | _ => false) = true := by kernel_rfl
theorem laidOutK : laidOutB Try.prog = true := by kernel_rfl
set_option maxRecDepth 100000 in
theorem lawKey : Go.Maps.Keyed Try.prog 43 := Go.Maps.Keyed.of_law (deep_law_laid laidOutK (m := 4) (by decide) rowKey (by kernel_rfl) wideKey)
theorem typeKey : Try.prog.keyType 43 = true := by kernel_rfl
theorem cellsKey : Try.prog.cellsOf 43 = 3 := by kernel_rfl
theorem cellsInt : Try.prog.cellsOf 3 = 1 := by kernel_rfl
theorem lits_int (d : Nat) (n : Int) (hw : (Lit.int .i64 n).wf = true) : Try.prog.keyLits (d + 1) 3 [.int .i64 n] = some [.int .i64 n] := by
  simp [Program.keyLits, Try.underlying3, hw]
theorem lits_key (d : Nat) (a b c : Int) (w1 : (Lit.int .i64 a).wf = true) (w2 : (Lit.int .i64 b).wf = true) (w3 : (Lit.int .i64 c).wf = true) : Try.prog.keyLits (d + 2) 43 [.int .i64 a, .int .i64 b, .int .i64 c] = some [.int .i64 a, .int .i64 b, .int .i64 c] := by
  unfold Program.keyLits
  rw [Try.underlying43]
  simp only [cellsKey]
  rw [if_pos ⟨rfl, by kernel_rfl⟩]
  simp only [List.mapM_cons, List.mapM_nil, cellsInt, List.drop_zero, List.drop_succ_cons, List.take_succ_cons, List.take_zero, lits_int _ _ w1, lits_int _ _ w2, lits_int _ _ w3]
  rfl
theorem formedKey (xs : Array Value) (h : xs.size = 3) : (Value.agg xs).formed Try.prog 43 = true := by
  simp [Value.formed, Try.underlying43, cellsKey, h]
theorem litsKey (k : Pk) (h : okPk k) : ∃ kl, keyOf Try.prog 43 (pinV k) = some kl := by
  have w1 : (Lit.int .i64 k.1).wf = true := WalkArith.wf_i64 (by have := h.1; omega)
  have w2 : (Lit.int .i64 k.2.1).wf = true := WalkArith.wf_i64 (by have := h.2; omega)
  have w3 : (Lit.int .i64 k.2.2).wf = true := WalkArith.wf_i64 (by have := h.2; omega)
  obtain ⟨m, hm⟩ : ∃ m : Nat, Try.prog.types.size + 1 = m + 2 := ⟨Try.prog.types.size - 1, by have : (43 : Nat) < Try.prog.types.size := rowKey; omega⟩
  have hf := formedKey #[.int .i64 k.1, .int .i64 k.2.1, .int .i64 k.2.2] rfl
  have hl := lits_key m k.1 k.2.1 k.2.2 w1 w2 w3
  have hcs : (pinV k).cells.toList = [.int .i64 k.1, .int .i64 k.2.1, .int .i64 k.2.2] := rfl
  have hf' : (pinV k).formed Try.prog 43 = true := hf
  refine ⟨.string (keyBytes [.int .i64 k.1, .int .i64 k.2.1, .int .i64 k.2.2]), ?_⟩
  unfold keyOf
  rw [Try.underlying43]
  simp only [typeKey, hf', hm, Bool.and_self, if_true, hcs, hl, Option.map_some]
theorem cell_kept {w w' : World} {S : Nat → Prop} {a : Addr} {v : Value} (h : w.cell? a = some v) (hk : Kept w w' S) (hn : ¬ S a.block) : w'.cell? a = some v := by
  have hlt : a.block < w.heap.size := World.block_lt_of_cell? _ _ h
  rw [← h]
  exact World.cell?_of_block (hk.2 a.block hlt hn)
/-- A value is the table of a state; its block is none of those to be left alone. -/
def HoldsTab (w : World) (M : Nat) (av : Nat → Prop) (v : Value) (k : Pk) : Prop := ∃ g c : Nat, v = .slice (some ⟨g, 0, none⟩) 361 c ∧ g ≠ M ∧ ¬ av g ∧ 361 ≤ c ∧ ∀ j : Nat, j < 361 → w.cell? ⟨g, j, none⟩ = some (.int .i64 (tabAt k (j : Int)))
theorem HoldsTab.kept {w w' : World} {M : Nat} {av S : Nat → Prop} {v : Value} {k : Pk} (h : HoldsTab w M av v k) (hk : Kept w w' S) (hS : ∀ g, S g → g = M ∨ av g ∨ w.heap.size ≤ g) : HoldsTab w' M av v k := by
  obtain ⟨g, c, h1, h2, h3, h4, h5⟩ := h
  have hg := World.block_lt_of_cell? _ _ (h5 0 (by omega))
  refine ⟨g, c, h1, h2, h3, h4, fun j hj => cell_kept (h5 j hj) hk (fun hs => ?_)⟩
  rcases hS g hs with e | e | e
  · exact h2 e
  · exact h3 e
  · simp only at hg; omega
theorem HoldsTab.avoid {w : World} {M : Nat} {av av' : Nat → Prop} {v : Value} {k : Pk} (h : HoldsTab w M av v k) (ha : ∀ g, av' g → av g ∨ w.heap.size ≤ g) : HoldsTab w M av' v k := by
  obtain ⟨g, c, h1, h2, h3, h4, h5⟩ := h
  have hg := World.block_lt_of_cell? _ _ (h5 0 (by omega))
  refine ⟨g, c, h1, h2, fun hs => ?_, h4, h5⟩
  rcases ha g hs with e | e
  · exact h3 e
  · simp only at hg; omega
def memR (_ : Value) : Option (DataW Unit × List MemPlace) := some (.nil, [])
structure Memo (w : World) (M : Nat) (av : Nat → Prop) (es : Array MapEntry) (clock : Nat) : Prop where
  hb : w.heap[M]? = some (.map es clock)
  fit : Go.WideElems.Fit Try.prog 43 memR es clock
  good : ∀ x ∈ es.toList, ∃ k : Pk, okPk k ∧ x.key = pinV k ∧ HoldsTab w M av x.val k
def HasMemo (w : World) (M : Nat) (av : Nat → Prop) : Prop := ∃ es clock, Memo w M av es clock
theorem HasMemo.lt {w : World} {M : Nat} {av : Nat → Prop} (h : HasMemo w M av) : M < w.heap.size := by
  obtain ⟨es, clock, h⟩ := h
  exact (Array.getElem?_eq_some_iff.1 h.hb).1
theorem Memo.kept {w w' : World} {M : Nat} {av S : Nat → Prop} {es : Array MapEntry} {clock : Nat} (h : Memo w M av es clock) (hk : Kept w w' S) (hM : ¬ S M) (hS : ∀ g, S g → g = M ∨ av g ∨ w.heap.size ≤ g) : Memo w' M av es clock :=
  ⟨(hk.2 M (Array.getElem?_eq_some_iff.1 h.hb).1 hM).trans h.hb, h.fit, fun x hx => by
    obtain ⟨k, h1, h2, h3⟩ := h.good x hx
    exact ⟨k, h1, h2, h3.kept hk hS⟩⟩
theorem HasMemo.kept {w w' : World} {M : Nat} {av S : Nat → Prop} (h : HasMemo w M av) (hk : Kept w w' S) (hM : ¬ S M) (hS : ∀ g, S g → g = M ∨ av g ∨ w.heap.size ≤ g) : HasMemo w' M av := by
  obtain ⟨es, clock, h⟩ := h
  exact ⟨es, clock, h.kept hk hM hS⟩
theorem Memo.avoid {w : World} {M : Nat} {av av' : Nat → Prop} {es : Array MapEntry} {clock : Nat} (h : Memo w M av es clock) (ha : ∀ g, av' g → av g ∨ w.heap.size ≤ g) : Memo w M av' es clock :=
  ⟨h.hb, h.fit, fun x hx => by
    obtain ⟨k, h1, h2, h3⟩ := h.good x hx
    exact ⟨k, h1, h2, h3.avoid ha⟩⟩
theorem HasMemo.avoid {w : World} {M : Nat} {av av' : Nat → Prop} (h : HasMemo w M av) (ha : ∀ g, av' g → av g ∨ w.heap.size ≤ g) : HasMemo w M av' := by
  obtain ⟨es, clock, h⟩ := h
  exact ⟨es, clock, h.avoid ha⟩
theorem HasMemo.below {w w' : World} {M : Nat} {av : Nat → Prop} (h : HasMemo w M av) (hb : Below w.heap.size w w') : HasMemo w' M av := h.kept (Kept.of_below hb (fun _ => False)) (fun h => h) (fun _ h => h.elim)
theorem HasMemo.drewN {w : World} {M : Nat} {av : Nat → Prop} (h : HasMemo w M av) (n : Nat) : HasMemo (w.drewN n) M av := h.below (pw_below_drewN (Below.refl _ _) _)
theorem zeroInts (w : World) : (zeroValue 28).run Try.prog w = .ok (.slice none 0 0) w := by kernel_rfl
theorem pair_one {l : List MapEntry} (h : l.Pairwise (fun x y => x.key ≠ y.key)) {a b : MapEntry} (ha : a ∈ l) (hb : b ∈ l) (e : a.key = b.key) : a = b := by
  induction l with
  | nil => cases ha
  | cons x l ih =>
    obtain ⟨h1, h2⟩ := List.pairwise_cons.1 h
    rcases List.mem_cons.1 ha with e1 | e1
    · rcases List.mem_cons.1 hb with e2 | e2
      · rw [e1, e2]
      · exact absurd (e1 ▸ e) (h1 b e2)
    · rcases List.mem_cons.1 hb with e2 | e2
      · exact absurd (e2 ▸ e.symm) (h1 a e1)
      · exact ih h2 e1 e2
theorem memo_look {w : World} {M : Nat} {av : Nat → Prop} {es : Array MapEntry} {clock : Nat} (h : Memo w M av es clock) (k : Pk) (hk0 : okPk k) :
    (∃ v, HoldsTab w M av v k ∧ ∀ w' : World, w'.heap[M]? = some (.map es clock) → (Instr.lookup 67 (.map (some M)) (pinV k) true).run Try.prog w' = .ok (.tuple #[v, .bool true]) w') ∨
    (∀ w' : World, w'.heap[M]? = some (.map es clock) → (Instr.lookup 67 (.map (some M)) (pinV k) true).run Try.prog w' = .ok (.tuple #[.slice none 0 0, .bool false]) w') := by
  obtain ⟨kl, hk⟩ := litsKey k hk0
  by_cases hx : ∃ x ∈ es.toList, x.key = pinV k
  · left
    obtain ⟨x, hx, hxk⟩ := hx
    rcases Go.Maps.fit_look true lawKey Try.underlying67 (zeroInts w) h.hb h.fit hk with ⟨_, h2, _⟩ | ⟨e0, y, h2, h3, h4, _⟩
    · exact absurd hxk (h2 x hx)
    · obtain ⟨q, _, h5, h6⟩ := h.good e0 h2
      rw [h3] at h5
      obtain rfl := pinV_inj h5
      refine ⟨e0.val, h6, fun w' hb => ?_⟩
      rcases Go.Maps.fit_look true lawKey Try.underlying67 (zeroInts w') hb h.fit hk with ⟨_, h2', _⟩ | ⟨e1, y', h2', h3', h4', _⟩
      · exact absurd h3 (h2' e0 h2)
      · have : e1 = e0 := by
          have hn : es.toList.Pairwise (fun x y => x.key ≠ y.key) := ((Go.MapKept.stamped_iff es clock).1 h.fit.stamped).2.2
          exact pair_one hn h2' h2 (h3'.trans h3.symm)
        rw [this] at h4'
        exact h4'
  · right
    intro w' hb
    rcases Go.Maps.fit_look true lawKey Try.underlying67 (zeroInts w') hb h.fit hk with ⟨h1, _, _⟩ | ⟨e0, y, h2, h3, h4, _⟩
    · exact h1
    · exact absurd ⟨e0, h2, h3⟩ hx
def codeL : List Value → Nat
  | [.int _ a, .int _ b, .int _ c] => (a.toNat * 16 + b.toNat) * 16 + c.toNat
  | _ => 0
def codeK (v : Value) : Nat := codeL v.cells.toList
theorem codeK_key (k : Pk) : codeK (pinV k) = (k.1.toNat * 16 + k.2.1.toNat) * 16 + k.2.2.toNat := rfl
theorem memo_few {w : World} {M : Nat} {av : Nat → Prop} {es : Array MapEntry} {clock : Nat} (h : Memo w M av es clock) : es.size ≤ 4096 := by
  have hn : es.toList.Pairwise (fun x y => x.key ≠ y.key) := ((Go.MapKept.stamped_iff es clock).1 h.fit.stamped).2.2
  have hc : (es.toList.map fun x => codeK x.key).Nodup := by
    unfold List.Nodup
    rw [List.pairwise_map]
    have : es.toList.Pairwise (fun x y => x ∈ es.toList ∧ y ∈ es.toList ∧ x.key ≠ y.key) := hn.imp_of_mem (fun ha hb h => ⟨ha, hb, h⟩)
    refine this.imp ?_
    rintro x y ⟨hx, hy, hne⟩ e
    obtain ⟨⟨a, b, c⟩, ⟨⟨f1, f2⟩, ⟨f3, f4⟩, ⟨f5, f6⟩, _⟩, hk, _⟩ := h.good x hx
    obtain ⟨⟨a', b', c'⟩, ⟨⟨g1, g2⟩, ⟨g3, g4⟩, ⟨g5, g6⟩, _⟩, hk', _⟩ := h.good y hy
    rw [hk, hk'] at e hne
    rw [codeK_key, codeK_key] at e
    simp only at e f1 f2 f3 f4 f5 f6 g1 g2 g3 g4 g5 g6
    refine hne ?_
    have : a = a' ∧ b = b' ∧ c = c' := by omega
    obtain ⟨rfl, rfl, rfl⟩ := this
    rfl
  have := nodup_lt_length 4096 _ hc (by
    intro v hv
    obtain ⟨x, hx, rfl⟩ := List.mem_map.1 hv
    obtain ⟨⟨a, b, c⟩, ⟨⟨f1, f2⟩, ⟨f3, f4⟩, ⟨f5, f6⟩, _⟩, hk, _⟩ := h.good x hx
    simp only at f1 f2 f3 f4 f5 f6
    rw [hk, codeK_key]
    simp only
    omega)
  simpa using this
theorem memo_store {w : World} {M : Nat} {av : Nat → Prop} {es : Array MapEntry} {clock : Nat} (h : Memo w M av es clock) (k : Pk) (hk0 : okPk k) (v : Value) (hv : HoldsTab w M av v k) :
    ∃ w', (Instr.mapUpdate 67 (.map (some M)) (pinV k) v).run Try.prog w = .ok () w' ∧ HasMemo w' M av ∧ w.grownBy w' (some M) := by
  obtain ⟨kl, hk⟩ := litsKey k hk0
  obtain ⟨es', clock', hrun, F', _, _, _, hwho⟩ := Go.Maps.fit_store (R' := memR) lawKey Try.underlying67 h.hb h.fit (by have := memo_few h; unfold maxLen; omega) (fun _ _ _ _ hz => hz) hk (yv := (.nil, [])) (val := v) rfl
  have hg : w.grownBy (Go.ChangeMaps.setBlock w M (.map es' clock')) (some M) := ⟨rfl, rfl, rfl, by simp [Go.ChangeMaps.setBlock], fun i _ hi => Go.ChangeMaps.heap_setBlock_other h.hb _ (fun e => hi (by rw [e]))⟩
  have hkk := Kept.of_grown (S := fun b => b = M) hg (Kept.refl w _) (fun k_ e_ => Or.inl (by injection e_ with e_; exact e_.symm))
  refine ⟨_, hrun, ⟨es', clock', Go.ChangeMaps.heap_setBlock_same h.hb _, F', ?_⟩, hg⟩
  intro x hx
  rcases hwho x hx with ⟨h1, _⟩ | ⟨h1, h2⟩
  · obtain ⟨q, q1, q2, q3⟩ := h.good x h1
    exact ⟨q, q1, q2, q3.kept hkk (fun _ e => Or.inl e)⟩
  · exact ⟨k, hk0, h1, by rw [h2]; exact hv.kept hkk (fun _ e => Or.inl e)⟩
theorem memo_made (w : World) (av : Nat → Prop) : HasMemo (w.alloc (.map #[] 0)) w.heap.size av :=
  ⟨#[], 0, (Go.MapKept.heap_alloc w _).1, ⟨by simp, Go.MapKept.stamped_empty 0, by simp⟩, by simp⟩
theorem wpList_look_run {P : Program} (w : World) {ops : Array Oper} {rest : List Oper} {o : Oper} {a : Act} {Q : Exit → Act → World → Prop}
    (hg : o.guard = none) (m x : Operand) (t : TypeId) (hop : o.op = Op.lookup t m x true) (mv key v : Value) (hm : a.eval m = mv) (hx : a.eval x = key) (hrun : (Instr.lookup t mv key true).run P w = .ok v w)
    (hK : wpList P ops Q rest (a.put o.dst v) w) : wpList P ops Q (o :: rest) a w := by
  refine wpList_plain hg fun K' hK' => ?_
  unfold Oper.wp
  simp [execOp, hop, hm, hx, hrun, Result.andThen]
  exact hK' _ _ hK
theorem wpList_upd_run {P : Program} (w : World) {ops : Array Oper} {rest : List Oper} {o : Oper} {a : Act} {Q : Exit → Act → World → Prop}
    (hg : o.guard = none) (m x v : Operand) (t : TypeId) (hop : o.op = Op.mapUpdate t m x v) (mv key val : Value) (hm : a.eval m = mv) (hx : a.eval x = key) (hv : a.eval v = val) (w' : World) (hrun : (Instr.mapUpdate t mv key val).run P w = .ok () w')
    (hK : wpList P ops Q rest (a.put o.dst undef) w') : wpList P ops Q (o :: rest) a w := by
  refine wpList_plain hg fun K' hK' => ?_
  unfold Oper.wp
  simp [execOp, hop, hm, hx, hv, hrun, Result.andThen]
  exact hK' _ _ hK
theorem alloc_here (w : World) (o : Obj) : (w.alloc o).heap[w.heap.size]? = some o := by
  show (w.heap.push o)[w.heap.size]? = _
  simp
theorem alloc_one (w : World) (o : Obj) : (w.alloc o).heap.size = w.heap.size + 1 := by
  show (w.heap.push o).size = _
  simp
end Go.Proofs.Ytdioconinnpmmaa.Pin
