/- The reference's tables in memory, and boFrame, walked: for at most ten frames. -/
import Derived.Test.YtdioconinnpmmaaPinCalls
set_option linter.unusedVariables false
set_option linter.unusedSimpArgs false
namespace Go.Proofs.Ytdioconinnpmmaa.Pin
open Go.RowKit Go.Proofs.YtdioconinnpmmaaW.PrintWords Go.Proofs.YtdioconinnpmmaaW.PrintLast
/-! ### Pins: the reference's tables in memory; boFrame -/
/-- A row of totals of 0 to 300. -/
def arrS (h : Int → Nat) : List Int := (List.range 301).map fun (t : Nat) => ((h (t : Int) : Nat) : Int)
theorem arrS_len (h : Int → Nat) : (arrS h).length = 301 := by simp [arrS]
theorem arrS_rd (h : Int → Nat) (i : Int) (h0 : 0 ≤ i) (h1 : i < 301) : rdOf (0 : Int) (arrS h) i = ((h i : Nat) : Int) := by
  obtain ⟨n, rfl⟩ : ∃ n : Nat, i = (n : Int) := ⟨i.toNat, by omega⟩
  have hn : n < 301 := by omega
  unfold rdOf arrS
  rw [Int.toNat_natCast]
  simp [hn]
theorem arrS_congr {h g : Int → Nat} (e : ∀ t : Int, 0 ≤ t → t < 301 → h t = g t) : arrS h = arrS g := by
  unfold arrS
  refine List.map_congr_left fun k hk => ?_
  have := List.mem_range.1 hk
  rw [e k (by omega) (by omega)]
theorem rep_zero : ∀ n : Nat, List.replicate n (0 : Int) = (List.range n).map (fun (_ : Nat) => ((0 : Nat) : Int)) := fun n => by
  rw [List.map_const']
  simp
theorem arrS_zero : List.replicate 301 (0 : Int) = arrS (fun _ => 0) := rep_zero 301
theorem arrS_set (h : Int → Nat) (i : Int) (v : Nat) (h0 : 0 ≤ i) : (arrS h).set i.toNat (v : Int) = arrS (fun q => if q = i then v else h q) := by
  obtain ⟨n, rfl⟩ : ∃ n : Nat, i = (n : Int) := ⟨i.toNat, by omega⟩
  rw [Int.toNat_natCast]
  apply List.ext_getElem
  · simp [arrS]
  · intro j h1 h2
    rw [List.getElem_set]
    simp only [arrS, List.getElem_map, List.getElem_range]
    by_cases e : n = j
    · subst e; simp
    · rw [if_neg e, if_neg (by omega)]
/-- A value is a table in memory, below block N. -/
def TabAt (w : World) (N : Nat) (v : Value) (h : Int → Nat) : Prop := ∃ g c : Nat, v = .slice (some ⟨g, 0, none⟩) 301 c ∧ 301 ≤ c ∧ g < N ∧ (∃ cells, w.heap[g]? = some (.cells cells 3 (0, 0))) ∧ ∀ j : Nat, j < 301 → w.cell? ⟨g, j, none⟩ = some (.int .i64 ((h (j : Int) : Nat) : Int))
theorem TabAt.step {w w' : World} {N N' : Nat} {v : Value} {h : Int → Nat} (ht : TabAt w N v h) (hN : N ≤ N') (hm : ∀ g, g < N → (∃ cells, w.heap[g]? = some (.cells cells 3 (0, 0))) → w'.heap[g]? = w.heap[g]?) : TabAt w' N' v h := by
  obtain ⟨g, c, h1, h2, h3, h4, h5⟩ := ht
  have e := hm g h3 h4
  refine ⟨g, c, h1, h2, Nat.lt_of_lt_of_le h3 hN, by rw [e]; exact h4, fun j hj => ?_⟩
  rw [← h5 j hj]
  exact World.cell?_of_block e
theorem TabAt.kept {w w' : World} {N : Nat} {S : Nat → Prop} {v : Value} {h : Int → Nat} (ht : TabAt w N v h) (hk : Kept w w' S) (hS : ∀ g, g < N → ¬ S g) : TabAt w' N v h :=
  ht.step (Nat.le_refl _) (fun g hg hc => by
    obtain ⟨cells, hc⟩ := hc
    exact hk.2 g (Array.getElem?_eq_some_iff.1 hc).1 (hS g hg))
theorem TabAt.congr {w : World} {N : Nat} {v : Value} {h h' : Int → Nat} (ht : TabAt w N v h) (e : ∀ t : Int, 0 ≤ t → t < 301 → h t = h' t) : TabAt w N v h' := by
  obtain ⟨g, c, h1, h2, h3, h4, h5⟩ := ht
  exact ⟨g, c, h1, h2, h3, h4, fun j hj => by rw [h5 j hj, e j (by omega) (by omega)]⟩
/-- A table as a row that is read. -/
theorem TabAt.reads {w : World} {N g c : Nat} {h : Int → Nat} (ht : TabAt w N (.slice (some ⟨g, 0, none⟩) 301 c) h) : Kd.C (Kd.int .i64) w (some ⟨g, 0, none⟩) (arrS h).length (arrS h) := by
  obtain ⟨g', c', h1, h2, h3, h4, h5⟩ := ht
  injection h1 with h1 _ _
  injection h1 with h1
  injection h1 with h1
  subst h1
  refine Kd.C_of_reads (d := (0 : Int)) ⟨rfl, by rw [arrS_len]; omega, fun _ => ⟨_, rfl, fun j hj => ?_⟩⟩
  rw [arrS_len] at hj
  have e : (⟨g, 0, none⟩ : Addr).add j = ⟨g, j, none⟩ := by simp [Addr.add] <;> (intro h; exact h.symm)
  rw [e, h5 j hj]
  congr 2
  have := arrS_rd h (j : Int) (by omega) (by omega)
  unfold rdOf at this
  rw [Int.toNat_natCast] at this
  exact this.symm
/-- Counts that are written. -/
abbrev CntAt (w : World) (base G cap : Nat) (h : Int → Nat) : Prop := Kd.R (Kd.int .i64) 3 w base (fun k => k = G) (.slice (some ⟨G, 0, none⟩) 301 cap) (arrS h)
theorem CntAt.tight {w : World} {base G cap : Nat} {ok : Nat → Prop} {xs : List Int} (h : Kd.R (Kd.int .i64) 3 w base ok (.slice (some ⟨G, 0, none⟩) 301 cap) xs) : Kd.R (Kd.int .i64) 3 w base (fun k => k = G) (.slice (some ⟨G, 0, none⟩) 301 cap) xs :=
  Kd.R_of_own (Kd.own_of_R h) (fun k hk => by simp [Value.ownBlock] at hk; exact hk.symm)
/-- What has been counted is a table. -/
theorem CntAt.tab {w : World} {base G cap N : Nat} {h : Int → Nat} (hc : CntAt w base G cap h) (hN : G < N) : TabAt w N (.slice (some ⟨G, 0, none⟩) 301 cap) h := by
  have h1 := (Kd.R_reads' hc).2.1
  obtain ⟨g, c, e, hb, hl, cells, hh⟩ := Kd.R_form hc (by rw [arrS_len]; omega)
  injection e with e _ _
  injection e with e
  injection e with e
  subst e
  refine ⟨_, cap, rfl, h1, hN, ⟨cells, hh⟩, fun j hj => ?_⟩
  have h2 := (Kd.R_celln 0 hc (j : Int) (by omega) (by omega)).1
  rw [arrS_rd _ _ (by omega) (by omega), Int.toNat_natCast] at h2
  exact h2
theorem TabAt.ne {w : World} {G : Nat} {v : Value} {h : Int → Nat} (ht : TabAt w G v h) : v.ownBlock ≠ some G := by
  obtain ⟨g, c, rfl, _, hg, _⟩ := ht
  intro e
  injection e with e
  exact Nat.lt_irrefl _ (e ▸ hg)
theorem TabAt.keptNe {w w' : World} {N G : Nat} {v : Value} {h : Int → Nat} (ht : TabAt w N v h) (hne : v.ownBlock ≠ some G) (hk : Kept w w' (fun k => k = G)) : TabAt w' N v h := by
  obtain ⟨g, c, rfl, h2, h3, h4, h5⟩ := ht
  have hgG : g ≠ G := fun e => hne (by rw [e]; rfl)
  obtain ⟨cells, hc⟩ := h4
  have e := hk.2 g (Array.getElem?_eq_some_iff.1 hc).1 hgG
  refine ⟨g, c, rfl, h2, h3, ⟨cells, by rw [e]; exact hc⟩, fun j hj => ?_⟩
  rw [← h5 j hj]
  exact World.cell?_of_block e
/-- boAdd: counts of totals, each greater by some, are added. -/
def AddC : Prop := ∀ (G cap N : Nat) (h g : Int → Nat) (v : Value) (d : Int) (w0 w : World), 0 ≤ d → d ≤ 3000 → (∀ t, t < 0 → g t = 0) → (∀ t, h t + g (t - d) ≤ 5726805883325784576) → Below w0.heap.size w0 w → CntAt w w0.heap.size G cap h → TabAt w N v g → v.ownBlock ≠ some G →
  Calls Try.prog 38 #[.slice (some ⟨G, 0, none⟩) 301 cap, v, .int .i64 d] w fun e w' => e = .returned (.tuple #[]) ∧ CntAt w' w0.heap.size G cap (fun t => h t + g (t - d)) ∧ Below w0.heap.size w0 w' ∧ Kept w w' (fun k => k = G)
theorem AddC.old (H : AddC) (G cap : Nat) (h g : Int → Nat) (v : Value) (d : Int) (w0 w : World) (h0 : 0 ≤ d) (h1 : d ≤ 3000) (h2 : ∀ t, t < 0 → g t = 0) (h3 : ∀ t, h t + g (t - d) ≤ 5726805883325784576) (h4 : Below w0.heap.size w0 w) (h5 : CntAt w w0.heap.size G cap h) (h6 : TabAt w G v g) :
    Calls Try.prog 38 #[.slice (some ⟨G, 0, none⟩) 301 cap, v, .int .i64 d] w fun e w' => e = .returned (.tuple #[]) ∧ CntAt w' w0.heap.size G cap (fun t => h t + g (t - d)) ∧ Below w0.heap.size w0 w' ∧ Kept w w' (fun k => k = G) :=
  H G cap G h g v d w0 w h0 h1 h2 h3 h4 h5 h6 h6.ne
def StateC : Prop := ∀ (a b : Int) (w : World), 0 ≤ a → a ≤ 2 → 0 ≤ b → b ≤ 1 → Calls Try.prog 50 #[.int .i64 a, .int .i64 b] w fun e w' => e = .returned (.int .i64 (if a = 0 then 0 else a + b)) ∧ Drawn0 w w'
def onesP : Nat → Int
  | 0 => 1
  | 1 => 2
  | 2 => 2
  | _ => 3
def twosP : Nat → Int
  | 0 => 1
  | 1 => 1
  | 2 => 2
  | _ => 2
theorem ones_in (j : Nat) : (1 ≤ onesP j ∧ onesP j ≤ 3) ∧ (1 ≤ twosP j ∧ twosP j ≤ 2) ∧ twosP j ≤ onesP j := by
  match j with
  | 0 => decide
  | 1 => decide
  | 2 => decide
  | _ + 3 => exact (by decide : (1 ≤ (3 : Int) ∧ (3 : Int) ≤ 3) ∧ (1 ≤ (2 : Int) ∧ (2 : Int) ≤ 2) ∧ (2 : Int) ≤ 3)
/-- How many ways there are for so many frames left; none are asked for no frame. -/
def cntT (n : Nat) (x y t : Int) : Nat := if n = 0 then 0 else cntP n x y t
/-- The four tables for so many frames left. -/
def RowAt (w : World) (N : Nat) (v : Value) (n : Nat) : Prop := ∃ (B c : Nat) (us : List Value), v = .slice (some ⟨B, 0, none⟩) 4 c ∧ 4 ≤ c ∧ B < N ∧ (∃ cells, w.heap[B]? = some (.cells cells 28 (0, 0))) ∧ us.length = 4 ∧
  ∀ j (h : j < us.length), w.cell? ⟨B, j, none⟩ = some us[j] ∧ TabAt w N us[j] (cntT n (onesP j) (twosP j))
theorem RowAt.step {w w' : World} {N N' : Nat} {v : Value} {n : Nat} (ht : RowAt w N v n) (hN : N ≤ N') (hm : ∀ g t, g < N → (t = 3 ∨ t = 28) → (∃ cells, w.heap[g]? = some (.cells cells t (0, 0))) → w'.heap[g]? = w.heap[g]?) : RowAt w' N' v n := by
  obtain ⟨B, c, us, h1, h2, h3, h4, h5, h6⟩ := ht
  have e := hm B 28 h3 (Or.inr rfl) h4
  refine ⟨B, c, us, h1, h2, Nat.lt_of_lt_of_le h3 hN, by rw [e]; exact h4, h5, fun j hj => ⟨?_, (h6 j hj).2.step hN (fun g hg hc => hm g 3 hg (Or.inl rfl) hc)⟩⟩
  rw [← (h6 j hj).1]
  exact World.cell?_of_block e
theorem RowAt.kept {w w' : World} {N : Nat} {S : Nat → Prop} {v : Value} {n : Nat} (ht : RowAt w N v n) (hk : Kept w w' S) (hS : ∀ g, g < N → ¬ S g) : RowAt w' N v n :=
  ht.step (Nat.le_refl _) (fun g _ hg _ hc => by
    obtain ⟨cells, hc⟩ := hc
    exact hk.2 g (Array.getElem?_eq_some_iff.1 hc).1 (hS g hg))
/-! boFrame -/
def offP : Nat → Nat
  | 0 => 0
  | a + 1 => offP a + (11 - a)
theorem inner_at : ∀ a : Fin 10, ∀ b : Fin 11, a.1 + b.1 ≤ 10 → innerL[offP a.1 + b.1]? = some [(a.1 : Int), (b.1 : Int)] := by decide +kernel
theorem inner_end : innerL[offP 10]? = some [10] := by decide +kernel
theorem off_end : offP 10 = 65 := by decide
theorem inner_step (n : Nat) (hn : 0 < n) (x y : Int) (a b : Nat) (ha : a < 10) (hb : a + b ≤ 10) (t : Int) :
    partP innerL n x y (offP a + b + 1) t = partP innerL n x y (offP a + b) t + cntP n (if a + b = 10 then 2 else 1) 1 (t - ((a : Int) * x + (b : Int) * y)) := by
  have h := inner_at ⟨a, ha⟩ ⟨b, by omega⟩ hb
  simp only at h
  obtain ⟨hl, e⟩ := List.getElem?_eq_some_iff.1 h
  rw [partP_succ innerL n x y (offP a + b) hl t, e]
  have e1 : ([(a : Int), (b : Int)] : List Int).getD 0 0 ≠ 10 := by show (a : Int) ≠ 10; omega
  have e2 : ([(a : Int), (b : Int)] : List Int).sum = (a : Int) + (b : Int) := by simp
  have e3 : pointsV x y [(a : Int), (b : Int)] = (a : Int) * x + (b : Int) * y := rfl
  rw [e3]
  unfold nextV
  rw [if_neg e1, e2]
  by_cases h10 : a + b = 10
  · rw [if_pos (by omega), if_pos h10]
  · rw [if_neg (by omega), if_neg h10]
theorem inner_last (n : Nat) (x y : Int) (t : Int) : partP innerL n x y 66 t = partP innerL n x y 65 t + cntP n (y + 1) 2 (t - 10 * x) := by
  have h := inner_end
  rw [off_end] at h
  obtain ⟨hl, e⟩ := List.getElem?_eq_some_iff.1 h
  rw [partP_succ innerL n x y 65 hl t, e]
  have e1 : ([10] : List Int).getD 0 0 = 10 := rfl
  have e3 : pointsV x y [10] = 10 * x := rfl
  rw [e3]
  unfold nextV
  rw [if_pos e1]
theorem framesV_inner (n : Nat) (hn : 0 < n) : innerL = framesV ((n + 1 : Nat) : Int) := by
  unfold framesV
  rw [if_neg (by omega)]
theorem part_cap (n : Nat) (hn : 0 < n) (h9 : n ≤ 9) (x y : Int) (j : Nat) (t : Int) : partP innerL n x y j t ≤ 5726805883325784576 :=
  Nat.le_trans (partP_le (framesV_inner n hn) x y j t) (Nat.le_trans (cnt_cap (n + 1) x y t) (cap_all (n + 1) (by omega)))
theorem add3 {a b : Nat} {x y : Int} (hx : 1 ≤ x ∧ x ≤ 3) (hy : 1 ≤ y ∧ y ≤ 2) (h : a + b ≤ 10) : (0 ≤ (a : Int) * x ∧ (a : Int) * x ≤ 30) ∧ (0 ≤ (b : Int) * y ∧ (b : Int) * y ≤ 20) := by
  have hx3 : x = 1 ∨ x = 2 ∨ x = 3 := by omega
  have hy3 : y = 1 ∨ y = 2 ∨ y = 3 := by omega
  have m1 := mul3 (a := (a : Int)) (by omega) (by omega) hx3
  have m2 := mul3 (a := (b : Int)) (by omega) (by omega) hy3
  omega
set_option maxRecDepth 100000 in
set_option maxHeartbeats 16000000 in
theorem frame_calls (HAdd : AddC) (HSt : StateC) (n : Nat) (hn : 0 < n) (h9 : n ≤ 9) (x y : Int) (hx : 1 ≤ x ∧ x ≤ 3) (hy : 1 ≤ y ∧ y ≤ 2) (G cap : Nat) (v : Value) (w0 w : World) (hB : Below w0.heap.size w0 w) (hc : CntAt w w0.heap.size G cap (fun _ => 0)) (hr : RowAt w G v n) :
    Calls Try.prog 41 #[.slice (some ⟨G, 0, none⟩) 301 cap, v, .int .i64 x, .int .i64 y] w fun e w' => e = .returned (.tuple #[]) ∧ CntAt w' w0.heap.size G cap (cntP (n + 1) x y) ∧ Below w0.heap.size w0 w' ∧ Kept w w' (fun k => k = G) := by
  obtain ⟨B, c, us, rfl, hc4, hBG, hBt, hus, hcells⟩ := hr
  have hj : ∀ j, j < 4 → ∃ g cc, ∀ wr, Kept w wr (fun k => k = G) → wr.cell? ⟨B, j, none⟩ = some (.slice (some ⟨g, 0, none⟩) 301 cc) ∧ TabAt wr G (.slice (some ⟨g, 0, none⟩) 301 cc) (cntP n (onesP j) (twosP j)) := fun j hj => by
    obtain ⟨h1, h2⟩ := hcells j (by omega)
    have h3 := h2
    obtain ⟨g, cc, e, _⟩ := h3
    refine ⟨g, cc, fun wr hk => ?_⟩
    rw [← e]
    have hBlt : B ≠ G := by omega
    refine ⟨cell_kept h1 hk hBlt, (h2.kept hk (fun q hq e => by omega)).congr (fun t _ _ => if_neg (by omega))⟩
  obtain ⟨g0, c0, hJ0⟩ := hj 0 (by omega)
  obtain ⟨g1, c1, hJ1⟩ := hj 1 (by omega)
  obtain ⟨gy, cy, hJY⟩ := hj (y.toNat + 1) (by omega)
  rw [show onesP (y.toNat + 1) = y + 1 by (have : y = 1 ∨ y = 2 := by omega); rcases this with rfl | rfl <;> rfl, show twosP (y.toNat + 1) = 2 by (have : y = 1 ∨ y = 2 := by omega); rcases this with rfl | rfl <;> rfl] at hJY
  have HJ0 := Aside0.mk hJ0
  have HJ1 := Aside0.mk hJ1
  have HJY := Aside0.mk hJY
  have HN := Aside0.mk (And.intro hn (And.intro h9 (And.intro hx hy)))
  have HADD := Aside0.mk HAdd.old
  have HST := Aside0.mk HSt
  have HC0 := Aside0.mk hc
  have HB0 := Aside0.mk hB
  clear hJ0 hJ1 hJY hj hcells hBt hus us hn h9 HAdd HSt hc hB hc4 hBG hx hy
  go_enter Try.func41, Try.ntmps41
  go_wp2
  go_loopg [8] 11 (fun kq v8 wx => ∃ (a : Nat) (sa : Int), v8 = .int .i64 sa ∧ Aside0 (sa = (a : Int)) ∧ Aside0 (a + kq = 11 ∧ a ≤ 10) ∧ Aside0 (CntAt wx w0.heap.size G cap (partP innerL n x y (offP a))) ∧ Aside0 (Kept w wx (fun k => k = G)) ∧ Aside0 (Below w0.heap.size w0 wx))
  case atStart => exact ⟨0, 0, by simp, ⟨by simp⟩, ⟨by omega⟩, HC0, ⟨Kept.refl _ _⟩, HB0⟩
  case round =>
    clear HC0 HB0
    obtain ⟨a, sa, rfl, HSA, HAQ, HC, HK, HB⟩ := hrel
    by_cases ha : sa < 10
    · have ua : decide (sa < 10) = true := decide_eq_true ha
      have HHA := Aside0.mk ha
      clear ha
      go_wp2
      generalize gk = gko at *
      go_loopg [9] 12 (fun kq v9 wx => ∃ (b : Nat) (sb : Int), v9 = .int .i64 sb ∧ Aside0 (sb = (b : Int)) ∧ Aside0 (b + kq = 12 ∧ a + b ≤ 11) ∧ Aside0 (CntAt wx w0.heap.size G cap (partP innerL n x y (offP a + b))) ∧ Aside0 (Kept w wx (fun k => k = G)) ∧ Aside0 (Below w0.heap.size w0 wx))
      case atStart => exact ⟨0, 0, by simp, ⟨by simp⟩, ⟨by have := HAQ.out; omega⟩, HC, HK, HB⟩
      case round =>
        clear HC HK HB
        obtain ⟨b, sb, rfl, HSB, HBQ, HC, HK, HB⟩ := hrel
        have d1 : wrap64 (10 - sa) = 10 - sa := wrap_in (by have := HHA.out; omega) (by have := HSA.out; omega)
        by_cases hb : sb ≤ 10 - sa
        · have ub : decide (sb ≤ 10 - sa) = true := decide_eq_true hb
          have hab : a + b ≤ 10 := by have := HSA.out; have := HSB.out; omega
          have hm := add3 (x := x) (y := y) HN.out.2.2.1 HN.out.2.2.2 hab
          rw [← HSA.out, ← HSB.out] at hm
          have s1 : wrap64 (sa + sb) = sa + sb := wrap_in (by have := HSA.out; have := HSB.out; omega) (by have := HSA.out; have := HSB.out; omega)
          have m1 : wrap64 (sa * x) = sa * x := wrap_in hm.1.1 (by omega)
          have m2 : wrap64 (sb * y) = sb * y := wrap_in hm.2.1 (by omega)
          obtain ⟨D, hD⟩ : ∃ D : Int, D = sa * x + sb * y := ⟨_, rfl⟩
          have m3 : wrap64 (sa * x + sb * y) = D := by rw [hD]; exact wrap_in (by omega) (by omega)
          have cb : wrap64 (sb + 1) = sb + 1 := wrap_in (by have := HSB.out; omega) (by have := HSB.out; omega)
          have HD := Aside0.mk (And.intro (show 0 ≤ D ∧ D ≤ 300 by omega) (And.intro hD hab))
          have hst := fun t : Int => inner_step n HN.out.1 x y a b (by have := HSA.out; have := HHA.out; omega) hab t
          rw [← HSA.out, ← HSB.out, ← hD] at hst
          have hcapj := fun t : Int => part_cap n HN.out.1 HN.out.2.1 x y (offP a + b + 1) t
          have HSBN := Aside0.mk (show a + b + 1 ≤ 11 by omega)
          clear hm hD hab hb
          by_cases h10 : sa + sb = 10
          · have u10 : (sa + sb == 10) = true := beq_iff_eq.mpr h10
            have hsq : ∀ t : Int, partP innerL n x y (offP a + b + 1) t = partP innerL n x y (offP a + b) t + cntP n (onesP 1) (twosP 1) (t - D) := fun t => by
              have := hst t
              rwa [if_pos (by have := HSA.out; have := HSB.out; omega)] at this
            have HSQ := Aside0.mk hsq
            have HCAP := Aside0.mk (fun t : Int => (hsq t) ▸ hcapj t)
            have st0 := (HJ1.out wr HK.out).1
            have HT := Aside0.mk (HJ1.out wr HK.out).2
            clear h10 hst hcapj hsq
            go_wp2_with (first | (go_at_call 50; refine (HST.out 1 0 _ (by decide) (by decide) (by decide) (by decide)).mono ?_; rintro e w5 ⟨rfl, ⟨nd, rfl⟩⟩) | (go_at_call 38; refine (HADD.out G cap _ _ _ D w0 _ HD.out.1.1 (by have := HD.out.1.2; omega) (fun t ht => cnt_low n _ _ t (ones_in 1).1 (ones_in 1).2.1 ht) HCAP.out (pw_below_drewN HB.out _) HC.out HT.out).mono ?_; rintro e w6 ⟨rfl, hc6, hb6, hk6⟩; have HC6 := Aside0.mk hc6; have HB6 := Aside0.mk hb6; have HK6 := Aside0.mk (HK.out.then_ hk6 (fun _ h => Or.inl h)); clear hc6 hb6 hk6))
            go_roundg (gk - 1)
            case measure => have := HBQ.out; omega
            case rel => exact ⟨b + 1, sb + 1, by first | rfl | simp [cb] | (rw [wrapK, cb]), ⟨by rw [HSB.out]; omega⟩, ⟨by have := HBQ.out; have := HSBN.out; omega⟩, ⟨by rw [show partP innerL n x y (offP a + (b + 1)) = _ from funext HSQ.out]; exact HC6.out⟩, HK6, HB6⟩
          · have u10 : (sa + sb == 10) = false := beq_eq_false_iff_ne.mpr h10
            have hsq : ∀ t : Int, partP innerL n x y (offP a + b + 1) t = partP innerL n x y (offP a + b) t + cntP n (onesP 0) (twosP 0) (t - D) := fun t => by
              have := hst t
              rwa [if_neg (by have := HSA.out; have := HSB.out; omega)] at this
            have HSQ := Aside0.mk hsq
            have HCAP := Aside0.mk (fun t : Int => (hsq t) ▸ hcapj t)
            have st0 := (HJ0.out wr HK.out).1
            have HT := Aside0.mk (HJ0.out wr HK.out).2
            clear h10 hst hcapj hsq
            go_wp2_with (first | (go_at_call 38; refine (HADD.out G cap _ _ _ D w0 _ HD.out.1.1 (by have := HD.out.1.2; omega) (fun t ht => cnt_low n _ _ t (ones_in 0).1 (ones_in 0).2.1 ht) HCAP.out HB.out HC.out HT.out).mono ?_; rintro e w6 ⟨rfl, hc6, hb6, hk6⟩; have HC6 := Aside0.mk hc6; have HB6 := Aside0.mk hb6; have HK6 := Aside0.mk (HK.out.then_ hk6 (fun _ h => Or.inl h)); clear hc6 hb6 hk6))
            go_roundg (gk - 1)
            case measure => have := HBQ.out; omega
            case rel => exact ⟨b + 1, sb + 1, by first | rfl | simp [cb] | (rw [wrapK, cb]), ⟨by rw [HSB.out]; omega⟩, ⟨by have := HBQ.out; have := HSBN.out; omega⟩, ⟨by rw [show partP innerL n x y (offP a + (b + 1)) = _ from funext HSQ.out]; exact HC6.out⟩, HK6, HB6⟩
        · have ub : decide (sb ≤ 10 - sa) = false := decide_eq_false hb
          have ca : wrap64 (sa + 1) = sa + 1 := wrap_in (by have := HSA.out; omega) (by have := HSA.out; have := HHA.out; omega)
          have hb11 : offP (a + 1) = offP a + b := by
            have := HSA.out; have := HSB.out; have := HBQ.out
            show offP a + (11 - a) = offP a + b
            omega
          clear hb
          go_wp2
          go_roundg (gko - 1)
          case measure => have := HAQ.out; omega
          case rel => exact ⟨a + 1, sa + 1, by first | rfl | simp [ca] | (rw [wrapK, ca]), ⟨by rw [HSA.out]; omega⟩, ⟨by have := HAQ.out; have := HSA.out; have := HHA.out; omega⟩, ⟨by rw [hb11]; exact HC.out⟩, HK, HB⟩
    · have ua : decide (sa < 10) = false := decide_eq_false ha
      have ha10 : a = 10 := by have := HSA.out; have := HAQ.out; omega
      subst ha10
      have hst := fun t : Int => inner_last n x y t
      have hcapj := fun t : Int => part_cap n HN.out.1 HN.out.2.1 x y 66 t
      obtain ⟨D, hD⟩ : ∃ D : Int, D = 10 * x := ⟨_, rfl⟩
      rw [← hD] at hst
      have m1 : wrap64 (10 * x) = D := by rw [hD]; exact wrap_in (by have := HN.out.2.2.1; omega) (by have := HN.out.2.2.1; omega)
      have HD := Aside0.mk (show 0 ≤ D ∧ D ≤ 300 by have := HN.out.2.2.1; omega)
      have HCAP := Aside0.mk (fun t : Int => (hst t) ▸ hcapj t)
      have HALL := Aside0.mk (fun t : Int => (hst t).symm.trans (partP_all (framesV_inner n HN.out.1) x y t))
      have HYS := Aside0.mk (show y.toNat + 1 = (y + 1).toNat by have := HN.out.2.2.2; omega)
      obtain ⟨Y, hY⟩ : ∃ Y : Int, Y = y + 1 := ⟨_, rfl⟩
      have st0 := (HJY.out wr HK.out).1
      have HT := Aside0.mk (HJY.out wr HK.out).2
      rw [show y.toNat + 1 = Y.toNat by have := HN.out.2.2.2; omega] at st0
      have hyr : (if y = 0 then 0 else y + 1) = Y := by rw [if_neg (by have := HN.out.2.2.2; omega), hY]
      have y0 : (0 ≤ Y) = True := eq_true (by have := HN.out.2.2.2; omega)
      have y4 : (Y < 4) = True := eq_true (by have := HN.out.2.2.2; omega)
      have y0b : decide (0 ≤ Y) = true := decide_eq_true (by have := HN.out.2.2.2; omega)
      have y4b : decide (Y < 4) = true := decide_eq_true (by have := HN.out.2.2.2; omega)
      have HYR := Aside0.mk hyr
      clear hst hcapj hD hY hyr
      go_wp2_with (first | (go_at_call 50; refine (HST.out y 1 _ (by have := HN.out.2.2.2; omega) (by have := HN.out.2.2.2; omega) (by decide) (by decide)).mono ?_; rw [HYR.out]; rintro e w5 ⟨rfl, ⟨nd, rfl⟩⟩) | (go_at_call 38; refine (HADD.out G cap _ _ _ D w0 _ HD.out.1 (by have := HD.out.2; omega) (fun t ht => cnt_low n _ _ t (by have := HN.out.2.2.2; omega) (by decide) ht) HCAP.out (pw_below_drewN HB.out _) HC.out HT.out).mono ?_; rintro e w6 ⟨rfl, hc6, hb6, hk6⟩; have HC6 := Aside0.mk hc6; have HB6 := Aside0.mk hb6; have HK6 := Aside0.mk (HK.out.then_ hk6 (fun _ h => Or.inl h)); clear hc6 hb6 hk6))
      first | go_end0 | ((try simp only [Exit.inBlock, Exit.then]); refine bodyPost_ret (results_none rfl _ _ _) rfl ?_)
      refine ⟨rfl, ?_, HB6.out, HK6.out⟩
      rw [show cntP (n + 1) x y = _ from (funext HALL.out).symm]
      exact HC6.out
end Go.Proofs.Ytdioconinnpmmaa.Pin
