/- The sum of a list, and what frames count: for every short list of small numbers. -/
import Derived.Test.YtdioconinnpmmaaLaneGood
set_option linter.unusedVariables false
set_option linter.unusedSimpArgs false
namespace Go.Proofs.Ytdioconinnpmmaa.Lane
open Go.RowKit Go.Proofs.YtdioconinnpmmaaW.PrintWords Go.Proofs.YtdioconinnpmmaaW.PrintLast
theorem sum_take (xs : List Int) (i : Nat) (hi : i < xs.length) : (xs.take (i + 1)).sum = (xs.take i).sum + xs[i] := by
  rw [List.take_succ_eq_append_getElem hi, List.sum_append]
  simp
theorem sum_le : ∀ (xs : List Int), (∀ x ∈ xs, 0 ≤ x ∧ x ≤ 10) → 0 ≤ xs.sum ∧ xs.sum ≤ 10 * xs.length
  | [], _ => by simp
  | x :: t, h => by
    have h1 := h x (by simp)
    have h2 := sum_le t (fun y hy => h y (by simp [hy]))
    simp only [List.sum_cons, List.length_cons]
    omega
set_option maxRecDepth 100000 in
set_option maxHeartbeats 4000000 in
theorem sum_calls (w : World) (A : Option Addr) (c : Nat) (xs : List Int) (hr : ReadsInt w .i64 A xs.length xs) (hx : ∀ x ∈ xs, 0 ≤ x ∧ x ≤ 10) (hl : xs.length ≤ 100) :
    Calls Try.prog 49 #[.slice A xs.length c] w fun e w' => e = .returned (.int .i64 xs.sum) ∧ Drawn0 w w' := by
  have HR := Aside0.mk hr
  have HX := Aside0.mk hx
  have HN := Aside0.mk hl
  clear hr hx hl
  go_enter Try.func49, Try.ntmps49
  go_wp2
  go_loopg [3, 8] (xs.length + 1) (fun kq v3 v8 wx => ∃ (i n : Nat), v8 = .int .i64 (i : Int) ∧ v3 = .int .i64 (xs.take i).sum ∧ wx = w.drewN n ∧ Aside0 (i + kq = xs.length + 1 ∧ i ≤ xs.length))
  case atStart => exact ⟨0, 0, by simp, by simp, rfl, ⟨by omega⟩⟩
  case round =>
    obtain ⟨i, n, rfl, rfl, rfl, HI⟩ := hrel
    by_cases hi : i < xs.length
    · obtain ⟨ad, rfl, hc⟩ := HR.out.2.2 (by omega)
      have hci := hc i hi
      have u1 : decide ((i : Int) < (xs.length : Int)) = true := decide_eq_true (by omega)
      have u2 : decide (i < xs.length) = true := decide_eq_true hi
      have hst := sum_take xs i hi
      have hb := sum_le (xs.take i) (fun x h => HX.out x (List.mem_of_mem_take h))
      rw [List.length_take] at hb
      have hxi := HX.out xs[i] (List.getElem_mem hi)
      rw [List.getD_eq_getElem?_getD, List.getElem?_eq_getElem hi, Option.getD_some] at hci
      clear hc
      generalize xs[i] = x at *
      generalize (xs.take i).sum = q at *
      have hi9 := HN.out
      go_wp2
      go_roundg (gk - 1)
      case measure => have := HI.out; omega
      case rel =>
        refine ⟨i + 1, n, ?_, ?_, rfl, ⟨by have := HI.out; omega⟩⟩
        · have : wrap64 ((i : Int) + 1) = ((i + 1 : Nat) : Int) := by
            unfold wrap64
            omega
          first | rfl | simp [this] | (rw [wrapK, this])
        · have : wrap64 (q + x) = q + x := by
            unfold wrap64
            omega
          rw [hst]
          try (first | rfl | simp [this] | (rw [wrapK, this]))
    · have u1 : decide ((i : Int) < (xs.length : Int)) = false := decide_eq_false (by omega)
      have u2 : decide (i < xs.length) = false := decide_eq_false hi
      have hi2 : i = xs.length := by have := HI.out; omega
      go_wp2
      go_ret
      refine ⟨?_, ⟨n, by first | rfl | simp⟩⟩
      subst hi2
      first | rfl | (rw [List.take_length]; rfl) | (rw [List.take_length])
/-- How many balls a frame counts. -/
def cntV (F k : Nat) (r : List Int) : Nat := if k + 1 = F then r.length else if r.getD 0 0 ≠ 10 ∧ r.sum < 10 then 2 else 3
def haltV (F k : Nat) (all : Bool) (r : List Int) : Bool := if k + 1 = F then !all else !doneV r
def scoresV (F : Nat) (xs : List Int) (all : Bool) : Nat → Nat → List (List Int) → List Int
  | _, _, [] => []
  | k, place, r :: t => if haltV F k all r = true ∨ xs.length < place + cntV F k r then [] else ((xs.drop place).take (cntV F k r)).sum :: scoresV F xs all (k + 1) (place + r.length) t
theorem mid_list (xs : List Int) (a m : Nat) : (xs.take (a + m)).drop a = (xs.drop a).take m := by
  rw [List.drop_take]
  congr 1
  omega
theorem slice_mid (A : Option Addr) (c : Nat) (xs : List Int) (a m : Nat) (hm : a + m ≤ xs.length) (hc : xs.length ≤ c) :
    ∃ A' : Option Addr, (∀ W : World, (Instr.slice 28 (.slice A xs.length c) (some (.int .i64 (a : Int))) (some (.int .i64 ((a : Int) + (m : Int)))) none).run Try.prog W = .ok (.slice A' ((xs.drop a).take m).length (c - a)) W) ∧
      (∀ w : World, ReadsInt w .i64 A xs.length xs → ReadsInt w .i64 A' ((xs.drop a).take m).length ((xs.drop a).take m)) := by
  obtain ⟨i, hi, hsz⟩ : ∃ i, Try.prog.info? 3 = some i ∧ i.size = 1 := by
    have h := info3
    cases hq : Try.prog.info? 3 with
    | none => rw [hq] at h; cases h
    | some i =>
      rw [hq] at h
      simp only [Option.map_some, Option.some.injEq, Prod.mk.injEq] at h
      exact ⟨i, rfl, h.2.1⟩
  obtain ⟨A', h1, h2, _⟩ := print_mid_int (P := Try.prog) (k := .i64) 28 3 Try.underlying28 hi hsz A c xs a ((a : Int) + (m : Int)) (by omega) (by omega) (by omega) hc
  rw [show ((a : Int) + (m : Int)).toNat = a + m by omega, Int.toNat_natCast, mid_list] at h1 h2
  exact ⟨A', h1, h2⟩
theorem s_w (p : Nat) (m : Int) (h : p ≤ 40) (h1 : 0 ≤ m) (h2 : m ≤ 3) : wrap64 ((p : Int) + m) = (p : Int) + m := by
  unfold wrap64
  omega
theorem s_t (l p mn : Nat) (m : Int) (e : m = (mn : Int)) (h : l < p + mn) : decide ((l : Int) < (p : Int) + m) = true := decide_eq_true (by omega)
theorem s_f (l p mn : Nat) (m : Int) (e : m = (mn : Int)) (h : ¬ l < p + mn) : decide ((l : Int) < (p : Int) + m) = false := decide_eq_false (by omega)
theorem s_L (p m : Nat) (h : p ≤ 40) (h1 : m ≤ 3) : wrap64 ((p : Int) + (m : Int)) = ((p + m : Nat) : Int) := by
  unfold wrap64
  omega
theorem s_i (i : Nat) (h : i < 10) : wrap64 ((i : Int) + 1) = ((i + 1 : Nat) : Int) := by
  unfold wrap64
  omega
theorem s_inv {i k len place m ol : Nat} (h : i + k = len + 1 ∧ i ≤ len ∧ place ≤ 3 * i ∧ ol ≤ i) (hi : i < len) (hm : m ≤ 3) : (i + 1) + (k - 1) = len + 1 ∧ i + 1 ≤ len ∧ place + m ≤ 3 * (i + 1) ∧ ol + 1 ≤ i + 1 := by omega
theorem s_m {i k len place ol : Nat} (h : i + k = len + 1 ∧ i ≤ len ∧ place ≤ 3 * i ∧ ol ≤ i) (hi : i < len) : k - 1 < k := by omega
theorem s_p {i k len place ol n : Nat} (h : i + k = len + 1 ∧ i ≤ len ∧ place ≤ 3 * i ∧ ol ≤ i) (hi : i < len) (h1 : len ≤ n) (h2 : n ≤ 10) : place ≤ 40 ∧ i < 10 ∧ ol ≤ 10 := by omega
theorem s_last {i n : Nat} (h : i + 1 = n) : ((i : Int) == (n : Int) - 1) = true := by simp only [beq_iff_eq]; omega
theorem s_nlast {i n : Nat} (h : ¬ i + 1 = n) : ((i : Int) == (n : Int) - 1) = false := by simp only [beq_eq_false_iff_ne]; omega
theorem s_al {ol : Nat} (h : ol ≤ 10) : (ol + 1) * 8 ≤ 140737488355328 := by omega
theorem s_21 {l a m : Nat} (xs : List Int) (h : xs.length ≤ 21) : ((xs.drop a).take m).length ≤ 100 := by rw [List.length_take, List.length_drop]; omega
theorem scores_step (F : Nat) (xs : List Int) (all : Bool) (k place : Nat) (r : List Int) (t : List (List Int)) (h : ¬ (haltV F k all r = true ∨ xs.length < place + cntV F k r)) :
    scoresV F xs all k place (r :: t) = ((xs.drop place).take (cntV F k r)).sum :: scoresV F xs all (k + 1) (place + r.length) t := by
  show (if _ then _ else _) = _
  rw [if_neg h]
theorem scores_stop (F : Nat) (xs : List Int) (all : Bool) (k place : Nat) (r : List Int) (t : List (List Int)) (h : haltV F k all r = true ∨ xs.length < place + cntV F k r) :
    scoresV F xs all k place (r :: t) = [] := by
  show (if _ then _ else _) = _
  rw [if_pos h]
end Go.Proofs.Ytdioconinnpmmaa.Lane
