/- Texts of darts: both tell alike, and texts are read back. -/
import Derived.Test.YtcmlmjgoidpabaaGreatDoorYFdBase
set_option linter.unusedVariables false
set_option linter.unusedSimpArgs false
namespace Go.Proofs.YtcmlmjgoidpabaaGreatDoor.Pure
open Go.RowKit Go.Proofs.YtcmlmjgoidpabaaGreatDoor.MFnDartsPlayed Go.Proofs.YtcmlmjgoidpabaaGreatDoorW.PrintWords Go.Proofs.YtcmlmjgoidpabaaGreatDoorW.PrintLast
theorem ev_at {α : Type} {g : Nat → Option α} {r : α} (m : ∀ k, LeO (g k) (g (k + 1))) {n : Nat} (h : g n = some r) : Tot g (Eq r) := Tot.of (Ev.of m h)
theorem size_list (b : ByteArray) : b.size = b.data.toList.length := by
  show b.data.size = _
  rw [Array.length_toList]
theorem toList_inj {a b : ByteArray} : a.toList = b.toList ↔ a = b := by
  rw [ByteArray.toList_eq, ByteArray.toList_eq]
  exact ⟨fun h => ByteArray.ext (Array.ext' h), fun h => by rw [h]⟩
theorem data_inj {a b : ByteArray} (h : a.data.toList = b.data.toList) : a = b := ByteArray.ext (Array.ext' h)
theorem bt_get (s : ByteArray) (i : Nat) (h : i < s.data.toList.length) : bt s (i : Int) = ((s.data.toList[i]).toNat : Int) := by
  have hj : i < s.size := by rw [size_list]; exact h
  unfold bt
  simp only [Int.toNat_natCast]
  rw [dif_pos hj]
  rfl
def preT (t : Int) : ByteArray := rdOf ByteArray.empty ([(⟨#[]⟩ : ByteArray), (⟨#[100]⟩ : ByteArray), (⟨#[116]⟩ : ByteArray)] : List ByteArray) (wrap64 (t - 1))
def numT (n : Int) : ByteArray := if n < 10 then ⟨#[UInt8.ofNat (48 + n.toNat)]⟩ else ⟨#[UInt8.ofNat (48 + n.toNat / 10), UInt8.ofNat (48 + n.toNat % 10)]⟩
def textD (n t : Int) : ByteArray := preT t ++ numT n
theorem itoa_eq (n : Int) (h0 : 0 ≤ n) (h1 : n < 100) : strconv_Itoa_85.f n = some (numT n) := by
  unfold strconv_Itoa_85.f numT
  rw [if_pos h0, if_pos h1, Lib.decDigits]
  by_cases c : n < 10
  · rw [dif_pos (by omega), if_pos c]
  · rw [dif_neg (by omega), if_neg c, Lib.decDigits, dif_pos (by omega)]
    rfl
def tabB (n t : Int) : Bool := decide ((preT t).size + (numT n).size ≤ 3) && decide (1 ≤ (textD n t).size) && decide ((textD n t).size ≤ 3) && !((textD n t).data.toList.contains 45) && decide (spec_daText.f 4 n t = some (textD n t)) && decide (spec_daParse.f 12 (textD n t) = some (n, t, true))
set_option maxRecDepth 100000 in
theorem tab_all : ∀ n < 26, ∀ t < 4, goodD (n : Nat) (t : Nat) = true → tabB (n : Nat) (t : Nat) = true := by decide +kernel
structure TextOf (n t : Int) : Prop where
  parts : (preT t).size + (numT n).size ≤ 3
  least : 1 ≤ (textD n t).size
  most : (textD n t).size ≤ 3
  dash : (45 : UInt8) ∉ (textD n t).data.toList
  text : Tot (fun k => spec_daText.f k n t) (Eq (textD n t))
  parse : Tot (fun k => spec_daParse.f k (textD n t)) (Eq (n, t, true))
theorem textOf {n t : Int} (g : goodD n t = true) : TextOf n t := by
  obtain ⟨a, b, c, d, _, _⟩ := good_range g
  have h := tab_all n.toNat (by omega) t.toNat (by omega)
  rw [show ((n.toNat : Nat) : Int) = n by omega, show ((t.toNat : Nat) : Int) = t by omega] at h
  have h := h g
  unfold tabB at h
  simp only [Bool.and_eq_true, decide_eq_true_eq] at h
  obtain ⟨⟨⟨⟨⟨h1, h2⟩, h3⟩, h4⟩, h5⟩, h6⟩ := h
  refine ⟨h1, h2, h3, by simpa using h4, ev_at (spec_daText.mono n t) h5, ev_at (spec_daParse.mono _) h6⟩
theorem idtext_eq (n t : Int) : impl_DartText.f n t = some (if goodD n t = true then (textD n t, true) else (⟨#[]⟩, false)) := by
  unfold impl_DartText.f
  rw [isDart_eq, Option.bind_some]
  by_cases g : goodD n t = true
  · obtain ⟨a, b, c, d, _, _⟩ := good_range g
    have w : wrap64 (t - 1) = t - 1 := wrap_in (by omega) (by omega)
    have hp := (textOf g).parts
    rw [if_pos g, if_pos g, Option.bind_some, itoa_eq n (by omega) (by omega), Option.bind_some]
    rw [if_pos (by rw [w]; omega), if_pos (by rw [w]; simp; omega)]
    rw [if_pos (by show (preT t).size + _ ≤ _; omega)]
    rfl
  · rw [if_neg g, if_neg g]
theorem sdtext_t (n t : Int) : Tot (fun k => spec_DartText.f k n t) (Eq (if goodD n t = true then (textD n t, true) else (⟨#[]⟩, false))) := by
  unfold spec_DartText.f
  rw [daGood_eq]
  refine Tot.some_bind (Tot.ite (fun g => ?_) (fun g => Tot.ret (by rw [if_neg g])))
  refine Tot.bind (textOf g).text ?_
  rintro _ rfl
  exact Tot.ret (by rw [if_pos g])
def boardB : Bool := match impl_board.f 700 with
  | none => false
  | some B => decide (B.length ≤ 100) && allD B && (List.range 26).all fun n => (List.range 4).all fun t => !goodD (n : Nat) (t : Nat) || B.any fun d => decide (d.f0 = (n : Nat)) && decide (d.f1 = (t : Nat))
set_option maxRecDepth 100000 in
theorem board_ok : boardB = true := by decide +kernel
def allB : List S52 := (impl_board.f 700).getD []
theorem board_facts : Tot (fun k => impl_board.f k) (Eq allB) ∧ allB.length ≤ 100 ∧ allD allB = true ∧ ∀ n t, goodD n t = true → (⟨n, t⟩ : S52) ∈ allB := by
  have h := board_ok
  unfold boardB at h
  split at h
  · cases h
  · rename_i B hB
    simp only [Bool.and_eq_true, decide_eq_true_eq] at h
    obtain ⟨⟨h1, h2⟩, h3⟩ := h
    have e : allB = B := by unfold allB; rw [hB]; rfl
    rw [e]
    refine ⟨ev_at impl_board.mono hB, h1, h2, fun n t g => ?_⟩
    obtain ⟨a, b, c, d, _, _⟩ := good_range g
    have k := List.all_eq_true.1 (List.all_eq_true.1 h3 n.toNat (List.mem_range.2 (by omega))) t.toNat (List.mem_range.2 (by omega))
    rw [show ((n.toNat : Nat) : Int) = n by omega, show ((t.toNat : Nat) : Int) = t by omega, g, Bool.not_true, Bool.false_or, List.any_eq_true] at k
    obtain ⟨x, hx, hk⟩ := k
    rw [Bool.and_eq_true, decide_eq_true_eq, decide_eq_true_eq] at hk
    obtain ⟨x0, x1⟩ := x
    obtain ⟨rfl, rfl⟩ := hk
    exact hx
def pvL (s : ByteArray) : List S52 → Int × Int × Bool
  | [] => (0, 0, false)
  | d :: r => if textD d.f0 d.f1 = s then (d.f0, d.f1, true) else pvL s r
def pv (s : ByteArray) : Int × Int × Bool := pvL s allB
theorem pvL_facts (s : ByteArray) : ∀ l, allD l = true → ((pvL s l).2.2 = true → goodD (pvL s l).1 (pvL s l).2.1 = true ∧ textD (pvL s l).1 (pvL s l).2.1 = s) ∧ ((pvL s l).2.2 = false → pvL s l = (0, 0, false) ∧ ∀ d ∈ l, textD d.f0 d.f1 ≠ s)
  | [], _ => ⟨(fun e => by cases e), fun _ => ⟨rfl, fun d h => by cases h⟩⟩
  | d :: r, h => by
    rw [allD_cons, Bool.and_eq_true] at h
    obtain ⟨f1, f2⟩ := pvL_facts s r h.2
    unfold pvL
    by_cases c : textD d.f0 d.f1 = s
    · rw [if_pos c]
      exact ⟨fun _ => ⟨h.1, c⟩, (fun e => by cases e)⟩
    · rw [if_neg c]
      refine ⟨f1, fun e => ⟨(f2 e).1, fun x hx => ?_⟩⟩
      cases hx with
      | head => exact c
      | tail _ hx => exact (f2 e).2 x hx
theorem pv_true {s : ByteArray} (h : (pv s).2.2 = true) : goodD (pv s).1 (pv s).2.1 = true ∧ textD (pv s).1 (pv s).2.1 = s := (pvL_facts s allB board_facts.2.2.1).1 h
theorem pv_false {s : ByteArray} (h : (pv s).2.2 = false) : pv s = (0, 0, false) ∧ ∀ n t, goodD n t = true → textD n t ≠ s := by
  obtain ⟨a, b⟩ := (pvL_facts s allB board_facts.2.2.1).2 h
  exact ⟨a, fun n t g => b ⟨n, t⟩ (board_facts.2.2.2 n t g)⟩
theorem iparse_t (s : ByteArray) : Tot (fun k => impl_ParseDart.f k s) (Eq (pv s)) := by
  obtain ⟨hB, hl, hg, _⟩ := board_facts
  unfold impl_ParseDart.f
  refine Tot.bind hB ?_
  rintro _ rfl
  refine walkL (P := fun pre suf => Tot (fun k => impl_ParseDart.l0 k s allB (allB.length : Int) (pre.length : Int)) (Eq (pvL s suf))) allB ?_ ?_
  · intro pre h
    exact Tot.step (fun k => impl_ParseDart.l0.eq_2 _ _ _ _ _) (Tot.neg (by rw [h]; omega) (Tot.ret rfl))
  · intro pre x suf h ih
    have hn := len_mid pre suf x
    rw [← h] at hn
    have gx : goodD x.f0 x.f1 = true := by
      have := List.all_eq_true.1 hg x (by rw [h]; simp)
      exact this
    refine Tot.step (fun k => impl_ParseDart.l0.eq_2 _ _ _ _ _) (Tot.pos (by omega) (Tot.pos (by omega) (Tot.pos (by omega) ?_)))
    rw [show rd_T52 allB (pre.length : Int) = x by rw [h]; exact rdT_mid pre suf x, idtext_eq, if_pos gx]
    unfold pvL
    refine Tot.some_bind (Tot.ite (fun c => Tot.ret ?_) (fun c => ?_))
    · rw [if_pos (toList_inj.1 c)]
    · rw [if_neg (fun e => c (toList_inj.2 e)), wrap_in (by omega) (by omega), ← nat_succL pre x]
      exact ih
theorem read_loop (t : ByteArray) (ht : t.size ≤ 1000) : ∀ (d i : Nat) (x : Int), i + d = t.size → Tot (fun k => spec_l1Read.l0 k t x (i : Int)) (fun _ => True) := by
  intro d
  induction d with
  | zero =>
    intro i x h
    exact Tot.step (fun k => spec_l1Read.l0.eq_2 _ _ _ _) (Tot.neg (by omega) (Tot.ret trivial))
  | succ d ih =>
    intro i x h
    refine Tot.step (fun k => spec_l1Read.l0.eq_2 _ _ _ _) (Tot.pos (by omega) (Tot.pos (by omega) (Tot.ite (fun _ => Tot.ret trivial) (fun _ => Tot.ite (fun _ => Tot.ret trivial) (fun _ => ?_)))))
    rw [wrap_nat i (by omega)]
    exact ih (i + 1) _ (by omega)
theorem read_t (t : ByteArray) (ht : t.size ≤ 1000) : Tot (fun k => spec_l1Read.f k t) (fun _ => True) := by
  have h0 : ∀ b, Tot (fun k => spec_l1Read.j0 k t b) (fun _ => True) := fun b =>
    Tot.step (fun k => spec_l1Read.j0.eq_2 _ _ _) (Tot.ite (fun _ => Tot.ret trivial) (fun _ => read_loop t ht t.size 0 0 (by omega)))
  unfold spec_l1Read.f
  simp only [l1In_eq]
  refine Tot.some_bind (Tot.ite (fun c => ?_) (fun _ => h0 true))
  have c : 1 ≤ (t.size : Int) ∧ (t.size : Int) ≤ 6 := by simpa using c
  exact Tot.pos (by omega) (Tot.ite (fun _ => h0 _) (fun _ => h0 _))
theorem sread_t (s : ByteArray) : Tot (fun k => spec_daParse.f k s) (fun u => u.2.2 = (pv s).2.2 ∧ ((pv s).2.2 = true → u = pv s)) := by
  cases e : (pv s).2.2 with
  | true =>
    obtain ⟨g, ht⟩ := pv_true e
    have h := (textOf g).parse
    rw [ht] at h
    refine h.mono ?_
    rintro _ rfl
    have e2 : pv s = ((pv s).1, (pv s).2.1, true) := by rw [← e]
    exact ⟨rfl, fun _ => e2.symm⟩
  | false =>
    obtain ⟨_, hn⟩ := pv_false e
    have last : ∀ n t : Int, Tot (fun k => (spec_daGood.f n t).bind fun b => if b = true then ((spec_daText.f k n t).bind fun z => some (n, t, (z.toList == s.toList))) else some (n, t, false)) (fun u => u.2.2 = false ∧ (false = true → u = pv s)) := by
      intro n t
      rw [daGood_eq]
      refine Tot.some_bind (Tot.ite (fun g => ?_) (fun _ => Tot.ret ⟨rfl, (fun e => by cases e)⟩))
      refine Tot.bind (textOf g).text ?_
      rintro _ rfl
      refine Tot.ret ⟨?_, (fun e => by cases e)⟩
      rw [Bool.eq_false_iff]
      intro k
      exact hn n t g (toList_inj.1 (eq_of_beq k))
    unfold spec_daParse.f
    rw [l1In_eq]
    refine Tot.some_bind (Tot.ite (fun q => ?_) (fun _ => Tot.ret ⟨rfl, (fun e => by cases e)⟩))
    have q : 1 ≤ (s.size : Int) ∧ (s.size : Int) ≤ 3 := by simpa using q
    have hx : (s.extract 1 s.size).size ≤ 1000 := by
      have : (s.extract 1 s.size).size ≤ s.size := by simp
      omega
    refine Tot.bind (read_t s (by omega)) (fun n0 _ => Tot.pos (by omega) (Tot.ite (fun _ => Tot.pos (by omega) ?_) (fun _ => Tot.ite (fun _ => Tot.pos (by omega) ?_) (fun _ => last n0 1))))
    · exact Tot.bind (read_t _ hx) (fun n1 _ => last n1 2)
    · exact Tot.bind (read_t _ hx) (fun n1 _ => last n1 3)
theorem sparse_t (s : ByteArray) : Tot (fun k => spec_ParseDart.f k s) (Eq (pv s)) := by
  unfold spec_ParseDart.f
  refine Tot.bind (sread_t s) (fun u hu => Tot.ite (fun e => Tot.ret ?_) (fun e => Tot.ret ?_))
  · have h := hu.2 (by rw [← hu.1, e])
    rw [← h, ← e]
  · rw [(pv_false (by rw [← hu.1]; simpa using e)).1]
theorem pv_text {n t : Int} (g : goodD n t = true) : pv (textD n t) = (n, t, true) := by
  cases e : (pv (textD n t)).2.2 with
  | false => exact absurd rfl ((pv_false e).2 n t g)
  | true =>
    have h := sread_t (textD n t)
    have h2 := (textOf g).parse
    obtain ⟨_, h2, rfl⟩ := h2
    exact ((h.at h2).2 e).symm
end Go.Proofs.YtcmlmjgoidpabaaGreatDoor.Pure

