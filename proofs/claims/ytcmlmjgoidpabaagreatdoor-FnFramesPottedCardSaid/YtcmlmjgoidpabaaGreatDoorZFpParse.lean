/- Frames out of texts: both tell alike. -/
import Derived.Test.YtcmlmjgoidpabaaGreatDoorZFpFrame
set_option linter.unusedVariables false
set_option linter.unusedSimpArgs false
namespace Go.Proofs.YtcmlmjgoidpabaaGreatDoor.Pure
open Go.RowKit Go.Proofs.YtcmlmjgoidpabaaGreatDoor.MFnFramesPotted Go.Proofs.YtcmlmjgoidpabaaGreatDoorW.PrintWords Go.Proofs.YtcmlmjgoidpabaaGreatDoorW.PrintLast
theorem Ev.uniq {α : Type} {g : Nat → Option α} {r s : α} (h : Ev g r) (k : Ev g s) : r = s := by
  obtain ⟨K, hK⟩ := h
  obtain ⟨J, hJ⟩ := k
  have h1 := hK (max K J) (Nat.le_max_left _ _)
  have h2 := hJ (max K J) (Nat.le_max_right _ _)
  rw [h1] at h2
  exact Option.some.inj h2
theorem Tot.at {α : Type} {g : Nat → Option α} {P : α → Prop} {r : α} (h : Tot g P) (k : Ev g r) : P r := by
  obtain ⟨s, hs, hp⟩ := h
  rw [Ev.uniq k hs]
  exact hp
theorem read_loop (t : ByteArray) (ht : t.size ≤ 1000) : ∀ (d i : Nat) (x : Int), i + d = t.size → Tot (fun k => spec_l1Read.l0 k t x (i : Int)) (fun _ => True) := by
  intro d
  induction d with
  | zero =>
    intro i x h
    exact Tot.step (fun k => spec_l1Read.l0.eq_2 _ _ _ _) (Tot.neg (by omega) (Tot.ret trivial))
  | succ d ih =>
    intro i x h
    refine Tot.step (fun k => spec_l1Read.l0.eq_2 _ _ _ _) (Tot.pos (by omega) (Tot.pos (by omega) (Tot.ite (fun _ => Tot.ret trivial) (fun _ => Tot.ite (fun _ => Tot.ret trivial) (fun _ => ?_)))))
    rw [wrap_nat i (by omega)]
    exact ih (i + 1) _ (by omega)
theorem read_t (t : ByteArray) (ht : t.size ≤ 1000) : Tot (fun k => spec_l1Read.f k t) (fun _ => True) := by
  have h0 : ∀ b, Tot (fun k => spec_l1Read.j0 k t b) (fun _ => True) := fun b =>
    Tot.step (fun k => spec_l1Read.j0.eq_2 _ _ _) (Tot.ite (fun _ => Tot.ret trivial) (fun _ => read_loop t ht t.size 0 0 (by omega)))
  unfold spec_l1Read.f
  simp only [l1In_eq]
  refine Tot.some_bind (Tot.ite (fun c => ?_) (fun _ => h0 true))
  have c : 1 ≤ (t.size : Int) ∧ (t.size : Int) ≤ 6 := by simpa using c
  exact Tot.pos (by omega) (Tot.ite (fun _ => h0 _) (fun _ => h0 _))
def hit (s : ByteArray) (r : Int) (c : Bool) (l : Int) : Bool := goodB r c l && sB (textL r c l) s
theorem hit_eq {s : ByteArray} {r : Int} {c : Bool} {l : Int} (h : hit s r c l = true) : goodB r c l = true ∧ textL r c l = s := by
  unfold hit at h
  rw [Bool.and_eq_true] at h
  exact ⟨h.1, sB_eq h.2⟩
theorem hit_of {r : Int} {c : Bool} {l : Int} (h : goodB r c l = true) : hit (textL r c l) r c l = true := by
  unfold hit
  rw [h, Bool.true_and]
  exact decide_eq_true rfl
def F0 : Int × Bool × Int × Bool := (0, false, 0, false)
def Q0 (s : ByteArray) (i : Int) (v : Int × Bool × Int × Bool) : Prop :=
  (v.2.2.2 = true → hit s v.1 v.2.1 v.2.2.1 = true) ∧ (v.2.2.2 = false → v = F0 ∧ ∀ r c l, i ≤ r → r < 16 → 2 ≤ l → l ≤ 8 → hit s r c l = false)
def Q1 (s : ByteArray) (i m : Int) (v : Int × Bool × Int × Bool) : Prop :=
  Q0 s (i + 1) v ∧ (v.2.2.2 = false → ∀ c l, m ≤ l → l ≤ 8 → hit s i c l = false)
theorem frameText_t (r : Int) (c : Bool) (l : Int) : Tot (fun k => impl_FrameText.f k r c l) (Eq (if goodB r c l = true then (textL r c l, true) else (⟨#[]⟩, false))) := by
  by_cases g : goodB r c l = true
  · rw [if_pos g]
    exact (told g).itext
  · rw [if_neg g]
    unfold impl_FrameText.f
    refine Tot.bind (isFrame_t r c l) ?_
    rintro _ rfl
    exact Tot.neg g (Tot.ret rfl)
theorem toList_inj {a b : ByteArray} : a.toList = b.toList ↔ a = b := by
  rw [ByteArray.toList_eq, ByteArray.toList_eq]
  exact ⟨fun h => ByteArray.ext (Array.ext' h), fun h => by rw [h]⟩
theorem look_t {s : ByteArray} {r : Int} {c : Bool} {l : Int} {f g : Nat → Option (Int × Bool × Int × Bool)} {P : Int × Bool × Int × Bool → Prop} (hf : hit s r c l = true → P (r, c, l, true)) (hg : hit s r c l = false → Tot g P)
    (he : ∀ k, f k = (impl_FrameText.f k r c l).bind fun b => if b.2 = true then (if b.1.toList = s.toList then some (r, c, l, true) else g k) else g k) : Tot f P := by
  refine Tot.congr he (Tot.bind (frameText_t r c l) ?_)
  rintro _ rfl
  by_cases q : goodB r c l = true
  · rw [if_pos q]
    refine Tot.pos rfl ?_
    by_cases e : textL r c l = s
    · exact Tot.pos (toList_inj.2 e) (Tot.ret (hf (by subst e; exact hit_of q)))
    · refine Tot.neg (fun h => e (toList_inj.1 h)) (hg ?_)
      unfold hit
      rw [q, Bool.true_and]
      unfold sB
      exact decide_eq_false (fun h => e (ByteArray.ext (Array.ext' h)))
  · rw [if_neg q]
    refine Tot.neg (by simp) (hg ?_)
    unfold hit
    rw [Bool.eq_false_iff.mpr q, Bool.false_and]
theorem parse_l1 (s : ByteArray) (i : Int) (i0 : 0 ≤ i) (i1 : i < 16) (hn : Tot (fun k => impl_ParseFrame.l0 k s (i + 1)) (Q0 s (i + 1))) : ∀ (e : Nat) (m : Int), 2 ≤ m → m + e = 9 → Tot (fun k => impl_ParseFrame.l1 k s i m i) (Q1 s i m) := by
  have w : wrap64 (i + 1) = i + 1 := wrap_in (by omega) (by omega)
  intro e
  induction e with
  | zero =>
    intro m h0 h1
    refine Tot.step (fun k => impl_ParseFrame.l1.eq_2 _ _ _ _ _) (Tot.neg (by omega) ?_)
    rw [w]
    exact hn.mono (fun v hv => ⟨hv, fun _ c l a b => by omega⟩)
  | succ e ih =>
    intro m h0 h1
    have wm : wrap64 (m + 1) = m + 1 := wrap_in (by omega) (by omega)
    have w1 : wrap64 (0 + 1) = 1 := wrap_in (by omega) (by omega)
    have w2 : wrap64 (1 + 1) = 2 := wrap_in (by omega) (by omega)
    refine Tot.step (fun k => impl_ParseFrame.l1.eq_2 _ _ _ _ _) (Tot.pos (by omega) (Tot.some_bind ?_))
    refine Tot.step (fun k => impl_ParseFrame.l2.eq_2 _ _ _ _ _ _ _ _) (Tot.pos (by decide) (Tot.pos (by decide) (Tot.pos (by decide) ?_)))
    refine look_t (s := s) (r := i) (c := false) (l := m) (fun h => ?_) (fun hA => ?_) (fun k => rfl)
    · exact ⟨⟨fun _ => h, fun k => by cases k⟩, fun k => by cases k⟩
    rw [w1]
    refine Tot.step (fun k => impl_ParseFrame.l2.eq_2 _ _ _ _ _ _ _ _) (Tot.pos (by decide) (Tot.pos (by decide) (Tot.pos (by decide) ?_)))
    refine look_t (s := s) (r := i) (c := true) (l := m) (fun h => ?_) (fun hB => ?_) (fun k => rfl)
    · exact ⟨⟨fun _ => h, fun k => by cases k⟩, fun k => by cases k⟩
    rw [w2]
    refine Tot.step (fun k => impl_ParseFrame.l2.eq_2 _ _ _ _ _ _ _ _) (Tot.neg (by decide) ?_)
    rw [wm]
    refine (ih (m + 1) (by omega) (by omega)).mono (fun v hv => ⟨hv.1, fun q c l a b => ?_⟩)
    by_cases hl : l = m
    · subst hl
      cases c
      · exact hA
      · exact hB
    · exact hv.2 q c l (by omega) b
theorem parse_l0 (s : ByteArray) : ∀ (d : Nat) (i : Int), 0 ≤ i → i + d = 16 → Tot (fun k => impl_ParseFrame.l0 k s i) (Q0 s i) := by
  intro d
  induction d with
  | zero =>
    intro i h0 h1
    refine Tot.step (fun k => impl_ParseFrame.l0.eq_2 _ _ _) (Tot.neg (by omega) (Tot.ret ⟨(fun k => by cases k), fun _ => ⟨rfl, fun r c l a b => by omega⟩⟩))
  | succ d ih =>
    intro i h0 h1
    refine Tot.step (fun k => impl_ParseFrame.l0.eq_2 _ _ _) (Tot.pos (by omega) ?_)
    refine (parse_l1 s i h0 (by omega) (ih (i + 1) (by omega) (by omega)) 7 2 (by omega) (by omega)).mono (fun v hv => ⟨hv.1.1, fun q => ⟨(hv.1.2 q).1, fun r c l a b e f => ?_⟩⟩)
    by_cases hr : r = i
    · subst hr
      exact hv.2 q c l e f
    · exact (hv.1.2 q).2 r c l (by omega) b e f
theorem iparse_t (s : ByteArray) : Tot (fun k => impl_ParseFrame.f k s) (fun v => (v.2.2.2 = true → hit s v.1 v.2.1 v.2.2.1 = true) ∧ (v.2.2.2 = false → v = F0 ∧ ∀ r c l, hit s r c l = false)) := by
  refine (parse_l0 s 16 0 (by omega) (by omega)).mono (fun v hv => ⟨hv.1, fun q => ⟨(hv.2 q).1, fun r c l => ?_⟩⟩)
  by_cases h : hit s r c l = true
  · obtain ⟨h1, h2, h3, h4, _⟩ := good_range (hit_eq h).1
    rw [(hv.2 q).2 r c l h1 (by omega) h3 h4] at h
    cases h
  · exact Bool.eq_false_iff.mpr h
theorem frNum_t (n : Int) (h0 : 0 ≤ n) (h1 : n < 100) : Tot (fun k => spec_l1Num.f k n) (fun s => s.size ≤ 2) := by
  refine Tot.step (fun k => spec_l1Num.f.eq_2 _ _) (Tot.ite (fun _ => Tot.ret (by show 1 ≤ _; omega)) (fun c => ?_))
  rw [tdiv_in h0, wrap_in (by omega) (by omega)]
  refine Tot.bind (P := fun s => s.size = 1) (Tot.step (fun k => spec_l1Num.f.eq_2 _ _) (Tot.pos (by omega) (Tot.ret rfl))) (fun t ht => Tot.some_bind ?_)
  refine Tot.pos ?_ (Tot.ret ?_)
  · show t.size + 1 ≤ _
    omega
  · rw [ByteArray.size_append]
    show t.size + 1 ≤ _
    omega
theorem sparse_t (s : ByteArray) (v : Int × Bool × Int × Bool) (h1 : v.2.2.2 = true → hit s v.1 v.2.1 v.2.2.1 = true) (h2 : v.2.2.2 = false → v = F0 ∧ ∀ r c l, hit s r c l = false) : Tot (fun k => spec_ParseFrame.f k s) (Eq v) := by
  obtain ⟨r, c, l, b⟩ := v
  simp only at h1 h2
  unfold spec_ParseFrame.f spec_frParse.f
  simp only [l1In_eq]
  cases b with
  | true =>
    obtain ⟨g, rfl⟩ := hit_eq (h1 rfl)
    have C := codeF g
    have e1 : wrap64 (((textL r c l).size : Int) - 2) = (((textL r c l).size - 2 : Nat) : Int) := by rw [wrap_in (by have := C.size; omega) (by have := C.size; omega)]; have := C.size; omega
    have e2 : wrap64 ((((textL r c l).size - 2 : Nat) : Int) + 1) = (((textL r c l).size - 1 : Nat) : Int) := by rw [wrap_in (by have := C.size; omega) (by have := C.size; omega)]; have := C.size; omega
    have hs := C.size
    rw [e1, e2, Int.toNat_natCast, Int.toNat_natCast]
    refine Tot.bind (P := Eq (r, c, l, true)) ?_ ?_
    · refine Tot.some_bind (Tot.pos (by simp; omega) (Tot.pos (by omega) (Tot.pos (by omega) (Tot.bind C.reds ?_))))
      rintro _ rfl
      refine Tot.pos (by omega) (Tot.pos (by omega) (Tot.pos (by omega) (Tot.bind C.least ?_)))
      rintro _ rfl
      rw [C.colour, frGood_eq]
      refine Tot.some_bind (Tot.pos g (Tot.bind C.text ?_))
      rintro _ rfl
      exact Tot.ret (by simp)
    · rintro _ rfl
      exact Tot.pos rfl (Tot.ret rfl)
  | false =>
    obtain ⟨e, hn⟩ := h2 rfl
    rw [e]
    refine Tot.bind (P := fun v => v.2.2.2 = false) ?_ ?_
    · refine Tot.some_bind (Tot.ite (fun q => ?_) (fun _ => Tot.ret rfl))
      have q : 3 ≤ (s.size : Int) ∧ (s.size : Int) ≤ 4 := by simpa using q
      have e1 : wrap64 ((s.size : Int) - 2) = ((s.size - 2 : Nat) : Int) := by rw [wrap_in (by omega) (by omega)]; omega
      have e2 : wrap64 (((s.size - 2 : Nat) : Int) + 1) = ((s.size - 1 : Nat) : Int) := by rw [wrap_in (by omega) (by omega)]; omega
      rw [e1, e2, Int.toNat_natCast, Int.toNat_natCast]
      refine Tot.pos (by omega) (Tot.pos (by omega) (Tot.bind (read_t _ ?_) ?_))
      · have : (s.extract 0 (s.size - 2)).size ≤ s.size := by simp
        omega
      intro r' _
      refine Tot.pos (by omega) (Tot.pos (by omega) (Tot.pos (by omega) (Tot.bind (read_t _ ?_) ?_)))
      · have : (s.extract (s.size - 1) s.size).size ≤ s.size := by simp
        omega
      intro l' _
      rw [frGood_eq]
      refine Tot.some_bind (Tot.ite (fun g => ?_) (fun _ => Tot.ret rfl))
      refine Tot.bind (codeF g).text ?_
      rintro _ rfl
      refine Tot.ret ?_
      simp only
      rw [Bool.eq_false_iff]
      intro k
      have k := toList_inj.1 (eq_of_beq k)
      have hh := hn r' (bt s ((s.size - 2 : Nat) : Int) == 99) l'
      have := hit_of g
      rw [k, hh] at this
      cases this
    · rintro v hv
      exact Tot.neg (by rw [hv]; simp) (Tot.ret rfl)
theorem parse_both (s : ByteArray) : ∃ v, Tot (fun k => impl_ParseFrame.f k s) (Eq v) ∧ Tot (fun k => spec_ParseFrame.f k s) (Eq v) ∧ (v.2.2.2 = true → goodB v.1 v.2.1 v.2.2.1 = true ∧ textL v.1 v.2.1 v.2.2.1 = s) := by
  obtain ⟨v, hv, h1, h2⟩ := iparse_t s
  exact ⟨v, Tot.of hv, sparse_t s v h1 h2, fun q => hit_eq (h1 q)⟩
theorem parse_text {r : Int} {c : Bool} {l : Int} (g : goodB r c l = true) : Tot (fun k => impl_ParseFrame.f k (textL r c l)) (Eq (r, c, l, true)) := by
  obtain ⟨v, hv, h1, h2⟩ := iparse_t (textL r c l)
  have hs := sparse_t _ v h1 h2
  have hs2 := sparse_t (textL r c l) (r, c, l, true) (fun _ => hit_of g) (fun q => by cases q)
  have e : v = (r, c, l, true) := by
    obtain ⟨_, a1, rfl⟩ := hs
    obtain ⟨_, a2, rfl⟩ := hs2
    obtain ⟨k1, b1⟩ := a1.rounds
    obtain ⟨k2, b2⟩ := a2.rounds
    have m1 := Ev.of (fun k => spec_ParseFrame.mono _ k) b1
    exact (Ev.uniq m1 a2)
  subst e
  exact Tot.of hv
end Go.Proofs.YtcmlmjgoidpabaaGreatDoor.Pure

