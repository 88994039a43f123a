/- Texts of lists of darts: both tell alike, and texts are read back. -/
import Derived.Test.YtcmlmjgoidpabaaGreatDoorYFdText
set_option linter.unusedVariables false
set_option linter.unusedSimpArgs false
namespace Go.Proofs.YtcmlmjgoidpabaaGreatDoor.Pure
open Go.RowKit Go.Proofs.YtcmlmjgoidpabaaGreatDoor.MFnDartsPlayed Go.Proofs.YtcmlmjgoidpabaaGreatDoorW.PrintWords Go.Proofs.YtcmlmjgoidpabaaGreatDoorW.PrintLast
def addH (p : List UInt8) : List (List UInt8) → List (List UInt8)
  | [] => [p]
  | h :: t => (p ++ h) :: t
def cutL (c : UInt8) : List UInt8 → List (List UInt8)
  | [] => [[]]
  | x :: r => if x = c then [] :: cutL c r else addH [x] (cutL c r)
theorem addH_ne (p : List UInt8) (L : List (List UInt8)) : addH p L ≠ [] := by cases L <;> simp [addH]
theorem cut_ne (c : UInt8) : ∀ s, cutL c s ≠ []
  | [] => by simp [cutL]
  | x :: r => by
    unfold cutL
    split
    · simp
    · exact addH_ne _ _
theorem addH_nil (L : List (List UInt8)) (h : L ≠ []) : addH [] L = L := by
  cases L with
  | nil => exact absurd rfl h
  | cons h t => rfl
theorem addH_addH (p q : List UInt8) (L : List (List UInt8)) : addH p (addH q L) = addH (p ++ q) L := by cases L <;> simp [addH]
theorem indexByte_nat (c : UInt8) : ∀ s : List UInt8, Lib.indexByte s c = -1 ∧ s.count c = 0 ∨ ∃ i : Nat, Lib.indexByte s c = i ∧ s.count c ≠ 0
  | [] => .inl ⟨rfl, rfl⟩
  | x :: r => by
    unfold Lib.indexByte
    by_cases e : x = c
    · subst e
      right
      exact ⟨0, by simp, by simp⟩
    · rcases indexByte_nat c r with ⟨h1, h2⟩ | ⟨i, h1, h2⟩
      · left
        rw [h1]
        simp [e, h2]
      · right
        refine ⟨i + 1, ?_, ?_⟩
        · rw [h1]
          simp [e] <;> omega
        · simpa [e] using h2
theorem split_cut (c : UInt8) : ∀ s : List UInt8, Lib.splitK [c] 0 (s.count c) s = cutL c s
  | [] => by simp [Lib.splitK, cutL]
  | x :: r => by
    have ih := split_cut c r
    by_cases e : x = c
    · subst e
      rw [cutL, if_pos rfl, List.count_cons_self, Lib.splitK, Lib.index_one]
      have : Lib.indexByte (x :: r) x = 0 := by simp [Lib.indexByte]
      rw [this]
      simp [ih]
    · have hc : (x :: r).count c = r.count c := by simp [e]
      rw [cutL, if_neg e, hc]
      rcases indexByte_nat c r with ⟨h1, h2⟩ | ⟨i, h1, h2⟩
      · rw [h2] at ih ⊢
        rw [← ih]
        rfl
      · obtain ⟨k, hk⟩ : ∃ k, r.count c = k + 1 := ⟨r.count c - 1, by omega⟩
        rw [hk] at ih ⊢
        have h3 : Lib.indexByte (x :: r) c = ((i + 1 : Nat) : Int) := by
          unfold Lib.indexByte
          rw [h1]
          simp [e] <;> omega
        rw [Lib.splitK, Lib.index_one, h1] at ih
        rw [Lib.splitK, Lib.index_one, h3, ← ih]
        have n1 : ¬ (((i : Nat) : Int) == -1) = true := by simp <;> omega
        have n2 : ¬ ((((i + 1 : Nat) : Nat) : Int) == -1) = true := by simp <;> omega
        rw [if_neg n1, if_neg n2]
        simp [addH]
theorem map_data_inj : ∀ {a b : List ByteArray}, a.map (·.data.toList) = b.map (·.data.toList) → a = b
  | [], [], _ => rfl
  | [], _ :: _, h => by simp at h
  | _ :: _, [], h => by simp at h
  | x :: a, y :: b, h => by
    simp only [List.map_cons, List.cons.injEq] at h
    rw [data_inj h.1, map_data_inj h.2]
def words (s : ByteArray) : List ByteArray := Lib.splitB ⟨#[45]⟩ 0 (Lib.countB s ⟨#[45]⟩) s
theorem words_data (s : ByteArray) : (words s).map (·.data.toList) = cutL 45 s.data.toList := by
  unfold words
  rw [Lib.splitB_data]
  show Lib.splitK [45] 0 (Lib.count s.data.toList [45]) s.data.toList = _
  rw [Lib.count_one]
  exact split_cut 45 _
theorem isplit_eq (s : ByteArray) (hs : s.size < 4294967281) : strings_Split.f s (⟨#[45]⟩ : ByteArray) = some (words s) := by
  unfold strings_Split.f
  rw [if_pos ⟨rfl, hs⟩]
  rfl
theorem ext_data (s : ByteArray) (i j : Nat) : (s.extract i j).data.toList = (s.data.toList.drop i).take (j - i) := by
  rw [Lib.extract_data]
theorem drop_succ {l : List UInt8} {i : Nat} (h : i < l.length) : l.drop i = l[i] :: l.drop (i + 1) := List.drop_eq_getElem_cons h
theorem take_more {l : List UInt8} {a i : Nat} (ha : a ≤ i) (h : i < l.length) : (l.drop a).take (i + 1 - a) = (l.drop a).take (i - a) ++ [l[i]] := by
  rw [show i + 1 - a = (i - a) + 1 by omega, List.take_add_one, List.getElem?_drop, show a + (i - a) = i by omega, List.getElem?_eq_getElem h]
  rfl
theorem ssplit_loop (s : ByteArray) (hs : s.size ≤ 1000000) : ∀ (d i a : Nat) (out : List ByteArray), i + d = s.size → a ≤ i → out.length ≤ i →
    Tot (fun k => spec_l1Split.l0 k s 45 out (a : Int) (i : Int)) (fun r => r.map (·.data.toList) = out.map (·.data.toList) ++ addH ((s.data.toList.drop a).take (i - a)) (cutL 45 (s.data.toList.drop i))) := by
  intro d
  induction d with
  | zero =>
    intro i a out hi ha ho
    refine Tot.step (fun k => spec_l1Split.l0.eq_2 _ _ _ _ _ _) (Tot.neg (by omega) (Tot.pos (by omega) (Tot.pos (by omega) (Tot.pos (by omega) (Tot.ret ?_)))))
    have hd : s.data.toList.drop i = [] := List.drop_eq_nil_of_le (by rw [← size_list]; omega)
    rw [hd, List.map_append, Int.toNat_natCast]
    simp only [List.map_cons, List.map_nil, cutL, addH, List.append_nil]
    rw [ext_data, show i = s.size by omega]
  | succ d ih =>
    intro i a out hi ha ho
    have hl : i < s.data.toList.length := by rw [← size_list]; omega
    have hb := bt_get s i hl
    refine Tot.step (fun k => spec_l1Split.l0.eq_2 _ _ _ _ _ _) (Tot.pos (by omega) (Tot.pos (by omega) ?_))
    rw [drop_succ hl, wrap_nat i (by omega), Int.toNat_natCast, Int.toNat_natCast]
    unfold cutL
    by_cases e : s.data.toList[i] = 45
    · have hb2 : bt s (i : Int) = 45 := by rw [hb, e]; rfl
      refine Tot.pos hb2 (Tot.pos (by omega) (Tot.pos (by omega) (Tot.pos (by omega) (Tot.pos (by omega) ?_))))
      refine (ih (i + 1) (i + 1) (out ++ [s.extract a i]) (by omega) (Nat.le_refl _) (by simp; omega)).mono (fun r hr => ?_)
      rw [hr, if_pos e, Nat.sub_self, List.take_zero, addH_nil _ (cut_ne _ _)]
      simp only [List.map_append, List.map_cons, List.map_nil, addH, List.append_nil, List.append_assoc, List.cons_append, List.nil_append]
      rw [ext_data]
    · have hb2 : ¬ bt s (i : Int) = 45 := by
        rw [hb]
        intro h
        exact e (UInt8.toNat_inj.1 (by have h45 : (45 : UInt8).toNat = 45 := rfl; omega))
      refine Tot.neg hb2 ?_
      refine (ih (i + 1) a out (by omega) (by omega) (by omega)).mono (fun r hr => ?_)
      rw [hr, if_neg e, addH_addH, take_more ha hl]
theorem ssplit_t (s : ByteArray) (hs : s.size ≤ 1000000) : Tot (fun k => spec_l1Split.f k s 45) (Eq (words s)) := by
  refine (ssplit_loop s hs s.size 0 0 [] (by omega) (Nat.le_refl _) (by simp)).mono (fun r hr => ?_)
  apply map_data_inj
  rw [words_data, hr]
  simp only [List.map_nil, List.nil_append, List.drop_zero, Nat.sub_zero, List.take_zero]
  rw [addH_nil _ (cut_ne _ _)]
def parsL : List ByteArray → Option (List S52)
  | [] => some []
  | w :: r => if (pv w).2.2 = true then (parsL r).map ((⟨(pv w).1, (pv w).2.1⟩ : S52) :: ·) else none
def parsEnd (x : List S52) : Option (List S52) → List S52 × Bool
  | some L => (x ++ L, true)
  | none => ([], false)
def parsV (s : ByteArray) : List S52 × Bool := if (words s).length ≤ 9 then parsEnd [] (parsL (words s)) else ([], false)
theorem parsEnd_cons (x : List S52) (y : S52) (o : Option (List S52)) : parsEnd (x ++ [y]) o = parsEnd x (o.map (y :: ·)) := by
  cases o <;> simp [parsEnd]
theorem rdB_mid (pre suf : List ByteArray) (x : ByteArray) : rdOf ByteArray.empty (pre ++ x :: suf) (pre.length : Int) = x := by simp [rdOf]
theorem words_few (s : ByteArray) : (words s).length ≤ s.size + 1 := by
  unfold words
  have h := Lib.splitB_length_le ⟨#[45]⟩ 0 (Lib.countB s ⟨#[45]⟩) s
  have h2 := Lib.countB_le ⟨#[45]⟩ (Nat.le_refl _) s.size s (Nat.le_refl _)
  omega
theorem idarts_t (s : ByteArray) (hs : s.size ≤ 1000000) : Tot (fun k => impl_ParseDarts.f k s) (Eq (parsV s)) := by
  unfold impl_ParseDarts.f
  rw [isplit_eq s (by omega)]
  have hw := words_few s
  refine Tot.some_bind ?_
  unfold parsV
  generalize words s = ws at hw
  have := walkL (P := fun pre suf => pre.length ≤ 9 → ∀ out : List S52, out.length = pre.length → Tot (fun k => impl_ParseDarts.l0 k out ws (ws.length : Int) (pre.length : Int)) (Eq (if pre.length + suf.length ≤ 9 then parsEnd out (parsL suf) else ([], false)))) ws ?_ ?_
  · have h := this (by simp) [] rfl
    simpa using h
  · rintro pre rfl h9 out ho
    refine Tot.step (fun k => impl_ParseDarts.l0.eq_2 _ _ _ _ _) (Tot.neg (by omega) (Tot.ret ?_))
    rw [if_pos (by simpa using h9)]
    simp [parsL, parsEnd]
  · intro pre x suf h ih h9 out ho
    have hn := len_mid pre suf x
    rw [← h] at hn
    refine Tot.step (fun k => impl_ParseDarts.l0.eq_2 _ _ _ _ _) (Tot.pos (by omega) (Tot.pos (by omega) (Tot.pos (by omega) ?_)))
    rw [show rdOf ByteArray.empty ws (pre.length : Int) = x by rw [h]; exact rdB_mid pre suf x]
    refine Tot.bind (iparse_t x) ?_
    rintro _ rfl
    unfold parsL
    refine Tot.ite (fun e => Tot.ite (fun f => Tot.ret ?_) (fun f => Tot.pos (by omega) ?_)) (fun e => Tot.ret ?_)
    · rw [if_neg (by simp; omega)]
    · rw [if_pos e, ← parsEnd_cons, wrap_in (by omega) (by omega), ← nat_succL pre x]
      have h2 := ih (by simp; omega) (out ++ [⟨(pv x).1, (pv x).2.1⟩]) (by simp; omega)
      rw [show (pre ++ [x]).length + suf.length = pre.length + (x :: suf).length by simp; omega] at h2
      exact h2
    · rw [if_neg e]
      split <;> rfl
theorem sdarts_t (s : ByteArray) (hs : s.size ≤ 1000000) : Tot (fun k => spec_ParseDarts.f k s) (Eq (parsV s)) := by
  unfold spec_ParseDarts.f
  have hw := words_few s
  refine Tot.bind (ssplit_t s hs) ?_
  rintro _ rfl
  unfold parsV
  generalize words s = ws at hw
  refine Tot.ite (fun c => Tot.ret (by rw [if_neg (by omega)])) (fun c => ?_)
  rw [if_pos (by omega)]
  have := walkL (P := fun pre suf => ∀ out : List S52, out.length = pre.length → Tot (fun k => spec_ParseDarts.l0 k out ws (ws.length : Int) (pre.length : Int)) (Eq (parsEnd out (parsL suf)))) ws ?_ ?_
  · exact this [] rfl
  · rintro pre rfl out ho
    refine Tot.step (fun k => spec_ParseDarts.l0.eq_2 _ _ _ _ _) (Tot.neg (by omega) (Tot.ret ?_))
    simp [parsL, parsEnd]
  · intro pre x suf h ih out ho
    have hn := len_mid pre suf x
    rw [← h] at hn
    refine Tot.step (fun k => spec_ParseDarts.l0.eq_2 _ _ _ _ _) (Tot.pos (by omega) (Tot.pos (by omega) (Tot.pos (by omega) ?_)))
    rw [show rdOf ByteArray.empty ws (pre.length : Int) = x by rw [h]; exact rdB_mid pre suf x]
    refine Tot.bind (sread_t x) (fun u hu => ?_)
    unfold parsL
    refine Tot.ite (fun e => Tot.pos (by omega) ?_) (fun e => Tot.ret ?_)
    · have e2 : (pv x).2.2 = true := by rw [← hu.1]; exact e
      rw [if_pos e2, hu.2 e2, ← parsEnd_cons, wrap_in (by omega) (by omega), ← nat_succL pre x]
      exact ih _ (by simp; omega)
    · rw [if_neg (by rw [← hu.1]; exact e)]
      rfl
def txt (d : S52) : ByteArray := textD d.f0 d.f1
def joinD (l : List S52) : ByteArray := ⟨(Lib.join ((l.map txt).map (·.data.toList)) [45]).toArray⟩
def textV (l : List S52) : ByteArray × Bool := if (1 ≤ l.length ∧ l.length ≤ 9) ∧ allD l = true then (joinD l, true) else (⟨#[]⟩, false)
theorem txt_len {d : S52} (g : goodD d.f0 d.f1 = true) : (txt d).data.toList.length ≤ 3 := by
  have := (textOf g).most
  rw [← size_list]
  exact this
theorem tail_len : ∀ l : List S52, allD l = true → (Lib.joinTail [45] ((l.map txt).map (·.data.toList))).length ≤ 4 * l.length
  | [], _ => by simp [Lib.joinTail]
  | d :: r, h => by
    rw [allD_cons, Bool.and_eq_true] at h
    have h1 := tail_len r h.2
    have h2 := txt_len h.1
    simp only [Lib.joinTail, List.map_cons, List.flatten_cons, List.length_append, List.length_cons, List.length_nil] at h1 ⊢
    omega
theorem join_len (l : List S52) (h : allD l = true) : (Lib.join ((l.map txt).map (·.data.toList)) [45]).length ≤ 4 * l.length := by
  cases l with
  | nil => simp [Lib.join_nil]
  | cons d r =>
    have h0 := h
    rw [allD_cons, Bool.and_eq_true] at h
    have h2 := txt_len h.1
    have h3 := tail_len r h.2
    simp only [List.map_cons, Lib.join_cons, List.length_append, List.length_cons] at h3 ⊢
    omega
theorem join_size (l : List S52) (h : allD l = true) : (joinD l).size ≤ 4 * l.length := by
  rw [size_list]
  exact join_len l h
theorem itexts_t (l : List S52) (hl : l.length ≤ 1000000) : Tot (fun k => impl_DartsText.f k l) (Eq (textV l)) := by
  have no : ¬ ((1 ≤ l.length ∧ l.length ≤ 9) ∧ allD l = true) → Tot (fun k => impl_DartsText.j0 k l true) (Eq (textV l)) := fun e =>
    Tot.step (fun k => impl_DartsText.j0.eq_2 _ _ _) (Tot.pos rfl (Tot.ret (by unfold textV; rw [if_neg e])))
  unfold impl_DartsText.f
  rw [within_eq]
  refine Tot.some_bind (Tot.ite (fun c => ?_) (fun c => no (fun e => c (decide_eq_true (by omega)))))
  have c := of_decide_eq_true c
  refine Tot.bind (areDarts_t l hl) ?_
  rintro _ rfl
  cases e : allD l with
  | false => exact no (fun h => by rw [e] at h; cases h.2)
  | true =>
    refine Tot.step (fun k => impl_DartsText.j0.eq_2 _ _ _) (Tot.neg (by decide) ?_)
    have := walkL (P := fun pre suf => Tot (fun k => impl_DartsText.l0 k (pre.map txt) l (l.length : Int) (pre.length : Int)) (Eq (joinD l, true))) l ?_ ?_
    · unfold textV
      rw [if_pos ⟨by omega, e⟩]
      exact this
    · rintro pre rfl
      refine Tot.step (fun k => impl_DartsText.l0.eq_2 _ _ _ _ _) (Tot.neg (by omega) ?_)
      unfold strings_Join.f
      have hj := join_len pre e
      rw [if_pos ⟨by simp <;> omega, by simp <;> omega, by show (Lib.join ((pre.map txt).map (·.data.toList)) [45]).length ≤ _; omega⟩]
      exact Tot.some_bind (Tot.ret rfl)
    · intro pre x suf h ih
      have hn := len_mid pre suf x
      rw [← h] at hn
      have gx : goodD x.f0 x.f1 = true := List.all_eq_true.1 e x (by rw [h]; simp)
      refine Tot.step (fun k => impl_DartsText.l0.eq_2 _ _ _ _ _) (Tot.pos (by omega) (Tot.pos (by omega) (Tot.pos (by omega) ?_)))
      rw [show rd_T52 l (pre.length : Int) = x by rw [h]; exact rdT_mid pre suf x, idtext_eq, if_pos gx]
      refine Tot.some_bind (Tot.pos (by simp; omega) ?_)
      rw [wrap_in (by omega) (by omega), ← nat_succL pre x]
      rw [List.map_append] at ih
      exact ih
theorem append_data (a b : ByteArray) : (a ++ b).data.toList = a.data.toList ++ b.data.toList := by simp [ByteArray.data_append]
theorem stexts_loop (l : List S52) (hl : l.length ≤ 1000) (e : allD l = true) : ∀ suf pre, l = pre ++ suf → 1 ≤ pre.length → ∀ acc : ByteArray, acc.size ≤ 4 * pre.length →
    Tot (fun k => spec_daTexts.l0 k acc l (l.length : Int) (pre.length : Int)) (fun r => r.data.toList = acc.data.toList ++ Lib.joinTail [45] ((suf.map txt).map (·.data.toList))) := by
  intro suf
  induction suf with
  | nil =>
    intro pre h h1 acc _
    refine Tot.step (fun k => spec_daTexts.l0.eq_2 _ _ _ _ _) (Tot.neg (by rw [h]; simp) (Tot.ret ?_))
    simp [Lib.joinTail]
  | cons x suf ih =>
    intro pre h h1 acc ha
    have hn := len_mid pre suf x
    rw [← h] at hn
    have gx : goodD x.f0 x.f1 = true := List.all_eq_true.1 e x (by rw [h]; simp)
    have hx := (textOf gx).most
    refine Tot.step (fun k => spec_daTexts.l0.eq_2 _ _ _ _ _) (Tot.pos (by omega) (Tot.pos (by omega) (Tot.pos (by omega) (Tot.pos (by omega) (Tot.pos (by omega) ?_)))))
    rw [show rd_T52 l (pre.length : Int) = x by rw [h]; exact rdT_mid pre suf x]
    refine Tot.bind (textOf gx).text ?_
    rintro _ rfl
    have hz : (acc ++ (⟨#[45]⟩ : ByteArray)).size = acc.size + 1 := by rw [ByteArray.size_append]; rfl
    refine Tot.pos (by rw [hz]; omega) ?_
    rw [wrap_in (by omega) (by omega), ← nat_succL pre x]
    refine (ih (pre ++ [x]) (by simp [h]) (by simp) _ (by rw [ByteArray.size_append, hz]; simp; omega)).mono (fun r hr => ?_)
    rw [hr, append_data, append_data]
    simp [Lib.joinTail, txt]
theorem stexts_all (l : List S52) (h1 : 1 ≤ l.length) (hl : l.length ≤ 1000) (e : allD l = true) : Tot (fun k => spec_daTexts.f k l) (Eq (joinD l)) := by
  cases l with
  | nil => simp at h1
  | cons x suf =>
    have h0 := e
    rw [allD_cons, Bool.and_eq_true] at e
    have gx := e.1
    have hx := (textOf gx).most
    unfold spec_daTexts.f
    refine Tot.step (fun k => spec_daTexts.l0.eq_2 _ _ _ _ _) (Tot.pos (by simp <;> omega) (Tot.pos (by omega) (Tot.pos (by simp <;> omega) (Tot.neg (by omega) ?_))))
    rw [show rd_T52 (x :: suf) 0 = x from rfl]
    refine Tot.bind (textOf gx).text ?_
    rintro _ rfl
    refine Tot.pos (by show 0 + _ ≤ _; omega) ?_
    rw [show wrap64 (0 + 1) = (([x].length : Nat) : Int) by rw [wrap_in (by omega) (by omega)]; rfl]
    refine (stexts_loop (x :: suf) hl h0 suf [x] rfl (by simp) _ (by rw [ByteArray.size_append]; show 0 + _ ≤ _; simp; omega)).mono (fun r hr => ?_)
    apply data_inj
    rw [hr, append_data]
    show (Lib.join (((x :: suf).map txt).map (·.data.toList)) [45]).toArray.toList = _
    rw [List.map_cons, List.map_cons, Lib.join_cons]
    simp [txt]
theorem stexts_t (l : List S52) (hl : l.length ≤ 1000000) : Tot (fun k => spec_DartsText.f k l) (Eq (textV l)) := by
  unfold spec_DartsText.f
  refine Tot.bind (daList_t l 1 9 hl) ?_
  rintro _ rfl
  unfold textV
  refine Tot.ite (fun c => ?_) (fun c => Tot.ret ?_)
  · rw [Bool.and_eq_true, decide_eq_true_eq] at c
    refine Tot.bind (stexts_all l (by omega) (by omega) c.2) ?_
    rintro _ rfl
    rw [if_pos ⟨by omega, c.2⟩]
    exact Tot.ret rfl
  · rw [if_neg (fun h => c (by rw [Bool.and_eq_true, decide_eq_true_eq]; exact ⟨by omega, h.2⟩))]
theorem cut_append (c : UInt8) : ∀ (x y : List UInt8), c ∉ x → cutL c (x ++ y) = addH x (cutL c y)
  | [], y, _ => (addH_nil _ (cut_ne c y)).symm
  | a :: x, y, h => by
    have ha : ¬ a = c := fun e => h (by simp [e])
    have hx : c ∉ x := fun e => h (List.mem_cons_of_mem _ e)
    show cutL c (a :: (x ++ y)) = _
    rw [cutL, if_neg ha, cut_append c x y hx, addH_addH]
    rfl
theorem cut_join (c : UInt8) : ∀ (r : List (List UInt8)) (x : List UInt8), (∀ w ∈ x :: r, c ∉ w) → cutL c (x ++ Lib.joinTail [c] r) = x :: r
  | [], x, h => by
    have : x ++ Lib.joinTail [c] [] = x ++ [] := rfl
    rw [this, cut_append c x [] (h x (by simp))]
    simp [cutL, addH]
  | y :: r, x, h => by
    rw [cut_append c x _ (h x (by simp))]
    have : Lib.joinTail [c] (y :: r) = c :: (y ++ Lib.joinTail [c] r) := by simp [Lib.joinTail]
    rw [this, cutL, if_pos rfl, cut_join c r y (fun w hw => h w (List.mem_cons_of_mem _ hw))]
    simp [addH]
theorem join_cut (c : UInt8) : ∀ s : List UInt8, ∃ x r, cutL c s = x :: r ∧ x ++ Lib.joinTail [c] r = s
  | [] => ⟨[], [], rfl, rfl⟩
  | a :: s => by
    obtain ⟨x, r, h1, h2⟩ := join_cut c s
    by_cases e : a = c
    · refine ⟨[], x :: r, by rw [cutL, if_pos e, h1], ?_⟩
      rw [← h2, e]
      simp [Lib.joinTail]
    · exact ⟨a :: x, r, by rw [cutL, if_neg e, h1]; rfl, by rw [← h2]; rfl⟩
theorem parsL_text : ∀ l : List S52, allD l = true → parsL (l.map txt) = some l
  | [], _ => rfl
  | d :: r, h => by
    rw [allD_cons, Bool.and_eq_true] at h
    rw [List.map_cons, parsL, show pv (txt d) = (d.f0, d.f1, true) from pv_text h.1, if_pos rfl, parsL_text r h.2]
    rfl
theorem words_join (l : List S52) (h1 : 1 ≤ l.length) (h : allD l = true) : words (joinD l) = l.map txt := by
  apply map_data_inj
  rw [words_data]
  cases l with
  | nil => simp at h1
  | cons d r =>
    show cutL 45 (Lib.join (((d :: r).map txt).map (·.data.toList)) [45]).toArray.toList = _
    rw [List.map_cons, List.map_cons, Lib.join_cons]
    refine cut_join 45 _ _ (fun w hw => ?_)
    have hw : w ∈ ((d :: r).map txt).map (·.data.toList) := hw
    obtain ⟨b, hb, rfl⟩ := List.mem_map.1 hw
    obtain ⟨x, hx, rfl⟩ := List.mem_map.1 hb
    exact (textOf (List.all_eq_true.1 h x hx)).dash
theorem pars_join (l : List S52) (h : (textV l).2 = true) : parsV (textV l).1 = (l, true) ∧ (textV l).1.size ≤ 36 ∧ allD l = true := by
  unfold textV at h ⊢
  by_cases c : (1 ≤ l.length ∧ l.length ≤ 9) ∧ allD l = true
  · rw [if_pos c]
    have hs := join_size l c.2
    refine ⟨?_, by show (joinD l).size ≤ 36; omega, c.2⟩
    unfold parsV
    rw [words_join l c.1.1 c.2, parsL_text l c.2, if_pos (by simp; omega)]
    rfl
  · rw [if_neg c] at h
    cases h
theorem parsL_words : ∀ (ws : List ByteArray) (L : List S52), parsL ws = some L → L.map txt = ws ∧ allD L = true
  | [], L, h => by
    obtain rfl : [] = L := Option.some.inj h
    exact ⟨rfl, rfl⟩
  | w :: r, L, h => by
    unfold parsL at h
    by_cases c : (pv w).2.2 = true
    · rw [if_pos c] at h
      cases hr : parsL r with
      | none => rw [hr] at h; cases h
      | some M =>
        rw [hr] at h
        obtain rfl := (Option.some.inj h).symm
        obtain ⟨g1, g2⟩ := parsL_words r M hr
        obtain ⟨p1, p2⟩ := pv_true c
        refine ⟨?_, ?_⟩
        · rw [List.map_cons, g1]
          show textD (pv w).1 (pv w).2.1 :: r = _
          rw [p2]
        · rw [allD_cons, g2, Bool.and_true]
          exact p1
    · rw [if_neg c] at h
      cases h
theorem join_pars (s : ByteArray) (h : (parsV s).2 = true) : textV (parsV s).1 = (s, true) ∧ (parsV s).1.length ≤ 9 := by
  unfold parsV at h ⊢
  by_cases c : (words s).length ≤ 9
  · rw [if_pos c] at h ⊢
    cases hp : parsL (words s) with
    | none => rw [hp] at h; cases h
    | some L =>
      obtain ⟨h1, h2⟩ := parsL_words _ L hp
      have hl : L.length = (words s).length := by rw [← h1]; simp
      obtain ⟨x, r, q1, q2⟩ := join_cut 45 s.data.toList
      have hd := words_data s
      rw [← h1, q1] at hd
      have hne : 1 ≤ L.length := by
        have := congrArg List.length hd
        simp at this
        omega
      show textV ([] ++ L) = (s, true) ∧ ([] ++ L : List S52).length ≤ 9
      rw [List.nil_append]
      unfold textV
      rw [if_pos ⟨⟨hne, by omega⟩, h2⟩]
      refine ⟨?_, by omega⟩
      have : joinD L = s := by
        apply data_inj
        show (Lib.join ((L.map txt).map (·.data.toList)) [45]).toArray.toList = _
        rw [hd, Lib.join_cons, ← q2]
      rw [this]
  · rw [if_neg c] at h
    cases h
end Go.Proofs.YtcmlmjgoidpabaaGreatDoor.Pure

