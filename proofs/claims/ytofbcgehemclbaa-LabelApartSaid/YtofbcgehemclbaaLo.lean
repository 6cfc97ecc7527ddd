/- Plain facts: how labels stand, as bytes. -/
import Derived.Test.YtofbcgehemclbaaBlx
import Derived.Test.YtofbcgehemclbaaLs
import Derived.Test.YtofbcgehemclbaaLk
namespace Go.Proofs.Ytofbcgehemclbaa.Bm
open Lib
theorem cmp_anti : ∀ (xs ys : List UInt8), compareBytes xs ys = - compareBytes ys xs
  | [], [] => rfl
  | [], _ :: _ => rfl
  | _ :: _, [] => rfl
  | x :: xs, y :: ys => by
    have ih := cmp_anti xs ys
    simp only [compareBytes]
    by_cases h1 : x < y
    · have h2 : ¬ y < x := by rw [UInt8.lt_iff_toNat_lt] at *; omega
      simp [h1, h2]
    · by_cases h2 : y < x
      · simp [h1, h2]
      · simp [h1, h2, ih]
theorem cmp_trans : ∀ (xs ys zs : List UInt8), compareBytes xs ys ≤ 0 → compareBytes ys zs ≤ 0 → compareBytes xs zs ≤ 0
  | [], _, [], _, _ => by simp [compareBytes]
  | [], _, _ :: _, _, _ => by simp [compareBytes]
  | _ :: _, [], _, h, _ => by simp [compareBytes] at h
  | _ :: _, _ :: _, [], _, h => by simp [compareBytes] at h
  | x :: xs, y :: ys, z :: zs, h1, h2 => by
    have ih := cmp_trans xs ys zs
    simp only [compareBytes] at *
    by_cases a1 : x < y
    · by_cases b1 : y < z
      · have : x < z := by rw [UInt8.lt_iff_toNat_lt] at *; omega
        simp [this]
      · by_cases b2 : z < y
        · simp [b1, b2] at h2
        · have : x < z := by rw [UInt8.lt_iff_toNat_lt] at *; omega
          simp [this]
    · by_cases a2 : y < x
      · simp [a1, a2] at h1
      · have e : x = y := by
          have e : x.toNat = y.toNat := by rw [UInt8.lt_iff_toNat_lt] at *; omega
          exact UInt8.toNat_inj.1 e
        subst e
        simp only [a1, if_false] at h1
        by_cases b1 : x < z
        · simp [b1]
        · by_cases b2 : z < x
          · simp [b1, b2] at h2
          · simp only [b1, b2, if_false] at h2 ⊢
            exact ih h1 h2
/-- two rows part: the first has a nought there -/
def Dif (l m : List Bool) : Prop := ∃ p x y, l = p ++ false :: x ∧ m = p ++ true :: y
theorem Dif.diff {l m : List Bool} (h : Dif l m) : ∃ i, Diff l m i := by
  obtain ⟨p, x, y, rfl, rfl⟩ := h
  refine ⟨p.length, by simp, by simp, fun j hj => ?_, ?_, ?_⟩
  · simp [List.getD_eq_getElem?_getD, List.getElem?_append_left hj]
  · simp [List.getD_eq_getElem?_getD, List.getElem?_append_right]
  · simp [List.getD_eq_getElem?_getD, List.getElem?_append_right]
theorem Dif.cmp {l m : List Bool} (h : Dif l m) : compareBytes (pkL l) (pkL m) = -1 := by
  obtain ⟨i, h⟩ := h.diff
  exact (pk_diff l m i h).1
theorem Dif.pre {l m : List Bool} (h : Dif l m) (q : List Bool) : Dif (q ++ l) (q ++ m) := by
  obtain ⟨p, x, y, rfl, rfl⟩ := h
  exact ⟨q ++ p, x, y, by simp, by simp⟩
theorem lex_split : ∀ (s t : List Bool), lexB s t = -1 → (∃ b v, t = s ++ b :: v) ∨ Dif s t
  | [], [], h => by simp [lexB] at h
  | [], b :: t, _ => .inl ⟨b, t, rfl⟩
  | _ :: _, [], h => by simp [lexB] at h
  | a :: s, b :: t, h => by
    by_cases hab : a = b
    · subst hab
      simp only [lexB, if_true] at h
      rcases lex_split s t h with ⟨c, v, e⟩ | h
      · exact .inl ⟨c, v, by rw [e]; rfl⟩
      · exact .inr (h.pre [a])
    · simp only [lexB, if_neg hab] at h
      have ha : a = false := by cases a <;> simp_all
      have hb : b = true := by cases b <;> simp_all
      subst ha hb
      exact .inr ⟨[], s, t, rfl, rfl⟩
theorem pairs_dif {s t : List Bool} (h : Dif s t) (u v : List Bool) : Dif (pairs s ++ u) (pairs t ++ v) := by
  obtain ⟨p, x, y, rfl, rfl⟩ := h
  refine ⟨pairs p ++ [true], pairs x ++ u, pairs y ++ v, ?_, ?_⟩ <;> simp [pairs]
theorem lex_dif (s t u v : List Bool) (h : lexB s t = -1) : Dif (enc s ++ u) (enc t ++ v) := by
  rcases lex_split s t h with ⟨b, w, rfl⟩ | h
  · refine ⟨pairs s, u, b :: pairs w ++ [false] ++ v, by simp [enc], ?_⟩
    simp [enc, pairs]
  · have := pairs_dif h ([false] ++ u) ([false] ++ v)
    simpa [enc] using this
theorem wr_dif (p : List (List Bool)) (s t : List Bool) (u v : List (List Bool)) (h : lexB s t = -1) : Dif (wr (p ++ s :: u)) (wr (p ++ t :: v)) := by
  rw [wr_app, wr_app, wr_cons, wr_cons]
  exact (lex_dif s t _ _ h).pre _
/-- one label is above another one; two part -/
def Pf (ss tt : List (List Bool)) : Prop := ∃ x v, tt = ss ++ x :: v ∧ x ≠ []
def Dv (ss tt : List (List Bool)) : Prop := ∃ p s u t v, ss = p ++ s :: u ∧ tt = p ++ t :: v ∧ lexB s t = -1
theorem Pf.cmp {ss tt : List (List Bool)} (h : Pf ss tt) : compareBytes (pkL (wr ss)) (pkL (wr tt)) = -1 := by
  obtain ⟨x, v, rfl, hx⟩ := h
  obtain ⟨r, hr⟩ := enc_true hx
  rw [wr_app, wr_cons, hr]
  have := pk_longer (wr ss) (r ++ wr v)
  simpa using this
theorem Dv.cmp {ss tt : List (List Bool)} (h : Dv ss tt) : compareBytes (pkL (wr ss)) (pkL (wr tt)) = -1 := by
  obtain ⟨p, s, u, t, v, rfl, rfl, h⟩ := h
  exact (wr_dif p s t u v h).cmp
theorem wr_end {ss : List (List Bool)} (h : ss ≠ []) : ∃ r, wr ss = r ++ [false] := by
  obtain ⟨a, s, rfl⟩ : ∃ a s, ss = a ++ [s] := ⟨ss.dropLast, ss.getLast h, (List.dropLast_concat_getLast h).symm⟩
  exact ⟨wr a ++ pairs s, by simp [wr_snoc, enc]⟩
/-- the end of all that is below -/
def endB (ss : List (List Bool)) : List Bool := (wr ss).dropLast ++ [true]
theorem endB_of {ss : List (List Bool)} {r : List Bool} (h : wr ss = r ++ [false]) : endB ss = r ++ [true] := by
  unfold endB; rw [h]; simp
theorem Pf.fin {ss tt : List (List Bool)} (h : Pf ss tt) (h0 : ss ≠ []) : compareBytes (pkL (wr tt)) (pkL (endB ss)) = -1 := by
  obtain ⟨x, v, rfl, hx⟩ := h
  obtain ⟨r, hr⟩ := wr_end h0
  rw [endB_of hr, wr_app, hr]
  exact Dif.cmp ⟨r, wr (x :: v), [], by simp, rfl⟩
theorem pk_pre : ∀ (m l : List Bool), compareBytes (pkL l) (pkL (l ++ m)) ≤ 0
  | [], l => by rw [List.append_nil, cmp_refl]; decide
  | b :: m, l => by
    have h1 : compareBytes (pkL l) (pkL (l ++ [b])) ≤ 0 := by
      cases b
      · have h2 : pkL (l ++ [false]) = wk l (nb (l.length + 1)) := by
          rw [pkL, wk_snoc_false, List.length_append]; rfl
        by_cases h8 : nb (l.length + 1) = nb l.length
        · rw [h2, h8]; show compareBytes (pkL l) (pkL l) ≤ 0; rw [cmp_refl]; decide
        · have h9 : nb (l.length + 1) = nb l.length + 1 := by unfold nb at *; omega
          rw [h2, h9, ← wk_zero]
          have := cmp_prefix (wk l (nb l.length)) (wk l (nb l.length) ++ [0]) (fun i hi => by rw [List.getElem?_append_left hi]) (by simp)
          rw [show pkL l = wk l (nb l.length) from rfl, this]; decide
      · have := pk_longer l []
        rw [List.append_nil] at this
        rw [this]; decide
    have h2 := pk_pre m (l ++ [b])
    rw [List.append_assoc] at h2
    exact cmp_trans _ _ _ h1 h2
theorem Dv.fin {ss tt : List (List Bool)} (h : Dv ss tt) : 0 ≤ compareBytes (pkL (wr tt)) (pkL (endB ss)) := by
  obtain ⟨p, s, u, t, v, rfl, rfl, h⟩ := h
  have key : compareBytes (pkL (endB (p ++ s :: u))) (pkL (wr (p ++ t :: v))) ≤ 0 := by
    by_cases hu : u = []
    · subst hu
      have e : endB (p ++ [s]) = wr p ++ pairs s ++ [true] := endB_of (by simp [wr_snoc, enc])
      rw [e]
      rcases lex_split s t h with ⟨b, w, rfl⟩ | h
      · have e2 : wr (p ++ (s ++ b :: w) :: v) = (wr p ++ pairs s ++ [true]) ++ (b :: pairs w ++ [false] ++ wr v) := by
          rw [wr_app, wr_cons]; simp [enc, pairs]
        rw [e2]
        exact pk_pre _ _
      · have h2 := ((pairs_dif h [true] ([false] ++ wr v)).pre (wr p)).cmp
        have e2 : wr (p ++ t :: v) = wr p ++ (pairs t ++ ([false] ++ wr v)) := by rw [wr_app, wr_cons]; simp [enc]
        rw [e2, List.append_assoc, h2]; decide
    · obtain ⟨r, hr⟩ := wr_end hu
      have e : endB (p ++ s :: u) = wr p ++ (enc s ++ (r ++ [true])) := by
        rw [endB_of (r := wr p ++ (enc s ++ r)) (by rw [wr_app, wr_cons, hr]; simp)]; simp
      have h2 := ((lex_dif s t (r ++ [true]) (wr v) h).pre (wr p)).cmp
      have e2 : wr (p ++ t :: v) = wr p ++ (enc t ++ wr v) := by rw [wr_app, wr_cons]
      rw [e, e2, h2]; decide
  rw [cmp_anti]; omega
theorem Pf.beg {ss tt : List (List Bool)} (h : Pf ss tt) : ss.length < tt.length ∧ tt.take ss.length = ss := by
  obtain ⟨x, v, rfl, _⟩ := h
  simp
theorem Dv.beg {ss tt : List (List Bool)} (h : Dv ss tt) : tt.take ss.length ≠ ss := by
  obtain ⟨p, s, u, t, v, rfl, rfl, h⟩ := h
  intro e
  have h2 := congrArg (fun l => l[p.length]?) e
  simp [List.getElem?_take, List.getElem?_append_right] at h2
  rw [h2, lex_refl] at h
  cases h
theorem Pf.trans {a b c : List (List Bool)} (h : Pf a b) (k : Pf b c) : Pf a c := by
  obtain ⟨x, v, rfl, hx⟩ := h
  obtain ⟨y, w, rfl, _⟩ := k
  exact ⟨x, v ++ y :: w, by simp, hx⟩
theorem Dv.below {a b c : List (List Bool)} (h : Dv a b) (k : Pf b c) : Dv a c := by
  obtain ⟨p, s, u, t, v, rfl, rfl, h⟩ := h
  obtain ⟨y, w, rfl, _⟩ := k
  exact ⟨p, s, u, t, v ++ y :: w, rfl, by simp, h⟩
theorem Dv.above {a b c : List (List Bool)} (h : Dv a b) (k : Pf a c) : Dv c b := by
  obtain ⟨p, s, u, t, v, rfl, rfl, h⟩ := h
  obtain ⟨y, w, rfl, _⟩ := k
  exact ⟨p, s, u ++ y :: w, t, v, by simp, rfl, h⟩
theorem Dv.kids (p : List (List Bool)) {s t : List Bool} (h : lexB s t = -1) : Dv (p ++ [s]) (p ++ [t]) := ⟨p, s, [], t, [], rfl, rfl, h⟩
/-- a bit that ends the noughts -/
theorem low_bit (k i : Nat) (h0 : 0 < i) (hk : i < 2 ^ k) : ∃ e, e < k ∧ (∀ j, j < e → bitN i j = false) ∧ bitN i e = true := by
  have H : ∀ n, (∃ e, (∀ j, j < e → bitN i j = false) ∧ bitN i e = true) ∨ ∀ j, j < n → bitN i j = false := by
    intro n
    induction n with
    | zero => exact .inr fun j hj => absurd hj (by omega)
    | succ n ih =>
      rcases ih with h | h
      · exact .inl h
      · cases hb : bitN i n
        · right
          intro j hj
          by_cases e : j = n
          · subst e; exact hb
          · exact h j (by omega)
        · exact .inl ⟨n, h, hb⟩
  rcases H k with ⟨e, h1, h2⟩ | h
  · exact ⟨e, end_lt i e k h0 hk h1, h1, h2⟩
  · have := end_lt i k k h0 hk h
    omega
end Go.Proofs.Ytofbcgehemclbaa.Bm
