/- Plain facts on how rows stand, and their packed bytes. -/
import Derived.Test.YtofbcgehemclbaaBm
import Derived.Test.YtofbcgehemclbaaBw7
namespace Go.Proofs.Ytofbcgehemclbaa.Bm
open Go.Lib (compareBytes)
theorem byteN_less (l m : List Bool) (k j : Nat) (hj : j < 8) (he : ∀ i, i < j → l.getD (8 * k + i) false = m.getD (8 * k + i) false)
    (h0 : l.getD (8 * k + j) false = false) (h1 : m.getD (8 * k + j) false = true) : byteN l k < byteN m k := by
  have b0 := bv_le (l.getD (8 * k) false)
  have b1 := bv_le (l.getD (8 * k + 1) false)
  have b2 := bv_le (l.getD (8 * k + 2) false)
  have b3 := bv_le (l.getD (8 * k + 3) false)
  have b4 := bv_le (l.getD (8 * k + 4) false)
  have b5 := bv_le (l.getD (8 * k + 5) false)
  have b6 := bv_le (l.getD (8 * k + 6) false)
  have b7 := bv_le (l.getD (8 * k + 7) false)
  have e0 := fun h => he 0 h
  have e1 := fun h => he 1 h
  have e2 := fun h => he 2 h
  have e3 := fun h => he 3 h
  have e4 := fun h => he 4 h
  have e5 := fun h => he 5 h
  have e6 := fun h => he 6 h
  simp only [Nat.add_zero] at e0
  have ht : bv true = 1 := rfl
  have hf : bv false = 0 := rfl
  unfold byteN
  match j, hj with
  | 0, _ => simp only [Nat.add_zero] at h0 h1; rw [h0, h1, ht, hf]; omega
  | 1, _ => rw [e0 (by omega), h0, h1, ht, hf]; omega
  | 2, _ => rw [e0 (by omega), e1 (by omega), h0, h1, ht, hf]; omega
  | 3, _ => rw [e0 (by omega), e1 (by omega), e2 (by omega), h0, h1, ht, hf]; omega
  | 4, _ => rw [e0 (by omega), e1 (by omega), e2 (by omega), e3 (by omega), h0, h1, ht, hf]; omega
  | 5, _ => rw [e0 (by omega), e1 (by omega), e2 (by omega), e3 (by omega), e4 (by omega), h0, h1, ht, hf]; omega
  | 6, _ => rw [e0 (by omega), e1 (by omega), e2 (by omega), e3 (by omega), e4 (by omega), e5 (by omega), h0, h1, ht, hf]; omega
  | 7, _ => rw [e0 (by omega), e1 (by omega), e2 (by omega), e3 (by omega), e4 (by omega), e5 (by omega), e6 (by omega), h0, h1, ht, hf]; omega
theorem cmp_less : ∀ (xs ys : List UInt8) (k : Nat) (h1 : k < xs.length) (h2 : k < ys.length), (∀ i, i < k → xs[i]? = ys[i]?) → xs[k] < ys[k] → compareBytes xs ys = -1
  | x :: xs, y :: ys, 0, _, _, _, hlt => by
    simp only [List.getElem_cons_zero] at hlt
    simp [compareBytes, hlt]
  | x :: xs, y :: ys, k + 1, h1, h2, he, hlt => by
    have hxy : x = y := by simpa using he 0 (by omega)
    subst hxy
    have := cmp_less xs ys k (by simpa using h1) (by simpa using h2) (fun i hi => by simpa using he (i + 1) (by omega)) (by simpa using hlt)
    simp only [compareBytes, this]
    have hn : ¬ x < x := by rw [UInt8.lt_iff_toNat_lt]; omega
    simp [hn]
theorem cmp_more (xs ys : List UInt8) (k : Nat) (h1 : k < xs.length) (h2 : k < ys.length) (he : ∀ i, i < k → xs[i]? = ys[i]?) (hlt : ys[k] < xs[k]) : compareBytes xs ys = 1 := by
  revert ys k
  induction xs with
  | nil => intro ys k h1; simp at h1
  | cons x xs ih =>
    intro ys k h1 h2 he hlt
    match ys, k, h2 with
    | y :: ys, 0, h2 =>
      simp only [List.getElem_cons_zero] at hlt
      have hn : ¬ x < y := by rw [UInt8.lt_iff_toNat_lt] at hlt ⊢; omega
      simp [compareBytes, hlt, hn]
    | y :: ys, k + 1, h2 =>
      have hxy : x = y := by simpa using he 0 (by omega)
      subst hxy
      have := ih ys k (by simpa using h1) (by simpa using h2) (fun i hi => by simpa using he (i + 1) (by omega)) (by simpa using hlt)
      simp only [compareBytes, this]
      have hn : ¬ x < x := by rw [UInt8.lt_iff_toNat_lt]; omega
      simp [hn]
theorem cmp_prefix : ∀ (xs ys : List UInt8), (∀ i, i < xs.length → xs[i]? = ys[i]?) → xs.length < ys.length → compareBytes xs ys = -1
  | [], [], _, h => by simp at h
  | [], _ :: _, _, _ => rfl
  | x :: xs, [], _, h => by simp at h
  | x :: xs, y :: ys, he, h => by
    have hxy : x = y := by simpa using he 0 (by simp)
    subst hxy
    have := cmp_prefix xs ys (fun i hi => by simpa using he (i + 1) (by simpa using hi)) (by simpa using h)
    simp only [compareBytes, this]
    have hn : ¬ x < x := by rw [UInt8.lt_iff_toNat_lt]; omega
    simp [hn]
theorem cmp_prefix2 : ∀ (xs ys : List UInt8), (∀ i, i < xs.length → xs[i]? = ys[i]?) → xs.length < ys.length → compareBytes ys xs = 1
  | [], [], _, h => by simp at h
  | [], _ :: _, _, _ => rfl
  | x :: xs, [], _, h => by simp at h
  | x :: xs, y :: ys, he, h => by
    have hxy : x = y := by simpa using he 0 (by simp)
    subst hxy
    have := cmp_prefix2 xs ys (fun i hi => by simpa using he (i + 1) (by simpa using hi)) (by simpa using h)
    simp only [compareBytes, this]
    have hn : ¬ x < x := by rw [UInt8.lt_iff_toNat_lt]; omega
    simp [hn]
theorem cmp_refl : ∀ (xs : List UInt8), compareBytes xs xs = 0
  | [] => rfl
  | x :: xs => by
    have hn : ¬ x < x := by rw [UInt8.lt_iff_toNat_lt]; omega
    simp [compareBytes, hn, cmp_refl xs]
/-- the first place at which two rows differ, if it lies in both -/
def Diff (l m : List Bool) (i : Nat) : Prop := i < l.length ∧ i < m.length ∧ (∀ j, j < i → l.getD j false = m.getD j false) ∧ l.getD i false = false ∧ m.getD i false = true
theorem lex_diff : ∀ (l m : List Bool) (i : Nat), Diff l m i → lexB l m = -1 ∧ lexB m l = 1
  | [], _, _, h => by have := h.1; simp at this
  | _ :: _, [], _, h => by have := h.2.1; simp at this
  | a :: ar, b :: bs, 0, h => by
    obtain ⟨_, _, _, h0, h1⟩ := h
    simp at h0 h1
    subst h0 h1
    simp [lexB]
  | a :: ar, b :: bs, i + 1, h => by
    obtain ⟨h1, h2, h3, h4, h5⟩ := h
    have hab : a = b := by simpa using h3 0 (by omega)
    subst hab
    have := lex_diff ar bs i ⟨by simpa using h1, by simpa using h2, fun j hj => by simpa using h3 (j + 1) (by omega), by simpa using h4, by simpa using h5⟩
    simp [lexB, this]
theorem pk_diff (l m : List Bool) (i : Nat) (h : Diff l m i) : compareBytes (pkL l) (pkL m) = -1 ∧ compareBytes (pkL m) (pkL l) = 1 := by
  obtain ⟨h1, h2, h3, h4, h5⟩ := h
  have hl : i / 8 < (pkL l).length := by rw [length_pkL]; unfold nb; omega
  have hm : i / 8 < (pkL m).length := by rw [length_pkL]; unfold nb; omega
  have he : ∀ k, k < i / 8 → (pkL l)[k]? = (pkL m)[k]? := by
    intro k hk
    rw [pkL_get l k (by unfold nb; omega), pkL_get m k (by unfold nb; omega), byteN_ext l m k fun j hj => h3 _ (by omega)]
  have hlt : (pkL l)[i / 8] < (pkL m)[i / 8] := by
    rw [UInt8.lt_iff_toNat_lt]
    have e1 : (pkL l)[i / 8].toNat = byteN l (i / 8) := wk_get l (nb l.length) (i / 8) hl
    have e2 : (pkL m)[i / 8].toNat = byteN m (i / 8) := wk_get m (nb m.length) (i / 8) hm
    rw [e1, e2]
    refine byteN_less l m (i / 8) (i % 8) (by omega) (fun j hj => h3 _ (by omega)) ?_ ?_
    · rw [show 8 * (i / 8) + i % 8 = i from by omega]; exact h4
    · rw [show 8 * (i / 8) + i % 8 = i from by omega]; exact h5
  exact ⟨cmp_less _ _ _ hl hm he hlt, cmp_more _ _ _ hm hl (fun k hk => (he k hk).symm) hlt⟩
theorem same_or_diff : ∀ (l m : List Bool), l.length = m.length → l = m ∨ (∃ i, Diff l m i) ∨ ∃ i, Diff m l i
  | [], [], _ => .inl rfl
  | a :: ar, b :: bs, h => by
    have step : ∀ (x : Bool) (p q : List Bool) (i : Nat), Diff p q i → Diff (x :: p) (x :: q) (i + 1) := by
      intro x p q i ⟨h1, h2, h3, h4, h5⟩
      refine ⟨by simpa using h1, by simpa using h2, fun j hj => ?_, by simpa using h4, by simpa using h5⟩
      match j with
      | 0 => simp
      | j + 1 => simpa using h3 j (by omega)
    by_cases hab : a = b
    · subst hab
      rcases same_or_diff ar bs (by simpa using h) with h | ⟨i, h⟩ | ⟨i, h⟩
      · exact .inl (by rw [h])
      · exact .inr (.inl ⟨i + 1, step a _ _ i h⟩)
      · exact .inr (.inr ⟨i + 1, step a _ _ i h⟩)
    · cases ha : a
      · have hb : b = true := by cases b <;> simp_all
        subst hb
        exact .inr (.inl ⟨0, by simp, by simp, fun j hj => absurd hj (by omega), by simp, by simp⟩)
      · have hb : b = false := by cases b <;> simp_all
        subst hb
        exact .inr (.inr ⟨0, by simp, by simp, fun j hj => absurd hj (by omega), by simp, by simp⟩)
theorem lex_refl : ∀ l, lexB l l = 0
  | [] => rfl
  | a :: l => by simp [lexB, lex_refl l]
theorem pk_lex (l m : List Bool) (h : l.length = m.length) : compareBytes (pkL l) (pkL m) = lexB l m := by
  rcases same_or_diff l m h with h | ⟨i, h⟩ | ⟨i, h⟩
  · subst h; rw [cmp_refl, lex_refl]
  · rw [(pk_diff l m i h).1, (lex_diff l m i h).1]
  · rw [(pk_diff m l i h).2, (lex_diff m l i h).2]
theorem lex_take : ∀ (l m : List Bool), lexB l m = orInt (lexB (l.take (min l.length m.length)) (m.take (min l.length m.length))) (cmpInt l.length m.length)
  | [], [] => rfl
  | [], b :: bs => by
    have h : cmpInt (([] : List Bool).length : Int) ((b :: bs).length : Int) = -1 := by
      unfold cmpInt; rw [if_pos]; simp only [List.length_nil, List.length_cons]; omega
    rw [h]; rfl
  | a :: ar, [] => by
    have h : cmpInt ((a :: ar).length : Int) (([] : List Bool).length : Int) = 1 := by
      unfold cmpInt; rw [if_neg, if_pos] <;> simp only [List.length_nil, List.length_cons] <;> omega
    rw [h]; rfl
  | a :: ar, b :: bs => by
    have ih := lex_take ar bs
    simp only [List.length_cons, Nat.succ_min_succ, List.take_succ_cons]
    by_cases hab : a = b
    · subst hab
      simp only [lexB, if_true]
      rw [ih]
      congr 1
      unfold cmpInt
      have e1 : (((ar.length + 1 : Nat) : Int) < ((bs.length + 1 : Nat) : Int)) ↔ ((ar.length : Int) < bs.length) := by omega
      have e2 : (((bs.length + 1 : Nat) : Int) < ((ar.length + 1 : Nat) : Int)) ↔ ((bs.length : Int) < ar.length) := by omega
      simp only [e1, e2]
    · simp only [lexB, if_neg hab]
      cases a <;> simp [orInt]
theorem lex_anti : ∀ (l m : List Bool), lexB l m = - lexB m l
  | [], [] => rfl
  | [], _ :: _ => rfl
  | _ :: _, [] => rfl
  | a :: ar, b :: bs => by
    by_cases hab : a = b
    · subst hab; simp [lexB, lex_anti ar bs]
    · have hba : ¬ b = a := fun e => hab e.symm
      simp only [lexB, if_neg hab, if_neg hba]
      cases a <;> cases b <;> simp_all
theorem lex_zero : ∀ (l m : List Bool), lexB l m = 0 ↔ l = m
  | [], [] => by simp [lexB]
  | [], _ :: _ => by simp [lexB]
  | _ :: _, [] => by simp [lexB]
  | a :: ar, b :: bs => by
    by_cases hab : a = b
    · subst hab; simp [lexB, lex_zero ar bs]
    · simp only [lexB, if_neg hab]
      cases a <;> simp_all
theorem lex_vals : ∀ (l m : List Bool), lexB l m = -1 ∨ lexB l m = 0 ∨ lexB l m = 1
  | [], [] => by simp [lexB]
  | [], _ :: _ => by simp [lexB]
  | _ :: _, [] => by simp [lexB]
  | a :: ar, b :: bs => by
    by_cases hab : a = b
    · subst hab; simpa [lexB] using lex_vals ar bs
    · simp only [lexB, if_neg hab]; cases a <;> simp
theorem lex_trans : ∀ (l m n : List Bool), lexB l m ≤ 0 → lexB m n ≤ 0 → lexB l n ≤ 0
  | [], _, [], _, _ => by simp [lexB]
  | [], _, _ :: _, _, _ => by simp [lexB]
  | _ :: _, [], _, h, _ => by simp [lexB] at h
  | _ :: _, _ :: _, [], _, h => by simp [lexB] at h
  | a :: ar, b :: bs, c :: cs, h1, h2 => by
    have ih := lex_trans ar bs cs
    cases a <;> cases b <;> cases c <;> simp_all [lexB]
theorem lex_app : ∀ (l m : List Bool), lexB l (l ++ m) = if m = [] then 0 else -1
  | [], [] => rfl
  | [], _ :: _ => rfl
  | a :: l, m => by simpa [lexB] using lex_app l m
/-- packed, a row that goes on with a 1 stands behind -/
theorem pk_longer (l m : List Bool) : compareBytes (pkL l) (pkL (l ++ [true] ++ m)) = -1 := by
  have hg : ∀ j, j < l.length → l.getD j false = (l ++ [true] ++ m).getD j false := by
    intro j hj
    rw [List.append_assoc]
    simp [List.getD_eq_getElem?_getD, List.getElem?_append_left hj]
  have hone : (l ++ [true] ++ m).getD l.length false = true := by
    rw [List.append_assoc]
    simp [List.getD_eq_getElem?_getD, List.getElem?_append_right]
  have hlen : (l ++ [true] ++ m).length = l.length + 1 + m.length := by simp; omega
  have he : ∀ k, k < l.length / 8 → (pkL l)[k]? = (pkL (l ++ [true] ++ m))[k]? := by
    intro k hk
    rw [pkL_get l k (by unfold nb; omega), pkL_get _ k (by rw [hlen]; unfold nb; omega), byteN_ext l (l ++ [true] ++ m) k fun j hj => hg _ (by omega)]
  by_cases h8 : l.length % 8 = 0
  · refine cmp_prefix _ _ (fun i hi => he i (by rw [length_pkL] at hi; unfold nb at hi; omega)) ?_
    rw [length_pkL, length_pkL, hlen]; unfold nb; omega
  · have hl : l.length / 8 < (pkL l).length := by rw [length_pkL]; unfold nb; omega
    have hm : l.length / 8 < (pkL (l ++ [true] ++ m)).length := by rw [length_pkL, hlen]; unfold nb; omega
    refine cmp_less _ _ (l.length / 8) hl hm he ?_
    rw [UInt8.lt_iff_toNat_lt]
    have e1 : (pkL l)[l.length / 8].toNat = byteN l (l.length / 8) := wk_get l (nb l.length) (l.length / 8) hl
    have e2 : (pkL (l ++ [true] ++ m))[l.length / 8].toNat = byteN (l ++ [true] ++ m) (l.length / 8) := wk_get (l ++ [true] ++ m) (nb (l ++ [true] ++ m).length) (l.length / 8) hm
    rw [e1, e2]
    refine byteN_less l _ (l.length / 8) (l.length % 8) (by omega) (fun j hj => hg _ (by omega)) ?_ ?_
    · rw [show 8 * (l.length / 8) + l.length % 8 = l.length from by omega]; exact getD_ge _ _ (Nat.le_refl _)
    · rw [show 8 * (l.length / 8) + l.length % 8 = l.length from by omega]; exact hone
/-- two rows that differ in both stand ar their packed bytes do -/
theorem pk_stand (l m : List Bool) (h : l.take (min l.length m.length) ≠ m.take (min l.length m.length)) : lexB l m = compareBytes (pkL l) (pkL m) := by
  have hl : (l.take (min l.length m.length)).length = (m.take (min l.length m.length)).length := by simp
  have up : ∀ (p q : List Bool) (k : Nat) (i : Nat), Diff (p.take k) (q.take k) i → Diff p q i := by
    intro p q k i ⟨h1, h2, h3, h4, h5⟩
    simp only [List.length_take] at h1 h2
    have g : ∀ (r : List Bool) (j : Nat), j < k → (r.take k).getD j false = r.getD j false := by
      intro r j hj
      simp [List.getD_eq_getElem?_getD, List.getElem?_take, hj]
    exact ⟨by omega, by omega, fun j hj => by rw [← g p j (by omega), ← g q j (by omega)]; exact h3 j hj, by rw [← g p i (by omega)]; exact h4, by rw [← g q i (by omega)]; exact h5⟩
  rcases same_or_diff _ _ hl with e | ⟨i, hd⟩ | ⟨i, hd⟩
  · exact absurd e h
  · have := up _ _ _ i hd
    rw [(lex_diff l m i this).1, (pk_diff l m i this).1]
  · have := up _ _ _ i hd
    rw [(lex_diff m l i this).2, (pk_diff m l i this).2]
end Go.Proofs.Ytofbcgehemclbaa.Bm
