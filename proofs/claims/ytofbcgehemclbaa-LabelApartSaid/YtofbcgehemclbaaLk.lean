/- Plain facts: the steps of a label's children. -/
import Derived.Test.YtofbcgehemclbaaLm
namespace Go.Proofs.Ytofbcgehemclbaa.Bm
def bitN (i b : Nat) : Bool := i / 2 ^ b % 2 == 1
/-- i in k bits -/
def full (k i : Nat) : List Bool := (List.range k).map fun j => bitN i (k - 1 - j)
/-- without the noughts at its end -/
def kid (k i : Nat) : List Bool := ((full k i).reverse.dropWhile (!·)).reverse
theorem full_length (k i : Nat) : (full k i).length = k := by simp [full]
theorem full_get (k i j : Nat) (h : j < k) : (full k i).getD j false = bitN i (k - 1 - j) := by
  rw [List.getD_eq_getElem?_getD]
  simp [full, List.getElem?_map, List.getElem?_range h]
theorem low_zero (i : Nat) : ∀ e, (∀ j, j < e → bitN i j = false) → i % 2 ^ e = 0
  | 0, _ => by simp [Nat.mod_one]
  | e + 1, h => by
    have ih := low_zero i e fun j hj => h j (by omega)
    have hb := h e (by omega)
    unfold bitN at hb
    simp only [beq_eq_false_iff_ne] at hb
    have h2 : i / 2 ^ e % 2 = 0 := by omega
    have h3 := Nat.div_add_mod i (2 ^ e)
    rw [ih] at h3
    have h4 := Nat.div_add_mod (i / 2 ^ e) 2
    rw [h2] at h4
    rw [Nat.pow_succ]
    rw [← h3, ← h4, Nat.add_zero, Nat.add_zero, ← Nat.mul_assoc]
    exact Nat.mul_mod_right _ _
/-- the noughts at the end of a number that is not nought end -/
theorem end_lt (i e k : Nat) (h0 : 0 < i) (hk : i < 2 ^ k) (h : ∀ j, j < e → bitN i j = false) : e < k := by
  have h1 := low_zero i e h
  rcases Nat.lt_or_ge e k with h2 | h2
  · exact h2
  · exfalso
    have h3 : 2 ^ k ≤ 2 ^ e := Nat.pow_le_pow_right (by decide) h2
    rw [Nat.mod_eq_of_lt (by omega)] at h1
    omega
theorem kid_eq (k i e : Nat) (he : e < k) (h0 : ∀ j, j < e → bitN i j = false) (h1 : bitN i e = true) : kid k i = (full k i).take (k - e) := by
  have hs : full k i = (full k i).take (k - e) ++ nought e := by
    apply List.ext_getElem?
    intro j
    rw [List.getElem?_append, List.length_take, full_length]
    split
    · rename_i hj
      rw [List.getElem?_take, if_pos (by omega)]
    · rename_i hj
      by_cases hjk : j < k
      · have := full_get k i j hjk
        rw [List.getD_eq_getElem?_getD, List.getElem?_eq_getElem (by rw [full_length]; exact hjk), Option.getD_some] at this
        rw [List.getElem?_eq_getElem (by rw [full_length]; exact hjk), this, h0 _ (by omega), nought, List.getElem?_replicate, if_pos (by omega)]
      · rw [List.getElem?_eq_none (by rw [full_length]; omega), nought, List.getElem?_replicate, if_neg (by omega)]
  have hl : ∃ m, (full k i).take (k - e) = m ++ [true] := by
    refine ⟨(full k i).take (k - e - 1), ?_⟩
    have hlt : k - e - 1 < (full k i).length := by rw [full_length]; omega
    have h2 := full_get k i (k - e - 1) (by omega)
    rw [show k - 1 - (k - e - 1) = e from by omega, h1, List.getD_eq_getElem?_getD, List.getElem?_eq_getElem hlt, Option.getD_some] at h2
    rw [show k - e = k - e - 1 + 1 from by omega, List.take_succ_eq_append_getElem hlt, h2]
    simp
  obtain ⟨m, hm⟩ := hl
  have hd : ∀ (n : Nat) (x : List Bool), ((nought n).reverse ++ ([true].reverse ++ x)).dropWhile (!·) = true :: x := by
    intro n x
    rw [nought, List.reverse_replicate]
    induction n with
    | zero => simp
    | succ n ih => simp [List.replicate_succ]
  have hr : (full k i).reverse = (nought e).reverse ++ ([true].reverse ++ m.reverse) := by
    rw [← List.reverse_append, ← List.reverse_append, ← hm, ← hs]
  unfold kid
  rw [hr, hd, hm]
  simp
theorem kid_last (k i : Nat) (h0 : 0 < i) (hk : i < 2 ^ k) : lastOne (kid k i) = true ∧ (kid k i).length ≤ k := by
  obtain ⟨e, he1, he2⟩ : ∃ e, (∀ j, j < e → bitN i j = false) ∧ bitN i e = true := by
    have H : ∀ n, (∃ e, (∀ j, j < e → bitN i j = false) ∧ bitN i e = true) ∨ ∀ j, j < n → bitN i j = false := by
      intro n
      induction n with
      | zero => exact .inr fun j hj => absurd hj (by omega)
      | succ n ih =>
        rcases ih with h | h
        · exact .inl h
        · cases hb : bitN i n
          · right
            intro j hj
            by_cases e : j = n
            · subst e; exact hb
            · exact h j (by omega)
          · exact .inl ⟨n, h, hb⟩
    rcases H k with h | h
    · exact h
    · have := end_lt i k k h0 hk h
      omega
  have hlt := end_lt i e k h0 hk he1
  rw [kid_eq k i e hlt he1 he2]
  refine ⟨?_, by rw [List.length_take, full_length]; omega⟩
  rw [lastOne_getD _ (k - e - 1) (by rw [List.length_take, full_length]; omega), List.getD_eq_getElem?_getD, List.getElem?_take, if_pos (by omega), ← List.getD_eq_getElem?_getD, full_get k i _ (by omega)]
  rw [show k - 1 - (k - e - 1) = e from by omega]
  exact he2
/-- the least k for which 2^k is above n -/
theorem least_pow (n : Nat) : ∃ k, n < 2 ^ k ∧ ∀ j, j < k → 2 ^ j ≤ n := by
  have H : ∀ m, (∃ k, n < 2 ^ k ∧ ∀ j, j < k → 2 ^ j ≤ n) ∨ ∀ j, j < m → 2 ^ j ≤ n := by
    intro m
    induction m with
    | zero => exact .inr fun j hj => absurd hj (by omega)
    | succ m ih =>
      rcases ih with h | h
      · exact .inl h
      · by_cases hm : 2 ^ m ≤ n
        · right
          intro j hj
          by_cases e : j = m
          · subst e; exact hm
          · exact h j (by omega)
        · exact .inl ⟨m, by omega, h⟩
  rcases H (n + 1) with h | h
  · exact h
  · have h1 := h n (by omega)
    have h2 : n < 2 ^ n := Nat.lt_two_pow_self
    omega
theorem least_uniq {n k k' : Nat} (h1 : n < 2 ^ k) (h2 : ∀ j, j < k → 2 ^ j ≤ n) (h3 : n < 2 ^ k') (h4 : ∀ j, j < k' → 2 ^ j ≤ n) : k = k' := by
  rcases Nat.lt_trichotomy k k' with h | h | h
  · have := h4 k h; omega
  · exact h
  · have := h2 k' h; omega
/-- the bits of the children of ss -/
def kidRows (ss : List (List Bool)) (k n : Nat) : List (List Bool) := (List.range n).map fun j => wr (ss ++ [kid k (j + 1)])
theorem kidRows_succ (ss : List (List Bool)) (k n : Nat) : kidRows ss k (n + 1) = kidRows ss k n ++ [wr (ss ++ [kid k (n + 1)])] := by simp [kidRows, List.range_succ]
end Go.Proofs.Ytofbcgehemclbaa.Bm
