/- Plain facts: a row of children of one label into which others are put. -/
import Derived.Test.YtofbcgehemclbaaLo
namespace Go.Proofs.Ytofbcgehemclbaa.Bm
open Lib
structure Rise (pp ss : List (List Bool)) : Prop where
  ok : ∀ s ∈ ss, lastOne s = true ∧ (wr (pp ++ [s])).length ≤ 1024
  up : ss.Pairwise fun s t => lexB s t = -1
def lowOf (ss : List (List Bool)) (k : Nat) : List Bool := if k = 0 then [] else ss.getD (k - 1) []
def highOf (ss : List (List Bool)) (k : Nat) : List Bool := ss.getD k []
theorem Rise.nil (pp : List (List Bool)) : Rise pp [] := ⟨fun s hs => by simp at hs, List.Pairwise.nil⟩
theorem lex_strict {a b c : List Bool} (h : lexB a b = -1) (k : lexB b c = -1) : lexB a c = -1 := by
  rcases lex_vals a c with h1 | h1 | h1
  · exact h1
  · rw [lex_zero] at h1
    subst h1
    rw [lex_anti, h] at k
    cases k
  · have := lex_trans a b c (by omega) (by omega)
    omega
theorem getD_mem' {ss : List (List Bool)} {k : Nat} (h : k < ss.length) : ss.getD k [] ∈ ss := by
  rw [List.getD_eq_getElem?_getD, List.getElem?_eq_getElem h]; exact List.getElem_mem _
theorem Rise.asked {pp ss : List (List Bool)} (h : Rise pp ss) {k : Nat} (hk : k ≤ ss.length) : Asked (lowOf ss k) (highOf ss k) := by
  unfold Asked lowOf highOf
  by_cases hkl : k < ss.length
  · right
    have hm := h.ok _ (getD_mem' hkl)
    refine ⟨?_, hm.1⟩
    by_cases h0 : k = 0
    · rw [if_pos h0]; exact lex_nil_left (lastOne_ne hm.1)
    · rw [if_neg h0]
      have := List.pairwise_iff_getElem.1 h.up (k - 1) k (by omega) hkl (by omega)
      rw [List.getD_eq_getElem?_getD, List.getD_eq_getElem?_getD, List.getElem?_eq_getElem (by omega), List.getElem?_eq_getElem hkl]
      exact this
  · left
    rw [List.getD_eq_getElem?_getD, List.getElem?_eq_none (by omega)]; rfl
theorem Rise.ins {pp ss : List (List Bool)} (h : Rise pp ss) {k : Nat} (hk : k ≤ ss.length) {x : List Bool} (hx : x = short (lowOf ss k) (highOf ss k)) (hl : (wr (pp ++ [x])).length ≤ 1024) : Rise pp (ss.take k ++ [x] ++ ss.drop k) := by
  have ha := h.asked hk
  have hlow := short_low ha
  rw [← hx] at hlow
  have hlast : lastOne x = true := by rw [hx]; exact short_last ha
  have hbef : ∀ s ∈ ss.take k, lexB s x = -1 := by
    intro s hs
    obtain ⟨i, hi, rfl⟩ := List.mem_iff_getElem.1 hs
    rw [List.length_take] at hi
    rw [List.getElem_take]
    have h0 : ¬ k = 0 := by omega
    unfold lowOf at hlow
    rw [if_neg h0, List.getD_eq_getElem?_getD, List.getElem?_eq_getElem (by omega)] at hlow
    simp only [Option.getD_some] at hlow
    by_cases e : i = k - 1
    · subst e; exact hlow
    · exact lex_strict (List.pairwise_iff_getElem.1 h.up i (k - 1) (by omega) (by omega) (by omega)) hlow
  have haft : ∀ s ∈ ss.drop k, lexB x s = -1 := by
    intro s hs
    obtain ⟨i, hi, rfl⟩ := List.mem_iff_getElem.1 hs
    rw [List.length_drop] at hi
    rw [List.getElem_drop]
    have hkl : k < ss.length := by omega
    have h0 : highOf ss k ≠ [] := by unfold highOf; exact lastOne_ne (h.ok _ (getD_mem' hkl)).1
    have hhi := short_high ha h0
    rw [← hx] at hhi
    unfold highOf at hhi
    rw [List.getD_eq_getElem?_getD, List.getElem?_eq_getElem hkl] at hhi
    simp only [Option.getD_some] at hhi
    by_cases e : i = 0
    · subst e; simpa using hhi
    · exact lex_strict hhi (List.pairwise_iff_getElem.1 h.up k (k + i) hkl (by omega) (by omega))
  refine ⟨fun s hs => ?_, ?_⟩
  · simp only [List.append_assoc, List.mem_append, List.mem_singleton] at hs
    rcases hs with hs | rfl | hs
    · exact h.ok s (List.mem_of_mem_take hs)
    · exact ⟨hlast, hl⟩
    · exact h.ok s (List.mem_of_mem_drop hs)
  · rw [List.append_assoc, List.pairwise_append, List.pairwise_append]
    refine ⟨h.up.sublist (List.take_sublist _ _), ⟨List.pairwise_singleton _ _, h.up.sublist (List.drop_sublist _ _), ?_⟩, ?_⟩
    · intro a ha b hb
      simp at ha; subst ha
      exact haft b hb
    · intro a ha b hb
      rcases List.mem_append.1 hb with hb | hb
      · simp at hb; subst hb; exact hbef a ha
      · have : ss = ss.take k ++ ss.drop k := (List.take_append_drop k ss).symm
        have h2 := h.up
        rw [this, List.pairwise_append] at h2
        exact h2.2.2 a ha b hb
theorem wr_one (pp : List (List Bool)) (s : List Bool) : (wr (pp ++ [s])).length = (wr pp).length + 2 * s.length + 1 := by
  rw [wr_snoc, List.length_append, enc_length]; omega
/-- how many bytes the neighbours have, 0 for none -/
def lowLen (pp ss : List (List Bool)) (k : Nat) : Nat := if k = 0 then 0 else nb (wr (pp ++ [lowOf ss k])).length
def highLen (pp ss : List (List Bool)) (k : Nat) : Nat := if k < ss.length then nb (wr (pp ++ [highOf ss k])).length else 0
theorem Rise.long {pp ss : List (List Bool)} (h : Rise pp ss) {k : Nat} (hk : k ≤ ss.length) {x : List Bool} (hx : x = short (lowOf ss k) (highOf ss k)) (hl : 1024 < (wr (pp ++ [x])).length) :
    120 < nb (wr pp).length ∨ 120 < lowLen pp ss k ∨ 120 < highLen pp ss k := by
  have ha := short_len (h.asked hk)
  rw [← hx] at ha
  rw [wr_one] at hl
  unfold lowLen highLen
  rw [wr_one, wr_one]
  by_cases h0 : k = 0
  · have e1 : lowOf ss k = [] := by unfold lowOf; rw [if_pos h0]
    rw [if_pos h0]
    rw [e1] at ha
    by_cases h1 : k < ss.length
    · rw [if_pos h1]
      simp only [List.length_nil, Nat.zero_max] at ha
      unfold nb; omega
    · have e2 : highOf ss k = [] := by unfold highOf; rw [List.getD_eq_getElem?_getD, List.getElem?_eq_none (by omega)]; rfl
      rw [e2] at ha
      simp at ha
      unfold nb; omega
  · rw [if_neg h0]
    by_cases h1 : k < ss.length
    · rw [if_pos h1]
      unfold nb; omega
    · have e2 : highOf ss k = [] := by unfold highOf; rw [List.getD_eq_getElem?_getD, List.getElem?_eq_none (by omega)]; rfl
      rw [e2] at ha
      simp at ha
      unfold nb; omega
theorem Rise.most {pp ss : List (List Bool)} (h : Rise pp ss) {k : Nat} (hk : k ≤ ss.length) {x : List Bool} (hx : x = short (lowOf ss k) (highOf ss k)) :
    nb (wr (pp ++ [x])).length ≤ max (max (lowLen pp ss k) (highLen pp ss k)) (nb (wr pp).length + 1) + 1 := by
  have ha := short_len (h.asked hk)
  rw [← hx] at ha
  unfold lowLen highLen
  rw [wr_one, wr_one, wr_one]
  by_cases h0 : k = 0
  · have e1 : lowOf ss k = [] := by unfold lowOf; rw [if_pos h0]
    rw [if_pos h0]
    rw [e1] at ha
    by_cases h1 : k < ss.length
    · rw [if_pos h1]
      simp only [List.length_nil, Nat.zero_max] at ha
      unfold nb; omega
    · have e2 : highOf ss k = [] := by unfold highOf; rw [List.getD_eq_getElem?_getD, List.getElem?_eq_none (by omega)]; rfl
      rw [e2] at ha
      simp at ha
      unfold nb; omega
  · rw [if_neg h0]
    by_cases h1 : k < ss.length
    · rw [if_pos h1]
      unfold nb; omega
    · have e2 : highOf ss k = [] := by unfold highOf; rw [List.getD_eq_getElem?_getD, List.getElem?_eq_none (by omega)]; rfl
      rw [e2] at ha
      simp at ha
      unfold nb; omega
end Go.Proofs.Ytofbcgehemclbaa.Bm
