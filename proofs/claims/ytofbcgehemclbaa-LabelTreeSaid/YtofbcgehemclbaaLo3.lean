/- Plain facts: labels of a tree, as they come. -/
import Derived.Test.YtofbcgehemclbaaLo
namespace Go.Proofs.Ytofbcgehemclbaa.Bm
open Lib
def Small (ss : List (List Bool)) : Prop := okS ss ∧ ss.length ≤ 12 ∧ ∀ s ∈ ss, s.length ≤ 3
theorem wr_small : ∀ (ss : List (List Bool)), (∀ s ∈ ss, s.length ≤ 3) → (wr ss).length ≤ 7 * ss.length
  | [], _ => by simp [wr]
  | s :: ss, h => by
    have ih := wr_small ss fun x hx => h x (by simp [hx])
    have := h s (by simp)
    rw [wr_cons, List.length_append, enc_length, List.length_cons]; omega
theorem Small.isL {ss : List (List Bool)} (h : Small ss) : IsL (pkL (wr ss)) ss := ⟨h.1, by have := wr_small ss h.2.2; have := h.2.1; omega, rfl⟩
def Rel (a b : List (List Bool)) : Prop := Pf a b ∨ Dv a b
theorem Rel.cmp {a b : List (List Bool)} (h : Rel a b) : compareBytes (pkL (wr a)) (pkL (wr b)) = -1 := h.elim Pf.cmp Dv.cmp
theorem Rel.ne {a b : List (List Bool)} (h : Rel a b) : b ≠ [] := by
  rcases h with ⟨x, v, rfl, _⟩ | ⟨p, s, u, t, v, _, rfl, _⟩ <;> simp
theorem Rel.below {a b c : List (List Bool)} (h : Rel a b) (k : Pf b c) : Rel a c := by
  rcases h with h | h
  · exact .inl (h.trans k)
  · exact .inr (h.below k)
structure Ord (rs os : List (List (List Bool))) : Prop where
  sm : ∀ ss ∈ rs ++ os, Small ss
  up : (rs ++ os.reverse).Pairwise Rel
  dv : os.reverse.Pairwise Dv
theorem Ord.start : Ord [] [[]] := ⟨fun ss h => by simp at h; subst h; exact ⟨okS_nil, by simp, by simp⟩, by simp, by simp⟩
theorem Ord.step {rs os kids : List (List (List Bool))} {l : List (List Bool)} (h : Ord rs (os ++ [l])) (hk : ∀ q ∈ kids, Small q ∧ Pf l q) (hd : kids.Pairwise Dv) : Ord (rs ++ [l]) (os ++ kids.reverse) := by
  have e1 : (os ++ [l]).reverse = l :: os.reverse := by simp
  have e2 : (os ++ kids.reverse).reverse = kids ++ os.reverse := by simp
  have hup := h.up
  have hdv := h.dv
  rw [e1] at hup hdv
  have hl := List.pairwise_cons.1 hdv
  have hu := List.pairwise_append.1 hup
  have hu2 := List.pairwise_cons.1 hu.2.1
  have hko : ∀ q ∈ kids, ∀ y ∈ os.reverse, Dv q y := fun q hq y hy => (hl.1 y hy).above (hk q hq).2
  have hdk : (kids ++ os.reverse).Pairwise Dv := List.pairwise_append.2 ⟨hd, hl.2, hko⟩
  refine ⟨fun ss hs => ?_, ?_, by rw [e2]; exact hdk⟩
  · simp only [List.append_assoc, List.mem_append, List.mem_singleton, List.mem_reverse] at hs
    rcases hs with hs | rfl | hs | hs
    · exact h.sm ss (by simp [hs])
    · exact h.sm ss (by simp)
    · exact h.sm ss (by simp [hs])
    · exact (hk ss hs).1
  · rw [e2, List.append_assoc]
    refine List.pairwise_append.2 ⟨hu.1, ?_, ?_⟩
    · refine List.pairwise_append.2 ⟨List.pairwise_singleton _ _, hdk.imp fun h => .inr h, ?_⟩
      intro a ha b hb
      simp at ha; subst ha
      rcases List.mem_append.1 hb with hb | hb
      · exact .inl (hk b hb).2
      · exact .inr (hl.1 b hb)
    · intro a ha b hb
      rcases List.mem_append.1 hb with hb | hb
      · simp at hb; subst hb; exact hu.2.2 a ha b (by simp)
      · rcases List.mem_append.1 hb with hb | hb
        · exact (hu.2.2 a ha l (by simp)).below (hk b hb).2
        · exact hu.2.2 a ha b (by simp only [List.mem_cons]; exact .inr hb)
theorem kid_up : ∀ k, k < 4 → ∀ j, j < 8 → ∀ i, i < j → j + 1 < 2 ^ k → lexB (kid k (i + 1)) (kid k (j + 1)) = -1 := by decide
def kidsOf (l : List (List Bool)) (k n : Nat) : List (List (List Bool)) := (List.range n).map fun j => l ++ [kid k (j + 1)]
theorem kidsOf_length (l : List (List Bool)) (k n : Nat) : (kidsOf l k n).length = n := by simp [kidsOf]
theorem kidsOf_rows (l : List (List Bool)) (k n : Nat) : (kidsOf l k n).map wr = kidRows l k n := by simp [kidsOf, kidRows]
theorem kidsOf_ok {l : List (List Bool)} {k n : Nat} (hl : Small l) (h12 : 0 < n → l.length < 12) (hk : n < 2 ^ k) (hk4 : k < 4) : ∀ q ∈ kidsOf l k n, Small q ∧ Pf l q := by
  intro q hq
  obtain ⟨j, hj, rfl⟩ := List.mem_map.1 hq
  rw [List.mem_range] at hj
  have h1 := kid_last k (j + 1) (by omega) (by omega)
  refine ⟨⟨okS_snoc hl.1 h1.1, ?_, fun s hs => ?_⟩, _, [], rfl, lastOne_ne h1.1⟩
  · have := h12 (by omega)
    rw [List.length_append]; simp; omega
  · rcases List.mem_append.1 hs with hs | hs
    · exact hl.2.2 s hs
    · simp at hs; subst hs; omega
theorem kidsOf_dv (l : List (List Bool)) {k n : Nat} (hn : n < 6) (hk : n < 2 ^ k) (hk4 : k < 4) : (kidsOf l k n).Pairwise Dv := by
  rw [List.pairwise_iff_getElem]
  intro i j hi hj hij
  rw [kidsOf_length] at hi hj
  simp only [kidsOf, List.getElem_map, List.getElem_range]
  exact Dv.kids l (kid_up k hk4 j (by omega) i hij (by omega))
/-- the k for so few -/
theorem few_pow (n : Nat) (hn : n < 6) : ∃ k, k < 4 ∧ n < 2 ^ k ∧ ∀ j, j < k → 2 ^ j ≤ n := by
  obtain ⟨k, h1, h2⟩ := least_pow n
  refine ⟨k, ?_, h1, h2⟩
  rcases Nat.lt_or_ge k 4 with h | h
  · exact h
  · have := h2 3 (by omega)
    omega
end Go.Proofs.Ytofbcgehemclbaa.Bm
