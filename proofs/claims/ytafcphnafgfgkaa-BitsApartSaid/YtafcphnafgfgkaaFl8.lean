/- Pieces that lie apart. -/
import Derived.Test.YtafcphnafgfgkaaFl6
namespace Go.Proofs.Ytafcphnafgfgkaa
open Go.RowKit Bm
/-- nil, or a fresh piece -/
def OkP (B : Nat) (W : World) (p : Pc) : Prop := p = (none, 0, 0) ∨ ∃ g full, p.1 = some g ∧ B ≤ g ∧ Rw W g full ∧ full.length = p.2.2 ∧ p.2.1 ≤ p.2.2 ∧ p.2.1 ≤ 1000
def Apart2 (p q : Pc) : Prop := ∀ g, p.1 = some g → q.1 ≠ some g
section
variable {B : Nat} {W W' : World} {p : Pc}
theorem OkP.keep (h : OkP B W p) (hb : Below W.heap.size W W') : OkP B W' p := h.imp id fun ⟨g, full, h1, h2, h3, h4⟩ => ⟨g, full, h1, h2, h3.keep hb, h4⟩
theorem OkP.alloc (h : OkP B W p) (o : Obj) : OkP B (W.alloc o) p := h.keep ((Below.refl _ _).alloc (Nat.le_refl _) _)
theorem OkP.cont (h : OkP B W p) : Cont W p [] := by
  rcases h with rfl | ⟨g, full, h1, h2, h3, h4, h5, h6⟩
  · exact .inl ⟨rfl, rfl, rfl, rfl⟩
  · exact .inr ⟨g, full, h1, h3, h4, h5, by simp, by simp⟩
theorem OkP.lt (h : OkP B W p) (g : Nat) (hg : p.1 = some g) : B ≤ g ∧ g < W.heap.size := by
  rcases h with rfl | ⟨g', full, h1, h2, h3, _⟩
  · cases hg
  · rw [h1] at hg; injection hg with hg; subst hg; exact ⟨h2, h3.lt⟩
theorem OkP.sm (h : OkP B W p) : p.2.1 ≤ 1000 ∧ p.2.1 ≤ p.2.2 := by
  rcases h with rfl | ⟨g, full, h1, h2, h3, h4, h5, h6⟩
  · exact ⟨by decide, by decide⟩
  · exact ⟨h6, h5⟩
theorem OkP.mono {B' : Nat} (h : OkP B W p) (hB : B' ≤ B) : OkP B' W p := h.imp id fun ⟨g, full, h1, h2, h3⟩ => ⟨g, full, h1, Nat.le_trans hB h2, h3⟩
theorem OkP.other {m size n : Nat} {v : Value} {xs : List Value} (h : OkP B W p) (hg : W.grownBy W' v.ownBlock) (ho : W.ownsRow m 24 size v n xs) : OkP B W' p := by
  refine h.imp id fun ⟨g, full, h1, h2, h3, h4⟩ => ⟨g, full, h1, h2, h3.other hg ?_, h4⟩
  intro e
  obtain ⟨fz, hh, _⟩ := h3
  rcases ho.2 with ⟨e1, _⟩ | ⟨g', cap', cur, e1, _, hh', _⟩
  · rw [e1] at e; cases e
  · rw [e1] at e
    injection e with e
    dsimp only at e
    subst e
    rw [hh] at hh'
    simp at hh'
theorem okp_nil : OkP B W (none, 0, 0) := .inl rfl
theorem OkP.apart {B' : Nat} {q : Pc} {W2 : World} (h : OkP B W p) (k : OkP B' W2 q) (hB : W.heap.size ≤ B') : Apart2 p q := fun g h1 h2 => by
  have := (h.lt g h1).2
  have := (k.lt g h2).1
  omega
end
theorem Apart2.symm {p q : Pc} (h : Apart2 p q) : Apart2 q p := fun g h1 h2 => h g h2 h1
theorem dist_of {ps : List Pc} (h : ps.Pairwise Apart2) : Dist ps := by
  intro j k p q g hp hq hjk h1 h2
  obtain ⟨hj, rfl⟩ := List.getElem?_eq_some_iff.1 hp
  obtain ⟨hk, rfl⟩ := List.getElem?_eq_some_iff.1 hq
  rcases Nat.lt_or_ge j k with h3 | h3
  · exact List.pairwise_iff_getElem.1 h j k hj hk h3 g h1 h2
  · exact List.pairwise_iff_getElem.1 h k j hk hj (by omega) g h2 h1
end Go.Proofs.Ytafcphnafgfgkaa

