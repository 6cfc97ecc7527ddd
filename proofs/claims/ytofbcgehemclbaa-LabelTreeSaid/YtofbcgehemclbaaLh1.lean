/- Words for LabelTree's walk: rows of byte slices that the call itself owns. -/
import Derived.Test.YtofbcgehemclbaaLg2
import Derived.Test.YtofbcgehemclbaaLr8
import Derived.Test.YtofbcgehemclbaaLo3
namespace Go.Proofs.Ytofbcgehemclbaa
open Go.RowKit Bm
theorem kidRows_len (ss : List (List Bool)) (k n : Nat) : (kidRows ss k n).length = n := by simp [kidRows]
structure OwP (B : Nat) (W : World) (v : Value) (ps : List PcV) : Prop where
  o : W.ownsRow B 22 1 v ps.length (vsP ps)
  t : ∀ p ∈ ps, TgB W p.1 p.2.2
def Sep (v1 v2 : Value) : Prop := ∀ g, v1.ownBlock = some g → v2.ownBlock ≠ some g
theorem Sep.symm {v1 v2 : Value} (h : Sep v1 v2) : Sep v2 v1 := fun g h1 h2 => h g h2 h1
theorem OwP.keep {B : Nat} {W W' : World} {v : Value} {ps : List PcV} (h : OwP B W v ps) (hb : Below W.heap.size W W') : OwP B W' v ps := ⟨ow_keep h.o hb, fun p hp => (h.t p hp).keep hb⟩
theorem OwP.alloc {B : Nat} {W : World} {v : Value} {ps : List PcV} (h : OwP B W v ps) (o : Obj) : OwP B (W.alloc o) v ps := h.keep ((Below.refl _ _).alloc (Nat.le_refl _) _)
theorem ow_sep {B n : Nat} {W W' : World} {v1 v2 : Value} {xs : List Value} (h : W.ownsRow B 22 1 v2 n xs) (hg : W.grownBy W' v1.ownBlock) (hs : Sep v1 v2) : W'.ownsRow B 22 1 v2 n xs := by
  refine ⟨h.1, h.2.imp id ?_⟩
  rintro ⟨g, cap, cur, hv, hB, hh, r⟩
  refine ⟨g, cap, cur, hv, hB, (hg.block g (lt_of_heap hh) ?_).trans hh, r⟩
  intro e
  exact hs g e.symm (by rw [hv]; rfl)
theorem OwP.far {B B' n : Nat} {W W' : World} {v1 v2 : Value} {p2 : List PcV} {xs : List Value} (h : OwP B W v2 p2) (hg : W.grownBy W' v1.ownBlock) (hs : Sep v1 v2) (ho : W.ownsRow B' 22 1 v1 n xs) : OwP B W' v2 p2 :=
  ⟨ow_sep h.o hg hs, fun p hp => (h.t p hp).other hg ho⟩
theorem OwP.app {B : Nat} {W W' : World} {v v' : Value} {ps : List PcV} {q : PcV} (h : OwP B W v ps) (hq : TgB W q.1 q.2.2) (hown : W'.ownsRow B 22 1 v' (ps.length + 1) (vsP ps ++ [.slice q.1 q.2.2.length q.2.1])) (hg : W.grownBy W' v.ownBlock) : OwP B W' v' (ps ++ [q]) := by
  refine ⟨?_, fun p hp => ?_⟩
  · rw [List.length_append, List.length_singleton]
    simpa [vsP] using hown
  · rcases List.mem_append.1 hp with h1 | h1
    · exact (h.t p h1).other hg h.o
    · simp at h1; subst h1; exact hq.other hg h.o
theorem Sep.app {B : Nat} {W : World} {v v' v2 : Value} {p2 : List PcV} (hs : Sep v v2) (h2 : OwP B W v2 p2) (hv : v'.ownBlock = v.ownBlock ∨ v'.ownBlock = some W.heap.size) : Sep v' v2 := by
  intro g h1 h3
  rcases hv with e | e
  · exact hs g (by rw [← e]; exact h1) h3
  · rw [e] at h1
    injection h1 with h1
    have := (ow_lt h2.o g h3).2
    omega
theorem ow_shrink {B n cap g : Nat} {W : World} {xs : List Value} {x : Value} (h : W.ownsRow B 22 1 (.slice (some ⟨g, 0, none⟩) (n + 1) cap) (n + 1) (xs ++ [x])) : W.ownsRow B 22 1 (.slice (some ⟨g, 0, none⟩) n cap) n xs := by
  have hl : xs.length = n := by have := h.1; simp at this; omega
  refine ⟨by omega, ?_⟩
  rcases h.2 with ⟨e, _⟩ | ⟨g', cap', cur, hv, hB, hh, hc, hm, hsz, htk⟩
  · cases e
  · injection hv with e1 e2 e3
    injection e1 with e1
    injection e1 with e1
    subst e1 e3
    refine .inr ⟨g, cap, cur, rfl, hB, hh, by omega, hm, hsz, ?_⟩
    have := congrArg (fun l => l.take n) htk
    simp only [List.take_take] at this
    rw [show min n ((n + 1) * 1) = n * 1 from by omega] at this
    rw [this, List.take_left' hl]
theorem run_slOwn (g n c k : Nat) (hk : k ≤ n) (hc : n ≤ c) (W : World) : (Instr.slice 25 (.slice (some ⟨g, 0, none⟩) n c) none (some (.int .i64 (k : Int))) none).run Try.prog W = .ok (.slice (some ⟨g, 0, none⟩) k c) W := by
  obtain ⟨i0, hi, hz0, hz1, hz2⟩ := info_parts pieceInfo
  have hb : ∀ cd, (Instr.sliceBound (.int .i64 (k : Int)) c cd).run Try.prog W = .ok k W := by
    intro cd
    have : (0 : Int) ≤ (k : Int) ∧ (k : Int) ≤ (c : Int) := by omega
    simp [Instr.sliceBound, go_sem, this]
  simp [Instr.slice, Instr.sliceBounds, run_underlying Try.underlying25, sizeOf, typeInfo, hi, hb]
  intro _; simp [addr_add]
theorem OwP.pop {B n cap g : Nat} {W : World} {ps : List PcV} {q : PcV} (h : OwP B W (.slice (some ⟨g, 0, none⟩) (n + 1) cap) (ps ++ [q])) (hn : n = ps.length) : OwP B W (.slice (some ⟨g, 0, none⟩) n cap) ps := by
  refine ⟨?_, fun p hp => h.t p (by simp [hp])⟩
  have h1 := h.o
  rw [List.length_append, List.length_singleton, ← hn] at h1
  rw [← hn]
  have e : vsP (ps ++ [q]) = vsP ps ++ [.slice q.1 q.2.2.length q.2.1] := by simp [vsP]
  rw [e] at h1
  exact ow_shrink h1
theorem Fr.tg {B g cap : Nat} {W : World} {bs : List UInt8} (h : Fr B W g cap bs) : TgB W (some ⟨g, 0, none⟩) bs := by
  obtain ⟨_, full, ⟨fz, hh, _⟩, hc, hle, htk⟩ := h
  refine .inr ⟨g, 0, _, fz, rfl, hh, fun i hi => ?_⟩
  have h1 : i < full.length := by omega
  have h2 : bs[i] = full[i] := by
    have := congrArg (fun l => l[i]?) htk
    simp only [List.getElem?_take, if_pos hi, List.getElem?_eq_getElem h1, List.getElem?_eq_getElem hi] at this
    injection this with this
    exact this.symm
  rw [h2]
  simp [Lib.byteCells, List.getElem?_eq_getElem h1]
/-- the element of an own row of pieces -/
theorem OwP.at {B n cap g : Nat} {W : World} {ps : List PcV} (h : OwP B W (.slice (some ⟨g, 0, none⟩) n cap) ps) (i : Nat) (q : PcV) (hq : ps[i]? = some q) : W.cell? ⟨g, i, none⟩ = some (.slice q.1 q.2.2.length q.2.1) :=
  ow_cell h.o i _ (by simp [vsP, hq])
theorem OwP.form {B : Nat} {W : World} {v : Value} {ps : List PcV} (h : OwP B W v ps) (h0 : ps ≠ []) : ∃ g cap, v = .slice (some ⟨g, 0, none⟩) ps.length cap ∧ B ≤ g ∧ g < W.heap.size ∧ ps.length ≤ cap :=
  ow_form h.o (by have := List.length_pos_iff.2 h0; omega)
theorem OwP.len {B : Nat} {W : World} {v : Value} {ps : List PcV} (h : OwP B W v ps) : ∃ a cap, v = .slice a ps.length cap := ow_forms h.o
end Go.Proofs.Ytofbcgehemclbaa
