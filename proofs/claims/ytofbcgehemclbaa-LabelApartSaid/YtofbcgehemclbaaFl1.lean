/- Pieces of bytes with room behind: what is written into them, appended to them. -/
import Derived.Test.YtofbcgehemclbaaLg2
import Derived.Test.YtofbcgehemclbaaKit
namespace Go.Proofs.Ytofbcgehemclbaa
open Go.RowKit Bm
/-- a piece: its block, its length, its room -/
abbrev Pc := Option Nat × Nat × Nat
def pcA (p : Pc) : Option Addr := p.1.map fun g => ⟨g, 0, none⟩
def pcV (p : Pc) : Value := .slice (pcA p) p.2.1 p.2.2
/-- the piece's first bytes are xs (they may reach into its room) -/
def Cont (W : World) (p : Pc) (xs : List UInt8) : Prop :=
  (p.1 = none ∧ p.2.1 = 0 ∧ p.2.2 = 0 ∧ xs = []) ∨ ∃ g full, p.1 = some g ∧ Rw W g full ∧ full.length = p.2.2 ∧ p.2.1 ≤ p.2.2 ∧ full.take xs.length = xs ∧ xs.length ≤ p.2.2
section
variable {W W' : World} {p : Pc} {xs : List UInt8}
theorem Cont.keep (h : Cont W p xs) (hb : Below W.heap.size W W') : Cont W' p xs :=
  h.imp id fun ⟨g, full, h1, h2, h3⟩ => ⟨g, full, h1, h2.keep hb, h3⟩
theorem Rw.other {g : Nat} {full : List UInt8} {r : Option Nat} (h : Rw W g full) (hg : W.grownBy W' r) (hne : r ≠ some g) : Rw W' g full := by
  obtain ⟨fz, hh, hf⟩ := h
  exact ⟨fz, (hg.block g (lt_of_heap hh) fun e => hne e.symm).trans hh, hf⟩
theorem Cont.other {r : Option Nat} (h : Cont W p xs) (hg : W.grownBy W' r) (hne : ∀ g, p.1 = some g → r ≠ some g) : Cont W' p xs :=
  h.imp id fun ⟨g, full, h1, h2, h3⟩ => ⟨g, full, h1, h2.other hg (hne g h1), h3⟩
theorem Cont.alloc (h : Cont W p xs) (o : Obj) : Cont (W.alloc o) p xs := h.keep ((Below.refl _ _).alloc (Nat.le_refl _) _)
theorem Cont.drew (h : Cont W p xs) : Cont W.drew p xs := h
theorem Cont.rd (h : Cont W p xs) : RdB W (pcA p) xs := by
  rcases h with ⟨h1, h2, h3, h4⟩ | ⟨g, full, h1, h2, h3, h4, h5, h6⟩
  · exact .inl h4
  · have := h2.rd xs.length
    rw [h5] at this
    rw [pcA, h1]; exact this
theorem Cont.lt (h : Cont W p xs) (g : Nat) (hg : p.1 = some g) : g < W.heap.size := by
  rcases h with ⟨h1, _⟩ | ⟨g', full, h1, h2, _⟩
  · rw [h1] at hg; cases hg
  · rw [h1] at hg; injection hg with hg; subst hg; exact h2.lt
theorem Cont.take (h : Cont W p xs) (k : Nat) : Cont W p (xs.take k) := by
  rcases h with ⟨h1, h2, h3, h4⟩ | ⟨g, full, h1, h2, h3, h4, h5, h6⟩
  · exact .inl ⟨h1, h2, h3, by simp [h4]⟩
  · refine .inr ⟨g, full, h1, h2, h3, h4, ?_, by rw [List.length_take]; omega⟩
    have := congrArg (List.take k) h5
    rw [List.take_take] at this
    rw [List.length_take]; exact this
theorem Cont.set (h : Cont W p xs) (b : UInt8) (hlt : xs.length < p.2.2) : ∃ g, p.1 = some g ∧ W.cell? ⟨g, xs.length, none⟩ ≠ none ∧ W.frozen? ⟨g, xs.length, none⟩ = false ∧ Cont (W.setCell ⟨g, xs.length, none⟩ (.int .u8 (b.toNat : Int))) p (xs ++ [b]) := by
  rcases h with ⟨h1, h2, h3, h4⟩ | ⟨g, full, h1, h2, h3, h4, h5, h6⟩
  · omega
  · refine ⟨g, h1, by rw [h2.cell _ (by omega)]; simp, h2.frozen _ (by omega), .inr ⟨g, _, h1, h2.set_ xs.length b, by simpa using h3, h4, ?_, by simp; omega⟩⟩
    rw [List.length_append, List.length_singleton, List.take_succ_eq_append_getElem (by simp; omega)]
    rw [List.take_set_of_le (Nat.le_refl _), h5]
    simp
end
theorem grown_setCell (W : World) (a : Addr) (v : Value) : W.grownBy (W.setCell a v) (some a.block) := by
  refine ⟨rfl, rfl, rfl, by simp [World.setCell], fun k _ hne => ?_⟩
  simp only [World.setCell, Array.getElem?_modify]
  rw [if_neg (fun e => hne (by rw [e]))]
theorem grown_trans {W W1 W2 : World} {r : Option Nat} (h : W.grownBy W1 r) (k : W1.grownBy W2 r) : W.grownBy W2 r :=
  ⟨k.os.trans h.os, k.tape.trans h.tape, k.output.trans h.output, Nat.le_trans h.size k.size, fun j hj hne => (k.block j (Nat.lt_of_lt_of_le hj h.size) hne).trans (h.block j hj hne)⟩
theorem run_storesR (g o : Nat) : ∀ (ys : List UInt8) (i : Nat) (full : List UInt8) (W : World), Rw W g full → o + i + ys.length ≤ full.length →
    ∃ W', (storeCells ⟨g, o, none⟩ (Lib.byteCells ys) i).run Try.prog W = .ok () W' ∧ Rw W' g (full.take (o + i) ++ ys ++ full.drop (o + i + ys.length)) ∧ W.grownBy W' (some g)
  | [], i, full, W, h, hl => ⟨W, rfl, by simpa using h, World.grownBy.refl W _⟩
  | y :: ys, i, full, W, h, hl => by
    simp only [List.length_cons] at hl
    have hadd : (⟨g, o, none⟩ : Addr).add i = ⟨g, o + i, none⟩ := addr_add g o i
    have hst : (store ((⟨g, o, none⟩ : Addr).add i) (.int .u8 (y.toNat : Int))).run Try.prog W = .ok () (W.setCell ⟨g, o + i, none⟩ (.int .u8 (y.toNat : Int))) := by
      rw [hadd, run_store Try.prog W _ _ _ rfl, h.cell _ (by omega)]
      simp [h.frozen _ (show o + i < full.length by omega)]
    obtain ⟨W', h1, h2, h3⟩ := run_storesR g o ys (i + 1) (full.set (o + i) y) _ (h.set_ (o + i) y) (by simp; omega)
    refine ⟨W', ?_, ?_, grown_trans (grown_setCell W _ _) h3⟩
    · rw [show Lib.byteCells (y :: ys) = .int .u8 (y.toNat : Int) :: Lib.byteCells ys from rfl]
      simp only [storeCells, Sem.run_bind, hst, Result.andThen_ok, h1]
    · have e : (full.set (o + i) y).take (o + (i + 1)) ++ ys ++ (full.set (o + i) y).drop (o + (i + 1) + ys.length) = full.take (o + i) ++ y :: ys ++ full.drop (o + i + (ys.length + 1)) := by
        rw [show o + (i + 1) = o + i + 1 from by omega, List.take_succ_eq_append_getElem (by simp; omega), List.take_set_of_le (Nat.le_refl _), List.getElem_set_self, List.drop_set_of_lt (by omega), show o + i + 1 + ys.length = o + i + (ys.length + 1) from by omega]
        simp
      rw [e] at h2
      rw [List.length_cons]; exact h2
set_option maxRecDepth 20000 in
/-- append with room -/
theorem run_roomR (g n cap m c : Nat) (full ys : List UInt8) (src : Option Addr) (ty : TypeId) (W : World) (h : Rw W g full) (hl : full.length = cap) (hr : RdB W src ys) (hm : m = ys.length) (hle : n + m ≤ cap) :
    ∃ W', (Builtin.append_ #[22, 22] ty #[.slice (some ⟨g, 0, none⟩) n cap, .slice src m c]).run Try.prog W = .ok (.slice (some ⟨g, 0, none⟩) (n + m) cap) W' ∧
      Rw W' g (full.take n ++ ys ++ full.drop (n + ys.length)) ∧ W.grownBy W' (some g) := by
  obtain ⟨i0, hi, hz0, hz1, hz2⟩ := info_parts byteInfo
  obtain ⟨W', h1, h2, h3⟩ := run_storesR g n ys 0 full W h (by omega)
  rw [Nat.add_zero] at h2
  refine ⟨W', ?_, h2, h3⟩
  by_cases h0 : ys = []
  · subst h0
    simp only [List.length_nil] at hm
    subst hm
    have e : W' = W := by
      simp only [Lib.byteCells, List.map_nil, storeCells] at h1
      injection h1 with _ h1
      exact h1.symm
    subst e
    cases src <;> simp [Builtin.append_, run_underlying Try.underlying22, sizeOf, typeInfo, hi, Builtin.lenOf, Builtin.firstCells, show n ≤ cap from by omega, storeCells, loadCells, loadCellsFrom]
  · obtain ⟨b, off, rfl, hlt, hc⟩ : ∃ b off, src = some ⟨b, off, none⟩ ∧ b < W.heap.size ∧ ∀ i (h : i < ys.length), W.cell? ⟨b, off + i, none⟩ = some (.int .u8 ((ys[i]'h).toNat : Int)) := by
      rcases hr with h | h
      · exact absurd h h0
      · exact h
    have hf := run_firstCells_some (P := Try.prog) W i0.size m ⟨b, off, none⟩ m c (Lib.byteCells ys) (by rw [length_byteCells, hz1, Nat.mul_one, hm]) (rd_cells' hr)
    rw [hz1] at hf
    simp [Builtin.append_, run_underlying Try.underlying22, sizeOf, typeInfo, hi, hz1, Builtin.lenOf, hle, hf, Addr.add_lit, h1]
/-- the growing row of a piece: still in it, or the call's own -/
def Gr (B : Nat) (W : World) (p : Pc) (v : Value) (xs : List UInt8) : Prop :=
  (v = .slice (pcA p) xs.length p.2.2 ∧ p.1 ≠ none ∧ p.2.1 ≤ xs.length ∧ Cont W p xs) ∨ (OwB W B v xs ∧ p.2.1 ≤ xs.length ∧ Cont W p (xs.take p.2.1))
theorem Gr.start {B : Nat} {W : World} {p : Pc} {xs : List UInt8} (h : Cont W p xs) (hl : xs.length = p.2.1) : Gr B W p (pcV p) xs := by
  rcases h with ⟨h1, h2, h3, h4⟩ | h
  · right
    subst h4
    have e : pcV p = .slice none 0 0 := by rw [pcV, pcA, h1, h2, h3]; rfl
    rw [e]
    exact ⟨OwB.nil _ _, by omega, .inl ⟨h1, h2, h3, by simp⟩⟩
  · left
    refine ⟨by rw [pcV, hl], by obtain ⟨g, _, h, _⟩ := h; rw [h]; simp, by omega, .inr h⟩
theorem Gr.keep {B : Nat} {W W' : World} {p : Pc} {v : Value} {xs : List UInt8} (h : Gr B W p v xs) (hb : Below W.heap.size W W') : Gr B W' p v xs :=
  h.imp (fun ⟨h1, h2, h3, h4⟩ => ⟨h1, h2, h3, h4.keep hb⟩) fun ⟨h1, h2, h3⟩ => ⟨h1.keep hb, h2, h3.keep hb⟩
theorem Gr.cont {B : Nat} {W : World} {p : Pc} {v : Value} {xs : List UInt8} (h : Gr B W p v xs) : Cont W p (xs.take p.2.1) := by
  rcases h with ⟨_, _, _, h⟩ | ⟨_, _, h⟩
  · exact h.take _
  · exact h
theorem Gr.form {B : Nat} {W : World} {p : Pc} {v : Value} {xs : List UInt8} (h : Gr B W p v xs) : ∃ a cap, v = .slice a xs.length cap ∧ RdB W a xs := by
  rcases h with ⟨h1, _, _, h⟩ | ⟨h, _, _⟩
  · exact ⟨_, _, h1, h.rd⟩
  · obtain ⟨a, c, hv⟩ := h.forms
    subst hv
    exact ⟨a, c, rfl, h.rd⟩
/-- the block that an append onto it writes -/
theorem Gr.blk {B : Nat} {W : World} {p : Pc} {v : Value} {xs : List UInt8} (h : Gr B W p v xs) (k : Nat) (hk : v.ownBlock = some k) : p.1 = some k ∨ (B ≤ k ∧ k < W.heap.size) := by
  rcases h with ⟨h1, h2, _, h⟩ | ⟨h, _, _⟩
  · left
    rw [h1, pcA] at hk
    cases hp : p.1 with
    | none => exact absurd hp h2
    | some g => rw [hp] at hk; simpa [Value.ownBlock] using hk
  · exact .inr (h.lt k hk)
theorem grown_none {W W' : World} {r : Option Nat} (h : W.grownBy W' none) : W.grownBy W' r := ⟨h.os, h.tape, h.output, h.size, fun k hk _ => h.block k hk (by simp)⟩
theorem grown_below {W W' : World} (h : W.grownBy W' none) : Below W.heap.size W W' := ⟨h.os, h.tape, h.output, h.size, fun k hk => h.block k hk (by simp)⟩
theorem run_appG {B : Nat} {W : World} {p : Pc} {v : Value} {xs ys : List UInt8} (src : Option Addr) (m c : Nat) (ty : TypeId) (h : Gr B W p v xs) (hr : RdB W src ys) (hm : m = ys.length) (hle : xs.length + ys.length ≤ 1000000) (hB : B ≤ W.heap.size) (hpB : ∀ g, p.1 = some g → g < B) :
    ∃ v' W', (Builtin.append_ #[22, 22] ty #[v, .slice src m c]).run Try.prog W = .ok v' W' ∧ Gr B W' p v' (xs ++ ys) ∧ W.grownBy W' v.ownBlock := by
  rcases h with ⟨hv, hp, hpl, hc⟩ | ⟨hown, hpl, hc⟩
  · rcases hc with ⟨h1, _⟩ | ⟨g, full, h1, h2, h3, h4, h5, h6⟩
    · exact absurd h1 hp
    · have hva : v = .slice (some ⟨g, 0, none⟩) xs.length p.2.2 := by rw [hv, pcA, h1]; rfl
      by_cases hroom : xs.length + m ≤ p.2.2
      · obtain ⟨W', q1, q2, q3⟩ := run_roomR g xs.length p.2.2 m c full ys src ty W h2 h3 hr hm hroom
        refine ⟨_, W', by rw [hva]; exact q1, .inl ⟨by rw [pcA, h1, List.length_append, hm]; rfl, hp, by rw [List.length_append]; omega, .inr ⟨g, _, h1, q2, ?_, h4, ?_, by rw [List.length_append]; omega⟩⟩, by rw [hva]; exact q3⟩
        · rw [List.length_append, List.length_append, List.length_take, List.length_drop]; omega
        · rw [h5, List.take_left]
      · obtain ⟨i0, hi, hz0, hz1, hz2⟩ := info_parts byteInfo
        have hys : ys ≠ [] := by rintro rfl; simp at hm; omega
        obtain ⟨b, off, rfl, hlt, hcc⟩ : ∃ b off, src = some ⟨b, off, none⟩ ∧ b < W.heap.size ∧ ∀ i (h : i < ys.length), W.cell? ⟨b, off + i, none⟩ = some (.int .u8 ((ys[i]'h).toNat : Int)) := by
          rcases hr with h | h
          · exact absurd h hys
          · exact h
        have holds : ∀ j u, (Lib.byteCells xs)[j]? = some u → W.cell? ((⟨g, 0, none⟩ : Addr).add j) = some u := rd_cells' (b := g) (off := 0) (by have := h2.rd xs.length; rw [h5] at this; exact this)
        obtain ⟨v', W', q1, q2, q3⟩ := run_append_arg_grows (P := Try.prog) W 22 ty 5 i0 _ 1 1 Try.underlying22 hi hz0 hz1 hz2 rfl (by decide) ⟨g, 0, none⟩ xs.length p.2.2 (Lib.byteCells xs) (by rw [length_byteCells]; omega) holds ⟨b, off, none⟩ m c (Lib.byteCells ys) (by rw [length_byteCells]; omega) (rd_cells' hr) (by omega) (by unfold maxLen; omega) (by omega)
        have q2' : OwB W' B v' (xs ++ ys) := by
          unfold OwB
          rw [List.length_append, ← hm, show Lib.byteCells (xs ++ ys) = Lib.byteCells xs ++ Lib.byteCells ys from by simp [Lib.byteCells]]
          exact ow_mono q2 hB
        refine ⟨v', W', by rw [hva]; exact q1, .inr ⟨q2', by rw [List.length_append]; omega, ?_⟩, grown_none q3⟩
        have hk : Cont W p (xs.take p.2.1) := (show Cont W p xs from .inr ⟨g, full, h1, h2, h3, h4, h5, h6⟩).take _
        rw [List.take_append_of_le_length hpl]
        exact hk.keep (grown_below q3)
  · obtain ⟨v', W', q1, q2, q3, q4⟩ := run_appB (w := W) ty xs.length m c rfl hown hr hm (by omega) hB
    refine ⟨v', W', q1, .inr ⟨q2, by rw [List.length_append]; omega, ?_⟩, q3⟩
    rw [List.take_append_of_le_length hpl]
    refine hc.other q3 fun g hg e => ?_
    have := (hown.lt g e).1
    have := hpB g hg
    omega
end Go.Proofs.Ytofbcgehemclbaa
