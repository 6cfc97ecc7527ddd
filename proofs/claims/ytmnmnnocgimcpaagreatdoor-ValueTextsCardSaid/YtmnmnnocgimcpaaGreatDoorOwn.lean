/- Rows of cells of any element type: what reads as a row, what the call itself owns, append. -/
import Derived.Test.YtmnmnnocgimcpaaGreatDoorAp
namespace Go.Proofs.YtmnmnnocgimcpaaGreatDoor
open Go.RowKit
/-- an address: its cells read as xs -/
def Rd (w : World) (a : Option Addr) (xs : List Value) : Prop :=
  xs = [] ∨ ∃ b off, a = some ⟨b, off, none⟩ ∧ b < w.heap.size ∧ ∀ i u, xs[i]? = some u → w.cell? ⟨b, off + i, none⟩ = some u
theorem addr_add (b off i : Nat) : (Addr.mk b off none).add i = ⟨b, off + i, none⟩ := by unfold Addr.add; split <;> simp_all
section
variable {w w' : World} {a : Option Addr} {xs ys : List Value} {B g n m size cap : Nat} {e : TypeId} {v : Value}
theorem Rd.keep (h : Rd w a xs) (hb : Below w.heap.size w w') : Rd w' a xs := by
  rcases h with h | ⟨b, off, ha, hlt, hc⟩
  · exact .inl h
  · exact .inr ⟨b, off, ha, Nat.lt_of_lt_of_le hlt hb.size, fun i u hu => (hb.cell (p := ⟨b, off + i, none⟩) hlt).trans (hc i u hu)⟩
theorem Rd.alloc (h : Rd w a xs) (o : Obj) : Rd (w.alloc o) a xs := h.keep ((Below.refl _ _).alloc (Nat.le_refl _) _)
theorem Rd.drew (h : Rd w a xs) : Rd w.drew a xs := h
theorem Rd.cellAt (h : Rd w a xs) (i : Nat) (u : Value) (hu : xs[i]? = some u) : ∃ b off, a = some ⟨b, off, none⟩ ∧ w.cell? ⟨b, off + i, none⟩ = some u := by
  rcases h with rfl | ⟨b, off, ha, _, hc⟩
  · simp at hu
  · exact ⟨b, off, ha, hc i u hu⟩
theorem Rd.addrAt (h : Rd w a xs) (h0 : xs ≠ []) : ∃ b off, a = some ⟨b, off, none⟩ ∧ b < w.heap.size ∧ ∀ i u, xs[i]? = some u → w.cell? ⟨b, off + i, none⟩ = some u := by
  rcases h with h | h
  · exact absurd h h0
  · exact h
theorem Rd.take (h : Rd w a xs) (k : Nat) : Rd w a (xs.take k) := by
  rcases h with rfl | ⟨b, off, ha, hlt, hc⟩
  · exact .inl (by simp)
  · refine .inr ⟨b, off, ha, hlt, fun i u hu => hc i u ?_⟩
    rw [List.getElem?_take] at hu
    split at hu
    · exact hu
    · cases hu
theorem Rd.nil (w : World) (a : Option Addr) : Rd w a [] := .inl rfl
theorem Rd.news (h : Rd w (some ⟨g, n, none⟩) xs) : ∀ j u, xs[j]? = some u → w.cell? ((Addr.mk g n none).add j) = some u := by
  intro j u hu
  rw [addr_add]
  rcases h with rfl | ⟨b, off, ha, _, hc⟩
  · simp at hu
  · injection ha with ha
    injection ha with h1 h2
    subst h1 h2
    exact hc j u hu
theorem Rd.new (w : World) (t : TypeId) (cs : List Value) : Rd (w.alloc (.cells cs.toArray t)) (some ⟨w.heap.size, 0, none⟩) cs :=
  .inr ⟨w.heap.size, 0, rfl, by simp, fun i u hu => by
    rw [Nat.zero_add]
    have := (Blk.new w t cs.toArray).cell i
    rw [this]
    simpa using hu⟩
theorem grown_then {w1 : World} {r : Option Nat} (h : w.grownBy w1 r) (k : Below w1.heap.size w1 w') : w.grownBy w' r :=
  ⟨k.os.trans h.os, k.tape.trans h.tape, k.output.trans h.output, Nat.le_trans h.size k.size, fun j hj hne => (k.block j (Nat.lt_of_lt_of_le hj h.size)).trans (h.block j hj hne)⟩
theorem Blk.grown {t : TypeId} {cs : Array Value} {k : Nat} (h : Blk w g t cs) (hg : w.grownBy w' (some k)) (hne : g ≠ k) : Blk w' g t cs :=
  (hg.block g h.lt (by intro e; injection e with e; exact hne e)).trans h
theorem ow_keep (h : w.ownsRow B e size v n xs) (hb : Below w.heap.size w w') : w'.ownsRow B e size v n xs := by
  obtain ⟨h1, h2⟩ := h
  refine ⟨h1, ?_⟩
  rcases h2 with h2 | ⟨g, cap, cur, hv, hg, hh, r⟩
  · exact .inl h2
  · exact .inr ⟨g, cap, cur, hv, hg, heap_keep hh hb, r⟩
theorem ow_far (h : w.ownsRow B e size v n xs) (hb : w.grownBy w' (some m)) (hm : m < B ∨ ∀ k, v.ownBlock = some k → k ≠ m) : w'.ownsRow B e size v n xs := by
  obtain ⟨h1, h2⟩ := h
  refine ⟨h1, ?_⟩
  rcases h2 with h2 | ⟨g, cap, cur, hv, hg, hh, r⟩
  · exact .inl h2
  · refine .inr ⟨g, cap, cur, hv, hg, (hb.block g (lt_of_heap hh) (by
      intro hk
      injection hk with hk
      subst hk
      rcases hm with hm | hm
      · omega
      · exact hm g (by rw [hv]; rfl) rfl)).trans hh, r⟩
theorem ow_nil (w : World) (B : Nat) (e : TypeId) (size : Nat) : w.ownsRow B e size (.slice none 0 0) 0 [] := ⟨by simp, .inl ⟨rfl, rfl⟩⟩
theorem ow_forms (h : w.ownsRow B e size v n xs) : ∃ a cap, v = .slice a n cap := by
  rcases h.2 with ⟨h1, h2⟩ | ⟨g, cap, cur, hv, _⟩
  · exact ⟨none, 0, by rw [h1, h2]⟩
  · exact ⟨_, cap, hv⟩
theorem ow_form (h : w.ownsRow B e size v n xs) (h0 : n ≠ 0) : ∃ g cap, v = .slice (some ⟨g, 0, none⟩) n cap ∧ B ≤ g ∧ g < w.heap.size ∧ n ≤ cap := by
  rcases h.2 with ⟨_, h1⟩ | ⟨g, cap, cur, hv, hg, hh, hc, _⟩
  · exact absurd h1 h0
  · exact ⟨g, cap, hv, hg, lt_of_heap hh, hc⟩
theorem ow_rd (h : w.ownsRow B e size (.slice a n cap) n xs) : Rd w a xs := by
  by_cases h0 : xs = []
  · exact .inl h0
  · rcases h.2 with ⟨h1, h2⟩ | ⟨g, cap', cur, hv, hg, hh, r⟩
    · exact absurd (List.length_eq_zero_iff.1 (by rw [h.1, h2, Nat.zero_mul])) h0
    · injection hv with hv
      subst hv
      refine .inr ⟨g, 0, rfl, lt_of_heap hh, fun i u hu => ?_⟩
      have := h.cells (g := g) rfl i u hu
      rwa [addr_add] at this
theorem ow_cell (h : w.ownsRow B e size (.slice (some ⟨g, 0, none⟩) m cap) n xs) (i : Nat) (u : Value) (hu : xs[i]? = some u) : w.cell? ⟨g, i, none⟩ = some u := by
  have := h.cells (g := g) rfl i u hu
  rw [addr_add, Nat.zero_add] at this
  exact this
theorem ow_frozen (h : w.ownsRow B e size (.slice (some ⟨g, 0, none⟩) m cap) n xs) (i : Nat) : w.frozen? ⟨g, i, none⟩ = false := by
  rcases h.2 with ⟨e, _⟩ | ⟨g', cap', cur, e, _, hh, _⟩
  · cases e
  · injection e with e1 e2 e3
    injection e1 with e1
    injection e1 with e1
    subst e1
    simp [World.frozen?, hh]
theorem ow_lt (h : w.ownsRow B e size v n xs) : ∀ k, v.ownBlock = some k → B ≤ k ∧ k < w.heap.size := World.ownsRow.lt h
theorem ow_mono {B' : Nat} (h : w.ownsRow B e size v n xs) (hB : B' ≤ B) : w.ownsRow B' e size v n xs := by
  refine ⟨h.1, ?_⟩
  rcases h.2 with h2 | ⟨g, cap, cur, hv, hg, r⟩
  · exact .inl h2
  · exact .inr ⟨g, cap, cur, hv, by omega, r⟩
/-- append(v, ys...): v the call's own -/
theorem run_appR (i0 : TypeInfo) (z : Value) (bytes : Nat) (t ty : TypeId) (c : Nat) (ht : Tryz.prog.underlying t = some (.slice e)) (hi : Tryz.prog.info? e = some i0) (hz0 : i0.zero = some z) (hz1 : i0.size = size) (hz2 : i0.bytes = bytes)
    (hzs : z.cells.size = size) (hsz : 0 < size) (hone : ∀ u ∈ ys, u.oneCell' = true) (hown : w.ownsRow B e size v n xs) (hr : Rd w a ys) (hm : ys.length = m * size) (hle : (n + m) * bytes ≤ 140737488355328) (h63 : n + m ≤ 140737488355328) (hB : B ≤ w.heap.size) :
    ∃ v' w', (Builtin.append_ #[t, t] ty #[v, .slice a m c]).run Tryz.prog w = .ok v' w' ∧ w'.ownsRow B e size v' (n + m) (xs ++ ys) ∧ w.grownBy w' v.ownBlock ∧ (v'.ownBlock = v.ownBlock ∨ v'.ownBlock = some w.heap.size) := by
  by_cases h0 : ys = []
  · subst h0
    have hm0 : m = 0 := by
      have h1 : 0 = m * size := by simpa using hm
      rcases Nat.mul_eq_zero.1 h1.symm with h | h
      · exact h
      · omega
    subst hm0
    refine ⟨v, w, ?_, by rw [List.append_nil]; exact hown, World.grownBy.refl w _, .inl rfl⟩
    rcases hown.2 with ⟨rfl, _⟩ | ⟨g, cap, cur, rfl, _, _, hnc, _⟩
    · cases a <;> simp [Builtin.append_, run_underlying ht, sizeOf, typeInfo, hi, Builtin.lenOf, Builtin.firstCells, loadCells, loadCellsFrom]
    · cases a <;> simp [Builtin.append_, run_underlying ht, sizeOf, typeInfo, hi, Builtin.lenOf, Builtin.firstCells, hnc, storeCells, loadCells, loadCellsFrom]
  · obtain ⟨b, off, rfl, hlt, hc⟩ := hr.addrAt h0
    obtain ⟨v', w', hrun, h2, h3, _, h5⟩ := run_append_own_at (P := Tryz.prog) w B t ty e i0 z size bytes ht hi hz0 hz1 hz2 hzs hsz v n xs hown ⟨b, off, none⟩ m c ys hm (hr.news) hone (by unfold maxLen; omega) hle hB
    exact ⟨v', w', hrun, h2, h3, h5⟩
theorem wpList_appR {ops : Array Oper} {rest : List Oper} {o : Oper} {ac : Act} {Q : Exit → Act → World → Prop} (hgd : o.guard = none) (s x : Operand) (t : TypeId)
    (ho : o.op = .call { callee := .builtin .append, args := #[s, x], argTypes := #[t, t] })
    (i0 : TypeInfo) (z : Value) (bytes : Nat) (c : Nat) (ht : Tryz.prog.underlying t = some (.slice e)) (hi : Tryz.prog.info? e = some i0) (hz0 : i0.zero = some z) (hz1 : i0.size = size) (hz2 : i0.bytes = bytes)
    (hzs : z.cells.size = size) (hsz : 0 < size) (hs : ac.eval s = v) (hx : ac.eval x = .slice a m c) (hone : ∀ u ∈ ys, u.oneCell' = true) (hown : w.ownsRow B e size v n xs) (hr : Rd w a ys) (hm : ys.length = m * size)
    (hle : (n + m) * bytes ≤ 140737488355328) (h63 : n + m ≤ 140737488355328) (hB : B ≤ w.heap.size)
    (K : ∀ v' w', w'.ownsRow B e size v' (n + m) (xs ++ ys) → w.grownBy w' v.ownBlock → (v'.ownBlock = v.ownBlock ∨ v'.ownBlock = some w.heap.size) → wpList Tryz.prog ops Q rest (ac.put o.dst v') w') :
    wpList Tryz.prog ops Q (o :: rest) ac w := by
  refine wpList_plain hgd fun K' hK => ?_
  obtain ⟨v', w', hrun, h2, h3, h4⟩ := run_appR (w := w) i0 z bytes t o.type c ht hi hz0 hz1 hz2 hzs hsz hone hown hr hm hle h63 hB
  have := hK _ _ (K v' w' h2 h3 h4)
  unfold Oper.wp execOp
  simp only [ho, resolve, invoke, builtin, Sem.run_bind, Sem.run_pure, Result.andThen_ok, List.map_toArray, List.map_cons, List.map_nil, hs, hx, hrun]
  exact this
end
/-- the address of an element -/
theorem run_ix {t e : TypeId} {i0 : TypeInfo} {size : Nat} (ht : Tryz.prog.underlying t = some (.slice e)) (hi : Tryz.prog.info? e = some i0) (hz : i0.size = size) (g off n c k : Nat) (x : Int) (hx : x = k) (hk : k < n) (W : World) :
    (Instr.indexAt t (.slice (some ⟨g, off, none⟩) n c) (.int .i64 x)).run Tryz.prog W = .ok (.pointer (some ⟨g, off + k * size, none⟩)) W := by
  subst hx hz
  have h1 : (0 : Int) ≤ (k : Int) ∧ (k : Int) < (n : Int) := by omega
  simp [Instr.indexAt, go_sem, run_underlying ht, sizeOf, typeInfo, hi, h1, addr_add]
  intro h; omega
end Go.Proofs.YtmnmnnocgimcpaaGreatDoor
