/- append on bytes: laws in the words of Mem. -/
import Derived.Test.YtmnmnnocgimcpaaGreatDoorMem
import Derived.Maps.AppendAt
namespace Go.Proofs.YtmnmnnocgimcpaaGreatDoor
open Go.RowKit
/-- the slice v is the call's own, from block B on, and holds the bytes xs -/
def OwB (w : World) (B : Nat) (v : Value) (xs : List UInt8) : Prop := w.ownsRow B 5 1 v xs.length (Lib.byteCells xs)
section
variable {w w' : World} {B g : Nat} {v : Value} {xs ys : List UInt8} {a : Option Addr}
theorem OwB.nil (w : World) (B : Nat) : OwB w B (.slice none 0 0) [] := ⟨by simp [Lib.byteCells], .inl ⟨rfl, rfl⟩⟩
theorem length_byteCells (l : List UInt8) : (Lib.byteCells l).length = l.length := by simp [Lib.byteCells]
theorem OwB.form (h : OwB w B v xs) (h0 : xs ≠ []) : ∃ g cap, v = .slice (some ⟨g, 0, none⟩) xs.length cap ∧ B ≤ g ∧ g < w.heap.size ∧ xs.length ≤ cap := by
  rcases h.2 with ⟨_, h1⟩ | ⟨g, cap, cur, hv, hg, hh, hc, _⟩
  · exact absurd (List.length_eq_zero_iff.1 h1) h0
  · exact ⟨g, cap, hv, hg, lt_of_heap hh, hc⟩
theorem OwB.forms (h : OwB w B v xs) : ∃ a cap, v = .slice a xs.length cap := by
  rcases h.2 with ⟨h1, h2⟩ | ⟨g, cap, cur, hv, _⟩
  · exact ⟨none, 0, by rw [h1, h2]⟩
  · exact ⟨_, cap, hv⟩
theorem OwB.rd {cap n : Nat} (h : OwB w B (.slice a n cap) xs) : RdB w a xs := by
  by_cases h0 : xs = []
  · exact .inl h0
  · rcases h.2 with ⟨_, h1⟩ | ⟨g, cap', cur, hv, hg, hh, r⟩
    · exact absurd (List.length_eq_zero_iff.1 h1) h0
    · injection hv with hv
      subst hv
      refine .inr ⟨g, 0, rfl, lt_of_heap hh, fun i hi => ?_⟩
      have hv' : n = xs.length := by
        rcases h.2 with ⟨e1, e2⟩ | ⟨g, cap, cur, e, _⟩
        · cases e1
        · injection e
      subst hv'
      have := h.cells (g := g) rfl i (.int .u8 (xs[i].toNat : Int)) (by simp [Lib.byteCells, hi])
      rw [show (Addr.mk g 0 none).add i = ⟨g, 0 + i, none⟩ from by unfold Addr.add; split <;> simp_all] at this
      exact this
theorem OwB.keep (h : OwB w B v xs) (hb : Below w.heap.size w w') : OwB w' B v xs := by
  obtain ⟨h1, h2⟩ := h
  refine ⟨h1, ?_⟩
  rcases h2 with h2 | ⟨g, cap, cur, hv, hg, hh, r⟩
  · exact .inl h2
  · exact .inr ⟨g, cap, cur, hv, hg, heap_keep hh hb, r⟩
theorem OwB.lt (h : OwB w B v xs) : ∀ k, v.ownBlock = some k → B ≤ k ∧ k < w.heap.size := World.ownsRow.lt h
theorem OwB.cell {n cap : Nat} (h : OwB w B (.slice (some ⟨g, 0, none⟩) n cap) xs) (i : Nat) (hi : i < xs.length) : w.cell? ⟨g, i, none⟩ = some (.int .u8 ((xs[i]'hi).toNat : Int)) := by
  rcases h.rd with h | ⟨b, off, e, _, hc⟩
  · subst h; simp at hi
  · injection e with e
    injection e with e1 e2
    subst e1 e2
    have := hc i hi
    rwa [Nat.zero_add] at this
theorem OwB.frozen {n cap : Nat} (h : OwB w B (.slice (some ⟨g, 0, none⟩) n cap) xs) (i : Nat) : w.frozen? ⟨g, i, none⟩ = false := by
  rcases h.2 with ⟨e, _⟩ | ⟨g', cap', cur, e, _, hh, _⟩
  · cases e
  · injection e with e1 e2 e3
    injection e1 with e1
    injection e1 with e1
    subst e1
    simp [World.frozen?, hh]
theorem OwB.set_ {n cap : Nat} (h : OwB w B (.slice (some ⟨g, 0, none⟩) n cap) xs) (i : Nat) (u : UInt8) : OwB (w.setCell ⟨g, i, none⟩ (.int .u8 (u.toNat : Int))) B (.slice (some ⟨g, 0, none⟩) n cap) (xs.set i u) := by
  have hn : n = xs.length := by
    rcases h.2 with ⟨e1, e2⟩ | ⟨g', cap', cur, e, _⟩
    · cases e1
    · injection e
  by_cases hi : i < xs.length
  · refine ⟨by simp [Lib.byteCells], ?_⟩
    rcases h.2 with ⟨e, _⟩ | ⟨g', cap', cur, e, hg, hh, h1, h2, h3, h4⟩
    · cases e
    · injection e with e1 e2 e3
      injection e1 with e1
      injection e1 with e1
      subst e1 e3
      refine .inr ⟨g, cap, cur.setIfInBounds i (.int .u8 (u.toNat : Int)), by rw [List.length_set, hn], hg, ?_, by rw [List.length_set]; exact h1, h2, by simpa using h3, ?_⟩
      · simp [World.setCell, Array.getElem?_modify, hh]
      · rw [List.length_set, Array.toList_setIfInBounds, List.take_set, h4]
        simp [Lib.byteCells, List.map_set]
  · rw [List.set_eq_of_length_le (by omega)]
    rcases h.2 with ⟨e, _⟩ | ⟨g', cap', cur, e, hg, hh, h1, h2, h3, h4⟩
    · cases e
    · injection e with e1 e2 e3
      injection e1 with e1
      injection e1 with e1
      subst e1 e3
      refine ⟨h.1, .inr ⟨g, cap, cur.setIfInBounds i (.int .u8 (u.toNat : Int)), by rw [hn], hg, ?_, h1, h2, by simpa using h3, ?_⟩⟩
      · simp [World.setCell, Array.getElem?_modify, hh]
      · rw [Array.toList_setIfInBounds, List.take_set, h4]
        rw [List.set_eq_of_length_le (by rw [length_byteCells]; omega)]
theorem one_bytes (l : List UInt8) : ∀ u ∈ Lib.byteCells l, u.oneCell' = true := by
  intro u hu
  simp only [Lib.byteCells, List.mem_map] at hu
  obtain ⟨b, _, rfl⟩ := hu
  rfl
theorem rd_cells (h : RdB w (some ⟨g, 0, none⟩) ys) : ∀ j u, (Lib.byteCells ys)[j]? = some u → w.cell? ((Addr.mk g 0 none).add j) = some u := by
  intro j u hu
  have hj : j < ys.length := by
    have := (List.getElem?_eq_some_iff.1 hu).1
    rwa [length_byteCells] at this
  rcases h with rfl | ⟨b, off, ha, _, hc⟩
  · simp at hj
  · injection ha with ha
    injection ha with h1 h2
    subst h1 h2
    rw [show (Addr.mk g 0 none).add j = ⟨g, 0 + j, none⟩ from by unfold Addr.add; split <;> simp_all, hc j hj]
    simpa [Lib.byteCells, hj] using hu
theorem rd_cells' {b off : Nat} (h : RdB w (some ⟨b, off, none⟩) ys) : ∀ j u, (Lib.byteCells ys)[j]? = some u → w.cell? ((Addr.mk b off none).add j) = some u := by
  intro j u hu
  have hj : j < ys.length := by
    have := (List.getElem?_eq_some_iff.1 hu).1
    rwa [length_byteCells] at this
  rcases h with rfl | ⟨b, off, ha, _, hc⟩
  · simp at hj
  · injection ha with ha
    injection ha with h1 h2
    subst h1 h2
    rw [show (Addr.mk b off none).add j = ⟨b, off + j, none⟩ from by unfold Addr.add; split <;> simp_all, hc j hj]
    simpa [Lib.byteCells, hj] using hu
/-- append(v, ys...): v the call's own -/
theorem run_appB (ty : TypeId) (n m c : Nat) (_hn : n = xs.length) (hown : OwB w B v xs) (hr : RdB w a ys) (hm : m = ys.length) (hle : xs.length + ys.length ≤ 140737488355328) (hB : B ≤ w.heap.size) :
    ∃ v' w', (Builtin.append_ #[126, 126] ty #[v, .slice a m c]).run Tryz.prog w = .ok v' w' ∧ OwB w' B v' (xs ++ ys) ∧ w.grownBy w' v.ownBlock ∧
      (v'.ownBlock = v.ownBlock ∨ v'.ownBlock = some w.heap.size) := by
  obtain ⟨i0, hi, hz0, hz1, hz2⟩ := info_parts byteInfo
  subst hm
  by_cases h0 : ys = []
  · subst h0
    refine ⟨v, w, ?_, by rw [List.append_nil]; exact hown, World.grownBy.refl w _, .inl rfl⟩
    rcases hown.2 with ⟨rfl, _⟩ | ⟨g, cap, cur, rfl, _, _, hnc, _⟩
    · cases a <;> simp [Builtin.append_, run_underlying Tryz.underlying126, sizeOf, typeInfo, hi, Builtin.lenOf, Builtin.firstCells, loadCells, loadCellsFrom]
    · cases a <;> simp [Builtin.append_, run_underlying Tryz.underlying126, sizeOf, typeInfo, hi, Builtin.lenOf, Builtin.firstCells, hnc, storeCells, loadCells, loadCellsFrom]
  · obtain ⟨b, off, rfl, hlt, hc⟩ : ∃ b off, a = some ⟨b, off, none⟩ ∧ b < w.heap.size ∧ ∀ i (h : i < ys.length), w.cell? ⟨b, off + i, none⟩ = some (.int .u8 ((ys[i]'h).toNat : Int)) := by
      rcases hr with h | h
      · exact absurd h h0
      · exact h
    obtain ⟨v', w', hrun, h2, h3, _, h5⟩ := run_append_own_at (P := Tryz.prog) w B 126 ty 5 i0 (.int .u8 0) 1 1 Tryz.underlying126 hi hz0 hz1 hz2 rfl (by decide) v xs.length (Lib.byteCells xs) hown ⟨b, off, none⟩ ys.length c (Lib.byteCells ys)
      (by rw [length_byteCells]; omega) (rd_cells' hr) (one_bytes ys) (by unfold maxLen; omega) (by omega) hB
    refine ⟨v', w', hrun, ?_, h3, h5⟩
    unfold OwB
    rw [List.length_append, show Lib.byteCells (xs ++ ys) = Lib.byteCells xs ++ Lib.byteCells ys from by simp [Lib.byteCells]]
    exact h2
theorem wpList_appB {ops : Array Oper} {rest : List Oper} {o : Oper} {ac : Act} {Q : Exit → Act → World → Prop} (hgd : o.guard = none) (s x : Operand)
    (ho : o.op = .call { callee := .builtin .append, args := #[s, x], argTypes := #[126, 126] })
    (B : Nat) (v : Value) (xs : List UInt8) (a : Option Addr) (m c : Nat) (ys : List UInt8) (hs : ac.eval s = v) (hx : ac.eval x = .slice a m c)
    (hown : OwB w B v xs) (hr : RdB w a ys) (hm : m = ys.length) (hle : xs.length + ys.length ≤ 140737488355328) (hB : B ≤ w.heap.size)
    (K : ∀ v' w', OwB w' B v' (xs ++ ys) → w.grownBy w' v.ownBlock → (v'.ownBlock = v.ownBlock ∨ v'.ownBlock = some w.heap.size) → wpList Tryz.prog ops Q rest (ac.put o.dst v') w') :
    wpList Tryz.prog ops Q (o :: rest) ac w := by
  refine wpList_plain hgd fun K' hK => ?_
  obtain ⟨v', w', hrun, h2, h3, h4⟩ := run_appB (w := w) o.type xs.length m c rfl hown hr hm hle hB
  have := hK _ _ (K v' w' h2 h3 h4)
  unfold Oper.wp execOp
  simp only [ho, resolve, invoke, builtin, Sem.run_bind, Sem.run_pure, Result.andThen_ok, List.map_toArray, List.map_cons, List.map_nil, hs, hx, hrun]
  exact this
set_option maxRecDepth 10000 in
/-- append within the capacity -/
theorem wpList_appB_fits {ops : Array Oper} {rest : List Oper} {o : Oper} {ac : Act} {Q : Exit → Act → World → Prop} (hgd : o.guard = none) (s x : Operand)
    (ho : o.op = .call { callee := .builtin .append, args := #[s, x], argTypes := #[126, 126] })
    (B g n cap : Nat) (xs : List UInt8) (a : Option Addr) (m c : Nat) (ys : List UInt8) (hs : ac.eval s = .slice (some ⟨g, 0, none⟩) n cap) (hx : ac.eval x = .slice a m c)
    (hown : OwB w B (.slice (some ⟨g, 0, none⟩) n cap) xs) (hr : RdB w a ys) (hm : m = ys.length) (hfit : n + m ≤ cap)
    (K : ∀ w', OwB w' B (.slice (some ⟨g, 0, none⟩) (n + m) cap) (xs ++ ys) → w.grownBy w' (some g) → wpList Tryz.prog ops Q rest (ac.put o.dst (.slice (some ⟨g, 0, none⟩) (n + m) cap)) w') :
    wpList Tryz.prog ops Q (o :: rest) ac w := by
  obtain ⟨i0, hi, hz0, hz1, hz2⟩ := info_parts byteInfo
  have hn : n = xs.length := by
    rcases hown.2 with ⟨e1, e2⟩ | ⟨g, cap, cur, e, _⟩
    · cases e1
    · injection e
  subst hm hn
  by_cases h0 : ys = []
  · subst h0
    refine wpList_plain hgd fun K' hK => ?_
    have := hK _ _ (K w (by rw [List.append_nil]; exact hown) (World.grownBy.refl w _))
    have hnc : xs.length ≤ cap := by simp at hfit; exact hfit
    have hrun : (Builtin.append_ #[126, 126] o.type #[.slice (some ⟨g, 0, none⟩) xs.length cap, .slice a ([] : List UInt8).length c]).run Tryz.prog w = .ok (.slice (some ⟨g, 0, none⟩) (xs.length + ([] : List UInt8).length) cap) w := by
      cases a <;> simp [Builtin.append_, run_underlying Tryz.underlying126, sizeOf, typeInfo, hi, Builtin.lenOf, Builtin.firstCells, hnc, storeCells, loadCells, loadCellsFrom]
    unfold Oper.wp execOp
    simp only [ho, resolve, invoke, builtin, Sem.run_bind, Sem.run_pure, Result.andThen_ok, List.map_toArray, List.map_cons, List.map_nil, hs, hx, hrun]
    exact this
  · obtain ⟨b, off, rfl, hlt, hc⟩ : ∃ b off, a = some ⟨b, off, none⟩ ∧ b < w.heap.size ∧ ∀ i (h : i < ys.length), w.cell? ⟨b, off + i, none⟩ = some (.int .u8 ((ys[i]'h).toNat : Int)) := by
      rcases hr with h | h
      · exact absurd h h0
      · exact h
    refine wpList_append_fits w hgd s x 126 ho B 5 i0 1 Tryz.underlying126 hi hz1 g xs.length cap (Lib.byteCells xs) hs hown ⟨b, off, none⟩ ys.length c (Lib.byteCells ys) hx (by rw [length_byteCells]; omega) (rd_cells' hr) (one_bytes ys) hfit fun w' h1 h2 => K w' ?_ h2
    unfold OwB
    rw [List.length_append, show Lib.byteCells (xs ++ ys) = Lib.byteCells xs ++ Lib.byteCells ys from by simp [Lib.byteCells]]
    exact h1
theorem rd_one (w : World) (c : Int) (u : UInt8) (hc : c = (u.toNat : Int)) : RdB (w.alloc (.cells #[.int .u8 c] 5)) (some ⟨w.heap.size, 0, none⟩) [u] := by
  subst hc
  refine .inr ⟨w.heap.size, 0, rfl, by simp, fun i hi => ?_⟩
  have hi0 : i = 0 := by simpa using hi
  subst hi0
  exact (Blk.new w 5 #[.int .u8 (u.toNat : Int)]).cell 0
end
end Go.Proofs.YtmnmnnocgimcpaaGreatDoor
