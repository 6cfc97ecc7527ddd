/- Rows of byte slices that grow within a region that draws its order: append(append(append([][]byte{}, row[:k]...), l), row[k:]...). -/
import Derived.Test.YtofbcgehemclbaaLb5
import Derived.Test.YtofbcgehemclbaaLp
namespace Go.Proofs.Ytofbcgehemclbaa
open Go.RowKit Bm
/-- a world goes on: below B all stays; from B on, a cell of a row of slices stays if it lies ahead of k, or is T's -/
structure RL (B : Nat) (T : List Value) (k : Nat) (w w' : World) : Prop where
  hB : B ≤ w.heap.size
  be : Below B w w'
  own : ∀ (g : Nat) (cur : Array Value), B ≤ g → w.heap[g]? = some (.cells cur 22 (0, 0)) →
    ∃ cur', w'.heap[g]? = some (.cells cur' 22 (0, 0)) ∧ cur'.size = cur.size ∧ ∀ i v, cur[i]? = some v → (i < k ∨ T[i]? = some v) → cur'[i]? = some v
section
variable {B k : Nat} {T : List Value} {w w' : World}
theorem RL.refl (h : B ≤ w.heap.size) : RL B T k w w := ⟨h, Below.refl _ _, fun g cur _ hg => ⟨cur, hg, rfl, fun _ _ h _ => h⟩⟩
theorem RL.again {w0 : World} (h : RL B T k w0 w) : RL B T k w w := RL.refl (Nat.le_trans h.hB h.be.size)
theorem RL.trans {w1 w2 w3 : World} (h : RL B T k w1 w2) (j : RL B T k w2 w3) : RL B T k w1 w3 :=
  ⟨h.hB, h.be.trans j.be, fun g cur hB hg => by
    obtain ⟨c1, h1, h2, h3⟩ := h.own g cur hB hg
    obtain ⟨c2, h4, h5, h6⟩ := j.own g c1 hB h1
    exact ⟨c2, h4, by rw [h5, h2], fun i v hv hc => h6 i v (h3 i v hv hc) hc⟩⟩
theorem RL.below (h : B ≤ w.heap.size) (hb : Below w.heap.size w w') : RL B T k w w' := ⟨h, hb.mono h, fun g cur _ hg => ⟨cur, heap_keep hg hb, rfl, fun _ _ h _ => h⟩⟩
theorem RL.next {w0 : World} (h : RL B T k w0 w) (hb : Below w.heap.size w w') : RL B T k w w' := RL.below (Nat.le_trans h.hB h.be.size) hb
theorem RL.owns {v : Value} {n : Nat} {xs : List Value} (h : RL B T k w w') (ho : w.ownsRow B 22 1 v n xs) (hx : ∀ i u, xs[i]? = some u → i < k ∨ T[i]? = some u) : w'.ownsRow B 22 1 v n xs := by
  refine ⟨ho.1, ?_⟩
  rcases ho.2 with h1 | ⟨g, cap, cur, h1, h2, h3, h4, h5, h6, h7⟩
  · exact .inl h1
  · obtain ⟨c1, e1, e2, e3⟩ := h.own g cur h2 h3
    refine .inr ⟨g, cap, c1, h1, h2, e1, h4, h5, by rw [e2, h6], ?_⟩
    apply List.ext_getElem?
    intro i
    by_cases hi : i < n * 1
    · have hx1 : i < xs.length := by rw [ho.1]; exact hi
      have hc : cur[i]? = some xs[i] := by
        have := congrArg (fun l => l[i]?) h7
        simp only [List.getElem?_take, if_pos hi, Array.getElem?_toList, List.getElem?_eq_getElem hx1] at this
        exact this
      rw [List.getElem?_take, if_pos hi, Array.getElem?_toList, e3 i _ hc (hx i _ (List.getElem?_eq_getElem hx1)), List.getElem?_eq_getElem hx1]
    · rw [List.getElem?_take, if_neg hi, List.getElem?_eq_none (by rw [ho.1]; omega)]
end
theorem alloc_below (w : World) (o : Obj) : Below w.heap.size w (w.drew.alloc o) := ((Below.refl w.heap.size w).drew).alloc (Nat.le_refl _) _
/-- append onto an own row of slices -/
theorem run_appL {B k : Nat} {T : List Value} {w w0 : World} (v : Value) (n : Nat) (xs ys : List Value) (a : Option Addr) (m c : Nat) (ty : TypeId) (hR : RL B T k w0 w) (ho : w.ownsRow B 22 1 v n xs) (hr : Rd w a ys) (hm : m = ys.length)
    (hone : ∀ u ∈ ys, u.oneCell' = true) (hk : k ≤ n ∨ ys = [] ∨ ∃ a0 c0, v = .slice a0 n c0 ∧ c0 < n + m) (hT : ∀ i u, ys[i]? = some u → T[n + i]? = some u) (hle : n + m ≤ 1048576) :
    ∃ v' w', (Builtin.append_ #[25, 25] ty #[v, .slice a m c]).run Try.prog w = .ok v' w' ∧ w'.ownsRow B 22 1 v' (n + m) (xs ++ ys) ∧ RL B T k w w' := by
  obtain ⟨i0, hi, hz0, hz1, hz2⟩ := info_parts pieceInfo
  have hBw : B ≤ w.heap.size := Nat.le_trans hR.hB hR.be.size
  by_cases h0 : ys = []
  · subst h0
    simp only [List.length_nil] at hm
    subst hm
    refine ⟨v, w, ?_, by rw [List.append_nil]; exact ho, RL.refl hBw⟩
    rcases ho.2 with ⟨rfl, _⟩ | ⟨g, cap, cur, rfl, _, _, hnc, _⟩
    · cases a <;> simp [Builtin.append_, run_underlying Try.underlying25, sizeOf, typeInfo, hi, Builtin.lenOf, Builtin.firstCells, storeCells, loadCells, loadCellsFrom]
    · cases a <;> simp [Builtin.append_, run_underlying Try.underlying25, sizeOf, typeInfo, hi, Builtin.lenOf, Builtin.firstCells, hnc, storeCells, loadCells, loadCellsFrom]
  · have hkn : k ≤ n ∨ ∃ a0 c0, v = .slice a0 n c0 ∧ c0 < n + m := by
      rcases hk with h | h | h
      · exact .inl h
      · exact absurd h h0
      · exact .inr h
    obtain ⟨b, off, rfl, hlt, hc⟩ := hr.addrAt h0
    have hnews := hr.news
    have hl : ys.length = m * i0.size := by rw [hz1, Nat.mul_one, hm]
    have hm0 : 0 < m := by rw [hm]; exact List.length_pos_iff.2 h0
    have hlen : (xs ++ ys).length = (n + m) * 1 := by rw [List.length_append, ho.1, hm]; omega
    -- what a growing arm leaves
    have grown : ∀ (old : Nat), (w.drew.alloc (.cells (xs.toArray ++ ys.toArray ++ Builtin.zeroCells (Value.slice none 0 0).cells (grownCap w (n + m) old 22 - (n + m))) 22)).ownsRow B 22 1
        (.slice (some ⟨w.heap.size, 0, none⟩) (n + m) (grownCap w (n + m) old 22)) (n + m) (xs ++ ys) := by
      intro old
      have hge := grownCap_ge w (n + m) old 22
      have hcm : grownCap w (n + m) old 22 ≤ maxLen := grownCap_le_maxLen w (n + m) old 22 (by unfold maxLen; omega)
      refine ⟨hlen, .inr ⟨w.heap.size, _, _, rfl, hBw, heap_alloc_new w.drew _, hge, hcm, ?_, ?_⟩⟩
      · simp only [Array.size_append, List.size_toArray, size_zeroCells, ho.1, ← hm]
        have : (Value.slice none 0 0).cells.size = 1 := rfl
        rw [this]; omega
      · simp only [Array.toList_append, List.append_assoc]
        rw [← List.append_assoc, ← hlen]
        exact List.take_left
    rcases ho.2 with ⟨rfl, rfl⟩ | ⟨g, cap, cur, rfl, hbg, hg, hnc, hcm, hcs, htake⟩
    · have hx : xs = [] := List.eq_nil_of_length_eq_zero (by simpa using ho.1)
      subst hx
      have hrun := run_append_nil (P := Try.prog) w 25 ty 22 i0 _ Try.underlying25 hi hz0 ⟨b, off, none⟩ m c ys hl hnews hm0 (by omega) (by rw [hz2]; omega)
      have hgr := grown 0
      simp only [Nat.zero_add, List.nil_append, Array.empty_append] at hgr ⊢
      exact ⟨_, _, hrun, hgr, RL.below hBw (alloc_below _ _)⟩
    · by_cases hroom : n + m ≤ cap
      · have hkn : k ≤ n := by
          rcases hkn with h | ⟨a0, c0, h1, h2⟩
          · exact h
          · injection h1 with _ _ h3
            omega
        have hfit : n * i0.size + ys.length ≤ cur.size := by rw [hz1, hcs, ← hm]; omega
        have hrun := run_append_room (P := Try.prog) w 25 ty 22 i0 Try.underlying25 hi g n cap cur hg ⟨b, off, none⟩ m c ys hl hnews hone hroom hfit
        rw [hz1, Nat.mul_one] at hrun hfit
        refine ⟨_, _, hrun, ⟨hlen, .inr ⟨g, cap, _, rfl, hbg, setRow_heap w g cur _ _ _ hg, hroom, hcm, ?_, ?_⟩⟩, hBw, ⟨rfl, rfl, rfl, by simp [World.setRow], fun j hj => setRow_other w g j _ (by omega)⟩, ?_⟩
        · simp only [List.size_toArray, List.length_append, List.length_take, List.length_drop, Array.length_toList]
          omega
        · rw [Nat.mul_one] at htake
          rw [htake, ← hlen]
          exact List.take_left
        · intro g' cur' hb' hg'
          by_cases e : g' = g
          · subst e
            rw [hg] at hg'
            injection hg' with hg'
            injection hg' with e1 _ _
            subst e1
            refine ⟨_, setRow_heap w g' cur _ _ _ hg, ?_, fun i u hu hcnd => ?_⟩
            · simp only [List.size_toArray, List.length_append, List.length_take, List.length_drop, Array.length_toList]; omega
            · have hi2 : i < cur.size := by
                rcases Nat.lt_or_ge i cur.size with h | h
                · exact h
                · rw [Array.getElem?_eq_none h] at hu; cases hu
              have hta : (cur.toList.take n).length = n := by rw [List.length_take, Array.length_toList]; omega
              rw [List.getElem?_toArray, List.append_assoc]
              by_cases h1 : i < n
              · rw [List.getElem?_append_left (by rw [hta]; exact h1), List.getElem?_take, if_pos h1, Array.getElem?_toList]; exact hu
              · rw [List.getElem?_append_right (by rw [hta]; omega), hta]
                by_cases h2 : i - n < ys.length
                · rw [List.getElem?_append_left h2]
                  have h3 : T[i]? = some u := by
                    rcases hcnd with h | h
                    · omega
                    · exact h
                  have h4 := hT (i - n) _ (List.getElem?_eq_getElem h2)
                  rw [show n + (i - n) = i from by omega, h3] at h4
                  rw [List.getElem?_eq_getElem h2]; exact h4.symm
                · rw [List.getElem?_append_right (by omega), List.getElem?_drop, Array.getElem?_toList, show n + ys.length + (i - n - ys.length) = i from by omega]
                  exact hu
          · exact ⟨cur', by rw [setRow_other w g g' _ e]; exact hg', rfl, fun _ _ h _ => h⟩
      · have holds : ∀ j u, xs[j]? = some u → w.cell? ((⟨g, 0, none⟩ : Addr).add j) = some u := ho.cells (g := g) rfl
        have hrun := run_append_grow (P := Try.prog) w 25 ty 22 i0 _ Try.underlying25 hi hz0 ⟨g, 0, none⟩ n cap xs (by rw [hz1]; exact ho.1) holds ⟨b, off, none⟩ m c ys hl hnews (by omega) (by omega) (by rw [hz2]; exact growslice_fits (by omega) (by omega))
        exact ⟨_, _, hrun, grown cap, RL.below hBw (alloc_below _ _)⟩
/-- a slot holds an own row -/
def rowL (B : Nat) (T : List Value) (k s n : Nat) (xs : List Value) (hx : ∀ i u, xs[i]? = some u → i < k ∨ T[i]? = some u) : FactU (RL B T k) := ⟨[s], fun u w => w.ownsRow B 22 1 (u s) n xs,
  fun _ _ _ _ hs hR h => by rw [hs s (by simp)]; exact hR.owns h hx⟩
def row0 (B : Nat) (T : List Value) (k s : Nat) : FactU (RL B T k) := ⟨[s], fun u w => (∃ a, u s = .slice a 0 0) ∧ w.ownsRow B 22 1 (u s) 0 [],
  fun _ _ _ _ hs hR h => by rw [hs s (by simp)]; exact ⟨h.1, hR.owns h.2 (fun i u hu => by simp at hu)⟩⟩
def eqL (B : Nat) (T : List Value) (k s : Nat) (v : Value) : FactU (RL B T k) := ⟨[s], fun u _ => u s = v, fun _ _ _ _ hs _ hf => by rw [hs s (by simp)]; exact hf⟩
section
variable {K : Value → World → Prop} {u : Nat → Value} {o : Oper} {w : World}
theorem upon_build0L (h : o.op = .buildSlice 25 0 #[]) (hk : K (.slice (some ⟨w.heap.size, 0, none⟩) 0 0) (w.alloc (.cells #[] 22 (0, 0)))) : uponU K Try.prog ((execOp (evU u) o).run Try.prog w) := by
  have hr : (execOp (evU u) o).run Try.prog w = .ok (.value (.slice (some ⟨w.heap.size, 0, none⟩) 0 0)) (w.alloc (.cells #[] 22 (0, 0))) := by
    unfold execOp
    simp [go_sem, h]
    first | rfl | skip
  rw [hr]; exact hk
theorem upon_build1L (x : Operand) (a : Option Addr) (n c : Nat) (h : o.op = .buildSlice 25 1 #[(0, x)]) (hx : evU u x = .slice a n c)
    (hk : K (.slice (some ⟨w.heap.size, 0, none⟩) 1 1) (w.alloc (.cells #[.slice a n c] 22 (0, 0)))) : uponU K Try.prog ((execOp (evU u) o).run Try.prog w) := by
  have hr : (execOp (evU u) o).run Try.prog w = .ok (.value (.slice (some ⟨w.heap.size, 0, none⟩) 1 1)) (w.alloc (.cells #[.slice a n c] 22 (0, 0))) := by
    unfold execOp
    simp [go_sem, h, hx]
  rw [hr]; exact hk
end
end Go.Proofs.Ytofbcgehemclbaa
