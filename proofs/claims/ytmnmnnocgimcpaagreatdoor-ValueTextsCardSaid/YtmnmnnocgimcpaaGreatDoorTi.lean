/- A slice of items that came in: a row of items. -/
import Derived.Test.YtmnmnnocgimcpaaGreatDoorTr
import Derived.OpenShut
import Derived.Deep.Slices
import Derived.SizedLaws
import Derived.DataReads
namespace Go.Proofs.YtmnmnnocgimcpaaGreatDoor
open Go.RowKit
section
variable {H : Type} {enc : TypeId × Value → H} {w : World} {base : Nat} {sp : Nat → Bool} {held : Bool}
set_option maxRecDepth 100000 in
theorem it_cells {fuel : Nat} {cs : List Value} {d : DataW H} {p : List MemPlace} (h : DataW.trod enc Tryz.prog w base sp held fuel 37 cs = some (d, p)) :
    ∃ x : It, cs = itC x ∧ x.text.size ∈ d.weights Tryz.prog 37 := by
  obtain ⟨xs, n, _, hx, hl, hn, hf⟩ := DataW.trod_struct Tryz.underlying37 h
  have hl4 : cs.length = 4 := hl.trans (by kernel_rfl)
  have f0 : DataW.trod enc Tryz.prog w base sp held n 35 (List.take (Tryz.prog.cellsOf 35) (List.drop 0 cs)) = xs[0]? := hf 0 _ rfl
  have f1 : DataW.trod enc Tryz.prog w base sp held n 2 (List.take (Tryz.prog.cellsOf 2) (List.drop 1 cs)) = xs[1]? := hf 1 _ rfl
  have f2 : DataW.trod enc Tryz.prog w base sp held n 9 (List.take (Tryz.prog.cellsOf 9) (List.drop 2 cs)) = xs[2]? := hf 2 _ rfl
  have f3 : DataW.trod enc Tryz.prog w base sp held n 3 (List.take (Tryz.prog.cellsOf 3) (List.drop 3 cs)) = xs[3]? := hf 3 _ rfl
  have c0 : Tryz.prog.cellsOf 35 = 1 := by kernel_rfl
  have c1 : Tryz.prog.cellsOf 2 = 1 := by kernel_rfl
  have c2 : Tryz.prog.cellsOf 9 = 1 := by kernel_rfl
  have c3 : Tryz.prog.cellsOf 3 = 1 := by kernel_rfl
  obtain ⟨x0, x1, x2, x3, rfl⟩ : ∃ x0 x1 x2 x3, cs = [x0, x1, x2, x3] := by
    match cs, hl4 with
    | [x0, x1, x2, x3], _ => exact ⟨_, _, _, _, rfl⟩
  obtain ⟨y0, y1, y2, y3, rfl⟩ : ∃ y0 y1 y2 y3, xs = [y0, y1, y2, y3] := by
    match xs, hn with
    | [y0, y1, y2, y3], _ => exact ⟨_, _, _, _, rfl⟩
  simp only [c0, c1, c2, c3, List.drop_zero, List.drop_succ_cons, List.take_succ_cons, List.take_zero, List.getElem?_cons_zero, List.getElem?_cons_succ] at f0 f1 f2 f3
  obtain ⟨n0, e0, g0, w0⟩ := DataW.trod_int Tryz.underlying35 f0
  obtain ⟨n1, e1, g1, _⟩ := DataW.trod_int Tryz.underlying2 f1
  obtain ⟨s2, e2, g2, _⟩ := DataW.trod_string Tryz.underlying9 f2
  obtain ⟨n3, e3, g3, _⟩ := DataW.trod_int Tryz.underlying3 f3
  subst g0 g1 g2 g3
  simp only [List.cons.injEq, and_true] at e0 e1 e2 e3
  subst e0 e1 e2 e3
  obtain ⟨q, hq⟩ := Int.eq_ofNat_of_zero_le (show 0 ≤ n0 from (bounds_u8 w0).1)
  subst hq
  refine ⟨⟨q, n1, s2, n3⟩, rfl, ?_⟩
  have hd := congrArg Prod.fst hx
  simp only [List.map_cons, List.map_nil] at hd
  subst hd
  have hw : DataW.weights Tryz.prog 37 (.agg [.lit (.int .u8 (q : Int)), .lit (.int .i64 n1), .lit (.string s2.data.toList), .lit (.int .i64 n3)] : DataW H) = [s2.data.toList.length] := by
    unfold DataW.weights
    rw [Tryz.underlying37]
    rfl
  show s2.size ∈ DataW.weights Tryz.prog 37 _
  have hz : s2.data.toList.length = s2.size := Array.length_toList
  exact hw ▸ (by rw [hz]; exact List.mem_singleton.2 rfl)
end
theorem weights_all {H : Type} {P : Program} {e : TypeId} : ∀ {l : List (DataW H)} {d : DataW H}, d ∈ l → ∀ n ∈ d.weights P e, n ∈ DataW.weightsAll P e l
  | x :: r, d, hd, n, hn => by
    unfold DataW.weightsAll
    rw [List.mem_append]
    rcases List.mem_cons.1 hd with rfl | hd
    · exact .inl hn
    · exact .inr (weights_all hd n hn)
theorem add_add (x : Addr) (a b : Nat) : (x.add a).add b = x.add (a + b) := by
  unfold Addr.add
  by_cases ha : a = 0
  · subst ha; simp
  · by_cases hb : b = 0
    · subst hb; simp
    · have hab : ¬ a + b = 0 := by omega
      simp [ha, hb, Nat.add_assoc]
/-- the first n items of a row -/
theorem items_list (w : World) (x : Addr) : ∀ n : Nat, (∀ i, i < n → ∃ y : It, (∀ j, j < 4 → w.cell? (x.add (i * 4 + j)) = (itC y)[j]?) ∧ y.text.size ≤ 140737488355328) →
    ∃ l : List It, l.length = n ∧ (∀ i y, l[i]? = some y → ∀ j, j < 4 → w.cell? (x.add (i * 4 + j)) = (itC y)[j]?) ∧ ∀ y ∈ l, y.text.size ≤ 140737488355328
  | 0, _ => ⟨[], rfl, fun i y h => by simp at h, fun y h => by cases h⟩
  | n + 1, h => by
    obtain ⟨l, hl, hc, hs⟩ := items_list w x n fun i hi => h i (by omega)
    obtain ⟨y, hy, hys⟩ := h n (by omega)
    refine ⟨l ++ [y], by simp [hl], fun i z hz => ?_, fun z hz => ?_⟩
    · by_cases hi : i < n
      · rw [List.getElem?_append_left (by omega)] at hz
        exact hc i z hz
      · have hi2 : i = n := by
          have := (List.getElem?_eq_some_iff.1 hz).1
          simp [hl] at this; omega
        subst hi2
        rw [List.getElem?_append_right (by omega), hl] at hz
        simp at hz
        subst hz
        exact hy
    · rcases List.mem_append.1 hz with hz | hz
      · exact hs z hz
      · rw [List.mem_singleton] at hz; subst hz; exact hys
theorem icells_at : ∀ (l : List It) (t : Nat) (u : Value), (icells l)[t]? = some u → ∃ i j y, t = i * 4 + j ∧ j < 4 ∧ l[i]? = some y ∧ (itC y)[j]? = some u
  | [], t, u, h => by simp [icells] at h
  | x :: l, t, u, h => by
    rw [icells_cons] at h
    by_cases ht : t < 4
    · rw [List.getElem?_append_left (by simp [itC]; omega)] at h
      exact ⟨0, t, x, by omega, ht, rfl, h⟩
    · rw [List.getElem?_append_right (by simp [itC]; omega)] at h
      obtain ⟨i, j, y, h1, h2, h3, h4⟩ := icells_at l _ u h
      have : (itC x).length = 4 := rfl
      exact ⟨i + 1, j, y, by omega, h2, by simpa using h3, h4⟩
/-- a slice of items that came in -/
theorem items_of {H : Type} {enc : TypeId × Value → H} {W : World} {d : DataW H} {p : List MemPlace} {a : Option Addr} {n c : Nat} (h : DataW.Trod enc Tryz.prog W 0 (fun _ => true) true 25 (.slice a n c) d p)
    (hsz : ∀ k ∈ d.weights Tryz.prog 25, k ≤ reachBytes) : ∃ l : List It, n = l.length ∧ OkA W ⟨a, l, c⟩ := by
  obtain ⟨fuel, hf⟩ := h
  rcases Go.Deep.open_slice Tryz.underlying25 hf with ⟨hcs, _⟩ | ⟨x, len, cap, m, k, D, Pl, hcs, _, hle, _, hm, hx, hel⟩
  · simp [Value.cells] at hcs
    obtain ⟨rfl, rfl, rfl⟩ := hcs
    exact ⟨[], rfl, .inl rfl, fun y hy => (by cases hy), (by decide)⟩
  · simp [Value.cells] at hcs
    obtain ⟨rfl, rfl, rfl⟩ := hcs
    have hm2 : c = m := by simpa using hm.symm
    clear hm
    subst hm2
    have c4 : Tryz.prog.cellsOf 37 = 4 := by kernel_rfl
    have b40 : Tryz.prog.bytesOf 37 = 40 := by kernel_rfl
    have hd := congrArg Prod.fst hx
    simp only at hd
    subst hd
    have hu := Tryz.underlying25
    have hw : DataW.weights Tryz.prog 25 (.slice ((List.range n).map D) ((List.range (c - n)).map fun j => D (n + j)) : DataW H) = (((List.range n).map D).length + ((List.range (c - n)).map fun j => D (n + j)).length) * Tryz.prog.bytesOf 37 :: (DataW.weightsAll Tryz.prog 37 ((List.range n).map D) ++ DataW.weightsAll Tryz.prog 37 ((List.range (c - n)).map fun j => D (n + j))) := by
      conv => lhs; unfold DataW.weights
      rw [hu]
    rw [hw] at hsz
    have hn := hsz _ (List.mem_cons_self ..)
    rw [b40] at hn
    simp [reachBytes] at hn
    have hit : ∀ i, i < n → ∃ y : It, (∀ j, j < 4 → W.cell? (x.add (i * 4 + j)) = (itC y)[j]?) ∧ y.text.size ≤ 140737488355328 := by
      intro i hi
      obtain ⟨cs', h1, h2⟩ := hel i (by omega)
      rw [c4] at h1
      obtain ⟨_, hl4, hcell⟩ := World.cells?_some h1
      obtain ⟨y, hy, hyw⟩ := it_cells h2
      refine ⟨y, fun j hj => ?_, ?_⟩
      · rw [← hy, ← hcell j hj, add_add]
      · have hin : y.text.size ∈ DataW.weightsAll Tryz.prog 37 ((List.range n).map D) := weights_all (List.mem_map.2 ⟨i, List.mem_range.2 hi, rfl⟩) _ hyw
        have := hsz _ (List.mem_cons_of_mem _ (List.mem_append_left _ hin))
        simp [reachBytes] at this
        omega
    obtain ⟨l, hl, hc, hs⟩ := items_list W x n hit
    refine ⟨l, hl.symm, ?_, hs, by rw [hl]; omega⟩
    by_cases h0 : l = []
    · subst h0; exact .inl rfl
    · obtain ⟨y0, hy0⟩ : ∃ y0, l[0]? = some y0 := by
        cases l with
        | nil => exact absurd rfl h0
        | cons y r => exact ⟨y, rfl⟩
      have hc0 := hc 0 y0 hy0 0 (by decide)
      obtain ⟨b, off, spot⟩ := x
      have hspot : spot = none := by simpa [Addr.add, itC] using World.cell?_spot (hc0.trans rfl)
      subst hspot
      have hb : b < W.heap.size := by
        rcases Nat.lt_or_ge b W.heap.size with h | h
        · exact h
        · simp [Addr.add, World.cell?, Array.getElem?_eq_none h, itC] at hc0
      refine .inr ⟨b, off, rfl, hb, fun t u ht => ?_⟩
      obtain ⟨i, j, y, rfl, hj, hy, hu⟩ := icells_at l t u ht
      have := hc i y hy j hj
      rw [addr_add] at this
      rw [this, hu]
end Go.Proofs.YtmnmnnocgimcpaaGreatDoor
