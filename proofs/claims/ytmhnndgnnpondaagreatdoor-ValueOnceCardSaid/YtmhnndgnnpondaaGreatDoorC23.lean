/- slices.CompactFunc at rows of items. slices.CompactFunc at rows of items: the walk. A row in order, compacted, is what Nodes answers. slices.Contains, Clone, Reverse at rows of items. value.Nodes. -/
import Derived.Test.YtmhnndgnnpondaaGreatDoorC22
import Derived.Lib.SliceRun
import Derived.Test.YtmhnndgnnpondaaGreatDoorC20
import Derived.Test.YtmhnndgnnpondaaGreatDoorC13
import Derived.Test.YtmhnndgnnpondaaGreatDoorC09
import Derived.Test.YtmhnndgnnpondaaGreatDoorC10
import Derived.Shelf.SlicesQ.Contains
import Derived.Shelf.SlicesQ.Reverse
import Derived.Test.YtmhnndgnnpondaaGreatDoorC14
namespace Go.Proofs.YtmhnndgnnpondaaGreatDoor
open Go.RowKit Go.Shelf Go.Lib Go.Sort
theorem cmpL_add : ∀ (n : Nat) (L : List It) (z : Int) (y : It), L.length = n → (L.getLast?).map It.node = some z → cmpL (L ++ [y]) = if z = y.node then cmpL L else cmpL L ++ [y]
 | 0, [], _, _, _, h => by simp at h
 | _, [x], z, y, _, h => by
  simp at h
  subst h
  show cmpL [x, y] = if x.node = y.node then cmpL [x] else cmpL [x] ++ [y]
  have e : cmpL [x, y] = if x.node = y.node then cmpL [x] else x :: cmpL [y] := by conv => lhs; rw [cmpL]
  have e1 : ∀ u : It, cmpL [u] = [u] := fun u => by rw [cmpL]
  rw [e, e1, e1]
  rfl
 | 0, _ :: _ :: _, _, _, h, _ => by simp at h
 | n + 1, a :: x :: r, z, y, hl, h => by
  have hz : ((x :: r).getLast?).map It.node = some z := by rw [← h]; rw [List.getLast?_cons_cons]
  show cmpL (a :: x :: (r ++ [y])) = if z = y.node then cmpL (a :: x :: r) else cmpL (a :: x :: r) ++ [y]
  rw [cmpL, show cmpL (a :: x :: r) = if a.node = x.node then cmpL (a :: r) else a :: cmpL (x :: r) from by rw [cmpL]]
  by_cases e : a.node = x.node
  ·rw [if_pos e, if_pos e]
   refine cmpL_add n (a :: r) z y (by simp at hl ⊢; omega) ?_
   cases r with
   | nil => simp at hz ⊢; rw [e]; exact hz
   | cons b r => rw [List.getLast?_cons_cons] at hz ⊢; exact hz
  ·rw [if_neg e, if_neg e]
   have := cmpL_add n (x :: r) z y (by simp at hl ⊢; omega) hz
   rw [show x :: (r ++ [y]) = x :: r ++ [y] from rfl, this]
   split
   ·rfl
   ·rfl
theorem take_last {l : List It} {j : Nat} (h1 : 0 < j) (h2 : j ≤ l.length) : ((l.take j).getLast?).map It.node = some (l[j - 1]!).node := by
 rw [List.getLast?_eq_getElem?, List.length_take, Nat.min_eq_left h2, List.getElem?_take, if_pos (by omega), List.getElem?_eq_getElem (by omega), getElem!_pos l (j - 1) (by omega)]
 rfl
theorem cmpL_next {l : List It} {j : Nat} (h1 : 0 < j) (h2 : j < l.length) : cmpL (l.take (j + 1)) = if (l[j]!).node = (l[j - 1]!).node then cmpL (l.take j) else cmpL (l.take j) ++ [l[j]!] := by
 have e : l.take (j + 1) = l.take j ++ [l[j]!] := by rw [List.take_add_one, List.getElem?_eq_getElem h2, getElem!_pos l j h2]; rfl
 rw [e, cmpL_add _ _ _ _ rfl (take_last h1 (Nat.le_of_lt h2))]
 by_cases c : (l[j - 1]!).node = (l[j]!).node
 ·rw [if_pos c, if_pos c.symm]
 ·rw [if_neg c, if_neg (fun h => c h.symm)]
structure CI (d0 d : Array It) (x kk : Nat) : Prop where
 size : d.size = d0.size
 lt : kk < x
 hi : ∀ i, x ≤ i + 1 → d[i]! = d0[i]!
 lo : d.toList.take kk = cmpL (d0.toList.take x)
theorem toList_get! (d : Array It) (i : Nat) : d.toList[i]! = d[i]! := by
 by_cases h : i < d.size
 ·rw [getElem!_pos d i h, getElem!_pos d.toList i (by simpa using h)]; rfl
 ·rw [getElem!_neg d i h, getElem!_neg d.toList i (by simpa using h)]
theorem set_ne (d : Array It) (j i : Nat) (x : It) (h : j ≠ i) : (d.setIfInBounds j x)[i]! = d[i]! := by
 simp only [getElem!_def]
 rw [Array.getElem?_setIfInBounds_ne h]
theorem set_self (d : Array It) (i : Nat) (x : It) (h : i < d.size) : (d.setIfInBounds i x)[i]! = x := by
 simp only [getElem!_def]
 rw [Array.getElem?_setIfInBounds_self_of_lt h]
theorem CI.start {d0 : Array It} {x : Nat} (h1 : 0 < x) (h2 : x < d0.size) (h : cmpL (d0.toList.take x) = d0.toList.take x) (he : (d0[x]!).node = (d0[x - 1]!).node) : CI d0 d0 (x + 1) x := by
 refine ⟨rfl, by omega, fun _ _ => rfl, ?_⟩
 rw [cmpL_next h1 (by simpa using h2), toList_get!, toList_get!, if_pos he, h]
theorem CI.skip {d0 d : Array It} {x kk : Nat} (h : CI d0 d x kk) (h1 : 0 < x) (h2 : x < d0.size) (he : (d0[x]!).node = (d0[x - 1]!).node) : CI d0 d (x + 1) kk := by
 refine ⟨h.size, by have := h.lt; omega, fun i hi => h.hi i (by omega), ?_⟩
 rw [cmpL_next h1 (by simpa using h2), toList_get!, toList_get!, if_pos he, h.lo]
theorem CI.keep {d0 d : Array It} {x kk : Nat} (h : CI d0 d x kk) (h1 : 0 < x) (h2 : x < d0.size) (he : (d0[x]!).node ≠ (d0[x - 1]!).node) : CI d0 (d.setIfInBounds kk d0[x]!) (x + 1) (kk + 1) := by
 have hlt := h.lt
 refine ⟨by rw [Array.size_setIfInBounds]; exact h.size, by omega, fun i hi => ?_, ?_⟩
 ·rw [← h.hi i (by omega)]
  exact set_ne d kk i _ (by omega)
 ·rw [cmpL_next h1 (by simpa using h2), toList_get!, toList_get!, if_neg he, ← h.lo]
  have hk : kk < d.size := by rw [h.size]; omega
  rw [Array.toList_setIfInBounds, List.take_add_one, List.take_set_of_le (Nat.le_refl _), List.getElem?_set_self (by simpa using hk)]
  rfl
theorem keep_next {d0 : Array It} {x : Nat} (h1 : 0 < x) (h2 : x < d0.size) (h : cmpL (d0.toList.take x) = d0.toList.take x) (he : (d0[x]!).node ≠ (d0[x - 1]!).node) : cmpL (d0.toList.take (x + 1)) = d0.toList.take (x + 1) := by
 rw [cmpL_next h1 (by simpa using h2), toList_get!, toList_get!, if_neg he, h, List.take_add_one, List.getElem?_eq_getElem (by simpa using h2)]
 simp [h2]
structure CmpP (P : Program) (k : Nat) (z : Value) : Prop where
 tb : P.underlying 52 = some (TypeDesc.func #[31, 31] #[4] false)
 ab : ∀ w, (isAgg 52).run P w = .ok false w
 zb : ∀ w, (Go.sizeOf 52).run P w = .ok 1 w
 vb : ∀ w, (zeroValue 52).run P w = .ok (Value.nilFunc) w
 vE : ∀ w, (zeroValue 31).run P w = .ok z w
 cE : z.cells.size = k
 oE : ∀ n, ∀ v ∈ (Builtin.zeroCells z.cells n).toList, v.oneCell' = true
structure SE (P : Program) (k g : Nat) (enc : It → List Value) (blk off : Nat) (d0 : Array It) (w : World) : Prop where
 hk : ∀ x, (enc x).length = k
 h1 : ∀ x, ∀ v ∈ enc x, v.oneCell' = true
 hH : HoldsK enc k w blk off d0
 hblk : blk < w.heap.size
 hsz : d0.size < 4611686018427387904
 eg : ∀ args w, (callFunc g args).run P w = .ok (.enter g args) w
 heq : ∀ (W : World) (x y : It), Calls P g #[.agg (enc x).toArray, .agg (enc y).toArray] W fun e w' => e = .returned (.bool (x.node == y.node)) ∧ ∃ q os', w' = grow (W.drewN q) os'
def Ro (enc : It → List Value) (k : Nat) (blk off : Nat) (d0 : Array It) (w W : World) (d : Array It) : Prop := d.size = d0.size ∧ ∃ (q : Nat) (os : Array Obj), W = sortWorldK enc k w blk off q d os
theorem setMany_set (enc : It → List Value) (k : Nat) (hk : ∀ x, (enc x).length = k) (d : Array It) (i : Nat) (x : It) (hi : i < d.size) : setMany (flatK enc k d) (i * k) (enc x) = flatK enc k (d.setIfInBounds i x) := by
 refine ext_get! (by simp) fun t ht => ?_
 have ht' : t < d.size * k := by simpa using ht
 have k0 : 0 < k := by
  rcases Nat.eq_zero_or_pos k with h | h
  ·subst h; simp at ht'
  ·exact h
 rw [get_setMany _ _ _ t (by simpa using ht'), get_flatK _ _ _ t ht', get_flatK _ _ _ t (by rw [Array.size_setIfInBounds]; exact ht'), hk]
 by_cases a : t / k = i
 ·rw [if_pos ((blk_iff k i t k0).2 a)]
  subst a
  rw [show t - t / k * k = t % k from (Nat.mod_eq_sub_div_mul).symm]
  rw [set_self d _ x hi]
 ·rw [if_neg (fun h => a ((blk_iff k i t k0).1 h))]
  rw [set_ne d i _ x (fun h => a h.symm)]
section
variable {P : Program} {k g blk off : Nat} {enc : It → List Value} {d0 d : Array It} {w W : World}
theorem Ro.holds (B : SE P k g enc blk off d0 w) (h : Ro enc k blk off d0 w W d) : HoldsK enc k W blk off d := by
 obtain ⟨hs, q, os, rfl⟩ := h
 exact holdsK_sortWorldK_c enc k w blk off d0 d _ _ B.hH B.hblk hs
theorem Ro.start (B : SE P k g enc blk off d0 w) : Ro enc k blk off d0 w w d0 :=
 ⟨rfl, 0, #[], by unfold sortWorldK; rw [grow_empty]; exact (putRowK_self enc k w blk off d0 B.hH).symm⟩
theorem Ro.grown (h : Ro enc k blk off d0 w W d) (n : Nat) (os' : Array Obj) : Ro enc k blk off d0 w (grow (W.drewN n) os') d := by
 obtain ⟨hs, q, os, rfl⟩ := h
 rw [sortWorldK_grown_c]
 exact ⟨hs, _, _, rfl⟩
theorem Ro.eqs (B : SE P k g enc blk off d0 w) (h : Ro enc k blk off d0 w W d) {i j : Nat} (hi : i < d0.size) (hj : j < d0.size) :
  ∃ ci cj : Array Value,
   (∀ n os', Sem.run P (loadCellsFrom ⟨blk, off + i * k, none⟩ 0 k #[]) (grow (W.drewN n) os') = .ok ci (grow (W.drewN n) os')) ∧
   (∀ n os', Sem.run P (loadCellsFrom ⟨blk, off + j * k, none⟩ 0 k #[]) (grow (W.drewN n) os') = .ok cj (grow (W.drewN n) os')) ∧
   (∀ n os', Calls P g #[.agg ci, .agg cj] (grow (W.drewN n) os') fun e w' => e = .returned (.bool ((d[i]!).node == (d[j]!).node)) ∧ ∃ q os'', w' = grow ((grow (W.drewN n) os').drewN q) os'') ∧
   ∀ n os', Ro enc k blk off d0 w (grow (W.drewN n) os') d := by
 have hs := h.1
 have hi' : i < d.size := by rw [hs]; exact hi
 have hj' : j < d.size := by rw [hs]; exact hj
 exact ⟨(enc d[i]!).toArray, (enc d[j]!).toArray, fun n' os' => run_loadCellsFrom_list P _ _ _ k (B.hk _) (HoldsK.cells ((h.grown n' os').holds B) B.hk hi'), fun n' os' => run_loadCellsFrom_list P _ _ _ k (B.hk _) (HoldsK.cells ((h.grown n' os').holds B) B.hk hj'), fun n' os' => B.heq _ _ _, fun n' os' => h.grown n' os'⟩
theorem Ro.store (B : SE P k g enc blk off d0 w) (h : Ro enc k blk off d0 w W d) {i j : Nat} (hi : i < d0.size) (hj : j < d0.size) :
  ∃ c : List Value, c.length = k ∧ Sem.run P (loadCellsFrom ⟨blk, off + i * k, none⟩ 0 k #[]) W = .ok c.toArray W ∧
   Sem.run P (storeCells ⟨blk, off + j * k, none⟩ c 0) W = .ok () (W.setCells blk (off + j * k) c) ∧ Ro enc k blk off d0 w (W.setCells blk (off + j * k) c) (d.setIfInBounds j d[i]!) := by
 have hH := h.holds B
 have hs := h.1
 have hi' : i < d.size := by rw [hs]; exact hi
 have hj' : j < d.size := by rw [hs]; exact hj
 have bnd : j * k + k ≤ d.size * k := by
  have := Nat.mul_le_mul_right k (show j + 1 ≤ d.size from hj'); rwa [Nat.add_mul, Nat.one_mul] at this
 refine ⟨enc d[i]!, B.hk _, run_loadCellsFrom_list P _ _ _ k (B.hk _) (HoldsK.cells hH B.hk hi'), stores_of_holds P hH (j * k) _ (by rw [B.hk, size_flatK]; exact bnd) (B.h1 _), by rw [Array.size_setIfInBounds]; exact hs, ?_⟩
 obtain ⟨_, q, os, rfl⟩ := h
 refine ⟨q, os, ?_⟩
 unfold sortWorldK
 rw [setCells_grow os blk _ _ _ (by rw [size_putRowK]; exact B.hblk)]
 unfold putRowK
 rw [setCells_putRow _ _ _ _ _ _ (by rw [B.hk, size_flatK]; exact bnd), setMany_set enc k B.hk d j _ hj']
def Cpd (enc : It → List Value) (k : Nat) (blk off : Nat) (d0 : Array It) (w W : World) (m : Nat) : Prop :=
 ∃ (F : Array Value) (q : Nat) (os : Array Obj) (L : Array It), W = grow (putRow id (Sort.ahead w q) blk off F) os ∧ F.size = d0.size * k ∧ L.toList = cmpL d0.toList ∧ m = L.size ∧ m ≤ d0.size ∧ ∀ t, t < m * k → F[t]! = (flatK enc k L)[t]!
theorem Ro.all (h : Ro enc k blk off d0 w W d0) (he : cmpL d0.toList = d0.toList) : Cpd enc k blk off d0 w W d0.size := by
 obtain ⟨_, q, os, rfl⟩ := h
 exact ⟨flatK enc k d0, q, os, d0, rfl, by rw [size_flatK], he.symm, rfl, Nat.le_refl _, fun _ _ => rfl⟩
theorem Ro.clear {z : Value} (L : CmpP P k z) (B : SE P k g enc blk off d0 w) (h : Ro enc k blk off d0 w W d) {kk : Nat} (hkk : kk < d0.size) (hCI : CI d0 d d0.size kk) :
  ∃ zs : List Value, Sem.run P (storeCells ⟨blk, off + kk * k, none⟩ (Builtin.zeroCells z.cells (d0.size - kk)).toList 0) W = .ok () (W.setCells blk (off + kk * k) zs) ∧ Cpd enc k blk off d0 w (W.setCells blk (off + kk * k) zs) kk := by
 have hH := h.holds B
 have hs := h.1
 have hlen : (Builtin.zeroCells z.cells (d0.size - kk)).toList.length = (d0.size - kk) * k := by rw [Array.length_toList, size_zeroCells, L.cE]
 have bnd : kk * k + (d0.size - kk) * k ≤ d.size * k := by rw [← Nat.add_mul, hs]; exact Nat.mul_le_mul_right k (by omega)
 refine ⟨_, stores_of_holds P hH (kk * k) _ (by rw [hlen, size_flatK]; exact bnd) (L.oE _), ?_⟩
 obtain ⟨_, q, os, rfl⟩ := h
 refine ⟨setMany (flatK enc k d) (kk * k) (Builtin.zeroCells z.cells (d0.size - kk)).toList, q, os, (d.toList.take kk).toArray, ?_, by rw [size_setMany, size_flatK, hs], ?_, ?_, by omega, fun t ht => ?_⟩
 ·unfold sortWorldK
  rw [setCells_grow os blk _ _ _ (by rw [size_putRowK]; exact B.hblk)]
  unfold putRowK
  rw [setCells_putRow _ _ _ _ _ _ (by rw [hlen, size_flatK]; exact bnd)]
 ·show d.toList.take kk = _
  rw [hCI.lo, ← Array.length_toList, List.take_length]
 ·simp; omega
 ·have hsz : ((d.toList.take kk).toArray).size = kk := by simp; omega
  have ht2 : t < d.size * k := by
   have := Nat.mul_le_mul_right k (show kk ≤ d.size by omega)
   omega
  have k0 : 0 < k := by
   rcases Nat.eq_zero_or_pos k with h | h
   ·subst h; simp at ht
   ·exact h
  have hq : t / k < kk := by rw [Nat.div_lt_iff_lt_mul k0]; exact ht
  rw [get_setMany _ _ _ t (by rw [size_flatK]; exact ht2), if_neg (by omega), get_flatK _ _ _ t ht2, get_flatK _ _ _ t (by rw [hsz]; exact ht)]
  have e : ((d.toList.take kk).toArray)[t / k]! = d[t / k]! := by
   have h3 : t / k < d.size := by omega
   rw [getElem!_pos _ _ (by rw [hsz]; exact hq), getElem!_pos d _ h3]
   simp
  rw [e]
end
end Go.Proofs.YtmhnndgnnpondaaGreatDoor
namespace Go.Proofs.YtmhnndgnnpondaaGreatDoor
open Go.RowKit Go.Shelf Go.Lib Go.Sort
theorem run_clear_k {P : Program} (w w' : World) (t e ty : TypeId) (z : Value) (ht : P.underlying t = some (.slice e)) (hv : ∀ w, (zeroValue e).run P w = .ok z w) (b o n c : Nat) (hn : 0 < n)
  (hs : Sem.run P (storeCells ⟨b, o, none⟩ (Builtin.zeroCells z.cells n).toList 0) w = .ok () w') :
  (Builtin.clear_ #[t] ty #[.slice (some ⟨b, o, none⟩) n c]).run P w = .ok (.tuple #[]) w' := by
 obtain ⟨m, rfl⟩ : ∃ m, n = m + 1 := ⟨n - 1, by omega⟩
 simp [Builtin.clear_, run_underlying ht, hv, hs]
section
variable {P : Program} {k g blk off : Nat} {enc : It → List Value} {d0 : Array It} {w W : World}
set_option maxHeartbeats 4000000 in
set_option maxRecDepth 1000000 in
theorem compact_gen {z : Value} (L : SrtP P k) (M : CmpP P k z) (FG : P.funcs[31]? = some Tryz.f31) (B : SE P k g enc blk off d0 w) (cap n : Nat) (hnd : n = d0.size) (hcap : n ≤ cap) :
  Calls P 31 #[.slice (some ⟨blk, off, none⟩) n cap, .func (.func g) #[] #[]] w fun e W' => ∃ m : Nat, e = .returned (.slice (some ⟨blk, off, none⟩) m cap) ∧ Cpd enc k blk off d0 w W' m := by
 have hsz := B.hsz
 have HB := hide B
 have HM := hide M
 have hS0 := Ro.start B
 have HN := hide hnd
 have mixed := L.mixed; have t0 := L.t0; have a0 := L.a0; have z0 := L.z0; have v0 := L.v0; have t3 := L.t3; have a3 := L.a3; have z3 := L.z3; have v3 := L.v3; have t4 := L.t4; have a4 := L.a4; have z4 := L.z4; have v4 := L.v4; have t22 := L.t22; have a22 := L.a22; have z22 := L.z22; have v22 := L.v22
 have tb := M.tb; have ab := M.ab; have zb := M.zb; have vb := M.vb
 have aE := L.aE; have zE := L.zE; have vE := M.vE
 have eg := B.eg
 have hsz2 : n < 4611686018427387904 := by omega
 clear B L M hnd hsz
 go_enter FG, Tryz.ntmps31
 by_cases h2 : n < 2
 ·have h2z : (n : Int) < 2 := by omega
  go_wp2
  go_ret
  refine ⟨n, rfl, ?_⟩
  rw [HN.out]
  refine hS0.all ?_
  have := HN.out
  match hL : d0.toList, (show d0.toList.length < 2 by rw [Array.length_toList]; omega) with
  | [], _ => rw [cmpL]
  | [x], _ => rw [cmpL]
  | _ :: _ :: _, h => simp at h; omega
 ·have h2z : decide ((n : Int) < 2) = false := decide_eq_false (by omega)
  go_wp2
  go_loopg [5] n (fun fu v5 wr => ∃ K : Nat, v5 = .int .i64 K ∧ 1 ≤ K ∧ K ≤ n ∧ n - K ≤ fu ∧ Ro enc k blk off d0 w wr d0 ∧ Hid (cmpL (d0.toList.take K) = d0.toList.take K))
  case atStart => exact ⟨1, rfl, Nat.le_refl _, by omega, by omega, hS0, by
   cases hL : d0.toList with
   | nil => show cmpL [] = []; rw [cmpL]
   | cons x r => show cmpL [x] = [x]; rw [cmpL]⟩
  case round =>
   clear hS0
   obtain ⟨K, rfl, hK1, hK2, hfu, hS, HC⟩ := hrel
   by_cases hlt : K < n
   ·have hltz : (K : Int) < (n : Int) := by omega
    obtain ⟨Kp, rfl⟩ : ∃ Kp, K = Kp + 1 := ⟨K - 1, by omega⟩
    obtain ⟨ci, cj, l1, l2, hcg, hS2⟩ := hS.eqs HB.out (show Kp + 1 < d0.size by rw [← HN.out]; omega) (show Kp < d0.size by rw [← HN.out]; omega)
    have HS2 := hide hS2
    have e1 : ((Kp : Int) + 1).toNat = Kp + 1 := by omega
    have b0 : (Kp : Int) < (n : Int) := by omega
    have b1 : (Kp : Int) + 1 < (n : Int) := by omega
    have p1 : (0 : Int) ≤ (Kp : Int) + 1 := by omega
    have hwp : IntKind.i64.wrap (Kp : Int) = (Kp : Int) := by rw [IntKind.wrap_i64]; omega
    obtain ⟨v, hv⟩ : ∃ v, v = ((d0[Kp + 1]!).node == (d0[Kp]!).node) := ⟨_, rfl⟩
    rw [← hv] at hcg
    have HV := hide hv
    clear hS hS2 hv
    cases v with
    | true =>
     have HE : Hid ((d0[Kp + 1]!).node = (d0[Kp]!).node) := by show _ = _; simpa using HV.out.symm
     clear HV
     go_wp2_with fail
     go_quiet_grown (first | (go_at_fn g; refine Calls.grown_of (hcg _ _)))
     clear l1 l2 hcg
     have hS3 := HS2.out nq osq
     clear HS2
     generalize grow (wr.drewN nq) osq = W1 at hS3 ⊢
     have HS0 := hide hS3
     have HCI : Hid (CI d0 d0 (Kp + 1 + 1) (Kp + 1)) := CI.start (by omega) (by rw [← HN.out]; omega) HC.out (by simpa using HE.out)
     clear hS3
     go_wp2
     go_loopg [5, 7] n (fun fu v5 v7 wr => ∃ (kk k2 : Nat) (d : Array It), v5 = .int .i64 kk ∧ v7 = .int .i64 k2 ∧ 1 ≤ k2 ∧ Kp + 1 + k2 ≤ n ∧ n - k2 ≤ fu ∧ Ro enc k blk off d0 w wr d ∧ Hid (CI d0 d (Kp + 1 + k2) kk) ∧ kk < Kp + 1 + k2)
     case atStart => exact ⟨Kp + 1, 1, d0, by go_num, rfl, Nat.le_refl _, by omega, by omega, HS0.out, HCI, by omega⟩
     case round =>
      clear HS0 HCI
      obtain ⟨kk, k2, d, rfl, rfl, hk1, hk2, hfu2, hS, HI, hkk⟩ := hrel
      by_cases hlt2 : Kp + 1 + k2 < n
      ·obtain ⟨kp, rfl⟩ : ∃ kp, k2 = kp + 1 := ⟨k2 - 1, by omega⟩
       obtain ⟨ci, cj, l1, l2, hcg, hS2⟩ := hS.eqs HB.out (show Kp + 1 + (kp + 1) < d0.size by rw [← HN.out]; omega) (show Kp + 1 + kp < d0.size by rw [← HN.out]; omega)
       have g1 : off + (Kp + 1 + (kp + 1)) * k = off + (Kp + 1) * k + (kp + 1) * k := by rw [Nat.add_mul (Kp + 1)]; omega
       have g2 : off + (Kp + 1 + kp) * k = off + (Kp + 1) * k + kp * k := by rw [Nat.add_mul (Kp + 1)]; omega
       rw [g1] at l1
       rw [g2] at l2
       have HS2 := hide hS2
       have e2 : ((kp : Int) + 1).toNat = kp + 1 := by omega
       have b2 : (kp : Int) + 1 < (n : Int) - ((Kp : Int) + 1) := by omega
       have b2n : (kp : Int) + 1 < ((n - (Kp + 1) : Nat) : Int) := by omega
       have b3n : (kp : Int) < ((n - (Kp + 1) : Nat) : Int) := by omega
       have p2 : (0 : Int) ≤ (kp : Int) + 1 := by omega
       have hwq : IntKind.i64.wrap (kp : Int) = (kp : Int) := by rw [IntKind.wrap_i64]; omega
       have hj : ∀ i, Kp + 1 + kp ≤ i → d[i]! = d0[i]! := fun i hi => HI.out.hi i (by omega)
       rw [hj _ (by omega), hj _ (Nat.le_refl _)] at hcg
       obtain ⟨v, hv⟩ : ∃ v, v = ((d0[Kp + 1 + (kp + 1)]!).node == (d0[Kp + 1 + kp]!).node) := ⟨_, rfl⟩
       rw [← hv] at hcg
       have HV := hide hv
       clear hS hS2 hv hj
       cases v with
       | true =>
        have HE : Hid ((d0[Kp + 1 + (kp + 1)]!).node = (d0[Kp + 1 + kp]!).node) := by show _ = _; simpa using HV.out.symm
        clear HV g1 g2
        go_wp2_with fail
        go_quiet_grown (first | (go_at_fn g; refine Calls.grown_of (hcg _ _)))
        go_wp2
        go_roundg (n - (kp + 1 + 1))
        case measure => omega
        case rel => exact ⟨kk, kp + 1 + 1, d, rfl, by go_num, by omega, by omega, Nat.le_refl _, HS2.out _ _, HI.out.skip (by omega) (by rw [← HN.out]; omega) (by simpa using HE.out), by omega⟩
       | false =>
        have HE : Hid ((d0[Kp + 1 + (kp + 1)]!).node ≠ (d0[Kp + 1 + kp]!).node) := by show _ ≠ _; simpa using HV.out.symm
        clear HV g2
        go_wp2_with fail
        go_quiet_grown (first | (go_at_fn g; refine Calls.grown_of (hcg _ _)))
        clear l1 l2 hcg
        have hS3 := HS2.out nq osq
        clear HS2
        generalize grow (wr.drewN nq) osq = W1 at hS3 ⊢
        obtain ⟨c, hcl, l3, s3, hS4⟩ := hS3.store HB.out (show Kp + 1 + (kp + 1) < d0.size by rw [← HN.out]; omega) (show kk < d0.size by rw [← HN.out]; omega)
        rw [g1] at l3
        rw [HI.out.hi _ (by omega)] at hS4
        have HS4 := hide hS4
        have b4 : (kk : Int) < (n : Int) := by omega
        clear hS3 hS4 g1
        go_wp2
        go_roundg (n - (kp + 1 + 1))
        case measure => omega
        case rel => exact ⟨kk + 1, kp + 1 + 1, _, by go_num, by go_num, by omega, by omega, Nat.le_refl _, HS4.out, HI.out.keep (by omega) (by rw [← HN.out]; omega) HE.out, by omega⟩
      ·have hend : Kp + 1 + k2 = n := by omega
       obtain ⟨zs, s3, hC⟩ := hS.clear HM.out HB.out (show kk < d0.size by rw [← HN.out]; omega) (by rw [← HN.out, ← hend]; exact HI.out)
       rw [← HN.out] at s3
       have hcl : ∀ ty, (Builtin.clear_ #[22] ty #[.slice (some ⟨blk, off + kk * k, none⟩) (n - kk) (cap - kk)]).run P wr = .ok (.tuple #[]) (wr.setCells blk (off + kk * k) zs) := fun ty => run_clear_k _ _ _ _ ty z t22 vE blk (off + kk * k) (n - kk) (cap - kk) (by omega) s3
       have HC2 := hide hC
       have hlz : decide ((k2 : Int) < ((n - (Kp + 1) : Nat) : Int)) = false := decide_eq_false (by omega)
       clear hS hC s3 HI hend
       go_wp2
       go_ret
       exact ⟨kk, rfl, HC2.out⟩
    | false =>
     have HE : Hid ((d0[Kp + 1]!).node ≠ (d0[Kp]!).node) := by show _ ≠ _; simpa using HV.out.symm
     clear HV
     go_wp2_with fail
     go_quiet_grown (first | (go_at_fn g; refine Calls.grown_of (hcg _ _)))
     go_wp2
     go_roundg (n - (Kp + 1 + 1))
     case measure => omega
     case rel => exact ⟨Kp + 1 + 1, by go_num, by omega, by omega, Nat.le_refl _, HS2.out _ _, keep_next (by omega) (by rw [← HN.out]; omega) HC.out (by simpa using HE.out)⟩
   ·have hltz : decide ((K : Int) < (n : Int)) = false := decide_eq_false (by omega)
    have HK : Hid (K = d0.size) := by show _ = _; rw [← HN.out]; omega
    go_wp2
    go_ret
    refine ⟨n, rfl, ?_⟩
    rw [HN.out]
    refine hS.all ?_
    have := HC.out
    rw [HK.out, ← Array.length_toList, List.take_length] at this
    exact this
end
end Go.Proofs.YtmhnndgnnpondaaGreatDoor
namespace Go.Proofs.YtmhnndgnnpondaaGreatDoor
theorem nodes_of {d0 d : Array It} {s : Nat → Nat} (h : RwP d0 d s) (hp : SegP (fun i => i) s 0 d0.size) (hs : Srt (ndO d0) s 0 d0.size) : NodesOk d0.toList (cmpL d.toList) := by
 have hlt : ∀ i, i < d0.size → s i < d0.size := fun i hi => by
  obtain ⟨j, _, h2, e⟩ := hp.mem i (Nat.zero_le _) hi
  rw [e]; exact h2
 have hL : d.toList = ((List.range d0.size).map fun i => (d0[s i]!, s i)).map Prod.fst := by
  rw [List.map_map]
  apply List.ext_getElem
  ·simp [h.1]
  ·intro i h1 h2
   have hi : i < d.size := by simpa using h1
   have := h.2 i hi
   simp only [Array.getElem_toList, List.getElem_map, List.getElem_range, Function.comp_def]
   rw [← this, getElem!_pos d i hi]
 have hpw : ((List.range d0.size).map fun i => (d0[s i]!, s i)).Pairwise lexP := by
  rw [List.pairwise_map]
  rw [List.pairwise_iff_getElem]
  intro i j hi hj hij
  simp only [List.length_range] at hi hj
  simp only [List.getElem_range]
  exact hs i j (Nat.zero_le _) hij hj
 have hmem : ∀ (j : Nat) (y : It), d0.toList[j]? = some y → (y, j) ∈ (List.range d0.size).map fun i => (d0[s i]!, s i) := by
  intro j y hy
  obtain ⟨hj, e⟩ := List.getElem?_eq_some_iff.1 hy
  have hj2 : j < d0.size := by simpa using hj
  obtain ⟨i, _, h2, e2⟩ := hp.mem2 j (Nat.zero_le _) hj2
  refine List.mem_map.2 ⟨i, List.mem_range.2 h2, ?_⟩
  rw [← e2]
  simp only [Array.getElem_toList] at e
  rw [getElem!_pos d0 j hj2, e]
 obtain ⟨a1, a2, a3⟩ := cmpL_law _ _ rfl hpw
 rw [hL]
 refine ⟨a1, fun x hx => ?_, fun y hy => ?_⟩
 ·obtain ⟨p, hp1, e, hm⟩ := a2 x hx
  obtain ⟨i, hi, rfl⟩ := List.mem_map.1 hp1
  have hi2 := hlt i (List.mem_range.1 hi)
  refine ⟨s i, ?_, fun j y hj hy hn => ?_⟩
  ·dsimp only at e
   rw [← e, getElem!_pos d0 (s i) hi2]
   simp [hi2]
  ·have := hm (y, j) (hmem j y hy) hn
   dsimp only at this
   omega
 ·obtain ⟨j, hj⟩ := List.mem_iff_getElem?.1 hy
  exact a3 (y, j) (hmem j y hj)
end Go.Proofs.YtmhnndgnnpondaaGreatDoor
namespace Go.Proofs.YtmhnndgnnpondaaGreatDoor
set_option maxRecDepth 100000
set_option maxHeartbeats 4000000
open Go.RowKit Go.Shelf Go.Lib
def revRen : Go.Shelf.Ren := ⟨fun | 35 => 63 | n => n, fun | 0 => 0 | 3 => 3 | 4 => 4 | 22 => 22 | 23 => 31 | n => n, fun | n => n⟩
theorem revLays : Go.Proofs.SlLaysE0.n35 Tryz.prog revRen := {
 mixed := by kernel_rfl
 f35 := ⟨Tryz.f63.name, by kernel_rfl, Tryz.func63.trans (congrArg some (by kernel_rfl))⟩
 t0 := Tryz.underlying0
 a0 := Tryz.isAgg0
 z0 := Tryz.sizeOf0
 v0 := Tryz.zeroValue0
 t3 := Tryz.underlying3
 a3 := Tryz.isAgg3
 z3 := Tryz.sizeOf3
 v3 := Tryz.zeroValue3
 t4 := Tryz.underlying4
 a4 := Tryz.isAgg4
 z4 := Tryz.sizeOf4
 v4 := Tryz.zeroValue4
 t22 := Tryz.underlying22
 a22 := Tryz.isAgg22
 z22 := Tryz.sizeOf22
 v22 := Tryz.zeroValue22 }
def conRen : Go.Shelf.Ren := ⟨fun | 6 => 156 | 7 => 111 | n => n, fun | 0 => 0 | 3 => 3 | 4 => 4 | 22 => 22 | 24 => 31 | n => n, fun | n => n⟩
theorem conLays : Go.Proofs.SlLaysQ.n7 Tryz.prog conRen := {
 mixed := by kernel_rfl
 f6 := ⟨Tryz.f156.name, by kernel_rfl, Tryz.func156.trans (congrArg some (by kernel_rfl))⟩
 f7 := ⟨Tryz.f111.name, by kernel_rfl, Tryz.func111.trans (congrArg some (by kernel_rfl))⟩
 t0 := Tryz.underlying0
 a0 := Tryz.isAgg0
 z0 := Tryz.sizeOf0
 v0 := Tryz.zeroValue0
 t3 := Tryz.underlying3
 a3 := Tryz.isAgg3
 z3 := Tryz.sizeOf3
 v3 := Tryz.zeroValue3
 t4 := Tryz.underlying4
 a4 := Tryz.isAgg4
 z4 := Tryz.sizeOf4
 v4 := Tryz.zeroValue4
 t22 := Tryz.underlying22
 a22 := Tryz.isAgg22
 z22 := Tryz.sizeOf22
 v22 := Tryz.zeroValue22 }
theorem itC_at {w : World} {b off : Nat} {l : List It} (h : RdI w (some ⟨b, off, none⟩) l) (j : Nat) (hj : j < l.length) : ∀ i v, (itC l[j]!)[i]? = some v → w.cell? ⟨b, off + j * 4 + i, none⟩ = some v := by
 intro i v hv
 have hx : l[j]? = some l[j]! := by rw [List.getElem?_eq_getElem hj, getElem!_pos l j hj]
 obtain ⟨b2, o2, e, c0, c1, c2, c3⟩ := h.at j _ hx
 injection e with e
 injection e with e1 e2
 subst e1 e2
 match i, hv with
 | 0, hv => rw [← Option.some.inj (show some (Value.int .u8 l[j]!.kind) = some v from hv)]; exact c0
 | 1, hv => rw [← Option.some.inj (show some (Value.int .i64 l[j]!.num) = some v from hv)]; exact c1
 | 2, hv => rw [← Option.some.inj (show some (Value.string l[j]!.text) = some v from hv)]; exact c2
 | 3, hv => rw [← Option.some.inj (show some (Value.int .i64 l[j]!.node) = some v from hv)]; exact c3
 | i + 4, hv => simp [itC] at hv
theorem index_nil (k : Nat) (n d : Int) (s : ByteArray) (a : Option Addr) (c : Nat) (w : World) : Calls Tryz.prog 156 #[.slice a 0 c, .agg #[.int .u8 k, .int .i64 n, .string s, .int .i64 d]] w fun e w' => e = .returned (.int .i64 (-1)) ∧ Below w.heap.size w w' := by
 have hk := (Below.refl w.heap.size w).alloc (Nat.le_refl _) (.cells #[.int .u8 k, .int .i64 n, .string s, .int .i64 d] 31)
 go_enter Tryz.func156, Tryz.ntmps156
 go_wp2_with fail
 go_loopw [8] (fun x W => x = .int .i64 0 ∧ Below w.heap.size w W) (fun _ _ => 0)
 case atStart => exact ⟨rfl, hk⟩
 case round =>
  clear hk
  obtain ⟨rfl, hB⟩ := hrel
  go_wp2
  go_ret
  exact ⟨rfl, hB⟩
theorem contains_any (x : It) (a : Option Addr) (n c : Nat) (l : List It) (w : World) (hr : RdI w a l) (hn : n = l.length) (hle : n ≤ 9223372036854775807) :
  Calls Tryz.prog 111 #[.slice a n c, itV x] w fun e w' => e = .returned (.bool (l.any fun y => eqI x y)) ∧ Below w.heap.size w w' := by
 by_cases h0 : l = []
 ·subst h0
  have hn0 : n = 0 := hn
  subst hn0
  obtain ⟨k, m, s, d⟩ := x
  have hk := (Below.refl w.heap.size w).alloc (Nat.le_refl _) (.cells #[.int .u8 k, .int .i64 m, .string s, .int .i64 d] 31)
  show Calls _ _ #[.slice a 0 c, .agg #[.int .u8 k, .int .i64 m, .string s, .int .i64 d]] _ _
  show Calls _ _ _ _ fun e w' => e = .returned (.bool false) ∧ Below w.heap.size w w'
  clear hr hn hle
  go_enter Tryz.func111, Tryz.ntmps111
  go_wp2_with fail
  refine (index_nil k m d s a c _).mono ?_
  rintro e w1 ⟨rfl, hb⟩
  have hB := chain0 hk hb
  clear hk hb
  go_wp2
  go_ret
  exact ⟨rfl, hB⟩
 ·have hne : icells l ≠ [] := by
   intro e
   have h1 := icells_length l
   rw [e] at h1
   exact h0 (List.length_eq_zero_iff.1 (by simp at h1; omega))
  obtain ⟨b, off, rfl, hlt, hcc⟩ := Rd.addrAt hr hne
  have h := AnyQ.slices_Contains conLays 4 Tryz.isAgg31 Tryz.sizeOf31 itC (fun _ => rfl) eqI eqItem b off n c l x w (by omega) hle (fun j hj i v hv => itC_at hr j hj i v hv)
  rw [hn, List.take_length, ← hn] at h
  exact h
theorem own_put {w : World} {B g n cap m : Nat} {l d : List It} (h : OwI w B (.slice (some ⟨g, 0, none⟩) n cap) l) (hn : n = l.length) (hd : d.length = l.length) :
  OwI (Sort.putRowK itC 4 (Sort.ahead w m) g 0 d.toArray) B (.slice (some ⟨g, 0, none⟩) n cap) d ∧ w.grownBy (Sort.putRowK itC 4 (Sort.ahead w m) g 0 d.toArray) (some g) := by
 subst hn
 obtain ⟨cur, q1, q2, q3, q4, q5, q6⟩ := own_parts h
 have hmb : (Sort.putRowK itC 4 (Sort.ahead w m) g 0 d.toArray).heap[g]? = some (.cells (Sort.putCells id 0 (Sort.flatK itC 4 d.toArray) cur) 31 (0, 0)) := by
  unfold Sort.putRowK Sort.putRow Sort.mapBlock
  show (w.heap.modify g _)[g]? = _
  rw [Array.getElem?_modify, if_pos rfl, q2]
  rfl
 have hsz : (Sort.putCells id 0 (Sort.flatK itC 4 d.toArray) cur).size = cur.size := by simp [Sort.putCells]
 constructor
 ·unfold OwI
  rw [hd]
  refine ⟨by rw [icells_length, hd], .inr ⟨g, cap, _, rfl, q1, hmb, q3, q4, by rw [hsz]; exact q5, ?_⟩⟩
  apply List.ext_getElem?
  intro t
  have hcl : cur.toList.length = cur.size := Array.length_toList
  by_cases ht : t < l.length * 4
  ·have hfs : (Sort.flatK itC 4 d.toArray).size = l.length * 4 := by rw [Sort.size_flatK, List.size_toArray, hd]
   have htc : t < cur.size := by omega
   rw [List.getElem?_take, if_pos ht]
   have e1 : (Sort.putCells id 0 (Sort.flatK itC 4 d.toArray) cur).toList[t]? = some (Sort.flatK itC 4 d.toArray)[t]! := by
    rw [Array.getElem?_toList]
    simp only [Sort.putCells, Array.getElem?_mapIdx, Array.getElem?_eq_getElem htc, Option.map_some, hfs]
    rw [if_pos ⟨Nat.zero_le _, by omega⟩]
    simp
   rw [e1, Sort.get_flatK _ _ _ _ (by rw [List.size_toArray, hd]; exact ht)]
   have hq : t / 4 < d.length := by omega
   have hx : d[t / 4]? = some d[t / 4]! := by rw [List.getElem?_eq_getElem hq, getElem!_pos d _ hq]
   have := icells_get d (t / 4) (t % 4) _ hx (Nat.mod_lt _ (by decide))
   rw [show t / 4 * 4 + t % 4 = t from by omega] at this
   rw [this]
   have hm4 : t % 4 < (itC d[t / 4]!).length := Nat.mod_lt _ (by decide)
   rw [show (d.toArray)[t / 4]! = d[t / 4]! from by simp, List.getElem?_eq_getElem hm4, getElem!_pos (itC d[t / 4]!) _ hm4]
  ·rw [List.getElem?_take, if_neg ht, List.getElem?_eq_none]
   rw [icells_length, hd]; omega
 ·refine ⟨rfl, rfl, rfl, ?_, fun k hk hne => ?_⟩
  ·show _ ≤ (w.heap.modify g _).size
   rw [Array.size_modify]
   exact Nat.le_refl _
  ·show (w.heap.modify g _)[k]? = _
   rw [Array.getElem?_modify, if_neg (fun e => hne (by rw [e]))]
theorem own_holds {w : World} {B g n cap : Nat} {l : List It} (h : OwI w B (.slice (some ⟨g, 0, none⟩) n cap) l) (hn : n = l.length) : Sort.HoldsK itC 4 w g 0 l.toArray := by
 subst hn
 intro t ht
 rw [Sort.size_flatK, List.size_toArray] at ht
 rw [Nat.zero_add, Sort.get_flatK _ _ _ _ (by rw [List.size_toArray]; exact ht)]
 have hq : t / 4 < l.length := by omega
 have hx : l[t / 4]? = some l[t / 4]! := by rw [List.getElem?_eq_getElem hq, getElem!_pos l _ hq]
 have := icells_get l (t / 4) (t % 4) _ hx (Nat.mod_lt _ (by decide))
 rw [show t / 4 * 4 + t % 4 = t from by omega] at this
 have hm4 : t % 4 < (itC l[t / 4]!).length := Nat.mod_lt _ (by decide)
 refine ⟨?_, ow_frozen h t⟩
 refine ow_cell h t _ ?_
 rw [this]
 rw [show (l.toArray)[t / 4]! = l[t / 4]! from by simp, List.getElem?_eq_getElem hm4, getElem!_pos (itC l[t / 4]!) _ hm4]
 rfl
theorem reverse_any (v : Value) (B : Nat) (l : List It) (w : World) (h : OwI w B v l) (hle : l.length ≤ 1000000) :
  Calls Tryz.prog 63 #[v] w fun e w' => e = .returned (.tuple #[]) ∧ OwI w' B v l.reverse ∧ w.grownBy w' v.ownBlock := by
 by_cases h0 : l = []
 ·subst h0
  obtain ⟨a, c, hv⟩ := ow_forms h
  subst hv
  refine (AnyQ.slices_Reverse_empty revLays a c w).mono ?_
  rintro e w' ⟨rfl, hw⟩
  rw [hw]
  exact ⟨rfl, h, World.grownBy.refl w _⟩
 ·obtain ⟨g, cap, rfl, hB, hg, hc⟩ := ow_form h (by simpa using h0)
  refine (AnyQ.slices_Reverse revLays 4 Tryz.isAgg31 Tryz.sizeOf31 itC (fun _ => rfl) (fun x v hv => one_items [x] v (by simpa [icells] using hv)) g 0 cap l.toArray w (own_holds h rfl) (by rw [List.size_toArray]; omega)).mono ?_
  rintro e w' ⟨rfl, n, rfl⟩
  rw [show (l.toArray).reverse = l.reverse.toArray from by simp]
  have := own_put (m := n) (d := l.reverse) h rfl (by simp)
  exact ⟨rfl, this.1, this.2⟩
theorem clone_any (a : Option Addr) (n c : Nat) (l : List It) (w : World) (hr : RdI w a l) (hn : n = l.length) (hle : n ≤ 1000000) :
  Calls Tryz.prog 27 #[.slice a n c] w fun e w' => ∃ v, e = .returned v ∧ OwI w' w.heap.size v l ∧ Below w.heap.size w w' := by
 obtain ⟨i0, hi, hz0, hz1, hz2⟩ := info_parts itemInfo
 have Hi : Hid (Tryz.prog.info? 31 = some i0 ∧ i0.zero = some (.agg #[.int .u8 0, .int .i64 0, .string ⟨#[]⟩, .int .i64 0]) ∧ i0.size = 4 ∧ i0.bytes = 40) := ⟨hi, hz0, hz1, hz2⟩
 have q25 : ∀ (w : World) (a : Option Addr) (n c n' c' : Nat), (binOp .eql 22 (.slice a n c) (.slice none n' c')).run Tryz.prog w = .ok (.bool a.isNone) w := fun w a n c n' c' => Lib.run_eql_slice_nil w _ _ a n c n' c' Tryz.underlying22
 have hn' := hn
 subst hn
 cases a with
 | none =>
  have h0 : l = [] := by
   rcases hr with h | ⟨b, off, h, _⟩
   ·have h1 := icells_length l
    rw [h] at h1
    exact List.length_eq_zero_iff.1 (by simp at h1; omega)
   ·cases h
  subst h0
  clear hr hi hz0 hz1 hz2 hn'
  show Calls _ _ #[.slice none 0 c] _ _
  go_enter Tryz.func27, Tryz.ntmps27
  go_wp2
  go_ret
  exact ⟨_, rfl, OwI.nil _ _, Below.refl _ _⟩
 | some ad =>
  have hk := (Below.refl w.heap.size w).alloc (Nat.le_refl _) (.cells #[] 31)
  have ho : (w.alloc (.cells #[] 31)).ownsRow w.heap.size 31 4 (.slice (some ⟨w.heap.size, 0, none⟩) 0 0) 0 [] := World.ownsRow_made w #[] 0 (Nat.le_refl _) (by decide) rfl
  have Hr := hide (RdI.keep hr hk)
  have Ho := hide ho
  obtain ⟨n, hnl⟩ : ∃ n, n = l.length := ⟨_, rfl⟩
  rw [← hnl] at hle hn' ⊢
  have Hn := hide hnl
  clear hr ho hi hz0 hz1 hz2 hn' hnl
  go_enter Tryz.func27, Tryz.ntmps27
  go_wp2_with (at_builtin; refine wpList_appR rfl _ _ 22 rfl i0 _ 40 c Tryz.underlying22 Hi.out.1 Hi.out.2.1 Hi.out.2.2.1 Hi.out.2.2.2 rfl (by decide) rfl rfl (one_items l) Ho.out Hr.out (m := n) ?e1 ?e2 ?e3 ?e4 ?_)
  case e1 => rw [icells_length, Hn.out]
  case e2 => omega
  case e3 => omega
  case e4 => simp
  intro v' W3 own3 hg3 hv3
  have own4 : OwI W3 w.heap.size v' l := by
   unfold OwI
   rw [← Hn.out]
   try rw [Nat.zero_add] at own3
   try rw [List.nil_append] at own3
   exact own3
  have hB3 : Below w.heap.size w W3 := hk.grown hg3 hk.size fun b hb => by simp [Value.ownBlock] at hb; omega
  clear own3 hg3 hv3 hk Ho Hr Hi
  have Hown4 := hide own4
  clear own4
  go_wp2
  go_ret
  exact ⟨_, rfl, Hown4.out, hB3⟩
end Go.Proofs.YtmhnndgnnpondaaGreatDoor
namespace Go.Proofs.YtmhnndgnnpondaaGreatDoor
open Go.RowKit Go.Shelf Go.Lib Go.Sort
theorem grown_grow {w W : World} {r : Option Nat} (h : w.grownBy W r) (os : Array Obj) : w.grownBy (grow W os) r := grown_trans h (below_grown (Lib.below_grow W.heap.size W (Nat.le_refl _) 0 os))
theorem OwI.grow {w : World} {B : Nat} {v : Value} {l : List It} (h : OwI w B v l) (os : Array Obj) : OwI (grow w os) B v l := h.keep (Lib.below_grow w.heap.size w (Nat.le_refl _) 0 os)
theorem sort_own (v : Value) (B : Nat) (l : List It) (w : World) (h : OwI w B v l) (hle : l.length ≤ 1000000) :
  Calls Tryz.prog 28 #[v, .func (.func 29) #[] #[]] w fun e w' => e = .returned (.tuple #[]) ∧ ∃ l', OwI w' B v l' ∧ NodesOk l (cmpL l') ∧ l'.length = l.length ∧ w.grownBy w' v.ownBlock := by
 by_cases h0 : l = []
 ·subst h0
  obtain ⟨a, c, hv⟩ := ow_forms h
  subst hv
  refine (sortStable_nil a c _ w).mono ?_
  rintro e w' ⟨rfl, rfl⟩
  exact ⟨rfl, [], h, by rw [cmpL]; exact NodesOk.nil, rfl, World.grownBy.refl w _⟩
 ·obtain ⟨g, cap, rfl, hB, hg, hc⟩ := ow_form h (by simpa using h0)
  refine (sortStable_row g l.length cap l.toArray w (by simp) (own_holds h rfl) hg hle).mono ?_
  rintro e w' ⟨rfl, t, hP, hS, d, q, os, hR, rfl⟩
  have hlen : d.toList.length = l.length := by rw [Array.length_toList, hR.1]; simp
  have hp := own_put (m := q) (d := d.toList) h rfl hlen
  have hN := nodes_of hR (by rw [List.size_toArray]; exact hP) (by rw [List.size_toArray]; exact hS)
  exact ⟨rfl, d.toList, hp.1.grow os, hN, hlen, grown_grow hp.2 os⟩
theorem own_putF {w : World} {B g n cap q : Nat} {l d : List It} {F : Array Value} (h : OwI w B (.slice (some ⟨g, 0, none⟩) n cap) l) (hn : n = l.length) (hd : d.length ≤ l.length) (hF : F.size = l.length * 4) (hc : ∀ t, t < d.length * 4 → F[t]! = (flatK itC 4 d.toArray)[t]!) :
  OwI (Sort.putRow id (Sort.ahead w q) g 0 F) B (.slice (some ⟨g, 0, none⟩) d.length cap) d ∧ w.grownBy (Sort.putRow id (Sort.ahead w q) g 0 F) (some g) := by
 subst hn
 obtain ⟨cur, q1, q2, q3, q4, q5, q6⟩ := own_parts h
 have hmb : (Sort.putRow id (Sort.ahead w q) g 0 F).heap[g]? = some (.cells (Sort.putCells id 0 F cur) 31 (0, 0)) := by
  unfold Sort.putRow Sort.mapBlock
  show (w.heap.modify g _)[g]? = _
  rw [Array.getElem?_modify, if_pos rfl, q2]
  rfl
 have hsz : (Sort.putCells id 0 F cur).size = cur.size := by simp [Sort.putCells]
 constructor
 ·unfold OwI
  refine ⟨by rw [icells_length], .inr ⟨g, cap, _, rfl, q1, hmb, by omega, q4, by rw [hsz]; exact q5, ?_⟩⟩
  apply List.ext_getElem?
  intro t
  have hcl : cur.toList.length = cur.size := Array.length_toList
  by_cases ht : t < d.length * 4
  ·have htc : t < cur.size := by omega
   rw [List.getElem?_take, if_pos ht]
   have e1 : (Sort.putCells id 0 F cur).toList[t]? = some F[t]! := by
    rw [Array.getElem?_toList]
    simp only [Sort.putCells, Array.getElem?_mapIdx, Array.getElem?_eq_getElem htc, Option.map_some]
    rw [if_pos ⟨Nat.zero_le _, by omega⟩]
    simp
   rw [e1, hc t ht, Sort.get_flatK _ _ _ _ (by rw [List.size_toArray]; exact ht)]
   have hq : t / 4 < d.length := by omega
   have hx : d[t / 4]? = some d[t / 4]! := by rw [List.getElem?_eq_getElem hq, getElem!_pos d _ hq]
   have := icells_get d (t / 4) (t % 4) _ hx (Nat.mod_lt _ (by decide))
   rw [show t / 4 * 4 + t % 4 = t from by omega] at this
   rw [this]
   have hm4 : t % 4 < (itC d[t / 4]!).length := Nat.mod_lt _ (by decide)
   rw [show (d.toArray)[t / 4]! = d[t / 4]! from by simp, List.getElem?_eq_getElem hm4, getElem!_pos (itC d[t / 4]!) _ hm4]
  ·rw [List.getElem?_take, if_neg ht, List.getElem?_eq_none]
   rw [icells_length]; omega
 ·refine ⟨rfl, rfl, rfl, ?_, fun k hk hne => ?_⟩
  ·show _ ≤ (w.heap.modify g _).size
   rw [Array.size_modify]
   exact Nat.le_refl _
  ·show (w.heap.modify g _)[k]? = _
   rw [Array.getElem?_modify, if_neg (fun e => hne (by rw [e]))]
theorem cmpP : CmpP Tryz.prog 4 (.agg #[.int .u8 0, .int .i64 0, .string ⟨#[]⟩, .int .i64 0]) := {
 tb := Tryz.underlying52
 ab := Tryz.isAgg52
 zb := Tryz.sizeOf52
 vb := Tryz.zeroValue52
 vE := Tryz.zeroValue31
 cE := rfl
 oE := fun n v hv => by
  simp only [Builtin.zeroCells, Array.toList_map, List.mem_map] at hv
  obtain ⟨i, _, rfl⟩ := hv
  have hm : i % 4 < 4 := Nat.mod_lt _ (by decide)
  show Value.oneCell' ((#[.int .u8 0, .int .i64 0, .string ⟨#[]⟩, .int .i64 0] : Array Value)[i % 4]!) = true
  generalize i % 4 = j at hm
  match j, hm with
  | 0, _ => rfl
  | 1, _ => rfl
  | 2, _ => rfl
  | 3, _ => rfl
  | j + 4, h => omega }
set_option maxRecDepth 100000 in
theorem compact_nil (a : Option Addr) (c : Nat) (f : Value) (w : World) : Calls Tryz.prog 31 #[.slice a 0 c, f] w fun e w' => e = .returned (.slice a 0 c) ∧ w = w' := by
 go_enter Tryz.func31, Tryz.ntmps31
 go_wp2
 go_ret
 exact ⟨rfl, rfl⟩
theorem compact_own (v : Value) (B : Nat) (l : List It) (w : World) (h : OwI w B v l) (hle : l.length ≤ 1000000) :
  Calls Tryz.prog 31 #[v, .func (.func 32) #[] #[]] w fun e w' => ∃ v', e = .returned v' ∧ OwI w' B v' (cmpL l) ∧ w.grownBy w' v.ownBlock := by
 by_cases h0 : l = []
 ·subst h0
  obtain ⟨a, c, hv⟩ := ow_forms h
  subst hv
  refine (compact_nil a c _ w).mono ?_
  rintro e w' ⟨rfl, rfl⟩
  exact ⟨_, rfl, by rw [cmpL]; exact h, World.grownBy.refl w _⟩
 ·obtain ⟨g, cap, rfl, hB, hg, hc⟩ := ow_form h (by simpa using h0)
  have hSE : SE Tryz.prog 4 32 itC g 0 l.toArray w := ⟨fun _ => rfl, itC_one, own_holds h rfl, hg, by rw [List.size_toArray]; omega, enters_of Tryz.func32 (by kernel_rfl) rfl, fun W x y => nodesEq_any x y W⟩
  refine (compact_gen srtP cmpP Tryz.func31 hSE cap l.length (by simp) hc).mono ?_
  rintro e w' ⟨m, rfl, F, q, os, L, rfl, hF, hL, rfl, hm, ht⟩
  have hL' : L = L.toList.toArray := rfl
  have hlen : L.toList.length = L.size := Array.length_toList
  have hp := own_putF (q := q) (d := L.toList) (F := F) h rfl (by rw [hlen]; rw [List.size_toArray] at hm; exact hm) (by rw [List.size_toArray] at hF; exact hF) (fun t h1 => by rw [hlen] at h1; exact ht t h1)
  rw [hlen] at hp
  refine ⟨_, rfl, ?_, grown_grow hp.2 os⟩
  have := hp.1.grow os
  rw [hL] at this
  simpa using this
end Go.Proofs.YtmhnndgnnpondaaGreatDoor
