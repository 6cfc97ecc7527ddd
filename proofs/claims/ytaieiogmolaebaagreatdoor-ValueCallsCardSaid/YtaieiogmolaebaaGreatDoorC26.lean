/- slices.Contains, Clone, Reverse at rows of items. value.distinct; value.ofItems at distinct-values, reverse, string-join. -/
import Derived.Test.YtaieiogmolaebaaGreatDoorC14
import Derived.Test.YtaieiogmolaebaaGreatDoorC09
import Derived.Test.YtaieiogmolaebaaGreatDoorC10
import Derived.Shelf.SlicesQ.Contains
import Derived.Shelf.SlicesQ.Reverse
import Derived.Lib.SliceRun
import Derived.Test.YtaieiogmolaebaaGreatDoorC22
namespace Go.Proofs.YtaieiogmolaebaaGreatDoor
set_option maxRecDepth 100000
set_option maxHeartbeats 4000000
open Go.RowKit Go.Shelf Go.Lib
instance : Inhabited It := ⟨⟨0, 0, ⟨#[]⟩, 0⟩⟩
def revRen : Go.Shelf.Ren := ⟨fun | 35 => 56 | n => n, fun | 0 => 0 | 3 => 3 | 4 => 4 | 22 => 25 | 23 => 36 | n => n, fun | n => n⟩
theorem revLays : Go.Proofs.SlLaysE0.n35 Tryz.prog revRen := {
 mixed := by kernel_rfl
 f35 := ⟨Tryz.f56.name, by kernel_rfl, Tryz.func56.trans (congrArg some (by kernel_rfl))⟩
 t0 := Tryz.underlying0
 a0 := Tryz.isAgg0
 z0 := Tryz.sizeOf0
 v0 := Tryz.zeroValue0
 t3 := Tryz.underlying3
 a3 := Tryz.isAgg3
 z3 := Tryz.sizeOf3
 v3 := Tryz.zeroValue3
 t4 := Tryz.underlying4
 a4 := Tryz.isAgg4
 z4 := Tryz.sizeOf4
 v4 := Tryz.zeroValue4
 t22 := Tryz.underlying25
 a22 := Tryz.isAgg25
 z22 := Tryz.sizeOf25
 v22 := Tryz.zeroValue25 }
def conRen : Go.Shelf.Ren := ⟨fun | 6 => 156 | 7 => 108 | n => n, fun | 0 => 0 | 3 => 3 | 4 => 4 | 22 => 25 | 24 => 36 | n => n, fun | n => n⟩
theorem conLays : Go.Proofs.SlLaysQ.n7 Tryz.prog conRen := {
 mixed := by kernel_rfl
 f6 := ⟨Tryz.f156.name, by kernel_rfl, Tryz.func156.trans (congrArg some (by kernel_rfl))⟩
 f7 := ⟨Tryz.f108.name, by kernel_rfl, Tryz.func108.trans (congrArg some (by kernel_rfl))⟩
 t0 := Tryz.underlying0
 a0 := Tryz.isAgg0
 z0 := Tryz.sizeOf0
 v0 := Tryz.zeroValue0
 t3 := Tryz.underlying3
 a3 := Tryz.isAgg3
 z3 := Tryz.sizeOf3
 v3 := Tryz.zeroValue3
 t4 := Tryz.underlying4
 a4 := Tryz.isAgg4
 z4 := Tryz.sizeOf4
 v4 := Tryz.zeroValue4
 t22 := Tryz.underlying25
 a22 := Tryz.isAgg25
 z22 := Tryz.sizeOf25
 v22 := Tryz.zeroValue25 }
theorem itC_at {w : World} {b off : Nat} {l : List It} (h : RdI w (some ⟨b, off, none⟩) l) (j : Nat) (hj : j < l.length) : ∀ i v, (itC l[j]!)[i]? = some v → w.cell? ⟨b, off + j * 4 + i, none⟩ = some v := by
 intro i v hv
 have hx : l[j]? = some l[j]! := by rw [List.getElem?_eq_getElem hj, getElem!_pos l j hj]
 obtain ⟨b2, o2, e, c0, c1, c2, c3⟩ := h.at j _ hx
 injection e with e
 injection e with e1 e2
 subst e1 e2
 match i, hv with
 | 0, hv => rw [← Option.some.inj (show some (Value.int .u8 l[j]!.kind) = some v from hv)]; exact c0
 | 1, hv => rw [← Option.some.inj (show some (Value.int .i64 l[j]!.num) = some v from hv)]; exact c1
 | 2, hv => rw [← Option.some.inj (show some (Value.string l[j]!.text) = some v from hv)]; exact c2
 | 3, hv => rw [← Option.some.inj (show some (Value.int .i64 l[j]!.node) = some v from hv)]; exact c3
 | i + 4, hv => simp [itC] at hv
theorem index_nil (k : Nat) (n d : Int) (s : ByteArray) (a : Option Addr) (c : Nat) (w : World) : Calls Tryz.prog 156 #[.slice a 0 c, .agg #[.int .u8 k, .int .i64 n, .string s, .int .i64 d]] w fun e w' => e = .returned (.int .i64 (-1)) ∧ Below w.heap.size w w' := by
 have hk := (Below.refl w.heap.size w).alloc (Nat.le_refl _) (.cells #[.int .u8 k, .int .i64 n, .string s, .int .i64 d] 36)
 go_enter Tryz.func156, Tryz.ntmps156
 go_wp2_with fail
 go_loopw [8] (fun x W => x = .int .i64 0 ∧ Below w.heap.size w W) (fun _ _ => 0)
 case atStart => exact ⟨rfl, hk⟩
 case round =>
  clear hk
  obtain ⟨rfl, hB⟩ := hrel
  go_wp2
  go_ret
  exact ⟨rfl, hB⟩
theorem contains_any (x : It) (a : Option Addr) (n c : Nat) (l : List It) (w : World) (hr : RdI w a l) (hn : n = l.length) (hle : n ≤ 9223372036854775807) :
  Calls Tryz.prog 108 #[.slice a n c, itV x] w fun e w' => e = .returned (.bool (l.any fun y => eqI x y)) ∧ Below w.heap.size w w' := by
 by_cases h0 : l = []
 ·subst h0
  have hn0 : n = 0 := hn
  subst hn0
  obtain ⟨k, m, s, d⟩ := x
  have hk := (Below.refl w.heap.size w).alloc (Nat.le_refl _) (.cells #[.int .u8 k, .int .i64 m, .string s, .int .i64 d] 36)
  show Calls _ _ #[.slice a 0 c, .agg #[.int .u8 k, .int .i64 m, .string s, .int .i64 d]] _ _
  show Calls _ _ _ _ fun e w' => e = .returned (.bool false) ∧ Below w.heap.size w w'
  clear hr hn hle
  go_enter Tryz.func108, Tryz.ntmps108
  go_wp2_with fail
  refine (index_nil k m d s a c _).mono ?_
  rintro e w1 ⟨rfl, hb⟩
  have hB := chain0 hk hb
  clear hk hb
  go_wp2
  go_ret
  exact ⟨rfl, hB⟩
 ·have hne : icells l ≠ [] := by
   intro e
   have h1 := icells_length l
   rw [e] at h1
   exact h0 (List.length_eq_zero_iff.1 (by simp at h1; omega))
  obtain ⟨b, off, rfl, hlt, hcc⟩ := Rd.addrAt hr hne
  have h := AnyQ.slices_Contains conLays 4 Tryz.isAgg36 Tryz.sizeOf36 itC (fun _ => rfl) eqI eqItem b off n c l x w (by omega) hle (fun j hj i v hv => itC_at hr j hj i v hv)
  rw [hn, List.take_length, ← hn] at h
  exact h
theorem own_put {w : World} {B g n cap m : Nat} {l d : List It} (h : OwI w B (.slice (some ⟨g, 0, none⟩) n cap) l) (hn : n = l.length) (hd : d.length = l.length) :
  OwI (Sort.putRowK itC 4 (Sort.ahead w m) g 0 d.toArray) B (.slice (some ⟨g, 0, none⟩) n cap) d ∧ w.grownBy (Sort.putRowK itC 4 (Sort.ahead w m) g 0 d.toArray) (some g) := by
 subst hn
 obtain ⟨cur, q1, q2, q3, q4, q5, q6⟩ := own_parts h
 have hmb : (Sort.putRowK itC 4 (Sort.ahead w m) g 0 d.toArray).heap[g]? = some (.cells (Sort.putCells id 0 (Sort.flatK itC 4 d.toArray) cur) 36 (0, 0)) := by
  unfold Sort.putRowK Sort.putRow Sort.mapBlock
  show (w.heap.modify g _)[g]? = _
  rw [Array.getElem?_modify, if_pos rfl, q2]
  rfl
 have hsz : (Sort.putCells id 0 (Sort.flatK itC 4 d.toArray) cur).size = cur.size := by simp [Sort.putCells]
 constructor
 ·unfold OwI
  rw [hd]
  refine ⟨by rw [icells_length, hd], .inr ⟨g, cap, _, rfl, q1, hmb, q3, q4, by rw [hsz]; exact q5, ?_⟩⟩
  apply List.ext_getElem?
  intro t
  have hcl : cur.toList.length = cur.size := Array.length_toList
  by_cases ht : t < l.length * 4
  ·have hfs : (Sort.flatK itC 4 d.toArray).size = l.length * 4 := by rw [Sort.size_flatK, List.size_toArray, hd]
   have htc : t < cur.size := by omega
   rw [List.getElem?_take, if_pos ht]
   have e1 : (Sort.putCells id 0 (Sort.flatK itC 4 d.toArray) cur).toList[t]? = some (Sort.flatK itC 4 d.toArray)[t]! := by
    rw [Array.getElem?_toList]
    simp only [Sort.putCells, Array.getElem?_mapIdx, Array.getElem?_eq_getElem htc, Option.map_some, hfs]
    rw [if_pos ⟨Nat.zero_le _, by omega⟩]
    simp
   rw [e1, Sort.get_flatK _ _ _ _ (by rw [List.size_toArray, hd]; exact ht)]
   have hq : t / 4 < d.length := by omega
   have hx : d[t / 4]? = some d[t / 4]! := by rw [List.getElem?_eq_getElem hq, getElem!_pos d _ hq]
   have := icells_get d (t / 4) (t % 4) _ hx (Nat.mod_lt _ (by decide))
   rw [show t / 4 * 4 + t % 4 = t from by omega] at this
   rw [this]
   have hm4 : t % 4 < (itC d[t / 4]!).length := Nat.mod_lt _ (by decide)
   rw [show (d.toArray)[t / 4]! = d[t / 4]! from by simp, List.getElem?_eq_getElem hm4, getElem!_pos (itC d[t / 4]!) _ hm4]
  ·rw [List.getElem?_take, if_neg ht, List.getElem?_eq_none]
   rw [icells_length, hd]; omega
 ·refine ⟨rfl, rfl, rfl, ?_, fun k hk hne => ?_⟩
  ·show _ ≤ (w.heap.modify g _).size
   rw [Array.size_modify]
   exact Nat.le_refl _
  ·show (w.heap.modify g _)[k]? = _
   rw [Array.getElem?_modify, if_neg (fun e => hne (by rw [e]))]
theorem own_holds {w : World} {B g n cap : Nat} {l : List It} (h : OwI w B (.slice (some ⟨g, 0, none⟩) n cap) l) (hn : n = l.length) : Sort.HoldsK itC 4 w g 0 l.toArray := by
 subst hn
 intro t ht
 rw [Sort.size_flatK, List.size_toArray] at ht
 rw [Nat.zero_add, Sort.get_flatK _ _ _ _ (by rw [List.size_toArray]; exact ht)]
 have hq : t / 4 < l.length := by omega
 have hx : l[t / 4]? = some l[t / 4]! := by rw [List.getElem?_eq_getElem hq, getElem!_pos l _ hq]
 have := icells_get l (t / 4) (t % 4) _ hx (Nat.mod_lt _ (by decide))
 rw [show t / 4 * 4 + t % 4 = t from by omega] at this
 have hm4 : t % 4 < (itC l[t / 4]!).length := Nat.mod_lt _ (by decide)
 refine ⟨?_, ow_frozen h t⟩
 refine ow_cell h t _ ?_
 rw [this]
 rw [show (l.toArray)[t / 4]! = l[t / 4]! from by simp, List.getElem?_eq_getElem hm4, getElem!_pos (itC l[t / 4]!) _ hm4]
 rfl
theorem reverse_any (v : Value) (B : Nat) (l : List It) (w : World) (h : OwI w B v l) (hle : l.length ≤ 1000000) :
  Calls Tryz.prog 56 #[v] w fun e w' => e = .returned (.tuple #[]) ∧ OwI w' B v l.reverse ∧ w.grownBy w' v.ownBlock := by
 by_cases h0 : l = []
 ·subst h0
  obtain ⟨a, c, hv⟩ := ow_forms h
  subst hv
  refine (AnyQ.slices_Reverse_empty revLays a c w).mono ?_
  rintro e w' ⟨rfl, hw⟩
  rw [hw]
  exact ⟨rfl, h, World.grownBy.refl w _⟩
 ·obtain ⟨g, cap, rfl, hB, hg, hc⟩ := ow_form h (by simpa using h0)
  refine (AnyQ.slices_Reverse revLays 4 Tryz.isAgg36 Tryz.sizeOf36 itC (fun _ => rfl) (fun x v hv => one_items [x] v (by simpa [icells] using hv)) g 0 cap l.toArray w (own_holds h rfl) (by rw [List.size_toArray]; omega)).mono ?_
  rintro e w' ⟨rfl, n, rfl⟩
  rw [show (l.toArray).reverse = l.reverse.toArray from by simp]
  have := own_put (m := n) (d := l.reverse) h rfl (by simp)
  exact ⟨rfl, this.1, this.2⟩
theorem clone_any (a : Option Addr) (n c : Nat) (l : List It) (w : World) (hr : RdI w a l) (hn : n = l.length) (hle : n ≤ 1000000) :
  Calls Tryz.prog 55 #[.slice a n c] w fun e w' => ∃ v, e = .returned v ∧ OwI w' w.heap.size v l ∧ Below w.heap.size w w' := by
 obtain ⟨i0, hi, hz0, hz1, hz2⟩ := info_parts itemInfo
 have Hi : Hid (Tryz.prog.info? 36 = some i0 ∧ i0.zero = some (.agg #[.int .u8 0, .int .i64 0, .string ⟨#[]⟩, .int .i64 0]) ∧ i0.size = 4 ∧ i0.bytes = 40) := ⟨hi, hz0, hz1, hz2⟩
 have q25 : ∀ (w : World) (a : Option Addr) (n c n' c' : Nat), (binOp .eql 25 (.slice a n c) (.slice none n' c')).run Tryz.prog w = .ok (.bool a.isNone) w := fun w a n c n' c' => Lib.run_eql_slice_nil w _ _ a n c n' c' Tryz.underlying25
 have hn' := hn
 subst hn
 cases a with
 | none =>
  have h0 : l = [] := by
   rcases hr with h | ⟨b, off, h, _⟩
   ·have h1 := icells_length l
    rw [h] at h1
    exact List.length_eq_zero_iff.1 (by simp at h1; omega)
   ·cases h
  subst h0
  clear hr hi hz0 hz1 hz2 hn'
  show Calls _ _ #[.slice none 0 c] _ _
  go_enter Tryz.func55, Tryz.ntmps55
  go_wp2
  go_ret
  exact ⟨_, rfl, OwI.nil _ _, Below.refl _ _⟩
 | some ad =>
  have hk := (Below.refl w.heap.size w).alloc (Nat.le_refl _) (.cells #[] 36)
  have ho : (w.alloc (.cells #[] 36)).ownsRow w.heap.size 36 4 (.slice (some ⟨w.heap.size, 0, none⟩) 0 0) 0 [] := World.ownsRow_made w #[] 0 (Nat.le_refl _) (by decide) rfl
  have Hr := hide (RdI.keep hr hk)
  have Ho := hide ho
  obtain ⟨n, hnl⟩ : ∃ n, n = l.length := ⟨_, rfl⟩
  rw [← hnl] at hle hn' ⊢
  have Hn := hide hnl
  clear hr ho hi hz0 hz1 hz2 hn' hnl
  go_enter Tryz.func55, Tryz.ntmps55
  go_wp2_with (at_builtin; refine wpList_appR rfl _ _ 25 rfl i0 _ 40 c Tryz.underlying25 Hi.out.1 Hi.out.2.1 Hi.out.2.2.1 Hi.out.2.2.2 rfl (by decide) rfl rfl (one_items l) Ho.out Hr.out (m := n) ?e1 ?e2 ?e3 ?e4 ?_)
  case e1 => rw [icells_length, Hn.out]
  case e2 => omega
  case e3 => omega
  case e4 => simp
  intro v' W3 own3 hg3 hv3
  have own4 : OwI W3 w.heap.size v' l := by
   unfold OwI
   rw [← Hn.out]
   try rw [Nat.zero_add] at own3
   try rw [List.nil_append] at own3
   exact own3
  have hB3 : Below w.heap.size w W3 := hk.grown hg3 hk.size fun b hb => by simp [Value.ownBlock] at hb; omega
  clear own3 hg3 hv3 hk Ho Hr Hi
  have Hown4 := hide own4
  clear own4
  go_wp2
  go_ret
  exact ⟨_, rfl, Hown4.out, hB3⟩
end Go.Proofs.YtaieiogmolaebaaGreatDoor
namespace Go.Proofs.YtaieiogmolaebaaGreatDoor
open Go.RowKit
def plainI (x : It) : It := if x.kind = 1 then ⟨3, 0, x.text, 0⟩ else x
def addI (acc : List It) (x : It) : List It := if (acc.any fun y => eqI x y) = true then acc else acc ++ [x]
def distA : List It → List It → List It
 | acc, [] => acc
 | acc, x :: r => distA (addI acc (plainI x)) r
def distL (l : List It) : List It := distA [] l
theorem drop_itm {α : Type} (l : List α) (k : Nat) (x : α) (hx : l[k]? = some x) : l.drop k = x :: l.drop (k + 1) := by
 obtain ⟨h1, h2⟩ := List.getElem?_eq_some_iff.1 hx
 rw [List.drop_eq_getElem_cons h1, h2]
theorem addI_len (acc : List It) (x : It) : (addI acc x).length ≤ acc.length + 1 := by
 unfold addI
 split
 ·omega
 ·simp
theorem addI_yes {acc : List It} {x : It} (h : (acc.any fun y => eqI x y) = true) : addI acc x = acc := if_pos h
theorem addI_no {acc : List It} {x : It} (h : (acc.any fun y => eqI x y) = false) : addI acc x = acc ++ [x] := if_neg (by rw [h]; decide)
set_option maxRecDepth 100000 in
set_option maxHeartbeats 2000000 in
theorem distinct_any (p : Option Addr) (n c : Nat) (l : List It) (w : World) (hr : RdI w p l) (hn : n = l.length) (hle : n ≤ 1000000) :
  Calls Tryz.prog 54 #[.slice p n c] w fun e w' => ∃ v, e = .returned v ∧ OwI w' w.heap.size v (distL l) ∧ Below w.heap.size w w' := by
 obtain ⟨i0, hi, hz0, hz1, hz2⟩ := info_parts itemInfo
 have Hi : Hid (Tryz.prog.info? 36 = some i0 ∧ i0.zero = some (.agg #[.int .u8 0, .int .i64 0, .string ⟨#[]⟩, .int .i64 0]) ∧ i0.size = 4 ∧ i0.bytes = 40) := ⟨hi, hz0, hz1, hz2⟩
 have Hr := hide hr
 have Hn := hide hn
 clear hr hn hi hz0 hz1 hz2
 go_enter Tryz.func54, Tryz.ntmps54
 go_wp2_with fail
 go_loopw [3, 8] (fun v iv W => ∃ (k : Nat) (out : List It), k ≤ n ∧ iv = .int .i64 k ∧ OwI W w.heap.size v out ∧ Hid (distA out (l.drop k) = distL l) ∧ Below w.heap.size w W ∧ out.length ≤ k) (fun _ iv _ => n - (intOf iv).toNat)
 case atStart => exact ⟨0, [], Nat.zero_le _, rfl, OwI.nil _ _, hide rfl, Below.refl _ _, Nat.le_refl _⟩
 case round =>
  obtain ⟨k, out, hk, rfl, ho, HD, hB, hol⟩ := hrel
  obtain ⟨av, cv, hv⟩ := ow_forms ho
  subst hv
  by_cases hlt : k < n
  ·have hI : (k : Int) < (n : Int) := by omega
   obtain ⟨x, hx⟩ : ∃ x, l[k]? = some x := ⟨_, List.getElem?_eq_getElem (by have := Hn.out; omega)⟩
   obtain ⟨b1, off1, e1, c0, c1, c2, c3⟩ := (Hr.out.keep hB).at k x hx
   subst e1
   have hix := ix_item b1 off1 n c k hlt
   have HD2 : Hid (distA (addI out (plainI x)) (l.drop (k + 1)) = distL l) := by
    show _ = _
    rw [← HD.out, drop_itm l k x hx]
    rfl
   clear hx HD
   obtain ⟨xk, xa, xt, xd⟩ := x
   dsimp only at c0 c1 c2 c3
   have Ho0 := hide ho
   have hbs0 := hB.size
   clear ho
   obtain ⟨m, hm⟩ : ∃ m, m = out.length := ⟨_, rfl⟩
   rw [← hm] at Ho0 hol ⊢
   have Hm := hide hm
   clear hm
   by_cases h1 : xk = 1
   ·subst h1
    have HD2 : Hid (distA (addI out ⟨3, 0, xt, 0⟩) (l.drop (k + 1)) = distL l) := HD2.out
    go_wp2_with fail
    refine (contains_any ⟨3, 0, xt, 0⟩ av m cv out _ ((OwI.keep Ho0.out ((Below.refl _ _).alloc (Nat.le_refl _) _)).rd) Hm.out (by omega)).mono ?_
    rintro e w2 ⟨rfl, hb2⟩
    have Ho := hide (OwI.keep (OwI.keep Ho0.out ((Below.refl _ _).alloc (Nat.le_refl _) (.cells #[.int .u8 3, .int .i64 0, .string xt, .int .i64 0] 36))) hb2)
    have hbk : Blk w2 wr.heap.size 36 #[.int .u8 3, .int .i64 0, .string xt, .int .i64 0] := (Blk.new wr 36 _).keep hb2
    have x0 := hbk.cell 0
    have x1 := hbk.cell 1
    have x2 := hbk.cell 2
    have x3 := hbk.cell 3
    simp only [List.getElem?_toArray, List.getElem?_cons_zero, List.getElem?_cons_succ] at x0 x1 x2 x3
    clear hbk
    have hB0 := hB
    clear hB
    have hB := chain0 (hB0.alloc hB0.size _) hb2
    clear hb2 hB0 Ho0 c0 c1 c2 c3 hix
    rcases Bool.eq_false_or_eq_true (out.any fun y => eqI (⟨3, 0, xt, 0⟩ : It) y) with hq | hq
    ·have HD3 : Hid (distA out (l.drop (k + 1)) = distL l) := by show _ = _; rw [← HD2.out, addI_yes hq]
     clear HD2
     rw [hq]
     clear hq
     go_wp2
     go_roundw
     case rel => exact ⟨k + 1, out, by omega, by simp, Ho.out, HD3, hB, by have := Hm.out; omega⟩
     case measure => simp [intOf]; omega
    ·have HD3 : Hid (distA (out ++ [(⟨3, 0, xt, 0⟩ : It)]) (l.drop (k + 1)) = distL l) := by show _ = _; rw [← HD2.out, addI_no hq]
     clear HD2
     rw [hq]
     clear hq
     have hka := (Below.refl w2.heap.size w2).alloc (Nat.le_refl _) (.cells (itC (⟨3, 0, xt, 0⟩ : It)).toArray 36)
     have HO2 := hide (ow_keep Ho.out hka)
     have Hrd := hide (RdI.new w2 36 [(⟨3, 0, xt, 0⟩ : It)])
     have hbs := hB.size
     clear hka
     go_wp2_with (at_builtin; refine wpList_appR rfl _ _ 25 rfl i0 _ 40 1 Tryz.underlying25 Hi.out.1 Hi.out.2.1 Hi.out.2.2.1 Hi.out.2.2.2 rfl (by decide) rfl rfl (one_items [(⟨3, 0, xt, 0⟩ : It)]) HO2.out Hrd.out (m := 1) rfl ?e2 ?e3 ?e4 ?_)
     case e2 => have := Hm.out; omega
     case e3 => have := Hm.out; omega
     case e4 => simp; omega
     intro v3 W3 own3 hg3 hv3
     have own4 : OwI W3 w.heap.size v3 (out ++ [(⟨3, 0, xt, 0⟩ : It)]) := by
      unfold OwI
      rw [icells_append, List.length_append, List.length_singleton]
      exact own3
     have hB3 : Below w.heap.size w W3 := (hB.alloc hB.size _).grown hg3 (by simp; omega) fun b hb => (ow_lt Ho.out b hb).1
     have Hown4 := hide own4
     clear own3 hg3 hv3 own4 HO2 Hrd hB
     go_wp2
     go_roundw
     case rel => exact ⟨k + 1, out ++ [(⟨3, 0, xt, 0⟩ : It)], by omega, by simp, Hown4.out, HD3, hB3, by have := Hm.out; simp; omega⟩
     case measure => simp [intOf]; omega
   ·have h1f : decide ((xk : Int) = 1) = false := by simp; omega
    have hpl : plainI ⟨xk, xa, xt, xd⟩ = ⟨xk, xa, xt, xd⟩ := if_neg h1
    rw [hpl] at HD2
    have h1g : ((xk : Int) == 1) = false := by simpa using (show ¬ (xk : Int) = 1 by omega)
    have h1h : ¬ (xk : Int) = 1 := by omega
    clear hpl h1
    go_wp2_with fail
    refine (contains_any ⟨xk, xa, xt, xd⟩ av m cv out _ ((OwI.keep Ho0.out ((Below.refl _ _).alloc (Nat.le_refl _) _)).rd) Hm.out (by omega)).mono ?_
    rintro e w2 ⟨rfl, hb2⟩
    have Ho := hide (OwI.keep (OwI.keep Ho0.out ((Below.refl _ _).alloc (Nat.le_refl _) (.cells #[.int .u8 xk, .int .i64 xa, .string xt, .int .i64 xd] 36))) hb2)
    have hbk : Blk w2 wr.heap.size 36 #[.int .u8 xk, .int .i64 xa, .string xt, .int .i64 xd] := (Blk.new wr 36 _).keep hb2
    have x0 := hbk.cell 0
    have x1 := hbk.cell 1
    have x2 := hbk.cell 2
    have x3 := hbk.cell 3
    simp only [List.getElem?_toArray, List.getElem?_cons_zero, List.getElem?_cons_succ] at x0 x1 x2 x3
    clear hbk
    have hB0 := hB
    clear hB
    have hB := chain0 (hB0.alloc hB0.size _) hb2
    clear hb2 hB0 Ho0 c0 c1 c2 c3 hix
    rcases Bool.eq_false_or_eq_true (out.any fun y => eqI (⟨xk, xa, xt, xd⟩ : It) y) with hq | hq
    ·have HD3 : Hid (distA out (l.drop (k + 1)) = distL l) := by show _ = _; rw [← HD2.out, addI_yes hq]
     clear HD2
     rw [hq]
     clear hq
     go_wp2
     go_roundw
     case rel => exact ⟨k + 1, out, by omega, by simp, Ho.out, HD3, hB, by have := Hm.out; omega⟩
     case measure => simp [intOf]; omega
    ·have HD3 : Hid (distA (out ++ [(⟨xk, xa, xt, xd⟩ : It)]) (l.drop (k + 1)) = distL l) := by show _ = _; rw [← HD2.out, addI_no hq]
     clear HD2
     rw [hq]
     clear hq
     have hka := (Below.refl w2.heap.size w2).alloc (Nat.le_refl _) (.cells (itC (⟨xk, xa, xt, xd⟩ : It)).toArray 36)
     have HO2 := hide (ow_keep Ho.out hka)
     have Hrd := hide (RdI.new w2 36 [(⟨xk, xa, xt, xd⟩ : It)])
     have hbs := hB.size
     clear hka
     go_wp2_with (at_builtin; refine wpList_appR rfl _ _ 25 rfl i0 _ 40 1 Tryz.underlying25 Hi.out.1 Hi.out.2.1 Hi.out.2.2.1 Hi.out.2.2.2 rfl (by decide) rfl rfl (one_items [(⟨xk, xa, xt, xd⟩ : It)]) HO2.out Hrd.out (m := 1) rfl ?e2 ?e3 ?e4 ?_)
     case e2 => have := Hm.out; omega
     case e3 => have := Hm.out; omega
     case e4 => simp; omega
     intro v3 W3 own3 hg3 hv3
     have own4 : OwI W3 w.heap.size v3 (out ++ [(⟨xk, xa, xt, xd⟩ : It)]) := by
      unfold OwI
      rw [icells_append, List.length_append, List.length_singleton]
      exact own3
     have hB3 : Below w.heap.size w W3 := (hB.alloc hB.size _).grown hg3 (by simp; omega) fun b hb => (ow_lt Ho.out b hb).1
     have Hown4 := hide own4
     clear own3 hg3 hv3 own4 HO2 Hrd hB
     go_wp2
     go_roundw
     case rel => exact ⟨k + 1, out ++ [(⟨xk, xa, xt, xd⟩ : It)], by omega, by simp, Hown4.out, HD3, hB3, by have := Hm.out; simp; omega⟩
     case measure => simp [intOf]; omega
  ·have hI : ¬ (k : Int) < (n : Int) := by omega
   have hx : out = distL l := by rw [← HD.out, List.drop_eq_nil_of_le (by have := Hn.out; omega)]; rfl
   have Hx := hide hx
   have Ho := hide ho
   clear hx HD ho
   go_wp2
   go_ret
   exact ⟨_, rfl, by rw [← Hx.out]; exact Ho.out, hB⟩
end Go.Proofs.YtaieiogmolaebaaGreatDoor
