/- ValueCalls: the rows that are lent, one behind the other. SameItems at two rows of one item; is. is: does an operation make this one number? value.Call: 'substring' of 'motor', 2, 3. value.Truth at what awake asks. awake: the chapter's examples. -/
import Derived.Test.YtaieiogmolaebaaGreatDoorC14
import Derived.Test.YtaieiogmolaebaaGreatDoorRm
import Derived.Test.YtaieiogmolaebaaGreatDoorC13
import Derived.Test.YtaieiogmolaebaaGreatDoorRgi
import Derived.Test.YtaieiogmolaebaaGreatDoorWs
import Derived.Test.YtaieiogmolaebaaGreatDoorC15
namespace Go.Proofs.YtaieiogmolaebaaGreatDoor
open Go.RowKit
theorem len_lentI (l : List It) : (lentI l).length = l.length + 12 := by unfold lentI; rw [List.length_append, length_imarks]
def Lent (W : World) (B : Nat) (x : Lst) : Prop := ∃ g, x.a = some ⟨g, 0, none⟩ ∧ x.c = x.l.length + 12 ∧ OwI W B (.slice (some ⟨g, 0, none⟩) (x.l.length + 12) (x.l.length + 12)) (lentI x.l)
section
variable {w W W' : World} {B : Nat} {x : Lst}
theorem Lent.keep (h : Lent W B x) (hb : Below W.heap.size W W') : Lent W' B x := by
 obtain ⟨g, h1, h2, h3⟩ := h
 exact ⟨g, h1, h2, h3.keep hb⟩
theorem Lent.other {r : Option Nat} (h : Lent W B x) (hg : W.grownBy W' r) (hne : ∀ g, x.a = some ⟨g, 0, none⟩ → r ≠ some g) : Lent W' B x := by
 obtain ⟨g, h1, h2, h3⟩ := h
 exact ⟨g, h1, h2, World.ownsRow.kept h3 hg (.inr fun e => hne g h1 (by rw [← e]; rfl))⟩
theorem Lent.parts (h : Lent W B x) : ∃ g cur, x.a = some ⟨g, 0, none⟩ ∧ x.c = x.l.length + 12 ∧ B ≤ g ∧ W.heap[g]? = some (.cells cur 36 (0, 0)) := by
 obtain ⟨g, h1, h2, h3⟩ := h
 unfold OwI at h3
 rw [len_lentI] at h3
 obtain ⟨cur, q1, q2, _⟩ := own_parts h3
 exact ⟨g, cur, h1, h2, q1, q2⟩
theorem Lent.rd (h : Lent W B x) : ∃ g, x.a = some ⟨g, 0, none⟩ ∧ x.c = x.l.length + 12 ∧ RdI W (some ⟨g, 0, none⟩) (lentI x.l) := by
 obtain ⟨g, h1, h2, h3⟩ := h
 exact ⟨g, h1, h2, h3.rd⟩
theorem Lent.cont (h : Lent W B x) : ∃ g, x.a = some ⟨g, 0, none⟩ ∧ x.c = x.l.length + 12 ∧ B ≤ g ∧ ContI W (some g, x.l.length, x.l.length + 12, some ⟨g, 0, none⟩) [] := by
 obtain ⟨g, h1, h2, h3⟩ := h
 have hl := (ow_lt h3 g rfl).1
 refine ⟨g, h1, h2, hl, ?_⟩
 have hc : ContI W (some g, x.l.length, x.l.length + 12, some ⟨g, 0, none⟩) (lentI x.l) := by
  refine .inr ⟨g, rfl, rfl, Nat.le_add_right _ _, ?_⟩
  have h4 := OwI.mono h3 (Nat.zero_le B)
  unfold OwI at h4
  rw [len_lentI] at h4 ⊢
  exact h4
 exact hc.take 0
theorem row_ne {v : Value} {n B' : Nat} {xs : List Value} (h : W.ownsRow B' 25 1 v n xs) (hx : Lent W B x) (g : Nat) (hg : x.a = some ⟨g, 0, none⟩) : v.ownBlock ≠ some g := by
 obtain ⟨g2, cur, h1, _, _, h2⟩ := hx.parts
 rw [h1] at hg
 injection hg with hg
 injection hg with hg
 subst hg
 rcases h.2 with ⟨rfl, _⟩ | ⟨g3, cap, cur3, rfl, _, h3, _⟩
 ·intro e; cases e
 ·intro e
  injection e with e
  subst e
  rw [h2] at h3
  injection h3 with h3
  injection h3 with _ h3
  exact absurd h3 (by decide)
end
structure InQ (w W : World) (k : Nat) (v : Value) (ls L : List Lst) : Prop where
 e : conL L = conL (ls.take k)
 own : ∀ x ∈ L, Lent W w.heap.size x
 ne : L.Pairwise (fun x y => x.a ≠ y.a)
 row : W.ownsRow w.heap.size 25 1 v k (L.map Lst.v)
 hB : Below w.heap.size w W
section
variable {w W W' W1 W3 : World} {k m : Nat} {v v' : Value} {ls L : List Lst} {x : Lst}
theorem InQ.start (w : World) (ls : List Lst) : InQ w w 0 (.slice none 0 0) ls [] := ⟨rfl, fun x h => (by cases h), List.Pairwise.nil, ow_nil _ _ _ _, Below.refl _ _⟩
theorem InQ.keep (I : InQ w W k v ls L) (hb : Below W.heap.size W W') : InQ w W' k v ls L := ⟨I.e, fun x hx => (I.own x hx).keep hb, I.ne, ow_keep I.row hb, chain0 I.hB hb⟩
theorem InQ.next (I : InQ w W k v ls L) (hx : ls[k]? = some x) (hm : m = x.l.length) (own : OwI W1 W.heap.size (.slice (some ⟨W.heap.size, 0, none⟩) (m + 12) (m + 12)) (lentI x.l)) (hb : Below W.heap.size W W1) (o : Obj)
  (own3 : W3.ownsRow w.heap.size 25 1 v' (k + 1) (L.map Lst.v ++ [.slice (some ⟨W.heap.size, 0, none⟩) m (m + 12)])) (hg3 : (W1.alloc o).grownBy W3 v.ownBlock) :
  InQ w W3 (k + 1) v' ls (L ++ [⟨some ⟨W.heap.size, 0, none⟩, x.l, m + 12⟩]) := by
 subst hm
 have hal : Below W1.heap.size W1 (W1.alloc o) := (Below.refl _ _).alloc (Nat.le_refl _) o
 have hb2 : Below W.heap.size W (W1.alloc o) := chain0 hb hal
 have I2 := I.keep hb2
 have hl : Lent (W1.alloc o) w.heap.size ⟨some ⟨W.heap.size, 0, none⟩, x.l, x.l.length + 12⟩ := ⟨W.heap.size, rfl, rfl, OwI.mono (OwI.keep own hal) I.hB.size⟩
 refine ⟨?_, ?_, ?_, ?_, ?_⟩
 ·have h1 := I.e
  unfold conL at h1 ⊢
  rw [List.take_add_one, hx, List.map_append, List.map_append, h1]
  rfl
 ·intro y hy
  rcases List.mem_append.1 hy with hy | hy
  ·exact (I2.own y hy).other hg3 fun g hg => row_ne I2.row (I2.own y hy) g hg
  ·rw [List.mem_singleton] at hy
   subst hy
   exact hl.other hg3 fun g hg => row_ne I2.row hl g hg
 ·refine List.pairwise_append.2 ⟨I.ne, List.pairwise_singleton _ _, fun a ha b hb => ?_⟩
  rw [List.mem_singleton] at hb
  subst hb
  obtain ⟨g, cur, h1, _, _, h2⟩ := (I.own a ha).parts
  rw [h1]
  intro e
  injection e with e
  injection e with e
  have := lt_of_heap h2
  omega
 ·rw [List.map_append]
  exact own3
 ·exact I2.hB.grown hg3 I2.hB.size fun b hb => (ow_lt I2.row b hb).1
theorem con_mem (h : conL L = conL ls) (hx : x ∈ L) : ∃ y ∈ ls, y.l = x.l := by
 have : x.l ∈ conL L := List.mem_map.2 ⟨x, hx, rfl⟩
 rw [h] at this
 obtain ⟨y, hy, e⟩ := List.mem_map.1 this
 exact ⟨y, hy, e⟩
theorem con_len (h : conL L = conL ls) : L.length = ls.length := by simpa [conL] using congrArg List.length h
theorem con_at (h : conL L = conL ls) (i : Nat) (hx : ls[i]? = some x) : ∃ y, L[i]? = some y ∧ y.l = x.l := by
 have h2 := congrArg (fun (l : List (List It)) => l[i]?) h
 simp only [conL, List.getElem?_map, hx] at h2
 obtain ⟨y, hy, e⟩ := Option.map_eq_some_iff.1 h2
 exact ⟨y, hy, e⟩
theorem pre_in {p : Option Addr} {n : Nat} (hr : Rd w p (ls.map Lst.v)) (hok : OkAs w ls) (hR : ∀ x ∈ ls, ∀ y ∈ x.l, R64 y.num) (hS : ∀ x ∈ ls, Small x) (hL : ∀ x ∈ ls, x.l.length ≤ 300) (hn : n = ls.length) (hm : n ≤ 20) (hB : Below w.heap.size w W) : PreC W p n ls :=
 ⟨hr.keep hB, hok.keep hB, hR, hS, fun x hx => Nat.le_trans (hL x hx) (by decide), hn, by omega⟩
theorem InQ.pre {a : Option Addr} {n c : Nat} (I : InQ w W n (.slice a n c) ls L) (hR : ∀ x ∈ ls, ∀ y ∈ x.l, R64 y.num) (hS : ∀ x ∈ ls, Small x) (hL : ∀ x ∈ ls, x.l.length ≤ 300) (hn : n = ls.length) (hm : n ≤ 20) : conL L = conL ls ∧ PreC W a n L := by
 have he : conL L = conL ls := by
  have := I.e
  rw [hn, List.take_length] at this
  exact this
 refine ⟨he, ?_⟩
 have hL2 : ∀ x ∈ L, x.l.length ≤ 300 := fun x hx => by
  obtain ⟨y, hy, e⟩ := con_mem he hx
  rw [← e]; exact hL y hy
 have hS2 : ∀ x ∈ L, ∀ y ∈ x.l, y.text.size ≤ 100000 := fun x hx => by
  obtain ⟨y, hy, e⟩ := con_mem he hx
  rw [← e]; exact hS y hy
 refine ⟨ow_rd I.row, fun x hx => ?_, fun x hx => ?_, hS2, fun x hx => Nat.le_trans (hL2 x hx) (by decide), by rw [hn, con_len he], by omega⟩
 ·obtain ⟨g, h1, _, h3⟩ := (I.own x hx).rd
  refine ⟨?_, fun y hy => Nat.le_trans (hS2 x hx y hy) (by decide), by have := hL2 x hx; omega⟩
  rw [h1]
  exact RdI.left h3
 ·obtain ⟨y, hy, e⟩ := con_mem he hx
  rw [← e]; exact hR y hy
end
structure InR (w W : World) (n i : Nat) (v : Value) (L : List Lst) : Prop where
 own : ∀ j x, i ≤ j → L[j]? = some x → Lent W w.heap.size x
 ne : L.Pairwise (fun x y => x.a ≠ y.a)
 row : W.ownsRow w.heap.size 25 1 v n (L.map Lst.v)
 hB : Below w.heap.size w W
section
variable {w W W' : World} {n i g : Nat} {v : Value} {L ls : List Lst} {x : Lst}
theorem InQ.turn (I : InQ w W n v ls L) : InR w W n 0 v L := ⟨fun _ x _ hx => I.own x (List.mem_of_getElem? hx), I.ne, I.row, I.hB⟩
theorem InR.keep (I : InR w W n i v L) (hb : Below W.heap.size W W') : InR w W' n i v L := ⟨fun j x hj hx => (I.own j x hj hx).keep hb, I.ne, ow_keep I.row hb, chain0 I.hB hb⟩
theorem InR.next (I : InR w W n i v L) (hx : L[i]? = some x) (hg : x.a = some ⟨g, 0, none⟩) (hgr : W.grownBy W' (some g)) : InR w W' n (i + 1) v L := by
 have hxl := I.own i x (Nat.le_refl _) hx
 obtain ⟨g2, _, h1, _, h2, _⟩ := hxl.parts
 have hgg : g2 = g := by rw [hg] at h1; injection h1 with h1; injection h1 with h1; exact h1.symm
 subst hgg
 refine ⟨fun j y hj hy => ?_, I.ne, ?_, ?_⟩
 ·refine (I.own j y (by omega) hy).other hgr fun g3 h3 e => ?_
  injection e with e
  subst e
  obtain ⟨hi, rfl⟩ := List.getElem?_eq_some_iff.1 hx
  obtain ⟨hj2, rfl⟩ := List.getElem?_eq_some_iff.1 hy
  exact List.pairwise_iff_getElem.1 I.ne i j hi hj2 (by omega) (by rw [hg, h3])
 ·exact World.ownsRow.kept I.row hgr (.inr (row_ne I.row hxl g2 hg))
 ·exact I.hB.grown hgr I.hB.size fun b hb => by injection hb with hb; omega
end
structure Ans (W : World) (B1 B2 B3 : Nat) (va vb vr : Value) (l : List It) : Prop where
 a : OwE W B1 B2 va l
 b : OwE W B2 B3 vb l
 r : OwZ W B3 vr l
section
variable {W W' : World} {B1 B2 B3 g : Nat} {va vb vr : Value} {l : List It}
theorem Ans.keep (h : Ans W B1 B2 B3 va vb vr l) (hb : Below W.heap.size W W') : Ans W' B1 B2 B3 va vb vr l := ⟨h.a.keep hb, h.b.keep hb, h.r.keep hb⟩
theorem Ans.other (h : Ans W B1 B2 B3 va vb vr l) (hg : W.grownBy W' (some g)) (h1 : g < B1) (h2 : B1 ≤ B2) (h3 : B2 ≤ B3) : Ans W' B1 B2 B3 va vb vr l := ⟨h.a.other hg h1, h.b.other hg (by omega), h.r.other hg (by omega)⟩
end
end Go.Proofs.YtaieiogmolaebaaGreatDoor
namespace Go.Proofs.YtaieiogmolaebaaGreatDoor
open Go.RowKit
set_option maxRecDepth 100000 in
set_option maxHeartbeats 4000000 in
theorem same_one (g1 g2 c1 c2 k : Nat) (a d : Int) (t : ByteArray) (w : World) (h1 : RdI w (some ⟨g1, 0, none⟩) [⟨k, a, t, d⟩]) (h2 : RdI w (some ⟨g2, 0, none⟩) [⟨k, a, t, d⟩]) :
  Calls Tryz.prog 11 #[.slice (some ⟨g1, 0, none⟩) 1 c1, .slice (some ⟨g2, 0, none⟩) 1 c2] w fun e w' => e = .returned (.bool true) ∧ Below w.heap.size w w' := by
 have i10 := ix_item0 g1 1 c1 (by decide)
 have i20 := ix_item0 g2 1 c2 (by decide)
 obtain ⟨a_0, a_1, a_2, a_3⟩ := h1.z0 _ rfl
 obtain ⟨b_0, b_1, b_2, b_3⟩ := h2.z0 _ rfl
 have A_0 : w.drew.cell? ⟨g1, 0, none⟩ = some (.int .u8 k) := a_0
 have A_1 : w.drew.cell? ⟨g1, 1, none⟩ = some (.int .i64 a) := a_1
 have A_2 : w.drew.cell? ⟨g1, 2, none⟩ = some (.string t) := a_2
 have A_3 : w.drew.cell? ⟨g1, 3, none⟩ = some (.int .i64 d) := a_3
 have B_0 : w.drew.cell? ⟨g2, 0, none⟩ = some (.int .u8 k) := b_0
 have B_1 : w.drew.cell? ⟨g2, 1, none⟩ = some (.int .i64 a) := b_1
 have B_2 : w.drew.cell? ⟨g2, 2, none⟩ = some (.string t) := b_2
 have B_3 : w.drew.cell? ⟨g2, 3, none⟩ = some (.int .i64 d) := b_3
 clear h1 h2 a_0 a_1 a_2 a_3 b_0 b_1 b_2 b_3
 go_enter Tryz.func11, Tryz.ntmps11
 go_wp2_with fail
 refine wp_loop_rounds 3 ?_
 rw [rounds_succ]
 go_wp2_with fail
 go_region
 go_wp2_with fail
 rw [rounds_succ]
 go_wp2
 go_ret
 exact ⟨rfl, Below.drew (Below.refl _ _)⟩
end Go.Proofs.YtaieiogmolaebaaGreatDoor
namespace Go.Proofs.YtaieiogmolaebaaGreatDoor
open Go.RowKit
set_option maxRecDepth 100000 in
set_option maxHeartbeats 4000000 in
theorem is_any (s : ByteArray) (k1 k2 : Nat) (a1 a2 d1 d2 x y v1 n : Int) (t1 t2 : ByteArray) (w : World) (hg1 : Good ⟨k1, a1, t1, d1⟩) (hg2 : Good ⟨k2, a2, t2, d2⟩) (hnx : IsNum k1 a1 t1 d1 x) (hny : IsNum k2 a2 t2 d2 y) (hm1 : Made s 1 1 v1 0) (hm : Made s x y n 0) :
  Calls Tryz.prog 19 #[.string s, .agg #[.int .u8 k1, .int .i64 a1, .string t1, .int .i64 d1], .agg #[.int .u8 k2, .int .i64 a2, .string t2, .int .i64 d2], .int .i64 n] w fun e w' => e = .returned (.bool true) ∧ Below w.heap.size w w' := by
 have harith := arith_ok s
 have Hg1 := hide hg1
 have Hg2 := hide hg2
 have Hnx := hide hnx
 have Hny := hide hny
 have Hm1 := hide hm1
 have Hm := hide hm
 have Ha := hide harith
 clear hg1 hg2 hnx hny hm1 hm harith
 have x_a : Blk ((w.alloc (.cells #[.int .u8 k1, .int .i64 a1, .string t1, .int .i64 d1] 36)).alloc (.cells #[.int .u8 k2, .int .i64 a2, .string t2, .int .i64 d2] 36)) w.heap.size 36 #[.int .u8 k1, .int .i64 a1, .string t1, .int .i64 d1] := (Blk.new w _ _).alloc _
 have x_b : Blk ((w.alloc (.cells #[.int .u8 k1, .int .i64 a1, .string t1, .int .i64 d1] 36)).alloc (.cells #[.int .u8 k2, .int .i64 a2, .string t2, .int .i64 d2] 36)) (w.heap.size + 1) 36 #[.int .u8 k2, .int .i64 a2, .string t2, .int .i64 d2] := by
  have := Blk.new (w.alloc (.cells #[.int .u8 k1, .int .i64 a1, .string t1, .int .i64 d1] 36)) 36 #[.int .u8 k2, .int .i64 a2, .string t2, .int .i64 d2]
  simpa using this
 have hB : Below w.heap.size w ((w.alloc (.cells #[.int .u8 k1, .int .i64 a1, .string t1, .int .i64 d1] 36)).alloc (.cells #[.int .u8 k2, .int .i64 a2, .string t2, .int .i64 d2] 36)) := ((Below.refl _ _).alloc (Nat.le_refl _) _).alloc (by simp) _
 go_enter Tryz.func19, Tryz.ntmps19
 go_wp2_with fail
 generalize ((w.alloc (.cells #[.int .u8 k1, .int .i64 a1, .string t1, .int .i64 d1] 36)).alloc (.cells #[.int .u8 k2, .int .i64 a2, .string t2, .int .i64 d2] 36)) = w1 at *
 refine wp_region_facts (R := RB w1.heap.size (⟨#[]⟩) (0)) [eqF _ _ _ 12 (.string s), eqF _ _ _ 13 (.agg #[.int .u8 k1, .int .i64 a1, .string t1, .int .i64 d1]), itsF w1.heap.size ⟨#[]⟩ 0 14 1 1 [⟨k1, a1, t1, d1⟩], itsF w1.heap.size ⟨#[]⟩ 0 15 1 1 [⟨k1, a1, t1, d1⟩], eqF _ _ _ 16 (.agg #[.int .u8 k2, .int .i64 a2, .string t2, .int .i64 d2]), itsF w1.heap.size ⟨#[]⟩ 0 17 1 1 [⟨k2, a2, t2, d2⟩], itsF w1.heap.size ⟨#[]⟩ 0 18 1 1 [⟨k2, a2, t2, d2⟩], someF w1.heap.size ⟨#[]⟩ 0 19 (fun x : Nat × Nat => .tuple #[.slice (some ⟨x.1, 0, none⟩) 1 1, .int .i64 0]) (fun x W => RdI W (some ⟨x.1, 0, none⟩) [⟨2, n, ⟨#[]⟩, 0⟩]) (fun _ _ _ h k => h.rdi k), someF w1.heap.size ⟨#[]⟩ 0 11 (fun x : Nat × Nat => .tuple #[.slice (some ⟨x.1, 0, none⟩) 1 1, .int .i64 0]) (fun x W => RdI W (some ⟨x.1, 0, none⟩) [⟨2, n, ⟨#[]⟩, 0⟩]) (fun _ _ _ h k => h.rdi k), someF w1.heap.size ⟨#[]⟩ 0 20 (fun x : Nat × Nat => .slice (some ⟨x.1, 0, none⟩) 1 1) (fun x W => RdI W (some ⟨x.1, 0, none⟩) [⟨2, n, ⟨#[]⟩, 0⟩]) (fun _ _ _ h k => h.rdi k), eqF _ _ _ 21 (.int .i64 0), someF w1.heap.size ⟨#[]⟩ 0 9 (fun x : Nat × Nat => .slice (some ⟨x.1, 0, none⟩) 1 1) (fun x W => RdI W (some ⟨x.1, 0, none⟩) [⟨2, n, ⟨#[]⟩, 0⟩]) (fun _ _ _ h k => h.rdi k), eqF _ _ _ 10 (.int .i64 0)] (by kernel_rfl) (by kernel_rfl) (by kernel_rfl) (RB.refl (Nat.le_refl _)) (fun _ h => h.again) (fun _ _ _ h k => h.trans k) ?_ ?_
 ·refine stepsU_cons rfl ?_ (stepsU_cons rfl ?_ (stepsU_cons rfl ?_ (stepsU_cons rfl ?_ (stepsU_cons rfl ?_ (stepsU_cons rfl ?_ (stepsU_cons rfl ?_ (stepsU_cons rfl ?_ (stepsU_cons rfl ?_ (stepsU_cons rfl ?_ (stepsU_cons rfl ?_ (stepsU_cons rfl ?_ (stepsU_cons rfl ?_ (stepsU_nil)))))))))))))
  ·refine stepU_plain rfl fun u wr hR hK hD => ?_; exact upon_move _ _ rfl (hK 0 rfl) ⟨hR.again, rfl⟩
  ·refine stepU_plain rfl fun u wr hR hK hD => ?_; exact upon_loadIt _ _ _ _ _ _ rfl (hK 5 rfl) (hR.old x_a.lt x_a) ⟨hR.again, rfl⟩
  ·refine stepU_plain rfl fun u wr hR hK hD => ?_; exact upon_buildIt _ _ _ _ _ rfl (hD 1 rfl) ⟨hR.next ((Below.refl _ _).alloc (Nat.le_refl _) _), ⟨_, rfl, Nat.le_trans hR.hB hR.be.size, RdI.new _ _ [⟨k1, a1, t1, d1⟩]⟩⟩
  ·refine stepU_plain rfl fun u wr hR hK hD => ?_; obtain ⟨g, h1, h2, h3⟩ := (hD 2 rfl); exact upon_call1 _ _ _ Tryz.func14 (by kernel_rfl) rfl h1 ((lrow_any _ _ _ _).mono fun e wn ⟨he, hw⟩ => ⟨_, he, by subst hw; exact ⟨hR.again, ⟨g, rfl, h2, h3⟩⟩⟩)
  ·refine stepU_plain rfl fun u wr hR hK hD => ?_; exact upon_loadIt _ _ _ _ _ _ rfl (hK 6 rfl) (hR.old x_b.lt x_b) ⟨hR.again, rfl⟩
  ·refine stepU_plain rfl fun u wr hR hK hD => ?_; exact upon_buildIt _ _ _ _ _ rfl (hD 4 rfl) ⟨hR.next ((Below.refl _ _).alloc (Nat.le_refl _) _), ⟨_, rfl, Nat.le_trans hR.hB hR.be.size, RdI.new _ _ [⟨k2, a2, t2, d2⟩]⟩⟩
  ·refine stepU_plain rfl fun u wr hR hK hD => ?_; obtain ⟨g, h1, h2, h3⟩ := (hD 5 rfl); exact upon_call1 _ _ _ Tryz.func14 (by kernel_rfl) rfl h1 ((lrow_any _ _ _ _).mono fun e wn ⟨he, hw⟩ => ⟨_, he, by subst hw; exact ⟨hR.again, ⟨g, rfl, h2, h3⟩⟩⟩)
  ·refine stepU_plain rfl fun u wr hR hK hD => ?_; obtain ⟨g1, h1, h2, h3⟩ := (hD 3 rfl); obtain ⟨g2, m1, m2, m3⟩ := (hD 6 rfl); exact upon_call3 _ _ _ _ _ _ _ Tryz.func51 (by kernel_rfl) rfl (hD 0 rfl) h1 m1 ((Ha.out g1 g2 1 1 k1 k2 a1 a2 d1 d2 x y n v1 t1 t2 wr h3 m3 Hg1.out Hg2.out Hnx.out Hny.out Hm1.out Hm.out).mono fun e wn ⟨g, he, hg, hr, hb⟩ => ⟨_, he, hR.next hb, ⟨(g, 0), rfl, hr⟩⟩)
  ·refine stepU_plain rfl fun u wr hR hK hD => ?_; obtain ⟨x, h1, h2⟩ := (hD 7 rfl); exact upon_move _ _ rfl h1 ⟨hR.again, ⟨x, rfl, h2⟩⟩
  ·refine stepU_plain rfl fun u wr hR hK hD => ?_; obtain ⟨x, h1, h2⟩ := (hD 8 rfl); exact upon_extract _ 0 _ _ rfl h1 rfl ⟨hR.again, ⟨x, rfl, h2⟩⟩
  ·refine stepU_plain rfl fun u wr hR hK hD => ?_; obtain ⟨x, h1, h2⟩ := (hD 8 rfl); exact upon_extract _ 1 _ _ rfl h1 rfl ⟨hR.again, rfl⟩
  ·refine stepU_plain rfl fun u wr hR hK hD => ?_; obtain ⟨x, h1, h2⟩ := (hD 9 rfl); exact upon_assign _ _ rfl h1 ⟨hR.again, ⟨x, rfl, h2⟩⟩
  ·refine stepU_plain rfl fun u wr hR hK hD => ?_; exact upon_assign _ _ rfl (hD 10 rfl) ⟨hR.again, rfl⟩
 intro u w2 hR hF
 have e12 : u 12 = .string s := hF 0 (by decide)
 have e13 : u 13 = .agg #[.int .u8 k1, .int .i64 a1, .string t1, .int .i64 d1] := hF 1 (by decide)
 have e16 : u 16 = .agg #[.int .u8 k2, .int .i64 a2, .string t2, .int .i64 d2] := hF 4 (by decide)
 have e21 : u 21 = .int .i64 0 := hF 10 (by decide)
 have e10 : u 10 = .int .i64 0 := hF 12 (by decide)
 obtain ⟨a14, e14, p14, r14⟩ := hF 2 (by decide)
 obtain ⟨a15, e15, p15, r15⟩ := hF 3 (by decide)
 obtain ⟨a17, e17, p17, r17⟩ := hF 5 (by decide)
 obtain ⟨a18, e18, p18, r18⟩ := hF 6 (by decide)
 obtain ⟨⟨a19, p19⟩, e19, r19⟩ := hF 7 (by decide)
 dsimp only at e19 r19
 obtain ⟨⟨a11, p11⟩, e11, r11⟩ := hF 8 (by decide)
 dsimp only at e11 r11
 obtain ⟨⟨a20, p20⟩, e20, r20⟩ := hF 9 (by decide)
 dsimp only at e20 r20
 obtain ⟨⟨a9, p9⟩, e9, r9⟩ := hF 11 (by decide)
 dsimp only at e9 r9
 simp only [finU, Act.put, List.setIfInBounds_toArray, List.set_cons_succ, List.set_cons_zero, e12, e13, e14, e15, e16, e17, e18, e19, e11, e20, e21, e9, e10]
 clear hF e12 e13 e14 e15 e16 e17 e18 e19 e11 e20 e21 e9 e10
 have hB2 : Below w.heap.size w w2 := chain hB.drew hB.size hR.be
 have hb_w2 : Below w1.heap.size w1 w2 := ⟨hR.be.os, hR.be.tape, hR.be.output, hR.be.size, hR.be.block⟩
 clear hB hR
 have hB := hB2
 clear hB2
 have R9 := hide r9
 clear r9 r20 r19 r18 r17 r15 r14 r11 p18 p17 p15 p14 Ha Hg1 Hg2 Hnx Hny Hm1 Hm
 go_wp2_with fail
 refine (lwhole_any n _).mono ?_
 rintro e w3 ⟨rfl, hb3⟩
 have hB3 := chain0 hB hb3
 have R93 := hide (R9.out.keep hb3)
 clear hb3 R9
 go_wp2_with fail
 refine (lrow_any _ _ _ _).mono ?_
 rintro e w4 ⟨rfl, rfl⟩
 go_wp2_with fail
 refine (same_one a9 w3.heap.size 1 1 2 n 0 ⟨#[]⟩ _ (R93.out.alloc _) (RdI.new w3 36 [⟨2, n, ⟨#[]⟩, 0⟩])).mono ?_
 rintro e w5 ⟨rfl, hb5⟩
 have hB5 := chain1 hB3 hb5
 clear hb5
 go_wp2
 go_ret
 exact ⟨rfl, hB5⟩
end Go.Proofs.YtaieiogmolaebaaGreatDoor
namespace Go.Proofs.YtaieiogmolaebaaGreatDoor
set_option maxRecDepth 100000
set_option maxHeartbeats 4000000
open Go.RowKit
theorem ofItems_sub (a c g1 g2 g3 c1 c2 c3 : Nat) (w : World) (hr : Rd w (some ⟨a, 0, none⟩) [.slice (some ⟨g1, 0, none⟩) 1 c1, .slice (some ⟨g2, 0, none⟩) 1 c2, .slice (some ⟨g3, 0, none⟩) 1 c3])
  (h1 : RdI w (some ⟨g1, 0, none⟩) [⟨3, 0, motorS, 0⟩]) (h2 : RdI w (some ⟨g2, 0, none⟩) [⟨2, 2, ⟨#[]⟩, 0⟩]) (h3 : RdI w (some ⟨g3, 0, none⟩) [⟨2, 3, ⟨#[]⟩, 0⟩]) :
  Calls Tryz.prog 23 #[.string ⟨#[115, 117, 98, 115, 116, 114, 105, 110, 103]⟩, .slice (some ⟨a, 0, none⟩) 3 c] w fun e w' =>
   ∃ g, e = .returned (.tuple #[.slice (some ⟨g, 0, none⟩) 1 1, .int .i64 0, .bool true]) ∧ w.heap.size ≤ g ∧ RdI w' (some ⟨g, 0, none⟩) [⟨3, 0, ⟨#[111, 116, 111]⟩, 0⟩] ∧ Below w.heap.size w w' := by
 have i0 := ix_row0 a c
 have a0 : w.cell? ⟨a, 0, none⟩ = some (.slice (some ⟨g1, 0, none⟩) 1 c1) := by
  obtain ⟨b, off, e, hx⟩ := hr.cellAt 0 _ rfl
  injection e with e; injection e with e1 e2; subst e1 e2; exact hx
 have H1 := hide h1
 have H2 := hide h2
 have H3 := hide h3
 have Hr := hide hr
 clear h1 h2 h3 hr
 go_enter Tryz.func23, Tryz.ntmps23
 go_wp2_with fail
 refine (substring_motor a c g1 g2 g3 c1 c2 c3 _ Hr.out H1.out H2.out H3.out).mono ?_
 rintro e w1 ⟨g, rfl, hg, hr, hb1⟩
 have Hi := hide hr
 have Hg := hide hg
 clear hg hr a0
 go_wp2
 go_ret3
 exact ⟨g, rfl, Hg.out, Hi.out, hb1⟩
theorem call_sub (m : Int) (a c g1 g2 g3 c1 c2 c3 : Nat) (w : World) (hm : w.cell? ⟨3, 0, none⟩ = some (.int .i64 m)) (hc : Counts w) (hr : Rd w (some ⟨a, 0, none⟩) [.slice (some ⟨g1, 0, none⟩) 1 c1, .slice (some ⟨g2, 0, none⟩) 1 c2, .slice (some ⟨g3, 0, none⟩) 1 c3])
  (h1 : RdI w (some ⟨g1, 0, none⟩) [⟨3, 0, motorS, 0⟩]) (h2 : RdI w (some ⟨g2, 0, none⟩) [⟨2, 2, ⟨#[]⟩, 0⟩]) (h3 : RdI w (some ⟨g3, 0, none⟩) [⟨2, 3, ⟨#[]⟩, 0⟩]) :
  Calls Tryz.prog 7 #[.string ⟨#[115, 117, 98, 115, 116, 114, 105, 110, 103]⟩, .slice (some ⟨a, 0, none⟩) 3 c] w fun e w' =>
   ∃ g, e = .returned (.tuple #[.slice (some ⟨g, 0, none⟩) 1 1, .int .i64 0]) ∧ w.heap.size ≤ g ∧ RdI w' (some ⟨g, 0, none⟩) [⟨3, 0, ⟨#[111, 116, 111]⟩, 0⟩] ∧ Below w.heap.size w w' := by
 have hok : OkLs w [⟨some ⟨g1, 0, none⟩, [⟨3, 0, motorS, 0⟩], c1⟩, ⟨some ⟨g2, 0, none⟩, [⟨2, 2, ⟨#[]⟩, 0⟩], c2⟩, ⟨some ⟨g3, 0, none⟩, [⟨2, 3, ⟨#[]⟩, 0⟩], c3⟩] := by
  intro x hx
  simp only [List.mem_cons, List.not_mem_nil, or_false] at hx
  rcases hx with rfl | rfl | rfl
  ·exact ⟨h1, good_one (.str motorS ascii_motor (by decide)), by simp⟩
  ·exact ⟨h2, good_one (.int 2), by simp⟩
  ·exact ⟨h3, good_one (.int 3), by simp⟩
 have Hok := hide hok
 have Hm := hide hm
 have Hc := hide hc
 have H1 := hide h1
 have H2 := hide h2
 have H3 := hide h3
 have Hr := hide hr
 clear h1 h2 h3 hr hm hc hok
 go_enter Tryz.func7, Tryz.ntmps7
 go_wp2_with fail
 refine (right_ok (some ⟨a, 0, none⟩) 3 c _ _ rfl (by decide) Hr.out Hok.out).mono ?_
 rintro e w1 ⟨rfl, hb1⟩
 go_wp2_with fail
 refine (known_sub m _ (cell_keep hb1 Hm.out) (Hc.out.keep hb1)).mono ?_
 rintro e w2 ⟨rfl, hb2⟩
 have hB2 := chain0 hb1 hb2
 clear hb2
 go_wp2_with fail
 refine (ofItems_sub a c g1 g2 g3 c1 c2 c3 _ (Hr.out.keep hB2) (H1.out.keep hB2) (H2.out.keep hB2) (H3.out.keep hB2)).mono ?_
 rintro e w3 ⟨g, rfl, hg, hr, hb3⟩
 have hB3 := chain0 hB2 hb3
 have Hi := hide hr
 have Hg := hide (Nat.le_trans hB2.size hg)
 clear hg hr hb3
 go_wp2
 go_ret2
 exact ⟨g, rfl, Hg.out, Hi.out, hB3⟩
end Go.Proofs.YtaieiogmolaebaaGreatDoor
namespace Go.Proofs.YtaieiogmolaebaaGreatDoor
open Go.RowKit
def xTr : List It := [⟨1, 0, ⟨#[]⟩, 0⟩, ⟨2, 1, ⟨#[]⟩, 0⟩]
set_option maxRecDepth 100000 in
set_option maxHeartbeats 4000000 in
theorem truth_node (g1 c1 : Nat) (w : World) (h1 : RdI w (some ⟨g1, 0, none⟩) xTr) :
  Calls Tryz.prog 18 #[.slice (some ⟨g1, 0, none⟩) 2 c1] w fun e w' => e = .returned (.tuple #[.bool true, .int .i64 0]) ∧ Below w.heap.size w w' := by
 have k1 : ∀ y ∈ xTr, Good y := by
  intro y hy
  simp only [xTr, List.mem_cons, List.not_mem_nil, or_false] at hy
  rcases hy with rfl | rfl
  ·exact .node ⟨#[]⟩ 0 ascii_nil zero_le8
  ·exact .int 1
 have H1 := hide h1
 clear h1
 have i10 := ix_item0 g1 2 c1 (by decide)
 go_enter Tryz.func18, Tryz.ntmps18
 go_wp2_with fail
 refine (right_one g1 c1 xTr w H1.out k1 (by decide) 2 rfl).mono ?_
 rintro e w1 ⟨rfl, hb1⟩
 obtain ⟨a_0, a_1, a_2, a_3⟩ := (H1.out.keep hb1).z0 _ rfl
 go_wp2
 go_ret2
 exact ⟨rfl, hb1⟩
end Go.Proofs.YtaieiogmolaebaaGreatDoor
namespace Go.Proofs.YtaieiogmolaebaaGreatDoor
open Go.RowKit
theorem isNum_four : IsNum 3 0 ⟨#[52]⟩ 0 4 := fun w => number_yes 3 0 0 ⟨#[52]⟩ 4 w (by decide) (by decide) (by decide) (by kernel_rfl) (by decide)
theorem isNum_five : IsNum 1 0 ⟨#[53]⟩ 1 5 := fun w => number_yes 1 0 1 ⟨#[53]⟩ 5 w (by decide) (by decide) (by decide) (by kernel_rfl) (by decide)
theorem ascii_4 : Ascii ⟨#[52]⟩ := by unfold Ascii; decide
theorem ascii_5 : Ascii ⟨#[53]⟩ := by unfold Ascii; decide
theorem R64_lit (x : Int) (h : fit x = true) : R64 x := (fit_iff x).1 h
theorem awake_div : Made ⟨#[100, 105, 118]⟩ (-7) 2 (-3) 0 := by
 have := made_div (-7) 2 (R64_lit _ (by decide)) (R64_lit _ (by decide)) (by decide)
 rwa [show mkV (fit (Int.tdiv (-7) 2)) (Int.tdiv (-7) 2) = -3 by kernel_rfl, show erV (fit (Int.tdiv (-7) 2)) = 0 by kernel_rfl] at this
theorem awake_div1 : Made ⟨#[100, 105, 118]⟩ 1 1 1 0 := by
 have := made_div 1 1 (R64_lit _ (by decide)) (R64_lit _ (by decide)) (by decide)
 rwa [show mkV (fit (Int.tdiv 1 1)) (Int.tdiv 1 1) = 1 by kernel_rfl, show erV (fit (Int.tdiv 1 1)) = 0 by kernel_rfl] at this
theorem awake_plus : Made ⟨#[43]⟩ 4 5 9 0 := by
 have := made_plus 4 5 (R64_lit _ (by decide)) (R64_lit _ (by decide))
 rwa [show mkV (fit (4 + 5)) (4 + 5) = 9 by kernel_rfl, show erV (fit (4 + 5)) = 0 by kernel_rfl] at this
theorem awake_plus1 : Made ⟨#[43]⟩ 1 1 2 0 := by
 have := made_plus 1 1 (R64_lit _ (by decide)) (R64_lit _ (by decide))
 rwa [show mkV (fit (1 + 1)) (1 + 1) = 2 by kernel_rfl, show erV (fit (1 + 1)) = 0 by kernel_rfl] at this
set_option maxRecDepth 100000 in
set_option maxHeartbeats 8000000 in
theorem awake_ok (m : Int) (ev : Value) (w : World) (hm : w.cell? ⟨3, 0, none⟩ = some (.int .i64 m)) (hc : Counts w) (hv : w.cell? ⟨5, 0, none⟩ = some ev) (hev : ev = .nilIface ∨ ∃ te pe, ev = .iface te pe) :
  Calls Tryz.prog 5 #[] w fun e w' => e = .returned (.bool true) ∧ Below w.heap.size w w' := by
 have Hm := hide hm
 have Hc := hide hc
 have Hv := hide hv
 have Hev := hide hev
 clear hm hc hv hev
 have hB0 := Below.refl w.heap.size w
 go_enter Tryz.func5, Tryz.ntmps5
 go_wp2_with fail
 refine (lwhole_any 1 _).mono ?_
 rintro e w1 ⟨rfl, hb1⟩
 have hB1 : Below w.heap.size w w1 := by first | exact chain0 hB0 hb1 | exact chain1 hB0 hb1 | exact chain2 hB0 hb1
 go_wp2_with fail
 refine (lnode_any 3 ⟨#[50]⟩ _).mono ?_
 rintro e w2 ⟨rfl, hb2⟩
 have hB2 : Below w.heap.size w w2 := by first | exact chain0 hB1 hb2 | exact chain1 hB1 hb2 | exact chain2 hB1 hb2
 clear hb1 hb2 hB1
 go_wp2_with fail
 refine (lrow_any _ _ _ _).mono ?_
 rintro e wx ⟨rfl, rfl⟩
 go_wp2_with fail
 refine (lstr_any ⟨#[50]⟩ _).mono ?_
 rintro e w3 ⟨rfl, hb3⟩
 have hB3 : Below w.heap.size w w3 := by first | exact chain0 hB2 hb3 | exact chain1 hB2 hb3 | exact chain2 hB2 hb3
 have R3 := hide ((RdI.new w2 36 xEq1).keep hb3)
 clear hb3 hB2
 go_wp2_with fail
 refine (lrow_any _ _ _ _).mono ?_
 rintro e wx ⟨rfl, rfl⟩
 go_wp2_with fail
 refine (compare_eq w2.heap.size w3.heap.size 2 1 _ (R3.out.alloc _) (RdI.new w3 36 xEq2)).mono ?_
 rintro e w4 ⟨rfl, hb4⟩
 have hB4 : Below w.heap.size w w4 := by first | exact chain0 hB3 hb4 | exact chain1 hB3 hb4 | exact chain2 hB3 hb4
 clear hb4 hB3 R3
 go_wp2_with fail
 refine (lwhole_any 1 _).mono ?_
 rintro e w5 ⟨rfl, hb5⟩
 have hB5 : Below w.heap.size w w5 := by first | exact chain0 hB4 hb5 | exact chain1 hB4 hb5 | exact chain2 hB4 hb5
 clear hb5 hB4
 go_wp2_with fail
 refine (lrow_any _ _ _ _).mono ?_
 rintro e wx ⟨rfl, rfl⟩
 go_wp2_with fail
 refine (lstr_any ⟨#[120]⟩ _).mono ?_
 rintro e w6 ⟨rfl, hb6⟩
 have hB6 : Below w.heap.size w w6 := by first | exact chain0 hB5 hb6 | exact chain1 hB5 hb6 | exact chain2 hB5 hb6
 have R6 := hide ((RdI.new w5 36 xOne).keep hb6)
 clear hb6 hB5
 go_wp2_with fail
 refine (lrow_any _ _ _ _).mono ?_
 rintro e wx ⟨rfl, rfl⟩
 go_wp2_with fail
 refine (compare_lt w5.heap.size w6.heap.size 1 1 ev _ (cell_keep (hB6.alloc hB6.size _) Hv.out) Hev.out (R6.out.alloc _) (RdI.new w6 36 xLt2)).mono ?_
 rintro e w7 ⟨rfl, hb7⟩
 have hB7 : Below w.heap.size w w7 := by first | exact chain0 hB6 hb7 | exact chain1 hB6 hb7 | exact chain2 hB6 hb7
 clear hb7 hB6 R6
 go_wp2_with fail
 refine (lstr_any motorS _).mono ?_
 rintro e w8 ⟨rfl, hb8⟩
 have hB8 : Below w.heap.size w w8 := by first | exact chain0 hB7 hb8 | exact chain1 hB7 hb8 | exact chain2 hB7 hb8
 clear hb8 hB7
 go_wp2_with fail
 refine (lrow_any _ _ _ _).mono ?_
 rintro e wx ⟨rfl, rfl⟩
 go_wp2_with fail
 refine (lwhole_any 2 _).mono ?_
 rintro e w9 ⟨rfl, hb9⟩
 have hB9 : Below w.heap.size w w9 := by first | exact chain0 hB8 hb9 | exact chain1 hB8 hb9 | exact chain2 hB8 hb9
 have R9 := hide ((RdI.new w8 36 [⟨3, 0, motorS, 0⟩]).keep hb9)
 clear hB8
 go_wp2_with fail
 refine (lrow_any _ _ _ _).mono ?_
 rintro e wx ⟨rfl, rfl⟩
 go_wp2_with fail
 refine (lwhole_any 3 _).mono ?_
 rintro e w10 ⟨rfl, hb10⟩
 have hB10 : Below w.heap.size w w10 := by first | exact chain0 hB9 hb10 | exact chain1 hB9 hb10 | exact chain2 hB9 hb10
 have R10 := hide ((R9.out.alloc (.cells (icells [⟨2, 2, ⟨#[]⟩, 0⟩]).toArray 36)).keep hb10)
 have S10 := hide ((RdI.new w9 36 [⟨2, 2, ⟨#[]⟩, 0⟩]).keep hb10)
 clear hb9 hb10 hB9 R9
 go_wp2_with fail
 refine (lrow_any _ _ _ _).mono ?_
 rintro e wx ⟨rfl, rfl⟩
 have hr11 : Rd ((w10.alloc (.cells (icells [⟨2, 3, ⟨#[]⟩, 0⟩]).toArray 36)).alloc (.cells #[.slice (some ⟨w8.heap.size, 0, none⟩) 1 1, .slice (some ⟨w9.heap.size, 0, none⟩) 1 1, .slice (some ⟨w10.heap.size, 0, none⟩) 1 1] 25)) (some ⟨w10.heap.size + 1, 0, none⟩) [.slice (some ⟨w8.heap.size, 0, none⟩) 1 1, .slice (some ⟨w9.heap.size, 0, none⟩) 1 1, .slice (some ⟨w10.heap.size, 0, none⟩) 1 1] := by
  have := Rd.new (w10.alloc (.cells (icells [⟨2, 3, ⟨#[]⟩, 0⟩]).toArray 36)) 25 [.slice (some ⟨w8.heap.size, 0, none⟩) 1 1, .slice (some ⟨w9.heap.size, 0, none⟩) 1 1, .slice (some ⟨w10.heap.size, 0, none⟩) 1 1]
  rwa [show (w10.alloc (.cells (icells [⟨2, 3, ⟨#[]⟩, 0⟩]).toArray 36)).heap.size = w10.heap.size + 1 by simp] at this
 have Hr11 := hide hr11
 clear hr11
 have hBz : Below w.heap.size w ((w10.alloc (.cells (icells [⟨2, 3, ⟨#[]⟩, 0⟩]).toArray 36)).alloc (.cells #[.slice (some ⟨w8.heap.size, 0, none⟩) 1 1, .slice (some ⟨w9.heap.size, 0, none⟩) 1 1, .slice (some ⟨w10.heap.size, 0, none⟩) 1 1] 25)) := by
  have h1 := hB10.alloc hB10.size (.cells (icells [⟨2, 3, ⟨#[]⟩, 0⟩]).toArray 36)
  exact h1.alloc h1.size _
 go_wp2_with fail
 refine (call_sub m (w10.heap.size + 1) 3 w8.heap.size w9.heap.size w10.heap.size 1 1 1 _ (cell_keep hBz Hm.out) (Hc.out.keep hBz) Hr11.out ((R10.out.alloc _).alloc _) ((S10.out.alloc _).alloc _) ((RdI.new w10 36 [⟨2, 3, ⟨#[]⟩, 0⟩]).alloc _)).mono ?_
 rintro e w11 ⟨g, rfl, hg, hr, hb11⟩
 have hB11 := chain0 hBz hb11
 have Rg := hide hr
 clear hg hr hb11 hBz Hr11 R10 S10 hB10
 go_wp2_with fail
 refine (lnode_any 0 ⟨#[]⟩ _).mono ?_
 rintro e w12 ⟨rfl, hb12⟩
 have hB12 : Below w.heap.size w w12 := by first | exact chain0 hB11 hb12 | exact chain1 hB11 hb12 | exact chain2 hB11 hb12
 go_wp2_with fail
 refine (lwhole_any 1 _).mono ?_
 rintro e w13 ⟨rfl, hb13⟩
 have hB13 : Below w.heap.size w w13 := by first | exact chain0 hB12 hb13 | exact chain1 hB12 hb13 | exact chain2 hB12 hb13
 have Rg2 := hide ((Rg.out.keep hb12).keep hb13)
 clear hb12 hb13 Rg hB12 hB11
 go_wp2_with fail
 refine (lrow_any _ _ _ _).mono ?_
 rintro e wx ⟨rfl, rfl⟩
 go_wp2_with fail
 refine (truth_node w13.heap.size 2 _ (RdI.new w13 36 xTr)).mono ?_
 rintro e w14 ⟨rfl, hb14⟩
 have hB14 : Below w.heap.size w w14 := by first | exact chain0 hB13 hb14 | exact chain1 hB13 hb14 | exact chain2 hB13 hb14
 have Rg := hide ((Rg2.out.alloc (.cells (icells xTr).toArray 36)).keep hb14)
 clear hb14 hB13 Rg2
 go_wp2_with fail
 refine (lstr_any ⟨#[111, 116, 111]⟩ _).mono ?_
 rintro e w15 ⟨rfl, hb15⟩
 have hB15 : Below w.heap.size w w15 := by first | exact chain0 hB14 hb15 | exact chain1 hB14 hb15 | exact chain2 hB14 hb15
 have Rg2 := hide (Rg.out.keep hb15)
 clear hb15 hB14 Rg
 go_wp2_with fail
 refine (lrow_any _ _ _ _).mono ?_
 rintro e wx ⟨rfl, rfl⟩
 go_wp2_with fail
 refine (same_one g w15.heap.size 1 1 3 0 0 ⟨#[111, 116, 111]⟩ _ (Rg2.out.alloc _) (RdI.new w15 36 [⟨3, 0, ⟨#[111, 116, 111]⟩, 0⟩])).mono ?_
 rintro e w16 ⟨rfl, hb16⟩
 have hB16 : Below w.heap.size w w16 := by first | exact chain0 hB15 hb16 | exact chain1 hB15 hb16 | exact chain2 hB15 hb16
 clear hb16 hB15 Rg2
 go_wp2_with fail
 refine (lwhole_any (-7) _).mono ?_
 rintro e w17 ⟨rfl, hb17⟩
 have hB17 : Below w.heap.size w w17 := by first | exact chain0 hB16 hb17 | exact chain1 hB16 hb17 | exact chain2 hB16 hb17
 clear hb17 hB16
 go_wp2_with fail
 refine (lwhole_any 2 _).mono ?_
 rintro e w18 ⟨rfl, hb18⟩
 have hB18 : Below w.heap.size w w18 := by first | exact chain0 hB17 hb18 | exact chain1 hB17 hb18 | exact chain2 hB17 hb18
 clear hb18 hB17
 go_wp2_with fail
 refine (is_any ⟨#[100, 105, 118]⟩ 2 2 (-7) 2 0 0 (-7) 2 1 (-3) ⟨#[]⟩ ⟨#[]⟩ _ (.int (-7)) (.int 2) (isNum_int (-7)) (isNum_int 2) awake_div1 awake_div).mono ?_
 rintro e w19 ⟨rfl, hb19⟩
 have hB19 : Below w.heap.size w w19 := by first | exact chain0 hB18 hb19 | exact chain1 hB18 hb19 | exact chain2 hB18 hb19
 clear hb19 hB18
 go_wp2_with fail
 refine (lstr_any ⟨#[52]⟩ _).mono ?_
 rintro e w20 ⟨rfl, hb20⟩
 have hB20 : Below w.heap.size w w20 := by first | exact chain0 hB19 hb20 | exact chain1 hB19 hb20 | exact chain2 hB19 hb20
 clear hb20 hB19
 go_wp2_with fail
 refine (lnode_any 1 ⟨#[53]⟩ _).mono ?_
 rintro e w21 ⟨rfl, hb21⟩
 have hB21 : Below w.heap.size w w21 := by first | exact chain0 hB20 hb21 | exact chain1 hB20 hb21 | exact chain2 hB20 hb21
 clear hb21 hB20
 go_wp2_with fail
 refine (is_any ⟨#[43]⟩ 3 1 0 0 0 1 4 5 2 9 ⟨#[52]⟩ ⟨#[53]⟩ _ (.str _ ascii_4 le8_one) (.node _ 1 ascii_5 le8_one) isNum_four isNum_five awake_plus1 awake_plus).mono ?_
 rintro e w22 ⟨rfl, hb22⟩
 have hB22 : Below w.heap.size w w22 := by first | exact chain0 hB21 hb22 | exact chain1 hB21 hb22 | exact chain2 hB21 hb22
 clear hb22 hB21
 go_wp2
 go_ret
 exact ⟨rfl, hB22⟩
end Go.Proofs.YtaieiogmolaebaaGreatDoor
