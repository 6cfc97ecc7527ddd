/- great, and how long rows and texts are where it is false; SameItems; OverItems. SameItems of rows that hold the same; how long answers are. ValueMakes, ValueOnce: rows that calls hand out, one behind the other. value.number and value.order at any items. value.Truth, value.String at any rows of items. -/
import Derived.Test.YtmhnndgnnpondaaGreatDoorC05
import Derived.Test.YtmhnndgnnpondaaGreatDoorC13
import Derived.Test.YtmhnndgnnpondaaGreatDoorC10
import Derived.Test.YtmhnndgnnpondaaGreatDoorC09
import Derived.Test.YtmhnndgnnpondaaGreatDoorC12
import Derived.Lib.AppendIntMem
namespace Go.Proofs.YtmhnndgnnpondaaGreatDoor
set_option maxRecDepth 100000
set_option maxHeartbeats 4000000
open Go.RowKit
def gq2 (b : Bool) : Nat := if b = true then 0 else 1
theorem gq2_eq (b : Bool) : (gq2 b == 0) = b := by cases b <;> rfl
theorem take_next {α : Type} {P : α → Prop} {l : List α} {i : Nat} {x : α} (h : ∀ y ∈ l.take i, P y) (hx : l[i]? = some x) (hp : P x) : ∀ y ∈ l.take (i + 1), P y := by
 rw [List.take_add_one, hx]
 intro y hy
 rcases List.mem_append.1 hy with h1 | h1
 ·exact h y h1
 ·simp at h1; subst h1; exact hp
def Small (x : Lst) : Prop := ∀ y ∈ x.l, y.text.size ≤ 100000
theorem great_size (p : Option Addr) (n c : Nat) (ls : List Lst) (w : World) (hn : n = ls.length) (hle : n < 9223372036854775807) (hr : Rd w p (ls.map Lst.v)) (hok : OkAs w ls) :
  Calls Tryz.prog 6 #[.slice p n c] w fun e w' => (∃ q : Nat, e = .returned (.bool (q == 0)) ∧ (q ≠ 0 → (∀ x ∈ ls, x.l.length ≤ 300) ∧ ∀ x ∈ ls, Small x)) ∧ Below w.heap.size w w' := by
 have Hn := hide hn
 have Hr := hide hr
 have Hok := hide hok
 clear hn hr hok
 go_enter Tryz.func6, Tryz.ntmps6
 go_wp2_with fail
 go_loopw [3, 4] (fun nv iv W => ∃ (z : Int) (i : Nat), i ≤ n ∧ nv = .int .i64 z ∧ iv = .int .i64 i ∧ 0 ≤ z ∧ z < 140737488455329 ∧ Hid (∀ x ∈ ls.take i, x.l.length ≤ 300) ∧ Hid (z < 100000 → ∀ x ∈ ls.take i, Small x) ∧ Below w.heap.size w W) (fun _ iv _ => n - (intOf iv).toNat)
 case atStart => exact ⟨0, 0, Nat.zero_le _, rfl, rfl, by omega, by omega, hide (by simp), hide (fun _ => by simp), Below.refl _ _⟩
 case round =>
  obtain ⟨z, i, hi, rfl, rfl, hz0, hz9, Htk, Hsm, hB⟩ := hrel
  by_cases hlt : i < n
  ·have hI : (i : Int) < (n : Int) := by omega
   obtain ⟨x, hx⟩ : ∃ x, ls[i]? = some x := ⟨_, List.getElem?_eq_getElem (by have := Hn.out; omega)⟩
   obtain ⟨b, off, rfl, hc⟩ := Hr.out.cellAt i x.v (by simp [hx])
   have hix := ix_row b off n c i hlt
   have Hx := hide (Hok.out x (List.mem_of_getElem? hx))
   have Hnx := hide hx
   clear hx
   obtain ⟨xa, xl, xc⟩ := x
   obtain ⟨m, hm⟩ : ∃ m, m = xl.length := ⟨_, rfl⟩
   have hml : m < 9223372036854775807 := by rw [hm]; exact Hx.out.2.2
   have hc2 : w.cell? ⟨b, off + i, none⟩ = some (.slice xa m xc) := by rw [hm]; exact hc
   have Hc := hide hc2
   have Hm := hide hm
   have Hz0 := hide hz0
   have Hz9 := hide hz9
   clear hc hc2 hm hz0 hz9
   go_wp2_with fail
   go_loopw [3, 5] (fun nv kv W => ∃ (z : Int) (k : Nat), k ≤ m ∧ nv = .int .i64 z ∧ kv = .int .i64 k ∧ 0 ≤ z ∧ z < 140737488455329 ∧ Hid (z < 100000 → (∀ x ∈ ls.take i, Small x) ∧ ∀ y ∈ xl.take k, y.text.size ≤ 100000) ∧ Below w.heap.size w W) (fun _ kv _ => m - (intOf kv).toNat)
   case atStart => exact ⟨z, 0, Nat.zero_le _, rfl, rfl, Hz0.out, Hz9.out, hide (fun h => ⟨Hsm.out h, by simp⟩), hB⟩
   case round =>
    clear hB
    obtain ⟨z, k, hk, rfl, rfl, hz0, hz9, Hs2, hB⟩ := hrel
    have hcell := cell_keep hB Hc.out
    by_cases hlk : k < m
    ·have hI2 : (k : Int) < (m : Int) := by omega
     by_cases hz : z < 100000
     ·obtain ⟨y, hy⟩ : ∃ y, xl[k]? = some y := ⟨_, List.getElem?_eq_getElem (by have := Hm.out; omega)⟩
      obtain ⟨b2, off2, e2, c0, c1, c2, c3⟩ := (Hx.out.1.keep hB).at k y hy
      dsimp only at e2
      subst e2
      have hix2 := ix_item b2 off2 m xc k hlk
      have hys : y.text.size ≤ 140737488355328 := Hx.out.2.1 y (List.mem_of_getElem? hy)
      have Hs3 : Hid (z + 1 + (y.text.size : Int) < 100000 → (∀ x ∈ ls.take i, Small x) ∧ ∀ y ∈ xl.take (k + 1), y.text.size ≤ 100000) := by
       show _ → _
       intro h
       obtain ⟨h1, h2⟩ := Hs2.out hz
       exact ⟨h1, take_next h2 hy (by omega)⟩
      clear hy Hs2
      obtain ⟨yk, ya, yt, yd⟩ := y
      dsimp only at c0 c1 c2 c3 hys Hs3
      go_wp2
      go_roundw
      case rel => exact ⟨z + 1 + (yt.size : Int), k + 1, by omega, rfl, by simp, by omega, by omega, Hs3, hB⟩
      case measure => simp [intOf]; omega
     ·have hzd : decide (z < 100000) = false := by simpa using hz
      have Hs3 : Hid (z < 100000 → ∀ x ∈ ls.take (i + 1), Small x) := fun h => absurd h hz
      clear hz Hs2
      by_cases h3 : (300 : Int) < (m : Int)
      ·go_wp2
       go_ret
       exact ⟨⟨0, rfl, fun h => absurd rfl h⟩, hB⟩
      ·have h3d : decide ((300 : Int) < (m : Int)) = false := by simpa using h3
       go_wp2
       go_roundw
       case rel => exact ⟨z, i + 1, by omega, rfl, by simp, hz0, hz9, hide (take_next Htk.out Hnx.out (by have := Hm.out; show xl.length ≤ 300; omega)), Hs3, hB⟩
       case measure => simp [intOf]; omega
    ·have hI2 : decide ((k : Int) < (m : Int)) = false := by simp; omega
     have hI3 : ¬ (k : Int) < (m : Int) := by omega
     have Hs3 : Hid (z < 100000 → ∀ x ∈ ls.take (i + 1), Small x) := by
      show _ → _
      intro h
      obtain ⟨h1, h2⟩ := Hs2.out h
      rw [List.take_of_length_le (by have := Hm.out; omega)] at h2
      exact take_next h1 Hnx.out h2
     clear Hs2
     by_cases h3 : (300 : Int) < (m : Int)
     ·go_wp2
      go_ret
      exact ⟨⟨0, rfl, fun h => absurd rfl h⟩, hB⟩
     ·have h3d : decide ((300 : Int) < (m : Int)) = false := by simpa using h3
      go_wp2
      go_roundw
      case rel => exact ⟨z, i + 1, by omega, rfl, by simp, hz0, hz9, hide (take_next Htk.out Hnx.out (by have := Hm.out; show xl.length ≤ 300; omega)), Hs3, hB⟩
      case measure => simp [intOf]; omega
  ·have hI : ¬ (i : Int) < (n : Int) := by omega
   have Hall : Hid (ls.take i = ls) := List.take_of_length_le (by have := Hn.out; omega)
   go_wp2
   go_ret
   refine ⟨⟨gq2 (decide (100000 ≤ z)), by rw [gq2_eq]; rfl, fun hq => ?_⟩, hB⟩
   have h1 := Htk.out
   have h2 := Hsm.out
   rw [Hall.out] at h1 h2
   refine ⟨h1, h2 ?_⟩
   by_cases hz : 100000 ≤ z
   ·rw [decide_eq_true hz] at hq; exact absurd rfl hq
   ·omega
theorem over_any (g n : Nat) (w : World) (h : ContI w (some g, n, n + 12, some ⟨g, 0, none⟩) []) (hn : n ≤ 1048576) :
  Calls Tryz.prog 17 #[.slice (some ⟨g, 0, none⟩) n (n + 12)] w fun e w' => e = .returned (.tuple #[]) ∧ w.grownBy w' (some g) := by
 have h0 : ContI w (some g, n, n + 12, some ⟨g, 0, none⟩) (imk 2 0) := h
 clear h
 go_enter Tryz.func17, Tryz.ntmps17
 go_wp2_with fail
 go_loopw [3] (fun iv W => ∃ i : Nat, i ≤ n + 12 ∧ iv = .int .i64 i ∧ ContI W (some g, n, n + 12, some ⟨g, 0, none⟩) (imk 2 i) ∧ w.grownBy W (some g)) (fun iv _ => n + 12 - (intOf iv).toNat)
 case atStart => exact ⟨0, Nat.zero_le _, rfl, h0, World.grownBy.refl w _⟩
 case round =>
  clear h0
  obtain ⟨i, hi, rfl, K, hg⟩ := hrel
  by_cases hlt : i < n + 12
  ·have HK := hide K
   have him := fun W => ix_item g 0 (n + 12) (n + 12) i hlt W
   simp only [Nat.zero_add] at him
   have hI : (i : Int) < (n : Int) + 12 := by omega
   clear K
   go_wp2_with fail
   refine (markItem_any _ _ _).mono ?_
   rintro e w' ⟨rfl, hbm⟩
   have hg2 := grown_trans hg (below_grown (r := some g) hbm)
   obtain ⟨g2, cur, cur1, hbg, _, hcur, hset, hdone⟩ := (HK.out.keep hbm).set (mkI 2 i) (by rw [length_imk]; exact hlt)
   injection hbg with hbg
   subst hbg
   rw [length_imk] at hset
   have hst := hset w' (.inl hcur)
   have hg3 := grown_trans hg2 (grown_setRow w' g cur1)
   have hK' := hdone _ (setRow_heap w' g _ cur1 _ _ hcur)
   rw [← imk_snoc] at hK'
   have Hst := hide hst
   clear hg hg2 hset hdone hcur hst HK hbm
   go_wp2_with (refine wpList_storeI rfl _ _ rfl g (i * 4) (mkI 2 i) cur1 rfl rfl Hst.out ?_)
   go_wp2
   go_roundw
   case rel => exact ⟨i + 1, by omega, by go_num, hK', hg3⟩
   case measure => simp [intOf]; omega
  ·have hI : ¬ (i : Int) < (n : Int) + 12 := by omega
   clear K
   go_wp2
   go_end0
   exact ⟨rfl, hg⟩
end Go.Proofs.YtmhnndgnnpondaaGreatDoor
namespace Go.Proofs.YtmhnndgnnpondaaGreatDoor
open Go.RowKit
theorem neq_of {r : Result Bool} {b : Bool} {w : World} (h : (r.andThen fun b w' => .ok (.bool b) w') = Result.ok (Value.bool b) w) : (r.andThen fun b w' => .ok (.bool (!b)) w') = Result.ok (Value.bool (!b)) w := by
 cases r with
 | ok b2 w2 =>
  simp only [Result.andThen, Result.ok.injEq, Value.bool.injEq] at h ⊢
  exact ⟨by rw [h.1], h.2⟩
 | halt s => cases h
theorem run_neqI (x y : It) (w : World) : (binOp .neq 31 (itV x) (itV y)).run Tryz.prog w = .ok (.bool (!eqI x y)) w := by
 have h := run_eqI x y w
 unfold itV at *
 rw [run_eql_struct] at h
 rw [run_neq_struct]
 exact neq_of h
section
variable {K : Value → World → Prop} {u : Nat → Value} {o : Oper} {w : World}
theorem upon_neqI_same (x y : Operand) (a : It) (h : o.op = .binOp .neq 31 x y 31) (hx : evU u x = itV a) (hy : evU u y = itV a) (hk : K (.bool false) w) : uponU K Tryz.prog ((execOp (evU u) o).run Tryz.prog w) := by
 refine upon_val _ ?_ hk
 have hr := run_neqI a a w
 rw [eqI_same] at hr
 have hg : (eqGuard .neq 31 x y (itV a) (itV a)).run Tryz.prog w = .ok () w := eqItem.2 .neq x y a a w
 unfold execOp
 simp only [h, hx, hy]
 simp [go_sem, hr, hg]
end
set_option maxRecDepth 100000 in
set_option maxHeartbeats 2000000 in
theorem same_any (a b : Option Addr) (n ac bc : Nat) (l : List It) (w : World) (h1 : RdI w a l) (h2 : RdI w b l) (hn : n = l.length) (hle : n ≤ 1000000) :
  Calls Tryz.prog 8 #[.slice a n ac, .slice b n bc] w fun e w' => e = .returned (.bool true) ∧ Below w.heap.size w w' := by
 have H1 := hide h1
 have H2 := hide h2
 have Hn := hide hn
 clear h1 h2 hn
 go_enter Tryz.func8, Tryz.ntmps8
 go_wp2_with fail
 go_loopw [5] (fun iv W => ∃ k : Nat, k ≤ n ∧ iv = .int .i64 k ∧ Below w.heap.size w W) (fun iv _ => n - (intOf iv).toNat)
 case atStart => exact ⟨0, Nat.zero_le _, rfl, Below.refl _ _⟩
 case round =>
  obtain ⟨k, hk, rfl, hB⟩ := hrel
  by_cases hlt : k < n
  ·have hI : (k : Int) < (n : Int) := by omega
   have hwk : wrap64 ((k : Int) + 1) = (k : Int) + 1 := by unfold wrap64; omega
   obtain ⟨y, hy⟩ : ∃ y, l[k]? = some y := ⟨_, List.getElem?_eq_getElem (by have := Hn.out; omega)⟩
   obtain ⟨ab, ao, ae, p0, p1, p2, p3⟩ := (H1.out.keep hB).at k y hy
   obtain ⟨bb, bo, be, q0, q1, q2, q3⟩ := (H2.out.keep hB).at k y hy
   subst ae be
   have hix1 := ix_item ab ao n ac k hlt
   have hix2 := ix_item bb bo n bc k hlt
   obtain ⟨yk, ya, yt, yd⟩ := y
   dsimp only at p0 p1 p2 p3 q0 q1 q2 q3
   clear hy
   obtain ⟨W0, rfl⟩ : ∃ W0, W0 = wr := ⟨_, rfl⟩
   go_wp2_with fail
   refine wp_region_facts (R := RB W0.heap.size (⟨#[]⟩) (0)) [eqF _ _ _ 17 (.slice (some ⟨ab, ao, none⟩) n ac), eqF _ _ _ 18 (.int .i64 k), eqF _ _ _ 19 (.pointer (some ⟨ab, ao + k * 4, none⟩)), eqF _ _ _ 20 (.agg #[.int .u8 yk, .int .i64 ya, .string yt, .int .i64 yd]), eqF _ _ _ 21 (.slice (some ⟨bb, bo, none⟩) n bc), eqF _ _ _ 22 (.int .i64 k), eqF _ _ _ 23 (.pointer (some ⟨bb, bo + k * 4, none⟩)), eqF _ _ _ 24 (.agg #[.int .u8 yk, .int .i64 ya, .string yt, .int .i64 yd]), eqF _ _ _ 25 (.bool false)] (by kernel_rfl) (by kernel_rfl) (by kernel_rfl) (RB.refl (Nat.le_refl _)) (fun _ h => h.again) (fun _ _ _ h k => h.trans k) ?_ ?_
   ·refine stepsU_cons rfl ?_ (stepsU_cons rfl ?_ (stepsU_cons rfl ?_ (stepsU_cons rfl ?_ (stepsU_cons rfl ?_ (stepsU_cons rfl ?_ (stepsU_cons rfl ?_ (stepsU_cons rfl ?_ (stepsU_cons rfl ?_ (stepsU_nil)))))))))
    ·refine stepU_plain rfl fun u wr hR hK hD => ?_; exact upon_move _ _ rfl (hK 0 rfl) ⟨hR.again, rfl⟩
    ·refine stepU_plain rfl fun u wr hR hK hD => ?_; exact upon_move _ _ rfl (hK 5 rfl) ⟨hR.again, rfl⟩
    ·refine stepU_plain rfl fun u wr hR hK hD => ?_; have z : u 17 = _ := (hD 0 rfl); have z2 : u 18 = _ := (hD 1 rfl); exact upon_val _ (by unfold execOp; simp [go_sem, evU, z, z2, hix1]) ⟨hR.again, rfl⟩
    ·refine stepU_plain rfl fun u wr hR hK hD => ?_; exact upon_loadAt _ ab (ao + k * 4) _ _ _ _ rfl (hD 2 rfl) (cell_keep hR.be p0) (cell_keep hR.be p1) (cell_keep hR.be p2) (cell_keep hR.be p3) ⟨hR.again, rfl⟩
    ·refine stepU_plain rfl fun u wr hR hK hD => ?_; exact upon_move _ _ rfl (hK 1 rfl) ⟨hR.again, rfl⟩
    ·refine stepU_plain rfl fun u wr hR hK hD => ?_; exact upon_move _ _ rfl (hK 5 rfl) ⟨hR.again, rfl⟩
    ·refine stepU_plain rfl fun u wr hR hK hD => ?_; have z : u 21 = _ := (hD 4 rfl); have z2 : u 22 = _ := (hD 5 rfl); exact upon_val _ (by unfold execOp; simp [go_sem, evU, z, z2, hix2]) ⟨hR.again, rfl⟩
    ·refine stepU_plain rfl fun u wr hR hK hD => ?_; exact upon_loadAt _ bb (bo + k * 4) _ _ _ _ rfl (hD 6 rfl) (cell_keep hR.be q0) (cell_keep hR.be q1) (cell_keep hR.be q2) (cell_keep hR.be q3) ⟨hR.again, rfl⟩
    ·refine stepU_plain rfl fun u wr hR hK hD => ?_; exact upon_neqI_same _ _ ⟨yk, ya, yt, yd⟩ rfl (hD 3 rfl) (hD 7 rfl) ⟨hR.again, rfl⟩
   intro u w5 hR hF
   have e17 : u 17 = .slice (some ⟨ab, ao, none⟩) n ac := hF 0 (by decide)
   have e18 : u 18 = .int .i64 k := hF 1 (by decide)
   have e19 : u 19 = .pointer (some ⟨ab, ao + k * 4, none⟩) := hF 2 (by decide)
   have e20 : u 20 = .agg #[.int .u8 yk, .int .i64 ya, .string yt, .int .i64 yd] := hF 3 (by decide)
   have e21 : u 21 = .slice (some ⟨bb, bo, none⟩) n bc := hF 4 (by decide)
   have e22 : u 22 = .int .i64 k := hF 5 (by decide)
   have e23 : u 23 = .pointer (some ⟨bb, bo + k * 4, none⟩) := hF 6 (by decide)
   have e24 : u 24 = .agg #[.int .u8 yk, .int .i64 ya, .string yt, .int .i64 yd] := hF 7 (by decide)
   have e25 : u 25 = .bool false := hF 8 (by decide)
   simp only [finU, Act.put, List.setIfInBounds_toArray, List.set_cons_succ, List.set_cons_zero, e17, e18, e19, e20, e21, e22, e23, e24, e25]
   clear hF e17 e18 e19 e20 e21 e22 e23 e24 e25
   have hB2 : Below w.heap.size w w5 := chain hB.drew hB.size hR.be
   have hb_w5 : Below W0.heap.size W0 w5 := ⟨hR.be.os, hR.be.tape, hR.be.output, hR.be.size, hR.be.block⟩
   clear hB hR
   have hB := hB2
   clear hB2
   clear p0 p1 p2 p3 q0 q1 q2 q3 hix1 hix2
   go_wp2
   go_roundw
   case rel => exact ⟨k + 1, by omega, by simp, hB⟩
   case measure => simp [intOf]; omega
  ·have hI : ¬ (k : Int) < (n : Int) := by omega
   go_wp2
   go_ret
   exact ⟨rfl, hB⟩
end Go.Proofs.YtmhnndgnnpondaaGreatDoor
namespace Go.Proofs.YtmhnndgnnpondaaGreatDoor
open Go.RowKit
theorem len_lentI (l : List It) : (lentI l).length = l.length + 12 := by unfold lentI; rw [List.length_append, length_imarks]
theorem cont_own {W : World} {B g n : Nat} {l : List It} (hn : n = l.length) (h : OwI W B (.slice (some ⟨g, 0, none⟩) (n + 12) (n + 12)) (lentI l)) : ContI W (some g, n, n + 12, some ⟨g, 0, none⟩) [] := by
 subst hn
 have hc : ContI W (some g, l.length, l.length + 12, some ⟨g, 0, none⟩) (lentI l) := by
  refine .inr ⟨g, rfl, rfl, Nat.le_add_right _ _, ?_⟩
  have h4 := OwI.mono h (Nat.zero_le B)
  unfold OwI at h4
  rw [len_lentI] at h4 ⊢
  exact h4
 exact hc.take 0
structure Out (W : World) (B0 : Nat) (xs : List Hd) : Prop where
 own : ∀ x ∈ xs, OwE W x.B x.E x.v x.l
 lo : ∀ x ∈ xs, B0 ≤ x.B
 hi : ∀ x ∈ xs, x.E ≤ W.heap.size
 pw : xs.Pairwise (fun x y => x.E ≤ y.B)
section
variable {W W' : World} {B0 : Nat} {xs : List Hd}
theorem Out.start (W : World) (B0 : Nat) : Out W B0 [] := ⟨fun x h => (by cases h), fun x h => (by cases h), fun x h => (by cases h), List.Pairwise.nil⟩
theorem Out.keep (h : Out W B0 xs) (hb : Below W.heap.size W W') : Out W' B0 xs := ⟨fun x hx => (h.own x hx).keep hb, h.lo, fun x hx => Nat.le_trans (h.hi x hx) hb.size, h.pw⟩
theorem Out.next (h : Out W B0 xs) (hB : B0 ≤ W.heap.size) {v : Value} {l : List It} (ho : OwI W' W.heap.size v l) (hb : Below W.heap.size W W') : Out W' B0 (xs ++ [⟨W.heap.size, W'.heap.size, v, l⟩]) := by
 have hk := h.keep hb
 refine ⟨fun x hx => ?_, fun x hx => ?_, fun x hx => ?_, ?_⟩
 ·rcases List.mem_append.1 hx with h1 | h1
  ·exact hk.own x h1
  ·rw [List.mem_singleton] at h1; subst h1; exact OwZ.ends (.inl ho)
 ·rcases List.mem_append.1 hx with h1 | h1
  ·exact hk.lo x h1
  ·rw [List.mem_singleton] at h1; subst h1; exact hB
 ·rcases List.mem_append.1 hx with h1 | h1
  ·exact hk.hi x h1
  ·rw [List.mem_singleton] at h1; subst h1; exact Nat.le_refl _
 ·rw [List.pairwise_append]
  refine ⟨h.pw, List.pairwise_singleton _ _, fun x hx y hy => ?_⟩
  rw [List.mem_singleton] at hy; subst hy; exact h.hi x hx
theorem Out.other {g : Nat} (h : Out W B0 xs) (hg : W.grownBy W' (some g)) (hgB : g < B0) : Out W' B0 xs :=
 ⟨fun x hx => (h.own x hx).other hg (Nat.lt_of_lt_of_le hgB (h.lo x hx)), h.lo, fun x hx => Nat.le_trans (h.hi x hx) hg.size, h.pw⟩
theorem Out.rd {x : Hd} {a : Option Addr} {n c : Nat} (h : Out W B0 xs) (hx : x ∈ xs) (hv : x.v = .slice a n c) : RdI W a x.l := by
 rcases h.own x hx with ⟨h1, _⟩ | ⟨h1, _⟩
 ·rw [hv] at h1
  exact h1.rd
 ·rw [h1]
  exact .inl rfl
end
end Go.Proofs.YtmhnndgnnpondaaGreatDoor
namespace Go.Proofs.YtmhnndgnnpondaaGreatDoor
set_option maxRecDepth 100000
set_option maxHeartbeats 4000000
open Go.RowKit
structure Env (w : World) : Prop where
 t8 : Tabs8 w
 pow : Lib.TabIs Tryz.prog w "internal/strconv.uint64pow10" .u64 Lib.pow10Tab
 syn : ∃ ev, w.cell? ⟨5, 0, none⟩ = some ev ∧ (ev = .nilIface ∨ ∃ te pe, ev = .iface te pe)
 rng : ∃ ev, w.cell? ⟨6, 0, none⟩ = some ev ∧ (ev = .nilIface ∨ ∃ te pe, ev = .iface te pe)
theorem tab_keep {w w' : World} {name : String} {k : IntKind} {zs : List Int} (h : Lib.TabIs Tryz.prog w name k zs) (hb : Below w.heap.size w w') : Lib.TabIs Tryz.prog w' name k zs := by
 unfold Lib.TabIs World.var? at *
 cases hg : Tryz.prog.globalNamed name with
 | none => rw [hg] at h; simp at h
 | some g =>
  rw [hg] at h
  simp only [Option.bind_some] at h ⊢
  cases ho : w.heap[g]? with
  | none => rw [ho] at h; simp at h
  | some o =>
   have := heap_keep ho hb
   rw [ho] at h
   rw [this]
   exact h
theorem Env.keep {w w' : World} (h : Env w) (hb : Below w.heap.size w w') : Env w' :=
 ⟨h.t8.keep hb, tab_keep h.pow hb, let ⟨ev, h1, h2⟩ := h.syn; ⟨ev, cell_keep hb h1, h2⟩, let ⟨ev, h1, h2⟩ := h.rng; ⟨ev, cell_keep hb h1, h2⟩⟩
theorem parse_R {l : List UInt8} {v : Int} (h : Lib.parseIntB 64 l = .ok v) : R64 v := by
 unfold Lib.parseIntB at h
 unfold R64
 split at h
 ·cases h
 ·dsimp only at h
  split at h
  ·cases h
  ·cases h
  ·split at h
   ·cases h
   ·split at h
    ·cases h
    ·injection h with h
     rename_i h1 h2
     subst h
     split
     ·rename_i h3
      have : ¬ (2 ^ (64 - 1) < _) := fun h4 => h2 ⟨h3, h4⟩
      omega
     ·rename_i h3
      have : ¬ (2 ^ (64 - 1) ≤ _) := fun h4 => h1 ⟨h3, h4⟩
      omega
def whB (s : ByteArray) : Bool := match Lib.parseIntB 64 s.data.toList with
 | .ok v => decide ((⟨(Lib.itoa v).toArray⟩ : ByteArray).toList = s.toList)
 | _ => false
def whN (s : ByteArray) : Int := match Lib.parseIntB 64 s.data.toList with
 | .ok v => if (⟨(Lib.itoa v).toArray⟩ : ByteArray).toList = s.toList then v else 0
 | _ => 0
theorem whole_any (s : ByteArray) (w : World) (he : Env w) (hs : s.size ≤ 140737488355328) :
  Calls Tryz.prog 81 #[.string s] w fun e w' => e = .returned (.tuple #[.int .i64 (whN s), .bool (whB s)]) ∧ Below w.heap.size w w' := by
 have He := hide he
 clear he
 cases hp : Lib.parseIntB 64 s.data.toList with
 | ok v =>
  have HR := hide (parse_R hp)
  by_cases hq : (⟨(Lib.itoa v).toArray⟩ : ByteArray).toList = s.toList
  ·have HN : Hid (whN s = v) := by show whN s = v; unfold whN; rw [hp]; exact if_pos hq
   have HB : Hid (whB s = true) := by show whB s = true; unfold whB; rw [hp]; exact decide_eq_true hq
   have Hp := hide hp
   clear hp
   go_enter Tryz.func81, Tryz.ntmps81
   go_wp2_with fail
   refine (Tryz.strconv_ParseInt_10_at64_ok s (by omega) v Hp.out _).mono ?_
   rintro e w1 ⟨rfl, hw1⟩
   have hb1 : Below w.heap.size w w1 := by
    rcases hw1 with rfl | ⟨t, rfl⟩
    ·exact Below.refl _ _
    ·exact Go.Joins.below_bytesWorld _ _ _ _ (Nat.le_refl _)
   clear hw1
   go_wp2_with fail
   refine (Tryz.strconv_FormatInt_10 v HR.out.1 HR.out.2 _ (tab_keep He.out.pow hb1)).mono ?_
   rintro e w2 ⟨rfl, k2, os2, hw2⟩
   have hb2 : Below w.heap.size w w2 := by rw [hw2]; exact chain0 hb1 (Lib.below_grow _ _ (Nat.le_refl _) _ _)
   clear hw2
   generalize (⟨(Lib.itoa v).toArray⟩ : ByteArray) = tx at *
   go_wp2
   go_ret2
   exact ⟨by rw [HN.out, HB.out]; rfl, hb2⟩
  ·have hqb : ((⟨(Lib.itoa v).toArray⟩ : ByteArray).toList == s.toList) = false := by simpa using hq
   have HN : Hid (whN s = 0) := by show whN s = 0; unfold whN; rw [hp]; exact if_neg hq
   have HB : Hid (whB s = false) := by show whB s = false; unfold whB; rw [hp]; exact decide_eq_false hq
   clear hq
   have Hp := hide hp
   clear hp
   go_enter Tryz.func81, Tryz.ntmps81
   go_wp2_with fail
   refine (Tryz.strconv_ParseInt_10_at64_ok s (by omega) v Hp.out _).mono ?_
   rintro e w1 ⟨rfl, hw1⟩
   have hb1 : Below w.heap.size w w1 := by
    rcases hw1 with rfl | ⟨t, rfl⟩
    ·exact Below.refl _ _
    ·exact Go.Joins.below_bytesWorld _ _ _ _ (Nat.le_refl _)
   clear hw1
   go_wp2_with fail
   refine (Tryz.strconv_FormatInt_10 v HR.out.1 HR.out.2 _ (tab_keep He.out.pow hb1)).mono ?_
   rintro e w2 ⟨rfl, k2, os2, hw2⟩
   have hb2 : Below w.heap.size w w2 := by rw [hw2]; exact chain0 hb1 (Lib.below_grow _ _ (Nat.le_refl _) _ _)
   clear hw2
   generalize (⟨(Lib.itoa v).toArray⟩ : ByteArray) = tx at *
   go_wp2
   go_ret2
   exact ⟨by rw [HN.out, HB.out]; rfl, hb2⟩
 | range =>
  have HN : Hid (whN s = 0) := by show whN s = 0; unfold whN; rw [hp]
  have HB : Hid (whB s = false) := by show whB s = false; unfold whB; rw [hp]
  have Hp := hide hp
  clear hp
  obtain ⟨ev, hv, hev⟩ := He.out.rng
  go_enter Tryz.func81, Tryz.ntmps81
  go_wp2_with fail
  refine (Tryz.strconv_ParseInt_10_at64_range s (by omega) Hp.out ev _ hv hev).mono ?_
  rintro e w1 ⟨N, rfl, _, _, hb1⟩
  go_wp2
  go_ret2
  exact ⟨by rw [HN.out, HB.out]; rfl, hb1⟩
 | _ =>
  have HN : Hid (whN s = 0) := by show whN s = 0; unfold whN; rw [hp]
  have HB : Hid (whB s = false) := by show whB s = false; unfold whB; rw [hp]
  have Hp := hide hp
  clear hp
  obtain ⟨ev, hv, hev⟩ := He.out.syn
  go_enter Tryz.func81, Tryz.ntmps81
  go_wp2_with fail
  refine (Tryz.strconv_ParseInt_10_at64_syntax s (by omega) Hp.out ev _ hv hev).mono ?_
  rintro e w1 ⟨N, rfl, _, _, hb1⟩
  go_wp2
  go_ret2
  exact ⟨by rw [HN.out, HB.out]; rfl, hb1⟩
def nV (x : It) : Int := if x.kind = 2 then x.num else whN x.text
def nE (x : It) : Int := if x.kind = 2 then 0 else if whB x.text = true then 0 else 250
theorem whN_no {s : ByteArray} (h : whB s = false) : whN s = 0 := by
 unfold whB at h
 unfold whN
 split
 ·rename_i v hv
  rw [hv] at h
  exact if_neg (by simpa using h)
 ·rfl
theorem number_any (k : Nat) (n d : Int) (s : ByteArray) (w : World) (he : Env w) (hs : s.size ≤ 140737488355328) :
  Calls Tryz.prog 50 #[.agg #[.int .u8 k, .int .i64 n, .string s, .int .i64 d]] w fun e w' => e = .returned (.tuple #[.int .i64 (nV ⟨k, n, s, d⟩), .int .i64 (nE ⟨k, n, s, d⟩)]) ∧ Below w.heap.size w w' := by
 by_cases hk : k = 2
 ·subst hk
  exact number_int n d s w
 ·have hk1 : ((k : Int) == 2) = false := by simpa using (show (k : Int) ≠ 2 by omega)
  have HN : Hid (nV ⟨k, n, s, d⟩ = whN s) := by show _ = _; unfold nV; exact if_neg hk
  have HE : Hid (nE ⟨k, n, s, d⟩ = if whB s = true then 0 else 250) := by show _ = _; unfold nE; exact if_neg hk
  have hz := (Below.refl w.heap.size w).alloc (Nat.le_refl _) (.cells #[.int .u8 k, .int .i64 n, .string s, .int .i64 d] 31)
  have He := hide (he.keep hz)
  clear he hk
  go_enter Tryz.func50, Tryz.ntmps50
  go_wp2_with fail
  refine (whole_any s _ He.out hs).mono ?_
  rintro e w1 ⟨rfl, hb1⟩
  have hB1 := chain0 hz hb1
  clear hb1 hz
  rcases Bool.eq_false_or_eq_true (whB s) with hb | hb
  ·rw [hb] at HE ⊢
   go_wp2
   go_ret2
   exact ⟨by rw [HN.out, HE.out]; rfl, hB1⟩
  ·have hN := hide (whN_no hb)
   rw [hb] at HE ⊢
   go_wp2
   go_ret2
   exact ⟨by rw [HN.out, HE.out, hN.out]; rfl, hB1⟩
end Go.Proofs.YtmhnndgnnpondaaGreatDoor
namespace Go.Proofs.YtmhnndgnnpondaaGreatDoor
open Go.RowKit
theorem right1_any (p : Option Addr) (n c : Nat) (l : List It) (w : World) (ht8 : Tabs8 w) (ha : OkA w ⟨p, l, c⟩) (hn : n = l.length) :
  Calls Tryz.prog 26 #[.slice (some ⟨w.heap.size, 0, none⟩) 1 1] (w.alloc (.cells #[.slice p n c] 22)) fun e w' => e = .returned (.bool (l.all okI)) ∧ Below w.heap.size w w' := by
 subst hn
 have hb0 : Below w.heap.size w (w.alloc (.cells #[.slice p l.length c] 22)) := (Below.refl _ _).alloc (Nat.le_refl _) _
 have hrd : Rd (w.alloc (.cells #[.slice p l.length c] 22)) (some ⟨w.heap.size, 0, none⟩) (([⟨p, l, c⟩] : List Lst).map Lst.v) := Rd.new w 22 [.slice p l.length c]
 refine (right_any (some ⟨w.heap.size, 0, none⟩) 1 1 [⟨p, l, c⟩] _ (ht8.keep hb0) rfl (by decide) hrd ?_).mono ?_
 ·intro x hx
  rw [List.mem_singleton] at hx
  subst hx
  exact ⟨ha.1.keep hb0, ha.2⟩
 ·rintro e w' ⟨rfl, hb⟩
  refine ⟨by simp [rightL], chain0 hb0 hb⟩
theorem at0 {w : World} {p : Option Addr} {x : It} {r : List It} (h : RdI w p (x :: r)) :
  ∃ b off, p = some ⟨b, off, none⟩ ∧ w.cell? ⟨b, off, none⟩ = some (.int .u8 x.kind) ∧ w.cell? ⟨b, off + 1, none⟩ = some (.int .i64 x.num) ∧ w.cell? ⟨b, off + 2, none⟩ = some (.string x.text) ∧ w.cell? ⟨b, off + 3, none⟩ = some (.int .i64 x.node) := by
 obtain ⟨b, off, h1, h2, h3, h4, h5⟩ := h.at 0 x rfl
 exact ⟨b, off, h1, by simpa using h2, by simpa using h3, by simpa using h4, by simpa using h5⟩
theorem ix_at0 (b off n c : Nat) (h : 0 < n) (W : World) : (Instr.indexAt 22 (.slice (some ⟨b, off, none⟩) n c) (.int .i64 0)).run Tryz.prog W = .ok (.pointer (some ⟨b, off, none⟩)) W := by
 have := ix_item b off n c 0 h W
 simpa using this
end Go.Proofs.YtmhnndgnnpondaaGreatDoor
