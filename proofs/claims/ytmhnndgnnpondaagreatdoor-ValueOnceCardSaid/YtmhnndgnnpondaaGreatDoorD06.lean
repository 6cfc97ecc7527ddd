/- What is told once: plain laws of distinct values, of nodes. ValueOnce: the walk. -/
import Derived.Test.YtmhnndgnnpondaaGreatDoorD04
import Derived.Test.YtmhnndgnnpondaaGreatDoorC24
import Derived.Test.YtmhnndgnnpondaaGreatDoorC14
import Derived.Test.YtmhnndgnnpondaaGreatDoorD05
namespace Go.Proofs.YtmhnndgnnpondaaGreatDoor
open Go.RowKit
theorem plainI_idem (x : It) : plainI (plainI x) = plainI x := by
 by_cases h : x.kind = 1
 ·have e : plainI x = ⟨3, 0, x.text, 0⟩ := if_pos h
  rw [e]
  exact if_neg (show ¬ (3 = 1) by decide)
 ·have e : plainI x = x := if_neg h
  rw [e, e]
theorem plainI_ok {x : It} (h : okI x = true) : okI (plainI x) = true := by
 by_cases hk : x.kind = 1
 ·have e : plainI x = ⟨3, 0, x.text, 0⟩ := if_pos hk
  rw [e]
  unfold okI at h
  rw [Bool.and_eq_true] at h
  have h2 := h.2
  unfold okI
  dsimp only
  rw [h2]
  simp
 ·have e : plainI x = x := if_neg hk
  rw [e]; exact h
theorem plainI_text (x : It) : (plainI x).text = x.text := by
 by_cases hk : x.kind = 1
 ·have e : plainI x = ⟨3, 0, x.text, 0⟩ := if_pos hk
  rw [e]
 ·have e : plainI x = x := if_neg hk
  rw [e]
theorem addI_mem {acc : List It} {x z : It} (h : z ∈ addI acc x) : z ∈ acc ∨ z = x := by
 unfold addI at h
 split at h
 ·exact .inl h
 ·rcases List.mem_append.1 h with h | h
  ·exact .inl h
  ·exact .inr (List.mem_singleton.1 h)
theorem distA_mem : ∀ (l acc : List It) (z : It), z ∈ distA acc l → z ∈ acc ∨ ∃ y ∈ l, z = plainI y
 | [], acc, z, h => .inl h
 | x :: r, acc, z, h => by
  rcases distA_mem r (addI acc (plainI x)) z h with h1 | ⟨y, hy, e⟩
  ·rcases addI_mem h1 with h2 | h2
   ·exact .inl h2
   ·exact .inr ⟨x, by simp, h2⟩
  ·exact .inr ⟨y, by simp [hy], e⟩
theorem distA_nodup : ∀ (l acc : List It), acc.Nodup → (distA acc l).Nodup
 | [], acc, h => h
 | x :: r, acc, h => by
  refine distA_nodup r _ ?_
  unfold addI
  split
  ·exact h
  ·rename_i hn
   rw [List.nodup_append]
   refine ⟨h, List.nodup_cons.2 ⟨List.not_mem_nil, List.nodup_nil⟩, fun a ha b hb e => hn ?_⟩
   rw [List.mem_singleton] at hb
   subst hb
   exact List.any_eq_true.2 ⟨a, ha, by rw [e]; exact eqI_same _⟩
theorem distA_id : ∀ (M acc : List It), (acc ++ M).Nodup → (∀ x ∈ M, plainI x = x) → distA acc M = acc ++ M
 | [], acc, _, _ => by rw [List.append_nil]; rfl
 | x :: r, acc, h, hp => by
  have e : addI acc (plainI x) = acc ++ [x] := by
   rw [hp x (by simp)]
   refine addI_no ?_
   rw [List.any_eq_false]
   intro y hy hxy
   rw [eqI_iff] at hxy
   subst hxy
   exact (List.nodup_append.1 h).2.2 x hy x (by simp) rfl
  show distA (addI acc (plainI x)) r = _
  rw [e, distA_id r (acc ++ [x]) (by rw [List.append_assoc]; exact h) (fun y hy => hp y (by simp [hy])), List.append_assoc]
  rfl
theorem distA_len : ∀ (l acc : List It), (distA acc l).length ≤ acc.length + l.length
 | [], acc => Nat.le_refl _
 | x :: r, acc => by
  have h1 := distA_len r (addI acc (plainI x))
  have h2 := addI_len acc (plainI x)
  show (distA (addI acc (plainI x)) r).length ≤ _
  rw [List.length_cons]
  omega
theorem distL_len (l : List It) : (distL l).length ≤ l.length := by
 have := distA_len l []
 simpa [distL] using this
theorem distL_nodup (l : List It) : (distL l).Nodup := distA_nodup l [] List.nodup_nil
theorem distL_mem {l : List It} {z : It} (h : z ∈ distL l) : ∃ y ∈ l, z = plainI y := by
 rcases distA_mem l [] z h with h | h
 ·cases h
 ·exact h
theorem distL_twice (l : List It) : distL (distL l) = distL l := by
 have := distA_id (distL l) [] (by rw [List.nil_append]; exact distL_nodup l) (fun x hx => by
  obtain ⟨y, _, rfl⟩ := distL_mem hx
  exact plainI_idem y)
 rw [List.nil_append] at this
 exact this
theorem distL_ok {l : List It} (h : l.all okI = true) : (distL l).all okI = true := by
 rw [List.all_eq_true] at h ⊢
 intro z hz
 obtain ⟨y, hy, rfl⟩ := distL_mem hz
 exact plainI_ok (h y hy)
theorem rev_ok {l : List It} (h : l.all okI = true) : l.reverse.all okI = true := by
 rw [List.all_reverse]; exact h
/-! ### nodes -/
theorem NodesOk.self {l R : List It} (h : NodesOk l R) : NodesOk R R := by
 refine ⟨h.up, fun x hx => ?_, fun y hy => ⟨y, hy, rfl⟩⟩
 obtain ⟨i, hi, e⟩ := List.mem_iff_getElem.1 hx
 refine ⟨i, by rw [List.getElem?_eq_getElem hi, e], fun j y hj hy => ?_⟩
 obtain ⟨hj2, e2⟩ := List.getElem?_eq_some_iff.1 hy
 have := List.pairwise_iff_getElem.1 h.up j i hj2 hi hj
 rw [e, e2] at this
 omega
theorem NodesOk.sub {l R : List It} (h : NodesOk l R) {x : It} (hx : x ∈ R) : x ∈ l := by
 obtain ⟨i, hi, _⟩ := h.first x hx
 exact List.mem_of_getElem? hi
theorem NodP.sub {l R : List It} {er : Int} (h : NodP l R er) {x : It} (hx : x ∈ R) : x ∈ l := by
 rcases h with ⟨_, h, _⟩ | ⟨_, _, h, _⟩ | ⟨_, _, h, _⟩
 ·rw [h] at hx; cases hx
 ·rw [h] at hx; cases hx
 ·exact h.sub hx
theorem NodP.up {l R : List It} {er : Int} (h : NodP l R er) : R.Pairwise (fun (x y : It) => x.node < y.node) := by
 rcases h with ⟨_, h, _⟩ | ⟨_, _, h, _⟩ | ⟨_, _, h, _⟩
 ·rw [h]; exact List.Pairwise.nil
 ·rw [h]; exact List.Pairwise.nil
 ·exact h.up
theorem NodP.again {l R : List It} {er : Int} (h : NodP l R er) : NodP R R 0 := by
 have h0 : NodP [] [] 0 := .inr (.inr ⟨rfl, fun y hy => (by cases hy), NodesOk.nil, rfl⟩)
 rcases h with ⟨_, h, _⟩ | ⟨_, _, h, _⟩ | ⟨h1, h2, h3, _⟩
 ·rw [h]; exact h0
 ·rw [h]; exact h0
 ·refine .inr (.inr ⟨?_, fun y hy => h2 y (h3.sub hy), h3.self, rfl⟩)
  rw [List.all_eq_true] at h1 ⊢
  exact fun y hy => h1 y (h3.sub hy)
theorem NodP.bad {l R : List It} {er : Int} (h : NodP l R er) (hq : l.all okI = false) : er = 2 := by
 rcases h with ⟨_, _, h⟩ | ⟨h, _⟩ | ⟨h, _⟩
 ·exact h
 ·rw [hq] at h; cases h
 ·rw [hq] at h; cases h
theorem drew_belowO (w : World) : Below w.heap.size w w.drew := by
 have h := Lib.below_grow w.heap.size w (Nat.le_refl _) 1 #[]
 rw [Sort.grow_empty] at h
 exact h
/-! ### what Call answers of one row -/
def dV (l : List It) : List It × Int := if l.all okI = true then (distL l, 0) else ([], 2)
def rV (l : List It) : List It × Int := if l.all okI = true then (l.reverse, 0) else ([], 2)
theorem dV_yes {l : List It} (h : l.all okI = true) : dV l = (distL l, 0) := if_pos h
theorem dV_no {l : List It} (h : l.all okI = false) : dV l = ([], 2) := if_neg (by rw [h]; decide)
theorem rV_yes {l : List It} (h : l.all okI = true) : rV l = (l.reverse, 0) := if_pos h
theorem rV_no {l : List It} (h : l.all okI = false) : rV l = ([], 2) := if_neg (by rw [h]; decide)
theorem dV_twice {l : List It} (h : l.all okI = true) : dV (dV l).1 = (distL l, 0) := by
 rw [dV_yes h]
 show dV (distL l) = _
 rw [dV_yes (distL_ok h), distL_twice]
theorem rV_twice {l : List It} (h : l.all okI = true) : rV (rV l).1 = (l, 0) := by
 rw [rV_yes h]
 show rV l.reverse = _
 rw [rV_yes (rev_ok h), List.reverse_reverse]
theorem dV_len (l : List It) : (dV l).1.length ≤ l.length := by
 unfold dV
 split
 ·exact distL_len l
 ·exact Nat.zero_le _
theorem rV_len (l : List It) : (rV l).1.length ≤ l.length := by
 unfold rV
 split
 ·exact Nat.le_of_eq List.length_reverse
 ·exact Nat.zero_le _
theorem dV_text {l : List It} (h : ∀ y ∈ l, y.text.size ≤ 140737488355328) : ∀ y ∈ (dV l).1, y.text.size ≤ 140737488355328 := by
 unfold dV
 split
 ·intro y hy
  obtain ⟨z, hz, rfl⟩ := distL_mem hy
  rw [plainI_text]; exact h z hz
 ·intro y hy; cases hy
theorem rV_text {l : List It} (h : ∀ y ∈ l, y.text.size ≤ 140737488355328) : ∀ y ∈ (rV l).1, y.text.size ≤ 140737488355328 := by
 unfold rV
 split
 ·intro y hy; exact h y (List.mem_reverse.1 hy)
 ·intro y hy; cases hy
theorem one_row {w : World} {p : Option Addr} {n c : Nat} {l : List It} (ha : OkA w ⟨p, l, c⟩) (hn : n = l.length) :
  Below w.heap.size w (w.alloc (.cells #[.slice p n c] 22)) ∧ Rd (w.alloc (.cells #[.slice p n c] 22)) (some ⟨w.heap.size, 0, none⟩) (([⟨p, l, c⟩] : List Lst).map Lst.v) ∧ OkAs (w.alloc (.cells #[.slice p n c] 22)) [⟨p, l, c⟩] := by
 subst hn
 have hb0 : Below w.heap.size w (w.alloc (.cells #[.slice p l.length c] 22)) := (Below.refl _ _).alloc (Nat.le_refl _) _
 refine ⟨hb0, Rd.new w 22 [.slice p l.length c], fun x hx => ?_⟩
 rw [List.mem_singleton] at hx
 subst hx
 exact ⟨ha.1.keep hb0, ha.2⟩
theorem rightL_1 (p : Option Addr) (l : List It) (c : Nat) : rightL [⟨p, l, c⟩] = l.all okI := by simp [rightL]
theorem distinct_call (p : Option Addr) (n c : Nat) (l : List It) (m : Int) (w : World) (he : Env w) (hm : w.cell? ⟨3, 0, none⟩ = some (.int .i64 m)) (hc : Counts w) (ha : OkA w ⟨p, l, c⟩) (hn : n = l.length) (hle : n ≤ 1000000) :
  Calls Tryz.prog 9 #[.string ⟨#[100, 105, 115, 116, 105, 110, 99, 116, 45, 118, 97, 108, 117, 101, 115]⟩, .slice (some ⟨w.heap.size, 0, none⟩) 1 1] (w.alloc (.cells #[.slice p n c] 22)) fun e w' => ∃ v, e = .returned (.tuple #[v, .int .i64 (dV l).2]) ∧ OwI w' w.heap.size v (dV l).1 ∧ Below w.heap.size w w' := by
 obtain ⟨hb0, hrd, hok⟩ := one_row ha hn
 refine (callO_distinct (some ⟨w.heap.size, 0, none⟩) 1 1 [⟨p, l, c⟩] m _ (he.keep hb0) (cell_keep hb0 hm) (hc.keep hb0) hrd hok (fun x hx => by rw [List.mem_singleton] at hx; subst hx; show l.length ≤ _; omega) rfl (by decide)).mono ?_
 have e : callO [100, 105, 115, 116, 105, 110, 99, 116, 45, 118, 97, 108, 117, 101, 115] fDistinct [⟨p, l, c⟩] = dV l := by
  unfold callO dV
  rw [rightL_1, if_pos (show knV [100, 105, 115, 116, 105, 110, 99, 116, 45, 118, 97, 108, 117, 101, 115] ([⟨p, l, c⟩] : List Lst).length = true from (by decide +kernel : knV [100, 105, 115, 116, 105, 110, 99, 116, 45, 118, 97, 108, 117, 101, 115] 1 = true))]
  rfl
 rw [e]
 rintro e w' ⟨v, h1, h2, h3⟩
 exact ⟨v, h1, h2.mono hb0.size, chain0 hb0 h3⟩
theorem reverse_call (p : Option Addr) (n c : Nat) (l : List It) (m : Int) (w : World) (he : Env w) (hm : w.cell? ⟨3, 0, none⟩ = some (.int .i64 m)) (hc : Counts w) (ha : OkA w ⟨p, l, c⟩) (hn : n = l.length) (hle : n ≤ 1000000) :
  Calls Tryz.prog 9 #[.string ⟨#[114, 101, 118, 101, 114, 115, 101]⟩, .slice (some ⟨w.heap.size, 0, none⟩) 1 1] (w.alloc (.cells #[.slice p n c] 22)) fun e w' => ∃ v, e = .returned (.tuple #[v, .int .i64 (rV l).2]) ∧ OwI w' w.heap.size v (rV l).1 ∧ Below w.heap.size w w' := by
 obtain ⟨hb0, hrd, hok⟩ := one_row ha hn
 refine (callO_reverse (some ⟨w.heap.size, 0, none⟩) 1 1 [⟨p, l, c⟩] m _ (he.keep hb0) (cell_keep hb0 hm) (hc.keep hb0) hrd hok (fun x hx => by rw [List.mem_singleton] at hx; subst hx; show l.length ≤ _; omega) rfl (by decide)).mono ?_
 have e : callO [114, 101, 118, 101, 114, 115, 101] fReverse [⟨p, l, c⟩] = rV l := by
  unfold callO rV
  rw [rightL_1, if_pos (show knV [114, 101, 118, 101, 114, 115, 101] ([⟨p, l, c⟩] : List Lst).length = true from (by decide +kernel : knV [114, 101, 118, 101, 114, 115, 101] 1 = true))]
  rfl
 rw [e]
 rintro e w' ⟨v, h1, h2, h3⟩
 exact ⟨v, h1, h2.mono hb0.size, chain0 hb0 h3⟩
end Go.Proofs.YtmhnndgnnpondaaGreatDoor
namespace Go.Proofs.YtmhnndgnnpondaaGreatDoor
open Go.RowKit
set_option maxRecDepth 100000 in
set_option maxHeartbeats 8000000 in
theorem valueOnce_ok (p : Option Addr) (n c : Nat) (l : List It) (m : Int) (w : World) (he : Env w) (hm : w.cell? ⟨3, 0, none⟩ = some (.int .i64 m)) (hc : Counts w) (hoa : OkA w ⟨p, l, c⟩) (hn : n = l.length) :
  Calls Tryz.prog 3 #[.slice p n c] w fun e w' => e = .returned (.bool true) ∧ Below w.heap.size w w' := by
 have mixed : Tryz.prog.follows .mixedOrders = true := by kernel_rfl
 obtain ⟨ev, hv, hev⟩ := he.syn
 have He := hide he
 have Hm := hide hm
 have Hc := hide hc
 have Hoa := hide hoa
 have Hn := hide hn
 have HAw := hide (awake_ok m ev w hm hc hv hev)
 clear he hm hc hoa hn hv hev
 go_enter Tryz.func3, Tryz.ntmps3
 go_wp2_with fail
 refine HAw.out.mono ?_
 rintro e w1 ⟨rfl, hB1⟩
 clear HAw
 obtain ⟨hal, hrd, hok⟩ := one_row (w := w1) (c := c) ⟨Hoa.out.1.keep hB1, Hoa.out.2⟩ Hn.out
 have HG := hide (great_size (some ⟨w1.heap.size, 0, none⟩) 1 1 [⟨p, l, c⟩] _ rfl (by decide) hrd hok)
 have hBa := chain0 hB1 hal
 clear hal hrd hok hB1
 go_wp2_with fail
 refine HG.out.mono ?_
 rintro e w2 ⟨⟨z, rfl, hq⟩, hb⟩
 have hB2 := chain0 hBa hb
 clear HG hb hBa
 by_cases hq0 : z = 0
 ·subst hq0
  clear hq
  go_wp2
  go_ret
  exact ⟨rfl, hB2⟩
 ·have hl3 : l.length ≤ 300 := (hq hq0).1 ⟨p, l, c⟩ (by simp)
  have hn3 : n ≤ 300 := by have := Hn.out; omega
  have HL3 := hide hl3
  have hqf : (z == 0) = false := by simpa using hq0
  rw [hqf]
  clear hq hqf hq0 hl3
  -- nodes, twice
  have K2 := hide (nodes_any p n c l w2 (He.out.keep hB2).t8 ⟨Hoa.out.1.keep hB2, Hoa.out.2⟩ Hn.out (by omega))
  go_wp2_with fail
  refine K2.out.mono ?_
  rintro e w3 ⟨v, R, er, rfl, hnp, hll, ho, hb⟩
  have hB3 := chain0 hB2 hb
  obtain ⟨a3, c3, hv⟩ := ow_forms ho
  obtain ⟨j3, hj3⟩ : ∃ j, j = R.length := ⟨_, rfl⟩
  rw [← hj3] at hv
  subst hv
  have hj3b : j3 ≤ 300 := by have := HL3.out; omega
  have HNP := hide hnp
  have HR3 := hide ho.rd
  have Hj3 := hide hj3
  have HT3 : Hid (∀ y ∈ R, y.text.size ≤ 140737488355328) := fun y hy => Hoa.out.2.1 y (hnp.sub hy)
  clear K2 hb ho hnp hll hj3 hB2
  have K3 := hide (nodes_any a3 j3 c3 R w3 (He.out.keep hB3).t8 ⟨HR3.out, HT3.out, by have := Hj3.out; show R.length < _; omega⟩ Hj3.out (by omega))
  go_wp2_with fail
  refine K3.out.mono ?_
  rintro e w4 ⟨v, R2, er2, rfl, hnp, _, ho, hb⟩
  have hB4 := chain0 hB3 hb
  obtain ⟨e1, e2⟩ := HNP.out.again.one hnp
  subst e1
  have e2' : er2 = 0 := e2.symm
  subst e2'
  obtain ⟨a4, c4, hv⟩ := ow_forms ho
  rw [← Hj3.out] at hv
  subst hv
  have HR4 := hide (HR3.out.keep hb)
  have HS := hide (same_any a3 a4 j3 c3 c4 R w4 HR4.out ho.rd Hj3.out (by omega))
  clear K3 hb ho hnp hB3 HR3 e2
  go_wp2_with fail
  refine HS.out.mono ?_
  rintro e w5 ⟨rfl, hb⟩
  have hB5 := chain0 hB4 hb
  have HR5 := hide (HR4.out.keep hb)
  have hD5 := Below.refl w5.heap.size w5
  clear HS hb hB4 HR4
  go_wp2
  go_loopw [7] (fun v W => ∃ i : Nat, v = .int .i64 i ∧ 1 ≤ i ∧ i ≤ j3 + 1 ∧ Below w5.heap.size w5 W) (fun v _ => j3 + 1 - (intOf v).toNat)
  case atStart => exact ⟨1, rfl, Nat.le_refl _, by omega, hD5⟩
  case round =>
   clear hD5
   obtain ⟨i, rfl, hi1, hi2, hD⟩ := hrel
   by_cases hlt : i < j3
   ·obtain ⟨k, rfl⟩ : ∃ k, i = k + 1 := ⟨i - 1, by omega⟩
    have hI : (k : Int) + 1 < (j3 : Int) := by omega
    obtain ⟨x, hx⟩ : ∃ x, R[k + 1]? = some x := ⟨_, List.getElem?_eq_getElem (by have := Hj3.out; omega)⟩
    obtain ⟨y, hy⟩ : ∃ y, R[k]? = some y := ⟨_, List.getElem?_eq_getElem (by have := Hj3.out; omega)⟩
    have hyx : y.node < x.node := by
     obtain ⟨g1, g2⟩ := List.getElem?_eq_some_iff.1 hx
     obtain ⟨g3, g4⟩ := List.getElem?_eq_some_iff.1 hy
     have := List.pairwise_iff_getElem.1 HNP.out.up k (k + 1) g3 g1 (by omega)
     rw [g2, g4] at this
     exact this
    obtain ⟨b1, o1, q1, x0, x1, x2, x3⟩ := (HR5.out.keep hD).at (k + 1) x hx
    obtain ⟨b2, o2, q2, y0, y1, y2, y3⟩ := (HR5.out.keep hD).at k y hy
    subst q1
    injection q2 with q2
    injection q2 with q2 q3
    subst q2 q3
    have hix1 := ix_item b1 o1 j3 c3 (k + 1) hlt
    have hix2 := ix_item b1 o1 j3 c3 k (by omega)
    have hix1' := hix1
    simp only [Int.natCast_add, Int.natCast_one] at hix1'
    have hwp : IntKind.i64.wrap (k : Int) = (k : Int) := by rw [IntKind.wrap_i64]; omega
    obtain ⟨xk, xa, xt, xd⟩ := x
    obtain ⟨yk, ya, yt, yd⟩ := y
    dsimp only at x0 x1 x2 x3 y0 y1 y2 y3 hyx
    have hle : decide (xd ≤ yd) = false := decide_eq_false (by omega)
    have hD2 := chain0 hD (drew_belowO wr)
    clear hx hy hD hyx
    go_wp2_with fail
    go_big_region_o
    all_goals go_wp2
    go_roundw
    case rel => exact ⟨k + 1 + 1, by go_num, by omega, by omega, hD2⟩
    case measure => simp [intOf]; omega
   ·have hI : decide ((i : Int) < (j3 : Int)) = false := decide_eq_false (by omega)
    have hB6 := chain0 hB5 hD
    obtain ⟨w6, hw6⟩ : ∃ w6, w6 = wr := ⟨_, rfl⟩
    subst hw6
    clear hB5 hD HR5
    -- distinct values
    have K6 := hide (distinct_call p n c l m w6 (He.out.keep hB6) (cell_keep hB6 Hm.out) (Hc.out.keep hB6) ⟨Hoa.out.1.keep hB6, Hoa.out.2⟩ Hn.out (by omega))
    obtain ⟨L8, hL8⟩ : ∃ L, L = (dV l).1 := ⟨_, rfl⟩
    obtain ⟨e8, he8⟩ : ∃ e, e = (dV l).2 := ⟨_, rfl⟩
    rw [← hL8, ← he8] at K6
    have hT8 : ∀ y ∈ L8, y.text.size ≤ 140737488355328 := by rw [hL8]; exact dV_text Hoa.out.2.1
    have hl8 : L8.length ≤ 300 := by rw [hL8]; exact Nat.le_trans (dV_len l) HL3.out
    have HE8 : Hid (L8 = (dV l).1 ∧ e8 = (dV l).2) := ⟨hL8, he8⟩
    have HT8 := hide hT8
    obtain ⟨j8, hj8⟩ : ∃ j, j = L8.length := ⟨_, rfl⟩
    have Hj8 := hide hj8
    have hj8b : j8 ≤ 300 := by omega
    clear hL8 he8 hT8 hl8 hj8
    go_wp2_with fail
    refine K6.out.mono ?_
    rintro e w7 ⟨v, rfl, ho, hb⟩
    have hB7 := chain0 hB6 hb
    obtain ⟨a8, c8, hv⟩ := ow_forms ho
    rw [← Hj8.out] at hv
    subst hv
    have HR8 := hide ho.rd
    clear K6 hb ho hB6
    have K7 := hide (distinct_call a8 j8 c8 L8 m w7 (He.out.keep hB7) (cell_keep hB7 Hm.out) (Hc.out.keep hB7) ⟨HR8.out, HT8.out, by have := Hj8.out; show L8.length < _; omega⟩ Hj8.out (by omega))
    obtain ⟨L10, hL10⟩ : ∃ L, L = (dV L8).1 := ⟨_, rfl⟩
    obtain ⟨e10, he10⟩ : ∃ e, e = (dV L8).2 := ⟨_, rfl⟩
    rw [← hL10, ← he10] at K7
    have HE10 : Hid (L10 = (dV L8).1 ∧ e10 = (dV L8).2) := ⟨hL10, he10⟩
    clear hL10 he10
    go_wp2_with fail
    refine K7.out.mono ?_
    rintro e w8 ⟨v10, rfl, ho10, hb⟩
    have hB8 := chain0 hB7 hb
    have HR8' := hide (HR8.out.keep hb)
    have HO10 := hide ho10
    clear K7 hb ho10 hB7 HR8
    -- reverse
    have K8 := hide (reverse_call p n c l m w8 (He.out.keep hB8) (cell_keep hB8 Hm.out) (Hc.out.keep hB8) ⟨Hoa.out.1.keep hB8, Hoa.out.2⟩ Hn.out (by omega))
    obtain ⟨L12, hL12⟩ : ∃ L, L = (rV l).1 := ⟨_, rfl⟩
    obtain ⟨e12, he12⟩ : ∃ e, e = (rV l).2 := ⟨_, rfl⟩
    rw [← hL12, ← he12] at K8
    have hT12 : ∀ y ∈ L12, y.text.size ≤ 140737488355328 := by rw [hL12]; exact rV_text Hoa.out.2.1
    have hl12 : L12.length ≤ 300 := by rw [hL12]; exact Nat.le_trans (rV_len l) HL3.out
    have HE12 : Hid (L12 = (rV l).1 ∧ e12 = (rV l).2) := ⟨hL12, he12⟩
    have HT12 := hide hT12
    obtain ⟨j12, hj12⟩ : ∃ j, j = L12.length := ⟨_, rfl⟩
    have Hj12 := hide hj12
    have hj12b : j12 ≤ 300 := by omega
    clear hL12 he12 hT12 hl12 hj12
    go_wp2_with fail
    refine K8.out.mono ?_
    rintro e w9 ⟨v, rfl, ho, hb⟩
    have hB9 := chain0 hB8 hb
    obtain ⟨a12, c12, hv⟩ := ow_forms ho
    rw [← Hj12.out] at hv
    subst hv
    have HR12 := hide ho.rd
    have HR8 := hide (HR8'.out.keep hb)
    have HO10' := hide (HO10.out.keep hb)
    clear K8 hb ho hB8 HR8' HO10
    have K9 := hide (reverse_call a12 j12 c12 L12 m w9 (He.out.keep hB9) (cell_keep hB9 Hm.out) (Hc.out.keep hB9) ⟨HR12.out, HT12.out, by have := Hj12.out; show L12.length < _; omega⟩ Hj12.out (by omega))
    obtain ⟨L14, hL14⟩ : ∃ L, L = (rV L12).1 := ⟨_, rfl⟩
    obtain ⟨e14, he14⟩ : ∃ e, e = (rV L12).2 := ⟨_, rfl⟩
    rw [← hL14, ← he14] at K9
    have HE14 : Hid (L14 = (rV L12).1 ∧ e14 = (rV L12).2) := ⟨hL14, he14⟩
    clear hL14 he14
    go_wp2_with fail
    refine K9.out.mono ?_
    rintro e w10 ⟨v14, rfl, ho14, hb⟩
    have hB10 := chain0 hB9 hb
    have HO14 := hide ho14
    have HR8' := hide (HR8.out.keep hb)
    have HO10 := hide (HO10'.out.keep hb)
    clear K9 hb ho14 hB9 HR12 HR8 HO10'
    rcases Bool.eq_false_or_eq_true (l.all okI) with hq | hq
    ·-- all items are right
     have h8 : e8 = 0 := by rw [HE8.out.2, dV_yes hq]
     have h8l : L8 = distL l := by rw [HE8.out.1, dV_yes hq]
     have h10 : e10 = 0 := by rw [HE10.out.2, HE8.out.1, dV_twice hq]
     have h10l : L10 = L8 := by
      rw [HE10.out.1, h8l, dV_yes (distL_ok hq)]
      exact distL_twice l
     have h12 : e12 = 0 := by rw [HE12.out.2, rV_yes hq]
     have h14 : e14 = 0 := by rw [HE14.out.2, HE12.out.1, rV_twice hq]
     have h14l : L14 = l := by rw [HE14.out.1, HE12.out.1, rV_twice hq]
     have HND : Hid (L8.Nodup) := by show L8.Nodup; rw [h8l]; exact distL_nodup l
     subst h8 h10 h12 h14 h10l h14l
     clear h8l hq HE8 HE10 HE12 HE14
     obtain ⟨a10, c10, hv⟩ := ow_forms HO10.out
     rw [← Hj8.out] at hv
     subst hv
     obtain ⟨a14, c14, hv⟩ := ow_forms HO14.out
     rw [← Hn.out] at hv
     subst hv
     have hD0 := Below.refl w10.heap.size w10
     go_wp2
     go_loopw [16, 17] (fun v v2 W => ∃ k : Nat, v = .int .i64 k ∧ k ≤ j8 ∧ Below w10.heap.size w10 W) (fun v _ _ => j8 - (intOf v).toNat)
     case atStart => exact ⟨0, rfl, Nat.zero_le _, hD0⟩
     case round =>
      clear hD0
      obtain ⟨k, rfl, hk, hD⟩ := hrel
      by_cases hkl : k < j8
      ·have hI2 : (k : Int) < (j8 : Int) := by omega
       go_wp2
       go_loopw [17] (fun v W => ∃ t : Nat, v = .int .i64 t ∧ t ≤ k ∧ Below w10.heap.size w10 W) (fun v _ => k - (intOf v).toNat)
       case atStart => exact ⟨0, rfl, Nat.zero_le _, hD⟩
       case round =>
        clear hD
        obtain ⟨t, rfl, ht, hD⟩ := hrel
        by_cases htk : t < k
        ·have hI3 : (t : Int) < (k : Int) := by omega
         obtain ⟨x, hx⟩ : ∃ x, L10[k]? = some x := ⟨_, List.getElem?_eq_getElem (by have := Hj8.out; omega)⟩
         obtain ⟨y, hy⟩ : ∃ y, L10[t]? = some y := ⟨_, List.getElem?_eq_getElem (by have := Hj8.out; omega)⟩
         have hne : eqI x y = false := by
          rw [Bool.eq_false_iff]
          intro h
          rw [eqI_iff] at h
          subst h
          obtain ⟨g1, g2⟩ := List.getElem?_eq_some_iff.1 hx
          obtain ⟨g3, g4⟩ := List.getElem?_eq_some_iff.1 hy
          exact List.pairwise_iff_getElem.1 HND.out t k g3 g1 htk (by rw [g2, g4])
         obtain ⟨ob, oo, q1, x0, x1, x2, x3⟩ := (HR8'.out.keep hD).at k x hx
         obtain ⟨b2, o2, q2, y0, y1, y2, y3⟩ := (HR8'.out.keep hD).at t y hy
         subst q1
         injection q2 with q2
         injection q2 with q2 q3
         subst q2 q3
         have hix1 := ix_item ob oo j8 c8 k hkl
         have hix2 := ix_item ob oo j8 c8 t (by omega)
         obtain ⟨xk, xa, xt, xd⟩ := x
         obtain ⟨yk, ya, yt, yd⟩ := y
         dsimp only at x0 x1 x2 x3 y0 y1 y2 y3
         have HNE := hide hne
         clear hx hy hne
         obtain ⟨W0, rfl⟩ : ∃ W0, W0 = wr := ⟨_, rfl⟩
         have hB := Below.refl W0.heap.size W0
         go_wp2_with fail
         refine RV.wp_region_facts (R := RB W0.heap.size (⟨#[]⟩) (0)) [eqF _ _ _ 106 (.slice (some ⟨ob, oo, none⟩) j8 c8), eqF _ _ _ 107 (.int .i64 k), eqF _ _ _ 108 (.pointer (some ⟨ob, oo + k * 4, none⟩)), eqF _ _ _ 109 (.agg #[.int .u8 xk, .int .i64 xa, .string xt, .int .i64 xd]), eqF _ _ _ 110 (.slice (some ⟨ob, oo, none⟩) j8 c8), eqF _ _ _ 111 (.int .i64 t), eqF _ _ _ 112 (.pointer (some ⟨ob, oo + t * 4, none⟩)), eqF _ _ _ 113 (.agg #[.int .u8 yk, .int .i64 ya, .string yt, .int .i64 yd]), eqF _ _ _ 114 (.bool false)] (by kernel_rfl) (by kernel_rfl) (by kernel_rfl) (RB.refl (Nat.le_refl _)) (fun _ h => h.again) (fun _ _ _ h k => h.trans k) ?_ ?_
         ·refine RV.stepsU_cons rfl ?_ (RV.stepsU_cons rfl ?_ (RV.stepsU_cons rfl ?_ (RV.stepsU_cons rfl ?_ (RV.stepsU_cons rfl ?_ (RV.stepsU_cons rfl ?_ (RV.stepsU_cons rfl ?_ (RV.stepsU_cons rfl ?_ (RV.stepsU_cons rfl ?_ (RV.stepsU_nil)))))))))
          ·refine RV.stepU_plain rfl fun u wr hR hK hD => ?_; exact upon_move _ _ rfl (hK 8 rfl) ⟨hR.again, rfl⟩
          ·refine RV.stepU_plain rfl fun u wr hR hK hD => ?_; exact upon_move _ _ rfl (hK 16 rfl) ⟨hR.again, rfl⟩
          ·refine RV.stepU_plain rfl fun u wr hR hK hD => ?_; have z : u 106 = _ := (hD 0 rfl); have z2 : u 107 = _ := (hD 1 rfl); exact upon_val _ (by unfold execOp; simp [go_sem, evU, z, z2, hix1]) ⟨hR.again, rfl⟩
          ·refine RV.stepU_plain rfl fun u wr hR hK hD => ?_; exact upon_loadAt _ ob (oo + k * 4) _ _ _ _ rfl (hD 2 rfl) (cell_keep hR.be x0) (cell_keep hR.be x1) (cell_keep hR.be x2) (cell_keep hR.be x3) ⟨hR.again, rfl⟩
          ·refine RV.stepU_plain rfl fun u wr hR hK hD => ?_; exact upon_move _ _ rfl (hK 8 rfl) ⟨hR.again, rfl⟩
          ·refine RV.stepU_plain rfl fun u wr hR hK hD => ?_; exact upon_move _ _ rfl (hK 17 rfl) ⟨hR.again, rfl⟩
          ·refine RV.stepU_plain rfl fun u wr hR hK hD => ?_; have z : u 110 = _ := (hD 4 rfl); have z2 : u 111 = _ := (hD 5 rfl); exact upon_val _ (by unfold execOp; simp [go_sem, evU, z, z2, hix2]) ⟨hR.again, rfl⟩
          ·refine RV.stepU_plain rfl fun u wr hR hK hD => ?_; exact upon_loadAt _ ob (oo + t * 4) _ _ _ _ rfl (hD 6 rfl) (cell_keep hR.be y0) (cell_keep hR.be y1) (cell_keep hR.be y2) (cell_keep hR.be y3) ⟨hR.again, rfl⟩
          ·refine RV.stepU_plain rfl fun u wr hR hK hD => ?_; exact upon_eqI _ _ ⟨xk, xa, xt, xd⟩ ⟨yk, ya, yt, yd⟩ rfl (hD 3 rfl) (hD 7 rfl) (by rw [HNE.out]; exact ⟨hR.again, rfl⟩)
         intro u w5 hR hF
         have e106 : u 106 = .slice (some ⟨ob, oo, none⟩) j8 c8 := hF 0 (by decide)
         have e107 : u 107 = .int .i64 k := hF 1 (by decide)
         have e108 : u 108 = .pointer (some ⟨ob, oo + k * 4, none⟩) := hF 2 (by decide)
         have e109 : u 109 = .agg #[.int .u8 xk, .int .i64 xa, .string xt, .int .i64 xd] := hF 3 (by decide)
         have e110 : u 110 = .slice (some ⟨ob, oo, none⟩) j8 c8 := hF 4 (by decide)
         have e111 : u 111 = .int .i64 t := hF 5 (by decide)
         have e112 : u 112 = .pointer (some ⟨ob, oo + t * 4, none⟩) := hF 6 (by decide)
         have e113 : u 113 = .agg #[.int .u8 yk, .int .i64 ya, .string yt, .int .i64 yd] := hF 7 (by decide)
         have e114 : u 114 = .bool false := hF 8 (by decide)
         simp only [finU, Act.put, List.setIfInBounds_toArray, List.set_cons_succ, List.set_cons_zero, e106, e107, e108, e109, e110, e111, e112, e113, e114]
         clear hF e106 e107 e108 e109 e110 e111 e112 e113 e114
         have hB2 : Below W0.heap.size W0 w5 := chain hB.drew hB.size hR.be
         have hb_w5 : Below W0.heap.size W0 w5 := ⟨hR.be.os, hR.be.tape, hR.be.output, hR.be.size, hR.be.block⟩
         clear hB hR
         have hB := hB2
         clear hB2
         have hD2 := chain0 hD hb_w5
         clear hB hb_w5 hD x0 x1 x2 x3 y0 y1 y2 y3 hix1 hix2
         go_wp2
         go_roundw
         case rel => exact ⟨t + 1, by go_num, by omega, hD2⟩
         case measure => simp [intOf]; omega
        ·have hI3 : decide ((t : Int) < (k : Int)) = false := decide_eq_false (by omega)
         go_wp2
         go_roundw
         case rel => exact ⟨k + 1, by go_num, by omega, hD⟩
         case measure => simp [intOf]; omega
      ·have hI2 : decide ((k : Int) < (j8 : Int)) = false := decide_eq_false (by omega)
       have hB11 := chain0 hB10 hD
       have HS := hide (same_any a8 a10 j8 c8 c10 L10 wr (HR8'.out.keep hD) (HO10.out.keep hD).rd Hj8.out (by omega))
       have HO := hide (HO14.out.keep hD)
       clear hD HO14 HO10 HR8' hB10
       go_wp2_with fail
       refine HS.out.mono ?_
       rintro e w12 ⟨rfl, hb⟩
       have hB12 := chain0 hB11 hb
       have HS2 := hide (same_any a14 p n c14 c L14 w12 (HO.out.keep hb).rd (Hoa.out.1.keep hB12) Hn.out (by omega))
       clear hb HS hB11 HO
       go_wp2_with fail
       refine HS2.out.mono ?_
       rintro e w13 ⟨rfl, hb⟩
       have hB13 := chain0 hB12 hb
       go_wp2
       go_ret
       exact ⟨rfl, hB13⟩
    ·-- refused
     have h8 : e8 = 2 := by rw [HE8.out.2, dV_no hq]
     have h12 : e12 = 2 := by rw [HE12.out.2, rV_no hq]
     have her : er = 2 := HNP.out.bad hq
     subst h8 h12 her
     clear HE8 HE10 HE12 HE14 hq
     go_wp2
     go_ret
     exact ⟨rfl, hB10⟩
end Go.Proofs.YtmhnndgnnpondaaGreatDoor
