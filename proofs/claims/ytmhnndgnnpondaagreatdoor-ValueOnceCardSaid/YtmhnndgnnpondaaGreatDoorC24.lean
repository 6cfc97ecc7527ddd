/- value.Nodes: the walk. -/
import Derived.Test.YtmhnndgnnpondaaGreatDoorC23
namespace Go.Proofs.YtmhnndgnnpondaaGreatDoor
open Go.RowKit
def NodP (l R : List It) (er : Int) : Prop :=
 (l.all okI = false ∧ R = [] ∧ er = 2) ∨ (l.all okI = true ∧ (∃ y ∈ l, y.kind ≠ 1) ∧ R = [] ∧ er = 250) ∨ (l.all okI = true ∧ (∀ y ∈ l, y.kind = 1) ∧ NodesOk l R ∧ er = 0)
theorem NodP.one {l R R' : List It} {er er' : Int} (h : NodP l R er) (k : NodP l R' er') : R = R' ∧ er = er' := by
 rcases h with ⟨h1, h2, h3⟩ | ⟨h1, ⟨y, hy, hk⟩, h2, h3⟩ | ⟨h1, h2, h3, h4⟩ <;> rcases k with ⟨k1, k2, k3⟩ | ⟨k1, ⟨z, hz, hj⟩, k2, k3⟩ | ⟨k1, k2, k3, k4⟩
 ·exact ⟨by rw [h2, k2], by rw [h3, k3]⟩
 ·rw [h1] at k1; cases k1
 ·rw [h1] at k1; cases k1
 ·rw [h1] at k1; cases k1
 ·exact ⟨by rw [h2, k2], by rw [h3, k3]⟩
 ·exact absurd (k2 y hy) hk
 ·rw [h1] at k1; cases k1
 ·exact absurd (h2 z hz) hj
 ·exact ⟨h3.unique k3, by rw [h4, k4]⟩
theorem take_kind {l : List It} {k : Nat} {x : It} (h : ∀ y ∈ l.take k, y.kind = 1) (hx : l[k]? = some x) (hk : x.kind = 1) : ∀ y ∈ l.take (k + 1), y.kind = 1 := by
 rw [List.take_add_one, hx]
 intro y hy
 rcases List.mem_append.1 hy with h1 | h1
 ·exact h y h1
 ·simp at h1; rw [h1]; exact hk
theorem cmpL_len : ∀ (n : Nat) (l : List It), l.length = n → (cmpL l).length ≤ n
 | _, [], _ => by rw [cmpL]; exact Nat.zero_le _
 | _, [x], h => by rw [cmpL]; simp at h ⊢; omega
 | 0, _ :: _ :: _, h => by simp at h
 | n + 1, x :: y :: r, h => by
  rw [cmpL]
  split
  ·exact Nat.le_succ_of_le (cmpL_len n (x :: r) (by simp at h ⊢; omega))
  ·have := cmpL_len n (y :: r) (by simp at h ⊢; omega)
   simp; omega
set_option maxRecDepth 100000 in
set_option maxHeartbeats 4000000 in
theorem nodes_any (p : Option Addr) (n c : Nat) (l : List It) (w : World) (ht8 : Tabs8 w) (ha : OkA w ⟨p, l, c⟩) (hn : n = l.length) (hle : n ≤ 1000000) :
  Calls Tryz.prog 7 #[.slice p n c] w fun e w' => ∃ v R er, e = .returned (.tuple #[v, .int .i64 er]) ∧ NodP l R er ∧ R.length ≤ l.length ∧ OwI w' w.heap.size v R ∧ Below w.heap.size w w' := by
 have Hr := hide (right1_any p n c l w ht8 ha hn)
 have Ha := hide ha
 have Hn := hide hn
 clear ha hn ht8
 rcases Bool.eq_false_or_eq_true (l.all okI) with hq | hq
 ·have HQ := hide hq
  rw [hq] at Hr
  clear hq
  go_enter Tryz.func7, Tryz.ntmps7
  go_wp2_with fail
  refine Hr.out.mono ?_
  rintro e w1 ⟨rfl, hb1⟩
  go_wp2_with fail
  go_loopw [13] (fun iv W => ∃ k : Nat, k ≤ n ∧ iv = .int .i64 k ∧ Hid (∀ y ∈ l.take k, y.kind = 1) ∧ Below w.heap.size w W) (fun iv _ => n - (intOf iv).toNat)
  case atStart => exact ⟨0, Nat.zero_le _, rfl, hide (fun y hy => by simp at hy), hb1⟩
  case round =>
   clear hb1
   obtain ⟨k, hk, rfl, HK, hB⟩ := hrel
   by_cases hlt : k < n
   ·have hI : (k : Int) < (n : Int) := by omega
    obtain ⟨x, hx⟩ : ∃ x, l[k]? = some x := ⟨_, List.getElem?_eq_getElem (by have := Hn.out; omega)⟩
    obtain ⟨b1, off1, e1, c0, c1, c2, c3⟩ := (Ha.out.1.keep hB).at k x hx
    dsimp only at e1
    subst e1
    have hix := ix_item b1 off1 n c k hlt
    have HX := hide hx
    clear hx
    by_cases hk1 : x.kind = 1
    ·have HK2 := hide (take_kind HK.out HX.out hk1)
     clear HK HX
     obtain ⟨xk, xa, xt, xd⟩ := x
     dsimp only at c0 c1 c2 c3
     have hk1 : xk = 1 := hk1
     subst hk1
     have hBa := hB.alloc hB.size (.cells #[.int .u8 1, .int .i64 xa, .string xt, .int .i64 xd] 31)
     clear hB
     go_wp2
     go_roundw
     case rel => exact ⟨k + 1, by omega, by simp, HK2, hBa⟩
     case measure => simp [intOf]; omega
    ·have HE : Hid (∃ y ∈ l, y.kind ≠ 1) := ⟨x, List.mem_of_getElem? HX.out, hk1⟩
     clear HK HX
     obtain ⟨xk, xa, xt, xd⟩ := x
     dsimp only at c0 c1 c2 c3
     have hk2 : ((xk : Int) == 1) = false := by simpa using (show (xk : Int) ≠ 1 from fun h => hk1 (by show xk = 1; omega))
     have hBa := hB.alloc hB.size (.cells #[.int .u8 xk, .int .i64 xa, .string xt, .int .i64 xd] 31)
     clear hB hk1
     go_wp2
     go_ret2
     exact ⟨_, [], _, rfl, .inr (.inl ⟨HQ.out, HE.out, rfl, rfl⟩), Nat.zero_le _, OwI.nil _ _, hBa⟩
   ·have hI : ¬ (k : Int) < (n : Int) := by omega
    have HA : Hid (∀ y ∈ l, y.kind = 1) := by
     have := HK.out
     rw [List.take_of_length_le (by have := Hn.out; omega)] at this
     exact this
    have Hc := hide (clone_any p n c l wr (Ha.out.1.keep hB) Hn.out hle)
    have hln : l.length ≤ 1000000 := by have := Hn.out; omega
    have HLN := hide hln
    clear HK hln
    go_wp2_with fail
    refine Hc.out.mono ?_
    rintro e w2 ⟨v, rfl, ho, hb2⟩
    have Hs := hide (sort_own v wr.heap.size l w2 ho HLN.out)
    have hlt9 := fun b hb => (ow_lt ho b hb).1
    have hB2 := chain0 hB hb2
    have HLT := hide (fun (b : Nat) (hb : v.ownBlock = some b) => Nat.le_trans hB.size (ow_lt ho b hb).1)
    have Hws := hide hB.size
    clear Hc ho hb2 hlt9 hB
    go_wp2_with fail
    refine Hs.out.mono ?_
    rintro e w3 ⟨rfl, l2, ho, hN, hl2, hg⟩
    have Hcm := hide (compact_own v wr.heap.size l2 w3 ho (by rw [hl2]; exact HLN.out))
    have HN := hide hN
    have HLL : Hid ((cmpL l2).length ≤ l.length) := by show _ ≤ _; rw [← hl2]; exact cmpL_len _ l2 rfl
    have hB3 : Below w.heap.size w w3 := hB2.grown hg hB2.size HLT.out
    clear Hs ho hN hl2 hg hB2
    go_wp2_with fail
    refine Hcm.out.mono ?_
    rintro e w4 ⟨v4, rfl, ho, hg⟩
    have hB4 : Below w.heap.size w w4 := hB3.grown hg hB3.size HLT.out
    have Ho := hide (ho.mono Hws.out)
    clear Hcm ho hg hB3
    go_wp2
    go_ret2
    exact ⟨v4, _, _, rfl, .inr (.inr ⟨HQ.out, HA.out, HN.out, rfl⟩), HLL.out, Ho.out, hB4⟩
 ·have HQ := hide hq
  rw [hq] at Hr
  clear hq
  go_enter Tryz.func7, Tryz.ntmps7
  go_wp2_with fail
  refine Hr.out.mono ?_
  rintro e w1 ⟨rfl, hb1⟩
  go_wp2
  go_ret2
  exact ⟨_, [], _, rfl, .inl ⟨HQ.out, rfl, rfl⟩, Nat.zero_le _, OwI.nil _ _, hb1⟩
end Go.Proofs.YtmhnndgnnpondaaGreatDoor
