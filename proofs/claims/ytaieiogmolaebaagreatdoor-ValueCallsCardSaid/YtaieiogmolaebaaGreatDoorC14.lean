/- Items alone, in blocks of their own (str, whole, truth); texts put together (joined). Rows that functions hand out, and whether they lie apart. great, and how long rows and texts are where it is false; SameItems; OverItems. SameItems of rows that hold the same; how long answers are. -/
import Derived.Test.YtaieiogmolaebaaGreatDoorHk
import Derived.Test.YtaieiogmolaebaaGreatDoorC13
import Derived.Test.YtaieiogmolaebaaGreatDoorC12
import Derived.Test.YtaieiogmolaebaaGreatDoorC05
import Derived.Test.YtaieiogmolaebaaGreatDoorC10
import Derived.Test.YtaieiogmolaebaaGreatDoorC09
namespace Go.Proofs.YtaieiogmolaebaaGreatDoor
set_option maxRecDepth 100000
set_option maxHeartbeats 4000000
open Go.RowKit
def Res (w : World) (L : List It) (E : Int) : Ending → World → Prop := fun e w' => ∃ v, e = .returned (.tuple #[v, .int .i64 E]) ∧ OwI w' w.heap.size v L ∧ Below w.heap.size w w'
theorem OwI.nil (w : World) (B : Nat) : OwI w B (.slice none 0 0) [] := ow_nil w B _ _
theorem OwI.keep {w w' : World} {B : Nat} {v : Value} {l : List It} (h : OwI w B v l) (hb : Below w.heap.size w w') : OwI w' B v l := ow_keep h hb
theorem OwI.mono {w : World} {B B' : Nat} {v : Value} {l : List It} (h : OwI w B v l) (hB : B' ≤ B) : OwI w B' v l := ow_mono h hB
theorem OwI.one (w : World) (B : Nat) (hB : B ≤ w.heap.size) (x : It) : OwI (w.alloc (.cells #[.int .u8 x.kind, .int .i64 x.num, .string x.text, .int .i64 x.node] 36)) B (.slice (some ⟨w.heap.size, 0, none⟩) 1 1) [x] :=
 ⟨rfl, .inr ⟨w.heap.size, 1, #[.int .u8 x.kind, .int .i64 x.num, .string x.text, .int .i64 x.node], rfl, hB, heap_alloc_new _ _, Nat.le_refl _, by decide, rfl, rfl⟩⟩
theorem vwhole_own (n : Int) (w : World) : Calls Tryz.prog 27 #[.int .i64 n] w fun e w' => ∃ v, e = .returned v ∧ OwI w' w.heap.size v [⟨2, n, ⟨#[]⟩, 0⟩] ∧ Below w.heap.size w w' := by
 have hk := (Below.refl w.heap.size w).alloc (Nat.le_refl _) (.cells #[.int .u8 2, .int .i64 n, .string ⟨#[]⟩, .int .i64 0] 36)
 have hr := OwI.one w w.heap.size (Nat.le_refl _) ⟨2, n, ⟨#[]⟩, 0⟩
 go_enter Tryz.func27, Tryz.ntmps27
 go_wp2
 go_ret
 exact ⟨_, rfl, hr, hk⟩
theorem vstr_own (s : ByteArray) (w : World) : Calls Tryz.prog 64 #[.string s] w fun e w' => ∃ v, e = .returned v ∧ OwI w' w.heap.size v [⟨3, 0, s, 0⟩] ∧ Below w.heap.size w w' := by
 have hk := (Below.refl w.heap.size w).alloc (Nat.le_refl _) (.cells #[.int .u8 3, .int .i64 0, .string s, .int .i64 0] 36)
 have hr := OwI.one w w.heap.size (Nat.le_refl _) ⟨3, 0, s, 0⟩
 go_enter Tryz.func64, Tryz.ntmps64
 go_wp2
 go_ret
 exact ⟨_, rfl, hr, hk⟩
def bN (b : Bool) : Int := if b = true then 1 else 0
theorem vtruth_own (b : Bool) (w : World) : Calls Tryz.prog 29 #[.bool b] w fun e w' => ∃ v, e = .returned v ∧ OwI w' w.heap.size v [⟨4, bN b, ⟨#[]⟩, 0⟩] ∧ Below w.heap.size w w' := by
 cases b with
 | true =>
  have hk := ((Below.refl w.heap.size w).alloc (Nat.le_refl _) (.cells #[.int .u8 4, .int .i64 1, .string ⟨#[]⟩, .int .i64 0] 36)).alloc (by simp) (.cells #[.int .u8 4, .int .i64 1, .string ⟨#[]⟩, .int .i64 0] 36)
  have hr := OwI.one (w.alloc (.cells #[.int .u8 4, .int .i64 1, .string ⟨#[]⟩, .int .i64 0] 36)) w.heap.size (by simp) ⟨4, 1, ⟨#[]⟩, 0⟩
  go_enter Tryz.func29, Tryz.ntmps29
  go_wp2
  go_ret
  refine ⟨_, rfl, ?_, ?_⟩
  ·simpa [bN] using hr
  ·simpa using hk
 | false =>
  have hk := ((Below.refl w.heap.size w).alloc (Nat.le_refl _) (.cells #[.int .u8 4, .int .i64 0, .string ⟨#[]⟩, .int .i64 0] 36)).alloc (by simp) (.cells #[.int .u8 4, .int .i64 0, .string ⟨#[]⟩, .int .i64 0] 36)
  have hr := OwI.one (w.alloc (.cells #[.int .u8 4, .int .i64 0, .string ⟨#[]⟩, .int .i64 0] 36)) w.heap.size (by simp) ⟨4, 0, ⟨#[]⟩, 0⟩
  go_enter Tryz.func29, Tryz.ntmps29
  go_wp2
  go_ret
  refine ⟨_, rfl, ?_, ?_⟩
  ·simpa [bN] using hr
  ·simpa using hk
def joinB (sep : ByteArray) (xs : List ByteArray) : ByteArray := ⟨(Lib.join (xs.map (·.data.toList)) sep.data.toList).toArray⟩
def joinR (sep : ByteArray) (xs : List ByteArray) : List It × Int := if 65536 < (joinB sep xs).size then ([], 3) else ([⟨3, 0, joinB sep xs, 0⟩], 0)
def szS (sep : ByteArray) : List ByteArray → Nat
 | [] => 0
 | x :: r => sep.size + x.size + szS sep r
theorem szS_app (sep : ByteArray) : ∀ xs ys : List ByteArray, szS sep (xs ++ ys) = szS sep xs + szS sep ys
 | [], ys => by simp [szS]
 | x :: r, ys => by simp only [List.cons_append, szS, szS_app sep r ys]; omega
theorem szS_take (sep : ByteArray) (xs : List ByteArray) (k : Nat) (x : ByteArray) (h : xs[k]? = some x) : szS sep (xs.take (k + 1)) = szS sep (xs.take k) + (sep.size + x.size) := by
 rw [List.take_add_one, h, szS_app]; simp [szS]
theorem szS_le (sep : ByteArray) (xs : List ByteArray) (k : Nat) : szS sep (xs.take k) ≤ szS sep xs := by
 have h := szS_app sep (xs.take k) (xs.drop k)
 rw [List.take_append_drop] at h
 omega
theorem join_size (sep : ByteArray) : ∀ xs : List ByteArray, xs ≠ [] → (joinB sep xs).size + sep.size = szS sep xs
 | [], h => absurd rfl h
 | [x], _ => by
  show (List.intercalate sep.data.toList [x.data.toList]).toArray.size + sep.size = _
  have : x.data.toList.length = x.size := Array.length_toList
  simp [List.intercalate, szS]; omega
 | x :: y :: r, _ => by
  have ih := join_size sep (y :: r) (by simp)
  have h1 : (joinB sep (x :: y :: r)).size = x.size + sep.size + (joinB sep (y :: r)).size := by
   show (List.intercalate sep.data.toList (x.data.toList :: y.data.toList :: r.map (·.data.toList))).toArray.size = x.size + sep.size + (List.intercalate sep.data.toList (y.data.toList :: r.map (·.data.toList))).toArray.size
   rw [List.intercalate_cons_cons]
   have e1 : x.data.toList.length = x.size := Array.length_toList
   have e2 : sep.data.toList.length = sep.size := Array.length_toList
   simp only [List.size_toArray, List.length_append, e1, e2]
  rw [h1]
  have : szS sep (x :: y :: r) = sep.size + x.size + szS sep (y :: r) := rfl
  omega
theorem ix_str (b off n c k : Nat) (h : k < n) (W : World) : (Instr.indexAt 50 (.slice (some ⟨b, off, none⟩) n c) (.int .i64 k)).run Tryz.prog W = .ok (.pointer (some ⟨b, off + k, none⟩)) W := by
 have e : (Tryz.prog.info? 9).map (fun i => (i.zero, i.size, i.bytes)) = some (some (.string ⟨#[]⟩), 1, 16) := by kernel_rfl
 obtain ⟨j0, hj, _, hj1, _⟩ := info_parts e
 have := run_ix Tryz.underlying50 hj hj1 b off n c k k rfl h W
 rwa [Nat.mul_one] at this
theorem joined_any (sep : ByteArray) (p : Option Addr) (n c : Nat) (xs : List ByteArray) (w : World) (hr : Rd w p (xs.map Value.string)) (hn : n = xs.length) (hc : n ≤ c) (hnm : n ≤ 140737488355328) (hz : ∀ x ∈ xs, x.size ≤ 140737488355328) (hs : sep.size ≤ 140737488355328)
  (hp : (p = none ∧ c = 0) ∨ ∃ b off, p = some ⟨b, off, none⟩ ∧ b < w.heap.size) :
  Calls Tryz.prog 26 #[.string sep, .slice p n c] w (Res w (joinR sep xs).1 (joinR sep xs).2) := by
 have Hr := hide hr
 have Hn := hide hn
 have Hc := hide hc
 have Hz := hide hz
 have Hp := hide hp
 have Hnm := hide hnm
 clear hr hn hc hz hp
 go_enter Tryz.func26, Tryz.ntmps26
 go_wp2_with fail
 go_loopw [6, 14] (fun v i W => ∃ (S k : Nat), k ≤ n ∧ v = .int .i64 ((S : Int) - sep.size) ∧ i = .int .i64 k ∧ Hid (S = szS sep (xs.take k)) ∧ (S = 0 ∨ S ≤ 65536 + sep.size) ∧ w = W) (fun _ i _ => n - (intOf i).toNat)
 case atStart => exact ⟨0, 0, Nat.zero_le _, by simp, rfl, hide rfl, .inl rfl, rfl⟩
 case round =>
  obtain ⟨S, k, hk, rfl, rfl, HS, hSle, rfl⟩ := hrel
  by_cases hlt : k < n
  ·have hI : (k : Int) < (n : Int) := by omega
   obtain ⟨x, hx⟩ : ∃ x, xs[k]? = some x := ⟨_, List.getElem?_eq_getElem (by have := Hn.out; omega)⟩
   obtain ⟨b, off, rfl, hcell⟩ := Hr.out.cellAt k (.string x) (by simp [hx])
   have hix := ix_str b off n c k hlt
   have hxz := Hz.out x (List.mem_of_getElem? hx)
   have HS2 := hide (szS_take sep xs k x hx)
   have HSl := hide (szS_le sep xs (k + 1))
   have Hne : Hid (xs ≠ []) := by show xs ≠ []; intro e; subst e; simp at hx
   clear hx
   by_cases hbig : 65536 + sep.size < S + (sep.size + x.size)
   ·have hg : (65536 : Int) < (S : Int) - sep.size + (sep.size + x.size) := by omega
    have HR : Hid (joinR sep xs = ([], 3)) := by
     show _ = _
     unfold joinR
     rw [if_pos]
     have h1 := join_size sep xs Hne.out
     have h2 := HS2.out
     have h3 := HSl.out
     have h4 := HS.out
     omega
    clear hbig
    go_wp2
    go_ret2
    exact ⟨.slice none 0 0, by rw [HR.out]; rfl, by rw [HR.out]; exact OwI.nil _ _, Below.refl _ _⟩
   ·have hg : ¬ (65536 : Int) < (S : Int) - sep.size + (sep.size + x.size) := by omega
    have Hle2 := hide (Nat.le_of_not_lt hbig)
    clear hbig
    go_wp2
    go_roundw
    case rel => exact ⟨S + (sep.size + x.size), k + 1, by omega, by simp; omega, by simp, hide (by show _ = _; rw [HS2.out, ← HS.out]), .inr Hle2.out, by trivial⟩
    case measure => simp [intOf]; omega
  ·have hI : ¬ (k : Int) < (n : Int) := by omega
   have hall : xs.take k = xs := List.take_of_length_le (by have := Hn.out; omega)
   have HR : Hid (joinR sep xs = ([⟨3, 0, joinB sep xs, 0⟩], 0) ∧ (joinB sep xs).size ≤ 65536) := by
    show _ ∧ _
    have hsm : (joinB sep xs).size ≤ 65536 := by
     by_cases h0 : xs = []
     ·subst h0
      show (List.intercalate sep.data.toList []).toArray.size ≤ 65536
      simp [List.intercalate]
     ·have h1 := join_size sep xs h0
      have h4 := HS.out
      rw [hall] at h4
      omega
    refine ⟨?_, hsm⟩
    unfold joinR
    rw [if_neg (by omega)]
   have Hjl : Hid ((Lib.join (xs.map (·.data.toList)) sep.data.toList).length ≤ 140737488355328) := by
    show _ ≤ _
    have := HR.out.2
    unfold joinB at this
    rw [show (ByteArray.mk (Lib.join (xs.map (·.data.toList)) sep.data.toList).toArray).size = (Lib.join (xs.map (·.data.toList)) sep.data.toList).length from List.size_toArray] at this
    omega
   clear hall HS hSle
   rcases Hp.out with ⟨rfl, rfl⟩ | ⟨b, off, rfl, hlt2⟩
   ·have hn0 : n = 0 := by have := Hc.out; omega
    subst hn0
    have hx0 : xs = [] := List.length_eq_zero_iff.1 Hn.out.symm
    subst hx0
    go_wp2_with fail
    refine (Tryz.strings_Join_none none 0 sep _).mono ?_
    rintro e w1 ⟨rfl, rfl⟩
    go_wp2_with fail
    refine (vstr_own _ _).mono ?_
    rintro e w2 ⟨v, rfl, ho2, hb2⟩
    have Ho2 := hide ho2
    clear ho2
    go_wp2
    go_ret2
    exact ⟨v, by rw [HR.out.1]; rfl, by rw [HR.out.1]; exact Ho2.out, hb2⟩
   ·have Hlt2 := hide hlt2
    have hnx : n = xs.length := Hn.out
    clear hlt2 hlt hk
    subst hnx
    go_wp2_with fail
    refine (Tryz.strings_Join b off c xs sep _ ?j1 Hlt2.out Hnm.out Hc.out Hjl.out).mono ?_
    case j1 =>
     intro j x hx
     obtain ⟨b2, off2, e, hcell⟩ := Hr.out.cellAt j (.string x) (by simp [hx])
     injection e with e
     injection e with e1 e2
     subst e1 e2
     exact hcell
    rintro e w1 ⟨rfl, hb1⟩
    have hj : (⟨(Lib.join (xs.map (·.data.toList)) sep.data.toList).toArray⟩ : ByteArray) = joinB sep xs := rfl
    rw [hj]
    clear hj
    generalize joinB sep xs = jb at *
    go_wp2_with fail
    refine (vstr_own _ _).mono ?_
    rintro e w2 ⟨v, rfl, ho2, hb2⟩
    have Ho2 := hide (ho2.mono hb1.size)
    have hB2 := chain0 hb1 hb2
    clear ho2 hb1 hb2
    go_wp2
    go_ret2
    exact ⟨v, by rw [HR.out.1]; rfl, by rw [HR.out.1]; exact Ho2.out, hB2⟩
end Go.Proofs.YtaieiogmolaebaaGreatDoor
namespace Go.Proofs.YtaieiogmolaebaaGreatDoor
open Go.RowKit
def OwZ (W : World) (B : Nat) (v : Value) (l : List It) : Prop := OwI W B v l ∨ (l = [] ∧ ∃ a, v = .slice a 0 0)
section
variable {W W' : World} {B : Nat} {v : Value} {l : List It}
theorem OwZ.keep (h : OwZ W B v l) (hb : Below W.heap.size W W') : OwZ W' B v l := h.imp (fun h => OwI.keep h hb) id
theorem OwZ.mono {B' : Nat} (h : OwZ W B v l) (hB : B' ≤ B) : OwZ W B' v l := h.imp (fun h => OwI.mono h hB) id
theorem OwZ.form (h : OwZ W B v l) : ∃ a c, v = .slice a l.length c ∧ RdI W a l := by
 rcases h with h | ⟨rfl, a, h⟩
 ·obtain ⟨a, c, hv⟩ := ow_forms h
  subst hv
  exact ⟨a, c, rfl, ow_rd h⟩
 ·exact ⟨a, 0, h, .inl rfl⟩
theorem OwZ.other {g : Nat} (h : OwZ W B v l) (hg : W.grownBy W' (some g)) (hgB : g < B) : OwZ W' B v l := by
 refine h.imp (fun h => World.ownsRow.kept h hg ?_) id
 cases hv : v.ownBlock with
 | none => exact .inl rfl
 | some b =>
  have := (ow_lt h b hv).1
  exact .inr fun e => by injection e with e; omega
theorem OwZ.piece (h : OwZ W B v l) : ∃ p : PcI, piV p = v ∧ ContI W p [] ∧ p.2.1 = l.length ∧ p.2.1 ≤ p.2.2.1 ∧ ∀ g, p.1 = some g → B ≤ g ∧ g < W.heap.size := by
 rcases h with h | ⟨rfl, a, h⟩
 ·have hl := ow_lt h
  rcases h.2 with ⟨rfl, e⟩ | ⟨g, cap, cur, rfl, hB, hh, hn, hm, hs, ht⟩
  ·exact ⟨(none, 0, 0, none), rfl, .inl ⟨rfl, rfl, rfl, rfl⟩, e.symm, Nat.le_refl _, fun g hg => by cases hg⟩
  ·refine ⟨(some g, l.length, cap, some ⟨g, 0, none⟩), rfl, .inr ⟨g, rfl, rfl, hn, rfl, .inr ⟨g, cap, cur, rfl, Nat.zero_le _, hh, Nat.zero_le _, hm, hs, by simp [icells]⟩⟩, rfl, hn, fun g' hg => ?_⟩
   injection hg with hg
   subst hg
   exact hl g rfl
 ·exact ⟨(none, 0, 0, a), h.symm, .inl ⟨rfl, rfl, rfl, rfl⟩, rfl, Nat.le_refl _, fun g hg => by cases hg⟩
end
def OwE (W : World) (B E : Nat) (v : Value) (l : List It) : Prop := (OwI W B v l ∧ ∀ g, v.ownBlock = some g → g < E) ∨ (l = [] ∧ ∃ a, v = .slice a 0 0)
section
variable {W W' : World} {B E : Nat} {v : Value} {l : List It}
theorem OwZ.ends (h : OwZ W B v l) : OwE W B W.heap.size v l := h.imp (fun h => ⟨h, fun g hg => (ow_lt h g hg).2⟩) id
theorem OwE.keep (h : OwE W B E v l) (hb : Below W.heap.size W W') : OwE W' B E v l := h.imp (fun h => ⟨OwI.keep h.1 hb, h.2⟩) id
theorem OwE.z (h : OwE W B E v l) : OwZ W B v l := h.imp (fun h => h.1) id
theorem OwE.mono {B' : Nat} (h : OwE W B E v l) (hB : B' ≤ B) : OwE W B' E v l := h.imp (fun h => ⟨OwI.mono h.1 hB, h.2⟩) id
theorem OwE.other {g : Nat} (h : OwE W B E v l) (hg : W.grownBy W' (some g)) (hgB : g < B) : OwE W' B E v l := by
 refine h.imp (fun h => ⟨World.ownsRow.kept h.1 hg ?_, h.2⟩) id
 cases hv : v.ownBlock with
 | none => exact .inl rfl
 | some b =>
  have := (ow_lt h.1 b hv).1
  exact .inr fun e => by injection e with e; omega
theorem OwE.piece (h : OwE W B E v l) : ∃ p : PcI, piV p = v ∧ ContI W p [] ∧ p.2.1 = l.length ∧ p.2.1 ≤ p.2.2.1 ∧ ∀ g, p.1 = some g → B ≤ g ∧ g < E := by
 rcases h with ⟨h, hE⟩ | ⟨rfl, a, h⟩
 ·have hl := ow_lt h
  rcases h.2 with ⟨rfl, e⟩ | ⟨g, cap, cur, rfl, hB, hh, hn, hm, hs, ht⟩
  ·exact ⟨(none, 0, 0, none), rfl, .inl ⟨rfl, rfl, rfl, rfl⟩, e.symm, Nat.le_refl _, fun g hg => by cases hg⟩
  ·refine ⟨(some g, l.length, cap, some ⟨g, 0, none⟩), rfl, .inr ⟨g, rfl, rfl, hn, rfl, .inr ⟨g, cap, cur, rfl, Nat.zero_le _, hh, Nat.zero_le _, hm, hs, by simp [icells]⟩⟩, rfl, hn, fun g' hg => ?_⟩
   injection hg with hg
   subst hg
   exact ⟨hB, hE g rfl⟩
 ·exact ⟨(none, 0, 0, a), h.symm, .inl ⟨rfl, rfl, rfl, rfl⟩, rfl, Nat.le_refl _, fun g hg => by cases hg⟩
end
def Apart2 (p q : PcI) : Prop := ∀ g, p.1 = some g → q.1 ≠ some g
theorem dist_of {ps : List PcI} (h : ps.Pairwise Apart2) : Dist ps := by
 intro j k p q g hp hq hjk h1 h2
 obtain ⟨hj, rfl⟩ := List.getElem?_eq_some_iff.1 hp
 obtain ⟨hk, rfl⟩ := List.getElem?_eq_some_iff.1 hq
 rcases Nat.lt_or_ge j k with h3 | h3
 ·exact List.pairwise_iff_getElem.1 h j k hj hk h3 g h1 h2
 ·exact List.pairwise_iff_getElem.1 h k j hk hj (by omega) g h2 h1
structure Hd where
 B : Nat
 E : Nat
 v : Value
 l : List It
theorem pieces_of (W : World) (B0 : Nat) : ∀ (xs : List Hd), (∀ x ∈ xs, OwE W x.B x.E x.v x.l ∧ x.l.length ≤ 1000 ∧ B0 ≤ x.B) → xs.Pairwise (fun x y => x.E ≤ y.B) →
  ∃ ps : List PcI, ps.map piV = xs.map (fun x => x.v) ∧ (∀ p ∈ ps, ContI W p []) ∧ (∀ p ∈ ps, p.2.1 ≤ 1000 ∧ p.2.1 ≤ p.2.2.1) ∧ (∀ p ∈ ps, ∀ g, p.1 = some g → B0 ≤ g ∧ ∃ x ∈ xs, x.B ≤ g ∧ g < x.E) ∧ ps.Pairwise Apart2
 | [], _, _ => ⟨[], rfl, fun p hp => (by cases hp), fun p hp => (by cases hp), fun p hp => (by cases hp), List.Pairwise.nil⟩
 | x :: xs, h, hp => by
  obtain ⟨ps, h1, h2, h3, h4, h5⟩ := pieces_of W B0 xs (fun y hy => h y (by simp [hy])) (List.pairwise_cons.1 hp).2
  obtain ⟨hx, hxl, hxB⟩ := h x (by simp)
  obtain ⟨p, q1, q2, q3, q4, q5⟩ := hx.piece
  refine ⟨p :: ps, by simp [q1, h1], ?_, ?_, ?_, ?_⟩
  ·intro r hr
   rcases List.mem_cons.1 hr with rfl | hr
   ·exact q2
   ·exact h2 r hr
  ·intro r hr
   rcases List.mem_cons.1 hr with rfl | hr
   ·exact ⟨by omega, q4⟩
   ·exact h3 r hr
  ·intro r hr g hg
   rcases List.mem_cons.1 hr with rfl | hr
   ·exact ⟨Nat.le_trans hxB (q5 g hg).1, x, by simp, q5 g hg⟩
   ·obtain ⟨hb, y, hy, hy2⟩ := h4 r hr g hg
    exact ⟨hb, y, by simp [hy], hy2⟩
  ·refine List.pairwise_cons.2 ⟨fun r hr g h1 h2 => ?_, h5⟩
   obtain ⟨_, y, hy, hy2⟩ := h4 r hr g h2
   have := q5 g h1
   have := (List.pairwise_cons.1 hp).1 y hy
   omega
theorem apart_of (a : Option Addr) (N c : Nat) (xs : List Hd) (B0 : Nat) (w : World) (hr : Rd w a (xs.map (fun x => x.v))) (hN : N = xs.length) (hN0 : xs ≠ []) (hNb : N ≤ 1000) (hB0 : B0 ≤ w.heap.size)
  (h : ∀ x ∈ xs, OwE w x.B x.E x.v x.l ∧ x.l.length ≤ 1000 ∧ B0 ≤ x.B) (hp : xs.Pairwise (fun x y => x.E ≤ y.B)) :
  Calls Tryz.prog 12 #[.slice a N c] w fun e w' => e = .returned (.bool true) ∧ Below B0 w w' := by
 obtain ⟨ps, h1, h2, h3, h4, h5⟩ := pieces_of w B0 xs h hp
 have hl : ps.length = xs.length := by simpa using congrArg List.length h1
 refine (apartItems_any a N c ps w (by rw [h1]; exact hr) (by omega) (fun e => hN0 (List.length_eq_zero_iff.1 (by rw [← hl, e]; rfl))) hNb (fun j p hj => h2 p (List.mem_of_getElem? hj)) (dist_of h5) h3).mono ?_
 rintro e w' ⟨rfl, hk⟩
 exact ⟨rfl, hk.below hB0 fun p hp g hg => (h4 p hp g hg).1⟩
end Go.Proofs.YtaieiogmolaebaaGreatDoor
namespace Go.Proofs.YtaieiogmolaebaaGreatDoor
set_option maxRecDepth 100000
set_option maxHeartbeats 4000000
open Go.RowKit
def gq2 (b : Bool) : Nat := if b = true then 0 else 1
theorem gq2_eq (b : Bool) : (gq2 b == 0) = b := by cases b <;> rfl
theorem take_next {α : Type} {P : α → Prop} {l : List α} {i : Nat} {x : α} (h : ∀ y ∈ l.take i, P y) (hx : l[i]? = some x) (hp : P x) : ∀ y ∈ l.take (i + 1), P y := by
 rw [List.take_add_one, hx]
 intro y hy
 rcases List.mem_append.1 hy with h1 | h1
 ·exact h y h1
 ·simp at h1; subst h1; exact hp
def Small (x : Lst) : Prop := ∀ y ∈ x.l, y.text.size ≤ 100000
theorem great_size (p : Option Addr) (n c : Nat) (ls : List Lst) (w : World) (hn : n = ls.length) (hle : n < 9223372036854775807) (hr : Rd w p (ls.map Lst.v)) (hok : OkAs w ls) :
  Calls Tryz.prog 4 #[.slice p n c] w fun e w' => (∃ q : Nat, e = .returned (.bool (q == 0)) ∧ (q ≠ 0 → (∀ x ∈ ls, x.l.length ≤ 300) ∧ ∀ x ∈ ls, Small x)) ∧ Below w.heap.size w w' := by
 have Hn := hide hn
 have Hr := hide hr
 have Hok := hide hok
 clear hn hr hok
 go_enter Tryz.func4, Tryz.ntmps4
 go_wp2_with fail
 go_loopw [3, 4] (fun nv iv W => ∃ (z : Int) (i : Nat), i ≤ n ∧ nv = .int .i64 z ∧ iv = .int .i64 i ∧ 0 ≤ z ∧ z < 140737488455329 ∧ Hid (∀ x ∈ ls.take i, x.l.length ≤ 300) ∧ Hid (z < 100000 → ∀ x ∈ ls.take i, Small x) ∧ Below w.heap.size w W) (fun _ iv _ => n - (intOf iv).toNat)
 case atStart => exact ⟨0, 0, Nat.zero_le _, rfl, rfl, by omega, by omega, hide (by simp), hide (fun _ => by simp), Below.refl _ _⟩
 case round =>
  obtain ⟨z, i, hi, rfl, rfl, hz0, hz9, Htk, Hsm, hB⟩ := hrel
  by_cases hlt : i < n
  ·have hI : (i : Int) < (n : Int) := by omega
   obtain ⟨x, hx⟩ : ∃ x, ls[i]? = some x := ⟨_, List.getElem?_eq_getElem (by have := Hn.out; omega)⟩
   obtain ⟨b, off, rfl, hc⟩ := Hr.out.cellAt i x.v (by simp [hx])
   have hix := ix_row b off n c i hlt
   have Hx := hide (Hok.out x (List.mem_of_getElem? hx))
   have Hnx := hide hx
   clear hx
   obtain ⟨xa, xl, xc⟩ := x
   obtain ⟨m, hm⟩ : ∃ m, m = xl.length := ⟨_, rfl⟩
   have hml : m < 9223372036854775807 := by rw [hm]; exact Hx.out.2.2
   have hc2 : w.cell? ⟨b, off + i, none⟩ = some (.slice xa m xc) := by rw [hm]; exact hc
   have Hc := hide hc2
   have Hm := hide hm
   have Hz0 := hide hz0
   have Hz9 := hide hz9
   clear hc hc2 hm hz0 hz9
   go_wp2_with fail
   go_loopw [3, 5] (fun nv kv W => ∃ (z : Int) (k : Nat), k ≤ m ∧ nv = .int .i64 z ∧ kv = .int .i64 k ∧ 0 ≤ z ∧ z < 140737488455329 ∧ Hid (z < 100000 → (∀ x ∈ ls.take i, Small x) ∧ ∀ y ∈ xl.take k, y.text.size ≤ 100000) ∧ Below w.heap.size w W) (fun _ kv _ => m - (intOf kv).toNat)
   case atStart => exact ⟨z, 0, Nat.zero_le _, rfl, rfl, Hz0.out, Hz9.out, hide (fun h => ⟨Hsm.out h, by simp⟩), hB⟩
   case round =>
    clear hB
    obtain ⟨z, k, hk, rfl, rfl, hz0, hz9, Hs2, hB⟩ := hrel
    have hcell := cell_keep hB Hc.out
    by_cases hlk : k < m
    ·have hI2 : (k : Int) < (m : Int) := by omega
     by_cases hz : z < 100000
     ·obtain ⟨y, hy⟩ : ∃ y, xl[k]? = some y := ⟨_, List.getElem?_eq_getElem (by have := Hm.out; omega)⟩
      obtain ⟨b2, off2, e2, c0, c1, c2, c3⟩ := (Hx.out.1.keep hB).at k y hy
      dsimp only at e2
      subst e2
      have hix2 := ix_item b2 off2 m xc k hlk
      have hys : y.text.size ≤ 140737488355328 := Hx.out.2.1 y (List.mem_of_getElem? hy)
      have Hs3 : Hid (z + 1 + (y.text.size : Int) < 100000 → (∀ x ∈ ls.take i, Small x) ∧ ∀ y ∈ xl.take (k + 1), y.text.size ≤ 100000) := by
       show _ → _
       intro h
       obtain ⟨h1, h2⟩ := Hs2.out hz
       exact ⟨h1, take_next h2 hy (by omega)⟩
      clear hy Hs2
      obtain ⟨yk, ya, yt, yd⟩ := y
      dsimp only at c0 c1 c2 c3 hys Hs3
      go_wp2
      go_roundw
      case rel => exact ⟨z + 1 + (yt.size : Int), k + 1, by omega, rfl, by simp, by omega, by omega, Hs3, hB⟩
      case measure => simp [intOf]; omega
     ·have hzd : decide (z < 100000) = false := by simpa using hz
      have Hs3 : Hid (z < 100000 → ∀ x ∈ ls.take (i + 1), Small x) := fun h => absurd h hz
      clear hz Hs2
      by_cases h3 : (300 : Int) < (m : Int)
      ·go_wp2
       go_ret
       exact ⟨⟨0, rfl, fun h => absurd rfl h⟩, hB⟩
      ·have h3d : decide ((300 : Int) < (m : Int)) = false := by simpa using h3
       go_wp2
       go_roundw
       case rel => exact ⟨z, i + 1, by omega, rfl, by simp, hz0, hz9, hide (take_next Htk.out Hnx.out (by have := Hm.out; show xl.length ≤ 300; omega)), Hs3, hB⟩
       case measure => simp [intOf]; omega
    ·have hI2 : decide ((k : Int) < (m : Int)) = false := by simp; omega
     have hI3 : ¬ (k : Int) < (m : Int) := by omega
     have Hs3 : Hid (z < 100000 → ∀ x ∈ ls.take (i + 1), Small x) := by
      show _ → _
      intro h
      obtain ⟨h1, h2⟩ := Hs2.out h
      rw [List.take_of_length_le (by have := Hm.out; omega)] at h2
      exact take_next h1 Hnx.out h2
     clear Hs2
     by_cases h3 : (300 : Int) < (m : Int)
     ·go_wp2
      go_ret
      exact ⟨⟨0, rfl, fun h => absurd rfl h⟩, hB⟩
     ·have h3d : decide ((300 : Int) < (m : Int)) = false := by simpa using h3
      go_wp2
      go_roundw
      case rel => exact ⟨z, i + 1, by omega, rfl, by simp, hz0, hz9, hide (take_next Htk.out Hnx.out (by have := Hm.out; show xl.length ≤ 300; omega)), Hs3, hB⟩
      case measure => simp [intOf]; omega
  ·have hI : ¬ (i : Int) < (n : Int) := by omega
   have Hall : Hid (ls.take i = ls) := List.take_of_length_le (by have := Hn.out; omega)
   go_wp2
   go_ret
   refine ⟨⟨gq2 (decide (100000 ≤ z)), by rw [gq2_eq]; rfl, fun hq => ?_⟩, hB⟩
   have h1 := Htk.out
   have h2 := Hsm.out
   rw [Hall.out] at h1 h2
   refine ⟨h1, h2 ?_⟩
   by_cases hz : 100000 ≤ z
   ·rw [decide_eq_true hz] at hq; exact absurd rfl hq
   ·omega
theorem over_any (g n : Nat) (w : World) (h : ContI w (some g, n, n + 12, some ⟨g, 0, none⟩) []) (hn : n ≤ 1048576) :
  Calls Tryz.prog 10 #[.slice (some ⟨g, 0, none⟩) n (n + 12)] w fun e w' => e = .returned (.tuple #[]) ∧ w.grownBy w' (some g) := by
 have h0 : ContI w (some g, n, n + 12, some ⟨g, 0, none⟩) (imk 2 0) := h
 clear h
 go_enter Tryz.func10, Tryz.ntmps10
 go_wp2_with fail
 go_loopw [3] (fun iv W => ∃ i : Nat, i ≤ n + 12 ∧ iv = .int .i64 i ∧ ContI W (some g, n, n + 12, some ⟨g, 0, none⟩) (imk 2 i) ∧ w.grownBy W (some g)) (fun iv _ => n + 12 - (intOf iv).toNat)
 case atStart => exact ⟨0, Nat.zero_le _, rfl, h0, World.grownBy.refl w _⟩
 case round =>
  clear h0
  obtain ⟨i, hi, rfl, K, hg⟩ := hrel
  by_cases hlt : i < n + 12
  ·have HK := hide K
   have him := fun W => ix_item g 0 (n + 12) (n + 12) i hlt W
   simp only [Nat.zero_add] at him
   have hI : (i : Int) < (n : Int) + 12 := by omega
   clear K
   go_wp2_with fail
   refine (markItem_any _ _ _).mono ?_
   rintro e w' ⟨rfl, hbm⟩
   have hg2 := grown_trans hg (below_grown (r := some g) hbm)
   obtain ⟨g2, cur, cur1, hbg, _, hcur, hset, hdone⟩ := (HK.out.keep hbm).set (mkI 2 i) (by rw [length_imk]; exact hlt)
   injection hbg with hbg
   subst hbg
   rw [length_imk] at hset
   have hst := hset w' (.inl hcur)
   have hg3 := grown_trans hg2 (grown_setRow w' g cur1)
   have hK' := hdone _ (setRow_heap w' g _ cur1 _ _ hcur)
   rw [← imk_snoc] at hK'
   have Hst := hide hst
   clear hg hg2 hset hdone hcur hst HK hbm
   go_wp2_with (refine wpList_storeI rfl _ _ rfl g (i * 4) (mkI 2 i) cur1 rfl rfl Hst.out ?_)
   go_wp2
   go_roundw
   case rel => exact ⟨i + 1, by omega, by go_num, hK', hg3⟩
   case measure => simp [intOf]; omega
  ·have hI : ¬ (i : Int) < (n : Int) + 12 := by omega
   clear K
   go_wp2
   go_end0
   exact ⟨rfl, hg⟩
end Go.Proofs.YtaieiogmolaebaaGreatDoor
namespace Go.Proofs.YtaieiogmolaebaaGreatDoor
open Go.RowKit
theorem neq_of {r : Result Bool} {b : Bool} {w : World} (h : (r.andThen fun b w' => .ok (.bool b) w') = Result.ok (Value.bool b) w) : (r.andThen fun b w' => .ok (.bool (!b)) w') = Result.ok (Value.bool (!b)) w := by
 cases r with
 | ok b2 w2 =>
  simp only [Result.andThen, Result.ok.injEq, Value.bool.injEq] at h ⊢
  exact ⟨by rw [h.1], h.2⟩
 | halt s => cases h
theorem run_neqI (x y : It) (w : World) : (binOp .neq 36 (itV x) (itV y)).run Tryz.prog w = .ok (.bool (!eqI x y)) w := by
 have h := run_eqI x y w
 unfold itV at *
 rw [run_eql_struct] at h
 rw [run_neq_struct]
 exact neq_of h
section
variable {K : Value → World → Prop} {u : Nat → Value} {o : Oper} {w : World}
theorem upon_neqI_same (x y : Operand) (a : It) (h : o.op = .binOp .neq 36 x y 36) (hx : evU u x = itV a) (hy : evU u y = itV a) (hk : K (.bool false) w) : uponU K Tryz.prog ((execOp (evU u) o).run Tryz.prog w) := by
 refine upon_val _ ?_ hk
 have hr := run_neqI a a w
 rw [eqI_same] at hr
 have hg : (eqGuard .neq 36 x y (itV a) (itV a)).run Tryz.prog w = .ok () w := eqItem.2 .neq x y a a w
 unfold execOp
 simp only [h, hx, hy]
 simp [go_sem, hr, hg]
end
set_option maxRecDepth 100000 in
set_option maxHeartbeats 2000000 in
theorem same_any (a b : Option Addr) (n ac bc : Nat) (l : List It) (w : World) (h1 : RdI w a l) (h2 : RdI w b l) (hn : n = l.length) (hle : n ≤ 1000000) :
  Calls Tryz.prog 11 #[.slice a n ac, .slice b n bc] w fun e w' => e = .returned (.bool true) ∧ Below w.heap.size w w' := by
 have H1 := hide h1
 have H2 := hide h2
 have Hn := hide hn
 clear h1 h2 hn
 go_enter Tryz.func11, Tryz.ntmps11
 go_wp2_with fail
 go_loopw [5] (fun iv W => ∃ k : Nat, k ≤ n ∧ iv = .int .i64 k ∧ Below w.heap.size w W) (fun iv _ => n - (intOf iv).toNat)
 case atStart => exact ⟨0, Nat.zero_le _, rfl, Below.refl _ _⟩
 case round =>
  obtain ⟨k, hk, rfl, hB⟩ := hrel
  by_cases hlt : k < n
  ·have hI : (k : Int) < (n : Int) := by omega
   have hwk : wrap64 ((k : Int) + 1) = (k : Int) + 1 := by unfold wrap64; omega
   obtain ⟨y, hy⟩ : ∃ y, l[k]? = some y := ⟨_, List.getElem?_eq_getElem (by have := Hn.out; omega)⟩
   obtain ⟨ab, ao, ae, p0, p1, p2, p3⟩ := (H1.out.keep hB).at k y hy
   obtain ⟨bb, bo, be, q0, q1, q2, q3⟩ := (H2.out.keep hB).at k y hy
   subst ae be
   have hix1 := ix_item ab ao n ac k hlt
   have hix2 := ix_item bb bo n bc k hlt
   obtain ⟨yk, ya, yt, yd⟩ := y
   dsimp only at p0 p1 p2 p3 q0 q1 q2 q3
   clear hy
   obtain ⟨W0, rfl⟩ : ∃ W0, W0 = wr := ⟨_, rfl⟩
   go_wp2_with fail
   refine wp_region_facts (R := RB W0.heap.size (⟨#[]⟩) (0)) [eqF _ _ _ 17 (.slice (some ⟨ab, ao, none⟩) n ac), eqF _ _ _ 18 (.int .i64 k), eqF _ _ _ 19 (.pointer (some ⟨ab, ao + k * 4, none⟩)), eqF _ _ _ 20 (.agg #[.int .u8 yk, .int .i64 ya, .string yt, .int .i64 yd]), eqF _ _ _ 21 (.slice (some ⟨bb, bo, none⟩) n bc), eqF _ _ _ 22 (.int .i64 k), eqF _ _ _ 23 (.pointer (some ⟨bb, bo + k * 4, none⟩)), eqF _ _ _ 24 (.agg #[.int .u8 yk, .int .i64 ya, .string yt, .int .i64 yd]), eqF _ _ _ 25 (.bool false)] (by kernel_rfl) (by kernel_rfl) (by kernel_rfl) (RB.refl (Nat.le_refl _)) (fun _ h => h.again) (fun _ _ _ h k => h.trans k) ?_ ?_
   ·refine stepsU_cons rfl ?_ (stepsU_cons rfl ?_ (stepsU_cons rfl ?_ (stepsU_cons rfl ?_ (stepsU_cons rfl ?_ (stepsU_cons rfl ?_ (stepsU_cons rfl ?_ (stepsU_cons rfl ?_ (stepsU_cons rfl ?_ (stepsU_nil)))))))))
    ·refine stepU_plain rfl fun u wr hR hK hD => ?_; exact upon_move _ _ rfl (hK 0 rfl) ⟨hR.again, rfl⟩
    ·refine stepU_plain rfl fun u wr hR hK hD => ?_; exact upon_move _ _ rfl (hK 5 rfl) ⟨hR.again, rfl⟩
    ·refine stepU_plain rfl fun u wr hR hK hD => ?_; have z : u 17 = _ := (hD 0 rfl); have z2 : u 18 = _ := (hD 1 rfl); exact upon_val _ (by unfold execOp; simp [go_sem, evU, z, z2, hix1]) ⟨hR.again, rfl⟩
    ·refine stepU_plain rfl fun u wr hR hK hD => ?_; exact upon_loadAt _ ab (ao + k * 4) _ _ _ _ rfl (hD 2 rfl) (cell_keep hR.be p0) (cell_keep hR.be p1) (cell_keep hR.be p2) (cell_keep hR.be p3) ⟨hR.again, rfl⟩
    ·refine stepU_plain rfl fun u wr hR hK hD => ?_; exact upon_move _ _ rfl (hK 1 rfl) ⟨hR.again, rfl⟩
    ·refine stepU_plain rfl fun u wr hR hK hD => ?_; exact upon_move _ _ rfl (hK 5 rfl) ⟨hR.again, rfl⟩
    ·refine stepU_plain rfl fun u wr hR hK hD => ?_; have z : u 21 = _ := (hD 4 rfl); have z2 : u 22 = _ := (hD 5 rfl); exact upon_val _ (by unfold execOp; simp [go_sem, evU, z, z2, hix2]) ⟨hR.again, rfl⟩
    ·refine stepU_plain rfl fun u wr hR hK hD => ?_; exact upon_loadAt _ bb (bo + k * 4) _ _ _ _ rfl (hD 6 rfl) (cell_keep hR.be q0) (cell_keep hR.be q1) (cell_keep hR.be q2) (cell_keep hR.be q3) ⟨hR.again, rfl⟩
    ·refine stepU_plain rfl fun u wr hR hK hD => ?_; exact upon_neqI_same _ _ ⟨yk, ya, yt, yd⟩ rfl (hD 3 rfl) (hD 7 rfl) ⟨hR.again, rfl⟩
   intro u w5 hR hF
   have e17 : u 17 = .slice (some ⟨ab, ao, none⟩) n ac := hF 0 (by decide)
   have e18 : u 18 = .int .i64 k := hF 1 (by decide)
   have e19 : u 19 = .pointer (some ⟨ab, ao + k * 4, none⟩) := hF 2 (by decide)
   have e20 : u 20 = .agg #[.int .u8 yk, .int .i64 ya, .string yt, .int .i64 yd] := hF 3 (by decide)
   have e21 : u 21 = .slice (some ⟨bb, bo, none⟩) n bc := hF 4 (by decide)
   have e22 : u 22 = .int .i64 k := hF 5 (by decide)
   have e23 : u 23 = .pointer (some ⟨bb, bo + k * 4, none⟩) := hF 6 (by decide)
   have e24 : u 24 = .agg #[.int .u8 yk, .int .i64 ya, .string yt, .int .i64 yd] := hF 7 (by decide)
   have e25 : u 25 = .bool false := hF 8 (by decide)
   simp only [finU, Act.put, List.setIfInBounds_toArray, List.set_cons_succ, List.set_cons_zero, e17, e18, e19, e20, e21, e22, e23, e24, e25]
   clear hF e17 e18 e19 e20 e21 e22 e23 e24 e25
   have hB2 : Below w.heap.size w w5 := chain hB.drew hB.size hR.be
   have hb_w5 : Below W0.heap.size W0 w5 := ⟨hR.be.os, hR.be.tape, hR.be.output, hR.be.size, hR.be.block⟩
   clear hB hR
   have hB := hB2
   clear hB2
   clear p0 p1 p2 p3 q0 q1 q2 q3 hix1 hix2
   go_wp2
   go_roundw
   case rel => exact ⟨k + 1, by omega, by simp, hB⟩
   case measure => simp [intOf]; omega
  ·have hI : ¬ (k : Int) < (n : Int) := by omega
   go_wp2
   go_ret
   exact ⟨rfl, hB⟩
end Go.Proofs.YtaieiogmolaebaaGreatDoor
