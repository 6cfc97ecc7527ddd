/- Items alone, in blocks of their own (str, whole, truth); texts put together (joined). -/
import Derived.Test.YtmnmnnocgimcpaaGreatDoorHk
import Derived.Test.YtmnmnnocgimcpaaGreatDoorWj
namespace Go.Proofs.YtmnmnnocgimcpaaGreatDoor
open Go.RowKit
/-- what a function hands out: items in a row of its own, or none, and what it says -/
def Res (w : World) (L : List It) (E : Int) : Ending → World → Prop := fun e w' => ∃ v, e = .returned (.tuple #[v, .int .i64 E]) ∧ OwI w' w.heap.size v L ∧ Below w.heap.size w w'
theorem OwI.nil (w : World) (B : Nat) : OwI w B (.slice none 0 0) [] := ow_nil w B _ _
theorem OwI.keep {w w' : World} {B : Nat} {v : Value} {l : List It} (h : OwI w B v l) (hb : Below w.heap.size w w') : OwI w' B v l := ow_keep h hb
theorem OwI.mono {w : World} {B B' : Nat} {v : Value} {l : List It} (h : OwI w B v l) (hB : B' ≤ B) : OwI w B' v l := ow_mono h hB
theorem OwI.one (w : World) (B : Nat) (hB : B ≤ w.heap.size) (x : It) : OwI (w.alloc (.cells #[.int .u8 x.kind, .int .i64 x.num, .string x.text, .int .i64 x.node] 37)) B (.slice (some ⟨w.heap.size, 0, none⟩) 1 1) [x] :=
  ⟨rfl, .inr ⟨w.heap.size, 1, #[.int .u8 x.kind, .int .i64 x.num, .string x.text, .int .i64 x.node], rfl, hB, heap_alloc_new _ _, Nat.le_refl _, by decide, rfl, rfl⟩⟩
set_option maxRecDepth 100000 in
set_option maxHeartbeats 1000000 in
theorem vwhole_own (n : Int) (w : World) : Calls Tryz.prog 32 #[.int .i64 n] w fun e w' => ∃ v, e = .returned v ∧ OwI w' w.heap.size v [⟨2, n, ⟨#[]⟩, 0⟩] ∧ Below w.heap.size w w' := by
  have hk := (Below.refl w.heap.size w).alloc (Nat.le_refl _) (.cells #[.int .u8 2, .int .i64 n, .string ⟨#[]⟩, .int .i64 0] 37)
  have hr := OwI.one w w.heap.size (Nat.le_refl _) ⟨2, n, ⟨#[]⟩, 0⟩
  go_enter Tryz.func32, Tryz.ntmps32
  go_wp2
  go_ret
  exact ⟨_, rfl, hr, hk⟩
set_option maxRecDepth 100000 in
set_option maxHeartbeats 1000000 in
theorem vstr_own (s : ByteArray) (w : World) : Calls Tryz.prog 77 #[.string s] w fun e w' => ∃ v, e = .returned v ∧ OwI w' w.heap.size v [⟨3, 0, s, 0⟩] ∧ Below w.heap.size w w' := by
  have hk := (Below.refl w.heap.size w).alloc (Nat.le_refl _) (.cells #[.int .u8 3, .int .i64 0, .string s, .int .i64 0] 37)
  have hr := OwI.one w w.heap.size (Nat.le_refl _) ⟨3, 0, s, 0⟩
  go_enter Tryz.func77, Tryz.ntmps77
  go_wp2
  go_ret
  exact ⟨_, rfl, hr, hk⟩
def bN (b : Bool) : Int := if b = true then 1 else 0
set_option maxRecDepth 100000 in
set_option maxHeartbeats 1000000 in
theorem vtruth_own (b : Bool) (w : World) : Calls Tryz.prog 34 #[.bool b] w fun e w' => ∃ v, e = .returned v ∧ OwI w' w.heap.size v [⟨4, bN b, ⟨#[]⟩, 0⟩] ∧ Below w.heap.size w w' := by
  cases b with
  | true =>
    have hk := ((Below.refl w.heap.size w).alloc (Nat.le_refl _) (.cells #[.int .u8 4, .int .i64 1, .string ⟨#[]⟩, .int .i64 0] 37)).alloc (by simp) (.cells #[.int .u8 4, .int .i64 1, .string ⟨#[]⟩, .int .i64 0] 37)
    have hr := OwI.one (w.alloc (.cells #[.int .u8 4, .int .i64 1, .string ⟨#[]⟩, .int .i64 0] 37)) w.heap.size (by simp) ⟨4, 1, ⟨#[]⟩, 0⟩
    go_enter Tryz.func34, Tryz.ntmps34
    go_wp2
    go_ret
    refine ⟨_, rfl, ?_, ?_⟩
    · simpa [bN] using hr
    · simpa using hk
  | false =>
    have hk := ((Below.refl w.heap.size w).alloc (Nat.le_refl _) (.cells #[.int .u8 4, .int .i64 0, .string ⟨#[]⟩, .int .i64 0] 37)).alloc (by simp) (.cells #[.int .u8 4, .int .i64 0, .string ⟨#[]⟩, .int .i64 0] 37)
    have hr := OwI.one (w.alloc (.cells #[.int .u8 4, .int .i64 0, .string ⟨#[]⟩, .int .i64 0] 37)) w.heap.size (by simp) ⟨4, 0, ⟨#[]⟩, 0⟩
    go_enter Tryz.func34, Tryz.ntmps34
    go_wp2
    go_ret
    refine ⟨_, rfl, ?_, ?_⟩
    · simpa [bN] using hr
    · simpa using hk
/-- texts put together -/
def joinB (sep : ByteArray) (xs : List ByteArray) : ByteArray := ⟨(Lib.join (xs.map (·.data.toList)) sep.data.toList).toArray⟩
def joinR (sep : ByteArray) (xs : List ByteArray) : List It × Int := if 65536 < (joinB sep xs).size then ([], 3) else ([⟨3, 0, joinB sep xs, 0⟩], 0)
def szS (sep : ByteArray) : List ByteArray → Nat
  | [] => 0
  | x :: r => sep.size + x.size + szS sep r
theorem szS_app (sep : ByteArray) : ∀ xs ys : List ByteArray, szS sep (xs ++ ys) = szS sep xs + szS sep ys
  | [], ys => by simp [szS]
  | x :: r, ys => by simp only [List.cons_append, szS, szS_app sep r ys]; omega
theorem szS_take (sep : ByteArray) (xs : List ByteArray) (k : Nat) (x : ByteArray) (h : xs[k]? = some x) : szS sep (xs.take (k + 1)) = szS sep (xs.take k) + (sep.size + x.size) := by
  rw [List.take_add_one, h, szS_app]; simp [szS]
theorem szS_le (sep : ByteArray) (xs : List ByteArray) (k : Nat) : szS sep (xs.take k) ≤ szS sep xs := by
  have h := szS_app sep (xs.take k) (xs.drop k)
  rw [List.take_append_drop] at h
  omega
theorem join_size (sep : ByteArray) : ∀ xs : List ByteArray, xs ≠ [] → (joinB sep xs).size + sep.size = szS sep xs
  | [], h => absurd rfl h
  | [x], _ => by
    show (List.intercalate sep.data.toList [x.data.toList]).toArray.size + sep.size = _
    have : x.data.toList.length = x.size := Array.length_toList
    simp [List.intercalate, szS]; omega
  | x :: y :: r, _ => by
    have ih := join_size sep (y :: r) (by simp)
    have h1 : (joinB sep (x :: y :: r)).size = x.size + sep.size + (joinB sep (y :: r)).size := by
      show (List.intercalate sep.data.toList (x.data.toList :: y.data.toList :: r.map (·.data.toList))).toArray.size = x.size + sep.size + (List.intercalate sep.data.toList (y.data.toList :: r.map (·.data.toList))).toArray.size
      rw [List.intercalate_cons_cons]
      have e1 : x.data.toList.length = x.size := Array.length_toList
      have e2 : sep.data.toList.length = sep.size := Array.length_toList
      simp only [List.size_toArray, List.length_append, e1, e2]
    rw [h1]
    have : szS sep (x :: y :: r) = sep.size + x.size + szS sep (y :: r) := rfl
    omega
theorem ix_str (b off n c k : Nat) (h : k < n) (W : World) : (Instr.indexAt 54 (.slice (some ⟨b, off, none⟩) n c) (.int .i64 k)).run Tryz.prog W = .ok (.pointer (some ⟨b, off + k, none⟩)) W := by
  have e : (Tryz.prog.info? 9).map (fun i => (i.zero, i.size, i.bytes)) = some (some (.string ⟨#[]⟩), 1, 16) := by kernel_rfl
  obtain ⟨j0, hj, _, hj1, _⟩ := info_parts e
  have := run_ix Tryz.underlying54 hj hj1 b off n c k k rfl h W
  rwa [Nat.mul_one] at this
set_option maxRecDepth 100000 in
set_option maxHeartbeats 4000000 in
theorem joined_any (sep : ByteArray) (p : Option Addr) (n c : Nat) (xs : List ByteArray) (w : World) (hr : Rd w p (xs.map Value.string)) (hn : n = xs.length) (hc : n ≤ c) (hnm : n ≤ 140737488355328) (hz : ∀ x ∈ xs, x.size ≤ 140737488355328) (hs : sep.size ≤ 140737488355328)
    (hp : (p = none ∧ c = 0) ∨ ∃ b off, p = some ⟨b, off, none⟩ ∧ b < w.heap.size) :
    Calls Tryz.prog 31 #[.string sep, .slice p n c] w (Res w (joinR sep xs).1 (joinR sep xs).2) := by
  have Hr := hide hr
  have Hn := hide hn
  have Hc := hide hc
  have Hz := hide hz
  have Hp := hide hp
  have Hnm := hide hnm
  clear hr hn hc hz hp
  go_enter Tryz.func31, Tryz.ntmps31
  go_wp2_with fail
  go_loopw [6, 14] (fun v i W => ∃ (S k : Nat), k ≤ n ∧ v = .int .i64 ((S : Int) - sep.size) ∧ i = .int .i64 k ∧ Hid (S = szS sep (xs.take k)) ∧ (S = 0 ∨ S ≤ 65536 + sep.size) ∧ w = W) (fun _ i _ => n - (intOf i).toNat)
  case atStart => exact ⟨0, 0, Nat.zero_le _, by simp, rfl, hide rfl, .inl rfl, rfl⟩
  case round =>
    obtain ⟨S, k, hk, rfl, rfl, HS, hSle, rfl⟩ := hrel
    by_cases hlt : k < n
    · have hI : (k : Int) < (n : Int) := by omega
      obtain ⟨x, hx⟩ : ∃ x, xs[k]? = some x := ⟨_, List.getElem?_eq_getElem (by have := Hn.out; omega)⟩
      obtain ⟨b, off, rfl, hcell⟩ := Hr.out.cellAt k (.string x) (by simp [hx])
      have hix := ix_str b off n c k hlt
      have hxz := Hz.out x (List.mem_of_getElem? hx)
      have HS2 := hide (szS_take sep xs k x hx)
      have HSl := hide (szS_le sep xs (k + 1))
      have Hne : Hid (xs ≠ []) := by show xs ≠ []; intro e; subst e; simp at hx
      clear hx
      by_cases hbig : 65536 + sep.size < S + (sep.size + x.size)
      · have hg : (65536 : Int) < (S : Int) - sep.size + (sep.size + x.size) := by omega
        have HR : Hid (joinR sep xs = ([], 3)) := by
          show _ = _
          unfold joinR
          rw [if_pos]
          have h1 := join_size sep xs Hne.out
          have h2 := HS2.out
          have h3 := HSl.out
          have h4 := HS.out
          omega
        clear hbig
        go_wp2
        go_ret2
        exact ⟨.slice none 0 0, by rw [HR.out]; rfl, by rw [HR.out]; exact OwI.nil _ _, Below.refl _ _⟩
      · have hg : ¬ (65536 : Int) < (S : Int) - sep.size + (sep.size + x.size) := by omega
        have Hle2 := hide (Nat.le_of_not_lt hbig)
        clear hbig
        go_wp2
        go_roundw
        case rel => exact ⟨S + (sep.size + x.size), k + 1, by omega, by simp; omega, by simp, hide (by show _ = _; rw [HS2.out, ← HS.out]), .inr Hle2.out, by trivial⟩
        case measure => simp [intOf]; omega
    · have hI : ¬ (k : Int) < (n : Int) := by omega
      have hall : xs.take k = xs := List.take_of_length_le (by have := Hn.out; omega)
      have HR : Hid (joinR sep xs = ([⟨3, 0, joinB sep xs, 0⟩], 0) ∧ (joinB sep xs).size ≤ 65536) := by
        show _ ∧ _
        have hsm : (joinB sep xs).size ≤ 65536 := by
          by_cases h0 : xs = []
          · subst h0
            show (List.intercalate sep.data.toList []).toArray.size ≤ 65536
            simp [List.intercalate]
          · have h1 := join_size sep xs h0
            have h4 := HS.out
            rw [hall] at h4
            omega
        refine ⟨?_, hsm⟩
        unfold joinR
        rw [if_neg (by omega)]
      have Hjl : Hid ((Lib.join (xs.map (·.data.toList)) sep.data.toList).length ≤ 140737488355328) := by
        show _ ≤ _
        have := HR.out.2
        unfold joinB at this
        rw [show (ByteArray.mk (Lib.join (xs.map (·.data.toList)) sep.data.toList).toArray).size = (Lib.join (xs.map (·.data.toList)) sep.data.toList).length from List.size_toArray] at this
        omega
      clear hall HS hSle
      rcases Hp.out with ⟨rfl, rfl⟩ | ⟨b, off, rfl, hlt2⟩
      · have hn0 : n = 0 := by have := Hc.out; omega
        subst hn0
        have hx0 : xs = [] := List.length_eq_zero_iff.1 Hn.out.symm
        subst hx0
        go_wp2_with fail
        refine (Tryz.strings_Join_none none 0 sep _).mono ?_
        rintro e w1 ⟨rfl, rfl⟩
        go_wp2_with fail
        refine (vstr_own _ _).mono ?_
        rintro e w2 ⟨v, rfl, ho2, hb2⟩
        have Ho2 := hide ho2
        clear ho2
        go_wp2
        go_ret2
        exact ⟨v, by rw [HR.out.1]; rfl, by rw [HR.out.1]; exact Ho2.out, hb2⟩
      · have Hlt2 := hide hlt2
        have hnx : n = xs.length := Hn.out
        clear hlt2 hlt hk
        subst hnx
        go_wp2_with fail
        refine (Tryz.strings_Join b off c xs sep _ ?j1 Hlt2.out Hnm.out Hc.out Hjl.out).mono ?_
        case j1 =>
          intro j x hx
          obtain ⟨b2, off2, e, hcell⟩ := Hr.out.cellAt j (.string x) (by simp [hx])
          injection e with e
          injection e with e1 e2
          subst e1 e2
          exact hcell
        rintro e w1 ⟨rfl, hb1⟩
        have hj : (⟨(Lib.join (xs.map (·.data.toList)) sep.data.toList).toArray⟩ : ByteArray) = joinB sep xs := rfl
        rw [hj]
        clear hj
        generalize joinB sep xs = jb at *
        go_wp2_with fail
        refine (vstr_own _ _).mono ?_
        rintro e w2 ⟨v, rfl, ho2, hb2⟩
        have Ho2 := hide (ho2.mono hb1.size)
        have hB2 := chain0 hb1 hb2
        clear ho2 hb1 hb2
        go_wp2
        go_ret2
        exact ⟨v, by rw [HR.out.1]; rfl, by rw [HR.out.1]; exact Ho2.out, hB2⟩
end Go.Proofs.YtmnmnnocgimcpaaGreatDoor
