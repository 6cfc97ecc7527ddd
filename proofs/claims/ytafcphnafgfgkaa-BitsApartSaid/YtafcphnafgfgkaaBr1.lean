/- Contracts of the reference of layer 2: Right, At, And, Compare, Begins. -/
import Derived.Test.YtafcphnafgfgkaaBrc
import Derived.Test.YtafcphnafgfgkaaAp
namespace Go.Proofs.Ytafcphnafgfgkaa
open Go.RowKit Bm
set_option maxRecDepth 100000 in
set_option maxHeartbeats 400000 in
theorem right_gen (l : List Bool) (s : ByteArray) (w : World) (hz1 : s.size ≤ 1048576) (hle : l.length ≤ s.size)
    (hget : ∀ (k : Nat) (h : k < s.size), k < l.length → s[k]'h = if l.getD k false then 49 else 48)
    (hbad : ∀ (h : l.length < s.size), s[l.length]'h ≠ 48 ∧ s[l.length]'h ≠ 49) :
    Calls Try.prog 26 #[.string s] w fun e w' => e = .returned (.bool (decide (s.size = l.length))) ∧ w = w' := by
  have Hg := hide hget
  have Hb := hide hbad
  clear hget hbad
  go_enter Try.func26, Try.ntmps26
  go_wp2_with fail
  go_loop [3] (fun x => ∃ k : Nat, k ≤ l.length ∧ x = .int .i64 k) (fun x => s.size - (intOf x).toNat)
  case atStart => exact ⟨0, Nat.zero_le _, rfl⟩
  case round =>
    obtain ⟨k, hk, rfl⟩ := hrel
    by_cases hlt : k < s.size
    · by_cases hkl : k < l.length
      · have hgk := Hg.out k hlt hkl
        by_cases hbit : l.getD k false = true
        · rw [if_pos hbit] at hgk
          have h1 : (((s[k]'hlt).toNat : Int) != 48) = true := by rw [hgk]; decide
          have h2 : (((s[k]'hlt).toNat : Int) != 49) = false := by rw [hgk]; decide
          clear hgk hbit
          go_wp2
          go_round
          case rel => exact ⟨k + 1, by omega, by go_num⟩
          case measure => simp [intOf]; omega
        · rw [if_neg hbit] at hgk
          have h1 : (((s[k]'hlt).toNat : Int) != 48) = false := by rw [hgk]; decide
          clear hgk hbit
          go_wp2
          go_round
          case rel => exact ⟨k + 1, by omega, by go_num⟩
          case measure => simp [intOf]; omega
      · have hk' : l.length = k := by omega
        obtain ⟨x, hx⟩ : ∃ x, x = s[k]'hlt := ⟨_, rfl⟩
        have hbd : x ≠ 48 ∧ x ≠ 49 := by
          subst hk'
          rw [hx]; exact Hb.out hlt
        have h1 : (((s[k]'hlt).toNat : Int) != 48) = true := by
          rw [bne_iff_ne, ← hx]; intro e; exact hbd.1 (UInt8.toNat_inj.1 (by have : (48 : UInt8).toNat = 48 := rfl; omega))
        have h2 : (((s[k]'hlt).toNat : Int) != 49) = true := by
          rw [bne_iff_ne, ← hx]; intro e; exact hbd.2 (UInt8.toNat_inj.1 (by have : (49 : UInt8).toNat = 49 := rfl; omega))
        have hfin : Hid (decide (s.size = l.length) = false) := by show decide (s.size = l.length) = false; simp; omega
        clear hx hbd hk'
        go_wp2
        go_ret
        exact ⟨ret_bool hfin.out.symm, rfl⟩
    · have hfin : Hid (decide (s.size = l.length) = true) := by show decide (s.size = l.length) = true; simp; omega
      have h20 : decide ((s.size : Int) ≤ 1048576) = true := decide_eq_true (by omega)
      go_wp2
      go_ret
      exact ⟨ret_bool (by rw [hfin.out]), rfl⟩
theorem bit_sub (b : Bool) : ((((if b then 49 else 48 : UInt8).toNat : Nat) : Int) - 48) % 256 = (bv b : Int) := by cases b <;> decide
set_option maxRecDepth 100000 in
set_option maxHeartbeats 400000 in
theorem rat_any (l : List Bool) (i : Int) (w : World) (hn : l.length ≤ 1048576) :
    Calls Try.prog 28 #[.string (txS l), .int .i64 i] w fun e w' => e = .returned (.int .i64 (atZ l i)) ∧ w = w' := by
  have hsz := size_txS l
  have hget := txS_get l
  generalize txS l = s at *
  have Hg := hide hget
  have Hz := hide hsz
  have hm : (s.size : Int) ≤ 1048576 := by omega
  by_cases h1 : i < 0
  · have hfin : Hid (atZ l i = -1) := by show atZ l i = -1; unfold atZ; rw [if_neg (by omega)]
    clear hget hsz hn
    go_enter Try.func28, Try.ntmps28
    go_wp2
    go_ret
    exact ⟨ret_int hfin.out.symm, rfl⟩
  · by_cases h2 : (s.size : Int) ≤ i
    · have h3 : 0 ≤ i := by omega
      have hfin : Hid (atZ l i = -1) := by show atZ l i = -1; unfold atZ; rw [if_neg (by omega)]
      clear hget hsz hn h1
      go_enter Try.func28, Try.ntmps28
      go_wp2
      go_ret
      exact ⟨ret_int hfin.out.symm, rfl⟩
    · obtain ⟨k, rfl⟩ := Int.eq_ofNat_of_zero_le (show 0 ≤ i by omega)
      have hk : k < s.size := by omega
      have hfin : Hid (atZ l (k : Int) = bv (l.getD k false)) := by show atZ l (k : Int) = bv (l.getD k false); unfold atZ; rw [if_pos (by omega), Int.toNat_natCast]
      have hbs := bit_sub (l.getD k false)
      rw [← hget k hk] at hbs
      have Hbs := hide hbs
      clear hget hsz hn h1 h2 hbs
      go_enter Try.func28, Try.ntmps28
      go_wp2
      go_ret
      exact ⟨ret_int (Hbs.out.trans hfin.out.symm), rfl⟩
set_option maxRecDepth 100000 in
set_option maxHeartbeats 400000 in
theorem rand_any (l m : List Bool) (w : World) (hl : l.length ≤ 1048576) (hm : m.length ≤ 1048576) :
    Calls Try.prog 29 #[.string (txS l), .string (txS m)] w fun e w' => e = .returned (.string (txS (if l.length + m.length ≤ 1048576 then l ++ m else []))) ∧ w = w' := by
  have hz1 := size_txS l
  have hz2 := size_txS m
  have happ := txS_append l m
  by_cases h : l.length + m.length ≤ 1048576
  · rw [if_pos h, ← happ]
    generalize txS l = s at *
    generalize txS m = t at *
    have h1 : (s.size : Int) + t.size ≤ 1048576 := by omega
    clear hz1 hz2 happ h hl hm
    go_enter Try.func29, Try.ntmps29
    go_wp2
    go_ret
    exact ⟨rfl, rfl⟩
  · rw [if_neg h]
    generalize txS l = s at *
    generalize txS m = t at *
    have h1 : 1048576 < (s.size : Int) + t.size := by omega
    have h2 : (s.size : Int) ≤ 1048576 := by omega
    have h3 : (t.size : Int) ≤ 1048576 := by omega
    clear hz1 hz2 happ h hl hm
    go_enter Try.func29, Try.ntmps29
    go_wp2
    go_ret
    exact ⟨rfl, rfl⟩
theorem txS_take (l : List Bool) (n : Nat) : (txS l).extract 0 n = txS (l.take n) := by
  have : ((txS l).extract 0 n).data = (txS (l.take n)).data := by
    rw [ByteArray.data_extract]
    simp [txS, tx, List.map_take, List.extract_eq_take_drop]
  cases h1 : (txS l).extract 0 n
  cases h2 : txS (l.take n)
  rw [h1, h2] at this
  simpa using this
set_option maxRecDepth 100000 in
set_option maxHeartbeats 400000 in
theorem rbegins_any (l m : List Bool) (w : World) (hl : l.length ≤ 1048576) (hm : m.length ≤ 1048576) :
    Calls Try.prog 34 #[.string (txS l), .string (txS m)] w fun e w' => e = .returned (.bool (decide (l.take m.length = m))) ∧ w = w' := by
  have hz1 := size_txS l
  have hz2 := size_txS m
  have htk := txS_take l m.length
  have hinj := fun h => txS_inj (l.take m.length) m h
  rw [← htk] at hinj
  have hrev : l.take m.length = m → (txS l).extract 0 (txS m).size = txS m := by intro h; rw [hz2, htk, h]
  generalize txS l = s at *
  generalize txS m = t at *
  have hs1 : (s.size : Int) ≤ 1048576 := by omega
  have hs2 : (t.size : Int) ≤ 1048576 := by omega
  by_cases h : t.size ≤ s.size
  · have heq : ((s.extract 0 t.size).toList == t.toList) = decide (l.take m.length = m) := by
      rw [Bool.eq_iff_iff, beq_iff_eq, decide_eq_true_iff]
      constructor
      · intro h
        rw [Lib.toList_data, Lib.toList_data, hz2] at h
        apply hinj
        cases h1 : s.extract 0 m.length
        cases h2 : t
        rw [h1, h2] at h
        simpa using h
      · intro h; rw [hrev h]
    have Heq := hide heq
    have h' : (t.size : Int) ≤ s.size := by omega
    clear hz1 hz2 htk hinj hrev heq hl hm
    go_enter Try.func34, Try.ntmps34
    go_wp2
    go_ret
    exact ⟨ret_bool Heq.out, rfl⟩
  · have hne : Hid (decide (l.take m.length = m) = false) := by
      show decide (l.take m.length = m) = false
      rw [decide_eq_false_iff_not]
      intro e
      have : (l.take m.length).length = m.length := by rw [e]
      simp at this; omega
    have h' : (s.size : Int) < t.size := by omega
    clear hz1 hz2 htk hinj hrev hl hm h
    go_enter Try.func34, Try.ntmps34
    go_wp2
    go_ret
    exact ⟨ret_bool hne.out.symm, rfl⟩
end Go.Proofs.Ytafcphnafgfgkaa
