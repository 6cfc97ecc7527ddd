/- Contracts of the reference of layer 2: Right, At, And, Compare, Begins. -/
import Derived.Test.YtafcphnafgfgkaaBw1
import Derived.Test.YtafcphnafgfgkaaAp
namespace Go.Proofs.Ytafcphnafgfgkaa
open Go.RowKit Bm
set_option maxRecDepth 100000 in
set_option maxHeartbeats 400000 in
theorem right_gen (l : List Bool) (s : ByteArray) (w : World) (hz1 : s.size ≤ 1048576) (hle : l.length ≤ s.size)
    (hget : ∀ (k : Nat) (h : k < s.size), k < l.length → s[k]'h = if l.getD k false then 49 else 48)
    (hbad : ∀ (h : l.length < s.size), s[l.length]'h ≠ 48 ∧ s[l.length]'h ≠ 49) :
    Calls Try.prog 26 #[.string s] w fun e w' => e = .returned (.bool (decide (s.size = l.length))) ∧ w = w' := by
  have Hg := hide hget
  have Hb := hide hbad
  clear hget hbad
  go_enter Try.func26, Try.ntmps26
  go_wp2_with fail
  go_loop [3] (fun x => ∃ k : Nat, k ≤ l.length ∧ x = .int .i64 k) (fun x => s.size - (intOf x).toNat)
  case atStart => exact ⟨0, Nat.zero_le _, rfl⟩
  case round =>
    obtain ⟨k, hk, rfl⟩ := hrel
    by_cases hlt : k < s.size
    · by_cases hkl : k < l.length
      · have hgk := Hg.out k hlt hkl
        by_cases hbit : l.getD k false = true
        · rw [if_pos hbit] at hgk
          have h1 : (((s[k]'hlt).toNat : Int) != 48) = true := by rw [hgk]; decide
          have h2 : (((s[k]'hlt).toNat : Int) != 49) = false := by rw [hgk]; decide
          clear hgk hbit
          go_wp2
          go_round
          case rel => exact ⟨k + 1, by omega, by go_num⟩
          case measure => simp [intOf]; omega
        · rw [if_neg hbit] at hgk
          have h1 : (((s[k]'hlt).toNat : Int) != 48) = false := by rw [hgk]; decide
          clear hgk hbit
          go_wp2
          go_round
          case rel => exact ⟨k + 1, by omega, by go_num⟩
          case measure => simp [intOf]; omega
      · have hk' : l.length = k := by omega
        obtain ⟨x, hx⟩ : ∃ x, x = s[k]'hlt := ⟨_, rfl⟩
        have hbd : x ≠ 48 ∧ x ≠ 49 := by
          subst hk'
          rw [hx]; exact Hb.out hlt
        have h1 : (((s[k]'hlt).toNat : Int) != 48) = true := by
          rw [bne_iff_ne, ← hx]; intro e; exact hbd.1 (UInt8.toNat_inj.1 (by have : (48 : UInt8).toNat = 48 := rfl; omega))
        have h2 : (((s[k]'hlt).toNat : Int) != 49) = true := by
          rw [bne_iff_ne, ← hx]; intro e; exact hbd.2 (UInt8.toNat_inj.1 (by have : (49 : UInt8).toNat = 49 := rfl; omega))
        have hfin : Hid (decide (s.size = l.length) = false) := by show decide (s.size = l.length) = false; simp; omega
        clear hx hbd hk'
        go_wp2
        go_ret
        exact ⟨ret_bool hfin.out.symm, rfl⟩
    · have hfin : Hid (decide (s.size = l.length) = true) := by show decide (s.size = l.length) = true; simp; omega
      have h20 : decide ((s.size : Int) ≤ 1048576) = true := decide_eq_true (by omega)
      go_wp2
      go_ret
      exact ⟨ret_bool (by rw [hfin.out]), rfl⟩
theorem bit_sub (b : Bool) : ((((if b then 49 else 48 : UInt8).toNat : Nat) : Int) - 48) % 256 = (bv b : Int) := by cases b <;> decide
set_option maxRecDepth 100000 in
set_option maxHeartbeats 400000 in
theorem rat_any (l : List Bool) (i : Int) (w : World) (hn : l.length ≤ 1048576) :
    Calls Try.prog 28 #[.string (txS l), .int .i64 i] w fun e w' => e = .returned (.int .i64 (atZ l i)) ∧ w = w' := by
  have hsz := size_txS l
  have hget := txS_get l
  generalize txS l = s at *
  have Hg := hide hget
  have Hz := hide hsz
  have hm : (s.size : Int) ≤ 1048576 := by omega
  by_cases h1 : i < 0
  · have hfin : Hid (atZ l i = -1) := by show atZ l i = -1; unfold atZ; rw [if_neg (by omega)]
    clear hget hsz hn
    go_enter Try.func28, Try.ntmps28
    go_wp2
    go_ret
    exact ⟨ret_int hfin.out.symm, rfl⟩
  · by_cases h2 : (s.size : Int) ≤ i
    · have h3 : 0 ≤ i := by omega
      have hfin : Hid (atZ l i = -1) := by show atZ l i = -1; unfold atZ; rw [if_neg (by omega)]
      clear hget hsz hn h1
      go_enter Try.func28, Try.ntmps28
      go_wp2
      go_ret
      exact ⟨ret_int hfin.out.symm, rfl⟩
    · obtain ⟨k, rfl⟩ := Int.eq_ofNat_of_zero_le (show 0 ≤ i by omega)
      have hk : k < s.size := by omega
      have hfin : Hid (atZ l (k : Int) = bv (l.getD k false)) := by show atZ l (k : Int) = bv (l.getD k false); unfold atZ; rw [if_pos (by omega), Int.toNat_natCast]
      have hbs := bit_sub (l.getD k false)
      rw [← hget k hk] at hbs
      have Hbs := hide hbs
      clear hget hsz hn h1 h2 hbs
      go_enter Try.func28, Try.ntmps28
      go_wp2
      go_ret
      exact ⟨ret_int (Hbs.out.trans hfin.out.symm), rfl⟩
set_option maxRecDepth 100000 in
set_option maxHeartbeats 400000 in
theorem rand_any (l m : List Bool) (w : World) (hl : l.length ≤ 1048576) (hm : m.length ≤ 1048576) :
    Calls Try.prog 29 #[.string (txS l), .string (txS m)] w fun e w' => e = .returned (.string (txS (if l.length + m.length ≤ 1048576 then l ++ m else []))) ∧ w = w' := by
  have hz1 := size_txS l
  have hz2 := size_txS m
  have happ := txS_append l m
  by_cases h : l.length + m.length ≤ 1048576
  · rw [if_pos h, ← happ]
    generalize txS l = s at *
    generalize txS m = t at *
    have h1 : (s.size : Int) + t.size ≤ 1048576 := by omega
    clear hz1 hz2 happ h hl hm
    go_enter Try.func29, Try.ntmps29
    go_wp2
    go_ret
    exact ⟨rfl, rfl⟩
  · rw [if_neg h]
    generalize txS l = s at *
    generalize txS m = t at *
    have h1 : 1048576 < (s.size : Int) + t.size := by omega
    have h2 : (s.size : Int) ≤ 1048576 := by omega
    have h3 : (t.size : Int) ≤ 1048576 := by omega
    clear hz1 hz2 happ h hl hm
    go_enter Try.func29, Try.ntmps29
    go_wp2
    go_ret
    exact ⟨rfl, rfl⟩
theorem drop_cons' (l : List Bool) (k : Nat) (h : k < l.length) : l.drop k = l.getD k false :: l.drop (k + 1) := by
  rw [List.drop_eq_getElem_cons h, List.getD_eq_getElem?_getD, List.getElem?_eq_getElem h]; rfl
theorem bit_lt (a b : Bool) : (((if a then 49 else 48 : UInt8).toNat : Int) < ((if b then 49 else 48 : UInt8).toNat : Int)) ↔ (a = false ∧ b = true) := by cases a <;> cases b <;> decide
set_option maxRecDepth 100000 in
set_option maxHeartbeats 400000 in
theorem rcmp_any (l m : List Bool) (w : World) (hl : l.length ≤ 1048576) (hm : m.length ≤ 1048576) :
    Calls Try.prog 32 #[.string (txS l), .string (txS m)] w fun e w' => e = .returned (.int .i64 (lexB l m)) ∧ Below w.heap.size w w' := by
  have hz1 := size_txS l
  have hz2 := size_txS m
  have hg1 := txS_get l
  have hg2 := txS_get m
  generalize txS l = s at *
  generalize txS m = t at *
  have hs1 : s.size ≤ 1048576 := by omega
  have hs2 : t.size ≤ 1048576 := by omega
  have Hz1 := hide hz1
  have Hz2 := hide hz2
  have Hg1 := hide hg1
  have Hg2 := hide hg2
  clear hz1 hz2 hg1 hg2
  go_enter Try.func32, Try.ntmps32
  go_wp2_with fail
  go_loopw [5] (fun x wr => ∃ k : Nat, k ≤ l.length ∧ k ≤ m.length ∧ x = .int .i64 k ∧ lexB l m = lexB (l.drop k) (m.drop k) ∧ Below w.heap.size w wr) (fun x _ => s.size - (intOf x).toNat)
  case atStart => exact ⟨0, Nat.zero_le _, Nat.zero_le _, rfl, rfl, Below.refl _ _⟩
  case round =>
    obtain ⟨k, hk1, hk2, rfl, hlex, hb⟩ := hrel
    have hb0 : ∀ n, Below w.heap.size w (wr.drewN n) := fun n => hb.trans ⟨rfl, rfl, rfl, Nat.le_refl _, fun _ _ => rfl⟩
    have Hlex := hide hlex
    clear hlex
    by_cases h1 : k < s.size
    · by_cases h2 : k < t.size
      · have h1' : k < l.length := by have := Hz1.out; omega
        have h2' : k < m.length := by have := Hz2.out; omega
        have hx := Hlex.out
        rw [drop_cons' l k h1', drop_cons' m k h2'] at hx
        have hlt := bit_lt (l.getD k false) (m.getD k false)
        have hgt := bit_lt (m.getD k false) (l.getD k false)
        rw [← Hg1.out k h1, ← Hg2.out k h2] at hlt hgt
        have hi1 : (k : Int) < s.size := by omega
        have hi2 : (k : Int) < t.size := by omega
        by_cases hab : l.getD k false = m.getD k false
        · have hx' : Hid (lexB l m = lexB (l.drop (k + 1)) (m.drop (k + 1))) := by show lexB l m = _; rw [hx, lexB, if_pos hab]
          have h3 : decide (((s[k]'h1).toNat : Int) < ((t[k]'h2).toNat : Int)) = false := by
            rw [decide_eq_false_iff_not, hlt, hab]; cases m.getD k false <;> simp
          have h4 : decide (((t[k]'h2).toNat : Int) < ((s[k]'h1).toNat : Int)) = false := by
            rw [decide_eq_false_iff_not, hgt, hab]; cases m.getD k false <;> simp
          have h3n : decide ((s[k]'h1).toNat < (t[k]'h2).toNat) = false := by
            rw [decide_eq_false_iff_not] at h3 ⊢; omega
          have h4n : decide ((t[k]'h2).toNat < (s[k]'h1).toNat) = false := by
            rw [decide_eq_false_iff_not] at h4 ⊢; omega
          clear hx hlt hgt hab h3 h4
          go_wp2_with fail
          go_quiet (fail)
          go_wp2_with fail
          go_quiet (fail)
          go_wp2
          go_roundw
          case rel => exact ⟨k + 1, by omega, by omega, by go_num, hx'.out, (by first | exact hb0 _ | (rw [World.drewN_drewN]; exact hb0 _))⟩
          case measure => simp [intOf]; omega
        · by_cases ha : l.getD k false = true
          · have hbf : m.getD k false = false := by
              cases h : m.getD k false
              · rfl
              · rw [ha, h] at hab; exact absurd rfl hab
            have hx' : Hid (lexB l m = 1) := by show lexB l m = _; rw [hx, lexB, if_neg hab, if_pos ha]
            have h3n : decide ((s[k]'h1).toNat < (t[k]'h2).toNat) = false := by
              rw [decide_eq_false_iff_not]; intro h
              have := hlt.1 (by omega)
              rw [ha] at this; simp at this
            have h4n : decide ((t[k]'h2).toNat < (s[k]'h1).toNat) = true := by
              rw [decide_eq_true_iff]
              have := hgt.2 ⟨hbf, ha⟩
              omega
            clear hx hlt hgt hab ha hbf
            go_wp2_with fail
            go_quiet (fail)
            go_wp2_with fail
            go_quiet (fail)
            go_wp2
            go_ret
            exact ⟨ret_int hx'.out.symm, (by first | exact hb0 _ | (rw [World.drewN_drewN]; exact hb0 _))⟩
          · have haf : l.getD k false = false := by simpa using ha
            have hbt : m.getD k false = true := by
              cases h : m.getD k false
              · rw [haf, h] at hab; exact absurd rfl hab
              · rfl
            have hx' : Hid (lexB l m = -1) := by show lexB l m = _; rw [hx, lexB, if_neg hab, if_neg ha]
            have h3n : decide ((s[k]'h1).toNat < (t[k]'h2).toNat) = true := by
              rw [decide_eq_true_iff]
              have := hlt.2 ⟨haf, hbt⟩
              omega
            clear hx hlt hgt hab ha haf hbt
            go_wp2_with fail
            go_quiet (fail)
            go_wp2
            go_ret
            exact ⟨ret_int hx'.out.symm, (by first | exact hb0 _ | (rw [World.drewN_drewN]; exact hb0 _))⟩
      · have hk' : k = m.length := by have := Hz2.out; omega
        have hx' : Hid (lexB l m = 1) := by
          have hx := Hlex.out
          show lexB l m = 1
          rw [hx, drop_cons' l k (by have := Hz1.out; omega), show m.drop k = [] from List.drop_eq_nil_of_le (by omega)]; rfl
        have hi1 : (k : Int) < s.size := by omega
        have hi3 : (t.size : Int) ≤ k := by omega
        have hi2 : ¬ (s.size : Int) < t.size := by omega
        have hi4 : (t.size : Int) < s.size := by omega
        clear hk'
        go_wp2
        go_ret
        exact ⟨ret_int hx'.out.symm, hb⟩
    · have hi1 : (s.size : Int) ≤ k := by omega
      by_cases h2 : s.size < t.size
      · have hx' : Hid (lexB l m = -1) := by
          have hx := Hlex.out
          show lexB l m = -1
          rw [hx, drop_cons' m k (by have := Hz1.out; have := Hz2.out; omega), show l.drop k = [] from List.drop_eq_nil_of_le (by have := Hz1.out; omega)]; rfl
        go_wp2
        go_ret
        exact ⟨ret_int hx'.out.symm, hb⟩
      · have hx' : Hid (lexB l m = 0) := by
          have hx := Hlex.out
          show lexB l m = 0
          rw [hx, show l.drop k = [] from List.drop_eq_nil_of_le (by have := Hz1.out; omega), show m.drop k = [] from List.drop_eq_nil_of_le (by have := Hz1.out; have := Hz2.out; omega)]; rfl
        have hi2 : ¬ (s.size : Int) < t.size := by omega
        have hi4 : ¬ (t.size : Int) < s.size := by have := Hz1.out; have := Hz2.out; omega
        go_wp2
        go_ret
        exact ⟨ret_int hx'.out.symm, hb⟩
theorem txS_take (l : List Bool) (n : Nat) : (txS l).extract 0 n = txS (l.take n) := by
  have : ((txS l).extract 0 n).data = (txS (l.take n)).data := by
    rw [ByteArray.data_extract]
    simp [txS, tx, List.map_take, List.extract_eq_take_drop]
  cases h1 : (txS l).extract 0 n
  cases h2 : txS (l.take n)
  rw [h1, h2] at this
  simpa using this
set_option maxRecDepth 100000 in
set_option maxHeartbeats 400000 in
theorem rbegins_any (l m : List Bool) (w : World) (hl : l.length ≤ 1048576) (hm : m.length ≤ 1048576) :
    Calls Try.prog 34 #[.string (txS l), .string (txS m)] w fun e w' => e = .returned (.bool (decide (l.take m.length = m))) ∧ w = w' := by
  have hz1 := size_txS l
  have hz2 := size_txS m
  have htk := txS_take l m.length
  have hinj := fun h => txS_inj (l.take m.length) m h
  rw [← htk] at hinj
  have hrev : l.take m.length = m → (txS l).extract 0 (txS m).size = txS m := by intro h; rw [hz2, htk, h]
  generalize txS l = s at *
  generalize txS m = t at *
  have hs1 : (s.size : Int) ≤ 1048576 := by omega
  have hs2 : (t.size : Int) ≤ 1048576 := by omega
  by_cases h : t.size ≤ s.size
  · have heq : ((s.extract 0 t.size).toList == t.toList) = decide (l.take m.length = m) := by
      rw [Bool.eq_iff_iff, beq_iff_eq, decide_eq_true_iff]
      constructor
      · intro h
        rw [Lib.toList_data, Lib.toList_data, hz2] at h
        apply hinj
        cases h1 : s.extract 0 m.length
        cases h2 : t
        rw [h1, h2] at h
        simpa using h
      · intro h; rw [hrev h]
    have Heq := hide heq
    have h' : (t.size : Int) ≤ s.size := by omega
    clear hz1 hz2 htk hinj hrev heq hl hm
    go_enter Try.func34, Try.ntmps34
    go_wp2
    go_ret
    exact ⟨ret_bool Heq.out, rfl⟩
  · have hne : Hid (decide (l.take m.length = m) = false) := by
      show decide (l.take m.length = m) = false
      rw [decide_eq_false_iff_not]
      intro e
      have : (l.take m.length).length = m.length := by rw [e]
      simp at this; omega
    have h' : (s.size : Int) < t.size := by omega
    clear hz1 hz2 htk hinj hrev hl hm h
    go_enter Try.func34, Try.ntmps34
    go_wp2
    go_ret
    exact ⟨ret_bool hne.out.symm, rfl⟩
end Go.Proofs.Ytafcphnafgfgkaa
