/- Contract of the reference of layer 2: Compare. -/
import Derived.Test.YtafcphnafgfgkaaBw1
import Derived.Test.YtafcphnafgfgkaaAp
namespace Go.Proofs.Ytafcphnafgfgkaa
open Go.RowKit Bm
theorem drop_cons' (l : List Bool) (k : Nat) (h : k < l.length) : l.drop k = l.getD k false :: l.drop (k + 1) := by
  rw [List.drop_eq_getElem_cons h, List.getD_eq_getElem?_getD, List.getElem?_eq_getElem h]; rfl
theorem bit_lt (a b : Bool) : (((if a then 49 else 48 : UInt8).toNat : Int) < ((if b then 49 else 48 : UInt8).toNat : Int)) ↔ (a = false ∧ b = true) := by cases a <;> cases b <;> decide
set_option maxRecDepth 100000 in
set_option maxHeartbeats 400000 in
theorem rcmp_any (l m : List Bool) (w : World) (hl : l.length ≤ 1048576) (hm : m.length ≤ 1048576) :
    Calls Try.prog 32 #[.string (txS l), .string (txS m)] w fun e w' => e = .returned (.int .i64 (lexB l m)) ∧ Below w.heap.size w w' := by
  have hz1 := size_txS l
  have hz2 := size_txS m
  have hg1 := txS_get l
  have hg2 := txS_get m
  generalize txS l = s at *
  generalize txS m = t at *
  have hs1 : s.size ≤ 1048576 := by omega
  have hs2 : t.size ≤ 1048576 := by omega
  have Hz1 := hide hz1
  have Hz2 := hide hz2
  have Hg1 := hide hg1
  have Hg2 := hide hg2
  clear hz1 hz2 hg1 hg2
  go_enter Try.func32, Try.ntmps32
  go_wp2_with fail
  go_loopw [5] (fun x wr => ∃ k : Nat, k ≤ l.length ∧ k ≤ m.length ∧ x = .int .i64 k ∧ lexB l m = lexB (l.drop k) (m.drop k) ∧ Below w.heap.size w wr) (fun x _ => s.size - (intOf x).toNat)
  case atStart => exact ⟨0, Nat.zero_le _, Nat.zero_le _, rfl, rfl, Below.refl _ _⟩
  case round =>
    obtain ⟨k, hk1, hk2, rfl, hlex, hb⟩ := hrel
    have hb0 : ∀ n, Below w.heap.size w (wr.drewN n) := fun n => hb.trans ⟨rfl, rfl, rfl, Nat.le_refl _, fun _ _ => rfl⟩
    have Hlex := hide hlex
    clear hlex
    by_cases h1 : k < s.size
    · by_cases h2 : k < t.size
      · have h1' : k < l.length := by have := Hz1.out; omega
        have h2' : k < m.length := by have := Hz2.out; omega
        have hx := Hlex.out
        rw [drop_cons' l k h1', drop_cons' m k h2'] at hx
        have hlt := bit_lt (l.getD k false) (m.getD k false)
        have hgt := bit_lt (m.getD k false) (l.getD k false)
        rw [← Hg1.out k h1, ← Hg2.out k h2] at hlt hgt
        have hi1 : (k : Int) < s.size := by omega
        have hi2 : (k : Int) < t.size := by omega
        by_cases hab : l.getD k false = m.getD k false
        · have hx' : Hid (lexB l m = lexB (l.drop (k + 1)) (m.drop (k + 1))) := by show lexB l m = _; rw [hx, lexB, if_pos hab]
          have h3 : decide (((s[k]'h1).toNat : Int) < ((t[k]'h2).toNat : Int)) = false := by
            rw [decide_eq_false_iff_not, hlt, hab]; cases m.getD k false <;> simp
          have h4 : decide (((t[k]'h2).toNat : Int) < ((s[k]'h1).toNat : Int)) = false := by
            rw [decide_eq_false_iff_not, hgt, hab]; cases m.getD k false <;> simp
          have h3n : decide ((s[k]'h1).toNat < (t[k]'h2).toNat) = false := by
            rw [decide_eq_false_iff_not] at h3 ⊢; omega
          have h4n : decide ((t[k]'h2).toNat < (s[k]'h1).toNat) = false := by
            rw [decide_eq_false_iff_not] at h4 ⊢; omega
          clear hx hlt hgt hab h3 h4
          go_wp2_with fail
          go_quiet (fail)
          go_wp2_with fail
          go_quiet (fail)
          go_wp2
          go_roundw
          case rel => exact ⟨k + 1, by omega, by omega, by go_num, hx'.out, (by first | exact hb0 _ | (rw [World.drewN_drewN]; exact hb0 _))⟩
          case measure => simp [intOf]; omega
        · by_cases ha : l.getD k false = true
          · have hbf : m.getD k false = false := by
              cases h : m.getD k false
              · rfl
              · rw [ha, h] at hab; exact absurd rfl hab
            have hx' : Hid (lexB l m = 1) := by show lexB l m = _; rw [hx, lexB, if_neg hab, if_pos ha]
            have h3n : decide ((s[k]'h1).toNat < (t[k]'h2).toNat) = false := by
              rw [decide_eq_false_iff_not]; intro h
              have := hlt.1 (by omega)
              rw [ha] at this; simp at this
            have h4n : decide ((t[k]'h2).toNat < (s[k]'h1).toNat) = true := by
              rw [decide_eq_true_iff]
              have := hgt.2 ⟨hbf, ha⟩
              omega
            clear hx hlt hgt hab ha hbf
            go_wp2_with fail
            go_quiet (fail)
            go_wp2_with fail
            go_quiet (fail)
            go_wp2
            go_ret
            exact ⟨ret_int hx'.out.symm, (by first | exact hb0 _ | (rw [World.drewN_drewN]; exact hb0 _))⟩
          · have haf : l.getD k false = false := by simpa using ha
            have hbt : m.getD k false = true := by
              cases h : m.getD k false
              · rw [haf, h] at hab; exact absurd rfl hab
              · rfl
            have hx' : Hid (lexB l m = -1) := by show lexB l m = _; rw [hx, lexB, if_neg hab, if_neg ha]
            have h3n : decide ((s[k]'h1).toNat < (t[k]'h2).toNat) = true := by
              rw [decide_eq_true_iff]
              have := hlt.2 ⟨haf, hbt⟩
              omega
            clear hx hlt hgt hab ha haf hbt
            go_wp2_with fail
            go_quiet (fail)
            go_wp2
            go_ret
            exact ⟨ret_int hx'.out.symm, (by first | exact hb0 _ | (rw [World.drewN_drewN]; exact hb0 _))⟩
      · have hk' : k = m.length := by have := Hz2.out; omega
        have hx' : Hid (lexB l m = 1) := by
          have hx := Hlex.out
          show lexB l m = 1
          rw [hx, drop_cons' l k (by have := Hz1.out; omega), show m.drop k = [] from List.drop_eq_nil_of_le (by omega)]; rfl
        have hi1 : (k : Int) < s.size := by omega
        have hi3 : (t.size : Int) ≤ k := by omega
        have hi2 : ¬ (s.size : Int) < t.size := by omega
        have hi4 : (t.size : Int) < s.size := by omega
        clear hk'
        go_wp2
        go_ret
        exact ⟨ret_int hx'.out.symm, hb⟩
    · have hi1 : (s.size : Int) ≤ k := by omega
      by_cases h2 : s.size < t.size
      · have hx' : Hid (lexB l m = -1) := by
          have hx := Hlex.out
          show lexB l m = -1
          rw [hx, drop_cons' m k (by have := Hz1.out; have := Hz2.out; omega), show l.drop k = [] from List.drop_eq_nil_of_le (by have := Hz1.out; omega)]; rfl
        go_wp2
        go_ret
        exact ⟨ret_int hx'.out.symm, hb⟩
      · have hx' : Hid (lexB l m = 0) := by
          have hx := Hlex.out
          show lexB l m = 0
          rw [hx, show l.drop k = [] from List.drop_eq_nil_of_le (by have := Hz1.out; omega), show m.drop k = [] from List.drop_eq_nil_of_le (by have := Hz1.out; have := Hz2.out; omega)]; rfl
        have hi2 : ¬ (s.size : Int) < t.size := by omega
        have hi4 : ¬ (t.size : Int) < s.size := by have := Hz1.out; have := Hz2.out; omega
        go_wp2
        go_ret
        exact ⟨ret_int hx'.out.symm, hb⟩
end Go.Proofs.Ytafcphnafgfgkaa
