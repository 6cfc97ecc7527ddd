/- The reference of layer 3: begins, Above, Compare, child, less. -/
import Derived.Test.YtofbcgehemclbaaLr2
namespace Go.Proofs.Ytofbcgehemclbaa
open Go.RowKit Bm Lib
theorem txt_ne {X Y : ByteArray} (h : X ≠ Y) : (X.toList == Y.toList) = false := by
  rw [beq_eq_false_iff_ne]
  intro e
  rw [ByteArray.toList_eq, ByteArray.toList_eq] at e
  exact h (ByteArray.ext (Array.ext' e))
set_option maxRecDepth 100000 in
set_option maxHeartbeats 1000000 in
theorem rbegs_any (a b : Option Addr) (tt uu : List (List Bool)) (n c m d : Nat) (q : Bool) (w : World) (hx : RdT w a tt) (hy : RdT w b uu) (hn : n = tt.length) (hm : m = uu.length) (hbn : n ≤ 1048576) (hbm : m ≤ 1048576) (hq : q = begS tt uu) :
    Calls Try.prog 56 #[.slice a n c, .slice b m d] w fun e w' => e = .returned (.bool q) ∧ Below w.heap.size w w' := by
  have Hn := hide hn
  have Hm := hide hm
  have Hq := hide hq
  clear hn hm hq
  by_cases hlen : n < m
  · have hd : decide (n < m) = true := by simpa using hlen
    have hqf : q = false := by rw [Hq.out]; exact begS_no (by have := Hn.out; have := Hm.out; omega)
    subst hqf
    go_enter Try.func56, Try.ntmps56
    go_wp2
    go_ret
    exact ⟨rfl, Below.refl _ _⟩
  · have hd : decide (n < m) = false := by simpa using hlen
    go_enter Try.func56, Try.ntmps56
    go_wp2_with fail
    go_loopw [5] (fun x W => ∃ k : Nat, k ≤ m ∧ x = .int .i64 k ∧ Hid (∀ j, j < k → tt[j]? = uu[j]?) ∧ Below w.heap.size w W) (fun x _ => m - (intOf x).toNat)
    case atStart => exact ⟨0, Nat.zero_le _, rfl, hide (fun j hj => absurd hj (by omega)), Below.refl _ _⟩
    case round =>
      obtain ⟨k, hk, rfl, hs, hb⟩ := hrel
      by_cases hlt : k < m
      · obtain ⟨s, h1⟩ : ∃ s, tt[k]? = some s := ⟨tt[k]'(by have := Hn.out; omega), List.getElem?_eq_getElem _⟩
        obtain ⟨t, h2⟩ : ∃ s, uu[k]? = some s := ⟨uu[k]'(by have := Hm.out; omega), List.getElem?_eq_getElem _⟩
        obtain ⟨b1, o1, ha1, k0⟩ := (hx.keep hb).row k s h1
        obtain ⟨b2, o2, ha2, k2⟩ := (hy.keep hb).row k t h2
        subst ha1 ha2
        have hi1 := ix_txt b1 o1 n c k (by omega)
        have hi2 := ix_txt b2 o2 m d k hlt
        have H1 := hide h1
        have H2 := hide h2
        have hlI : (k : Int) < m := by omega
        clear h1 h2
        by_cases hst : s = t
        · subst hst
          obtain ⟨X, hX⟩ : ∃ X, X = txS s := ⟨_, rfl⟩
          rw [← hX] at k0 k2
          clear hX
          have l0 := later_cell k0
          have l2 := later_cell k2
          clear k0 k2
          go_wp2_with fail
          refine wp_region_later (by kernel_rfl) (by kernel_rfl) ?_
          repeat (go_big_quiet_step (fail))
          refine wpQuiet_nil ?_
          intro W2 hw'
          obtain ⟨⟨W2', hb2⟩, hw''⟩ := hw'
          change W2 = W2' at hw''
          subst hw''
          clear l0 l2 hi1 hi2
          have hb3 := chain0 hb hb2
          clear hb hb2
          go_wp2
          all_goals
            go_roundw
            case rel =>
              refine ⟨k + 1, by omega, by go_num, hide (fun j hj => ?_), hb3⟩
              by_cases hjk : j < k
              · exact hs.out j hjk
              · rw [show j = k from by omega, H1.out, H2.out]
            case measure => simp [intOf]; omega
        · obtain ⟨X, hX⟩ : ∃ X, X = txS s := ⟨_, rfl⟩
          obtain ⟨Y, hY⟩ : ∃ X, X = txS t := ⟨_, rfl⟩
          have hne := txt_ne (X := X) (Y := Y) (fun e => hst (txS_inj s t (by rw [← hX, ← hY, e])))
          rw [← hX] at k0
          rw [← hY] at k2
          have Hst := hide hst
          clear hst hX hY
          have hqf : q = false := by rw [Hq.out]; exact begS_differ k s t (by have := Hm.out; omega) H1.out H2.out Hst.out
          subst hqf
          have l0 := later_cell k0
          have l2 := later_cell k2
          clear k0 k2
          go_wp2_with fail
          refine wp_region_later (by kernel_rfl) (by kernel_rfl) ?_
          repeat (go_big_quiet_step (fail))
          refine wpQuiet_nil ?_
          intro W2 hw'
          obtain ⟨⟨W2', hb2⟩, hw''⟩ := hw'
          change W2 = W2' at hw''
          subst hw''
          clear l0 l2 hi1 hi2
          have hb3 := chain0 hb hb2
          clear hb hb2
          go_wp2
          go_ret
          exact ⟨rfl, hb3⟩
      · have hlI : ¬ (k : Int) < m := by omega
        have hqt : q = true := by
          rw [Hq.out]
          exact begS_yes (by have := Hn.out; have := Hm.out; omega) (fun j hj => hs.out j (by have := Hm.out; omega))
        subst hqt
        go_wp2
        go_ret
        exact ⟨rfl, hb⟩
set_option maxRecDepth 100000 in
set_option maxHeartbeats 1000000 in
theorem rabove_both (a b : Option Addr) (xs ys : List UInt8) (ss tt : List (List Bool)) (n c m d : Nat) (q : Bool) (w : World) (hx : RdB w a xs) (hy : RdB w b ys) (hn : n = xs.length) (hm : m = ys.length)
    (hle : (n : Int) ≤ 9223372036854775807) (hle2 : (m : Int) ≤ 9223372036854775807) (hs : IsL xs ss) (ht : IsL ys tt) (hq : q = aboveS ss tt) :
    Calls Try.prog 32 #[.slice a n c, .slice b m d] w fun e w' => e = .returned (.bool q) ∧ Below w.heap.size w w' := by
  have hB := Below.refl w.heap.size w
  have Hn := hide hn
  have Hm := hide hm
  have Hq := hide hq
  have hsl := wr_le hs.2.1
  have htl := wr_le ht.2.1
  clear hn hm hq
  by_cases hlt : ss.length < tt.length
  · have hd : decide (ss.length < tt.length) = true := by simpa using hlt
    have hq2 : q = begS tt ss := by rw [Hq.out, aboveS, hd, Bool.true_and]
    have Hq2 := hide hq2
    clear hq2
    go_enter Try.func32, Try.ntmps32
    go_wp2_with fail
    refine (rsteps_yes a xs ss n c _ hx Hn.out hle hs).mono ?_
    rintro e w1 ⟨a1, c1, rfl, ⟨h1, hc1⟩, hb1⟩
    have hB2 : Below w.heap.size w w1 := by first | exact chain0 hB hb1 | exact chain1 hB hb1 | exact chain2 hB hb1 | exact chain3 hB hb1
    clear hB
    have hB := hB2
    clear hB2
    go_wp2_with fail
    refine (rsteps_yes b ys tt m d _ (hy.keep hB) Hm.out hle2 ht).mono ?_
    rintro e w2 ⟨a2, c2, rfl, ⟨h2, hc2⟩, hb2⟩
    have hB2 : Below w.heap.size w w2 := by first | exact chain0 hB hb2 | exact chain1 hB hb2 | exact chain2 hB hb2 | exact chain3 hB hb2
    clear hB
    have hB := hB2
    clear hB2
    go_wp2_with fail
    refine (rbegs_any a2 a1 tt ss _ c2 _ c1 q _ h2 (RdT.keep h1 hb2) rfl rfl (by omega) (by omega) Hq2.out).mono ?_
    rintro e w3 ⟨rfl, hb3⟩
    have hB2 : Below w.heap.size w w3 := by first | exact chain0 hB hb3 | exact chain1 hB hb3 | exact chain2 hB hb3 | exact chain3 hB hb3
    clear hB
    have hB := hB2
    clear hB2
    go_wp2
    go_ret
    exact ⟨rfl, hB⟩
  · have hd : decide (ss.length < tt.length) = false := by simpa using hlt
    have hq2 : q = false := by rw [Hq.out, aboveS, hd, Bool.false_and]
    subst hq2
    go_enter Try.func32, Try.ntmps32
    go_wp2_with fail
    refine (rsteps_yes a xs ss n c _ hx Hn.out hle hs).mono ?_
    rintro e w1 ⟨a1, c1, rfl, ⟨h1, hc1⟩, hb1⟩
    have hB2 : Below w.heap.size w w1 := by first | exact chain0 hB hb1 | exact chain1 hB hb1 | exact chain2 hB hb1 | exact chain3 hB hb1
    clear hB
    have hB := hB2
    clear hB2
    go_wp2_with fail
    refine (rsteps_yes b ys tt m d _ (hy.keep hB) Hm.out hle2 ht).mono ?_
    rintro e w2 ⟨a2, c2, rfl, ⟨h2, hc2⟩, hb2⟩
    have hB2 : Below w.heap.size w w2 := by first | exact chain0 hB hb2 | exact chain1 hB hb2 | exact chain2 hB hb2 | exact chain3 hB hb2
    clear hB
    have hB := hB2
    clear hB2
    go_wp2
    go_ret
    exact ⟨rfl, hB⟩
set_option maxRecDepth 100000 in
set_option maxHeartbeats 1000000 in
theorem rabove_not (a b : Option Addr) (xs ys : List UInt8) (n c m d : Nat) (w : World) (hx : RdB w a xs) (hy : RdB w b ys) (hn : n = xs.length) (hm : m = ys.length)
    (hle : (n : Int) ≤ 9223372036854775807) (hle2 : (m : Int) ≤ 9223372036854775807) (hs : (¬ ∃ ss, IsL xs ss) ∨ ¬ ∃ tt, IsL ys tt) :
    Calls Try.prog 32 #[.slice a n c, .slice b m d] w fun e w' => e = .returned (.bool false) ∧ Below w.heap.size w w' := by
  have hB := Below.refl w.heap.size w
  have Hn := hide hn
  have Hm := hide hm
  clear hn hm
  by_cases h1 : ∃ ss, IsL xs ss
  · have h2 : ¬ ∃ tt, IsL ys tt := by
      rcases hs with h | h
      · exact absurd h1 h
      · exact h
    obtain ⟨ss, h1⟩ := h1
    have H2 := hide h2
    clear hs h2
    go_enter Try.func32, Try.ntmps32
    go_wp2_with fail
    refine (rsteps_yes a xs ss n c _ hx Hn.out hle h1).mono ?_
    rintro e w1 ⟨a1, c1, rfl, ⟨h3, hc1⟩, hb1⟩
    have hB2 : Below w.heap.size w w1 := by first | exact chain0 hB hb1 | exact chain1 hB hb1 | exact chain2 hB hb1 | exact chain3 hB hb1
    clear hB
    have hB := hB2
    clear hB2
    go_wp2_with fail
    refine (rsteps_no b ys m d _ (hy.keep hB) Hm.out hle2 H2.out).mono ?_
    rintro e w2 ⟨rfl, hb2⟩
    have hB2 : Below w.heap.size w w2 := by first | exact chain0 hB hb2 | exact chain1 hB hb2 | exact chain2 hB hb2 | exact chain3 hB hb2
    clear hB
    have hB := hB2
    clear hB2
    go_wp2
    go_ret
    exact ⟨rfl, hB⟩
  · have H1 := hide h1
    clear hs h1
    by_cases h2 : ∃ tt, IsL ys tt
    · obtain ⟨tt, h2⟩ := h2
      go_enter Try.func32, Try.ntmps32
      go_wp2_with fail
      refine (rsteps_no a xs n c _ hx Hn.out hle H1.out).mono ?_
      rintro e w1 ⟨rfl, hb1⟩
      have hB2 : Below w.heap.size w w1 := by first | exact chain0 hB hb1 | exact chain1 hB hb1 | exact chain2 hB hb1 | exact chain3 hB hb1
      clear hB
      have hB := hB2
      clear hB2
      go_wp2_with fail
      refine (rsteps_yes b ys tt m d _ (hy.keep hB) Hm.out hle2 h2).mono ?_
      rintro e w2 ⟨a2, c2, rfl, ⟨h3, hc2⟩, hb2⟩
      have hB2 : Below w.heap.size w w2 := by first | exact chain0 hB hb2 | exact chain1 hB hb2 | exact chain2 hB hb2 | exact chain3 hB hb2
      clear hB
      have hB := hB2
      clear hB2
      go_wp2
      go_ret
      exact ⟨rfl, hB⟩
    · have H2 := hide h2
      clear h2
      go_enter Try.func32, Try.ntmps32
      go_wp2_with fail
      refine (rsteps_no a xs n c _ hx Hn.out hle H1.out).mono ?_
      rintro e w1 ⟨rfl, hb1⟩
      have hB2 : Below w.heap.size w w1 := by first | exact chain0 hB hb1 | exact chain1 hB hb1 | exact chain2 hB hb1 | exact chain3 hB hb1
      clear hB
      have hB := hB2
      clear hB2
      go_wp2_with fail
      refine (rsteps_no b ys m d _ (hy.keep hB) Hm.out hle2 H2.out).mono ?_
      rintro e w2 ⟨rfl, hb2⟩
      have hB2 : Below w.heap.size w w2 := by first | exact chain0 hB hb2 | exact chain1 hB hb2 | exact chain2 hB hb2 | exact chain3 hB hb2
      clear hB
      have hB := hB2
      clear hB2
      go_wp2
      go_ret
      exact ⟨rfl, hB⟩
theorem ext_upto (xs ys : List UInt8) (k : Nat) (hx : xs.length ≤ k) (hy : ys.length = xs.length) (hs : ∀ j, j < k → xs[j]? = ys[j]?) : xs = ys := by
  apply List.ext_getElem?
  intro j
  by_cases hj : j < k
  · exact hs j hj
  · rw [List.getElem?_eq_none (by omega), List.getElem?_eq_none (by omega)]
set_option maxRecDepth 100000 in
set_option maxHeartbeats 1000000 in
theorem rcompareL (a b : Option Addr) (xs ys : List UInt8) (n c m d : Nat) (w : World) (hx : RdB w a xs) (hy : RdB w b ys) (hn : n = xs.length) (hm : m = ys.length)
    (hbn : (n : Int) ≤ 9223372036854775806) (q : Int) (hq : q = compareBytes xs ys) :
    Calls Try.prog 30 #[.slice a n c, .slice b m d] w fun e w' => e = .returned (.int .i64 q) ∧ Below w.heap.size w w' := by
  have Hn := hide hn
  have Hm := hide hm
  have Hq := hide hq
  clear hn hm hq
  go_enter Try.func30, Try.ntmps30
  go_wp2_with fail
  go_loopw [5] (fun x wr => ∃ k : Nat, k ≤ n ∧ k ≤ m ∧ x = .int .i64 k ∧ (∀ j, j < k → xs[j]? = ys[j]?) ∧ Below w.heap.size w wr) (fun x _ => n - (intOf x).toNat)
  case atStart => exact ⟨0, Nat.zero_le _, Nat.zero_le _, rfl, fun j hj => absurd hj (by omega), Below.refl _ _⟩
  case round =>
    obtain ⟨k, hk, hk2, rfl, hs, hb⟩ := hrel
    have Hs := hide hs
    clear hs
    by_cases hlt : k < n
    · by_cases hlt2 : k < m
      · have hkx : k < xs.length := by have := Hn.out; omega
        have hky : k < ys.length := by have := Hm.out; omega
        obtain ⟨bx, ox, ha, hcx⟩ := (hx.keep hb).cellAt k hkx
        obtain ⟨by_, oy, hb', hcy⟩ := (hy.keep hb).cellAt k hky
        subst ha hb'
        have hli : (k : Int) < (n : Int) := by omega
        have hlm : (k : Int) < (m : Int) := by omega
        rcases Nat.lt_trichotomy (xs[k]'hkx).toNat (ys[k]'hky).toNat with hc | hc | hc
        · have hqv : q = -1 := by rw [Hq.out]; exact cmp_less xs ys k hkx hky Hs.out (by rwa [UInt8.lt_iff_toNat_lt])
          subst hqv
          have hl3 : decide ((xs[k]'hkx).toNat < (ys[k]'hky).toNat) = true := by simpa using hc
          go_wp2_with fail
          go_quiet (fail)
          go_wp2
          go_ret
          exact ⟨rfl, hb.trans ⟨rfl, rfl, rfl, Nat.le_refl _, fun _ _ => rfl⟩⟩
        · have hl3 : decide ((xs[k]'hkx).toNat < (ys[k]'hky).toNat) = false := by simp; omega
          have hl4 : decide ((ys[k]'hky).toNat < (xs[k]'hkx).toNat) = false := by simp; omega
          have he : xs[k]'hkx = ys[k]'hky := UInt8.toNat.inj hc
          have He := hide he
          clear hc he
          go_wp2_with fail
          go_quiet (fail)
          go_wp2_with fail
          go_quiet (fail)
          go_wp2
          go_roundw
          case rel =>
            refine ⟨k + 1, by omega, by omega, by go_num, fun j hj => ?_, (hb.trans ⟨rfl, rfl, rfl, Nat.le_refl _, fun _ _ => rfl⟩).trans ⟨rfl, rfl, rfl, Nat.le_refl _, fun _ _ => rfl⟩⟩
            by_cases hjk : j < k
            · exact Hs.out j hjk
            · have hjk' : j = k := by omega
              subst hjk'
              rw [List.getElem?_eq_getElem hkx, List.getElem?_eq_getElem hky, He.out]
          case measure => simp [intOf]; omega
        · have hqv : q = 1 := by rw [Hq.out]; exact cmp_more xs ys k hkx hky Hs.out (by rwa [UInt8.lt_iff_toNat_lt])
          subst hqv
          have hl3 : decide ((xs[k]'hkx).toNat < (ys[k]'hky).toNat) = false := by simp; omega
          have hl4 : decide ((ys[k]'hky).toNat < (xs[k]'hkx).toNat) = true := by simpa using hc
          clear hc
          go_wp2_with fail
          go_quiet (fail)
          go_wp2_with fail
          go_quiet (fail)
          go_wp2
          go_ret
          exact ⟨rfl, (hb.trans ⟨rfl, rfl, rfl, Nat.le_refl _, fun _ _ => rfl⟩).trans ⟨rfl, rfl, rfl, Nat.le_refl _, fun _ _ => rfl⟩⟩
      · have hlm : ¬ (k : Int) < (m : Int) := by omega
        have hnm : ¬ (n : Int) < (m : Int) := by omega
        have hmn : (m : Int) < (n : Int) := by omega
        have hqv : q = 1 := by
          rw [Hq.out]
          refine cmp_prefix2 ys xs (fun i hi => (Hs.out i ?_).symm) ?_ <;> (have := Hn.out; have := Hm.out; omega)
        subst hqv
        have hli : (k : Int) < (n : Int) := by omega
        go_wp2
        go_ret
        exact ⟨rfl, hb⟩
    · have hli : ¬ (k : Int) < (n : Int) := by omega
      by_cases hnm : n < m
      · have hqv : q = -1 := by
          rw [Hq.out]
          refine cmp_prefix xs ys (fun i hi => Hs.out i ?_) ?_ <;> (have := Hn.out; have := Hm.out; omega)
        subst hqv
        have hl2 : (n : Int) < (m : Int) := by omega
        go_wp2
        go_ret
        exact ⟨rfl, hb⟩
      · have hqv : q = 0 := by
          rw [Hq.out]
          have he : xs = ys := ext_upto xs ys k (by have := Hn.out; omega) (by have := Hn.out; have := Hm.out; omega) Hs.out
          rw [he, cmp_refl]
        subst hqv
        have hl2 : ¬ (n : Int) < (m : Int) := by omega
        have hl3 : ¬ (m : Int) < (n : Int) := by omega
        go_wp2
        go_ret
        exact ⟨rfl, hb⟩
end Go.Proofs.Ytofbcgehemclbaa

