/- Contract of the law's own helper: sign. -/
import Derived.Test.YtafcphnafgfgkaaBl4
import Derived.Test.YtafcphnafgfgkaaBlx
namespace Go.Proofs.Ytafcphnafgfgkaa
open Go.RowKit Bm Lib
theorem ext_upto (xs ys : List UInt8) (k : Nat) (hx : xs.length ≤ k) (hy : ys.length = xs.length) (hs : ∀ j, j < k → xs[j]? = ys[j]?) : xs = ys := by
  apply List.ext_getElem?
  intro j
  by_cases hj : j < k
  · exact hs j hj
  · rw [List.getElem?_eq_none (by omega), List.getElem?_eq_none (by omega)]
set_option maxRecDepth 100000 in
set_option maxHeartbeats 1000000 in
theorem sign_any (a b : Option Addr) (xs ys : List UInt8) (n c m d : Nat) (w : World) (hx : RdB w a xs) (hy : RdB w b ys) (hn : n = xs.length) (hm : m = ys.length)
    (hbn : (n : Int) ≤ 9223372036854775806) (q : Int) (hq : q = compareBytes xs ys) :
    Calls Try.prog 35 #[.slice a n c, .slice b m d] w fun e w' => e = .returned (.int .i64 q) ∧ Below w.heap.size w w' := by
  have Hn := hide hn
  have Hm := hide hm
  have Hq := hide hq
  clear hn hm hq
  go_enter Try.func35, Try.ntmps35
  go_wp2_with fail
  go_loopw [5] (fun x wr => ∃ k : Nat, k ≤ n ∧ k ≤ m ∧ x = .int .i64 k ∧ (∀ j, j < k → xs[j]? = ys[j]?) ∧ Below w.heap.size w wr) (fun x _ => n - (intOf x).toNat)
  case atStart => exact ⟨0, Nat.zero_le _, Nat.zero_le _, rfl, fun j hj => absurd hj (by omega), Below.refl _ _⟩
  case round =>
    obtain ⟨k, hk, hk2, rfl, hs, hb⟩ := hrel
    have Hs := hide hs
    clear hs
    by_cases hlt : k < n
    · by_cases hlt2 : k < m
      · have hkx : k < xs.length := by have := Hn.out; omega
        have hky : k < ys.length := by have := Hm.out; omega
        obtain ⟨bx, ox, ha, hcx⟩ := (hx.keep hb).cellAt k hkx
        obtain ⟨by_, oy, hb', hcy⟩ := (hy.keep hb).cellAt k hky
        subst ha hb'
        have hli : (k : Int) < (n : Int) := by omega
        have hlm : (k : Int) < (m : Int) := by omega
        by_cases he : xs[k] = ys[k]
        · have hbne : (((xs[k]'hkx).toNat : Int) != ((ys[k]'hky).toNat : Int)) = false := by rw [u8_bne, he]; simp
          have He := hide he
          clear he
          go_wp2_with fail
          go_quiet (fail)
          go_wp2
          go_roundw
          case rel =>
            refine ⟨k + 1, by omega, by omega, by go_num, fun j hj => ?_, hb.trans ⟨rfl, rfl, rfl, Nat.le_refl _, fun _ _ => rfl⟩⟩
            by_cases hjk : j < k
            · exact Hs.out j hjk
            · have hjk' : j = k := by omega
              subst hjk'
              rw [List.getElem?_eq_getElem hkx, List.getElem?_eq_getElem hky, He.out]
          case measure => simp [intOf]; omega
        · have hbne : (((xs[k]'hkx).toNat : Int) != ((ys[k]'hky).toNat : Int)) = true := by rw [u8_bne]; simpa using he
          by_cases hls : xs[k]'hkx < ys[k]'hky
          · have hqv : q = -1 := by rw [Hq.out]; exact cmp_less xs ys k hkx hky Hs.out hls
            subst hqv
            have hl2 : (xs[k]'hkx).toNat < (ys[k]'hky).toNat := by rwa [UInt8.lt_iff_toNat_lt] at hls
            have hl3 : decide ((xs[k]'hkx).toNat < (ys[k]'hky).toNat) = true := by simpa using hl2
            clear he hls
            go_wp2_with fail
            go_quiet (fail)
            go_wp2_with fail
            go_quiet (fail)
            go_wp2
            go_ret
            exact ⟨rfl, (hb.trans ⟨rfl, rfl, rfl, Nat.le_refl _, fun _ _ => rfl⟩).trans ⟨rfl, rfl, rfl, Nat.le_refl _, fun _ _ => rfl⟩⟩
          · have hgt : ys[k]'hky < xs[k]'hkx := by
              rw [UInt8.lt_iff_toNat_lt] at hls ⊢
              have : (xs[k]'hkx).toNat ≠ (ys[k]'hky).toNat := fun h => he (UInt8.toNat.inj h)
              omega
            have hqv : q = 1 := by rw [Hq.out]; exact cmp_more xs ys k hkx hky Hs.out hgt
            subst hqv
            have hl2 : ¬ (xs[k]'hkx).toNat < (ys[k]'hky).toNat := by rw [UInt8.lt_iff_toNat_lt] at hls; omega
            have hl3 : decide ((xs[k]'hkx).toNat < (ys[k]'hky).toNat) = false := by simpa using hl2
            clear he hls hgt
            go_wp2_with fail
            go_quiet (fail)
            go_wp2_with fail
            go_quiet (fail)
            go_wp2
            go_ret
            exact ⟨rfl, (hb.trans ⟨rfl, rfl, rfl, Nat.le_refl _, fun _ _ => rfl⟩).trans ⟨rfl, rfl, rfl, Nat.le_refl _, fun _ _ => rfl⟩⟩
      · have hlm : ¬ (k : Int) < (m : Int) := by omega
        have hnm : ¬ (n : Int) < (m : Int) := by omega
        have hmn : (m : Int) < (n : Int) := by omega
        have hqv : q = 1 := by
          rw [Hq.out]
          refine cmp_prefix2 ys xs (fun i hi => (Hs.out i ?_).symm) ?_ <;> (have := Hn.out; have := Hm.out; omega)
        subst hqv
        have hli : (k : Int) < (n : Int) := by omega
        go_wp2
        go_ret
        exact ⟨rfl, hb⟩
    · have hli : ¬ (k : Int) < (n : Int) := by omega
      by_cases hnm : n < m
      · have hqv : q = -1 := by
          rw [Hq.out]
          refine cmp_prefix xs ys (fun i hi => Hs.out i ?_) ?_ <;> (have := Hn.out; have := Hm.out; omega)
        subst hqv
        have hl2 : (n : Int) < (m : Int) := by omega
        go_wp2
        go_ret
        exact ⟨rfl, hb⟩
      · have hqv : q = 0 := by
          rw [Hq.out]
          have he : xs = ys := ext_upto xs ys k (by have := Hn.out; omega) (by have := Hn.out; have := Hm.out; omega) Hs.out
          rw [he, cmp_refl]
        subst hqv
        have hl2 : ¬ (n : Int) < (m : Int) := by omega
        have hl3 : ¬ (m : Int) < (n : Int) := by omega
        go_wp2
        go_ret
        exact ⟨rfl, hb⟩
end Go.Proofs.Ytafcphnafgfgkaa
