/- Contracts of parchmentkit's functions on bytes. -/
import Derived.Test.YtofbcgehemclbaaAp
namespace Go.Proofs.Ytofbcgehemclbaa
open Go.RowKit
def markZ (k i : Int) : Int := wrap64 (wrap64 (1000003 * wrap64 (k + 7)) + i)
def mkZ (k i : Int) : Int := IntKind.u64.wrap (IntKind.u64.wrap (markZ k i) * 11400714819323198485) / 72057594037927936 % 256
def mkB (k i : Int) : UInt8 := UInt8.ofNat (mkZ k i).toNat
theorem mkB_nat (k i : Int) : ((mkB k i).toNat : Int) = mkZ k i := by
  have h : 0 ≤ mkZ k i ∧ mkZ k i < 256 := by
    unfold mkZ
    exact ⟨Int.emod_nonneg _ (by decide), Int.emod_lt_of_pos _ (by decide)⟩
  obtain ⟨n, hn⟩ := Int.eq_ofNat_of_zero_le h.1
  unfold mkB
  rw [hn, Int.toNat_natCast, UInt8.toNat_ofNat']
  have : n < 256 := by omega
  rw [Nat.mod_eq_of_lt this]
set_option maxRecDepth 100000 in
set_option maxHeartbeats 400000 in
theorem mark_any (k i : Int) (w : World) : Calls Try.prog 57 #[.int .i64 k, .int .i64 i] w fun e w' => e = .returned (.int .i64 (markZ k i)) ∧ w = w' := by
  have hfin : Hid (markZ k i = wrap64 (wrap64 (1000003 * wrap64 (k + 7)) + i)) := by show markZ k i = _; rfl
  go_enter Try.func57, Try.ntmps57
  go_wp2
  go_ret
  exact ⟨ret_int hfin.out.symm, rfl⟩
set_option maxRecDepth 100000 in
set_option maxHeartbeats 400000 in
theorem markByte_any (k i : Int) (w : World) : Calls Try.prog 33 #[.int .i64 k, .int .i64 i] w fun e w' => e = .returned (.int .u8 (mkB k i).toNat) ∧ w = w' := by
  have hfin : Hid (((mkB k i).toNat : Int) = IntKind.u64.wrap (IntKind.u64.wrap (markZ k i) * 11400714819323198485) / 72057594037927936 % 256) := by
    show ((mkB k i).toNat : Int) = _; rw [mkB_nat]; rfl
  go_enter Try.func33, Try.ntmps33
  go_wp2_with (go_at_call 57; refine (mark_any _ _ _).mono ?_; rintro e w' ⟨rfl, rfl⟩)
  go_ret
  exact ⟨ret_int hfin.out.symm, rfl⟩
theorem u8_beq (a b : UInt8) : (((a.toNat : Int)) == (b.toNat : Int)) = (a == b) := by
  rw [Bool.eq_iff_iff, beq_iff_eq, beq_iff_eq, ← UInt8.toNat_inj]; omega
theorem u8_bne (a b : UInt8) : (((a.toNat : Int)) != (b.toNat : Int)) = (a != b) := by
  rw [bne, bne, u8_beq]
theorem RdB.cellAt {w : World} {a : Option Addr} {bs : List UInt8} (h : RdB w a bs) (k : Nat) (hk : k < bs.length) : ∃ b off, a = some ⟨b, off, none⟩ ∧ w.cell? ⟨b, off + k, none⟩ = some (.int .u8 ((bs[k]'hk).toNat : Int)) := by
  rcases h with rfl | ⟨b, off, rfl, _, hc⟩
  · simp at hk
  · exact ⟨b, off, rfl, hc k hk⟩
theorem same_ext {xs ys : List UInt8} (hl : xs.length = ys.length) (h : ∀ k (h1 : k < xs.length) (h2 : k < ys.length), xs[k] = ys[k]) : xs = ys := List.ext_getElem hl fun i h1 h2 => h i h1 h2
set_option maxRecDepth 100000 in
set_option maxHeartbeats 400000 in
theorem same_any (a b : Option Addr) (xs ys : List UInt8) (n c m d : Nat) (w : World) (hx : RdB w a xs) (hy : RdB w b ys) (hn : n = xs.length) (hm : m = ys.length) (hbn : (n : Int) ≤ 9223372036854775806) :
    Calls Try.prog 17 #[.slice a n c, .slice b m d] w fun e w' => e = .returned (.bool (decide (xs = ys))) ∧ Below w.heap.size w w' := by
  have Hn := hide hn
  have Hm := hide hm
  clear hn hm
  by_cases hlen : n = m
  · have hne : ((n : Int) != (m : Int)) = false := by simp [hlen]
    have Hlen := hide hlen
    clear hlen
    go_enter Try.func17, Try.ntmps17
    go_wp2_with fail
    go_loopw [5] (fun x wr => ∃ k : Nat, k ≤ n ∧ x = .int .i64 k ∧ (∀ j, j < k → xs[j]? = ys[j]?) ∧ Below w.heap.size w wr) (fun x _ => n - (intOf x).toNat)
    case atStart => exact ⟨0, Nat.zero_le _, rfl, fun j hj => absurd hj (by omega), Below.refl _ _⟩
    case round =>
      obtain ⟨k, hk, rfl, hs, hb⟩ := hrel
      have Hs := hide hs
      clear hs
      by_cases hlt : k < n
      · have hkx : k < xs.length := by have := Hn.out; omega
        have hky : k < ys.length := by have := Hn.out; have := Hm.out; have := Hlen.out; omega
        obtain ⟨bx, ox, ha, hcx⟩ := (hx.keep hb).cellAt k hkx
        obtain ⟨by_, oy, hb', hcy⟩ := (hy.keep hb).cellAt k hky
        subst ha hb'
        have hlm : (k : Int) < (m : Int) := by have := Hlen.out; omega
        by_cases he : xs[k] = ys[k]
        · have hbne : (((xs[k]'hkx).toNat : Int) != ((ys[k]'hky).toNat : Int)) = false := by rw [u8_bne, he]; simp
          have He := hide he
          clear he
          go_wp2_with fail
          go_quiet (fail)
          go_wp2
          go_roundw
          case rel =>
            refine ⟨k + 1, by omega, by go_num, fun j hj => ?_, hb.trans ⟨rfl, rfl, rfl, Nat.le_refl _, fun _ _ => rfl⟩⟩
            by_cases hjk : j < k
            · exact Hs.out j hjk
            · have hjk' : j = k := by omega
              subst hjk'
              rw [List.getElem?_eq_getElem hkx, List.getElem?_eq_getElem hky, He.out]
          case measure => simp [intOf]; omega
        · have hbne : (((xs[k]'hkx).toNat : Int) != ((ys[k]'hky).toNat : Int)) = true := by rw [u8_bne]; simpa using he
          have He := hide he
          clear he
          go_wp2_with fail
          go_quiet (fail)
          go_wp2
          go_ret
          refine ⟨ret_bool ?_, hb.trans ⟨rfl, rfl, rfl, Nat.le_refl _, fun _ _ => rfl⟩⟩
          have : xs ≠ ys := by rintro rfl; exact He.out rfl
          simp [this]
      · go_wp2
        go_ret
        refine ⟨ret_bool ?_, hb⟩
        have : xs = ys := by
          apply List.ext_getElem?
          intro j
          by_cases hj : j < k
          · exact Hs.out j hj
          · have h1 := Hn.out
            have h2 := Hm.out
            have h3 := Hlen.out
            rw [List.getElem?_eq_none (by omega), List.getElem?_eq_none (by omega)]
        simp [this]
  · have hne : ((n : Int) != (m : Int)) = true := by simp; omega
    have Hlen := hide hlen
    clear hlen
    go_enter Try.func17, Try.ntmps17
    go_wp2
    go_ret
    refine ⟨ret_bool ?_, Below.refl _ _⟩
    have : xs ≠ ys := by rintro rfl; exact Hlen.out (Hn.out.trans Hm.out.symm)
    simp [this]
def marks (k : Int) (n : Nat) : List UInt8 := (List.range n).map fun (i : Nat) => mkB k (i : Int)
def lent (bs : List UInt8) : List UInt8 := bs ++ marks 1 12
theorem marks_snoc (k : Int) (n : Nat) : marks k (n + 1) = marks k n ++ [mkB k (n : Int)] := by simp [marks, List.range_succ]
theorem length_marks (k : Int) (n : Nat) : (marks k n).length = n := by simp [marks]
theorem OwB.full {w : World} {B g n : Nat} {xs : List UInt8} (h : OwB w B (.slice (some ⟨g, 0, none⟩) n n) xs) : Bk w g xs ∧ B ≤ g ∧ n = xs.length := by
  rcases h.2 with ⟨e1, e2⟩ | ⟨g', cap, cur, hv, hg, hh, h1, h2, h3, h4⟩
  · cases e1
  · injection hv with e1 e2 e3
    injection e1 with e1
    injection e1 with e1
    subst e1 e3
    refine ⟨?_, hg, e2⟩
    have : cur.toList = Lib.byteCells xs := by
      rw [← h4, List.take_of_length_le]
      rw [Array.length_toList, h3, e2]; omega
    unfold Bk Blk
    rw [hh, ← this]
set_option maxRecDepth 100000 in
set_option maxHeartbeats 400000 in
theorem lent_any (a : Option Addr) (bs : List UInt8) (n c : Nat) (w : World) (hr : RdB w a bs) (hn : n = bs.length) (hle : n ≤ 1048576) :
    Calls Try.prog 10 #[.slice a n c] w fun e w' => ∃ g, e = .returned (.slice (some ⟨g, 0, none⟩) n (n + 12)) ∧ Bk w' g (lent bs) ∧ w.heap.size ≤ g ∧ Below w.heap.size w w' := by
  obtain ⟨i0, hi, hz0, hz1, hz2⟩ := info_parts byteInfo
  obtain ⟨w1, hmk, hown1, hg1⟩ := run_make_own (P := Try.prog) w w.heap.size 22 5 i0 (.int .u8 0) 1 Try.underlying22 hi hz0 hz1 .i64 .i64 (n + 12) (by rw [hz2]; omega) (by unfold maxLen; omega) (Nat.le_refl _)
  rw [show ((n + 12 : Nat) : Int) = (n : Int) + 12 from by omega] at hmk
  have hb1 : Below w.heap.size w w1 := (Below.refl _ _).grown hg1 (Nat.le_refl _) (by simp)
  have Hn := hide hn
  clear hn hi hz0 hz1 hz2
  go_enter Try.func10, Try.ntmps10
  go_wp2_with (at_builtin; refine wpList_appB_fits rfl _ _ rfl w.heap.size w.heap.size 0 (n + 12) [] a n c bs rfl rfl hown1 (hr.keep hb1) Hn.out (by omega) ?_)
  intro w2 hown2 hg2
  have hb2 : Below w.heap.size w w2 := hb1.grown hg2 hb1.size (by intro k hk; injection hk with hk; omega)
  clear hown1 hg1 hb1 hg2 hmk
  go_wp2_with fail
  go_loopw [3, 4] (fun v x wr => ∃ k : Nat, k ≤ 12 ∧ x = .int .i64 k ∧ v = .slice (some ⟨w.heap.size, 0, none⟩) (n + k) (n + 12) ∧ OwB wr w.heap.size (.slice (some ⟨w.heap.size, 0, none⟩) (n + k) (n + 12)) (bs ++ marks 1 k) ∧ Below w.heap.size w wr) (fun _ x _ => 12 - (intOf x).toNat)
  case atStart => exact ⟨0, by omega, rfl, rfl, by simpa [marks] using hown2, hb2⟩
  case round =>
    clear hown2 hb2
    obtain ⟨k, hk, rfl, rfl, hown, hb⟩ := hrel
    by_cases hlt : k < 12
    · go_wp2_with fail
      refine (markByte_any _ _ _).mono ?_
      rintro e w' ⟨rfl, rfl⟩
      go_wp2_with (at_builtin; refine wpList_appB_fits rfl _ _ rfl w.heap.size w.heap.size (n + k) (n + 12) (bs ++ marks 1 k) (some ⟨wr.heap.size, 0, none⟩) 1 1 [mkB 1 k] rfl rfl ?c1 ?c2 ?c3 ?c4 ?_)
      case c1 => exact hown.keep ((Below.refl _ _).alloc (Nat.le_refl _) _)
      case c2 => exact rd_one _ _ _ rfl
      case c3 => rfl
      case c4 => omega
      intro w3 hown3 hg3
      have hsz := hb.size
      have hb3 : Below w.heap.size w w3 := (hb.alloc hsz _).grown hg3 (by simp; omega) (by intro k hk; injection hk with hk; omega)
      go_wp2
      go_roundw
      case rel =>
        refine ⟨k + 1, by omega, by go_num, by rw [Nat.add_assoc], ?_, hb3⟩
        rw [marks_snoc]
        exact hown3
      case measure => simp [intOf]; omega
    · have hk' : k = 12 := by omega
      subst hk'
      go_wp2
      go_ret
      obtain ⟨hf, _, _⟩ := hown.full
      exact ⟨w.heap.size, rfl, hf, Nat.le_refl _, hb⟩
theorem marks_get (k : Int) (n i : Nat) (h : i < (marks k n).length) : (marks k n)[i] = mkB k (i : Int) := by simp [marks]
set_option maxRecDepth 100000 in
set_option maxHeartbeats 400000 in
theorem kept_true (b : Option Addr) (bs : List UInt8) (g n c : Nat) (w : World) (hx : Rw w g (lent bs)) (hy : RdB w b bs) (hn : n = bs.length) (hle : n ≤ 1048576) :
    Calls Try.prog 14 #[.slice (some ⟨g, 0, none⟩) n (n + 12), .slice b n c] w fun e w' => e = .returned (.bool true) ∧ Below w.heap.size w w' := by
  have Hn := hide hn
  clear hn
  go_enter Try.func14, Try.ntmps14
  go_wp2_with fail
  go_loopw [6] (fun x wr => ∃ k : Nat, k ≤ n + 12 ∧ x = .int .i64 k ∧ Below w.heap.size w wr) (fun x _ => n + 12 - (intOf x).toNat)
  case atStart => exact ⟨0, Nat.zero_le _, rfl, Below.refl _ _⟩
  case round =>
    obtain ⟨k, hk, rfl, hb⟩ := hrel
    have hll : (lent bs).length = n + 12 := by unfold lent; rw [List.length_append, length_marks, ← Hn.out]
    by_cases hlt : k < n + 12
    · have hcx := (hx.keep hb).cell k (by omega)
      by_cases hkn : k < n
      · have hky : k < bs.length := by have := Hn.out; omega
        obtain ⟨by_, oy, hb', hcy⟩ := (hy.keep hb).cellAt k hky
        subst hb'
        have he : (lent bs)[k]'(by omega) = bs[k] := by unfold lent; rw [List.getElem_append_left]
        rw [he] at hcx
        have hbeq : (((bs[k]'hky).toNat : Int) == ((bs[k]'hky).toNat : Int)) = true := by simp
        have h1 : (k : Int) < n := by omega
        have h2 : decide (n ≤ k) = false := by simp; omega
        clear he hll
        go_wp2_with fail
        go_quiet (fail)
        go_wp2
        go_roundw
        case rel => exact ⟨k + 1, by omega, by go_num, hb.trans ⟨rfl, rfl, rfl, Nat.le_refl _, fun _ _ => rfl⟩⟩
        case measure => simp [intOf]; omega
      · have he : (lent bs)[k]'(by omega) = mkB 1 ((k - n : Nat) : Int) := by
          have h0 := Hn.out
          unfold lent
          rw [List.getElem_append_right (by omega), marks_get]
          congr 2; omega
        rw [he] at hcx
        have hsub : (k : Int) - n = ((k - n : Nat) : Int) := by omega
        have hm : ∀ W, Calls Try.prog 33 #[.int .i64 1, .int .i64 ((k : Int) - n)] W fun e w' => e = .returned (.int .u8 (mkB 1 ((k - n : Nat) : Int)).toNat) ∧ w' = W := by
          intro W
          rw [hsub]
          exact (markByte_any 1 _ W).mono fun e w' ⟨h1, h2⟩ => ⟨h1, h2.symm⟩
        have Hm := hide hm
        generalize (mkB 1 ((k - n : Nat) : Int)) = q at *
        have hbeq : ((q.toNat : Int) == (q.toNat : Int)) = true := by simp
        have h1 : decide (k < n) = false := by simp; omega
        have h3 : n ≤ k := by omega
        have h2 : (n : Int) ≤ k := by omega
        clear he hll hsub hm hkn
        go_wp2_with fail
        go_quiet ((go_at_call 33; exact Calls.quiet_of_same (Hm.out _)))
        go_wp2
        go_roundw
        case rel => exact ⟨k + 1, by omega, by go_num, hb.trans ⟨rfl, rfl, rfl, Nat.le_refl _, fun _ _ => rfl⟩⟩
        case measure => simp [intOf]; omega
    · go_wp2
      go_ret
      exact ⟨rfl, hb⟩
set_option maxRecDepth 100000 in
set_option maxHeartbeats 400000 in
theorem pick_any (x : Int) (n : Nat) (w : World) (hn : 1 ≤ n) (hn2 : n ≤ 1048576) :
    Calls Try.prog 19 #[.int .i64 x, .int .i64 n] w fun e w' => ∃ p : Nat, p < n ∧ e = .returned (.int .i64 p) ∧ w = w' := by
  have hlo : -(n : Int) < x.tmod n := by
    have h1 := Int.tmod_eq_emod (a := x) (b := (n : Int))
    have h2 := Int.emod_nonneg x (show (n : Int) ≠ 0 by omega)
    rw [h1]; split <;> omega
  have hhi : x.tmod n < n := Int.tmod_lt_of_pos x (by omega)
  by_cases h : x.tmod n < 0
  · have hfin : Hid (∃ p : Nat, p < n ∧ x.tmod n + n = p) := ⟨(x.tmod n + n).toNat, by omega, by omega⟩
    go_enter Try.func19, Try.ntmps19
    go_wp2
    go_ret
    obtain ⟨p, h1, h2⟩ := hfin.out
    exact ⟨p, h1, ret_int h2, rfl⟩
  · have h' : 0 ≤ x.tmod n := by omega
    have hfin : Hid (∃ p : Nat, p < n ∧ x.tmod n = p) := ⟨(x.tmod n).toNat, by omega, by omega⟩
    clear h
    go_enter Try.func19, Try.ntmps19
    go_wp2
    go_ret
    obtain ⟨p, h1, h2⟩ := hfin.out
    exact ⟨p, h1, ret_int h2, rfl⟩
end Go.Proofs.Ytofbcgehemclbaa
