/- The reference of layer 3: Kids. -/
import Derived.Test.YtofbcgehemclbaaLr6
import Derived.Test.YtofbcgehemclbaaLp
import Derived.Test.YtofbcgehemclbaaLo
import Derived.Test.YtofbcgehemclbaaLb10
namespace Go.Proofs.Ytofbcgehemclbaa
open Go.RowKit Bm
set_option maxRecDepth 100000 in
set_option maxHeartbeats 1000000 in
theorem rkids_noparent (a : Option Addr) (bs : List UInt8) (n c : Nat) (x : Int) (w : World) (hr : RdB w a bs) (hn : n = bs.length) (hle : (n : Int) ≤ 9223372036854775807) (hs : ¬ ∃ pp, IsL bs pp) :
    Calls Try.prog 12 #[.slice a n c, .int .i64 x] w fun e w' => e = .returned (.tuple #[.slice none 0 0, .int .i64 2]) ∧ Below w.heap.size w w' := by
  have hB := Below.refl w.heap.size w
  have Hn := hide hn
  have Hs := hide hs
  clear hn hs
  go_enter Try.func12, Try.ntmps12
  go_wp2_with fail
  refine (rsteps_no a bs n c _ hr Hn.out hle Hs.out).mono ?_
  rintro e w1 ⟨rfl, hb1⟩
  have hB2 : Below w.heap.size w w1 := by first | exact chain0 hB hb1 | exact chain1 hB hb1 | exact chain2 hB hb1 | exact chain3 hB hb1
  clear hB
  have hB := hB2
  clear hB2
  go_wp2
  go_ret2
  exact ⟨rfl, hB⟩
set_option maxRecDepth 100000 in
set_option maxHeartbeats 1000000 in
theorem rkids_count (a : Option Addr) (bs : List UInt8) (pp : List (List Bool)) (n c : Nat) (x : Int) (w : World) (hr : RdB w a bs) (hn : n = bs.length) (hle : (n : Int) ≤ 9223372036854775807) (hs : IsL bs pp) (hx : x < 0 ∨ 16384 < x) :
    Calls Try.prog 12 #[.slice a n c, .int .i64 x] w fun e w' => e = .returned (.tuple #[.slice none 0 0, .int .i64 2]) ∧ Below w.heap.size w w' := by
  have hB := Below.refl w.heap.size w
  have Hn := hide hn
  clear hn
  by_cases h1 : x < 0
  · clear hx
    go_enter Try.func12, Try.ntmps12
    go_wp2_with fail
    refine (rsteps_yes a bs pp n c _ hr Hn.out hle hs).mono ?_
    rintro e w1 ⟨a1, c1, rfl, ⟨h2, hc1⟩, hb1⟩
    have hB2 : Below w.heap.size w w1 := by first | exact chain0 hB hb1 | exact chain1 hB hb1 | exact chain2 hB hb1 | exact chain3 hB hb1
    clear hB
    have hB := hB2
    clear hB2
    go_wp2
    go_ret2
    exact ⟨rfl, hB⟩
  · have h3 : 0 ≤ x := by omega
    have h4 : 16384 < x := by omega
    clear hx h1
    go_enter Try.func12, Try.ntmps12
    go_wp2_with fail
    refine (rsteps_yes a bs pp n c _ hr Hn.out hle hs).mono ?_
    rintro e w1 ⟨a1, c1, rfl, ⟨h2, hc1⟩, hb1⟩
    have hB2 : Below w.heap.size w w1 := by first | exact chain0 hB hb1 | exact chain1 hB hb1 | exact chain2 hB hb1 | exact chain3 hB hb1
    clear hB
    have hB := hB2
    clear hB2
    go_wp2
    go_ret2
    exact ⟨rfl, hB⟩
def sizeS : Value → Nat
  | .string s => s.size
  | _ => 0
theorem txS_last0 (l : List Bool) (p : Nat) (Y : ByteArray) (hY : Y = txS l) (hl : l.length = p + 1) (hb : l.getD p false = false) : Y.size = p + 1 ∧ ∀ h : p < Y.size, ((Y[p]'h).toNat : Int) = 48 := by
  subst hY
  refine ⟨by rw [size_txS, hl], fun h => ?_⟩
  rw [txS_get, hb]; rfl
theorem txS_last1 (l : List Bool) (p : Nat) (Y : ByteArray) (hY : Y = txS l) (hl : l.length = p + 1) (hb : l.getD p false = true) : Y.size = p + 1 ∧ ∀ h : p < Y.size, ((Y[p]'h).toNat : Int) = 49 := by
  subst hY
  refine ⟨by rw [size_txS, hl], fun h => ?_⟩
  rw [txS_get, hb]; rfl
def RKidsPost (w : World) (n : Nat) (rs : List (List Bool)) (e : Ending) (w' : World) : Prop :=
  ((∀ r ∈ rs, r.length ≤ 1024) ∧ ∃ a c, e = .returned (.tuple #[.slice a n c, .int .i64 0]) ∧ RdP w' a (rs.map pkL) ∧ Below w.heap.size w w') ∨
  ((∃ r ∈ rs, 1024 < r.length) ∧ e = .returned (.tuple #[.slice none 0 0, .int .i64 140]) ∧ Below w.heap.size w w')
/-- bytes in a block of bytes -/
def TgB (W : World) (a : Option Addr) (bs : List UInt8) : Prop := bs = [] ∨ ∃ b off cur fz, a = some ⟨b, off, none⟩ ∧ W.heap[b]? = some (.cells cur 5 fz) ∧ ∀ i (h : i < bs.length), cur[off + i]? = some (.int .u8 ((bs[i]'h).toNat : Int))
theorem TgB.rd {W : World} {a : Option Addr} {bs : List UInt8} (h : TgB W a bs) : RdB W a bs := by
  rcases h with h | ⟨b, off, cur, fz, ha, hh, hc⟩
  · exact .inl h
  · exact .inr ⟨b, off, ha, lt_of_heap hh, fun i hi => by rw [World.cell?, hh]; exact hc i hi⟩
theorem TgB.keep {W W' : World} {a : Option Addr} {bs : List UInt8} (h : TgB W a bs) (hb : Below W.heap.size W W') : TgB W' a bs := by
  rcases h with h | ⟨b, off, cur, fz, ha, hh, hc⟩
  · exact .inl h
  · exact .inr ⟨b, off, cur, fz, ha, heap_keep hh hb, hc⟩
theorem TgB.other {a : Option Addr} {m : Nat} {W W' : World} {bs : List UInt8} {size n : Nat} {v : Value} {xs : List Value} (h : TgB W a bs) (hg : W.grownBy W' v.ownBlock) (ho : W.ownsRow m 22 size v n xs) : TgB W' a bs := by
  rcases h with h | ⟨b, off, cur, fz, ha, hh, hc⟩
  · exact .inl h
  · refine .inr ⟨b, off, cur, fz, ha, (hg.block b (lt_of_heap hh) ?_).trans hh, hc⟩
    intro e
    rcases ho.2 with ⟨e1, _⟩ | ⟨g', cap', cur', e1, _, hh', _⟩
    · rw [e1] at e; cases e
    · rw [e1] at e
      injection e with e
      dsimp only at e
      subst e
      rw [hh] at hh'
      simp at hh'
theorem TgB.own {W : World} {B : Nat} {a : Option Addr} {n cap : Nat} {bs : List UInt8} (h : OwB W B (.slice a n cap) bs) : TgB W a bs := by
  by_cases h0 : bs = []
  · exact .inl h0
  · rcases h.2 with ⟨_, h1⟩ | ⟨g, cap', cur, hv, hg, hh, _, _, hsz, hcur⟩
    · exact absurd (List.length_eq_zero_iff.1 h1) h0
    · injection hv with hv
      subst hv
      refine .inr ⟨g, 0, cur, (0, 0), rfl, hh, fun i hi => ?_⟩
      have h2 := h.rd
      rcases h2 with h2 | ⟨b, off, ha, _, hc⟩
      · exact absurd h2 h0
      · injection ha with ha
        injection ha with e1 e2
        subst e1 e2
        have := hc i hi
        rw [World.cell?, hh] at this
        exact this
theorem rpackT (l : List Bool) (X : ByteArray) (w : World) (hl : l.length ≤ 1048576) (hX : X = txS l) :
    Calls Try.prog 53 #[.string X] w fun e w' => ∃ a cap, e = .returned (.slice a (nb l.length) cap) ∧ TgB w' a (pkL l) ∧ Below w.heap.size w w' := by
  subst hX
  exact (rpack_any l w hl).mono fun e w' ⟨v, he, hown, hb⟩ => by
    obtain ⟨a, c, hv⟩ := hown.forms
    subst hv
    rw [length_pkL] at he
    exact ⟨a, c, he, TgB.own hown, hb⟩
set_option maxRecDepth 100000 in
set_option maxHeartbeats 1000000 in
theorem labelT (a : Option Addr) (tt : List (List Bool)) (r : List Bool) (n c : Nat) (w : World) (hr : RdT w a tt) (hn : n = tt.length) (hle : r.length ≤ 1024) (hrr : r = wr tt) :
    Calls Try.prog 38 #[.slice a n c] w fun e w' => ∃ a cap, e = .returned (.tuple #[.slice a (nb r.length) cap, .bool true]) ∧ TgB w' a (pkL r) ∧ Below w.heap.size w w' := by
  have hB := Below.refl w.heap.size w
  obtain ⟨X, hX⟩ : ∃ X, X = txS r := ⟨_, rfl⟩
  have hXs : X.size = r.length := by rw [hX, size_txS]
  have hb : (wr tt).length ≤ 100000 := by rw [← hrr]; omega
  have hX2 : X = txS (wr tt) := by rw [hX, hrr]
  have HX := hide hX
  have HX2 := hide hX2
  have HXs := hide hXs
  have Hn := hide hn
  clear hX hX2 hXs hrr hn
  have hI : (X.size : Int) ≤ 1024 := by have := HXs.out; omega
  go_enter Try.func38, Try.ntmps38
  go_wp2_with fail
  refine (bits_any a tt X n c _ hr Hn.out hb HX2.out).mono ?_
  rintro e w1 ⟨rfl, hb1⟩
  have hB2 : Below w.heap.size w w1 := by first | exact chain0 hB hb1 | exact chain1 hB hb1 | exact chain2 hB hb1 | exact chain3 hB hb1
  clear hB
  have hB := hB2
  clear hB2
  go_wp2_with fail
  refine (rpackT r X _ (by omega) HX.out).mono ?_
  rintro e w2 ⟨a2, c2, rfl, h2, hb2⟩
  have hB2 : Below w.heap.size w w2 := by first | exact chain0 hB hb2 | exact chain1 hB hb2 | exact chain2 hB hb2 | exact chain3 hB hb2
  clear hB
  have hB := hB2
  clear hB2
  go_wp2
  go_ret2
  exact ⟨a2, c2, rfl, h2, hB⟩
/-- the outer loop: i children are made -/
structure Rkd (w w1 W : World) (a1 : Option Addr) (pp : List (List Bool)) (k i : Nat) (v : Value) (ps : List PcV) : Prop where
  own : W.ownsRow w1.heap.size 22 1 v ps.length (vsP ps)
  pc : ∀ p ∈ ps, TgB W p.1 p.2.2
  rs : ps.map (·.2.2) = (kidRows pp k i).map pkL
  rd : RdT w1 a1 pp
  ok : ∀ r ∈ kidRows pp k i, r.length ≤ 1024
  rb : Below w1.heap.size w1 W
  be : Below w.heap.size w W
theorem Rkd.keep {w w1 W W' : World} {a1 : Option Addr} {pp : List (List Bool)} {k i : Nat} {v : Value} {ps : List PcV} (h : Rkd w w1 W a1 pp k i v ps) (hb : Below W.heap.size W W') : Rkd w w1 W' a1 pp k i v ps :=
  ⟨ow_keep h.own hb, fun p hp => (h.pc p hp).keep hb, h.rs, h.rd, h.ok, chain0 h.rb hb, chain0 h.be hb⟩
theorem shr_rem (i b : Nat) : (((i : Int) + 1) / 2 ^ b).tmod 2 = if bitN (i + 1) b then 1 else 0 := by
  have h1 : (((i : Int) + 1) / 2 ^ b) = (((i + 1) / 2 ^ b : Nat) : Int) := by simp
  unfold bitN
  rw [h1]
  generalize (i + 1) / 2 ^ b = n
  have h5 : ((n : Int)).tmod 2 = ((n % 2 : Nat) : Int) := by
    rw [Int.tmod_eq_emod_of_nonneg (by omega)]; simp
  rw [h5]
  have h4 : n % 2 = 0 ∨ n % 2 = 1 := by omega
  rcases h4 with h4 | h4 <;> rw [h4] <;> simp
set_option maxRecDepth 100000 in
set_option maxHeartbeats 4000000 in
theorem rkids_any (a : Option Addr) (bs : List UInt8) (pp : List (List Bool)) (n c m k : Nat) (w : World) (hr : RdB w a bs) (hn : n = bs.length) (hle : (n : Int) ≤ 9223372036854775807) (hs : IsL bs pp) (hm : m ≤ 16384) (hk1 : m < 2 ^ k) (hk2 : ∀ j, j < k → 2 ^ j ≤ m) :
    Calls Try.prog 12 #[.slice a n c, .int .i64 m] w (RKidsPost w m (kidRows pp k m)) := by
  have hB := Below.refl w.heap.size w
  have hpl := wr_le hs.2.1
  have hk15 : k ≤ 15 := by
    rcases Nat.lt_or_ge 15 k with h | h
    · have := hk2 15 h
      have h2 : 2 ^ 15 = 32768 := by decide
      omega
    · exact h
  obtain ⟨i1, hi1, hi2, hi3, hi4⟩ := info_parts pieceInfo
  have Hi : Hid (Try.prog.info? 22 = some i1 ∧ i1.zero = some (.slice none 0 0) ∧ i1.size = 1 ∧ i1.bytes = 24) := ⟨hi1, hi2, hi3, hi4⟩
  obtain ⟨i0, hj, hj1, hj2, hj3⟩ := info_parts txtInfo
  have Hj : Hid (_ ∧ _ ∧ _ ∧ _) := ⟨hj, hj1, hj2, hj3⟩
  clear hi1 hi2 hi3 hi4 hj hj1 hj2 hj3
  have Hn := hide hn
  have Hk1 := hide hk1
  have Hk2 := hide hk2
  clear hn hk1 hk2
  go_enter Try.func12, Try.ntmps12
  go_wp2_with fail
  refine (rsteps_yes a bs pp n c _ hr Hn.out hle hs).mono ?_
  rintro e w1 ⟨a1, c1, rfl, ⟨h2, hc1⟩, hb1⟩
  have hB2 : Below w.heap.size w w1 := by first | exact chain0 hB hb1 | exact chain1 hB hb1 | exact chain2 hB hb1 | exact chain3 hB hb1
  clear hB
  have hB := hB2
  clear hB2
  go_wp2_with fail
  go_loop [8] (fun x => ∃ j : Nat, j ≤ k ∧ x = .int .i64 j) (fun x => 16 - (intOf x).toNat)
  case atStart => exact ⟨0, Nat.zero_le _, rfl⟩
  case round =>
    obtain ⟨j, hj, rfl⟩ := hrel
    have hpw : wrap64 (2 ^ j) = ((2 ^ j : Nat) : Int) := pow_wrap j (by omega)
    by_cases hjk : j < k
    · have hd : decide (wrap64 (2 ^ j) ≤ (m : Int)) = true := by
        rw [hpw]; exact decide_eq_true (Int.ofNat_le.2 (Hk2.out j hjk))
      clear hpw
      go_wp2
      go_round
      case rel => exact ⟨j + 1, by omega, by go_num⟩
      case measure => simp [intOf]; omega
    · have hjk' : j = k := by omega
      subst hjk'
      have hd : decide (wrap64 (2 ^ j) ≤ (m : Int)) = false := by
        rw [hpw]; exact decide_eq_false (fun h => absurd (Int.ofNat_le.1 h) (Nat.not_le.2 Hk1.out))
      have K0 : Rkd w w1 w1 a1 pp j 0 (.slice none 0 0) [] := ⟨ow_nil _ _ _ _, fun p hp => absurd hp (by simp), rfl, h2, fun r hr => by simp [kidRows] at hr, Below.refl _ _, hB⟩
      clear h2 hB hpw
      go_wp2_with fail
      clear hd
      go_loopw [9, 10] (fun v x W => ∃ (i : Nat) (ps : List PcV), i ≤ m ∧ x = .int .i64 ((i : Int) + 1) ∧ Rkd w w1 W a1 pp j i v ps) (fun _ x _ => m + 1 - (intOf x).toNat)
      case atStart => exact ⟨0, [], Nat.zero_le _, rfl, K0⟩
      case round =>
        clear K0
        obtain ⟨i, ps, hi, rfl, K⟩ := hrel
        by_cases hlt : i < m
        · have hlI : (i : Int) + 1 ≤ m := by omega
          have hfl := full_length j (i + 1)
          obtain ⟨fl, hfl2⟩ : ∃ fl, fl = full j (i + 1) := ⟨_, rfl⟩
          rw [← hfl2] at hfl
          have hfg : ∀ t, t < j → fl.getD t false = bitN (i + 1) (j - 1 - t) := fun t ht => by rw [hfl2]; exact full_get j (i + 1) t ht
          have hkid : ∀ e, e < j → (∀ b, b < e → bitN (i + 1) b = false) → bitN (i + 1) e = true → kid j (i + 1) = fl.take (j - e) := fun e h1 h2 h3 => by rw [hfl2]; exact kid_eq j (i + 1) e h1 h2 h3
          have Hkid := hide hkid
          have Hfl := hide hfl
          have Hfg := hide hfg
          clear hkid hfl hfl2 hfg
          go_wp2_with fail
          obtain ⟨W0, hW0⟩ : ∃ W, W = wr := ⟨_, rfl⟩
          rw [← hW0] at K
          have hb0 : Below W0.heap.size W0 wr := by rw [hW0]; exact Below.refl _ _
          clear hW0
          go_loopw [11, 12] (fun vs x W => ∃ (t : Nat) (Y : ByteArray), t ≤ j ∧ x = .int .i64 ((j : Int) - 1 - t) ∧ vs = .string Y ∧ Hid (Y = txS (fl.take t)) ∧ Y.size ≤ 16 ∧ Below W0.heap.size W0 W) (fun _ x _ => (intOf x + 1).toNat)
          case atStart => exact ⟨0, ⟨#[]⟩, Nat.zero_le _, by simp, rfl, hide rfl, by decide, hb0⟩
          case round =>
            clear hb0
            obtain ⟨t, Y, ht, rfl, rfl, hY, hYs, hbW⟩ := hrel
            by_cases hte : t < j
            · obtain ⟨b, hb⟩ : ∃ b : Nat, (j : Int) - 1 - t = (b : Int) := ⟨j - 1 - t, by omega⟩
              have hand := shr_rem i b
              rw [hb]
              have hb15 : b ≤ 15 := by omega
              have Hb := hide hb
              clear hb
              have hstr : ∀ u : UInt8, (convert 22 9 (.slice (some ⟨wr.heap.size, 0, none⟩) 1 1)).run Try.prog (wr.alloc (.cells #[.int .u8 (u.toNat : Int)] 5)) = .ok (.string ⟨#[u]⟩) (wr.alloc (.cells #[.int .u8 (u.toNat : Int)] 5)) := fun u => (rd_one wr _ u rfl).str 1 1 rfl
              have hbW2 : ∀ o, Below W0.heap.size W0 (wr.alloc o) := fun o => hbW.alloc hbW.size _
              have Hb2 := hide hbW2
              clear hbW hbW2
              cases hbt : bitN (i + 1) b
              · rw [hbt] at hand
                have hs48 := hstr 48
                have hY2 : Y ++ ⟨#[48]⟩ = txS (fl.take (t + 1)) := by
                  rw [hY.out, take_snoc fl t (by have := Hfl.out; omega), Hfg.out t (by omega), show j - 1 - t = b from by have := Hb.out; omega, hbt, ← txS_append]; rfl
                have hY3 : (Y ++ ⟨#[48]⟩).size ≤ 16 := by rw [hY2, size_txS, List.length_take]; omega
                have HY2 := hide hY2
                have HY3 := hide hY3
                clear hY2 hY3 hbt hstr
                simp only [show ((48 : UInt8).toNat : Int) = 48 from rfl] at hs48
                go_wp2
                go_roundw
                case rel => exact ⟨t + 1, _, by omega, by have := Hb.out; congr 1; omega, rfl, HY2, HY3.out, Hb2.out _⟩
                case measure =>
                  have := Hb.out
                  first | (simp [intOf]; done) | (simp [intOf]; omega)
              · rw [hbt] at hand
                have hs49 := hstr 49
                have hY2 : Y ++ ⟨#[49]⟩ = txS (fl.take (t + 1)) := by
                  rw [hY.out, take_snoc fl t (by have := Hfl.out; omega), Hfg.out t (by omega), show j - 1 - t = b from by have := Hb.out; omega, hbt, ← txS_append]; rfl
                have hY3 : (Y ++ ⟨#[49]⟩).size ≤ 16 := by rw [hY2, size_txS, List.length_take]; omega
                have HY2 := hide hY2
                have HY3 := hide hY3
                clear hY2 hY3 hbt hstr
                simp only [show ((49 : UInt8).toNat : Int) = 49 from rfl] at hs49
                go_wp2
                go_roundw
                case rel => exact ⟨t + 1, _, by omega, by have := Hb.out; congr 1; omega, rfl, HY2, HY3.out, Hb2.out _⟩
                case measure =>
                  have := Hb.out
                  first | (simp [intOf]; done) | (simp [intOf]; omega)
            · have htj : t = j := by omega
              subst htj
              have hneg : ¬ (0 : Int) ≤ (t : Int) - 1 - t := by omega
              obtain ⟨e, he, he1, he2⟩ := low_bit t (i + 1) (by omega) (by have := Hk1.out; omega)
              have He1 := hide he1
              have K1 := K.keep hbW
              clear he1 K hbW
              go_wp2_with fail
              go_loop [11] (fun v => ∃ (d : Nat) (Y : ByteArray), v = .string Y ∧ Hid (Y = txS (fl.take (t - d))) ∧ d ≤ e) (fun v => sizeS v)
              case atStart => exact ⟨0, Y, rfl, hY, Nat.zero_le _⟩
              case round =>
                obtain ⟨d, Z, rfl, hZ, hd⟩ := hrel
                obtain ⟨p, hp⟩ : ∃ p, t - d = p + 1 := ⟨t - d - 1, by omega⟩
                by_cases hde : d < e
                · obtain ⟨hZs, hZg⟩ := txS_last0 (fl.take (t - d)) p Z hZ.out (by rw [List.length_take, Hfl.out]; omega) (by
                    rw [List.getD_eq_getElem?_getD, List.getElem?_take, if_pos (by omega), ← List.getD_eq_getElem?_getD, Hfg.out p (by omega), show t - 1 - p = d from by omega]
                    exact He1.out d hde)
                  have hcut : Z.extract 0 p = txS (fl.take (t - (d + 1))) := by
                    have := txS_extract (fl.take (t - d)) 0 p
                    rw [Nat.zero_add, List.drop_zero, List.take_take, ← hZ.out] at this
                    rw [show t - (d + 1) = p from by omega]
                    rw [this, Nat.min_eq_left (by omega)]
                  have hcut2 := hide hcut
                  clear hcut
                  go_wp2
                  go_round
                  case rel => exact ⟨d + 1, _, rfl, hcut2, by omega⟩
                  case measure => simp [sizeS, ByteArray.size_extract]; (try omega)
                · have hde : d = e := by omega
                  subst hde
                  obtain ⟨hZs, hZg⟩ := txS_last1 (fl.take (t - d)) p Z hZ.out (by rw [List.length_take, Hfl.out]; omega) (by
                    rw [List.getD_eq_getElem?_getD, List.getElem?_take, if_pos (by omega), ← List.getD_eq_getElem?_getD, Hfg.out p (by omega), show t - 1 - p = d from by omega]
                    exact he2)
                  have hkd : Z = txS (kid t (i + 1)) := by rw [Hkid.out d he He1.out he2, hZ.out]
                  obtain ⟨kd, hkd2⟩ : ∃ q, q = kid t (i + 1) := ⟨_, rfl⟩
                  have hkl := kid_last t (i + 1) (by omega) (by have := Hk1.out; omega)
                  rw [← hkd2] at hkd hkl
                  have hkl2 := hkl.2
                  have Hkd := hide hkd2
                  have HZk := hide hkd
                  have He2 := hide he2
                  clear hkd hkd2 hkl he2
                  obtain ⟨r, hrr⟩ : ∃ r, r = Bm.wr (pp ++ [kd]) := ⟨_, rfl⟩
                  have hrl : r.length ≤ 100000 := by
                    rw [hrr, wr_snoc, List.length_append, enc_length]
                    have := hs.2.1; omega
                  have Hrr := hide hrr
                  clear hrr
                  have own0 : (wr.alloc (.cells #[] 9 (0, 0))).ownsRow wr.heap.size 9 1 (.slice (some ⟨wr.heap.size, 0, none⟩) 0 0) 0 [] := ⟨rfl, .inr ⟨_, 0, #[], rfl, Nat.le_refl _, heap_alloc_new _ _, Nat.le_refl _, by decide, rfl, rfl⟩⟩
                  have hBa : Below wr.heap.size wr (wr.alloc (.cells #[] 9 (0, 0))) := (Below.refl _ _).alloc (Nat.le_refl _) _
                  have hrd0 := RdT.keep (RdT.keep K1.rd K1.rb) hBa
                  obtain ⟨Wa, hWa⟩ : ∃ W, W = wr.alloc (.cells #[] 9 (0, 0)) := ⟨_, rfl⟩
                  have hst : ∀ p W, Sem.run Try.prog (storeCells p (#[] : Array Value).toList) W = .ok () W := fun _ _ => rfl
                  have hpu : ∀ W, Sem.run Try.prog (pure (#[] : Array Value)) W = .ok #[] W := fun _ => rfl
                  rw [← hWa] at own0 hBa hrd0
                  have Own0 := hide own0
                  have Hrd0 := hide hrd0
                  have HWa := hide hWa
                  clear own0 hrd0 hWa
                  go_wp2_with (at_builtin; rw [← HWa.out]; refine wpList_appR rfl _ _ 54 rfl i0 _ 16 c1 Try.underlying54 Hj.out.1 Hj.out.2.1 Hj.out.2.2.1 Hj.out.2.2.2 rfl (by decide) rfl rfl ?e1 Own0.out Hrd0.out (m := pp.length) ?e5 ?e2 ?e3 ?e4 ?_)
                  case e1 => intro u hu; simp [tcells] at hu; obtain ⟨_, _, rfl⟩ := hu; rfl
                  case e5 => simp [tcells]
                  case e2 => omega
                  case e3 => omega
                  case e4 => exact hBa.size
                  intro v4 W4 own4 hg4 _
                  have hB4 : Below wr.heap.size wr W4 := hBa.grown hg4 hBa.size (fun k hk => Nat.le_of_eq (by simpa [Value.ownBlock] using hk))
                  have hk6 := (Below.refl W4.heap.size W4).alloc (Nat.le_refl _) (.cells #[.string Z] 9)
                  have own6 := ow_keep own4 hk6
                  have hrd6 := Rd.new W4 9 [.string Z]
                  have be6 := chain0 hB4 hk6
                  have hlt6 := ow_lt own6
                  have Own6 := hide own6
                  have Hrd6 := hide hrd6
                  have Hlt6 := hide hlt6
                  clear own4 own6 hrd6 hlt6 hB4 hk6 hBa hg4 Own0 Hrd0 HWa
                  go_wp2_with (at_builtin; refine wpList_appR rfl _ _ 54 rfl i0 _ 16 1 Try.underlying54 Hj.out.1 Hj.out.2.1 Hj.out.2.2.1 Hj.out.2.2.2 rfl (by decide) rfl rfl ?f1 Own6.out Hrd6.out (m := 1) rfl ?f2 ?f3 ?f4 ?_)
                  case f1 => intro u hu; simp at hu; subst hu; rfl
                  case f2 => omega
                  case f3 => omega
                  case f4 => exact be6.size
                  intro v7 W7 own7 hg7 _
                  have hB7 : Below wr.heap.size wr W7 := be6.grown hg7 be6.size (fun k hk => (Hlt6.out k hk).1)
                  obtain ⟨g7, cap7, rfl, _, _, _⟩ := ow_form own7 (by omega)
                  have hrd7 : RdT W7 (some ⟨g7, 0, none⟩) (pp ++ [kd]) := by
                    have := ow_rd own7
                    rw [HZk.out] at this
                    simpa [tcells, RdT] using this
                  have Hrd7 := hide hrd7
                  have K7 := K1.keep hB7
                  clear own7 hrd7 hg7 be6 Own6 Hrd6 Hlt6 K1 hB7
                  have hlab : Calls Try.prog 38 #[.slice (some ⟨g7, 0, none⟩) (pp.length + 1) cap7] W7 fun e w' => (r.length ≤ 1024 ∧ ∃ a cap, e = .returned (.tuple #[.slice a (nb r.length) cap, .bool true]) ∧ TgB w' a (pkL r) ∧ Below W7.heap.size W7 w') ∨ (1024 < r.length ∧ e = .returned (.tuple #[.slice none 0 0, .bool false]) ∧ Below W7.heap.size W7 w') := by
                    by_cases hr8 : r.length ≤ 1024
                    · exact (labelT (some ⟨g7, 0, none⟩) (pp ++ [kd]) r (pp.length + 1) cap7 W7 Hrd7.out (by simp) hr8 Hrr.out).mono fun e w' h => .inl ⟨hr8, h⟩
                    · refine (label_any (some ⟨g7, 0, none⟩) (pp ++ [kd]) r (pp.length + 1) cap7 W7 Hrd7.out (by simp) hrl Hrr.out).mono fun e w' h => ?_
                      rcases h with h | h
                      · exact absurd h.1 hr8
                      · exact .inr h
                  have Hlab := hide hlab
                  clear hlab
                  go_wp2_with fail
                  refine Hlab.out.mono ?_
                  rintro e w8 (⟨hr8, a8, c8, rfl, hp8, hb8⟩ | ⟨hr8, rfl, hb8⟩)
                  · have K8 := K7.keep hb8
                    clear K7 hb8
                    have hk9 := (Below.refl w8.heap.size w8).alloc (Nat.le_refl _) (.cells #[.slice a8 (nb r.length) c8] 22)
                    have K9 := K8.keep hk9
                    have hp9 := hp8.keep hk9
                    have hrd := Rd.new w8 22 [.slice a8 (nb r.length) c8]
                    have hpsl : ps.length = i := by
                      have := congrArg List.length K9.rs
                      simpa [kidRows] using this
                    have Hrd := hide hrd
                    have Hp9 := hide hp9
                    have Hpsl := hide hpsl
                    clear hk9 hrd hp9 hp8 K8 hpsl
                    go_wp2_with (at_builtin; refine wpList_appR rfl _ _ 25 rfl i1 _ 24 1 Try.underlying25 Hi.out.1 Hi.out.2.1 Hi.out.2.2.1 Hi.out.2.2.2 rfl (by decide) rfl rfl ?g1 K9.own Hrd.out (m := 1) rfl ?g2 ?g3 ?g4 ?_)
                    case g1 => intro u hu; simp at hu; subst hu; rfl
                    case g2 => have := Hpsl.out; omega
                    case g3 => have := Hpsl.out; omega
                    case g4 => exact K9.rb.size
                    intro v' W10 hown10 hg10 _
                    have hbb := fun k hk => (ow_lt K9.own k hk).1
                    have hb10 : Below w.heap.size w W10 := K9.be.grown hg10 K9.be.size (fun k hk => Nat.le_trans hb1.size (hbb k hk))
                    have hb11 : Below w1.heap.size w1 W10 := K9.rb.grown hg10 K9.rb.size hbb
                    have K10 : Rkd w w1 W10 a1 pp t (i + 1) v' (ps ++ [(a8, c8, pkL r)]) := by
                      have hkr : kidRows pp t (i + 1) = kidRows pp t i ++ [r] := by rw [kidRows_succ, Hrr.out, Hkd.out]
                      refine ⟨?_, fun p hp => ?_, ?_, K9.rd, ?_, hb11, hb10⟩
                      · rw [List.length_append, List.length_singleton]
                        simpa [vsP, length_pkL] using hown10
                      · rcases List.mem_append.1 hp with h | h
                        · exact (K9.pc p h).other hg10 K9.own
                        · simp at h
                          subst h
                          exact Hp9.out.other hg10 K9.own
                      · rw [hkr, List.map_append, List.map_append, K9.rs]; rfl
                      · intro x hx
                        rw [hkr] at hx
                        rcases List.mem_append.1 hx with h | h
                        · exact K9.ok x h
                        · simp at h; subst h; exact hr8
                    clear hown10 hg10 K9
                    go_wp2
                    go_roundw
                    case rel => exact ⟨i + 1, _, by omega, by go_num, K10⟩
                    case measure => simp [intOf]; omega
                  · have hbig : ∃ x ∈ kidRows pp t m, 1024 < x.length := by
                      refine ⟨r, ?_, hr8⟩
                      rw [kidRows, List.mem_map]
                      exact ⟨i, by simpa using hlt, by rw [← Hkd.out, Hrr.out]⟩
                    have hb6 := (K7.keep hb8).be
                    have Hbig := hide hbig
                    clear hbig hb8 K7
                    go_wp2
                    go_ret2
                    exact .inr ⟨Hbig.out, rfl, hb6⟩
        · have him : i = m := by omega
          subst him
          have hlI : ¬ (i : Int) + 1 ≤ i := by omega
          obtain ⟨a9, c9, hv⟩ := ow_forms K.own
          have hpsl : ps.length = i := by
            have := congrArg List.length K.rs
            simpa [kidRows] using this
          rw [hpsl] at hv
          subst hv
          have hrd : Rd wr a9 (vsP ps) := by
            have := K.own
            rw [hpsl] at this
            exact ow_rd this
          have Hrd := hide hrd
          clear hpsl hrd
          go_wp2
          go_ret2
          exact .inl ⟨K.ok, a9, c9, rfl, ⟨ps, K.rs, Hrd.out, fun p hp => (K.pc p hp).rd⟩, K.be⟩
end Go.Proofs.Ytofbcgehemclbaa

