/- label.Kids. -/
import Derived.Test.YtofbcgehemclbaaLb9
import Derived.Test.YtofbcgehemclbaaLk
import Derived.Test.YtofbcgehemclbaaLp
namespace Go.Proofs.Ytofbcgehemclbaa
open Go.RowKit Bm
/-- pieces: block, room, the bits that it holds packed -/
abbrev Piece := Nat × Nat × List Bool
def vsOf (ps : List Piece) : List Value := ps.map fun p => .slice (some ⟨p.1, 0, none⟩) (nb p.2.2.length) p.2.1
structure Pcs (B : Nat) (W : World) (ps : List Piece) : Prop where
  fr : ∀ p ∈ ps, Fr B W p.1 p.2.1 (pkL p.2.2)
  up : ps.Pairwise fun a b => a.1 < b.1
theorem Fr.other {B g cap m : Nat} {W W' : World} {bs : List UInt8} {size n : Nat} {v : Value} {xs : List Value} (h : Fr B W g cap bs) (hg : W.grownBy W' v.ownBlock) (ho : W.ownsRow m 22 size v n xs) : Fr B W' g cap bs := by
  refine ⟨h.1, h.2.imp fun full ⟨h1, h2⟩ => ⟨?_, h2⟩⟩
  obtain ⟨fz, hh, hf⟩ := h1
  refine ⟨fz, (hg.block g (lt_of_heap hh) ?_).trans hh, hf⟩
  intro e
  rcases ho.2 with ⟨e1, _⟩ | ⟨g', cap', cur, e1, _, hh', _⟩
  · rw [e1] at e; cases e
  · rw [e1] at e
    injection e with e
    dsimp only at e
    subst e
    rw [hh] at hh'
    simp at hh'
theorem Pcs.keep {B : Nat} {W W' : World} {ps : List Piece} (h : Pcs B W ps) (hb : Below W.heap.size W W') : Pcs B W' ps := ⟨fun p hp => (h.fr p hp).keep hb, h.up⟩
set_option maxRecDepth 100000 in
set_option maxHeartbeats 1000000 in
theorem kids_noparent (a : Option Addr) (bs : List UInt8) (n c : Nat) (x : Int) (w : World) (hr : RdB w a bs) (hn : n = bs.length) (hle : (n : Int) ≤ 9223372036854775807) (hs : ¬ ∃ pp, IsL bs pp) :
    Calls Try.prog 11 #[.slice a n c, .int .i64 x] w fun e w' => e = .returned (.tuple #[.slice none 0 0, .int .i64 2]) ∧ Below w.heap.size w w' := by
  have hB := Below.refl w.heap.size w
  have Hn := hide hn
  have Hs := hide hs
  clear hn hs
  go_enter Try.func11, Try.ntmps11
  go_wp2_with fail
  refine (steps_no a bs n c _ hr Hn.out hle Hs.out).mono ?_
  rintro e w1 ⟨rfl, hb1⟩
  have hB2 : Below w.heap.size w w1 := by first | exact chain0 hB hb1 | exact chain1 hB hb1 | exact chain2 hB hb1 | exact chain3 hB hb1
  clear hB
  have hB := hB2
  clear hB2
  go_wp2
  go_ret2
  exact ⟨rfl, hB⟩
set_option maxRecDepth 100000 in
set_option maxHeartbeats 1000000 in
theorem kids_count (a : Option Addr) (bs : List UInt8) (pp : List (List Bool)) (n c : Nat) (x : Int) (w : World) (hr : RdB w a bs) (hn : n = bs.length) (hle : (n : Int) ≤ 9223372036854775807) (hs : IsL bs pp) (hx : x < 0 ∨ 16384 < x) :
    Calls Try.prog 11 #[.slice a n c, .int .i64 x] w fun e w' => e = .returned (.tuple #[.slice none 0 0, .int .i64 2]) ∧ Below w.heap.size w w' := by
  have hB := Below.refl w.heap.size w
  have Hn := hide hn
  clear hn
  by_cases h1 : x < 0
  · clear hx
    go_enter Try.func11, Try.ntmps11
    go_wp2_with fail
    refine (steps_yes a bs pp n c _ hr Hn.out hle hs).mono ?_
    rintro e w1 ⟨a1, c1, rfl, ⟨h2, hc1⟩, hb1⟩
    have hB2 : Below w.heap.size w w1 := by first | exact chain0 hB hb1 | exact chain1 hB hb1 | exact chain2 hB hb1 | exact chain3 hB hb1
    clear hB
    have hB := hB2
    clear hB2
    go_wp2
    go_ret2
    exact ⟨rfl, hB⟩
  · have h3 : 0 ≤ x := by omega
    have h4 : 16384 < x := by omega
    clear hx h1
    go_enter Try.func11, Try.ntmps11
    go_wp2_with fail
    refine (steps_yes a bs pp n c _ hr Hn.out hle hs).mono ?_
    rintro e w1 ⟨a1, c1, rfl, ⟨h2, hc1⟩, hb1⟩
    have hB2 : Below w.heap.size w w1 := by first | exact chain0 hB hb1 | exact chain1 hB hb1 | exact chain2 hB hb1 | exact chain3 hB hb1
    clear hB
    have hB := hB2
    clear hB2
    go_wp2
    go_ret2
    exact ⟨rfl, hB⟩
def KidsPost (w : World) (n : Nat) (rs : List (List Bool)) (e : Ending) (w' : World) : Prop :=
  ((∀ r ∈ rs, r.length ≤ 1024) ∧ ∃ a c ps, ps.map (·.2.2) = rs ∧ e = .returned (.tuple #[.slice a n c, .int .i64 0]) ∧ Rd w' a (vsOf ps) ∧ Pcs w.heap.size w' ps ∧ Below w.heap.size w w' ∧ w'.ownsRow w.heap.size 22 1 (.slice a n c) n (vsOf ps)) ∨
  ((∃ r ∈ rs, 1024 < r.length) ∧ e = .returned (.tuple #[.slice none 0 0, .int .i64 140]) ∧ Below w.heap.size w w')
/-- the outer loop: i children are made -/
structure Kd (w w1 W : World) (a1 : Option Addr) (pp : List (List Bool)) (k i : Nat) (v : Value) (ps : List Piece) : Prop where
  own : W.ownsRow w1.heap.size 22 1 v ps.length (vsOf ps)
  pc : Pcs w.heap.size W ps
  rs : ps.map (·.2.2) = kidRows pp k i
  rd : RdS w1 a1 pp
  ok : ∀ r ∈ kidRows pp k i, r.length ≤ 1024
  rb : Below w1.heap.size w1 W
  be : Below w.heap.size w W
theorem pow_wrap (j : Nat) (h : j ≤ 15) : wrap64 (2 ^ j) = ((2 ^ j : Nat) : Int) := by
  have h1 : 2 ^ j ≤ 2 ^ 15 := Nat.pow_le_pow_right (by decide) h
  have h2 : 2 ^ 15 = 32768 := by decide
  have h3 : ((2 : Int) ^ j) = ((2 ^ j : Nat) : Int) := by simp
  rw [h3]
  rw [h2] at h1
  generalize 2 ^ j = y at *
  unfold wrap64
  omega
theorem and_bitN (i e : Nat) (hi : i ≤ 16384) : bits BinOp.and .i64 (((i : Int) + 1) / 2 ^ e) 1 = if bitN (i + 1) e then 1 else 0 := by
  have h1 : (((i : Int) + 1) / 2 ^ e) = (((i + 1) / 2 ^ e : Nat) : Int) := by simp
  have h2 : (i + 1) / 2 ^ e ≤ i + 1 := Nat.div_le_self _ _
  unfold bitN
  rw [h1]
  generalize (i + 1) / 2 ^ e = n at *
  have ha : (BitVec.ofInt 64 (n : Int)).toNat = n := by
    rw [BitVec.ofInt_natCast, BitVec.toNat_ofNat]; exact Nat.mod_eq_of_lt (by omega)
  show IntKind.i64.wrap ((BitVec.ofInt 64 (n : Int) &&& BitVec.ofInt 64 (1 : Int)).toNat : Int) = _
  rw [BitVec.toNat_and, ha]
  have h3 : (BitVec.ofInt 64 (1 : Int)).toNat = 1 := by decide
  rw [h3, Nat.and_one_is_mod, IntKind.wrap_i64]
  have h4 : n % 2 = 0 ∨ n % 2 = 1 := by omega
  rcases h4 with h4 | h4 <;> rw [h4] <;> simp
theorem Kd.keep {w w1 W W' : World} {a1 : Option Addr} {pp : List (List Bool)} {k i : Nat} {v : Value} {ps : List Piece} (h : Kd w w1 W a1 pp k i v ps) (hb : Below W.heap.size W W') : Kd w w1 W' a1 pp k i v ps :=
  ⟨ow_keep h.own hb, h.pc.keep hb, h.rs, h.rd, h.ok, chain0 h.rb hb, chain0 h.be hb⟩
set_option maxRecDepth 100000 in
set_option maxHeartbeats 4000000 in
theorem kids_any (a : Option Addr) (bs : List UInt8) (pp : List (List Bool)) (n c m k : Nat) (w : World) (hr : RdB w a bs) (hn : n = bs.length) (hle : (n : Int) ≤ 9223372036854775807) (hs : IsL bs pp) (hm : m ≤ 16384) (hk1 : m < 2 ^ k) (hk2 : ∀ j, j < k → 2 ^ j ≤ m) :
    Calls Try.prog 11 #[.slice a n c, .int .i64 m] w (KidsPost w m (kidRows pp k m)) := by
  have hB := Below.refl w.heap.size w
  have hpl := wr_le hs.2.1
  have hk15 : k ≤ 15 := by
    rcases Nat.lt_or_ge 15 k with h | h
    · have := hk2 15 h
      have h2 : 2 ^ 15 = 32768 := by decide
      omega
    · exact h
  obtain ⟨i1, hi1, hi2, hi3, hi4⟩ := info_parts pieceInfo
  have Hi : Hid (Try.prog.info? 22 = some i1 ∧ i1.zero = some (.slice none 0 0) ∧ i1.size = 1 ∧ i1.bytes = 24) := ⟨hi1, hi2, hi3, hi4⟩
  clear hi1 hi2 hi3 hi4
  have Hn := hide hn
  have Hk1 := hide hk1
  have Hk2 := hide hk2
  clear hn hk1 hk2
  go_enter Try.func11, Try.ntmps11
  go_wp2_with fail
  refine (steps_yes a bs pp n c _ hr Hn.out hle hs).mono ?_
  rintro e w1 ⟨a1, c1, rfl, ⟨h2, hc1⟩, hb1⟩
  have hB2 : Below w.heap.size w w1 := by first | exact chain0 hB hb1 | exact chain1 hB hb1 | exact chain2 hB hb1 | exact chain3 hB hb1
  clear hB
  have hB := hB2
  clear hB2
  go_wp2_with fail
  go_loop [8] (fun x => ∃ j : Nat, j ≤ k ∧ x = .int .i64 j) (fun x => 16 - (intOf x).toNat)
  case atStart => exact ⟨0, Nat.zero_le _, rfl⟩
  case round =>
    obtain ⟨j, hj, rfl⟩ := hrel
    have hpw : wrap64 (2 ^ j) = ((2 ^ j : Nat) : Int) := pow_wrap j (by omega)
    by_cases hjk : j < k
    · have hd : decide (wrap64 (2 ^ j) ≤ (m : Int)) = true := by
        rw [hpw]; exact decide_eq_true (Int.ofNat_le.2 (Hk2.out j hjk))
      clear hpw
      go_wp2
      go_round
      case rel => exact ⟨j + 1, by omega, by go_num⟩
      case measure => simp [intOf]; omega
    · have hjk' : j = k := by omega
      subst hjk'
      have hd : decide (wrap64 (2 ^ j) ≤ (m : Int)) = false := by
        rw [hpw]; exact decide_eq_false (fun h => absurd (Int.ofNat_le.1 h) (Nat.not_le.2 Hk1.out))
      have hk0 : 0 < m → 0 < j := by
        intro h
        rcases Nat.eq_zero_or_pos j with h0 | h0
        · have := Hk1.out; rw [h0] at this; simp at this; omega
        · exact h0
      have Hk0 := hide hk0
      clear hpw hk0
      have K0 : Kd w w1 w1 a1 pp j 0 (.slice none 0 0) [] := ⟨ow_nil _ _ _ _, ⟨fun p hp => absurd hp (by simp), List.Pairwise.nil⟩, rfl, h2, fun r hr => by simp [kidRows] at hr, Below.refl _ _, hB⟩
      clear h2 hB
      go_wp2_with fail
      clear hd
      go_loopw [9, 10] (fun v x W => ∃ (i : Nat) (ps : List Piece), i ≤ m ∧ x = .int .i64 ((i : Int) + 1) ∧ Kd w w1 W a1 pp j i v ps) (fun _ x _ => m + 1 - (intOf x).toNat)
      case atStart => exact ⟨0, [], Nat.zero_le _, rfl, K0⟩
      case round =>
        clear K0
        obtain ⟨i, ps, hi, rfl, K⟩ := hrel
        by_cases hlt : i < m
        · have hlI : (i : Int) + 1 ≤ m := by omega
          go_wp2_with fail
          go_loop [11] (fun x => ∃ e : Nat, x = .int .i64 e ∧ Hid (∀ b, b < e → bitN (i + 1) b = false) ∧ e < j) (fun x => 16 - (intOf x).toNat)
          case atStart => exact ⟨0, rfl, hide (fun b hb => absurd hb (by omega)), Hk0.out (by omega)⟩
          case round =>
            obtain ⟨e, rfl, hz, he⟩ := hrel
            have hand := and_bitN i e (by omega)
            cases hbe : bitN (i + 1) e
            · rw [hbe] at hand
              have hee : e + 1 < j := by
                have h3 : ∀ b, b < e + 1 → bitN (i + 1) b = false := by
                  intro b hb
                  by_cases hbe' : b = e
                  · subst hbe'; exact hbe
                  · exact hz.out b (by omega)
                exact end_lt (i + 1) (e + 1) j (by omega) (by have := Hk1.out; omega) h3
              have Hbe := hide hbe
              clear hbe
              go_wp2
              go_round
              case rel =>
                refine ⟨e + 1, by go_num, hide (fun b hb => ?_), hee⟩
                by_cases hbe' : b = e
                · rw [hbe']; exact Hbe.out
                · exact hz.out b (by omega)
              case measure => simp [intOf]; omega
            · rw [hbe] at hand
              have hkid := kid_eq j (i + 1) e he hz.out hbe
              have hfl := full_length j (i + 1)
              obtain ⟨fl, hfl2⟩ : ∃ fl, fl = full j (i + 1) := ⟨_, rfl⟩
              rw [← hfl2] at hkid hfl
              have hfg : ∀ t, t < j → fl.getD t false = bitN (i + 1) (j - 1 - t) := fun t ht => by rw [hfl2]; exact full_get j (i + 1) t ht
              have Hkid := hide hkid
              have Hfl := hide hfl
              have Hfg := hide hfg
              clear hbe hkid hfl hfl2 hfg
              go_wp2_with fail
              clear hand
              obtain ⟨Bs, hBs⟩ : ∃ b, b = wr.heap.size := ⟨_, rfl⟩
              have hb0 : Below Bs wr wr := Below.refl _ _
              have hle0 : Bs ≤ wr.heap.size := by omega
              have HBs := hide hBs
              clear hBs
              obtain ⟨W0, hW0⟩ : ∃ W, W = wr := ⟨_, rfl⟩
              rw [← hW0] at HBs K
              have hb0' : Below Bs W0 wr := by rw [hW0]; exact hb0
              clear hb0 hW0
              go_loopw [12, 13] (fun vs x W => ∃ t : Nat, t ≤ j - e ∧ x = .int .i64 ((j : Int) - 1 - t) ∧ OwB W Bs vs (tx (fl.take t)) ∧ Below Bs W0 W ∧ Bs ≤ W.heap.size) (fun _ x _ => (intOf x + 1).toNat)
              case atStart => exact ⟨0, Nat.zero_le _, by simp, OwB.nil _ _, hb0', hle0⟩
              case round =>
                clear hb0' hle0
                obtain ⟨t, ht, rfl, ho, hbW, hBW⟩ := hrel
                by_cases hte : t < j - e
                · obtain ⟨b, hb⟩ : ∃ b : Nat, (j : Int) - 1 - t = (b : Int) := ⟨j - 1 - t, by omega⟩
                  have hand := and_bitN i b (by omega)
                  rw [hb]
                  have hbe : (e : Int) ≤ b := by omega
                  have hb15 : b ≤ 15 := by omega
                  have Hb := hide hb
                  clear hb
                  cases hbt : bitN (i + 1) b
                  · rw [hbt] at hand
                    have Hbt := hide hbt
                    clear hbt
                    have ho2 := ho.keep ((Below.refl wr.heap.size wr).alloc (Nat.le_refl _) (.cells #[.int .u8 48] 5))
                    have Ho2 := hide ho2
                    clear ho2
                    go_wp2_with (at_builtin; refine wpList_appB rfl _ _ rfl Bs _ (tx (fl.take t)) (some ⟨wr.heap.size, 0, none⟩) 1 1 [48] rfl rfl ?c1x48 ?c2x48 (by rfl) ?c4x48 ?c5x48 ?_)
                    case c1x48 => exact Ho2.out
                    case c2x48 => exact rd_one _ _ _ rfl
                    case c4x48 => rw [length_tx, List.length_take]; (try simp); omega
                    case c5x48 => (try simp); omega
                    intro v' W3 hown3 hg3 _
                    have hb3 : Below Bs W0 W3 := (hbW.alloc hBW _).grown hg3 (by simp; omega) (fun k hk => (ho.lt k hk).1)
                    have hz3 : Bs ≤ W3.heap.size := by have := hg3.size; simp at this; omega
                    have hown4 : OwB W3 Bs v' (tx (fl.take (t + 1))) := by
                 
                      rw [take_snoc fl t (by have := Hfl.out; omega), Hfg.out t (by omega), show j - 1 - t = b from by have := Hb.out; omega, Hbt.out, tx_app]
                      exact hown3
                    clear hown3 hg3 Ho2
                    go_wp2
                    go_roundw
                    case rel => exact ⟨t + 1, by omega, by first | (congr 1; done) | (congr 1; have := Hb.out; omega), hown4, hb3, hz3⟩
                    case measure =>
                      have := Hb.out
                      first | (simp [intOf]; done) | (simp [intOf]; omega)
                  · rw [hbt] at hand
                    have Hbt := hide hbt
                    clear hbt
                    have ho2 := ho.keep ((Below.refl wr.heap.size wr).alloc (Nat.le_refl _) (.cells #[.int .u8 49] 5))
                    have Ho2 := hide ho2
                    clear ho2
                    go_wp2_with (at_builtin; refine wpList_appB rfl _ _ rfl Bs _ (tx (fl.take t)) (some ⟨wr.heap.size, 0, none⟩) 1 1 [49] rfl rfl ?c1x49 ?c2x49 (by rfl) ?c4x49 ?c5x49 ?_)
                    case c1x49 => exact Ho2.out
                    case c2x49 => exact rd_one _ _ _ rfl
                    case c4x49 => rw [length_tx, List.length_take]; (try simp); omega
                    case c5x49 => (try simp); omega
                    intro v' W3 hown3 hg3 _
                    have hb3 : Below Bs W0 W3 := (hbW.alloc hBW _).grown hg3 (by simp; omega) (fun k hk => (ho.lt k hk).1)
                    have hz3 : Bs ≤ W3.heap.size := by have := hg3.size; simp at this; omega
                    have hown4 : OwB W3 Bs v' (tx (fl.take (t + 1))) := by
                 
                      rw [take_snoc fl t (by have := Hfl.out; omega), Hfg.out t (by omega), show j - 1 - t = b from by have := Hb.out; omega, Hbt.out, tx_app]
                      exact hown3
                    clear hown3 hg3 Ho2
                    go_wp2
                    go_roundw
                    case rel => exact ⟨t + 1, by omega, by first | (congr 1; done) | (congr 1; have := Hb.out; omega), hown4, hb3, hz3⟩
                    case measure =>
                      have := Hb.out
                      first | (simp [intOf]; done) | (simp [intOf]; omega)
                · have hneg : ¬ (e : Int) ≤ (j : Int) - 1 - t := by omega
                  have hkd : tx (fl.take t) = tx (kid j (i + 1)) := by rw [Hkid.out, show t = j - e from by omega]
                  rw [hkd] at ho
                  obtain ⟨kd, hkd2⟩ : ∃ q, q = kid j (i + 1) := ⟨_, rfl⟩
                  have hkl := kid_last j (i + 1) (by omega) (by have := Hk1.out; omega)
                  rw [← hkd2] at ho hkl
                  obtain ⟨a3, c3, hv⟩ := ho.forms
                  subst hv
                  obtain ⟨st, hst⟩ : ∃ st, st = txS kd := ⟨_, rfl⟩
                  have hstr : (convert 22 9 (.slice a3 (tx kd).length c3)).run Try.prog wr = .ok (.string st) wr := by
                    rw [hst]; exact ho.rd.str _ c3 rfl
                  have Hkd := hide hkd2
                  have Hst := hide hst
                  have Hkl := hide hkl
                  have hkl2 := hkl.2
                  have hbW0 : Below W0.heap.size W0 wr := by rw [← HBs.out]; exact hbW
                  have K1 := K.keep hbW0
                  clear hkd hkd2 hst hkl ho K hbW0
                  go_wp2_with fail
                  refine (ofR kd st _ (by omega) Hst.out).mono ?_
                  rintro e' W4 ⟨rfl, hb4⟩
                  have K2 := (K1.keep hb4)
                  clear K1 hb4 hstr
                  obtain ⟨r, hrr⟩ : ∃ r, r = Bm.wr (pp ++ [kd]) := ⟨_, rfl⟩
                  have hrl : r.length ≤ 1000000 := by
                    rw [hrr, wr_snoc, List.length_append, enc_length]
                    have := hs.2.1; omega
                  have Hrr := hide hrr
                  clear hrr
                  have K3 := K2.keep ((Below.refl W4.heap.size W4).alloc (Nat.le_refl _) (.cells #[.string (pk kd), .int .i64 kd.length] 50))
                  go_wp2_with fail
                  refine (of_any a1 pp kd r _ c1 _ (RdS.keep K3.rd K3.rb) (ofNil K3.rd) rfl hc1 (by omega) (lastOne_ne Hkl.out.1) Hrr.out hrl).mono ?_
                  rintro e' W5 (⟨hr5, g, cap, rfl, hp5, hb5⟩ | ⟨hr5, rfl, hb5⟩)
                  · have K5 := K3.keep hb5
                    have hz4 : w.heap.size ≤ W4.heap.size + 1 := by
                      have := K3.be.size; simp at this; omega
                    have hgW : ∀ p ∈ ps, p.1 < W4.heap.size + 1 := fun p hp => by
                      have := (K3.pc.fr p hp).lt; simpa using this
                    have hp6 : Fr (W4.heap.size + 1) W5 g cap (pkL r) := by
                      have := hp5; simpa using this
                    clear hb5 hp5 K3 K2
                    have hk6 := (Below.refl W5.heap.size W5).alloc (Nat.le_refl _) (.cells #[.slice (some ⟨g, 0, none⟩) (nb r.length) cap] 22)
                    have K6 := K5.keep hk6
                    have hp7 := hp6.keep hk6
                    have hrd := Rd.new W5 22 [.slice (some ⟨g, 0, none⟩) (nb r.length) cap]
                    have hpsl : ps.length = i := by
                      have := congrArg List.length K6.rs
                      simpa [kidRows] using this
                    have Hrd := hide hrd
                    have HgW := hide hgW
                    have Hp7 := hide hp7
                    have Hpsl := hide hpsl
                    clear hk6 hp6 hrd K5 hgW hp7 hpsl
                    go_wp2_with (at_builtin; refine wpList_appR rfl _ _ 25 rfl i1 _ 24 1 Try.underlying25 Hi.out.1 Hi.out.2.1 Hi.out.2.2.1 Hi.out.2.2.2 rfl (by decide) rfl rfl ?e1 K6.own Hrd.out (m := 1) rfl ?e2 ?e3 ?e4 ?_)
                    case e1 => intro u hu; simp at hu; subst hu; rfl
                    case e2 => have := Hpsl.out; omega
                    case e3 => have := Hpsl.out; omega
                    case e4 => exact K6.rb.size
                    intro v' W7 hown7 hg7 _
                    have hbb := fun k hk => (ow_lt K6.own k hk).1
                    have hb7 : Below w.heap.size w W7 := K6.be.grown hg7 K6.be.size (fun k hk => Nat.le_trans hb1.size (hbb k hk))
                    have hb8 : Below w1.heap.size w1 W7 := K6.rb.grown hg7 K6.rb.size hbb
                    have K7 : Kd w w1 W7 a1 pp j (i + 1) v' (ps ++ [(g, cap, r)]) := by
                      have hkr : kidRows pp j (i + 1) = kidRows pp j i ++ [r] := by rw [kidRows_succ, Hrr.out, Hkd.out]
                      refine ⟨?_, ⟨fun p hp => ?_, ?_⟩, ?_, K6.rd, ?_, hb8, hb7⟩
                      · rw [List.length_append, List.length_singleton]
                        simpa [vsOf] using hown7
                      · rcases List.mem_append.1 hp with h | h
                        · exact (K6.pc.fr p h).other hg7 K6.own
                        · simp at h
                          subst h
                          exact (Hp7.out.other hg7 K6.own).mono hz4
                      · rw [List.pairwise_append]
                        refine ⟨K6.pc.up, by simp, fun x hx y hy => ?_⟩
                        simp at hy
                        subst hy
                        have := HgW.out x hx
                        have := Hp7.out.1
                        dsimp only; omega
                      · rw [hkr, List.map_append, K6.rs]; rfl
                      · intro x hx
                        rw [hkr] at hx
                        rcases List.mem_append.1 hx with h | h
                        · exact K6.ok x h
                        · simp at h; subst h; exact hr5
                    clear hown7 hg7 K6
                    go_wp2
                    go_roundw
                    case rel => exact ⟨i + 1, _, by omega, by go_num, K7⟩
                    case measure => simp [intOf]; omega
                  · have hbig : ∃ x ∈ kidRows pp j m, 1024 < x.length := by
                      refine ⟨r, ?_, hr5⟩
                      rw [kidRows, List.mem_map]
                      exact ⟨i, by simpa using hlt, by rw [← Hkd.out, Hrr.out]⟩
                    have hb6 := (K3.keep hb5).be
                    have Hbig := hide hbig
                    clear hbig hb5 K3 K2
                    go_wp2
                    go_ret2
                    exact .inr ⟨Hbig.out, rfl, hb6⟩
        · have him : i = m := by omega
          subst him
          have hlI : ¬ (i : Int) + 1 ≤ i := by omega
          obtain ⟨a9, c9, hv⟩ := ow_forms K.own
          have hpsl : ps.length = i := by
            have := congrArg List.length K.rs
            simpa [kidRows] using this
          rw [hpsl] at hv
          subst hv
          have hrd : Rd wr a9 (vsOf ps) := by
            have := K.own
            rw [hpsl] at this
            exact ow_rd this
          have Hrd := hide hrd
          have Hown9 := hide (ow_mono (by have := K.own; rwa [hpsl] at this) hb1.size : wr.ownsRow w.heap.size 22 1 (.slice a9 i c9) i (vsOf ps))
          clear hpsl hrd
          go_wp2
          go_ret2
          exact .inl ⟨K.ok, a9, c9, ps, K.rs, rfl, Hrd.out, K.pc, K.be, Hown9.out⟩
end Go.Proofs.Ytofbcgehemclbaa

