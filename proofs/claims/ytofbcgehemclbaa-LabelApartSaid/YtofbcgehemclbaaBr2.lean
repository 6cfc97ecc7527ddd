/- Contracts of the reference of layer 2: Pack, Unpack. -/
import Derived.Test.YtofbcgehemclbaaBw6
import Derived.Test.YtofbcgehemclbaaKit
namespace Go.Proofs.Ytofbcgehemclbaa
open Go.RowKit Bm
theorem wk_len (l : List Bool) (k : Nat) (hk : k ≤ l.length) : (wk (l.take k) (nb k)).length = nb k := length_wk _ _
theorem pk_step {w : World} {B g n cap : Nat} (l : List Bool) (k m : Nat) (hlt : k < l.length) (hbit : l.getD k false = true) (h : OwB w B (.slice (some ⟨g, 0, none⟩) n cap) (wk (l.take k) m)) :
    OwB (w.setCell ⟨g, k / 8, none⟩ (.int .u8 ((((byteN (l.take k) (k / 8) : Nat) : Int) + 128 / 2 ^ (k % 8)) % 256))) B (.slice (some ⟨g, 0, none⟩) n cap) (wk (l.take (k + 1)) m) := by
  have hl : (l.take k).length = k := by simp; omega
  have h1 := byteN_snoc_add (l.take k)
  have h2 := byteN_snoc_true (l.take k)
  rw [hl] at h1 h2
  have hb := byteN_lt (l.take k ++ [true]) (k / 8)
  rw [take_snoc l k hlt, hbit, wk_snoc_true, hl, ← h2]
  have := h.set_ (k / 8) (UInt8.ofNat (byteN (l.take k ++ [true]) (k / 8)))
  rw [toNat_byte, h1] at this
  rw [h1]
  have e : (((byteN (l.take k) (k / 8) : Nat) : Int) + 128 / 2 ^ (k % 8)) % 256 = ((byteN (l.take k) (k / 8) + 128 / 2 ^ (k % 8) : Nat) : Int) := by
    have e2 : ((128 : Int) / 2 ^ (k % 8)) = ((128 / 2 ^ (k % 8) : Nat) : Int) := by simp
    rw [e2]; omega
  rw [e]
  exact this
set_option maxRecDepth 100000 in
set_option maxHeartbeats 1000000 in
theorem rpack_any (l : List Bool) (w : World) (hl : l.length ≤ 1048576) :
    Calls Try.prog 53 #[.string (txS l)] w fun e w' => ∃ v, e = .returned v ∧ OwB w' w.heap.size v (pkL l) ∧ Below w.heap.size w w' := by
  have hsz := size_txS l
  have hget := txS_get l
  generalize txS l = s at *
  have Hz := hide hsz
  have Hg := hide hget
  have hz1 : s.size ≤ 1048576 := by omega
  clear hsz hget
  go_enter Try.func53, Try.ntmps53
  go_wp2_with fail
  go_loopw [3, 4] (fun v x wr => ∃ k : Nat, k ≤ l.length ∧ x = .int .i64 k ∧ OwB wr w.heap.size v (wk (l.take k) (nb k)) ∧ Below w.heap.size w wr) (fun _ x _ => s.size - (intOf x).toNat)
  case atStart => exact ⟨0, Nat.zero_le _, rfl, OwB.nil _ _, Below.refl _ _⟩
  case round =>
    obtain ⟨k, hk, rfl, hown, hb⟩ := hrel
    by_cases hlt : k < s.size
    · have hlt' : k < l.length := by have := Hz.out; omega
      have hsz := hb.size
      have hgk := Hg.out k hlt
      have hlen := length_wk (l.take k) (nb k)
      have hnbk : nb k ≤ 131073 := by unfold nb; omega
      by_cases h8 : k % 8 = 0
      · have h8b : ((k : Int) % 8 == 0) = true := by rw [beq_iff_eq]; omega
        have hwz : wk (l.take k) (nb k) ++ [0] = wk (l.take k) (nb (k + 1)) := by
          have := wk_zero (l.take k)
          rw [List.length_take, Nat.min_eq_left hk] at this
          rw [this]; congr 1; unfold nb; omega
        have Hwz := hide hwz
        have hq : (k + 1 + 7) / 8 = k / 8 + 1 := by omega
        have Hq := hide hq
        clear hwz hq h8
        go_wp2_with (at_builtin; refine wpList_appB rfl _ _ rfl w.heap.size u3 (wk (l.take k) (nb k)) (some ⟨wr.heap.size, 0, none⟩) 1 1 [0] rfl rfl ?c1 ?c2 ?c3 ?c4 ?c5 ?_)
        case c1 => exact hown.keep ((Below.refl _ _).alloc (Nat.le_refl _) _)
        case c2 => exact rd_one _ _ _ rfl
        case c3 => rfl
        case c4 => rw [hlen]; simp; omega
        case c5 => simp; omega
        intro v' w2 hown' hgr _
        rw [Hwz.out] at hown'
        have hb2 : Below w.heap.size w w2 := (hb.alloc hsz _).grown hgr (by simp; omega) (fun k hk => (hown.lt k hk).1)
        obtain ⟨g, cap, hv, hgB, hglt, hcap⟩ := hown'.form (by intro h; have := congrArg List.length h; rw [length_wk] at this; simp [nb] at this; omega)
        rw [length_wk] at hv
        subst hv
        clear hown hgr hb
        by_cases hbit : l.getD k false = true
        · rw [if_pos hbit] at hgk
          have hbt : (((s[k]'hlt).toNat : Int) == 49) = true := by rw [hgk]; decide
          have hc := hown'.cell (k / 8) (by rw [length_wk]; unfold nb; omega)
          rw [wk_get] at hc
          have hf := hown'.frozen (k / 8)
          have hi2 : (k : Int) / 8 < (nb (k + 1) : Int) := by unfold nb; omega
          have Hbit := hide hbit
          clear hgk hbit
          go_wp2
          refine ⟨⟨k + 1, by omega, by go_num, pk_step l k _ hlt' Hbit.out hown', hb2.setCell hgB _⟩, by simp [intOf]; omega⟩
        · rw [if_neg hbit] at hgk
          have hbt : (((s[k]'hlt).toNat : Int) == 49) = false := by rw [hgk]; decide
          have Hbit : Hid (l.getD k false = false) := by show l.getD k false = false; simpa using hbit
          clear hgk hbit
          go_wp2
          refine ⟨⟨k + 1, by omega, by go_num, by rw [take_snoc l k hlt', Hbit.out, wk_snoc_false]; exact hown', hb2⟩, by simp [intOf]; omega⟩
      · have h8b : ((k : Int) % 8 == 0) = false := by rw [beq_eq_false_iff_ne]; omega
        have hq : nb k = nb (k + 1) := by unfold nb; omega
        rw [hq] at hown
        obtain ⟨g, cap, hv, hgB, hglt, hcap⟩ := hown.form (by intro h; have := congrArg List.length h; rw [length_wk] at this; simp [nb] at this; omega)
        rw [length_wk] at hv
        subst hv
        clear hq hlen hnbk h8
        by_cases hbit : l.getD k false = true
        · rw [if_pos hbit] at hgk
          have hbt : (((s[k]'hlt).toNat : Int) == 49) = true := by rw [hgk]; decide
          have hc := hown.cell (k / 8) (by rw [length_wk]; unfold nb; omega)
          rw [wk_get] at hc
          have hf := hown.frozen (k / 8)
          have hi2 : (k : Int) / 8 < (nb (k + 1) : Int) := by unfold nb; omega
          have Hbit := hide hbit
          clear hgk hbit
          go_wp2
          refine ⟨⟨k + 1, by omega, by go_num, pk_step l k _ hlt' Hbit.out hown, hb.setCell hgB _⟩, by simp [intOf]; omega⟩
        · rw [if_neg hbit] at hgk
          have hbt : (((s[k]'hlt).toNat : Int) == 49) = false := by rw [hgk]; decide
          have Hbit : Hid (l.getD k false = false) := by show l.getD k false = false; simpa using hbit
          clear hgk hbit
          go_wp2
          refine ⟨⟨k + 1, by omega, by go_num, by rw [take_snoc l k hlt', Hbit.out, wk_snoc_false]; exact hown, hb⟩, by simp [intOf]; omega⟩
    · have hown' : OwB wr w.heap.size u3 (pkL l) := by
        have hk' : k = l.length := by have := Hz.out; omega
        rw [hk', List.take_length] at hown; exact hown
      clear hown
      go_wp2
      go_ret
      exact ⟨u3, rfl, hown', hb⟩
/-- the bits, as the reference works them out -/
theorem rbit (x i : Nat) : ((x : Int) / 2 ^ (7 - i % 8)).tmod 2 = ((x / 2 ^ (7 - i % 8) % 2 : Nat) : Int) := by
  have e : ((x : Int) / 2 ^ (7 - i % 8)) = ((x / 2 ^ (7 - i % 8) : Nat) : Int) := by simp
  rw [e, Int.tmod_eq_emod_of_nonneg (Int.natCast_nonneg _)]
  rfl
theorem tx_snoc (l : List Bool) (k : Nat) (h : k < l.length) : tx (l.take k) ++ [if l.getD k false then 49 else 48] = tx (l.take (k + 1)) := by
  rw [take_snoc l k h]
  cases l.getD k false <;> simp [tx]
set_option maxRecDepth 100000 in
set_option maxHeartbeats 1000000 in
theorem runpack_ok (l : List Bool) (a : Option Addr) (cap : Nat) (w : World) (hl : l.length ≤ 1048576) (hr : RdB w a (pkL l)) :
    Calls Try.prog 61 #[.slice a (nb l.length) cap, .int .i64 l.length] w fun e w' => e = .returned (.tuple #[.string (txS l), .bool true]) ∧ Below w.heap.size w w' := by
  have hnb : ((nb l.length : Nat) : Int) = ((l.length : Int) + 7) / 8 := by unfold nb; omega
  have hne : (((nb l.length : Nat) : Int) != ((l.length : Int) + 7) / 8) = false := by simp [hnb]
  have hup : nb l.length ≤ 131073 := by unfold nb; omega
  clear hnb
  go_enter Try.func61, Try.ntmps61
  go_wp2_with fail
  go_loopw [6, 7] (fun v x wr => ∃ k : Nat, k ≤ 8 * nb l.length ∧ x = .int .i64 k ∧ OwB wr w.heap.size v (tx (l.take k)) ∧ Below w.heap.size w wr) (fun _ x _ => 8 * nb l.length - (intOf x).toNat)
  case atStart => exact ⟨0, Nat.zero_le _, rfl, OwB.nil _ _, Below.refl _ _⟩
  case round =>
    obtain ⟨k, hk, rfl, hown, hb⟩ := hrel
    have hsz := hb.size
    by_cases hlt : k < 8 * nb l.length
    · obtain ⟨b, off, ha, hc⟩ := (hr.keep hb).cellAt (k / 8) (by rw [length_pkL]; omega)
      subst ha
      rw [show ((pkL l)[k / 8]'(by rw [length_pkL]; omega)).toNat = byteN l (k / 8) from wk_get _ _ _ _] at hc
      have hbit := byteN_at l k
      have hbx := byteN_lt l (k / 8)
      have hq := rbit (byteN l (k / 8)) k
      rw [hbit] at hq
      generalize byteN l (k / 8) = x at *
      have hi1 : (k : Int) / 8 < (nb l.length : Int) := by omega
      clear hbit
      by_cases hkl : k < l.length
      · have hkl1 : (k : Int) < l.length := by omega
        have hlen0 : (tx (l.take k)).length = k := by rw [length_tx, List.length_take]; omega
        have hlen := hide hlen0
        clear hlen0
        have hkb : k ≤ 1048576 := by omega
        have htx := tx_snoc l k hkl
        cases hbv : l.getD k false
        · rw [hbv] at hq htx
          have hq' : ((x : Int) / 2 ^ (7 - k % 8)).tmod 2 = 0 := hq
          have Htx : Hid (tx (l.take k) ++ [48] = tx (l.take (k + 1))) := by show tx (l.take k) ++ [48] = tx (l.take (k + 1)); simpa using htx
          clear hq htx hbv
          go_wp2_with (at_builtin; refine wpList_appB rfl _ _ rfl w.heap.size u6 (tx (l.take k)) (some ⟨wr.heap.size, 0, none⟩) 1 1 [48] rfl rfl ?c1 ?c2 rfl ?c4 ?c5 ?_)
          case c1 => exact hown.keep ((Below.refl _ _).alloc (Nat.le_refl _) _)
          case c2 => exact rd_one _ _ _ rfl
          case c4 => rw [hlen.out]; simp; omega
          case c5 => simp; omega
          intro v' w2 hown' hgr _
          have hb2 : Below w.heap.size w w2 := (hb.alloc hsz _).grown hgr (by simp; omega) (fun k hk => (hown.lt k hk).1)
          rw [Htx.out] at hown'
          clear hown hgr hb hlen
          go_wp2
          refine ⟨⟨k + 1, by omega, by go_num, hown', hb2⟩, by simp [intOf]; omega⟩
        · rw [hbv] at hq htx
          have hq' : ((x : Int) / 2 ^ (7 - k % 8)).tmod 2 = 1 := hq
          have Htx : Hid (tx (l.take k) ++ [49] = tx (l.take (k + 1))) := by show tx (l.take k) ++ [49] = tx (l.take (k + 1)); simpa using htx
          clear hq htx hbv
          go_wp2_with (at_builtin; refine wpList_appB rfl _ _ rfl w.heap.size u6 (tx (l.take k)) (some ⟨wr.heap.size, 0, none⟩) 1 1 [49] rfl rfl ?c1 ?c2 rfl ?c4 ?c5 ?_)
          case c1 => exact hown.keep ((Below.refl _ _).alloc (Nat.le_refl _) _)
          case c2 => exact rd_one _ _ _ rfl
          case c4 => rw [hlen.out]; simp; omega
          case c5 => simp; omega
          intro v' w2 hown' hgr _
          have hb2 : Below w.heap.size w w2 := (hb.alloc hsz _).grown hgr (by simp; omega) (fun k hk => (hown.lt k hk).1)
          rw [Htx.out] at hown'
          clear hown hgr hb hlen
          go_wp2
          refine ⟨⟨k + 1, by omega, by go_num, hown', hb2⟩, by simp [intOf]; omega⟩
      · have hkl1 : (l.length : Int) ≤ k := by omega
        rw [getD_ge l k (by omega)] at hq
        have hq' : ((x : Int) / 2 ^ (7 - k % 8)).tmod 2 = 0 := hq
        have htk : Hid (l.take (k + 1) = l.take k) := by show l.take (k + 1) = l.take k; rw [List.take_of_length_le (by omega), List.take_of_length_le (by omega)]
        clear hq
        go_wp2
        refine ⟨⟨k + 1, by omega, by go_num, by rw [htk.out]; exact hown, hb⟩, by simp [intOf]; omega⟩
    · have hown' : OwB wr w.heap.size u6 (tx l) := by
        rw [List.take_of_length_le (by unfold nb at hlt; omega)] at hown; exact hown
      obtain ⟨a6, c6, hu⟩ := hown'.forms
      rw [length_tx] at hu
      subst hu
      have hstr := hown'.rd.str l.length c6 (length_tx l).symm
      clear hown
      go_wp2
      go_ret2
      exact ⟨rfl, hb⟩
theorem zero_tail (bs : List UInt8) (m : Nat) (hl : bs.length = nb m) (h8 : m % 8 ≠ 0) (hz : ∀ j, m ≤ j → j < 8 * nb m → (bs.getD (j / 8) 0).toNat / 2 ^ (7 - j % 8) % 2 = 0) :
    (bs.getD (bs.length - 1) 0).toNat * 2 ^ (m % 8) % 256 = 0 := by
  refine (tail_zero _ (m % 8) (by omega) (UInt8.toNat_lt _)).2 fun j hj hj8 => ?_
  have := hz (8 * (nb m - 1) + j) (by unfold nb; omega) (by unfold nb; omega)
  rw [show (8 * (nb m - 1) + j) / 8 = nb m - 1 from by omega, show (8 * (nb m - 1) + j) % 8 = j from by omega] at this
  rw [hl]; exact this
set_option maxRecDepth 100000 in
set_option maxHeartbeats 1000000 in
theorem runpack_no (bs : List UInt8) (a : Option Addr) (len cap : Nat) (n : Int) (w : World) (hlen : len = bs.length) (hr : RdB w a bs) (hm : (len : Int) ≤ 9223372036854775807) (h : noBits bs n) :
    Calls Try.prog 61 #[.slice a len cap, .int .i64 n] w fun e w' => e = .returned (.tuple #[.string ⟨#[]⟩, .bool false]) ∧ Below w.heap.size w w' := by
  by_cases h1 : n < 0
  · clear h hr
    go_enter Try.func61, Try.ntmps61
    go_wp2
    go_ret2
    exact ⟨rfl, Below.refl _ _⟩
  · have h1' : 0 ≤ n := by omega
    by_cases h2 : 1048576 < n
    · clear h hr h1
      go_enter Try.func61, Try.ntmps61
      go_wp2
      go_ret2
      exact ⟨rfl, Below.refl _ _⟩
    · have h2' : n ≤ 1048576 := by omega
      by_cases h3 : len = nb n.toNat
      · obtain ⟨m, rfl⟩ := Int.eq_ofNat_of_zero_le h1'
        rw [Int.toNat_natCast] at h3
        have h4 : ((m : Int) % 8 ≠ 0 ∧ bs.length ≠ 0 ∧ (bs.getD (bs.length - 1) 0).toNat * 2 ^ (m % 8) % 256 ≠ 0) := by
          rcases h with h | h | h | h
          · omega
          · omega
          · rw [Int.toNat_natCast] at h; omega
          · rw [Int.toNat_natCast] at h; exact h
        have hne : ((len : Int) != ((m : Int) + 7) / 8) = false := by
          rw [bne_eq_false_iff_eq]; rw [h3]; unfold nb; omega
        have hzt := zero_tail bs m (by omega) (by omega)
        have Hfin : Hid (¬ ∀ j, m ≤ j → j < 8 * nb m → (bs.getD (j / 8) 0).toNat / 2 ^ (7 - j % 8) % 2 = 0) := fun hz => h4.2.2 (hzt hz)
        have Hlen := hide hlen
        have H3 := hide h3
        have hup : len ≤ 131073 := by rw [h3]; unfold nb; omega
        clear h h1 h2 h3 h4 hzt hlen
        go_enter Try.func61, Try.ntmps61
        go_wp2_with fail
        go_loopw [6, 7] (fun v x wr => ∃ (k : Nat) (xs : List UInt8), k ≤ 8 * len ∧ x = .int .i64 k ∧ OwB wr w.heap.size v xs ∧ xs.length ≤ k ∧
            (∀ j, m ≤ j → j < k → (bs.getD (j / 8) 0).toNat / 2 ^ (7 - j % 8) % 2 = 0) ∧ Below w.heap.size w wr) (fun _ x _ => 8 * len - (intOf x).toNat)
        case atStart => exact ⟨0, [], Nat.zero_le _, rfl, OwB.nil _ _, Nat.le_refl _, fun j _ hj => absurd hj (by omega), Below.refl _ _⟩
        case round =>
          obtain ⟨k, xs, hk, rfl, hown, hxl, hz, hb⟩ := hrel
          have Hz := hide hz
          clear hz
          have hsz := hb.size
          by_cases hlt : k < 8 * len
          · have hk8 : k / 8 < bs.length := by have := Hlen.out; omega
            obtain ⟨b, off, ha, hc⟩ := (hr.keep hb).cellAt (k / 8) hk8
            subst ha
            have hq := rbit (bs[k / 8]'hk8).toNat k
            have hgd : Hid (bs.getD (k / 8) 0 = bs[k / 8]'hk8) := by show bs.getD (k / 8) 0 = bs[k / 8]'hk8; rw [List.getD_eq_getElem?_getD, List.getElem?_eq_getElem hk8]; rfl
            obtain ⟨x, hx⟩ : ∃ x : Nat, x = (bs[k / 8]'hk8).toNat := ⟨_, rfl⟩
            rw [← hx] at hq hc
            have Hx := hide hx
            have hi1 : (k : Int) / 8 < (len : Int) := by omega
            clear hx
            have hcase : x / 2 ^ (7 - k % 8) % 2 = 0 ∨ x / 2 ^ (7 - k % 8) % 2 = 1 := by omega
            by_cases hkl : k < m
            · have hkl1 : (k : Int) < m := by omega
              have hkb : k ≤ 1048576 := by omega
              rcases hcase with hc0 | hc0 <;> rw [hc0] at hq
              · have hq' : ((x : Int) / 2 ^ (7 - k % 8)).tmod 2 = 0 := hq
                clear hq hc0
                go_wp2_with (at_builtin; refine wpList_appB rfl _ _ rfl w.heap.size u6 xs (some ⟨wr.heap.size, 0, none⟩) 1 1 [48] rfl rfl ?c1 ?c2 rfl ?c4 ?c5 ?_)
                case c1 => exact hown.keep ((Below.refl _ _).alloc (Nat.le_refl _) _)
                case c2 => exact rd_one _ _ _ rfl
                case c4 => simp; omega
                case c5 => simp; omega
                intro v' w2 hown' hgr _
                have hb2 : Below w.heap.size w w2 := (hb.alloc hsz _).grown hgr (by simp; omega) (fun k hk => (hown.lt k hk).1)
                clear hown hgr hb
                go_wp2
                refine ⟨⟨k + 1, _, by omega, by go_num, hown', by simp; omega, fun j hj hjk => absurd hjk (by omega), hb2⟩, by simp [intOf]; omega⟩
              · have hq' : ((x : Int) / 2 ^ (7 - k % 8)).tmod 2 = 1 := hq
                clear hq hc0
                go_wp2_with (at_builtin; refine wpList_appB rfl _ _ rfl w.heap.size u6 xs (some ⟨wr.heap.size, 0, none⟩) 1 1 [49] rfl rfl ?c1 ?c2 rfl ?c4 ?c5 ?_)
                case c1 => exact hown.keep ((Below.refl _ _).alloc (Nat.le_refl _) _)
                case c2 => exact rd_one _ _ _ rfl
                case c4 => simp; omega
                case c5 => simp; omega
                intro v' w2 hown' hgr _
                have hb2 : Below w.heap.size w w2 := (hb.alloc hsz _).grown hgr (by simp; omega) (fun k hk => (hown.lt k hk).1)
                clear hown hgr hb
                go_wp2
                refine ⟨⟨k + 1, _, by omega, by go_num, hown', by simp; omega, fun j hj hjk => absurd hjk (by omega), hb2⟩, by simp [intOf]; omega⟩
            · have hkl1 : (m : Int) ≤ k := by omega
              rcases hcase with hc0 | hc0
              · rw [hc0] at hq
                have hq' : ((x : Int) / 2 ^ (7 - k % 8)).tmod 2 = 0 := hq
                have Hc0 := hide hc0
                clear hq hc0
                go_wp2
                refine ⟨⟨k + 1, xs, by omega, by go_num, hown, by omega, fun j hj hjk => ?_, hb⟩, by simp [intOf]; omega⟩
                by_cases hj' : j < k
                · exact Hz.out j hj hj'
                · have : j = k := by omega
                  subst this
                  rw [hgd.out, ← Hx.out]; exact Hc0.out
              · rw [hc0] at hq
                have hq' : ((x : Int) / 2 ^ (7 - k % 8)).tmod 2 = 1 := hq
                clear hq hc0
                go_wp2
                go_ret2
                exact ⟨rfl, hb⟩
          · exact absurd (fun j hj hj8 => Hz.out j hj (by have := H3.out; omega)) Hfin.out
      · have hne : ((len : Int) != (n + 7) / 8) = true := by
          rw [bne_iff_ne]
          intro e; apply h3; unfold nb; omega
        clear h hr h1 h2 h3 hlen
        go_enter Try.func61, Try.ntmps61
        go_wp2
        go_ret2
        exact ⟨rfl, Below.refl _ _⟩
end Go.Proofs.Ytofbcgehemclbaa
