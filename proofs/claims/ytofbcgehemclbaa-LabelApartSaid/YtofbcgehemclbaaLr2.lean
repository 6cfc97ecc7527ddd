/- The reference of layer 3: written, bits, Label, Right, Level, Parent, After, begins, Above. -/
import Derived.Test.YtofbcgehemclbaaLr1
namespace Go.Proofs.Ytofbcgehemclbaa
open Go.RowKit Bm
set_option maxRecDepth 100000 in
set_option maxHeartbeats 1000000 in
theorem written_any (s : List Bool) (X : ByteArray) (q : ByteArray) (w : World) (hX : X = txS s) (hs : s.length ≤ 100000) (hq : q = txS (enc s)) :
    Calls Try.prog 84 #[.string X] w fun e w' => e = .returned (.string q) ∧ Below w.heap.size w w' := by
  have hXs : X.size = s.length := by rw [hX, size_txS]
  have HX := hide hX
  have HXs := hide hXs
  have Hq := hide hq
  have hX1 : X.size ≤ 100000 := by omega
  clear hX hXs hq
  go_enter Try.func84, Try.ntmps84
  go_wp2_with fail
  go_loop [3, 4] (fun v x => ∃ (k : Nat) (Y : ByteArray), k ≤ s.length ∧ x = .int .i64 k ∧ v = .string Y ∧ Hid (Y = txS (pairs (s.take k))) ∧ Y.size ≤ 200000) (fun _ x => s.length - (intOf x).toNat)
  case atStart => exact ⟨0, ⟨#[]⟩, Nat.zero_le _, rfl, rfl, hide rfl, by decide⟩
  case round =>
    obtain ⟨k, Y, hk, rfl, rfl, hY, hYs⟩ := hrel
    by_cases hlt : k < s.length
    · have hl1 : k < X.size := by have := HXs.out; omega
      have hlI : (k : Int) + 1 ≤ X.size := by omega
      have hex : Y ++ ⟨#[49]⟩ ++ X.extract k (k + 1) = txS (pairs (s.take (k + 1))) := by
        have e1 : (⟨#[49]⟩ : ByteArray) = txS [true] := rfl
        rw [hY.out, HX.out, e1, txS_extract, txS_append, txS_append, take_snoc s k hlt, pairs_snoc]
        congr 1
        rw [drop_cons s k hlt]
        simp
      have hsz : (Y ++ ⟨#[49]⟩ ++ X.extract k (k + 1)).size ≤ 200000 := by
        rw [hex, size_txS, pairs_length, List.length_take]; omega
      have Hex := hide hex
      have Hsz := hide hsz
      clear hex hsz
      go_wp2
      refine ⟨⟨k + 1, _, by omega, by go_num, rfl, hide Hex.out, Hsz.out⟩, by simp [intOf]; omega⟩
    · have hl1 : ¬ (k : Int) < X.size := by have := HXs.out; omega
      have hl2 : decide (k < X.size) = false := by have := HXs.out; simp; omega
      have hfin : Y ++ ⟨#[48]⟩ = q := by
        have e1 : (⟨#[48]⟩ : ByteArray) = txS [false] := rfl
        rw [Hq.out, hY.out, e1, txS_append, enc, List.take_of_length_le (by omega)]
      have Hfin := hide hfin
      clear hfin
      go_wp2
      go_ret
      exact ⟨ret_str Hfin.out, Below.refl _ _⟩
theorem tcells_get (ss : List (List Bool)) (i : Nat) (s : List Bool) (h : ss[i]? = some s) : (tcells ss)[i]? = some (.string (txS s)) := by simp [tcells, h]
theorem RdT.row {w : World} {a : Option Addr} {ss : List (List Bool)} (h : RdT w a ss) (i : Nat) (s : List Bool) (hs : ss[i]? = some s) : ∃ b off, a = some ⟨b, off, none⟩ ∧ w.cell? ⟨b, off + i, none⟩ = some (.string (txS s)) :=
  Rd.cellAt h _ _ (tcells_get ss i s hs)
theorem ix_txt (b off n c i : Nat) (hlt : i < n) (W : World) : (Instr.indexAt 54 (.slice (some ⟨b, off, none⟩) n c) (.int .i64 (i : Int))).run Try.prog W = .ok (.pointer (some ⟨b, off + i, none⟩)) W := by
  obtain ⟨j0, hj, _, hj1, _⟩ := info_parts txtInfo
  have := run_ix Try.underlying54 hj hj1 b off n c i (i : Int) rfl hlt W
  rwa [Nat.mul_one] at this
set_option maxRecDepth 100000 in
set_option maxHeartbeats 1000000 in
theorem bits_any (a : Option Addr) (tt : List (List Bool)) (q : ByteArray) (n c : Nat) (w : World) (hr : RdT w a tt) (hn : n = tt.length) (hle : (wr tt).length ≤ 100000) (hq : q = txS (wr tt)) :
    Calls Try.prog 52 #[.slice a n c] w fun e w' => e = .returned (.string q) ∧ Below w.heap.size w w' := by
  have Hn := hide hn
  have Hq := hide hq
  have hnl : n ≤ 100000 := by
    have : tt.length ≤ (wr tt).length := by
      clear hr hn hle hq Hn Hq
      induction tt with
      | nil => simp
      | cons s ss ih => rw [wr_cons, List.length_append, enc_length, List.length_cons]; omega
    omega
  clear hn hq
  go_enter Try.func52, Try.ntmps52
  go_wp2_with fail
  go_loopw [3, 4] (fun v x W => ∃ (i : Nat) (Y : ByteArray), i ≤ n ∧ x = .int .i64 i ∧ v = .string Y ∧ Hid (Y = txS (Bm.wr (tt.take i))) ∧ Y.size ≤ 100000 ∧ Below w.heap.size w W) (fun _ x _ => n - (intOf x).toNat)
  case atStart => exact ⟨0, ⟨#[]⟩, Nat.zero_le _, rfl, rfl, hide rfl, by decide, Below.refl _ _⟩
  case round =>
    obtain ⟨i, Y, hi, rfl, rfl, hY, hYs, hb⟩ := hrel
    by_cases hlt : i < n
    · obtain ⟨s, hs⟩ : ∃ s, tt[i]? = some s := ⟨tt[i]'(by have := Hn.out; omega), List.getElem?_eq_getElem _⟩
      obtain ⟨b, off, ha, k0⟩ := (hr.keep hb).row i s hs
      subst ha
      have hix := ix_txt b off n c i hlt
      have hsl := wr_item tt i s hs
      obtain ⟨X, hX⟩ : ∃ X, X = txS s := ⟨_, rfl⟩
      rw [← hX] at k0
      obtain ⟨E, hE⟩ : ∃ E, E = txS (enc s) := ⟨_, rfl⟩
      have hEs : E.size ≤ 100000 := by rw [hE, size_txS, enc_length]; omega
      have hex : Y ++ E = txS (Bm.wr (tt.take (i + 1))) := by
        have hi' : i < tt.length := (List.getElem?_eq_some_iff.1 hs).1
        have h1 : tt[i]'hi' = s := (List.getElem?_eq_some_iff.1 hs).2
        rw [hY.out, hE, txS_append, List.take_succ_eq_append_getElem hi', h1, wr_snoc]
      have hsz : (Y ++ E).size ≤ 100000 := by
        rw [hex, size_txS]; have := wr_take_le tt (i + 1); omega
      have HX := hide hX
      have HE := hide hE
      have Hex := hide hex
      have Hsz := hide hsz
      have hlI : (i : Int) < n := by omega
      clear hX hE hex hsz hs
      go_wp2_with fail
      refine (written_any s X E _ HX.out (by omega) HE.out).mono ?_
      rintro e W2 ⟨rfl, hb2⟩
      have hb3 := chain0 hb hb2
      clear hb hb2 k0 hix
      go_wp2
      refine ⟨⟨i + 1, _, by omega, by go_num, rfl, hide Hex.out, Hsz.out, hb3⟩, by simp [intOf]; omega⟩
    · have hlI : ¬ (i : Int) < n := by omega
      have hfin : Y = q := by rw [Hq.out, hY.out, List.take_of_length_le (by have := Hn.out; omega)]
      have Hfin := hide hfin
      clear hfin
      go_wp2
      go_ret
      exact ⟨ret_str Hfin.out, hb⟩
theorem rpackR (l : List Bool) (X : ByteArray) (w : World) (hl : l.length ≤ 1048576) (hX : X = txS l) :
    Calls Try.prog 53 #[.string X] w fun e w' => ∃ a cap, e = .returned (.slice a (nb l.length) cap) ∧ RdB w' a (pkL l) ∧ Below w.heap.size w w' := by
  subst hX
  exact (rpack_any l w hl).mono fun e w' ⟨v, he, hown, hb⟩ => by
    obtain ⟨a, c, hv⟩ := hown.forms
    subst hv
    rw [length_pkL] at he hown
    exact ⟨a, c, he, hown.rd, hb⟩
/-- what Label returns -/
def RLabPost (w : World) (r : List Bool) (e : Ending) (w' : World) : Prop :=
  (r.length ≤ 1024 ∧ ∃ a cap, e = .returned (.tuple #[.slice a (nb r.length) cap, .bool true]) ∧ RdB w' a (pkL r) ∧ Below w.heap.size w w') ∨
  (1024 < r.length ∧ e = .returned (.tuple #[.slice none 0 0, .bool false]) ∧ Below w.heap.size w w')
set_option maxRecDepth 100000 in
set_option maxHeartbeats 1000000 in
theorem label_any (a : Option Addr) (tt : List (List Bool)) (r : List Bool) (n c : Nat) (w : World) (hr : RdT w a tt) (hn : n = tt.length) (hle : r.length ≤ 100000) (hrr : r = wr tt) :
    Calls Try.prog 38 #[.slice a n c] w (RLabPost w r) := by
  have hB := Below.refl w.heap.size w
  obtain ⟨X, hX⟩ : ∃ X, X = txS r := ⟨_, rfl⟩
  have hXs : X.size = r.length := by rw [hX, size_txS]
  have hb : (wr tt).length ≤ 100000 := by rw [← hrr]; exact hle
  have hX2 : X = txS (wr tt) := by rw [hX, hrr]
  have HX := hide hX
  have HX2 := hide hX2
  have HXs := hide hXs
  have Hn := hide hn
  clear hX hX2 hXs hrr hn
  by_cases h : r.length ≤ 1024
  · have hI : (X.size : Int) ≤ 1024 := by have := HXs.out; omega
    go_enter Try.func38, Try.ntmps38
    go_wp2_with fail
    refine (bits_any a tt X n c _ hr Hn.out hb HX2.out).mono ?_
    rintro e w1 ⟨rfl, hb1⟩
    have hB2 : Below w.heap.size w w1 := by first | exact chain0 hB hb1 | exact chain1 hB hb1 | exact chain2 hB hb1 | exact chain3 hB hb1
    clear hB
    have hB := hB2
    clear hB2
    go_wp2_with fail
    refine (rpackR r X _ (by omega) HX.out).mono ?_
    rintro e w2 ⟨a2, c2, rfl, h2, hb2⟩
    have hB2 : Below w.heap.size w w2 := by first | exact chain0 hB hb2 | exact chain1 hB hb2 | exact chain2 hB hb2 | exact chain3 hB hb2
    clear hB
    have hB := hB2
    clear hB2
    go_wp2
    go_ret2
    exact .inl ⟨h, a2, c2, rfl, h2, hB⟩
  · have hI : (1024 : Int) < X.size := by have := HXs.out; omega
    go_enter Try.func38, Try.ntmps38
    go_wp2_with fail
    refine (bits_any a tt X n c _ hr Hn.out hb HX2.out).mono ?_
    rintro e w1 ⟨rfl, hb1⟩
    have hB2 : Below w.heap.size w w1 := by first | exact chain0 hB hb1 | exact chain1 hB hb1 | exact chain2 hB hb1 | exact chain3 hB hb1
    clear hB
    have hB := hB2
    clear hB2
    go_wp2
    go_ret2
    exact .inr ⟨by omega, rfl, hB⟩
set_option maxRecDepth 100000 in
set_option maxHeartbeats 400000 in
theorem rright_yes (a : Option Addr) (bs : List UInt8) (ss : List (List Bool)) (n c : Nat) (w : World) (hr : RdB w a bs) (hn : n = bs.length) (hle : (n : Int) ≤ 9223372036854775807) (hs : IsL bs ss) :
    Calls Try.prog 25 #[.slice a n c] w fun e w' => e = .returned (.bool true) ∧ Below w.heap.size w w' := by
  have hB := Below.refl w.heap.size w
  have Hn := hide hn
  clear hn
  go_enter Try.func25, Try.ntmps25
  go_wp2_with fail
  refine (rsteps_yes a bs ss n c _ hr Hn.out hle hs).mono ?_
  rintro e w1 ⟨a1, c1, rfl, ⟨h1, hc1⟩, hb1⟩
  have hB2 : Below w.heap.size w w1 := by first | exact chain0 hB hb1 | exact chain1 hB hb1 | exact chain2 hB hb1 | exact chain3 hB hb1
  clear hB
  have hB := hB2
  clear hB2
  go_wp2
  go_ret
  exact ⟨rfl, hB⟩
set_option maxRecDepth 100000 in
set_option maxHeartbeats 400000 in
theorem rright_no (a : Option Addr) (bs : List UInt8) (n c : Nat) (w : World) (hr : RdB w a bs) (hn : n = bs.length) (hle : (n : Int) ≤ 9223372036854775807) (hs : ¬ ∃ ss, IsL bs ss) :
    Calls Try.prog 25 #[.slice a n c] w fun e w' => e = .returned (.bool false) ∧ Below w.heap.size w w' := by
  have hB := Below.refl w.heap.size w
  have Hn := hide hn
  have Hs := hide hs
  clear hn hs
  go_enter Try.func25, Try.ntmps25
  go_wp2_with fail
  refine (rsteps_no a bs n c _ hr Hn.out hle Hs.out).mono ?_
  rintro e w1 ⟨rfl, hb1⟩
  have hB2 : Below w.heap.size w w1 := by first | exact chain0 hB hb1 | exact chain1 hB hb1 | exact chain2 hB hb1 | exact chain3 hB hb1
  clear hB
  have hB := hB2
  clear hB2
  go_wp2
  go_ret
  exact ⟨rfl, hB⟩
set_option maxRecDepth 100000 in
set_option maxHeartbeats 400000 in
theorem rlevel_yes (a : Option Addr) (bs : List UInt8) (ss : List (List Bool)) (n c : Nat) (w : World) (hr : RdB w a bs) (hn : n = bs.length) (hle : (n : Int) ≤ 9223372036854775807) (hs : IsL bs ss) :
    Calls Try.prog 27 #[.slice a n c] w fun e w' => e = .returned (.int .i64 ss.length) ∧ Below w.heap.size w w' := by
  have hB := Below.refl w.heap.size w
  have Hn := hide hn
  clear hn
  go_enter Try.func27, Try.ntmps27
  go_wp2_with fail
  refine (rsteps_yes a bs ss n c _ hr Hn.out hle hs).mono ?_
  rintro e w1 ⟨a1, c1, rfl, ⟨h1, hc1⟩, hb1⟩
  have hB2 : Below w.heap.size w w1 := by first | exact chain0 hB hb1 | exact chain1 hB hb1 | exact chain2 hB hb1 | exact chain3 hB hb1
  clear hB
  have hB := hB2
  clear hB2
  go_wp2
  go_ret
  exact ⟨rfl, hB⟩
set_option maxRecDepth 100000 in
set_option maxHeartbeats 400000 in
theorem rlevel_no (a : Option Addr) (bs : List UInt8) (n c : Nat) (w : World) (hr : RdB w a bs) (hn : n = bs.length) (hle : (n : Int) ≤ 9223372036854775807) (hs : ¬ ∃ ss, IsL bs ss) :
    Calls Try.prog 27 #[.slice a n c] w fun e w' => e = .returned (.int .i64 0) ∧ Below w.heap.size w w' := by
  have hB := Below.refl w.heap.size w
  have Hn := hide hn
  have Hs := hide hs
  clear hn hs
  go_enter Try.func27, Try.ntmps27
  go_wp2_with fail
  refine (rsteps_no a bs n c _ hr Hn.out hle Hs.out).mono ?_
  rintro e w1 ⟨rfl, hb1⟩
  have hB2 : Below w.heap.size w w1 := by first | exact chain0 hB hb1 | exact chain1 hB hb1 | exact chain2 hB hb1 | exact chain3 hB hb1
  clear hB
  have hB := hB2
  clear hB2
  go_wp2
  go_ret
  exact ⟨rfl, hB⟩
set_option maxRecDepth 100000 in
set_option maxHeartbeats 1000000 in
theorem rparent_no (a : Option Addr) (bs : List UInt8) (n c : Nat) (w : World) (hr : RdB w a bs) (hn : n = bs.length) (hle : (n : Int) ≤ 9223372036854775807) (hs : IsL bs [] ∨ ¬ ∃ ss, IsL bs ss) :
    Calls Try.prog 23 #[.slice a n c] w fun e w' => e = .returned (.tuple #[.slice none 0 0, .bool false]) ∧ Below w.heap.size w w' := by
  have hB := Below.refl w.heap.size w
  have Hn := hide hn
  clear hn
  rcases hs with hs | hs
  · have hcs := rsteps_yes a bs [] n c
    rw [show ([] : List (List Bool)).length = 0 from rfl] at hcs
    have Hcs := hide hcs
    clear hcs
    go_enter Try.func23, Try.ntmps23
    go_wp2_with fail
    refine (Hcs.out _ hr Hn.out hle hs).mono ?_
    rintro e w1 ⟨a1, c1, rfl, ⟨h1, hc1⟩, hb1⟩
    have hB2 : Below w.heap.size w w1 := by first | exact chain0 hB hb1 | exact chain1 hB hb1 | exact chain2 hB hb1 | exact chain3 hB hb1
    clear hB
    have hB := hB2
    clear hB2
    go_wp2
    go_ret2
    exact ⟨rfl, hB⟩
  · have Hs := hide hs
    clear hs
    go_enter Try.func23, Try.ntmps23
    go_wp2_with fail
    refine (rsteps_no a bs n c _ hr Hn.out hle Hs.out).mono ?_
    rintro e w1 ⟨rfl, hb1⟩
    have hB2 : Below w.heap.size w w1 := by first | exact chain0 hB hb1 | exact chain1 hB hb1 | exact chain2 hB hb1 | exact chain3 hB hb1
    clear hB
    have hB := hB2
    clear hB2
    go_wp2
    go_ret2
    exact ⟨rfl, hB⟩
set_option maxRecDepth 100000 in
set_option maxHeartbeats 1000000 in
theorem rparent_yes (a : Option Addr) (bs : List UInt8) (ss : List (List Bool)) (n c : Nat) (w : World) (hr : RdB w a bs) (hn : n = bs.length) (hle : (n : Int) ≤ 9223372036854775807) (hs : IsL bs ss) (h0 : ss ≠ []) :
    Calls Try.prog 23 #[.slice a n c] w fun e w' => ∃ a' cap, e = .returned (.tuple #[.slice a' (nb (wr ss.dropLast).length) cap, .bool true]) ∧ RdB w' a' (pkL (wr ss.dropLast)) ∧ Below w.heap.size w w' := by
  have hB := Below.refl w.heap.size w
  obtain ⟨m, hm⟩ : ∃ m, ss.length = m + 1 := ⟨ss.length - 1, by have := List.length_pos_iff.2 h0; omega⟩
  obtain ⟨tt, htt⟩ : ∃ tt, tt = ss.dropLast := ⟨_, rfl⟩
  have htk : tt = ss.take m := by rw [htt, List.dropLast_eq_take, hm]; rfl
  have htl : m = tt.length := by rw [htk, List.length_take]; omega
  have hwl : (wr tt).length ≤ 1024 := by have := wr_take_le ss m; have := hs.2.1; rw [htk]; omega
  have hm2 : m ≤ 1024 := by have := wr_le hs.2.1; omega
  obtain ⟨r, hrr⟩ : ∃ r, r = wr tt := ⟨_, rfl⟩
  rw [← htt, ← hrr]
  rw [← hrr] at hwl
  have Hn := hide hn
  have Hm := hide hm
  have Htk := hide htk
  have Htl := hide htl
  have H0 := hide h0
  have Hrr := hide hrr
  have hcs := rsteps_yes a bs ss n c
  rw [hm] at hcs
  have Hcs := hide hcs
  clear hn hm htt htk htl h0 hcs hrr
  go_enter Try.func23, Try.ntmps23
  go_wp2_with fail
  refine (Hcs.out w hr Hn.out hle hs).mono ?_
  rintro e w1 ⟨a1, c1, rfl, ⟨h1, hc1⟩, hb1⟩
  have hB1 := chain0 hB hb1
  obtain ⟨b, off, rfl, _⟩ := Rd.addrAt h1 (by have := H0.out; intro e; apply this; cases ss with | nil => rfl | cons x y => cases e)
  have h2 : RdT w1 (some ⟨b, off, none⟩) tt := by rw [Htk.out]; exact RdT.take h1 m
  clear hB hb1
  have hB := hB1
  clear hB1
  go_wp2_with fail
  refine (label_any _ tt r m _ _ h2 Htl.out (by omega) Hrr.out).mono ?_
  rintro e w2 (⟨_, a2, c2, rfl, hp2, hb2⟩ | ⟨hbig, _⟩)
  · have hB2 := chain0 hB hb2
    clear hB hb2
    go_wp2
    go_ret2
    exact ⟨a2, c2, rfl, hp2, hB2⟩
  · omega
set_option maxRecDepth 100000 in
set_option maxHeartbeats 1000000 in
theorem rafter_no (a : Option Addr) (bs : List UInt8) (n c : Nat) (w : World) (hr : RdB w a bs) (hn : n = bs.length) (hle : (n : Int) ≤ 9223372036854775807) (hs : IsL bs [] ∨ ¬ ∃ ss, IsL bs ss) :
    Calls Try.prog 28 #[.slice a n c] w fun e w' => e = .returned (.slice none 0 0) ∧ Below w.heap.size w w' := by
  have hB := Below.refl w.heap.size w
  have Hn := hide hn
  clear hn
  rcases hs with hs | hs
  · have hcs := rsteps_yes a bs [] n c
    rw [show ([] : List (List Bool)).length = 0 from rfl] at hcs
    have Hcs := hide hcs
    clear hcs
    go_enter Try.func28, Try.ntmps28
    go_wp2_with fail
    refine (Hcs.out _ hr Hn.out hle hs).mono ?_
    rintro e w1 ⟨a1, c1, rfl, ⟨h1, hc1⟩, hb1⟩
    have hB2 : Below w.heap.size w w1 := by first | exact chain0 hB hb1 | exact chain1 hB hb1 | exact chain2 hB hb1 | exact chain3 hB hb1
    clear hB
    have hB := hB2
    clear hB2
    go_wp2
    go_ret
    exact ⟨rfl, hB⟩
  · have Hs := hide hs
    clear hs
    go_enter Try.func28, Try.ntmps28
    go_wp2_with fail
    refine (rsteps_no a bs n c _ hr Hn.out hle Hs.out).mono ?_
    rintro e w1 ⟨rfl, hb1⟩
    have hB2 : Below w.heap.size w w1 := by first | exact chain0 hB hb1 | exact chain1 hB hb1 | exact chain2 hB hb1 | exact chain3 hB hb1
    clear hB
    have hB := hB2
    clear hB2
    go_wp2
    go_ret
    exact ⟨rfl, hB⟩
set_option maxRecDepth 100000 in
set_option maxHeartbeats 1000000 in
theorem rafter_yes (a : Option Addr) (bs : List UInt8) (ss : List (List Bool)) (q : List Bool) (n c : Nat) (w : World) (hr : RdB w a bs) (hn : n = bs.length) (hle : (n : Int) ≤ 9223372036854775807) (hs : IsL bs ss) (h0 : ss ≠ [])
    (hq : q = (wr ss).dropLast ++ [true]) :
    Calls Try.prog 28 #[.slice a n c] w fun e w' => ∃ a' cap, e = .returned (.slice a' (nb q.length) cap) ∧ RdB w' a' (pkL q) ∧ Below w.heap.size w w' := by
  have hB := Below.refl w.heap.size w
  obtain ⟨k, hk⟩ : ∃ k, ss.length = k + 1 := ⟨ss.length - 1, by have := List.length_pos_iff.2 h0; omega⟩
  obtain ⟨r, hr2⟩ : ∃ r, r = wr ss := ⟨_, rfl⟩
  have hrl : r.length ≤ 1024 := by rw [hr2]; exact hs.2.1
  obtain ⟨m, hm⟩ : ∃ m, r.length = m + 1 := ⟨r.length - 1, by
    cases ss with
    | nil => exact absurd rfl h0
    | cons x y => rw [hr2, wr_cons, List.length_append, enc_length]; omega⟩
  obtain ⟨X, hX⟩ : ∃ X, X = txS (wr ss) := ⟨_, rfl⟩
  have hXs : X.size = m + 1 := by rw [hX, size_txS, ← hr2, hm]
  have hm2 : m ≤ 1024 := by omega
  have hql : q.length ≤ 2000 := by rw [hq, List.length_append, List.length_dropLast, ← hr2]; simp; omega
  have hex : X.extract 0 m ++ ⟨#[49]⟩ = txS q := by
    have e1 : (⟨#[49]⟩ : ByteArray) = txS [true] := rfl
    have := txS_extract (wr ss) 0 m
    rw [Nat.zero_add, List.drop_zero] at this
    rw [hX, this, e1, txS_append, hq, List.dropLast_eq_take, ← hr2, hm]
    rfl
  have hwl : (wr ss).length ≤ 100000 := by rw [← hr2]; omega
  have hwr : wrap64 (m : Int) = (m : Int) := by unfold wrap64; omega
  have Hn := hide hn
  have Hk := hide hk
  have Hex := hide hex
  have HX := hide hX
  have HXs := hide hXs
  have Hwr := hide hwr
  have hcs := rsteps_yes a bs ss n c
  rw [hk] at hcs
  have Hcs := hide hcs
  clear hn hk hr2 hm hq h0 hcs hex hX hXs hwr
  go_enter Try.func28, Try.ntmps28
  go_wp2_with fail
  refine (Hcs.out _ hr Hn.out hle hs).mono ?_
  rintro e w1 ⟨a1, c1, rfl, ⟨h1, hc1⟩, hb1⟩
  have hB2 : Below w.heap.size w w1 := by first | exact chain0 hB hb1 | exact chain1 hB hb1 | exact chain2 hB hb1 | exact chain3 hB hb1
  clear hB
  have hB := hB2
  clear hB2
  go_wp2_with fail
  refine (bits_any a1 ss X _ c1 _ h1 Hk.out.symm hwl HX.out).mono ?_
  rintro e w2 ⟨rfl, hb2⟩
  have hB2 : Below w.heap.size w w2 := by first | exact chain0 hB hb2 | exact chain1 hB hb2 | exact chain2 hB hb2 | exact chain3 hB hb2
  clear hB
  have hB := hB2
  clear hB2
  have hXs := HXs.out
  have hwr := Hwr.out
  go_wp2_with fail
  refine (rpackR q _ _ (by omega) Hex.out).mono ?_
  rintro e w3 ⟨a3, c3, rfl, h3, hb3⟩
  have hB3 := chain0 hB hb3
  clear hB hb3 hXs hwr
  go_wp2
  go_ret
  exact ⟨a3, c3, rfl, h3, hB3⟩
end Go.Proofs.Ytofbcgehemclbaa

