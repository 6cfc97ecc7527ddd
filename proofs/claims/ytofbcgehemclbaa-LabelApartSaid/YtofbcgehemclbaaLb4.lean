/- label: steps' contract in its uses; begins, Right, Level, Parent, Above. -/
import Derived.Test.YtofbcgehemclbaaLb3
import Derived.Test.YtofbcgehemclbaaBeq
import Derived.Test.YtofbcgehemclbaaBpk
namespace Go.Proofs.Ytofbcgehemclbaa
open Go.RowKit Bm
theorem ow_cap {w : World} {B size n cap : Nat} {e : TypeId} {a : Option Addr} {xs : List Value} (h : w.ownsRow B e size (.slice a n cap) n xs) : n ≤ cap := by
  rcases h.2 with ⟨h1, h2⟩ | ⟨g, cap', cur, hv, _, _, hc, _⟩
  · omega
  · injection hv with _ _ h3; omega
theorem steps_any (a : Option Addr) (bs : List UInt8) (n c : Nat) (w : World) (hr : RdB w a bs) (hn : n = bs.length) (hle : (n : Int) ≤ 9223372036854775807) :
    Calls Try.prog 34 #[.slice a n c] w (StepsPost w bs) := by
  by_cases h : n ≤ 128
  · exact steps_short a bs n c w hr hn h
  · exact steps_long a bs n c w hn (by omega) hle
theorem steps_yes (a : Option Addr) (bs : List UInt8) (ss : List (List Bool)) (n c : Nat) (w : World) (hr : RdB w a bs) (hn : n = bs.length) (hle : (n : Int) ≤ 9223372036854775807) (hs : IsL bs ss) :
    Calls Try.prog 34 #[.slice a n c] w fun e w' => ∃ a' c', e = .returned (.tuple #[.slice a' ss.length c', .bool true]) ∧ (RdS w' a' ss ∧ ss.length ≤ c') ∧ Below w.heap.size w w' := by
  refine (steps_any a bs n c w hr hn hle).mono ?_
  rintro e w' (⟨tt, v, hl, rfl, ho, hb⟩ | ⟨hno, _⟩)
  · have := isL_uniq hl hs
    subst this
    obtain ⟨a', c', rfl⟩ := ow_forms ho
    exact ⟨a', c', rfl, ⟨ow_rd ho, ow_cap ho⟩, hb⟩
  · exact absurd ⟨ss, hs⟩ hno
theorem steps_no (a : Option Addr) (bs : List UInt8) (n c : Nat) (w : World) (hr : RdB w a bs) (hn : n = bs.length) (hle : (n : Int) ≤ 9223372036854775807) (hs : ¬ ∃ ss, IsL bs ss) :
    Calls Try.prog 34 #[.slice a n c] w fun e w' => e = .returned (.tuple #[.slice none 0 0, .bool false]) ∧ Below w.heap.size w w' := by
  refine (steps_any a bs n c w hr hn hle).mono ?_
  rintro e w' (⟨tt, v, hl, _⟩ | ⟨_, he, hb⟩)
  · exact absurd ⟨tt, hl⟩ hs
  · exact ⟨he, hb⟩
set_option maxHeartbeats 400000 in
theorem run_neqBits (l m : List Bool) (w : World) : (binOp .neq 50 (.agg #[.string (pk l), .int .i64 (l.length : Int)]) (.agg #[.string (pk m), .int .i64 (m.length : Int)])).run Try.prog w = .ok (.bool (!decide (l = m))) w := by
  have hu := Try.underlying50
  have hs := Try.underlying9
  have hi := Try.underlying3
  go_simp
  by_cases h : l = m
  · subst h; simp
  · by_cases h1 : (pk l).toList = (pk m).toList
    · have h2 : ¬ ((l.length : Int) = m.length) := by
        intro e
        apply h
        refine pkL_inj l m (by omega) ?_
        have := h1
        rw [Lib.toList_data, Lib.toList_data, pk_list, pk_list] at this
        exact this
      rw [if_pos h1, if_neg h2]; simp [h]
    · rw [if_neg h1]; simp [h]
set_option maxRecDepth 100000 in
set_option maxHeartbeats 400000 in
theorem right_yesL (a : Option Addr) (bs : List UInt8) (ss : List (List Bool)) (n c : Nat) (w : World) (hr : RdB w a bs) (hn : n = bs.length) (hle : (n : Int) ≤ 9223372036854775807) (hs : IsL bs ss) :
    Calls Try.prog 24 #[.slice a n c] w fun e w' => e = .returned (.bool true) ∧ Below w.heap.size w w' := by
  have hB := Below.refl w.heap.size w
  have Hn := hide hn
  clear hn
  go_enter Try.func24, Try.ntmps24
  go_wp2_with fail
  refine (steps_yes a bs ss n c _ hr Hn.out hle hs).mono ?_
  rintro e w1 ⟨a1, c1, rfl, ⟨h1, hc1⟩, hb1⟩
  have hB2 : Below w.heap.size w w1 := by first | exact chain0 hB hb1 | exact chain1 hB hb1 | exact chain2 hB hb1 | exact chain3 hB hb1
  clear hB
  have hB := hB2
  clear hB2
  go_wp2
  go_ret
  exact ⟨rfl, hB⟩
set_option maxRecDepth 100000 in
set_option maxHeartbeats 400000 in
theorem right_noL (a : Option Addr) (bs : List UInt8) (n c : Nat) (w : World) (hr : RdB w a bs) (hn : n = bs.length) (hle : (n : Int) ≤ 9223372036854775807) (hs : ¬ ∃ ss, IsL bs ss) :
    Calls Try.prog 24 #[.slice a n c] w fun e w' => e = .returned (.bool false) ∧ Below w.heap.size w w' := by
  have hB := Below.refl w.heap.size w
  have Hn := hide hn
  have Hs := hide hs
  clear hn hs
  go_enter Try.func24, Try.ntmps24
  go_wp2_with fail
  refine (steps_no a bs n c _ hr Hn.out hle Hs.out).mono ?_
  rintro e w1 ⟨rfl, hb1⟩
  have hB2 : Below w.heap.size w w1 := by first | exact chain0 hB hb1 | exact chain1 hB hb1 | exact chain2 hB hb1 | exact chain3 hB hb1
  clear hB
  have hB := hB2
  clear hB2
  go_wp2
  go_ret
  exact ⟨rfl, hB⟩
set_option maxRecDepth 100000 in
set_option maxHeartbeats 400000 in
theorem level_yes (a : Option Addr) (bs : List UInt8) (ss : List (List Bool)) (n c : Nat) (w : World) (hr : RdB w a bs) (hn : n = bs.length) (hle : (n : Int) ≤ 9223372036854775807) (hs : IsL bs ss) :
    Calls Try.prog 26 #[.slice a n c] w fun e w' => e = .returned (.int .i64 ss.length) ∧ Below w.heap.size w w' := by
  have hB := Below.refl w.heap.size w
  have Hn := hide hn
  clear hn
  go_enter Try.func26, Try.ntmps26
  go_wp2_with fail
  refine (steps_yes a bs ss n c _ hr Hn.out hle hs).mono ?_
  rintro e w1 ⟨a1, c1, rfl, ⟨h1, hc1⟩, hb1⟩
  have hB2 : Below w.heap.size w w1 := by first | exact chain0 hB hb1 | exact chain1 hB hb1 | exact chain2 hB hb1 | exact chain3 hB hb1
  clear hB
  have hB := hB2
  clear hB2
  go_wp2
  go_ret
  exact ⟨rfl, hB⟩
set_option maxRecDepth 100000 in
set_option maxHeartbeats 400000 in
theorem level_no (a : Option Addr) (bs : List UInt8) (n c : Nat) (w : World) (hr : RdB w a bs) (hn : n = bs.length) (hle : (n : Int) ≤ 9223372036854775807) (hs : ¬ ∃ ss, IsL bs ss) :
    Calls Try.prog 26 #[.slice a n c] w fun e w' => e = .returned (.int .i64 0) ∧ Below w.heap.size w w' := by
  have hB := Below.refl w.heap.size w
  have Hn := hide hn
  have Hs := hide hs
  clear hn hs
  go_enter Try.func26, Try.ntmps26
  go_wp2_with fail
  refine (steps_no a bs n c _ hr Hn.out hle Hs.out).mono ?_
  rintro e w1 ⟨rfl, hb1⟩
  have hB2 : Below w.heap.size w w1 := by first | exact chain0 hB hb1 | exact chain1 hB hb1 | exact chain2 hB hb1 | exact chain3 hB hb1
  clear hB
  have hB := hB2
  clear hB2
  go_wp2
  go_ret
  exact ⟨rfl, hB⟩
theorem bcells_take (ss : List (List Bool)) (k : Nat) : bcells (ss.take k) = (bcells ss).take (k * 2) := by
  induction ss generalizing k with
  | nil => simp [bcells]
  | cons s ss ih =>
    cases k with
    | zero => simp [bcells]
    | succ k =>
      have h := ih k
      rw [List.take_succ_cons, show bcells (s :: ss.take k) = .string (pk s) :: .int .i64 s.length :: bcells (ss.take k) from rfl, h, show bcells (s :: ss) = .string (pk s) :: .int .i64 s.length :: bcells ss from rfl, show (k + 1) * 2 = k * 2 + 2 from by omega]
      rfl
theorem RdS.take {w : World} {a : Option Addr} {ss : List (List Bool)} (h : RdS w a ss) (k : Nat) : RdS w a (ss.take k) := by
  unfold RdS
  rw [bcells_take]
  exact Rd.take h _
theorem wr_le {ss : List (List Bool)} (h : (wr ss).length ≤ 1024) : ss.length ≤ 1024 := by
  have : ss.length ≤ (wr ss).length := by
    clear h
    induction ss with
    | nil => simp
    | cons s ss ih => rw [wr_cons, List.length_append, enc_length, List.length_cons]; omega
  omega
set_option maxRecDepth 100000 in
set_option maxHeartbeats 1000000 in
theorem parent_yes (a : Option Addr) (bs : List UInt8) (ss : List (List Bool)) (n c : Nat) (w : World) (hr : RdB w a bs) (hn : n = bs.length) (hle : (n : Int) ≤ 9223372036854775807) (hs : IsL bs ss) (h0 : ss ≠ []) :
    Calls Try.prog 20 #[.slice a n c] w fun e w' => ∃ g cap, e = .returned (.tuple #[.slice (some ⟨g, 0, none⟩) (nb (wr ss.dropLast).length) cap, .bool true]) ∧ Fr w.heap.size w' g cap (pkL (wr ss.dropLast)) ∧ Below w.heap.size w w' := by
  have hB := Below.refl w.heap.size w
  obtain ⟨m, hm⟩ : ∃ m, ss.length = m + 1 := ⟨ss.length - 1, by have := List.length_pos_iff.2 h0; omega⟩
  obtain ⟨tt, htt⟩ : ∃ tt, tt = ss.dropLast := ⟨_, rfl⟩
  have htk : tt = ss.take m := by rw [htt, List.dropLast_eq_take, hm]; rfl
  have htl : m = tt.length := by rw [htk, List.length_take]; omega
  have hwl : (wr tt).length ≤ 1024 := by have := wr_take_le ss m; have := hs.2.1; rw [htk]; omega
  have hm2 : m ≤ 1024 := by have := wr_le hs.2.1; omega
  rw [← htt]
  have Hn := hide hn
  have Hm := hide hm
  have Htk := hide htk
  have Htl := hide htl
  have H0 := hide h0
  have hcs := steps_yes a bs ss n c
  rw [hm] at hcs
  have Hcs := hide hcs
  clear hn hm htt htk htl h0 hcs
  go_enter Try.func20, Try.ntmps20
  go_wp2_with fail
  refine (Hcs.out w hr Hn.out hle hs).mono ?_
  rintro e w1 ⟨a1, c1, rfl, ⟨h1, hc1⟩, hb1⟩
  have hB1 := chain0 hB hb1
  obtain ⟨b, off, rfl, _⟩ := Rd.addrAt h1 (by have := H0.out; intro e; apply this; cases ss with | nil => rfl | cons x y => cases e)
  have h2 : RdS w1 (some ⟨b, off, none⟩) tt := by rw [Htk.out]; exact RdS.take h1 m
  clear hB hb1
  have hB := hB1
  clear hB1
  go_wp2_with fail
  refine (row_any _ tt m _ _ h2 Htl.out (by omega) (by omega)).mono ?_
  rintro e w2 ⟨rfl, hb2⟩
  have hB2 : Below w.heap.size w w2 := by first | exact chain0 hB hb2 | exact chain1 hB hb2 | exact chain2 hB hb2 | exact chain3 hB hb2
  clear hB
  have hB := hB2
  clear hB2
  have hz2 := hB.size
  go_wp2_with fail
  refine (packR (Bm.wr tt) _).mono ?_
  rintro e w3 ⟨g, cap, rfl, hp, hb3⟩
  have hB2 : Below w.heap.size w w3 := by first | exact chain0 hB hb3 | exact chain1 hB hb3 | exact chain2 hB hb3 | exact chain3 hB hb3
  clear hB
  have hB := hB2
  clear hB2
  go_wp2
  go_ret2
  exact ⟨g, cap, rfl, hp.mono hz2, hB⟩
set_option maxRecDepth 100000 in
set_option maxHeartbeats 1000000 in
theorem parent_root (a : Option Addr) (bs : List UInt8) (n c : Nat) (w : World) (hr : RdB w a bs) (hn : n = bs.length) (hle : (n : Int) ≤ 9223372036854775807) (hs : IsL bs []) :
    Calls Try.prog 20 #[.slice a n c] w fun e w' => e = .returned (.tuple #[.slice none 0 0, .bool false]) ∧ Below w.heap.size w w' := by
  have hB := Below.refl w.heap.size w
  have Hn := hide hn
  clear hn
  have hcs := steps_yes a bs [] n c
  rw [show ([] : List (List Bool)).length = 0 from rfl] at hcs
  have Hcs := hide hcs
  clear hcs
  go_enter Try.func20, Try.ntmps20
  go_wp2_with fail
  refine (Hcs.out _ hr Hn.out hle hs).mono ?_
  rintro e w1 ⟨a1, c1, rfl, ⟨h1, hc1⟩, hb1⟩
  have hB2 : Below w.heap.size w w1 := by first | exact chain0 hB hb1 | exact chain1 hB hb1 | exact chain2 hB hb1 | exact chain3 hB hb1
  clear hB
  have hB := hB2
  clear hB2
  go_wp2
  go_ret2
  exact ⟨rfl, hB⟩
set_option maxRecDepth 100000 in
set_option maxHeartbeats 1000000 in
theorem parent_no (a : Option Addr) (bs : List UInt8) (n c : Nat) (w : World) (hr : RdB w a bs) (hn : n = bs.length) (hle : (n : Int) ≤ 9223372036854775807) (hs : ¬ ∃ ss, IsL bs ss) :
    Calls Try.prog 20 #[.slice a n c] w fun e w' => e = .returned (.tuple #[.slice none 0 0, .bool false]) ∧ Below w.heap.size w w' := by
  have hB := Below.refl w.heap.size w
  have Hn := hide hn
  have Hs := hide hs
  clear hn hs
  go_enter Try.func20, Try.ntmps20
  go_wp2_with fail
  refine (steps_no a bs n c _ hr Hn.out hle Hs.out).mono ?_
  rintro e w1 ⟨rfl, hb1⟩
  have hB2 : Below w.heap.size w w1 := by first | exact chain0 hB hb1 | exact chain1 hB hb1 | exact chain2 hB hb1 | exact chain3 hB hb1
  clear hB
  have hB := hB2
  clear hB2
  go_wp2
  go_ret2
  exact ⟨rfl, hB⟩
/-- does a row of steps begin with another one? -/
def begS (tt uu : List (List Bool)) : Bool := decide (tt.take uu.length = uu)
theorem begS_no {tt uu : List (List Bool)} (h : tt.length < uu.length) : begS tt uu = false := by
  unfold begS
  rw [decide_eq_false_iff_not]
  intro e
  have := congrArg List.length e
  rw [List.length_take] at this; omega
theorem begS_differ {tt uu : List (List Bool)} (k : Nat) (s t : List Bool) (hk : k < uu.length) (hs : tt[k]? = some s) (ht : uu[k]? = some t) (hne : s ≠ t) : begS tt uu = false := by
  unfold begS
  rw [decide_eq_false_iff_not]
  intro e
  have : (tt.take uu.length)[k]? = uu[k]? := by rw [e]
  rw [List.getElem?_take, if_pos hk, hs, ht] at this
  injection this with this
  exact hne this
theorem begS_yes {tt uu : List (List Bool)} (hl : uu.length ≤ tt.length) (h : ∀ k, k < uu.length → tt[k]? = uu[k]?) : begS tt uu = true := by
  unfold begS
  rw [decide_eq_true_iff]
  apply List.ext_getElem?
  intro i
  rw [List.getElem?_take]
  split
  · rename_i hi; exact h i hi
  · rw [List.getElem?_eq_none (by omega)]
set_option maxRecDepth 100000 in
set_option maxHeartbeats 1000000 in
theorem begins_any (a b : Option Addr) (tt uu : List (List Bool)) (n c m d : Nat) (q : Bool) (w : World) (hx : RdS w a tt) (hy : RdS w b uu) (hn : n = tt.length) (hm : m = uu.length) (hbn : n ≤ 1048576) (hbm : m ≤ 1048576) (hq : q = begS tt uu) :
    Calls Try.prog 55 #[.slice a n c, .slice b m d] w fun e w' => e = .returned (.bool q) ∧ Below w.heap.size w w' := by
  have Hn := hide hn
  have Hm := hide hm
  have Hq := hide hq
  clear hn hm hq
  by_cases hlen : n < m
  · have hd : decide (n < m) = true := by simpa using hlen
    have hqf : q = false := by rw [Hq.out]; exact begS_no (by have := Hn.out; have := Hm.out; omega)
    subst hqf
    go_enter Try.func55, Try.ntmps55
    go_wp2
    go_ret
    exact ⟨rfl, Below.refl _ _⟩
  · have hd : decide (n < m) = false := by simpa using hlen
    go_enter Try.func55, Try.ntmps55
    go_wp2_with fail
    go_loopw [13] (fun x W => ∃ k : Nat, k ≤ m ∧ x = .int .i64 k ∧ Hid (∀ j, j < k → tt[j]? = uu[j]?) ∧ Below w.heap.size w W) (fun x _ => m - (intOf x).toNat)
    case atStart => exact ⟨0, Nat.zero_le _, rfl, hide (fun j hj => absurd hj (by omega)), Below.refl _ _⟩
    case round =>
      obtain ⟨k, hk, rfl, hs, hb⟩ := hrel
      by_cases hlt : k < m
      · obtain ⟨s, h1⟩ : ∃ s, tt[k]? = some s := ⟨tt[k]'(by have := Hn.out; omega), List.getElem?_eq_getElem _⟩
        obtain ⟨t, h2⟩ : ∃ s, uu[k]? = some s := ⟨uu[k]'(by have := Hm.out; omega), List.getElem?_eq_getElem _⟩
        obtain ⟨b1, o1, ha1, k0, k1⟩ := (hx.keep hb).row k s h1
        obtain ⟨b2, o2, ha2, k2, k3⟩ := (hy.keep hb).row k t h2
        subst ha1 ha2
        have hi1 : ∀ W, (Instr.indexAt 46 (.slice (some ⟨b1, o1, none⟩) n c) (.int .i64 (k : Int))).run Try.prog W = .ok (.pointer (some ⟨b1, o1 + k * 2, none⟩)) W := fun W => by
          obtain ⟨j0, hj, _, hj1, _⟩ := info_parts bitsInfo
          exact run_ix Try.underlying46 hj hj1 b1 o1 n c k (k : Int) rfl (by omega) W
        have hi2 : ∀ W, (Instr.indexAt 46 (.slice (some ⟨b2, o2, none⟩) m d) (.int .i64 (k : Int))).run Try.prog W = .ok (.pointer (some ⟨b2, o2 + k * 2, none⟩)) W := fun W => by
          obtain ⟨j0, hj, _, hj1, _⟩ := info_parts bitsInfo
          exact run_ix Try.underlying46 hj hj1 b2 o2 m d k (k : Int) rfl (by omega) W
        have hneq := run_neqBits s t
        have l0 := later_cell k0
        have l1 := later_cell k1
        have l2 := later_cell k2
        have l3 := later_cell k3
        have H1 := hide h1
        have H2 := hide h2
        have hlI : (k : Int) < m := by omega
        clear h1 h2 k0 k1 k2 k3
        by_cases hst : s = t
        · have hsd : decide (s = t) = true := by simpa using hst
          have Hst := hide hst
          clear hst
          rw [hsd] at hneq
          clear hsd
          go_wp2_with fail
          refine wp_region_later (by kernel_rfl) (by kernel_rfl) ?_
          repeat (go_big_quiet_step (fail))
          refine wpQuiet_nil ?_
          intro W2 hw'
          obtain ⟨⟨W2', hb2⟩, hw''⟩ := hw'
          change W2 = W2' at hw''
          subst hw''
          clear l0 l1 l2 l3 hi1 hi2 hneq
          have hb3 := chain0 hb hb2
          clear hb hb2
          go_wp2
          go_roundw
          case rel =>
            refine ⟨k + 1, by omega, by go_num, hide (fun j hj => ?_), hb3⟩
            by_cases hjk : j < k
            · exact hs.out j hjk
            · rw [show j = k from by omega, H1.out, H2.out, Hst.out]
          case measure => simp [intOf]; omega
        · have hsd : decide (s = t) = false := by simpa using hst
          have Hst := hide hst
          clear hst
          rw [hsd] at hneq
          clear hsd
          have hqf : q = false := by rw [Hq.out]; exact begS_differ k s t (by have := Hm.out; omega) H1.out H2.out Hst.out
          subst hqf
          go_wp2_with fail
          refine wp_region_later (by kernel_rfl) (by kernel_rfl) ?_
          repeat (go_big_quiet_step (fail))
          refine wpQuiet_nil ?_
          intro W2 hw'
          obtain ⟨⟨W2', hb2⟩, hw''⟩ := hw'
          change W2 = W2' at hw''
          subst hw''
          clear l0 l1 l2 l3 hi1 hi2 hneq
          have hb3 := chain0 hb hb2
          clear hb hb2
          go_wp2
          go_ret
          exact ⟨rfl, hb3⟩
      · have hlI : ¬ (k : Int) < m := by omega
        have hqt : q = true := by
          rw [Hq.out]
          exact begS_yes (by have := Hn.out; have := Hm.out; omega) (fun j hj => hs.out j (by have := Hm.out; omega))
        subst hqt
        go_wp2
        go_ret
        exact ⟨rfl, hb⟩
end Go.Proofs.Ytofbcgehemclbaa

