/- LabelTree: the walk. -/
import Derived.Test.YtofbcgehemclbaaLh1
import Derived.Test.YtofbcgehemclbaaLl1
namespace Go.Proofs.Ytofbcgehemclbaa
open Go.RowKit Bm
theorem levelT (a : Option Addr) (bs : List UInt8) (ss : List (List Bool)) (n c : Nat) (q : Int) (w : World) (hr : RdB w a bs) (hn : n = bs.length) (hle : (n : Int) ≤ 9223372036854775807) (hs : IsL bs ss) (hq : q = ss.length) :
    Calls Try.prog 26 #[.slice a n c] w fun e w' => e = .returned (.int .i64 q) ∧ Below w.heap.size w w' := by
  subst hq; exact level_yes a bs ss n c w hr hn hle hs
def lenV : Value → Nat
  | .slice _ n _ => n
  | _ => 0
/-- between two rounds of the making -/
structure Tr (w W : World) (rv ov : Value) (rs os : List (List (List Bool))) (pr po : List PcV) (used : Nat) : Prop where
  ord : Ord rs os
  r : OwP w.heap.size W rv pr
  o : OwP w.heap.size W ov po
  s : Sep rv ov
  br : pr.map (·.2.2) = rs.map fun ss => pkL (wr ss)
  bo : po.map (·.2.2) = os.map fun ss => pkL (wr ss)
  lr : rs.length ≤ 300
  lo : os.length ≤ 1 + 5 * used
  be : Below w.heap.size w W
/-- the children are put on the stack -/
structure In5 (w W : World) (B7 : Nat) (rv ov kv : Value) (pr po kp : List PcV) : Prop where
  r : OwP w.heap.size W rv pr
  o : OwP w.heap.size W ov po
  k : OwP B7 W kv kp
  s : Sep rv ov
  sk : Sep ov kv
  be : Below w.heap.size w W
def toP (ps : List Piece) : List PcV := ps.map fun p => (some ⟨p.1, 0, none⟩, p.2.1, pkL p.2.2)
theorem vsP_toP (ps : List Piece) : vsP (toP ps) = vsOf ps := by simp [vsP, vsOf, toP, length_pkL]
theorem snoc_of {α : Type} (l : List α) (h : l ≠ []) : ∃ a x, l = a ++ [x] := ⟨l.dropLast, l.getLast h, (List.dropLast_concat_getLast h).symm⟩
theorem getD_memL {rs : List (List (List Bool))} {k : Nat} (h : k < rs.length) : rs.getD k [] ∈ rs := by
  rw [List.getD_eq_getElem?_getD, List.getElem?_eq_getElem h]; exact List.getElem_mem _
theorem aftB_of {bs : List UInt8} {ss : List (List Bool)} (h : IsL bs ss) (h0 : ss ≠ []) : aftB bs = pkL (endB ss) := by
  obtain ⟨h1, h2⟩ := ssB_is h
  unfold aftB okP
  rw [h1, h2]
  simp [h0, endB]
theorem aboveQ {ss tt : List (List Bool)} (h : Pf ss tt) : true = aboveS ss tt := by
  have := h.beg
  unfold aboveS begS
  simp [this]
theorem aboveN {ss tt : List (List Bool)} (h : Dv ss tt) : false = aboveS ss tt := by
  have := h.beg
  unfold aboveS begS
  simp [this]
set_option maxRecDepth 100000 in
set_option maxHeartbeats 4000000 in
theorem labelTree_walk (a0 : Option Addr) (len0 cap0 : Nat) (z0 : List Int) (w : World) (w0 : IsRow .i64 w a0 len0 cap0 z0) :
    Calls Try.prog 8 #[.slice a0 len0 cap0] w fun e w' => e = .returned (.bool true) ∧ Below w.heap.size w w' := by
  have hB := Below.refl w.heap.size w
  have hz0 := row_len w0
  by_cases hs : (60 : Int) < (len0 : Int)
  · clear w0
    go_enter Try.func8, Try.ntmps8
    go_wp2_with fail
    refine (awake_any _).mono ?_
    rintro e w1 ⟨rfl, hb1⟩
    have hB2 : Below w.heap.size w w1 := by first | exact chain0 hB hb1 | exact chain1 hB hb1 | exact chain2 hB hb1 | exact chain3 hB hb1
    clear hB
    have hB := hB2
    clear hB2
    go_wp2
    go_ret
    exact ⟨rfl, hB⟩
  have hs' : (len0 : Int) ≤ 60 := by omega
  have hlen0 : len0 ≤ 60 := by omega
  have Hw0 := hide w0
  obtain ⟨i1, hi1, hi2, hi3, hi4⟩ := info_parts pieceInfo
  have Hi : Hid (Try.prog.info? 22 = some i1 ∧ i1.zero = some (.slice none 0 0) ∧ i1.size = 1 ∧ i1.bytes = 24) := ⟨hi1, hi2, hi3, hi4⟩
  clear hs w0 hi1 hi2 hi3 hi4
  go_enter Try.func8, Try.ntmps8
  go_wp2_with fail
  refine (awake_any _).mono ?_
  rintro e w1 ⟨rfl, hb1⟩
  have hB2 : Below w.heap.size w w1 := by first | exact chain0 hB hb1 | exact chain1 hB hb1 | exact chain2 hB hb1 | exact chain3 hB hb1
  clear hB
  have hB := hB2
  clear hB2
  have hk2 := (Below.refl w1.heap.size w1).alloc (Nat.le_refl _) (.cells #[.slice none 0 0] 22)
  have hB2 := chain0 hB hk2
  have hrd2 := Rd.new w1 22 [.slice none 0 0]
  have Hrd2 := hide hrd2
  clear hrd2 hk2
  go_wp2_with (at_builtin; refine wpList_appR rfl _ _ 25 rfl i1 _ 24 1 Try.underlying25 Hi.out.1 Hi.out.2.1 Hi.out.2.2.1 Hi.out.2.2.2 rfl (by decide) rfl rfl ?e1 (ow_nil _ w.heap.size _ _) Hrd2.out (m := 1) rfl ?e2 ?e3 ?e4 ?_)
  case e1 => intro u hu; simp at hu; subst hu; rfl
  case e2 => decide
  case e3 => decide
  case e4 => exact hB2.size
  intro v3 W3 own3 hg3 _
  have hB3 : Below w.heap.size w W3 := hB2.grown hg3 hB2.size (by simp [Value.ownBlock])
  have T0 : Tr w W3 (.slice none 0 0) v3 [] [[]] [] [(none, 0, [])] 0 := ⟨Ord.start, ⟨ow_nil _ _ _ _, fun p hp => absurd hp (by simp)⟩, ⟨own3, fun p hp => by simp at hp; subst hp; exact .inl rfl⟩, (fun g hg => by cases hg), rfl, rfl, by simp, by simp, hB3⟩
  clear hB hB2 Hrd2 own3 hg3 hB3
  go_wp2_with fail
  go_loopw [3, 4, 5] (fun rv ov u W => ∃ (used : Nat) (rs os : List (List (List Bool))) (pr po : List PcV), used ≤ 60 ∧ u = .int .i64 used ∧ Tr w W rv ov rs os pr po used) (fun rv _ _ _ => 301 - lenV rv)
  case atStart => exact ⟨0, [], [[]], [], [(none, 0, [])], by omega, rfl, T0⟩
  case round =>
    clear T0
    obtain ⟨used, rs, os, pr, po, hu60, rfl, T⟩ := hrel
    have hprl : pr.length = rs.length := by have := congrArg List.length T.br; simpa using this
    have hpol : po.length = os.length := by have := congrArg List.length T.bo; simpa using this
    obtain ⟨ar, cr, hrv⟩ := T.r.len
    obtain ⟨nr, hnr⟩ : ∃ n, n = pr.length := ⟨_, rfl⟩
    rw [← hnr] at hrv
    subst hrv
    have hnr2 : nr = rs.length := by omega
    have hnrl : nr ≤ 300 := by have := T.lr; omega
    have Hnr := hide hnr
    have Hnr2 := hide hnr2
    have Hprl := hide hprl
    have Hpol := hide hpol
    clear hnr hnr2 hprl hpol
    by_cases hpo : po = []
    · subst hpo
      obtain ⟨ao, co, hov⟩ := T.o.len
      rw [List.length_nil] at hov
      subst hov
      obtain ⟨bss, hbss⟩ : ∃ b, b = rs.map fun ss => pkL (Bm.wr ss) := ⟨_, rfl⟩
      have hRP0 : RdP wr ar bss := ⟨pr, T.br.trans hbss.symm, by have h := T.r.o; rw [← Hnr.out] at h; exact ow_rd h, fun p hp => (T.r.t p hp).rd⟩
      have hat : ∀ i, i < nr → bss[i]? = some (pkL (Bm.wr (rs.getD i []))) := fun i hi => by
        rw [hbss, List.getElem?_map, List.getD_eq_getElem?_getD, List.getElem?_eq_getElem (by rw [← Hnr2.out]; exact hi)]; rfl
      have hsmall : ∀ i, i < nr → Small (rs.getD i []) := fun i hi => by
        have h2 : i < rs.length := by rw [← Hnr2.out]; exact hi
        exact T.ord.sm _ (List.mem_append.2 (.inl (getD_memL h2)))
      have hrel : ∀ i k, i < k → k < nr → Rel (rs.getD i []) (rs.getD k []) := fun i k h1 h2 => by
        have h3 := (List.pairwise_append.1 T.ord.up).1
        have h4 := List.pairwise_iff_getElem.1 h3 i k (by rw [← Hnr2.out]; omega) (by rw [← Hnr2.out]; omega) h1
        rw [List.getD_eq_getElem?_getD, List.getD_eq_getElem?_getD, List.getElem?_eq_getElem (by rw [← Hnr2.out]; omega), List.getElem?_eq_getElem (by rw [← Hnr2.out]; omega)]
        exact h4
      have hB0 := T.be
      have Hat := hide hat
      have Hsmall := hide hsmall
      have Hrel := hide hrel
      clear hbss hat hsmall hrel T
      go_wp2_with fail
      go_loopw [11] (fun x W => ∃ i : Nat, i ≤ nr ∧ x = .int .i64 i ∧ Below w.heap.size w W ∧ RdP W ar bss) (fun x _ => nr - (intOf x).toNat)
      case atStart => exact ⟨0, Nat.zero_le _, rfl, hB0, hRP0⟩
      case round =>
        clear hB0 hRP0
        obtain ⟨i, hi, rfl, hB1, hRP1⟩ := hrel
        by_cases hin : i < nr
        · obtain ⟨ss, hss⟩ : ∃ q, q = rs.getD i [] := ⟨_, rfl⟩
          obtain ⟨bs, hbs⟩ : ∃ q, q = pkL (Bm.wr ss) := ⟨_, rfl⟩
          have hbi : bss[i]? = some bs := by rw [hbs, hss]; exact Hat.out i hin
          have hIs : IsL bs ss := by rw [hbs]; have := Hsmall.out i hin; rw [← hss] at this; exact this.isL
          have hb128 := (isL_bits hIs).1
          obtain ⟨n1, hn1⟩ : ∃ n, n = bs.length := ⟨_, rfl⟩
          obtain ⟨b, off, p1, c1, har, k1, r1⟩ := hRP1.at i bs hbi
          rw [← hn1] at k1
          subst har
          have ix1 := fun W => ix_pc b off nr cr i hin W
          obtain ⟨fin, hfin⟩ : ∃ q, q = aftB bs := ⟨_, rfl⟩
          obtain ⟨m, hm⟩ : ∃ n, n = fin.length := ⟨_, rfl⟩
          have hmb : m ≤ 1000 := by rw [hm, hfin]; exact aftB_le bs
          have hfs : ss ≠ [] → fin = pkL (endB ss) := fun h => by rw [hfin]; exact aftB_of hIs h
          have hn1b : n1 ≤ 128 := by rw [hn1]; exact hb128
          have Hn1 := hide hn1
          have Hfin := hide hfin
          have Hm := hide hm
          have Hfs := hide hfs
          have HIs := hide hIs
          have Hbi := hide hbi
          have Hss := hide hss
          have Hbs := hide hbs
          clear hn1 hfin hm hfs hIs hbi hss hbs
          go_wp2_with fail
          refine (afterG p1 bs n1 c1 _ fin m r1 Hn1.out (by omega) Hfin.out Hm.out).mono ?_
          rintro e w5 ⟨ae, ce, rfl, re5, hb5⟩
          have hB5 := chain0 hB1 hb5
          have hRP5 := hRP1.keep hb5
          clear hB1 hRP1 hb5 k1 r1
          go_wp2_with fail
          go_loopw [13] (fun x W => ∃ k : Nat, k ≤ nr ∧ x = .int .i64 k ∧ Below w.heap.size w W ∧ RdP W (some ⟨b, off, none⟩) bss ∧ RdB W ae fin) (fun x _ => nr - (intOf x).toNat)
          case atStart => exact ⟨0, Nat.zero_le _, rfl, hB5, hRP5, re5⟩
          case round =>
            clear hB5 hRP5 re5
            obtain ⟨k, hk, rfl, hB6, hRP6, re6⟩ := hrel
            by_cases hkn : k < nr
            · obtain ⟨tt, htt⟩ : ∃ q, q = rs.getD k [] := ⟨_, rfl⟩
              obtain ⟨ct, hct⟩ : ∃ q, q = pkL (Bm.wr tt) := ⟨_, rfl⟩
              have hbk : bss[k]? = some ct := by rw [hct, htt]; exact Hat.out k hkn
              have hIt : IsL ct tt := by rw [hct]; have := Hsmall.out k hkn; rw [← htt] at this; exact this.isL
              have hc128 := (isL_bits hIt).1
              obtain ⟨n2, hn2⟩ : ∃ n, n = ct.length := ⟨_, rfl⟩
              have hn2b : n2 ≤ 128 := by rw [hn2]; exact hc128
              obtain ⟨b3, o3, p3, c3, har3, k3, r3⟩ := hRP6.at i bs Hbi.out
              injection har3 with har3
              injection har3 with e1 e2
              subst e1 e2
              obtain ⟨b2, o2, p2, c2, har2, k2, r2⟩ := hRP6.at k ct hbk
              injection har2 with har2
              injection har2 with e1 e2
              subst e1 e2
              rw [← Hn1.out] at k3
              rw [← hn2] at k2
              have ix2 := fun W => ix_pc b off nr cr k hkn W
              have l3 := later_cell k3
              have l2 := later_cell k2
              have hq36 : (i < k → -1 = Lib.compareBytes bs ct) ∧ (k < i → 1 = Lib.compareBytes bs ct) ∧ (i = k → 0 = Lib.compareBytes bs ct) := by
                refine ⟨fun h => ?_, fun h => ?_, fun h => ?_⟩
                · have := (Hrel.out i k h hkn).cmp
                  rw [← Hss.out, ← htt, ← Hbs.out, ← hct] at this
                  exact this.symm
                · have := (Hrel.out k i h hin).cmp
                  rw [← Hss.out, ← htt, ← Hbs.out, ← hct] at this
                  rw [cmp_anti, this]; rfl
                · have e : bs = ct := by rw [hct, htt, Hbs.out, Hss.out, h]
                  rw [e]; exact (cmp_refl _).symm
              have hrel38 : i < k → ss ≠ [] → (Pf ss tt) ∨ (Dv ss tt) := fun h _ => by
                have := Hrel.out i k h hkn
                rw [← Hss.out, ← htt] at this
                exact this
              have hne : 0 < i → ss ≠ [] := fun h => by
                have := (Hrel.out 0 i h hin).ne
                rw [← Hss.out] at this
                exact this
              have Hn2 := hide hn2
              have HIt := hide hIt
              have Hct := hide hct
              have Hq36 := hide hq36
              have Hrel38 := hide hrel38
              have Hne := hide hne
              clear hn2 hIt hct hq36 hrel38 hne htt hbk
              rcases Nat.lt_trichotomy i k with hik | hik | hik
              · have hd1 : decide (i < k) = true := decide_eq_true hik
                have hd2 : decide (k < i) = false := decide_eq_false (by omega)
                have Hq := hide (Hq36.out.1 hik)
                go_wp2_with fail
                refine wp_region_later (by kernel_rfl) (by kernel_rfl) ?_
                repeat (go_big_quiet_step ((go_at_call 29; exact later_of (compareL p3 p2 bs ct n1 c3 n2 c2 (-1) _ (r3.keep (Subtype.property _)) (r2.keep (Subtype.property _)) Hn1.out Hn2.out Hq.out))))
                refine wpQuiet_nil ?_
                intro w7 hw7
                obtain ⟨⟨w7', hb7⟩, hw7'⟩ := hw7
                change w7 = w7' at hw7'
                subst hw7'
                have hB7 := chain0 hB6 hb7
                have hRP7 := hRP6.keep hb7
                have re7 := re6.keep hb7
                have r37 := r3.keep hb7
                have r27 := r2.keep hb7
                have m3 := later_cell (cell_keep hb7 k3)
                have m2 := later_cell (cell_keep hb7 k2)
                clear l2 l3 k2 k3 r2 r3 hB6 hRP6 re6 hb7
                by_cases hi0 : i = 0
                · have hi0I : decide ((0 : Int) < (i : Int)) = false := decide_eq_false (by omega)
                  have hi0N : decide (0 < i) = false := decide_eq_false (by omega)
                  clear hi0
                  go_wp2_with fail
                  refine wp_region_later (by kernel_rfl) (by kernel_rfl) ?_
                  repeat (go_big_quiet_step (fail))
                  refine wpQuiet_nil ?_
                  intro w8 hw8
                  obtain ⟨⟨w8', hb8⟩, hw8'⟩ := hw8
                  change w8 = w8' at hw8'
                  subst hw8'
                  have hB8 := chain0 hB7 hb8
                  have hRP8 := hRP7.keep hb8
                  have re8 := re7.keep hb8
                  clear m2 m3
                  go_wp2
                  go_roundw
                  case rel => exact ⟨k + 1, by omega, by go_num, hB8, hRP8, re8⟩
                  case measure => simp [intOf]; omega
                · have hi0I : decide ((0 : Int) < (i : Int)) = true := decide_eq_true (by omega)
                  have hi0N : decide (0 < i) = true := decide_eq_true (by omega)
                  have hss0 := Hne.out (by omega)
                  have hfs0 := Hfs.out hss0
                  rcases Hrel38.out hik hss0 with hpf | hdv
                  · have Ha := hide (aboveQ hpf)
                    have Hf : Hid (-1 = Lib.compareBytes ct fin) := hide (by rw [hfs0, Hct.out]; exact (hpf.fin hss0).symm)
                    clear hss0 hfs0 hpf
                    go_wp2_with fail
                    refine wp_region_later (by kernel_rfl) (by kernel_rfl) ?_
                    repeat (go_big_quiet_step ((go_at_call 31; exact later_of (above_both p3 p2 bs ct ss tt n1 c3 n2 c2 (true) _ (r37.keep (Subtype.property _)) (r27.keep (Subtype.property _)) Hn1.out Hn2.out (by omega) (by omega) HIs.out HIt.out Ha.out))))
                    repeat (go_big_quiet_step ((go_at_call 29; exact later_of (compareL p2 ae ct fin n2 c2 m ce (-1) _ (r27.keep (Subtype.property _)) (re7.keep (Subtype.property _)) Hn2.out Hm.out Hf.out))))
                    refine wpQuiet_nil ?_
                    intro w8 hw8
                    obtain ⟨⟨w8', hb8⟩, hw8'⟩ := hw8
                    change w8 = w8' at hw8'
                    subst hw8'
                    have hB8 := chain0 hB7 hb8
                    have hRP8 := hRP7.keep hb8
                    have re8 := re7.keep hb8
                    clear m2 m3
                    go_wp2
                    go_roundw
                    case rel => exact ⟨k + 1, by omega, by go_num, hB8, hRP8, re8⟩
                    case measure => simp [intOf]; omega
                  · have Ha := hide (aboveN hdv)
                    obtain ⟨q2, hq2⟩ : ∃ q, q = Lib.compareBytes ct fin := ⟨_, rfl⟩
                    have hq2n : decide (q2 < 0) = false := decide_eq_false (by
                      have := hdv.fin
                      rw [← hfs0, ← Hct.out, ← hq2] at this
                      omega)
                    have Hf := hide hq2
                    clear hss0 hfs0 hdv hq2
                    go_wp2_with fail
                    refine wp_region_later (by kernel_rfl) (by kernel_rfl) ?_
                    repeat (go_big_quiet_step ((go_at_call 31; exact later_of (above_both p3 p2 bs ct ss tt n1 c3 n2 c2 (false) _ (r37.keep (Subtype.property _)) (r27.keep (Subtype.property _)) Hn1.out Hn2.out (by omega) (by omega) HIs.out HIt.out Ha.out))))
                    repeat (go_big_quiet_step ((go_at_call 29; exact later_of (compareL p2 ae ct fin n2 c2 m ce (q2) _ (r27.keep (Subtype.property _)) (re7.keep (Subtype.property _)) Hn2.out Hm.out Hf.out))))
                    refine wpQuiet_nil ?_
                    intro w8 hw8
                    obtain ⟨⟨w8', hb8⟩, hw8'⟩ := hw8
                    change w8 = w8' at hw8'
                    subst hw8'
                    have hB8 := chain0 hB7 hb8
                    have hRP8 := hRP7.keep hb8
                    have re8 := re7.keep hb8
                    clear m2 m3
                    go_wp2
                    go_roundw
                    case rel => exact ⟨k + 1, by omega, by go_num, hB8, hRP8, re8⟩
                    case measure => simp [intOf]; omega
              · have hd1 : decide (i < k) = false := decide_eq_false (by omega)
                have hd2 : decide (k < i) = false := decide_eq_false (by omega)
                have Hq := hide (Hq36.out.2.2 hik)
                clear hik
                go_wp2_with fail
                refine wp_region_later (by kernel_rfl) (by kernel_rfl) ?_
                repeat (go_big_quiet_step ((go_at_call 29; exact later_of (compareL p3 p2 bs ct n1 c3 n2 c2 (0) _ (r3.keep (Subtype.property _)) (r2.keep (Subtype.property _)) Hn1.out Hn2.out Hq.out))))
                refine wpQuiet_nil ?_
                intro w7 hw7
                obtain ⟨⟨w7', hb7⟩, hw7'⟩ := hw7
                change w7 = w7' at hw7'
                subst hw7'
                have hB7 := chain0 hB6 hb7
                have hRP7 := hRP6.keep hb7
                have re7 := re6.keep hb7
                have r37 := r3.keep hb7
                have r27 := r2.keep hb7
                have m3 := later_cell (cell_keep hb7 k3)
                have m2 := later_cell (cell_keep hb7 k2)
                clear l2 l3 k2 k3 r2 r3 hB6 hRP6 re6 hb7
                by_cases hi0 : i = 0
                · have hi0I : decide ((0 : Int) < (i : Int)) = false := decide_eq_false (by omega)
                  have hi0N : decide (0 < i) = false := decide_eq_false (by omega)
                  clear hi0
                  go_wp2_with fail
                  refine wp_region_later (by kernel_rfl) (by kernel_rfl) ?_
                  repeat (go_big_quiet_step (fail))
                  refine wpQuiet_nil ?_
                  intro w8 hw8
                  obtain ⟨⟨w8', hb8⟩, hw8'⟩ := hw8
                  change w8 = w8' at hw8'
                  subst hw8'
                  have hB8 := chain0 hB7 hb8
                  have hRP8 := hRP7.keep hb8
                  have re8 := re7.keep hb8
                  clear m2 m3
                  go_wp2
                  go_roundw
                  case rel => exact ⟨k + 1, by omega, by go_num, hB8, hRP8, re8⟩
                  case measure => simp [intOf]; omega
                · have hi0I : decide ((0 : Int) < (i : Int)) = true := decide_eq_true (by omega)
                  have hi0N : decide (0 < i) = true := decide_eq_true (by omega)
                  go_wp2_with fail
                  refine wp_region_later (by kernel_rfl) (by kernel_rfl) ?_
                  repeat (go_big_quiet_step (fail))
                  refine wpQuiet_nil ?_
                  intro w8 hw8
                  obtain ⟨⟨w8', hb8⟩, hw8'⟩ := hw8
                  change w8 = w8' at hw8'
                  subst hw8'
                  have hB8 := chain0 hB7 hb8
                  have hRP8 := hRP7.keep hb8
                  have re8 := re7.keep hb8
                  clear m2 m3
                  go_wp2
                  go_roundw
                  case rel => exact ⟨k + 1, by omega, by go_num, hB8, hRP8, re8⟩
                  case measure => simp [intOf]; omega
              · have hd1 : decide (i < k) = false := decide_eq_false (by omega)
                have hd2 : decide (k < i) = true := decide_eq_true hik
                have Hq := hide (Hq36.out.2.1 hik)
                have hi0I : decide ((0 : Int) < (i : Int)) = true := decide_eq_true (by omega)
                have hi0N : decide (0 < i) = true := decide_eq_true (by omega)
                go_wp2_with fail
                refine wp_region_later (by kernel_rfl) (by kernel_rfl) ?_
                repeat (go_big_quiet_step ((go_at_call 29; exact later_of (compareL p3 p2 bs ct n1 c3 n2 c2 (1) _ (r3.keep (Subtype.property _)) (r2.keep (Subtype.property _)) Hn1.out Hn2.out Hq.out))))
                refine wpQuiet_nil ?_
                intro w7 hw7
                obtain ⟨⟨w7', hb7⟩, hw7'⟩ := hw7
                change w7 = w7' at hw7'
                subst hw7'
                have hB7 := chain0 hB6 hb7
                have hRP7 := hRP6.keep hb7
                have re7 := re6.keep hb7
                have r37 := r3.keep hb7
                have r27 := r2.keep hb7
                have m3 := later_cell (cell_keep hb7 k3)
                have m2 := later_cell (cell_keep hb7 k2)
                clear l2 l3 k2 k3 r2 r3 hB6 hRP6 re6 hb7
                go_wp2_with fail
                refine wp_region_later (by kernel_rfl) (by kernel_rfl) ?_
                repeat (go_big_quiet_step (fail))
                refine wpQuiet_nil ?_
                intro w8 hw8
                obtain ⟨⟨w8', hb8⟩, hw8'⟩ := hw8
                change w8 = w8' at hw8'
                subst hw8'
                have hB8 := chain0 hB7 hb8
                have hRP8 := hRP7.keep hb8
                have re8 := re7.keep hb8
                clear m2 m3
                go_wp2
                go_roundw
                case rel => exact ⟨k + 1, by omega, by go_num, hB8, hRP8, re8⟩
                case measure => simp [intOf]; omega
            · have hkn' : k = nr := by omega
              subst hkn'
              go_wp2
              go_roundw
              case rel => exact ⟨i + 1, by omega, by go_num, hB6, hRP6⟩
              case measure => simp [intOf]; omega
        · have hin' : i = nr := by omega
          subst hin'
          go_wp2
          go_ret
          exact ⟨rfl, hB1⟩
    obtain ⟨po', ql, rfl⟩ := snoc_of po hpo
    obtain ⟨go, co, hov, hgo1, hgo2, hgo3⟩ := T.o.form hpo
    subst hov
    obtain ⟨no, hno⟩ : ∃ n, n = po'.length := ⟨_, rfl⟩
    obtain ⟨mo, hmo⟩ : ∃ n, n = (po' ++ [ql]).length := ⟨_, rfl⟩
    rw [← hmo] at hgo3
    rw [← hmo]
    have hmo2 : mo = no + 1 := by rw [hmo, hno]; simp
    have hmob : mo ≤ 301 := by have := T.lo; have := Hpol.out; omega
    have hmoI : (0 : Int) < mo := by omega
    by_cases hnr3 : (nr : Int) < 300
    rotate_left
    · obtain ⟨bss, hbss⟩ : ∃ b, b = rs.map fun ss => pkL (Bm.wr ss) := ⟨_, rfl⟩
      have hRP0 : RdP wr ar bss := ⟨pr, T.br.trans hbss.symm, by have h := T.r.o; rw [← Hnr.out] at h; exact ow_rd h, fun p hp => (T.r.t p hp).rd⟩
      have hat : ∀ i, i < nr → bss[i]? = some (pkL (Bm.wr (rs.getD i []))) := fun i hi => by
        rw [hbss, List.getElem?_map, List.getD_eq_getElem?_getD, List.getElem?_eq_getElem (by rw [← Hnr2.out]; exact hi)]; rfl
      have hsmall : ∀ i, i < nr → Small (rs.getD i []) := fun i hi => by
        have h2 : i < rs.length := by rw [← Hnr2.out]; exact hi
        exact T.ord.sm _ (List.mem_append.2 (.inl (getD_memL h2)))
      have hrel : ∀ i k, i < k → k < nr → Rel (rs.getD i []) (rs.getD k []) := fun i k h1 h2 => by
        have h3 := (List.pairwise_append.1 T.ord.up).1
        have h4 := List.pairwise_iff_getElem.1 h3 i k (by rw [← Hnr2.out]; omega) (by rw [← Hnr2.out]; omega) h1
        rw [List.getD_eq_getElem?_getD, List.getD_eq_getElem?_getD, List.getElem?_eq_getElem (by rw [← Hnr2.out]; omega), List.getElem?_eq_getElem (by rw [← Hnr2.out]; omega)]
        exact h4
      have hB0 := T.be
      have Hat := hide hat
      have Hsmall := hide hsmall
      have Hrel := hide hrel
      clear hbss hat hsmall hrel T
      go_wp2_with fail
      go_loopw [11] (fun x W => ∃ i : Nat, i ≤ nr ∧ x = .int .i64 i ∧ Below w.heap.size w W ∧ RdP W ar bss) (fun x _ => nr - (intOf x).toNat)
      case atStart => exact ⟨0, Nat.zero_le _, rfl, hB0, hRP0⟩
      case round =>
        clear hB0 hRP0
        obtain ⟨i, hi, rfl, hB1, hRP1⟩ := hrel
        by_cases hin : i < nr
        · obtain ⟨ss, hss⟩ : ∃ q, q = rs.getD i [] := ⟨_, rfl⟩
          obtain ⟨bs, hbs⟩ : ∃ q, q = pkL (Bm.wr ss) := ⟨_, rfl⟩
          have hbi : bss[i]? = some bs := by rw [hbs, hss]; exact Hat.out i hin
          have hIs : IsL bs ss := by rw [hbs]; have := Hsmall.out i hin; rw [← hss] at this; exact this.isL
          have hb128 := (isL_bits hIs).1
          obtain ⟨n1, hn1⟩ : ∃ n, n = bs.length := ⟨_, rfl⟩
          obtain ⟨b, off, p1, c1, har, k1, r1⟩ := hRP1.at i bs hbi
          rw [← hn1] at k1
          subst har
          have ix1 := fun W => ix_pc b off nr cr i hin W
          obtain ⟨fin, hfin⟩ : ∃ q, q = aftB bs := ⟨_, rfl⟩
          obtain ⟨m, hm⟩ : ∃ n, n = fin.length := ⟨_, rfl⟩
          have hmb : m ≤ 1000 := by rw [hm, hfin]; exact aftB_le bs
          have hfs : ss ≠ [] → fin = pkL (endB ss) := fun h => by rw [hfin]; exact aftB_of hIs h
          have hn1b : n1 ≤ 128 := by rw [hn1]; exact hb128
          have Hn1 := hide hn1
          have Hfin := hide hfin
          have Hm := hide hm
          have Hfs := hide hfs
          have HIs := hide hIs
          have Hbi := hide hbi
          have Hss := hide hss
          have Hbs := hide hbs
          clear hn1 hfin hm hfs hIs hbi hss hbs
          go_wp2_with fail
          refine (afterG p1 bs n1 c1 _ fin m r1 Hn1.out (by omega) Hfin.out Hm.out).mono ?_
          rintro e w5 ⟨ae, ce, rfl, re5, hb5⟩
          have hB5 := chain0 hB1 hb5
          have hRP5 := hRP1.keep hb5
          clear hB1 hRP1 hb5 k1 r1
          go_wp2_with fail
          go_loopw [13] (fun x W => ∃ k : Nat, k ≤ nr ∧ x = .int .i64 k ∧ Below w.heap.size w W ∧ RdP W (some ⟨b, off, none⟩) bss ∧ RdB W ae fin) (fun x _ => nr - (intOf x).toNat)
          case atStart => exact ⟨0, Nat.zero_le _, rfl, hB5, hRP5, re5⟩
          case round =>
            clear hB5 hRP5 re5
            obtain ⟨k, hk, rfl, hB6, hRP6, re6⟩ := hrel
            by_cases hkn : k < nr
            · obtain ⟨tt, htt⟩ : ∃ q, q = rs.getD k [] := ⟨_, rfl⟩
              obtain ⟨ct, hct⟩ : ∃ q, q = pkL (Bm.wr tt) := ⟨_, rfl⟩
              have hbk : bss[k]? = some ct := by rw [hct, htt]; exact Hat.out k hkn
              have hIt : IsL ct tt := by rw [hct]; have := Hsmall.out k hkn; rw [← htt] at this; exact this.isL
              have hc128 := (isL_bits hIt).1
              obtain ⟨n2, hn2⟩ : ∃ n, n = ct.length := ⟨_, rfl⟩
              have hn2b : n2 ≤ 128 := by rw [hn2]; exact hc128
              obtain ⟨b3, o3, p3, c3, har3, k3, r3⟩ := hRP6.at i bs Hbi.out
              injection har3 with har3
              injection har3 with e1 e2
              subst e1 e2
              obtain ⟨b2, o2, p2, c2, har2, k2, r2⟩ := hRP6.at k ct hbk
              injection har2 with har2
              injection har2 with e1 e2
              subst e1 e2
              rw [← Hn1.out] at k3
              rw [← hn2] at k2
              have ix2 := fun W => ix_pc b off nr cr k hkn W
              have l3 := later_cell k3
              have l2 := later_cell k2
              have hq36 : (i < k → -1 = Lib.compareBytes bs ct) ∧ (k < i → 1 = Lib.compareBytes bs ct) ∧ (i = k → 0 = Lib.compareBytes bs ct) := by
                refine ⟨fun h => ?_, fun h => ?_, fun h => ?_⟩
                · have := (Hrel.out i k h hkn).cmp
                  rw [← Hss.out, ← htt, ← Hbs.out, ← hct] at this
                  exact this.symm
                · have := (Hrel.out k i h hin).cmp
                  rw [← Hss.out, ← htt, ← Hbs.out, ← hct] at this
                  rw [cmp_anti, this]; rfl
                · have e : bs = ct := by rw [hct, htt, Hbs.out, Hss.out, h]
                  rw [e]; exact (cmp_refl _).symm
              have hrel38 : i < k → ss ≠ [] → (Pf ss tt) ∨ (Dv ss tt) := fun h _ => by
                have := Hrel.out i k h hkn
                rw [← Hss.out, ← htt] at this
                exact this
              have hne : 0 < i → ss ≠ [] := fun h => by
                have := (Hrel.out 0 i h hin).ne
                rw [← Hss.out] at this
                exact this
              have Hn2 := hide hn2
              have HIt := hide hIt
              have Hct := hide hct
              have Hq36 := hide hq36
              have Hrel38 := hide hrel38
              have Hne := hide hne
              clear hn2 hIt hct hq36 hrel38 hne htt hbk
              rcases Nat.lt_trichotomy i k with hik | hik | hik
              · have hd1 : decide (i < k) = true := decide_eq_true hik
                have hd2 : decide (k < i) = false := decide_eq_false (by omega)
                have Hq := hide (Hq36.out.1 hik)
                go_wp2_with fail
                refine wp_region_later (by kernel_rfl) (by kernel_rfl) ?_
                repeat (go_big_quiet_step ((go_at_call 29; exact later_of (compareL p3 p2 bs ct n1 c3 n2 c2 (-1) _ (r3.keep (Subtype.property _)) (r2.keep (Subtype.property _)) Hn1.out Hn2.out Hq.out))))
                refine wpQuiet_nil ?_
                intro w7 hw7
                obtain ⟨⟨w7', hb7⟩, hw7'⟩ := hw7
                change w7 = w7' at hw7'
                subst hw7'
                have hB7 := chain0 hB6 hb7
                have hRP7 := hRP6.keep hb7
                have re7 := re6.keep hb7
                have r37 := r3.keep hb7
                have r27 := r2.keep hb7
                have m3 := later_cell (cell_keep hb7 k3)
                have m2 := later_cell (cell_keep hb7 k2)
                clear l2 l3 k2 k3 r2 r3 hB6 hRP6 re6 hb7
                by_cases hi0 : i = 0
                · have hi0I : decide ((0 : Int) < (i : Int)) = false := decide_eq_false (by omega)
                  have hi0N : decide (0 < i) = false := decide_eq_false (by omega)
                  clear hi0
                  go_wp2_with fail
                  refine wp_region_later (by kernel_rfl) (by kernel_rfl) ?_
                  repeat (go_big_quiet_step (fail))
                  refine wpQuiet_nil ?_
                  intro w8 hw8
                  obtain ⟨⟨w8', hb8⟩, hw8'⟩ := hw8
                  change w8 = w8' at hw8'
                  subst hw8'
                  have hB8 := chain0 hB7 hb8
                  have hRP8 := hRP7.keep hb8
                  have re8 := re7.keep hb8
                  clear m2 m3
                  go_wp2
                  go_roundw
                  case rel => exact ⟨k + 1, by omega, by go_num, hB8, hRP8, re8⟩
                  case measure => simp [intOf]; omega
                · have hi0I : decide ((0 : Int) < (i : Int)) = true := decide_eq_true (by omega)
                  have hi0N : decide (0 < i) = true := decide_eq_true (by omega)
                  have hss0 := Hne.out (by omega)
                  have hfs0 := Hfs.out hss0
                  rcases Hrel38.out hik hss0 with hpf | hdv
                  · have Ha := hide (aboveQ hpf)
                    have Hf : Hid (-1 = Lib.compareBytes ct fin) := hide (by rw [hfs0, Hct.out]; exact (hpf.fin hss0).symm)
                    clear hss0 hfs0 hpf
                    go_wp2_with fail
                    refine wp_region_later (by kernel_rfl) (by kernel_rfl) ?_
                    repeat (go_big_quiet_step ((go_at_call 31; exact later_of (above_both p3 p2 bs ct ss tt n1 c3 n2 c2 (true) _ (r37.keep (Subtype.property _)) (r27.keep (Subtype.property _)) Hn1.out Hn2.out (by omega) (by omega) HIs.out HIt.out Ha.out))))
                    repeat (go_big_quiet_step ((go_at_call 29; exact later_of (compareL p2 ae ct fin n2 c2 m ce (-1) _ (r27.keep (Subtype.property _)) (re7.keep (Subtype.property _)) Hn2.out Hm.out Hf.out))))
                    refine wpQuiet_nil ?_
                    intro w8 hw8
                    obtain ⟨⟨w8', hb8⟩, hw8'⟩ := hw8
                    change w8 = w8' at hw8'
                    subst hw8'
                    have hB8 := chain0 hB7 hb8
                    have hRP8 := hRP7.keep hb8
                    have re8 := re7.keep hb8
                    clear m2 m3
                    go_wp2
                    go_roundw
                    case rel => exact ⟨k + 1, by omega, by go_num, hB8, hRP8, re8⟩
                    case measure => simp [intOf]; omega
                  · have Ha := hide (aboveN hdv)
                    obtain ⟨q2, hq2⟩ : ∃ q, q = Lib.compareBytes ct fin := ⟨_, rfl⟩
                    have hq2n : decide (q2 < 0) = false := decide_eq_false (by
                      have := hdv.fin
                      rw [← hfs0, ← Hct.out, ← hq2] at this
                      omega)
                    have Hf := hide hq2
                    clear hss0 hfs0 hdv hq2
                    go_wp2_with fail
                    refine wp_region_later (by kernel_rfl) (by kernel_rfl) ?_
                    repeat (go_big_quiet_step ((go_at_call 31; exact later_of (above_both p3 p2 bs ct ss tt n1 c3 n2 c2 (false) _ (r37.keep (Subtype.property _)) (r27.keep (Subtype.property _)) Hn1.out Hn2.out (by omega) (by omega) HIs.out HIt.out Ha.out))))
                    repeat (go_big_quiet_step ((go_at_call 29; exact later_of (compareL p2 ae ct fin n2 c2 m ce (q2) _ (r27.keep (Subtype.property _)) (re7.keep (Subtype.property _)) Hn2.out Hm.out Hf.out))))
                    refine wpQuiet_nil ?_
                    intro w8 hw8
                    obtain ⟨⟨w8', hb8⟩, hw8'⟩ := hw8
                    change w8 = w8' at hw8'
                    subst hw8'
                    have hB8 := chain0 hB7 hb8
                    have hRP8 := hRP7.keep hb8
                    have re8 := re7.keep hb8
                    clear m2 m3
                    go_wp2
                    go_roundw
                    case rel => exact ⟨k + 1, by omega, by go_num, hB8, hRP8, re8⟩
                    case measure => simp [intOf]; omega
              · have hd1 : decide (i < k) = false := decide_eq_false (by omega)
                have hd2 : decide (k < i) = false := decide_eq_false (by omega)
                have Hq := hide (Hq36.out.2.2 hik)
                clear hik
                go_wp2_with fail
                refine wp_region_later (by kernel_rfl) (by kernel_rfl) ?_
                repeat (go_big_quiet_step ((go_at_call 29; exact later_of (compareL p3 p2 bs ct n1 c3 n2 c2 (0) _ (r3.keep (Subtype.property _)) (r2.keep (Subtype.property _)) Hn1.out Hn2.out Hq.out))))
                refine wpQuiet_nil ?_
                intro w7 hw7
                obtain ⟨⟨w7', hb7⟩, hw7'⟩ := hw7
                change w7 = w7' at hw7'
                subst hw7'
                have hB7 := chain0 hB6 hb7
                have hRP7 := hRP6.keep hb7
                have re7 := re6.keep hb7
                have r37 := r3.keep hb7
                have r27 := r2.keep hb7
                have m3 := later_cell (cell_keep hb7 k3)
                have m2 := later_cell (cell_keep hb7 k2)
                clear l2 l3 k2 k3 r2 r3 hB6 hRP6 re6 hb7
                by_cases hi0 : i = 0
                · have hi0I : decide ((0 : Int) < (i : Int)) = false := decide_eq_false (by omega)
                  have hi0N : decide (0 < i) = false := decide_eq_false (by omega)
                  clear hi0
                  go_wp2_with fail
                  refine wp_region_later (by kernel_rfl) (by kernel_rfl) ?_
                  repeat (go_big_quiet_step (fail))
                  refine wpQuiet_nil ?_
                  intro w8 hw8
                  obtain ⟨⟨w8', hb8⟩, hw8'⟩ := hw8
                  change w8 = w8' at hw8'
                  subst hw8'
                  have hB8 := chain0 hB7 hb8
                  have hRP8 := hRP7.keep hb8
                  have re8 := re7.keep hb8
                  clear m2 m3
                  go_wp2
                  go_roundw
                  case rel => exact ⟨k + 1, by omega, by go_num, hB8, hRP8, re8⟩
                  case measure => simp [intOf]; omega
                · have hi0I : decide ((0 : Int) < (i : Int)) = true := decide_eq_true (by omega)
                  have hi0N : decide (0 < i) = true := decide_eq_true (by omega)
                  go_wp2_with fail
                  refine wp_region_later (by kernel_rfl) (by kernel_rfl) ?_
                  repeat (go_big_quiet_step (fail))
                  refine wpQuiet_nil ?_
                  intro w8 hw8
                  obtain ⟨⟨w8', hb8⟩, hw8'⟩ := hw8
                  change w8 = w8' at hw8'
                  subst hw8'
                  have hB8 := chain0 hB7 hb8
                  have hRP8 := hRP7.keep hb8
                  have re8 := re7.keep hb8
                  clear m2 m3
                  go_wp2
                  go_roundw
                  case rel => exact ⟨k + 1, by omega, by go_num, hB8, hRP8, re8⟩
                  case measure => simp [intOf]; omega
              · have hd1 : decide (i < k) = false := decide_eq_false (by omega)
                have hd2 : decide (k < i) = true := decide_eq_true hik
                have Hq := hide (Hq36.out.2.1 hik)
                have hi0I : decide ((0 : Int) < (i : Int)) = true := decide_eq_true (by omega)
                have hi0N : decide (0 < i) = true := decide_eq_true (by omega)
                go_wp2_with fail
                refine wp_region_later (by kernel_rfl) (by kernel_rfl) ?_
                repeat (go_big_quiet_step ((go_at_call 29; exact later_of (compareL p3 p2 bs ct n1 c3 n2 c2 (1) _ (r3.keep (Subtype.property _)) (r2.keep (Subtype.property _)) Hn1.out Hn2.out Hq.out))))
                refine wpQuiet_nil ?_
                intro w7 hw7
                obtain ⟨⟨w7', hb7⟩, hw7'⟩ := hw7
                change w7 = w7' at hw7'
                subst hw7'
                have hB7 := chain0 hB6 hb7
                have hRP7 := hRP6.keep hb7
                have re7 := re6.keep hb7
                have r37 := r3.keep hb7
                have r27 := r2.keep hb7
                have m3 := later_cell (cell_keep hb7 k3)
                have m2 := later_cell (cell_keep hb7 k2)
                clear l2 l3 k2 k3 r2 r3 hB6 hRP6 re6 hb7
                go_wp2_with fail
                refine wp_region_later (by kernel_rfl) (by kernel_rfl) ?_
                repeat (go_big_quiet_step (fail))
                refine wpQuiet_nil ?_
                intro w8 hw8
                obtain ⟨⟨w8', hb8⟩, hw8'⟩ := hw8
                change w8 = w8' at hw8'
                subst hw8'
                have hB8 := chain0 hB7 hb8
                have hRP8 := hRP7.keep hb8
                have re8 := re7.keep hb8
                clear m2 m3
                go_wp2
                go_roundw
                case rel => exact ⟨k + 1, by omega, by go_num, hB8, hRP8, re8⟩
                case measure => simp [intOf]; omega
            · have hkn' : k = nr := by omega
              subst hkn'
              go_wp2
              go_roundw
              case rel => exact ⟨i + 1, by omega, by go_num, hB6, hRP6⟩
              case measure => simp [intOf]; omega
        · have hin' : i = nr := by omega
          subst hin'
          go_wp2
          go_ret
          exact ⟨rfl, hB1⟩
    obtain ⟨p6, c6, b6⟩ := ql
    obtain ⟨n6, hn6⟩ : ∃ n, n = b6.length := ⟨_, rfl⟩
    -- the label on top
    obtain ⟨os', l, hos⟩ : ∃ a x, os = a ++ [x] := snoc_of os (by
      intro e
      have := Hpol.out
      rw [e] at this
      simp at this)
    subst hos
    have hbo := T.bo
    rw [List.map_append, List.map_append, List.map_cons, List.map_nil, List.map_cons, List.map_nil] at hbo
    obtain ⟨hbo1, hbo2⟩ := List.append_inj' hbo rfl
    have hb6 : b6 = pkL (Bm.wr l) := by simpa using hbo2
    have hsm : Small l := T.ord.sm l (by simp)
    have hIl : IsL b6 l := by rw [hb6]; exact hsm.isL
    have hb128 : n6 ≤ 128 := by rw [hn6]; exact (isL_bits hIl).1
    have ixO : ∀ W, (Instr.indexAt 25 (.slice (some ⟨go, 0, none⟩) mo co) (.int .i64 ((mo : Int) - 1))).run Try.prog W = .ok (.pointer (some ⟨go, no, none⟩)) W := fun W => by
      have := ix_pc go 0 mo co no (by omega) W
      rw [show ((no : Nat) : Int) = (mo : Int) - 1 from by omega, Nat.zero_add] at this
      exact this
    have slO : ∀ W, (Instr.slice 25 (.slice (some ⟨go, 0, none⟩) mo co) none (some (.int .i64 ((mo : Int) - 1))) none).run Try.prog W = .ok (.slice (some ⟨go, 0, none⟩) no co) W := fun W => by
      have := run_slOwn go mo co no (by omega) hgo3 W
      rw [show ((no : Nat) : Int) = (mo : Int) - 1 from by omega] at this
      exact this
    have hcO : wr.cell? ⟨go, no, none⟩ = some (.slice p6 n6 c6) := by
      have := T.o
      rw [← hmo] at this
      have := this.at no (p6, c6, b6) (by rw [hno]; simp)
      rw [hn6]; exact this
    have hpop : OwP w.heap.size wr (.slice (some ⟨go, 0, none⟩) no co) po' := by
      have h1 := T.o
      rw [← hmo, hmo2] at h1
      exact h1.pop hno
    have htg6 : TgB wr p6 b6 := T.o.t (p6, c6, b6) (by simp)
    have hss : Sep (.slice ar nr cr) (.slice (some ⟨go, 0, none⟩) no co) := fun g h1 h2 => T.s g h1 (by simpa [Value.ownBlock] using h2)
    have hk6 := (Below.refl wr.heap.size wr).alloc (Nat.le_refl _) (.cells #[.slice p6 n6 c6] 22)
    have hrd6 := Rd.new wr 22 [.slice p6 n6 c6]
    have hr6 := T.r.keep hk6
    have ho6 := hpop.keep hk6
    have ht6 := htg6.keep hk6
    have hb6' := chain0 T.be hk6
    have Hr6 := hide hr6
    have Ho6 := hide ho6
    have Ht6 := hide ht6
    have Hrd6 := hide hrd6
    have Hss := hide hss
    have HT := hide T
    have Hb6 := hide hb6
    have Hn6 := hide hn6
    have HIl := hide hIl
    have Hno := hide hno
    have Hmo := hide hmo
    have Hbo1 := hide hbo1
    clear hr6 ho6 ht6 hrd6 hk6 hpop htg6 hss T hb6 hn6 hIl hno hmo hbo hbo1 hbo2
    go_wp2_with (at_builtin; refine wpList_appR rfl _ _ 25 rfl i1 _ 24 1 Try.underlying25 Hi.out.1 Hi.out.2.1 Hi.out.2.2.1 Hi.out.2.2.2 rfl (by decide) rfl rfl ?f1 ((by have h := Hr6.out.o; rw [← Hnr.out] at h; exact h) : (wr.alloc (.cells #[.slice p6 n6 c6] 22)).ownsRow w.heap.size 22 1 (.slice ar nr cr) nr (vsP pr)) Hrd6.out (m := 1) rfl ?f2 ?f3 ?f4 ?_)
    case f1 => intro u hu; simp at hu; subst hu; rfl
    case f2 => omega
    case f3 => omega
    case f4 => exact hb6'.size
    intro v7 W7 own7 hg7 hv7
    clear ixO slO hcO
    have hB7 : Below w.heap.size w W7 := hb6'.grown hg7 hb6'.size (fun k hk => (ow_lt Hr6.out.o k hk).1)
    have hr7 : OwP w.heap.size W7 v7 (pr ++ [(p6, c6, b6)]) := Hr6.out.app Ht6.out (by rw [← Hnr.out, ← Hn6.out]; exact own7) hg7
    have ho7 : OwP w.heap.size W7 (.slice (some ⟨go, 0, none⟩) no co) po' := Ho6.out.far hg7 Hss.out Hr6.out.o
    have hs7 : Sep v7 (.slice (some ⟨go, 0, none⟩) no co) := Hss.out.app Ho6.out (by simpa using hv7)
    have ht7 : RdB W7 p6 b6 := (Ht6.out.other hg7 Hr6.out.o).rd
    obtain ⟨ar7, cr7, hv7e⟩ := hr7.len
    have hl7 : (pr ++ [((p6, c6, b6) : PcV)]).length = nr + 1 := by rw [List.length_append, ← Hnr.out]; rfl
    rw [hl7] at hv7e
    subst hv7e
    clear own7 hg7 hv7 Hr6 Ho6 Ht6 Hrd6 Hss hb6'
    have hb77 : Below W7.heap.size W7 W7 := Below.refl _ _
    by_cases hu : used < len0
    rotate_left
    · have hud : decide (used < len0) = false := decide_eq_false hu
      have x_B := ht7
      have hb78 := hb77
      have hBK := hB7
      -- the children
      obtain ⟨kk, hkk4, hkk1, hkk2⟩ := few_pow (0) (by omega)
      have Hk1 := hide hkk1
      have Hk2 := hide hkk2
      have hkok := kidsOf_ok (n := 0) hsm (by first | (intro h; omega) | (intro h; exact absurd h (by decide))) hkk1 hkk4
      have hkdv := kidsOf_dv l (n := 0) (by omega) hkk1 hkk4
      have Hkok := hide hkok
      have Hkdv := hide hkdv
      clear hkk1 hkk2 hkok hkdv
      go_wp2_with fail
      refine (kids_any p6 b6 l n6 c6 (0) kk _ x_B Hn6.out (by omega) HIl.out (by omega) Hk1.out Hk2.out).mono ?_
      rintro e w9 (⟨-, ak, ck, kp, hkp, rfl, -, hpc9, hb9, hown9⟩ | ⟨⟨r, hr, hbig⟩, -, -⟩)
      rotate_left
      · exfalso
        rw [← kidsOf_rows] at hr
        obtain ⟨q, hq, rfl⟩ := List.mem_map.1 hr
        have h1 := (Hkok.out q hq).1
        have h2 := wr_small q h1.2.2
        have h3 := h1.2.1
        omega
      have hbk9 := chain0 hb78 hb9
      have hB9 := chain0 hBK hb9
      have hle7 := hb78.size
      have hkpl : kp.length = 0 := by
        have := congrArg List.length hkp
        rw [List.length_map, kidRows_len] at this
        exact this
      obtain ⟨kq, hkq⟩ : ∃ q, q = toP kp := ⟨_, rfl⟩
      have hkql : kq.length = 0 := by rw [hkq, toP, List.length_map, hkpl]
      have hkqb : kq.map (·.2.2) = (kidsOf l kk (0)).map fun ss => pkL (Bm.wr ss) := by
        have : (kidsOf l kk (0)).map (fun ss => pkL (Bm.wr ss)) = ((kidsOf l kk (0)).map Bm.wr).map pkL := by simp
        rw [this, kidsOf_rows, ← hkp, hkq, toP, List.map_map, List.map_map]
        rfl
      have hK9 : OwP W7.heap.size w9 (.slice ak (0) ck) kq := by
        refine ⟨?_, fun q hq => ?_⟩
        · rw [hkql, hkq, vsP_toP]; exact hown9
        · rw [hkq] at hq
          obtain ⟨q', hq', rfl⟩ := List.mem_map.1 hq
          exact (hpc9.fr q' hq').tg
      have hsk9 : Sep (.slice (some ⟨go, 0, none⟩) no co) (.slice ak (0) ck) := by
        intro g h1 h2
        have h3 := (ow_lt ho7.o g h1).2
        have h4 := (ow_lt hK9.o g h2).1
        have h5 := hle7
        omega
      have hI0 : In5 w w9 W7.heap.size (.slice ar7 (nr + 1) cr7) (.slice (some ⟨go, 0, none⟩) no co) (.slice ak (0) ck) (pr ++ [(p6, c6, b6)]) (po' ++ kq.reverse.take 0) kq :=
        ⟨hr7.keep hbk9, by rw [List.take_zero, List.append_nil]; exact ho7.keep hbk9, hK9, hs7, hsk9, hB9⟩
      have Hkql := hide hkql
      have Hkqb := hide hkqb
      clear hkp hpc9 hb9 hown9 hkpl hkq hkql hkqb hK9 hsk9 hbk9 hB9 hle7 hb78 hBK x_B hr7 ho7 hs7 ht7 hB7
      go_wp2_with fail
      go_loopw [4, 10] (fun ov x W => ∃ t : Nat, t ≤ 0 ∧ x = .int .i64 (((0 : Nat) : Int) - 1 - t) ∧ In5 w W W7.heap.size (.slice ar7 (nr + 1) cr7) ov (.slice ak (0) ck) (pr ++ [(p6, c6, b6)]) (po' ++ kq.reverse.take t) kq) (fun _ x _ => (intOf x + 1).toNat)
      case atStart => exact ⟨0, Nat.zero_le _, by simp, hI0⟩
      case round =>
        clear hI0
        obtain ⟨t, ht, rfl, I⟩ := hrel
        by_cases htn : t < 0
        · exact absurd htn (Nat.not_lt_zero _)
        · have htn' : t = 0 := by omega
          have hneg : ¬ (0 : Int) ≤ ((0 : Nat) : Int) - 1 - t := by omega
          obtain ⟨ao, cp', hov⟩ := I.o.len
          subst hov
          have T' : Tr w wr (.slice ar7 (nr + 1) cr7) (.slice ao (po' ++ kq.reverse.take t).length cp') (rs ++ [l]) (os' ++ (kidsOf l kk (0)).reverse) (pr ++ [(p6, c6, b6)]) (po' ++ kq.reverse) (used) := by
            have hIo := I.o
            have hts : kq.reverse.take t = kq.reverse := by rw [htn', List.take_of_length_le (by rw [List.length_reverse, Hkql.out]; exact Nat.le_refl _)]
            rw [hts] at hIo ⊢
            have hIs := I.s
            rw [hts] at hIs
            refine ⟨HT.out.ord.step Hkok.out Hkdv.out, I.r, hIo, hIs, ?_, ?_, ?_, ?_, I.be⟩
            · rw [List.map_append, List.map_append, HT.out.br, List.map_cons, List.map_nil, List.map_cons, List.map_nil, Hb6.out]
            · rw [List.map_append, List.map_append, Hbo1.out, List.map_reverse, List.map_reverse, Hkqb.out]
            · have := Hnr2.out; rw [List.length_append, List.length_singleton]; omega
            · have := HT.out.lo
              rw [List.length_append, List.length_singleton] at this
              rw [List.length_append, List.length_reverse, kidsOf_length]; omega
          clear I
          go_wp2
          go_roundw
          case rel => exact ⟨used, _, _, _, _, by omega, by first | rfl | go_num, T'⟩
          case measure => simp [lenV]; omega
    · have hud : decide (used < len0) = true := decide_eq_true hu
      obtain ⟨lq, hlq⟩ : ∃ q : Nat, q = l.length := ⟨_, rfl⟩
      have Hlq : Hid ((lq : Int) = l.length) := by show (lq : Int) = l.length; rw [hlq]
      by_cases hl12 : (lq : Int) < 12
      · obtain ⟨b1, o1, z, ha1, hcell⟩ := int_at Hw0.out used hu
        subst ha1
        have hix := fun W => ix_int b1 o1 len0 cap0 used hu W
        have hl12' : l.length < 12 := by omega
        clear hlq
        go_wp2_with fail
        refine (levelT p6 b6 l n6 c6 (lq : Int) _ ht7 Hn6.out (by omega) HIl.out Hlq.out).mono ?_
        rintro e w8 ⟨rfl, hb78⟩
        have hBK := chain0 hB7 hb78
        have hcell := cell_keep hBK hcell
        have x_B := ht7.keep hb78
        go_wp2_with fail
        refine (pick_any z 6 _ (by omega) (by omega)).mono ?_
        rintro e W1 ⟨n, hn, rfl, rfl⟩
        clear hcell hix
        -- the children
        obtain ⟨kk, hkk4, hkk1, hkk2⟩ := few_pow (n) (by omega)
        have Hk1 := hide hkk1
        have Hk2 := hide hkk2
        have hkok := kidsOf_ok (n := n) hsm (by first | (intro h; omega) | (intro h; exact absurd h (by decide))) hkk1 hkk4
        have hkdv := kidsOf_dv l (n := n) (by omega) hkk1 hkk4
        have Hkok := hide hkok
        have Hkdv := hide hkdv
        clear hkk1 hkk2 hkok hkdv
        go_wp2_with fail
        refine (kids_any p6 b6 l n6 c6 (n) kk _ x_B Hn6.out (by omega) HIl.out (by omega) Hk1.out Hk2.out).mono ?_
        rintro e w9 (⟨-, ak, ck, kp, hkp, rfl, -, hpc9, hb9, hown9⟩ | ⟨⟨r, hr, hbig⟩, -, -⟩)
        rotate_left
        · exfalso
          rw [← kidsOf_rows] at hr
          obtain ⟨q, hq, rfl⟩ := List.mem_map.1 hr
          have h1 := (Hkok.out q hq).1
          have h2 := wr_small q h1.2.2
          have h3 := h1.2.1
          omega
        have hbk9 := chain0 hb78 hb9
        have hB9 := chain0 hBK hb9
        have hle7 := hb78.size
        have hkpl : kp.length = n := by
          have := congrArg List.length hkp
          rw [List.length_map, kidRows_len] at this
          exact this
        obtain ⟨kq, hkq⟩ : ∃ q, q = toP kp := ⟨_, rfl⟩
        have hkql : kq.length = n := by rw [hkq, toP, List.length_map, hkpl]
        have hkqb : kq.map (·.2.2) = (kidsOf l kk (n)).map fun ss => pkL (Bm.wr ss) := by
          have : (kidsOf l kk (n)).map (fun ss => pkL (Bm.wr ss)) = ((kidsOf l kk (n)).map Bm.wr).map pkL := by simp
          rw [this, kidsOf_rows, ← hkp, hkq, toP, List.map_map, List.map_map]
          rfl
        have hK9 : OwP w8.heap.size w9 (.slice ak (n) ck) kq := by
          refine ⟨?_, fun q hq => ?_⟩
          · rw [hkql, hkq, vsP_toP]; exact hown9
          · rw [hkq] at hq
            obtain ⟨q', hq', rfl⟩ := List.mem_map.1 hq
            exact (hpc9.fr q' hq').tg
        have hsk9 : Sep (.slice (some ⟨go, 0, none⟩) no co) (.slice ak (n) ck) := by
          intro g h1 h2
          have h3 := (ow_lt ho7.o g h1).2
          have h4 := (ow_lt hK9.o g h2).1
          have h5 := hle7
          omega
        have hI0 : In5 w w9 w8.heap.size (.slice ar7 (nr + 1) cr7) (.slice (some ⟨go, 0, none⟩) no co) (.slice ak (n) ck) (pr ++ [(p6, c6, b6)]) (po' ++ kq.reverse.take 0) kq :=
          ⟨hr7.keep hbk9, by rw [List.take_zero, List.append_nil]; exact ho7.keep hbk9, hK9, hs7, hsk9, hB9⟩
        have Hkql := hide hkql
        have Hkqb := hide hkqb
        clear hkp hpc9 hb9 hown9 hkpl hkq hkql hkqb hK9 hsk9 hbk9 hB9 hle7 hb78 hBK x_B hr7 ho7 hs7 ht7 hB7
        go_wp2_with fail
        go_loopw [4, 10] (fun ov x W => ∃ t : Nat, t ≤ n ∧ x = .int .i64 (((n : Nat) : Int) - 1 - t) ∧ In5 w W w8.heap.size (.slice ar7 (nr + 1) cr7) ov (.slice ak (n) ck) (pr ++ [(p6, c6, b6)]) (po' ++ kq.reverse.take t) kq) (fun _ x _ => (intOf x + 1).toNat)
        case atStart => exact ⟨0, Nat.zero_le _, by simp, hI0⟩
        case round =>
          clear hI0
          obtain ⟨t, ht, rfl, I⟩ := hrel
          by_cases htn : t < n
          · obtain ⟨b, hb⟩ : ∃ b : Nat, ((n : Nat) : Int) - 1 - t = (b : Int) := ⟨n - 1 - t, by omega⟩
            rw [hb]
            obtain ⟨⟨pq, cq, bq⟩, hq⟩ : ∃ q, kq[b]? = some q := ⟨_, List.getElem?_eq_getElem (by rw [Hkql.out]; omega)⟩
            obtain ⟨gk, ck', hkv, _, _, _⟩ := I.k.form (by intro e; have := Hkql.out; rw [e] at this; simp at this; omega)
            injection hkv with e1 e2 e3
            clear e2
            subst e1 e3
            have hcq := I.k.at b _ hq
            obtain ⟨nq, hnq⟩ : ∃ n, n = bq.length := ⟨_, rfl⟩
            dsimp only at hcq
            rw [← hnq] at hcq
            have ixK : ∀ W, (Instr.indexAt 25 (.slice (some ⟨gk, 0, none⟩) (n) ck) (.int .i64 (b : Int))).run Try.prog W = .ok (.pointer (some ⟨gk, b, none⟩)) W := fun W => by
              have := ix_pc gk 0 (n) ck b (by omega) W
              rwa [Nat.zero_add] at this
            have htq : TgB wr pq bq := I.k.t (pq, cq, bq) (List.mem_of_getElem? hq)
            have hkr : kq.reverse.take (t + 1) = kq.reverse.take t ++ [(pq, cq, bq)] := by
              have hlt : t < kq.reverse.length := by rw [List.length_reverse, Hkql.out]; exact htn
              rw [List.take_succ_eq_append_getElem hlt]
              congr 1
              rw [List.getElem_reverse]
              have h2 : kq.length - 1 - t = b := by rw [Hkql.out]; omega
              have h3 := hq
              rw [← h2, List.getElem?_eq_getElem (by rw [Hkql.out]; omega)] at h3
              injection h3 with h3
              rw [h3]
            have hkq1 := (Below.refl wr.heap.size wr).alloc (Nat.le_refl _) (.cells #[.slice pq nq cq] 22)
            have hrdq := Rd.new wr 22 [.slice pq nq cq]
            have hIr := I.r.keep hkq1
            have hIo := I.o.keep hkq1
            have hIk := I.k.keep hkq1
            have htq1 := htq.keep hkq1
            have hIb := chain0 I.be hkq1
            have hIs := I.s
            have hIsk := I.sk
            obtain ⟨ao, cp', hov⟩ := hIo.len
            subst hov
            obtain ⟨no', hno'⟩ : ∃ n, n = (po' ++ kq.reverse.take t).length := ⟨_, rfl⟩
            rw [← hno']
            have hnob : no' ≤ 1000 := by
              rw [hno', List.length_append, List.length_take, List.length_reverse, Hkql.out, ← Hno.out]
              omega
            have Hnq := hide hnq
            have Hkr := hide hkr
            have Hrdq := hide hrdq
            have HIr := hide hIr
            have HIo := hide hIo
            have HIk := hide hIk
            have Htq := hide htq1
            have HIs := hide hIs
            have HIsk := hide hIsk
            have Hno' := hide hno'
            clear hnq hkr hrdq hIr hIo hIk htq1 hIs hIsk htq hkq1 I hq hno'
            go_wp2_with (at_builtin; refine wpList_appR rfl _ _ 25 rfl i1 _ 24 1 Try.underlying25 Hi.out.1 Hi.out.2.1 Hi.out.2.2.1 Hi.out.2.2.2 rfl (by decide) rfl rfl ?g1 ((by have h := HIo.out.o; rw [← Hno'.out] at h; exact h) : (wr.alloc (.cells #[.slice pq nq cq] 22)).ownsRow w.heap.size 22 1 (.slice ao no' cp') no' (vsP (po' ++ kq.reverse.take t))) Hrdq.out (m := 1) rfl ?g2 ?g3 ?g4 ?_)
            case g1 => intro u hu; simp at hu; subst hu; rfl
            case g2 => omega
            case g3 => omega
            case g4 => exact hIb.size
            intro v' W' own' hg' hv'
            have hv2 : v'.ownBlock = (Value.slice ao (po' ++ kq.reverse.take t).length cp').ownBlock ∨ v'.ownBlock = some (wr.alloc (.cells #[.slice pq nq cq] 22)).heap.size := by
              rw [← Hno'.out]; simpa using hv'
            have hg2 : (wr.alloc (.cells #[.slice pq nq cq] 22)).grownBy W' (Value.slice ao (po' ++ kq.reverse.take t).length cp').ownBlock := by rw [← Hno'.out]; exact hg'
            have I' : In5 w W' w8.heap.size (.slice ar7 (nr + 1) cr7) v' (.slice (some ⟨gk, 0, none⟩) (n) ck) (pr ++ [(p6, c6, b6)]) (po' ++ kq.reverse.take (t + 1)) kq := by
              refine ⟨HIr.out.far hg2 HIs.out.symm HIo.out.o, ?_, HIk.out.far hg2 HIsk.out HIo.out.o, (HIs.out.symm.app HIr.out hv2).symm, HIsk.out.app HIk.out hv2, hIb.grown hg2 hIb.size (fun k hk => (ow_lt HIo.out.o k hk).1)⟩
              rw [Hkr.out, ← List.append_assoc]
              exact HIo.out.app Htq.out (by rw [← Hno'.out, ← Hnq.out]; exact own') hg2
            clear own' hg' hv' hg2 hv2 HIr HIo HIk Htq HIs HIsk Hrdq hcq ixK hIb
            go_wp2
            go_roundw
            case rel => exact ⟨t + 1, by omega, by first | (congr 1; done) | (congr 1; omega), I'⟩
            case measure => first | (simp [intOf]; done) | (simp [intOf]; omega)
          · have htn' : t = n := by omega
            have hneg : ¬ (0 : Int) ≤ ((n : Nat) : Int) - 1 - t := by omega
            obtain ⟨ao, cp', hov⟩ := I.o.len
            subst hov
            have T' : Tr w wr (.slice ar7 (nr + 1) cr7) (.slice ao (po' ++ kq.reverse.take t).length cp') (rs ++ [l]) (os' ++ (kidsOf l kk (n)).reverse) (pr ++ [(p6, c6, b6)]) (po' ++ kq.reverse) (used+1) := by
              have hIo := I.o
              have hts : kq.reverse.take t = kq.reverse := by rw [htn', List.take_of_length_le (by rw [List.length_reverse, Hkql.out]; exact Nat.le_refl _)]
              rw [hts] at hIo ⊢
              have hIs := I.s
              rw [hts] at hIs
              refine ⟨HT.out.ord.step Hkok.out Hkdv.out, I.r, hIo, hIs, ?_, ?_, ?_, ?_, I.be⟩
              · rw [List.map_append, List.map_append, HT.out.br, List.map_cons, List.map_nil, List.map_cons, List.map_nil, Hb6.out]
              · rw [List.map_append, List.map_append, Hbo1.out, List.map_reverse, List.map_reverse, Hkqb.out]
              · have := Hnr2.out; rw [List.length_append, List.length_singleton]; omega
              · have := HT.out.lo
                rw [List.length_append, List.length_singleton] at this
                rw [List.length_append, List.length_reverse, kidsOf_length]; omega
            clear I
            go_wp2
            go_roundw
            case rel => exact ⟨used+1, _, _, _, _, by omega, by first | rfl | go_num, T'⟩
            case measure => simp [lenV]; omega
      · have hl12n : ¬ (lq : Int) < 12 := hl12
        clear hlq
        go_wp2_with fail
        refine (levelT p6 b6 l n6 c6 (lq : Int) _ ht7 Hn6.out (by omega) HIl.out Hlq.out).mono ?_
        rintro e w8 ⟨rfl, hb78⟩
        have hBK := chain0 hB7 hb78
        have x_B := ht7.keep hb78
        -- the children
        obtain ⟨kk, hkk4, hkk1, hkk2⟩ := few_pow (0) (by omega)
        have Hk1 := hide hkk1
        have Hk2 := hide hkk2
        have hkok := kidsOf_ok (n := 0) hsm (by first | (intro h; omega) | (intro h; exact absurd h (by decide))) hkk1 hkk4
        have hkdv := kidsOf_dv l (n := 0) (by omega) hkk1 hkk4
        have Hkok := hide hkok
        have Hkdv := hide hkdv
        clear hkk1 hkk2 hkok hkdv
        go_wp2_with fail
        refine (kids_any p6 b6 l n6 c6 (0) kk _ x_B Hn6.out (by omega) HIl.out (by omega) Hk1.out Hk2.out).mono ?_
        rintro e w9 (⟨-, ak, ck, kp, hkp, rfl, -, hpc9, hb9, hown9⟩ | ⟨⟨r, hr, hbig⟩, -, -⟩)
        rotate_left
        · exfalso
          rw [← kidsOf_rows] at hr
          obtain ⟨q, hq, rfl⟩ := List.mem_map.1 hr
          have h1 := (Hkok.out q hq).1
          have h2 := wr_small q h1.2.2
          have h3 := h1.2.1
          omega
        have hbk9 := chain0 hb78 hb9
        have hB9 := chain0 hBK hb9
        have hle7 := hb78.size
        have hkpl : kp.length = 0 := by
          have := congrArg List.length hkp
          rw [List.length_map, kidRows_len] at this
          exact this
        obtain ⟨kq, hkq⟩ : ∃ q, q = toP kp := ⟨_, rfl⟩
        have hkql : kq.length = 0 := by rw [hkq, toP, List.length_map, hkpl]
        have hkqb : kq.map (·.2.2) = (kidsOf l kk (0)).map fun ss => pkL (Bm.wr ss) := by
          have : (kidsOf l kk (0)).map (fun ss => pkL (Bm.wr ss)) = ((kidsOf l kk (0)).map Bm.wr).map pkL := by simp
          rw [this, kidsOf_rows, ← hkp, hkq, toP, List.map_map, List.map_map]
          rfl
        have hK9 : OwP w8.heap.size w9 (.slice ak (0) ck) kq := by
          refine ⟨?_, fun q hq => ?_⟩
          · rw [hkql, hkq, vsP_toP]; exact hown9
          · rw [hkq] at hq
            obtain ⟨q', hq', rfl⟩ := List.mem_map.1 hq
            exact (hpc9.fr q' hq').tg
        have hsk9 : Sep (.slice (some ⟨go, 0, none⟩) no co) (.slice ak (0) ck) := by
          intro g h1 h2
          have h3 := (ow_lt ho7.o g h1).2
          have h4 := (ow_lt hK9.o g h2).1
          have h5 := hle7
          omega
        have hI0 : In5 w w9 w8.heap.size (.slice ar7 (nr + 1) cr7) (.slice (some ⟨go, 0, none⟩) no co) (.slice ak (0) ck) (pr ++ [(p6, c6, b6)]) (po' ++ kq.reverse.take 0) kq :=
          ⟨hr7.keep hbk9, by rw [List.take_zero, List.append_nil]; exact ho7.keep hbk9, hK9, hs7, hsk9, hB9⟩
        have Hkql := hide hkql
        have Hkqb := hide hkqb
        clear hkp hpc9 hb9 hown9 hkpl hkq hkql hkqb hK9 hsk9 hbk9 hB9 hle7 hb78 hBK x_B hr7 ho7 hs7 ht7 hB7
        go_wp2_with fail
        go_loopw [4, 10] (fun ov x W => ∃ t : Nat, t ≤ 0 ∧ x = .int .i64 (((0 : Nat) : Int) - 1 - t) ∧ In5 w W w8.heap.size (.slice ar7 (nr + 1) cr7) ov (.slice ak (0) ck) (pr ++ [(p6, c6, b6)]) (po' ++ kq.reverse.take t) kq) (fun _ x _ => (intOf x + 1).toNat)
        case atStart => exact ⟨0, Nat.zero_le _, by simp, hI0⟩
        case round =>
          clear hI0
          obtain ⟨t, ht, rfl, I⟩ := hrel
          by_cases htn : t < 0
          · exact absurd htn (Nat.not_lt_zero _)
          · have htn' : t = 0 := by omega
            have hneg : ¬ (0 : Int) ≤ ((0 : Nat) : Int) - 1 - t := by omega
            obtain ⟨ao, cp', hov⟩ := I.o.len
            subst hov
            have T' : Tr w wr (.slice ar7 (nr + 1) cr7) (.slice ao (po' ++ kq.reverse.take t).length cp') (rs ++ [l]) (os' ++ (kidsOf l kk (0)).reverse) (pr ++ [(p6, c6, b6)]) (po' ++ kq.reverse) (used) := by
              have hIo := I.o
              have hts : kq.reverse.take t = kq.reverse := by rw [htn', List.take_of_length_le (by rw [List.length_reverse, Hkql.out]; exact Nat.le_refl _)]
              rw [hts] at hIo ⊢
              have hIs := I.s
              rw [hts] at hIs
              refine ⟨HT.out.ord.step Hkok.out Hkdv.out, I.r, hIo, hIs, ?_, ?_, ?_, ?_, I.be⟩
              · rw [List.map_append, List.map_append, HT.out.br, List.map_cons, List.map_nil, List.map_cons, List.map_nil, Hb6.out]
              · rw [List.map_append, List.map_append, Hbo1.out, List.map_reverse, List.map_reverse, Hkqb.out]
              · have := Hnr2.out; rw [List.length_append, List.length_singleton]; omega
              · have := HT.out.lo
                rw [List.length_append, List.length_singleton] at this
                rw [List.length_append, List.length_reverse, kidsOf_length]; omega
            clear I
            go_wp2
            go_roundw
            case rel => exact ⟨used, _, _, _, _, by omega, by first | rfl | go_num, T'⟩
            case measure => simp [lenV]; omega
end Go.Proofs.Ytofbcgehemclbaa

