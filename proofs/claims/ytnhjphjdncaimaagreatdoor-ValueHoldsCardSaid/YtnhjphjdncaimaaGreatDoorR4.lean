/- The reference: Compare at eq and ne. The reference: Compare at lt and le. The reference: Compare at gt and ge. The reference: Compare at what is no sign; both Compares at any sign. -/
import Derived.Test.YtnhjphjdncaimaaGreatDoorR3
import Derived.Test.YtnhjphjdncaimaaGreatDoorR2
namespace Go.Proofs.YtnhjphjdncaimaaGreatDoor
open Go.RowKit
set_option maxRecDepth 100000 in
set_option maxHeartbeats 8000000 in
theorem rcompare_eq (hf : Int → Bool) (pa pb : Option Addr) (na nb ca cb : Nat) (la lb : List It) (w : World) (hh : RSign ⟨#[61]⟩ hf) (ha : OkA w ⟨pa, la, ca⟩) (hb : OkA w ⟨pb, lb, cb⟩) (hna : na = la.length) (hnb : nb = lb.length) :
    Calls Tryz.prog 8 #[.string ⟨#[61]⟩, .slice pa na ca, .slice pb nb cb] w fun e w' => e = .returned (.tuple #[.bool (cmpA hf ⟨pa, la, ca⟩ ⟨pb, lb, cb⟩).1, .int .i64 (cmpA hf ⟨pa, la, ca⟩ ⟨pb, lb, cb⟩).2]) ∧ Below w.heap.size w w' := by
  have Hh := hide hh
  have Hr1 := hide (rrights_any pa na ca la w ha hna)
  have Hr2 : Hid (∀ W, Below w.heap.size w W → Calls Tryz.prog 27 #[.slice pb nb cb] W fun e w' => e = .returned (.bool (lb.all okI)) ∧ Below W.heap.size W w') := fun W hW => rrights_any pb nb cb lb W ⟨hb.1.keep hW, hb.2⟩ hnb
  have Ha := hide ha
  have Hb := hide hb
  have Hna := hide hna
  have Hnb := hide hnb
  have hna2 : na < 9223372036854775807 := by rw [hna]; exact ha.2.2
  have hnb2 : nb < 9223372036854775807 := by rw [hnb]; exact hb.2.2
  have Hcmp : Hid (cmpA hf ⟨pa, la, ca⟩ ⟨pb, lb, cb⟩ = if (la.all okI && lb.all okI) = true then cOut hf lb la else (false, 2)) := by show _ = _; unfold cmpA; simp [rightL]
  clear hh ha hb hna hnb
  rcases Bool.eq_false_or_eq_true (la.all okI) with hqa | hqa
  · rw [hqa] at Hr1
    rcases Bool.eq_false_or_eq_true (lb.all okI) with hqb | hqb
    · rw [hqb] at Hr2
      have Hc : Hid (cmpA hf ⟨pa, la, ca⟩ ⟨pb, lb, cb⟩ = cOut hf lb la) := by show _ = _; rw [Hcmp.out, hqa, hqb]; rfl
      clear hqa hqb Hcmp
      go_enter Tryz.func8, Tryz.ntmps8
      go_wp2_with fail
      refine Hr1.out.mono ?_
      rintro e w0 ⟨rfl, hb0⟩
      go_wp2_with fail
      refine (Hr2.out w0 hb0).mono ?_
      rintro e w1 ⟨rfl, hbb⟩
      have hB1 := chain0 hb0 hbb
      clear hbb hb0
      go_wp2_with fail
      go_loopw [8] (fun i W => ∃ k : Nat, k ≤ na ∧ i = .int .i64 k ∧ Hid (cOut hf lb (la.drop k) = cOut hf lb la) ∧ Below w.heap.size w W) (fun i _ => na - (intOf i).toNat)
      case atStart => exact ⟨0, Nat.zero_le _, rfl, hide rfl, hB1⟩
      case round =>
        clear hB1
        obtain ⟨k, hk, rfl, Hk, hB⟩ := hrel
        by_cases hlt : k < na
        · have hI : (k : Int) < (na : Int) := by omega
          obtain ⟨x, hx⟩ : ∃ x, la[k]? = some x := ⟨_, List.getElem?_eq_getElem (by have := Hna.out; omega)⟩
          have hs1 := Ha.out.2.1 x (List.mem_of_getElem? hx)
          have Hst := hide (drop_at la k x hx)
          have Hx := hide hx
          obtain ⟨b1, off1, hp1, _⟩ := Ha.out.1.at k x hx
          dsimp only at hp1
          subst hp1
          have hix := ix_item b1 off1 na ca k hlt
          clear hx
          obtain ⟨k1, a1, t1, d1⟩ := x
          dsimp only at hs1
          go_wp2_with fail
          go_loopw [9] (fun i W => ∃ j : Nat, j ≤ nb ∧ i = .int .i64 j ∧ Hid (cIn hf ⟨k1, a1, t1, d1⟩ (lb.drop j) = cIn hf ⟨k1, a1, t1, d1⟩ lb) ∧ Below w.heap.size w W) (fun i _ => nb - (intOf i).toNat)
          case atStart => exact ⟨0, Nat.zero_le _, rfl, hide rfl, hB⟩
          case round =>
            clear hB
            obtain ⟨j, hj, rfl, Hj, hB3⟩ := hrel
            by_cases hlj : j < nb
            · have hI2 : (j : Int) < (nb : Int) := by omega
              obtain ⟨y, hy⟩ : ∃ y, lb[j]? = some y := ⟨_, List.getElem?_eq_getElem (by have := Hnb.out; omega)⟩
              obtain ⟨b2, off2, e2, q0, q1, q2, q3⟩ := (Hb.out.1.keep hB3).at j y hy
              dsimp only at e2
              subst e2
              obtain ⟨b3, off3, e3, c0, c1, c2, c3⟩ := (Ha.out.1.keep hB3).at k _ Hx.out
              injection e3 with e3
              injection e3 with e3 e4
              subst e3 e4
              have hs2 := Hb.out.2.1 y (List.mem_of_getElem? hy)
              have hix2 := ix_item b2 off2 nb cb j hlj
              have Hsj := hide (drop_at lb j y hy)
              clear hy
              obtain ⟨k2, a2, t2, d2⟩ := y
              dsimp only at c0 c1 c2 c3 q0 q1 q2 q3 hs2
              have l0 := later_cell c0
              have l1 := later_cell c1
              have l2 := later_cell c2
              have l3 := later_cell c3
              have r0 := later_cell q0
              have r1 := later_cell q1
              have r2 := later_cell q2
              have r3 := later_cell q3
              clear c0 c1 c2 c3 q0 q1 q2 q3
              go_wp2_with fail
              refine wp_region_later (by kernel_rfl) (by kernel_rfl) ?_
              repeat (go_big_quiet_step ((go_at_call 28; exact later_of (rorder_any k1 k2 a1 a2 d1 d2 t1 t2 _ hs1 hs2))))
              refine wpQuiet_nil ?_
              intro _ hw'
              obtain ⟨y, hw''⟩ := hw'
              subst hw''
              have hB5 := chain0 hB3 y.2
              clear l0 l1 l2 l3 r0 r1 r2 r3 hix2
              by_cases hE : oE ⟨k1, a1, t1, d1⟩ ⟨k2, a2, t2, d2⟩ = 0
              · rw [hE]
                go_wp2_with fail
                refine (Hh.out _ _).mono ?_
                rintro e wx ⟨rfl, rfl⟩
                rcases Bool.eq_false_or_eq_true (hf (oV ⟨k1, a1, t1, d1⟩ ⟨k2, a2, t2, d2⟩)) with hv | hv
                · have HR : Hid (cmpA hf ⟨some ⟨b1, off1, none⟩, la, ca⟩ ⟨some ⟨b2, off2, none⟩, lb, cb⟩ = (true, 0)) := by
                    show _ = _
                    rw [Hc.out, ← Hk.out, Hst.out]
                    refine cOut_some ?_
                    rw [← Hj.out, Hsj.out]
                    exact cIn_yes hE hv
                  rw [hv]
                  clear Hc Hk Hst Hj Hsj hE hv
                  go_wp2
                  go_ret2
                  exact ⟨by rw [HR.out]; rfl, hB5⟩
                · have Hj2 : Hid (cIn hf ⟨k1, a1, t1, d1⟩ (lb.drop (j + 1)) = cIn hf ⟨k1, a1, t1, d1⟩ lb) := by
                    show _ = _
                    rw [← Hj.out, Hsj.out]
                    exact (cIn_no hE hv).symm
                  rw [hv]
                  clear Hc Hk Hst Hj Hsj hE hv
                  go_wp2
                  go_roundw
                  case rel => exact ⟨j + 1, by omega, by simp, Hj2, hB5⟩
                  case measure => simp [intOf]; omega
              · have hE2 : (oE ⟨k1, a1, t1, d1⟩ ⟨k2, a2, t2, d2⟩ != 0) = true := by simpa using hE
                have HR : Hid (cmpA hf ⟨some ⟨b1, off1, none⟩, la, ca⟩ ⟨some ⟨b2, off2, none⟩, lb, cb⟩ = (false, oE ⟨k1, a1, t1, d1⟩ ⟨k2, a2, t2, d2⟩)) := by
                  show _ = _
                  rw [Hc.out, ← Hk.out, Hst.out]
                  refine cOut_some ?_
                  rw [← Hj.out, Hsj.out]
                  exact cIn_bad hE
                clear Hc Hk Hst Hj Hsj hE
                go_wp2
                go_ret2
                exact ⟨by rw [HR.out]; rfl, hB5⟩
            · have hI2 : ¬ (j : Int) < (nb : Int) := by omega
              have Hk2 : Hid (cOut hf lb (la.drop (k + 1)) = cOut hf lb la) := by
                show _ = _
                rw [← Hk.out, Hst.out]
                refine (cOut_none ?_).symm
                rw [← Hj.out, List.drop_eq_nil_of_le (by have := Hnb.out; omega)]
                rfl
              clear Hk Hst Hj
              go_wp2
              go_roundw
              case rel => exact ⟨k + 1, by omega, by simp, Hk2, hB3⟩
              case measure => simp [intOf]; omega
        · have hI : ¬ (k : Int) < (na : Int) := by omega
          have HR : Hid (cmpA hf ⟨pa, la, ca⟩ ⟨pb, lb, cb⟩ = (false, 0)) := by
            show _ = _
            rw [Hc.out, ← Hk.out, List.drop_eq_nil_of_le (by have := Hna.out; omega)]
            rfl
          clear Hc Hk
          go_wp2
          go_ret2
          exact ⟨by rw [HR.out]; rfl, hB⟩
    · rw [hqb] at Hr2
      have HR : Hid (cmpA hf ⟨pa, la, ca⟩ ⟨pb, lb, cb⟩ = (false, 2)) := by show _ = _; rw [Hcmp.out, hqb, Bool.and_false]; rfl
      clear hqa hqb Hcmp
      go_enter Tryz.func8, Tryz.ntmps8
      go_wp2_with fail
      refine Hr1.out.mono ?_
      rintro e w0 ⟨rfl, hb0⟩
      go_wp2_with fail
      refine (Hr2.out w0 hb0).mono ?_
      rintro e w1 ⟨rfl, hbb⟩
      have hB1 := chain0 hb0 hbb
      clear hbb hb0
      go_wp2
      go_ret2
      exact ⟨by rw [HR.out]; rfl, hB1⟩
  · rw [hqa] at Hr1
    have HR : Hid (cmpA hf ⟨pa, la, ca⟩ ⟨pb, lb, cb⟩ = (false, 2)) := by show _ = _; rw [Hcmp.out, hqa, Bool.false_and]; rfl
    clear hqa Hcmp
    go_enter Tryz.func8, Tryz.ntmps8
    go_wp2_with fail
    refine Hr1.out.mono ?_
    rintro e w0 ⟨rfl, hb0⟩
    go_wp2
    go_ret2
    exact ⟨by rw [HR.out]; rfl, hb0⟩
set_option maxRecDepth 100000 in
set_option maxHeartbeats 8000000 in
theorem rcompare_ne (hf : Int → Bool) (pa pb : Option Addr) (na nb ca cb : Nat) (la lb : List It) (w : World) (hh : RSign ⟨#[33, 61]⟩ hf) (ha : OkA w ⟨pa, la, ca⟩) (hb : OkA w ⟨pb, lb, cb⟩) (hna : na = la.length) (hnb : nb = lb.length) :
    Calls Tryz.prog 8 #[.string ⟨#[33, 61]⟩, .slice pa na ca, .slice pb nb cb] w fun e w' => e = .returned (.tuple #[.bool (cmpA hf ⟨pa, la, ca⟩ ⟨pb, lb, cb⟩).1, .int .i64 (cmpA hf ⟨pa, la, ca⟩ ⟨pb, lb, cb⟩).2]) ∧ Below w.heap.size w w' := by
  have Hh := hide hh
  have Hr1 := hide (rrights_any pa na ca la w ha hna)
  have Hr2 : Hid (∀ W, Below w.heap.size w W → Calls Tryz.prog 27 #[.slice pb nb cb] W fun e w' => e = .returned (.bool (lb.all okI)) ∧ Below W.heap.size W w') := fun W hW => rrights_any pb nb cb lb W ⟨hb.1.keep hW, hb.2⟩ hnb
  have Ha := hide ha
  have Hb := hide hb
  have Hna := hide hna
  have Hnb := hide hnb
  have hna2 : na < 9223372036854775807 := by rw [hna]; exact ha.2.2
  have hnb2 : nb < 9223372036854775807 := by rw [hnb]; exact hb.2.2
  have Hcmp : Hid (cmpA hf ⟨pa, la, ca⟩ ⟨pb, lb, cb⟩ = if (la.all okI && lb.all okI) = true then cOut hf lb la else (false, 2)) := by show _ = _; unfold cmpA; simp [rightL]
  clear hh ha hb hna hnb
  rcases Bool.eq_false_or_eq_true (la.all okI) with hqa | hqa
  · rw [hqa] at Hr1
    rcases Bool.eq_false_or_eq_true (lb.all okI) with hqb | hqb
    · rw [hqb] at Hr2
      have Hc : Hid (cmpA hf ⟨pa, la, ca⟩ ⟨pb, lb, cb⟩ = cOut hf lb la) := by show _ = _; rw [Hcmp.out, hqa, hqb]; rfl
      clear hqa hqb Hcmp
      go_enter Tryz.func8, Tryz.ntmps8
      go_wp2_with fail
      refine Hr1.out.mono ?_
      rintro e w0 ⟨rfl, hb0⟩
      go_wp2_with fail
      refine (Hr2.out w0 hb0).mono ?_
      rintro e w1 ⟨rfl, hbb⟩
      have hB1 := chain0 hb0 hbb
      clear hbb hb0
      go_wp2_with fail
      go_loopw [8] (fun i W => ∃ k : Nat, k ≤ na ∧ i = .int .i64 k ∧ Hid (cOut hf lb (la.drop k) = cOut hf lb la) ∧ Below w.heap.size w W) (fun i _ => na - (intOf i).toNat)
      case atStart => exact ⟨0, Nat.zero_le _, rfl, hide rfl, hB1⟩
      case round =>
        clear hB1
        obtain ⟨k, hk, rfl, Hk, hB⟩ := hrel
        by_cases hlt : k < na
        · have hI : (k : Int) < (na : Int) := by omega
          obtain ⟨x, hx⟩ : ∃ x, la[k]? = some x := ⟨_, List.getElem?_eq_getElem (by have := Hna.out; omega)⟩
          have hs1 := Ha.out.2.1 x (List.mem_of_getElem? hx)
          have Hst := hide (drop_at la k x hx)
          have Hx := hide hx
          obtain ⟨b1, off1, hp1, _⟩ := Ha.out.1.at k x hx
          dsimp only at hp1
          subst hp1
          have hix := ix_item b1 off1 na ca k hlt
          clear hx
          obtain ⟨k1, a1, t1, d1⟩ := x
          dsimp only at hs1
          go_wp2_with fail
          go_loopw [9] (fun i W => ∃ j : Nat, j ≤ nb ∧ i = .int .i64 j ∧ Hid (cIn hf ⟨k1, a1, t1, d1⟩ (lb.drop j) = cIn hf ⟨k1, a1, t1, d1⟩ lb) ∧ Below w.heap.size w W) (fun i _ => nb - (intOf i).toNat)
          case atStart => exact ⟨0, Nat.zero_le _, rfl, hide rfl, hB⟩
          case round =>
            clear hB
            obtain ⟨j, hj, rfl, Hj, hB3⟩ := hrel
            by_cases hlj : j < nb
            · have hI2 : (j : Int) < (nb : Int) := by omega
              obtain ⟨y, hy⟩ : ∃ y, lb[j]? = some y := ⟨_, List.getElem?_eq_getElem (by have := Hnb.out; omega)⟩
              obtain ⟨b2, off2, e2, q0, q1, q2, q3⟩ := (Hb.out.1.keep hB3).at j y hy
              dsimp only at e2
              subst e2
              obtain ⟨b3, off3, e3, c0, c1, c2, c3⟩ := (Ha.out.1.keep hB3).at k _ Hx.out
              injection e3 with e3
              injection e3 with e3 e4
              subst e3 e4
              have hs2 := Hb.out.2.1 y (List.mem_of_getElem? hy)
              have hix2 := ix_item b2 off2 nb cb j hlj
              have Hsj := hide (drop_at lb j y hy)
              clear hy
              obtain ⟨k2, a2, t2, d2⟩ := y
              dsimp only at c0 c1 c2 c3 q0 q1 q2 q3 hs2
              have l0 := later_cell c0
              have l1 := later_cell c1
              have l2 := later_cell c2
              have l3 := later_cell c3
              have r0 := later_cell q0
              have r1 := later_cell q1
              have r2 := later_cell q2
              have r3 := later_cell q3
              clear c0 c1 c2 c3 q0 q1 q2 q3
              go_wp2_with fail
              refine wp_region_later (by kernel_rfl) (by kernel_rfl) ?_
              repeat (go_big_quiet_step ((go_at_call 28; exact later_of (rorder_any k1 k2 a1 a2 d1 d2 t1 t2 _ hs1 hs2))))
              refine wpQuiet_nil ?_
              intro _ hw'
              obtain ⟨y, hw''⟩ := hw'
              subst hw''
              have hB5 := chain0 hB3 y.2
              clear l0 l1 l2 l3 r0 r1 r2 r3 hix2
              by_cases hE : oE ⟨k1, a1, t1, d1⟩ ⟨k2, a2, t2, d2⟩ = 0
              · rw [hE]
                go_wp2_with fail
                refine (Hh.out _ _).mono ?_
                rintro e wx ⟨rfl, rfl⟩
                rcases Bool.eq_false_or_eq_true (hf (oV ⟨k1, a1, t1, d1⟩ ⟨k2, a2, t2, d2⟩)) with hv | hv
                · have HR : Hid (cmpA hf ⟨some ⟨b1, off1, none⟩, la, ca⟩ ⟨some ⟨b2, off2, none⟩, lb, cb⟩ = (true, 0)) := by
                    show _ = _
                    rw [Hc.out, ← Hk.out, Hst.out]
                    refine cOut_some ?_
                    rw [← Hj.out, Hsj.out]
                    exact cIn_yes hE hv
                  rw [hv]
                  clear Hc Hk Hst Hj Hsj hE hv
                  go_wp2
                  go_ret2
                  exact ⟨by rw [HR.out]; rfl, hB5⟩
                · have Hj2 : Hid (cIn hf ⟨k1, a1, t1, d1⟩ (lb.drop (j + 1)) = cIn hf ⟨k1, a1, t1, d1⟩ lb) := by
                    show _ = _
                    rw [← Hj.out, Hsj.out]
                    exact (cIn_no hE hv).symm
                  rw [hv]
                  clear Hc Hk Hst Hj Hsj hE hv
                  go_wp2
                  go_roundw
                  case rel => exact ⟨j + 1, by omega, by simp, Hj2, hB5⟩
                  case measure => simp [intOf]; omega
              · have hE2 : (oE ⟨k1, a1, t1, d1⟩ ⟨k2, a2, t2, d2⟩ != 0) = true := by simpa using hE
                have HR : Hid (cmpA hf ⟨some ⟨b1, off1, none⟩, la, ca⟩ ⟨some ⟨b2, off2, none⟩, lb, cb⟩ = (false, oE ⟨k1, a1, t1, d1⟩ ⟨k2, a2, t2, d2⟩)) := by
                  show _ = _
                  rw [Hc.out, ← Hk.out, Hst.out]
                  refine cOut_some ?_
                  rw [← Hj.out, Hsj.out]
                  exact cIn_bad hE
                clear Hc Hk Hst Hj Hsj hE
                go_wp2
                go_ret2
                exact ⟨by rw [HR.out]; rfl, hB5⟩
            · have hI2 : ¬ (j : Int) < (nb : Int) := by omega
              have Hk2 : Hid (cOut hf lb (la.drop (k + 1)) = cOut hf lb la) := by
                show _ = _
                rw [← Hk.out, Hst.out]
                refine (cOut_none ?_).symm
                rw [← Hj.out, List.drop_eq_nil_of_le (by have := Hnb.out; omega)]
                rfl
              clear Hk Hst Hj
              go_wp2
              go_roundw
              case rel => exact ⟨k + 1, by omega, by simp, Hk2, hB3⟩
              case measure => simp [intOf]; omega
        · have hI : ¬ (k : Int) < (na : Int) := by omega
          have HR : Hid (cmpA hf ⟨pa, la, ca⟩ ⟨pb, lb, cb⟩ = (false, 0)) := by
            show _ = _
            rw [Hc.out, ← Hk.out, List.drop_eq_nil_of_le (by have := Hna.out; omega)]
            rfl
          clear Hc Hk
          go_wp2
          go_ret2
          exact ⟨by rw [HR.out]; rfl, hB⟩
    · rw [hqb] at Hr2
      have HR : Hid (cmpA hf ⟨pa, la, ca⟩ ⟨pb, lb, cb⟩ = (false, 2)) := by show _ = _; rw [Hcmp.out, hqb, Bool.and_false]; rfl
      clear hqa hqb Hcmp
      go_enter Tryz.func8, Tryz.ntmps8
      go_wp2_with fail
      refine Hr1.out.mono ?_
      rintro e w0 ⟨rfl, hb0⟩
      go_wp2_with fail
      refine (Hr2.out w0 hb0).mono ?_
      rintro e w1 ⟨rfl, hbb⟩
      have hB1 := chain0 hb0 hbb
      clear hbb hb0
      go_wp2
      go_ret2
      exact ⟨by rw [HR.out]; rfl, hB1⟩
  · rw [hqa] at Hr1
    have HR : Hid (cmpA hf ⟨pa, la, ca⟩ ⟨pb, lb, cb⟩ = (false, 2)) := by show _ = _; rw [Hcmp.out, hqa, Bool.false_and]; rfl
    clear hqa Hcmp
    go_enter Tryz.func8, Tryz.ntmps8
    go_wp2_with fail
    refine Hr1.out.mono ?_
    rintro e w0 ⟨rfl, hb0⟩
    go_wp2
    go_ret2
    exact ⟨by rw [HR.out]; rfl, hb0⟩
end Go.Proofs.YtnhjphjdncaimaaGreatDoor
namespace Go.Proofs.YtnhjphjdncaimaaGreatDoor
open Go.RowKit
set_option maxRecDepth 100000 in
set_option maxHeartbeats 8000000 in
theorem rcompare_lt (hf : Int → Bool) (pa pb : Option Addr) (na nb ca cb : Nat) (la lb : List It) (w : World) (hh : RSign ⟨#[60]⟩ hf) (ha : OkA w ⟨pa, la, ca⟩) (hb : OkA w ⟨pb, lb, cb⟩) (hna : na = la.length) (hnb : nb = lb.length) :
    Calls Tryz.prog 8 #[.string ⟨#[60]⟩, .slice pa na ca, .slice pb nb cb] w fun e w' => e = .returned (.tuple #[.bool (cmpA hf ⟨pa, la, ca⟩ ⟨pb, lb, cb⟩).1, .int .i64 (cmpA hf ⟨pa, la, ca⟩ ⟨pb, lb, cb⟩).2]) ∧ Below w.heap.size w w' := by
  have Hh := hide hh
  have Hr1 := hide (rrights_any pa na ca la w ha hna)
  have Hr2 : Hid (∀ W, Below w.heap.size w W → Calls Tryz.prog 27 #[.slice pb nb cb] W fun e w' => e = .returned (.bool (lb.all okI)) ∧ Below W.heap.size W w') := fun W hW => rrights_any pb nb cb lb W ⟨hb.1.keep hW, hb.2⟩ hnb
  have Ha := hide ha
  have Hb := hide hb
  have Hna := hide hna
  have Hnb := hide hnb
  have hna2 : na < 9223372036854775807 := by rw [hna]; exact ha.2.2
  have hnb2 : nb < 9223372036854775807 := by rw [hnb]; exact hb.2.2
  have Hcmp : Hid (cmpA hf ⟨pa, la, ca⟩ ⟨pb, lb, cb⟩ = if (la.all okI && lb.all okI) = true then cOut hf lb la else (false, 2)) := by show _ = _; unfold cmpA; simp [rightL]
  clear hh ha hb hna hnb
  rcases Bool.eq_false_or_eq_true (la.all okI) with hqa | hqa
  · rw [hqa] at Hr1
    rcases Bool.eq_false_or_eq_true (lb.all okI) with hqb | hqb
    · rw [hqb] at Hr2
      have Hc : Hid (cmpA hf ⟨pa, la, ca⟩ ⟨pb, lb, cb⟩ = cOut hf lb la) := by show _ = _; rw [Hcmp.out, hqa, hqb]; rfl
      clear hqa hqb Hcmp
      go_enter Tryz.func8, Tryz.ntmps8
      go_wp2_with fail
      refine Hr1.out.mono ?_
      rintro e w0 ⟨rfl, hb0⟩
      go_wp2_with fail
      refine (Hr2.out w0 hb0).mono ?_
      rintro e w1 ⟨rfl, hbb⟩
      have hB1 := chain0 hb0 hbb
      clear hbb hb0
      go_wp2_with fail
      go_loopw [8] (fun i W => ∃ k : Nat, k ≤ na ∧ i = .int .i64 k ∧ Hid (cOut hf lb (la.drop k) = cOut hf lb la) ∧ Below w.heap.size w W) (fun i _ => na - (intOf i).toNat)
      case atStart => exact ⟨0, Nat.zero_le _, rfl, hide rfl, hB1⟩
      case round =>
        clear hB1
        obtain ⟨k, hk, rfl, Hk, hB⟩ := hrel
        by_cases hlt : k < na
        · have hI : (k : Int) < (na : Int) := by omega
          obtain ⟨x, hx⟩ : ∃ x, la[k]? = some x := ⟨_, List.getElem?_eq_getElem (by have := Hna.out; omega)⟩
          have hs1 := Ha.out.2.1 x (List.mem_of_getElem? hx)
          have Hst := hide (drop_at la k x hx)
          have Hx := hide hx
          obtain ⟨b1, off1, hp1, _⟩ := Ha.out.1.at k x hx
          dsimp only at hp1
          subst hp1
          have hix := ix_item b1 off1 na ca k hlt
          clear hx
          obtain ⟨k1, a1, t1, d1⟩ := x
          dsimp only at hs1
          go_wp2_with fail
          go_loopw [9] (fun i W => ∃ j : Nat, j ≤ nb ∧ i = .int .i64 j ∧ Hid (cIn hf ⟨k1, a1, t1, d1⟩ (lb.drop j) = cIn hf ⟨k1, a1, t1, d1⟩ lb) ∧ Below w.heap.size w W) (fun i _ => nb - (intOf i).toNat)
          case atStart => exact ⟨0, Nat.zero_le _, rfl, hide rfl, hB⟩
          case round =>
            clear hB
            obtain ⟨j, hj, rfl, Hj, hB3⟩ := hrel
            by_cases hlj : j < nb
            · have hI2 : (j : Int) < (nb : Int) := by omega
              obtain ⟨y, hy⟩ : ∃ y, lb[j]? = some y := ⟨_, List.getElem?_eq_getElem (by have := Hnb.out; omega)⟩
              obtain ⟨b2, off2, e2, q0, q1, q2, q3⟩ := (Hb.out.1.keep hB3).at j y hy
              dsimp only at e2
              subst e2
              obtain ⟨b3, off3, e3, c0, c1, c2, c3⟩ := (Ha.out.1.keep hB3).at k _ Hx.out
              injection e3 with e3
              injection e3 with e3 e4
              subst e3 e4
              have hs2 := Hb.out.2.1 y (List.mem_of_getElem? hy)
              have hix2 := ix_item b2 off2 nb cb j hlj
              have Hsj := hide (drop_at lb j y hy)
              clear hy
              obtain ⟨k2, a2, t2, d2⟩ := y
              dsimp only at c0 c1 c2 c3 q0 q1 q2 q3 hs2
              have l0 := later_cell c0
              have l1 := later_cell c1
              have l2 := later_cell c2
              have l3 := later_cell c3
              have r0 := later_cell q0
              have r1 := later_cell q1
              have r2 := later_cell q2
              have r3 := later_cell q3
              clear c0 c1 c2 c3 q0 q1 q2 q3
              go_wp2_with fail
              refine wp_region_later (by kernel_rfl) (by kernel_rfl) ?_
              repeat (go_big_quiet_step ((go_at_call 28; exact later_of (rorder_any k1 k2 a1 a2 d1 d2 t1 t2 _ hs1 hs2))))
              refine wpQuiet_nil ?_
              intro _ hw'
              obtain ⟨y, hw''⟩ := hw'
              subst hw''
              have hB5 := chain0 hB3 y.2
              clear l0 l1 l2 l3 r0 r1 r2 r3 hix2
              by_cases hE : oE ⟨k1, a1, t1, d1⟩ ⟨k2, a2, t2, d2⟩ = 0
              · rw [hE]
                go_wp2_with fail
                refine (Hh.out _ _).mono ?_
                rintro e wx ⟨rfl, rfl⟩
                rcases Bool.eq_false_or_eq_true (hf (oV ⟨k1, a1, t1, d1⟩ ⟨k2, a2, t2, d2⟩)) with hv | hv
                · have HR : Hid (cmpA hf ⟨some ⟨b1, off1, none⟩, la, ca⟩ ⟨some ⟨b2, off2, none⟩, lb, cb⟩ = (true, 0)) := by
                    show _ = _
                    rw [Hc.out, ← Hk.out, Hst.out]
                    refine cOut_some ?_
                    rw [← Hj.out, Hsj.out]
                    exact cIn_yes hE hv
                  rw [hv]
                  clear Hc Hk Hst Hj Hsj hE hv
                  go_wp2
                  go_ret2
                  exact ⟨by rw [HR.out]; rfl, hB5⟩
                · have Hj2 : Hid (cIn hf ⟨k1, a1, t1, d1⟩ (lb.drop (j + 1)) = cIn hf ⟨k1, a1, t1, d1⟩ lb) := by
                    show _ = _
                    rw [← Hj.out, Hsj.out]
                    exact (cIn_no hE hv).symm
                  rw [hv]
                  clear Hc Hk Hst Hj Hsj hE hv
                  go_wp2
                  go_roundw
                  case rel => exact ⟨j + 1, by omega, by simp, Hj2, hB5⟩
                  case measure => simp [intOf]; omega
              · have hE2 : (oE ⟨k1, a1, t1, d1⟩ ⟨k2, a2, t2, d2⟩ != 0) = true := by simpa using hE
                have HR : Hid (cmpA hf ⟨some ⟨b1, off1, none⟩, la, ca⟩ ⟨some ⟨b2, off2, none⟩, lb, cb⟩ = (false, oE ⟨k1, a1, t1, d1⟩ ⟨k2, a2, t2, d2⟩)) := by
                  show _ = _
                  rw [Hc.out, ← Hk.out, Hst.out]
                  refine cOut_some ?_
                  rw [← Hj.out, Hsj.out]
                  exact cIn_bad hE
                clear Hc Hk Hst Hj Hsj hE
                go_wp2
                go_ret2
                exact ⟨by rw [HR.out]; rfl, hB5⟩
            · have hI2 : ¬ (j : Int) < (nb : Int) := by omega
              have Hk2 : Hid (cOut hf lb (la.drop (k + 1)) = cOut hf lb la) := by
                show _ = _
                rw [← Hk.out, Hst.out]
                refine (cOut_none ?_).symm
                rw [← Hj.out, List.drop_eq_nil_of_le (by have := Hnb.out; omega)]
                rfl
              clear Hk Hst Hj
              go_wp2
              go_roundw
              case rel => exact ⟨k + 1, by omega, by simp, Hk2, hB3⟩
              case measure => simp [intOf]; omega
        · have hI : ¬ (k : Int) < (na : Int) := by omega
          have HR : Hid (cmpA hf ⟨pa, la, ca⟩ ⟨pb, lb, cb⟩ = (false, 0)) := by
            show _ = _
            rw [Hc.out, ← Hk.out, List.drop_eq_nil_of_le (by have := Hna.out; omega)]
            rfl
          clear Hc Hk
          go_wp2
          go_ret2
          exact ⟨by rw [HR.out]; rfl, hB⟩
    · rw [hqb] at Hr2
      have HR : Hid (cmpA hf ⟨pa, la, ca⟩ ⟨pb, lb, cb⟩ = (false, 2)) := by show _ = _; rw [Hcmp.out, hqb, Bool.and_false]; rfl
      clear hqa hqb Hcmp
      go_enter Tryz.func8, Tryz.ntmps8
      go_wp2_with fail
      refine Hr1.out.mono ?_
      rintro e w0 ⟨rfl, hb0⟩
      go_wp2_with fail
      refine (Hr2.out w0 hb0).mono ?_
      rintro e w1 ⟨rfl, hbb⟩
      have hB1 := chain0 hb0 hbb
      clear hbb hb0
      go_wp2
      go_ret2
      exact ⟨by rw [HR.out]; rfl, hB1⟩
  · rw [hqa] at Hr1
    have HR : Hid (cmpA hf ⟨pa, la, ca⟩ ⟨pb, lb, cb⟩ = (false, 2)) := by show _ = _; rw [Hcmp.out, hqa, Bool.false_and]; rfl
    clear hqa Hcmp
    go_enter Tryz.func8, Tryz.ntmps8
    go_wp2_with fail
    refine Hr1.out.mono ?_
    rintro e w0 ⟨rfl, hb0⟩
    go_wp2
    go_ret2
    exact ⟨by rw [HR.out]; rfl, hb0⟩
set_option maxRecDepth 100000 in
set_option maxHeartbeats 8000000 in
theorem rcompare_le (hf : Int → Bool) (pa pb : Option Addr) (na nb ca cb : Nat) (la lb : List It) (w : World) (hh : RSign ⟨#[60, 61]⟩ hf) (ha : OkA w ⟨pa, la, ca⟩) (hb : OkA w ⟨pb, lb, cb⟩) (hna : na = la.length) (hnb : nb = lb.length) :
    Calls Tryz.prog 8 #[.string ⟨#[60, 61]⟩, .slice pa na ca, .slice pb nb cb] w fun e w' => e = .returned (.tuple #[.bool (cmpA hf ⟨pa, la, ca⟩ ⟨pb, lb, cb⟩).1, .int .i64 (cmpA hf ⟨pa, la, ca⟩ ⟨pb, lb, cb⟩).2]) ∧ Below w.heap.size w w' := by
  have Hh := hide hh
  have Hr1 := hide (rrights_any pa na ca la w ha hna)
  have Hr2 : Hid (∀ W, Below w.heap.size w W → Calls Tryz.prog 27 #[.slice pb nb cb] W fun e w' => e = .returned (.bool (lb.all okI)) ∧ Below W.heap.size W w') := fun W hW => rrights_any pb nb cb lb W ⟨hb.1.keep hW, hb.2⟩ hnb
  have Ha := hide ha
  have Hb := hide hb
  have Hna := hide hna
  have Hnb := hide hnb
  have hna2 : na < 9223372036854775807 := by rw [hna]; exact ha.2.2
  have hnb2 : nb < 9223372036854775807 := by rw [hnb]; exact hb.2.2
  have Hcmp : Hid (cmpA hf ⟨pa, la, ca⟩ ⟨pb, lb, cb⟩ = if (la.all okI && lb.all okI) = true then cOut hf lb la else (false, 2)) := by show _ = _; unfold cmpA; simp [rightL]
  clear hh ha hb hna hnb
  rcases Bool.eq_false_or_eq_true (la.all okI) with hqa | hqa
  · rw [hqa] at Hr1
    rcases Bool.eq_false_or_eq_true (lb.all okI) with hqb | hqb
    · rw [hqb] at Hr2
      have Hc : Hid (cmpA hf ⟨pa, la, ca⟩ ⟨pb, lb, cb⟩ = cOut hf lb la) := by show _ = _; rw [Hcmp.out, hqa, hqb]; rfl
      clear hqa hqb Hcmp
      go_enter Tryz.func8, Tryz.ntmps8
      go_wp2_with fail
      refine Hr1.out.mono ?_
      rintro e w0 ⟨rfl, hb0⟩
      go_wp2_with fail
      refine (Hr2.out w0 hb0).mono ?_
      rintro e w1 ⟨rfl, hbb⟩
      have hB1 := chain0 hb0 hbb
      clear hbb hb0
      go_wp2_with fail
      go_loopw [8] (fun i W => ∃ k : Nat, k ≤ na ∧ i = .int .i64 k ∧ Hid (cOut hf lb (la.drop k) = cOut hf lb la) ∧ Below w.heap.size w W) (fun i _ => na - (intOf i).toNat)
      case atStart => exact ⟨0, Nat.zero_le _, rfl, hide rfl, hB1⟩
      case round =>
        clear hB1
        obtain ⟨k, hk, rfl, Hk, hB⟩ := hrel
        by_cases hlt : k < na
        · have hI : (k : Int) < (na : Int) := by omega
          obtain ⟨x, hx⟩ : ∃ x, la[k]? = some x := ⟨_, List.getElem?_eq_getElem (by have := Hna.out; omega)⟩
          have hs1 := Ha.out.2.1 x (List.mem_of_getElem? hx)
          have Hst := hide (drop_at la k x hx)
          have Hx := hide hx
          obtain ⟨b1, off1, hp1, _⟩ := Ha.out.1.at k x hx
          dsimp only at hp1
          subst hp1
          have hix := ix_item b1 off1 na ca k hlt
          clear hx
          obtain ⟨k1, a1, t1, d1⟩ := x
          dsimp only at hs1
          go_wp2_with fail
          go_loopw [9] (fun i W => ∃ j : Nat, j ≤ nb ∧ i = .int .i64 j ∧ Hid (cIn hf ⟨k1, a1, t1, d1⟩ (lb.drop j) = cIn hf ⟨k1, a1, t1, d1⟩ lb) ∧ Below w.heap.size w W) (fun i _ => nb - (intOf i).toNat)
          case atStart => exact ⟨0, Nat.zero_le _, rfl, hide rfl, hB⟩
          case round =>
            clear hB
            obtain ⟨j, hj, rfl, Hj, hB3⟩ := hrel
            by_cases hlj : j < nb
            · have hI2 : (j : Int) < (nb : Int) := by omega
              obtain ⟨y, hy⟩ : ∃ y, lb[j]? = some y := ⟨_, List.getElem?_eq_getElem (by have := Hnb.out; omega)⟩
              obtain ⟨b2, off2, e2, q0, q1, q2, q3⟩ := (Hb.out.1.keep hB3).at j y hy
              dsimp only at e2
              subst e2
              obtain ⟨b3, off3, e3, c0, c1, c2, c3⟩ := (Ha.out.1.keep hB3).at k _ Hx.out
              injection e3 with e3
              injection e3 with e3 e4
              subst e3 e4
              have hs2 := Hb.out.2.1 y (List.mem_of_getElem? hy)
              have hix2 := ix_item b2 off2 nb cb j hlj
              have Hsj := hide (drop_at lb j y hy)
              clear hy
              obtain ⟨k2, a2, t2, d2⟩ := y
              dsimp only at c0 c1 c2 c3 q0 q1 q2 q3 hs2
              have l0 := later_cell c0
              have l1 := later_cell c1
              have l2 := later_cell c2
              have l3 := later_cell c3
              have r0 := later_cell q0
              have r1 := later_cell q1
              have r2 := later_cell q2
              have r3 := later_cell q3
              clear c0 c1 c2 c3 q0 q1 q2 q3
              go_wp2_with fail
              refine wp_region_later (by kernel_rfl) (by kernel_rfl) ?_
              repeat (go_big_quiet_step ((go_at_call 28; exact later_of (rorder_any k1 k2 a1 a2 d1 d2 t1 t2 _ hs1 hs2))))
              refine wpQuiet_nil ?_
              intro _ hw'
              obtain ⟨y, hw''⟩ := hw'
              subst hw''
              have hB5 := chain0 hB3 y.2
              clear l0 l1 l2 l3 r0 r1 r2 r3 hix2
              by_cases hE : oE ⟨k1, a1, t1, d1⟩ ⟨k2, a2, t2, d2⟩ = 0
              · rw [hE]
                go_wp2_with fail
                refine (Hh.out _ _).mono ?_
                rintro e wx ⟨rfl, rfl⟩
                rcases Bool.eq_false_or_eq_true (hf (oV ⟨k1, a1, t1, d1⟩ ⟨k2, a2, t2, d2⟩)) with hv | hv
                · have HR : Hid (cmpA hf ⟨some ⟨b1, off1, none⟩, la, ca⟩ ⟨some ⟨b2, off2, none⟩, lb, cb⟩ = (true, 0)) := by
                    show _ = _
                    rw [Hc.out, ← Hk.out, Hst.out]
                    refine cOut_some ?_
                    rw [← Hj.out, Hsj.out]
                    exact cIn_yes hE hv
                  rw [hv]
                  clear Hc Hk Hst Hj Hsj hE hv
                  go_wp2
                  go_ret2
                  exact ⟨by rw [HR.out]; rfl, hB5⟩
                · have Hj2 : Hid (cIn hf ⟨k1, a1, t1, d1⟩ (lb.drop (j + 1)) = cIn hf ⟨k1, a1, t1, d1⟩ lb) := by
                    show _ = _
                    rw [← Hj.out, Hsj.out]
                    exact (cIn_no hE hv).symm
                  rw [hv]
                  clear Hc Hk Hst Hj Hsj hE hv
                  go_wp2
                  go_roundw
                  case rel => exact ⟨j + 1, by omega, by simp, Hj2, hB5⟩
                  case measure => simp [intOf]; omega
              · have hE2 : (oE ⟨k1, a1, t1, d1⟩ ⟨k2, a2, t2, d2⟩ != 0) = true := by simpa using hE
                have HR : Hid (cmpA hf ⟨some ⟨b1, off1, none⟩, la, ca⟩ ⟨some ⟨b2, off2, none⟩, lb, cb⟩ = (false, oE ⟨k1, a1, t1, d1⟩ ⟨k2, a2, t2, d2⟩)) := by
                  show _ = _
                  rw [Hc.out, ← Hk.out, Hst.out]
                  refine cOut_some ?_
                  rw [← Hj.out, Hsj.out]
                  exact cIn_bad hE
                clear Hc Hk Hst Hj Hsj hE
                go_wp2
                go_ret2
                exact ⟨by rw [HR.out]; rfl, hB5⟩
            · have hI2 : ¬ (j : Int) < (nb : Int) := by omega
              have Hk2 : Hid (cOut hf lb (la.drop (k + 1)) = cOut hf lb la) := by
                show _ = _
                rw [← Hk.out, Hst.out]
                refine (cOut_none ?_).symm
                rw [← Hj.out, List.drop_eq_nil_of_le (by have := Hnb.out; omega)]
                rfl
              clear Hk Hst Hj
              go_wp2
              go_roundw
              case rel => exact ⟨k + 1, by omega, by simp, Hk2, hB3⟩
              case measure => simp [intOf]; omega
        · have hI : ¬ (k : Int) < (na : Int) := by omega
          have HR : Hid (cmpA hf ⟨pa, la, ca⟩ ⟨pb, lb, cb⟩ = (false, 0)) := by
            show _ = _
            rw [Hc.out, ← Hk.out, List.drop_eq_nil_of_le (by have := Hna.out; omega)]
            rfl
          clear Hc Hk
          go_wp2
          go_ret2
          exact ⟨by rw [HR.out]; rfl, hB⟩
    · rw [hqb] at Hr2
      have HR : Hid (cmpA hf ⟨pa, la, ca⟩ ⟨pb, lb, cb⟩ = (false, 2)) := by show _ = _; rw [Hcmp.out, hqb, Bool.and_false]; rfl
      clear hqa hqb Hcmp
      go_enter Tryz.func8, Tryz.ntmps8
      go_wp2_with fail
      refine Hr1.out.mono ?_
      rintro e w0 ⟨rfl, hb0⟩
      go_wp2_with fail
      refine (Hr2.out w0 hb0).mono ?_
      rintro e w1 ⟨rfl, hbb⟩
      have hB1 := chain0 hb0 hbb
      clear hbb hb0
      go_wp2
      go_ret2
      exact ⟨by rw [HR.out]; rfl, hB1⟩
  · rw [hqa] at Hr1
    have HR : Hid (cmpA hf ⟨pa, la, ca⟩ ⟨pb, lb, cb⟩ = (false, 2)) := by show _ = _; rw [Hcmp.out, hqa, Bool.false_and]; rfl
    clear hqa Hcmp
    go_enter Tryz.func8, Tryz.ntmps8
    go_wp2_with fail
    refine Hr1.out.mono ?_
    rintro e w0 ⟨rfl, hb0⟩
    go_wp2
    go_ret2
    exact ⟨by rw [HR.out]; rfl, hb0⟩
end Go.Proofs.YtnhjphjdncaimaaGreatDoor
namespace Go.Proofs.YtnhjphjdncaimaaGreatDoor
open Go.RowKit
set_option maxRecDepth 100000 in
set_option maxHeartbeats 8000000 in
theorem rcompare_gt (hf : Int → Bool) (pa pb : Option Addr) (na nb ca cb : Nat) (la lb : List It) (w : World) (hh : RSign ⟨#[62]⟩ hf) (ha : OkA w ⟨pa, la, ca⟩) (hb : OkA w ⟨pb, lb, cb⟩) (hna : na = la.length) (hnb : nb = lb.length) :
    Calls Tryz.prog 8 #[.string ⟨#[62]⟩, .slice pa na ca, .slice pb nb cb] w fun e w' => e = .returned (.tuple #[.bool (cmpA hf ⟨pa, la, ca⟩ ⟨pb, lb, cb⟩).1, .int .i64 (cmpA hf ⟨pa, la, ca⟩ ⟨pb, lb, cb⟩).2]) ∧ Below w.heap.size w w' := by
  have Hh := hide hh
  have Hr1 := hide (rrights_any pa na ca la w ha hna)
  have Hr2 : Hid (∀ W, Below w.heap.size w W → Calls Tryz.prog 27 #[.slice pb nb cb] W fun e w' => e = .returned (.bool (lb.all okI)) ∧ Below W.heap.size W w') := fun W hW => rrights_any pb nb cb lb W ⟨hb.1.keep hW, hb.2⟩ hnb
  have Ha := hide ha
  have Hb := hide hb
  have Hna := hide hna
  have Hnb := hide hnb
  have hna2 : na < 9223372036854775807 := by rw [hna]; exact ha.2.2
  have hnb2 : nb < 9223372036854775807 := by rw [hnb]; exact hb.2.2
  have Hcmp : Hid (cmpA hf ⟨pa, la, ca⟩ ⟨pb, lb, cb⟩ = if (la.all okI && lb.all okI) = true then cOut hf lb la else (false, 2)) := by show _ = _; unfold cmpA; simp [rightL]
  clear hh ha hb hna hnb
  rcases Bool.eq_false_or_eq_true (la.all okI) with hqa | hqa
  · rw [hqa] at Hr1
    rcases Bool.eq_false_or_eq_true (lb.all okI) with hqb | hqb
    · rw [hqb] at Hr2
      have Hc : Hid (cmpA hf ⟨pa, la, ca⟩ ⟨pb, lb, cb⟩ = cOut hf lb la) := by show _ = _; rw [Hcmp.out, hqa, hqb]; rfl
      clear hqa hqb Hcmp
      go_enter Tryz.func8, Tryz.ntmps8
      go_wp2_with fail
      refine Hr1.out.mono ?_
      rintro e w0 ⟨rfl, hb0⟩
      go_wp2_with fail
      refine (Hr2.out w0 hb0).mono ?_
      rintro e w1 ⟨rfl, hbb⟩
      have hB1 := chain0 hb0 hbb
      clear hbb hb0
      go_wp2_with fail
      go_loopw [8] (fun i W => ∃ k : Nat, k ≤ na ∧ i = .int .i64 k ∧ Hid (cOut hf lb (la.drop k) = cOut hf lb la) ∧ Below w.heap.size w W) (fun i _ => na - (intOf i).toNat)
      case atStart => exact ⟨0, Nat.zero_le _, rfl, hide rfl, hB1⟩
      case round =>
        clear hB1
        obtain ⟨k, hk, rfl, Hk, hB⟩ := hrel
        by_cases hlt : k < na
        · have hI : (k : Int) < (na : Int) := by omega
          obtain ⟨x, hx⟩ : ∃ x, la[k]? = some x := ⟨_, List.getElem?_eq_getElem (by have := Hna.out; omega)⟩
          have hs1 := Ha.out.2.1 x (List.mem_of_getElem? hx)
          have Hst := hide (drop_at la k x hx)
          have Hx := hide hx
          obtain ⟨b1, off1, hp1, _⟩ := Ha.out.1.at k x hx
          dsimp only at hp1
          subst hp1
          have hix := ix_item b1 off1 na ca k hlt
          clear hx
          obtain ⟨k1, a1, t1, d1⟩ := x
          dsimp only at hs1
          go_wp2_with fail
          go_loopw [9] (fun i W => ∃ j : Nat, j ≤ nb ∧ i = .int .i64 j ∧ Hid (cIn hf ⟨k1, a1, t1, d1⟩ (lb.drop j) = cIn hf ⟨k1, a1, t1, d1⟩ lb) ∧ Below w.heap.size w W) (fun i _ => nb - (intOf i).toNat)
          case atStart => exact ⟨0, Nat.zero_le _, rfl, hide rfl, hB⟩
          case round =>
            clear hB
            obtain ⟨j, hj, rfl, Hj, hB3⟩ := hrel
            by_cases hlj : j < nb
            · have hI2 : (j : Int) < (nb : Int) := by omega
              obtain ⟨y, hy⟩ : ∃ y, lb[j]? = some y := ⟨_, List.getElem?_eq_getElem (by have := Hnb.out; omega)⟩
              obtain ⟨b2, off2, e2, q0, q1, q2, q3⟩ := (Hb.out.1.keep hB3).at j y hy
              dsimp only at e2
              subst e2
              obtain ⟨b3, off3, e3, c0, c1, c2, c3⟩ := (Ha.out.1.keep hB3).at k _ Hx.out
              injection e3 with e3
              injection e3 with e3 e4
              subst e3 e4
              have hs2 := Hb.out.2.1 y (List.mem_of_getElem? hy)
              have hix2 := ix_item b2 off2 nb cb j hlj
              have Hsj := hide (drop_at lb j y hy)
              clear hy
              obtain ⟨k2, a2, t2, d2⟩ := y
              dsimp only at c0 c1 c2 c3 q0 q1 q2 q3 hs2
              have l0 := later_cell c0
              have l1 := later_cell c1
              have l2 := later_cell c2
              have l3 := later_cell c3
              have r0 := later_cell q0
              have r1 := later_cell q1
              have r2 := later_cell q2
              have r3 := later_cell q3
              clear c0 c1 c2 c3 q0 q1 q2 q3
              go_wp2_with fail
              refine wp_region_later (by kernel_rfl) (by kernel_rfl) ?_
              repeat (go_big_quiet_step ((go_at_call 28; exact later_of (rorder_any k1 k2 a1 a2 d1 d2 t1 t2 _ hs1 hs2))))
              refine wpQuiet_nil ?_
              intro _ hw'
              obtain ⟨y, hw''⟩ := hw'
              subst hw''
              have hB5 := chain0 hB3 y.2
              clear l0 l1 l2 l3 r0 r1 r2 r3 hix2
              by_cases hE : oE ⟨k1, a1, t1, d1⟩ ⟨k2, a2, t2, d2⟩ = 0
              · rw [hE]
                go_wp2_with fail
                refine (Hh.out _ _).mono ?_
                rintro e wx ⟨rfl, rfl⟩
                rcases Bool.eq_false_or_eq_true (hf (oV ⟨k1, a1, t1, d1⟩ ⟨k2, a2, t2, d2⟩)) with hv | hv
                · have HR : Hid (cmpA hf ⟨some ⟨b1, off1, none⟩, la, ca⟩ ⟨some ⟨b2, off2, none⟩, lb, cb⟩ = (true, 0)) := by
                    show _ = _
                    rw [Hc.out, ← Hk.out, Hst.out]
                    refine cOut_some ?_
                    rw [← Hj.out, Hsj.out]
                    exact cIn_yes hE hv
                  rw [hv]
                  clear Hc Hk Hst Hj Hsj hE hv
                  go_wp2
                  go_ret2
                  exact ⟨by rw [HR.out]; rfl, hB5⟩
                · have Hj2 : Hid (cIn hf ⟨k1, a1, t1, d1⟩ (lb.drop (j + 1)) = cIn hf ⟨k1, a1, t1, d1⟩ lb) := by
                    show _ = _
                    rw [← Hj.out, Hsj.out]
                    exact (cIn_no hE hv).symm
                  rw [hv]
                  clear Hc Hk Hst Hj Hsj hE hv
                  go_wp2
                  go_roundw
                  case rel => exact ⟨j + 1, by omega, by simp, Hj2, hB5⟩
                  case measure => simp [intOf]; omega
              · have hE2 : (oE ⟨k1, a1, t1, d1⟩ ⟨k2, a2, t2, d2⟩ != 0) = true := by simpa using hE
                have HR : Hid (cmpA hf ⟨some ⟨b1, off1, none⟩, la, ca⟩ ⟨some ⟨b2, off2, none⟩, lb, cb⟩ = (false, oE ⟨k1, a1, t1, d1⟩ ⟨k2, a2, t2, d2⟩)) := by
                  show _ = _
                  rw [Hc.out, ← Hk.out, Hst.out]
                  refine cOut_some ?_
                  rw [← Hj.out, Hsj.out]
                  exact cIn_bad hE
                clear Hc Hk Hst Hj Hsj hE
                go_wp2
                go_ret2
                exact ⟨by rw [HR.out]; rfl, hB5⟩
            · have hI2 : ¬ (j : Int) < (nb : Int) := by omega
              have Hk2 : Hid (cOut hf lb (la.drop (k + 1)) = cOut hf lb la) := by
                show _ = _
                rw [← Hk.out, Hst.out]
                refine (cOut_none ?_).symm
                rw [← Hj.out, List.drop_eq_nil_of_le (by have := Hnb.out; omega)]
                rfl
              clear Hk Hst Hj
              go_wp2
              go_roundw
              case rel => exact ⟨k + 1, by omega, by simp, Hk2, hB3⟩
              case measure => simp [intOf]; omega
        · have hI : ¬ (k : Int) < (na : Int) := by omega
          have HR : Hid (cmpA hf ⟨pa, la, ca⟩ ⟨pb, lb, cb⟩ = (false, 0)) := by
            show _ = _
            rw [Hc.out, ← Hk.out, List.drop_eq_nil_of_le (by have := Hna.out; omega)]
            rfl
          clear Hc Hk
          go_wp2
          go_ret2
          exact ⟨by rw [HR.out]; rfl, hB⟩
    · rw [hqb] at Hr2
      have HR : Hid (cmpA hf ⟨pa, la, ca⟩ ⟨pb, lb, cb⟩ = (false, 2)) := by show _ = _; rw [Hcmp.out, hqb, Bool.and_false]; rfl
      clear hqa hqb Hcmp
      go_enter Tryz.func8, Tryz.ntmps8
      go_wp2_with fail
      refine Hr1.out.mono ?_
      rintro e w0 ⟨rfl, hb0⟩
      go_wp2_with fail
      refine (Hr2.out w0 hb0).mono ?_
      rintro e w1 ⟨rfl, hbb⟩
      have hB1 := chain0 hb0 hbb
      clear hbb hb0
      go_wp2
      go_ret2
      exact ⟨by rw [HR.out]; rfl, hB1⟩
  · rw [hqa] at Hr1
    have HR : Hid (cmpA hf ⟨pa, la, ca⟩ ⟨pb, lb, cb⟩ = (false, 2)) := by show _ = _; rw [Hcmp.out, hqa, Bool.false_and]; rfl
    clear hqa Hcmp
    go_enter Tryz.func8, Tryz.ntmps8
    go_wp2_with fail
    refine Hr1.out.mono ?_
    rintro e w0 ⟨rfl, hb0⟩
    go_wp2
    go_ret2
    exact ⟨by rw [HR.out]; rfl, hb0⟩
set_option maxRecDepth 100000 in
set_option maxHeartbeats 8000000 in
theorem rcompare_ge (hf : Int → Bool) (pa pb : Option Addr) (na nb ca cb : Nat) (la lb : List It) (w : World) (hh : RSign ⟨#[62, 61]⟩ hf) (ha : OkA w ⟨pa, la, ca⟩) (hb : OkA w ⟨pb, lb, cb⟩) (hna : na = la.length) (hnb : nb = lb.length) :
    Calls Tryz.prog 8 #[.string ⟨#[62, 61]⟩, .slice pa na ca, .slice pb nb cb] w fun e w' => e = .returned (.tuple #[.bool (cmpA hf ⟨pa, la, ca⟩ ⟨pb, lb, cb⟩).1, .int .i64 (cmpA hf ⟨pa, la, ca⟩ ⟨pb, lb, cb⟩).2]) ∧ Below w.heap.size w w' := by
  have Hh := hide hh
  have Hr1 := hide (rrights_any pa na ca la w ha hna)
  have Hr2 : Hid (∀ W, Below w.heap.size w W → Calls Tryz.prog 27 #[.slice pb nb cb] W fun e w' => e = .returned (.bool (lb.all okI)) ∧ Below W.heap.size W w') := fun W hW => rrights_any pb nb cb lb W ⟨hb.1.keep hW, hb.2⟩ hnb
  have Ha := hide ha
  have Hb := hide hb
  have Hna := hide hna
  have Hnb := hide hnb
  have hna2 : na < 9223372036854775807 := by rw [hna]; exact ha.2.2
  have hnb2 : nb < 9223372036854775807 := by rw [hnb]; exact hb.2.2
  have Hcmp : Hid (cmpA hf ⟨pa, la, ca⟩ ⟨pb, lb, cb⟩ = if (la.all okI && lb.all okI) = true then cOut hf lb la else (false, 2)) := by show _ = _; unfold cmpA; simp [rightL]
  clear hh ha hb hna hnb
  rcases Bool.eq_false_or_eq_true (la.all okI) with hqa | hqa
  · rw [hqa] at Hr1
    rcases Bool.eq_false_or_eq_true (lb.all okI) with hqb | hqb
    · rw [hqb] at Hr2
      have Hc : Hid (cmpA hf ⟨pa, la, ca⟩ ⟨pb, lb, cb⟩ = cOut hf lb la) := by show _ = _; rw [Hcmp.out, hqa, hqb]; rfl
      clear hqa hqb Hcmp
      go_enter Tryz.func8, Tryz.ntmps8
      go_wp2_with fail
      refine Hr1.out.mono ?_
      rintro e w0 ⟨rfl, hb0⟩
      go_wp2_with fail
      refine (Hr2.out w0 hb0).mono ?_
      rintro e w1 ⟨rfl, hbb⟩
      have hB1 := chain0 hb0 hbb
      clear hbb hb0
      go_wp2_with fail
      go_loopw [8] (fun i W => ∃ k : Nat, k ≤ na ∧ i = .int .i64 k ∧ Hid (cOut hf lb (la.drop k) = cOut hf lb la) ∧ Below w.heap.size w W) (fun i _ => na - (intOf i).toNat)
      case atStart => exact ⟨0, Nat.zero_le _, rfl, hide rfl, hB1⟩
      case round =>
        clear hB1
        obtain ⟨k, hk, rfl, Hk, hB⟩ := hrel
        by_cases hlt : k < na
        · have hI : (k : Int) < (na : Int) := by omega
          obtain ⟨x, hx⟩ : ∃ x, la[k]? = some x := ⟨_, List.getElem?_eq_getElem (by have := Hna.out; omega)⟩
          have hs1 := Ha.out.2.1 x (List.mem_of_getElem? hx)
          have Hst := hide (drop_at la k x hx)
          have Hx := hide hx
          obtain ⟨b1, off1, hp1, _⟩ := Ha.out.1.at k x hx
          dsimp only at hp1
          subst hp1
          have hix := ix_item b1 off1 na ca k hlt
          clear hx
          obtain ⟨k1, a1, t1, d1⟩ := x
          dsimp only at hs1
          go_wp2_with fail
          go_loopw [9] (fun i W => ∃ j : Nat, j ≤ nb ∧ i = .int .i64 j ∧ Hid (cIn hf ⟨k1, a1, t1, d1⟩ (lb.drop j) = cIn hf ⟨k1, a1, t1, d1⟩ lb) ∧ Below w.heap.size w W) (fun i _ => nb - (intOf i).toNat)
          case atStart => exact ⟨0, Nat.zero_le _, rfl, hide rfl, hB⟩
          case round =>
            clear hB
            obtain ⟨j, hj, rfl, Hj, hB3⟩ := hrel
            by_cases hlj : j < nb
            · have hI2 : (j : Int) < (nb : Int) := by omega
              obtain ⟨y, hy⟩ : ∃ y, lb[j]? = some y := ⟨_, List.getElem?_eq_getElem (by have := Hnb.out; omega)⟩
              obtain ⟨b2, off2, e2, q0, q1, q2, q3⟩ := (Hb.out.1.keep hB3).at j y hy
              dsimp only at e2
              subst e2
              obtain ⟨b3, off3, e3, c0, c1, c2, c3⟩ := (Ha.out.1.keep hB3).at k _ Hx.out
              injection e3 with e3
              injection e3 with e3 e4
              subst e3 e4
              have hs2 := Hb.out.2.1 y (List.mem_of_getElem? hy)
              have hix2 := ix_item b2 off2 nb cb j hlj
              have Hsj := hide (drop_at lb j y hy)
              clear hy
              obtain ⟨k2, a2, t2, d2⟩ := y
              dsimp only at c0 c1 c2 c3 q0 q1 q2 q3 hs2
              have l0 := later_cell c0
              have l1 := later_cell c1
              have l2 := later_cell c2
              have l3 := later_cell c3
              have r0 := later_cell q0
              have r1 := later_cell q1
              have r2 := later_cell q2
              have r3 := later_cell q3
              clear c0 c1 c2 c3 q0 q1 q2 q3
              go_wp2_with fail
              refine wp_region_later (by kernel_rfl) (by kernel_rfl) ?_
              repeat (go_big_quiet_step ((go_at_call 28; exact later_of (rorder_any k1 k2 a1 a2 d1 d2 t1 t2 _ hs1 hs2))))
              refine wpQuiet_nil ?_
              intro _ hw'
              obtain ⟨y, hw''⟩ := hw'
              subst hw''
              have hB5 := chain0 hB3 y.2
              clear l0 l1 l2 l3 r0 r1 r2 r3 hix2
              by_cases hE : oE ⟨k1, a1, t1, d1⟩ ⟨k2, a2, t2, d2⟩ = 0
              · rw [hE]
                go_wp2_with fail
                refine (Hh.out _ _).mono ?_
                rintro e wx ⟨rfl, rfl⟩
                rcases Bool.eq_false_or_eq_true (hf (oV ⟨k1, a1, t1, d1⟩ ⟨k2, a2, t2, d2⟩)) with hv | hv
                · have HR : Hid (cmpA hf ⟨some ⟨b1, off1, none⟩, la, ca⟩ ⟨some ⟨b2, off2, none⟩, lb, cb⟩ = (true, 0)) := by
                    show _ = _
                    rw [Hc.out, ← Hk.out, Hst.out]
                    refine cOut_some ?_
                    rw [← Hj.out, Hsj.out]
                    exact cIn_yes hE hv
                  rw [hv]
                  clear Hc Hk Hst Hj Hsj hE hv
                  go_wp2
                  go_ret2
                  exact ⟨by rw [HR.out]; rfl, hB5⟩
                · have Hj2 : Hid (cIn hf ⟨k1, a1, t1, d1⟩ (lb.drop (j + 1)) = cIn hf ⟨k1, a1, t1, d1⟩ lb) := by
                    show _ = _
                    rw [← Hj.out, Hsj.out]
                    exact (cIn_no hE hv).symm
                  rw [hv]
                  clear Hc Hk Hst Hj Hsj hE hv
                  go_wp2
                  go_roundw
                  case rel => exact ⟨j + 1, by omega, by simp, Hj2, hB5⟩
                  case measure => simp [intOf]; omega
              · have hE2 : (oE ⟨k1, a1, t1, d1⟩ ⟨k2, a2, t2, d2⟩ != 0) = true := by simpa using hE
                have HR : Hid (cmpA hf ⟨some ⟨b1, off1, none⟩, la, ca⟩ ⟨some ⟨b2, off2, none⟩, lb, cb⟩ = (false, oE ⟨k1, a1, t1, d1⟩ ⟨k2, a2, t2, d2⟩)) := by
                  show _ = _
                  rw [Hc.out, ← Hk.out, Hst.out]
                  refine cOut_some ?_
                  rw [← Hj.out, Hsj.out]
                  exact cIn_bad hE
                clear Hc Hk Hst Hj Hsj hE
                go_wp2
                go_ret2
                exact ⟨by rw [HR.out]; rfl, hB5⟩
            · have hI2 : ¬ (j : Int) < (nb : Int) := by omega
              have Hk2 : Hid (cOut hf lb (la.drop (k + 1)) = cOut hf lb la) := by
                show _ = _
                rw [← Hk.out, Hst.out]
                refine (cOut_none ?_).symm
                rw [← Hj.out, List.drop_eq_nil_of_le (by have := Hnb.out; omega)]
                rfl
              clear Hk Hst Hj
              go_wp2
              go_roundw
              case rel => exact ⟨k + 1, by omega, by simp, Hk2, hB3⟩
              case measure => simp [intOf]; omega
        · have hI : ¬ (k : Int) < (na : Int) := by omega
          have HR : Hid (cmpA hf ⟨pa, la, ca⟩ ⟨pb, lb, cb⟩ = (false, 0)) := by
            show _ = _
            rw [Hc.out, ← Hk.out, List.drop_eq_nil_of_le (by have := Hna.out; omega)]
            rfl
          clear Hc Hk
          go_wp2
          go_ret2
          exact ⟨by rw [HR.out]; rfl, hB⟩
    · rw [hqb] at Hr2
      have HR : Hid (cmpA hf ⟨pa, la, ca⟩ ⟨pb, lb, cb⟩ = (false, 2)) := by show _ = _; rw [Hcmp.out, hqb, Bool.and_false]; rfl
      clear hqa hqb Hcmp
      go_enter Tryz.func8, Tryz.ntmps8
      go_wp2_with fail
      refine Hr1.out.mono ?_
      rintro e w0 ⟨rfl, hb0⟩
      go_wp2_with fail
      refine (Hr2.out w0 hb0).mono ?_
      rintro e w1 ⟨rfl, hbb⟩
      have hB1 := chain0 hb0 hbb
      clear hbb hb0
      go_wp2
      go_ret2
      exact ⟨by rw [HR.out]; rfl, hB1⟩
  · rw [hqa] at Hr1
    have HR : Hid (cmpA hf ⟨pa, la, ca⟩ ⟨pb, lb, cb⟩ = (false, 2)) := by show _ = _; rw [Hcmp.out, hqa, Bool.false_and]; rfl
    clear hqa Hcmp
    go_enter Tryz.func8, Tryz.ntmps8
    go_wp2_with fail
    refine Hr1.out.mono ?_
    rintro e w0 ⟨rfl, hb0⟩
    go_wp2
    go_ret2
    exact ⟨by rw [HR.out]; rfl, hb0⟩
end Go.Proofs.YtnhjphjdncaimaaGreatDoor
namespace Go.Proofs.YtnhjphjdncaimaaGreatDoor
open Go.RowKit
set_option maxRecDepth 100000 in
set_option maxHeartbeats 4000000 in
theorem rcompare_other {op : ByteArray} (h : NoSign op) (pa pb : Option Addr) (na nb ca cb : Nat) (la lb : List It) (w : World) (ha : OkA w ⟨pa, la, ca⟩) (hb : OkA w ⟨pb, lb, cb⟩) (hna : na = la.length) (hnb : nb = lb.length) :
    Calls Tryz.prog 8 #[.string op, .slice pa na ca, .slice pb nb cb] w fun e w' => e = .returned (.tuple #[.bool false, .int .i64 2]) ∧ Below w.heap.size w w' := by
  have Hr1 := hide (rrights_any pa na ca la w ha hna)
  have Hr2 : Hid (∀ W, Below w.heap.size w W → Calls Tryz.prog 27 #[.slice pb nb cb] W fun e w' => e = .returned (.bool (lb.all okI)) ∧ Below W.heap.size W w') := fun W hW => rrights_any pb nb cb lb W ⟨hb.1.keep hW, hb.2⟩ hnb
  obtain ⟨h1, h2, h3, h4, h5, h6⟩ := h
  clear ha hb hna hnb
  generalize la.all okI = qa at *
  generalize lb.all okI = qb at *
  cases qa with
  | true =>
    cases qb with
    | true =>
      go_enter Tryz.func8, Tryz.ntmps8
      go_wp2_with fail
      refine Hr1.out.mono ?_
      rintro e w0 ⟨rfl, hb0⟩
      go_wp2_with fail
      refine (Hr2.out w0 hb0).mono ?_
      rintro e w1 ⟨rfl, hbb⟩
      have hB1 := chain0 hb0 hbb
      clear hbb hb0
      go_wp2
      go_ret2
      exact ⟨rfl, hB1⟩
    | false =>
      go_enter Tryz.func8, Tryz.ntmps8
      go_wp2_with fail
      refine Hr1.out.mono ?_
      rintro e w0 ⟨rfl, hb0⟩
      go_wp2_with fail
      refine (Hr2.out w0 hb0).mono ?_
      rintro e w1 ⟨rfl, hbb⟩
      have hB1 := chain0 hb0 hbb
      clear hbb hb0
      go_wp2
      go_ret2
      exact ⟨rfl, hB1⟩
  | false =>
    go_enter Tryz.func8, Tryz.ntmps8
    go_wp2_with fail
    refine Hr1.out.mono ?_
    rintro e w0 ⟨rfl, hb0⟩
    go_wp2
    go_ret2
    exact ⟨rfl, hb0⟩
theorem is_op {op : ByteArray} {l : List UInt8} (h : (op.toList == l) = true) : op = ⟨l.toArray⟩ := by
  have e : op.toList = l := by simpa using h
  rw [ByteArray.toList_eq] at e
  apply ByteArray.ext
  apply Array.toList_inj.1
  simpa using e
/-- both Compares answer alike, whatever the sign -/
theorem cmp_both (op : ByteArray) : ∃ v : List It → List It → Bool × Int,
    (∀ (pa pb : Option Addr) (na nb ca cb : Nat) (la lb : List It) (w : World), Env w → OkA w ⟨pa, la, ca⟩ → OkA w ⟨pb, lb, cb⟩ → na = la.length → nb = lb.length →
      Calls Tryz.prog 7 #[.string op, .slice pa na ca, .slice pb nb cb] w fun e w' => e = .returned (.tuple #[.bool (v la lb).1, .int .i64 (v la lb).2]) ∧ Below w.heap.size w w') ∧
    (∀ (pa pb : Option Addr) (na nb ca cb : Nat) (la lb : List It) (w : World), OkA w ⟨pa, la, ca⟩ → OkA w ⟨pb, lb, cb⟩ → na = la.length → nb = lb.length →
      Calls Tryz.prog 8 #[.string op, .slice pa na ca, .slice pb nb cb] w fun e w' => e = .returned (.tuple #[.bool (v la lb).1, .int .i64 (v la lb).2]) ∧ Below w.heap.size w w') := by
  rcases Bool.eq_false_or_eq_true (op.toList == [61]) with h1 | h1
  · obtain rfl := is_op h1
    exact ⟨fun la lb => cmpA (fun n => n == 0) ⟨none, la, 0⟩ ⟨none, lb, 0⟩, fun pa pb na nb ca cb la lb w he ha hb hna hnb => compare_any _ _ pa pb na nb ca cb la lb w he sEq ha hb hna hnb, fun pa pb na nb ca cb la lb w ha hb hna hnb => rcompare_eq _ pa pb na nb ca cb la lb w rsEq ha hb hna hnb⟩
  rcases Bool.eq_false_or_eq_true (op.toList == [33, 61]) with h2 | h2
  · obtain rfl := is_op h2
    exact ⟨fun la lb => cmpA (fun n => n != 0) ⟨none, la, 0⟩ ⟨none, lb, 0⟩, fun pa pb na nb ca cb la lb w he ha hb hna hnb => compare_any _ _ pa pb na nb ca cb la lb w he sNe ha hb hna hnb, fun pa pb na nb ca cb la lb w ha hb hna hnb => rcompare_ne _ pa pb na nb ca cb la lb w rsNe ha hb hna hnb⟩
  rcases Bool.eq_false_or_eq_true (op.toList == [60]) with h3 | h3
  · obtain rfl := is_op h3
    exact ⟨fun la lb => cmpA (fun n => decide (n < 0)) ⟨none, la, 0⟩ ⟨none, lb, 0⟩, fun pa pb na nb ca cb la lb w he ha hb hna hnb => compare_any _ _ pa pb na nb ca cb la lb w he sLt ha hb hna hnb, fun pa pb na nb ca cb la lb w ha hb hna hnb => rcompare_lt _ pa pb na nb ca cb la lb w rsLt ha hb hna hnb⟩
  rcases Bool.eq_false_or_eq_true (op.toList == [60, 61]) with h4 | h4
  · obtain rfl := is_op h4
    exact ⟨fun la lb => cmpA (fun n => decide (n ≤ 0)) ⟨none, la, 0⟩ ⟨none, lb, 0⟩, fun pa pb na nb ca cb la lb w he ha hb hna hnb => compare_any _ _ pa pb na nb ca cb la lb w he sLe ha hb hna hnb, fun pa pb na nb ca cb la lb w ha hb hna hnb => rcompare_le _ pa pb na nb ca cb la lb w rsLe ha hb hna hnb⟩
  rcases Bool.eq_false_or_eq_true (op.toList == [62]) with h5 | h5
  · obtain rfl := is_op h5
    exact ⟨fun la lb => cmpA (fun n => decide (0 < n)) ⟨none, la, 0⟩ ⟨none, lb, 0⟩, fun pa pb na nb ca cb la lb w he ha hb hna hnb => compare_any _ _ pa pb na nb ca cb la lb w he sGt ha hb hna hnb, fun pa pb na nb ca cb la lb w ha hb hna hnb => rcompare_gt _ pa pb na nb ca cb la lb w rsGt ha hb hna hnb⟩
  rcases Bool.eq_false_or_eq_true (op.toList == [62, 61]) with h6 | h6
  · obtain rfl := is_op h6
    exact ⟨fun la lb => cmpA (fun n => decide (0 ≤ n)) ⟨none, la, 0⟩ ⟨none, lb, 0⟩, fun pa pb na nb ca cb la lb w he ha hb hna hnb => compare_any _ _ pa pb na nb ca cb la lb w he sGe ha hb hna hnb, fun pa pb na nb ca cb la lb w ha hb hna hnb => rcompare_ge _ pa pb na nb ca cb la lb w rsGe ha hb hna hnb⟩
  exact ⟨fun _ _ => (false, 2), fun pa pb na nb ca cb la lb w he ha hb hna hnb => compare_other ⟨h1, h2, h3, h4, h5, h6⟩ _ _ w, fun pa pb na nb ca cb la lb w ha hb hna hnb => rcompare_other ⟨h1, h2, h3, h4, h5, h6⟩ pa pb na nb ca cb la lb w ha hb hna hnb⟩
end Go.Proofs.YtnhjphjdncaimaaGreatDoor
