/- value.Compare at any rows of items. -/
import Derived.Test.YtnhjphjdncaimaaGreatDoorTo
import Derived.Test.YtnhjphjdncaimaaGreatDoorVj
namespace Go.Proofs.YtnhjphjdncaimaaGreatDoor
open Go.RowKit
/-- what one item says against a row; what a row says against a row -/
def cIn (hf : Int → Bool) (x : It) : List It → Option (Bool × Int)
  | [] => none
  | y :: r => if oE x y = 0 then (if hf (oV x y) = true then some (true, 0) else cIn hf x r) else some (false, oE x y)
def cOut (hf : Int → Bool) (b : List It) : List It → Bool × Int
  | [] => (false, 0)
  | x :: r => match cIn hf x b with
    | some v => v
    | none => cOut hf b r
def cmpA (hf : Int → Bool) (A B : Lst) : Bool × Int := if rightL [A, B] = true then cOut hf B.l A.l else (false, 2)
theorem drop_at {α : Type} (l : List α) (k : Nat) (x : α) (hx : l[k]? = some x) : l.drop k = x :: l.drop (k + 1) := by
  obtain ⟨h1, h2⟩ := List.getElem?_eq_some_iff.1 hx
  rw [List.drop_eq_getElem_cons h1, h2]
theorem cIn_bad {hf : Int → Bool} {x y : It} {r : List It} (h : ¬ oE x y = 0) : cIn hf x (y :: r) = some (false, oE x y) := by unfold cIn; exact if_neg h
theorem cIn_yes {hf : Int → Bool} {x y : It} {r : List It} (h : oE x y = 0) (h2 : hf (oV x y) = true) : cIn hf x (y :: r) = some (true, 0) := by unfold cIn; rw [if_pos h, if_pos h2]
theorem cIn_no {hf : Int → Bool} {x y : It} {r : List It} (h : oE x y = 0) (h2 : hf (oV x y) = false) : cIn hf x (y :: r) = cIn hf x r := by
  conv => lhs; unfold cIn
  rw [if_pos h, if_neg (by rw [h2]; decide)]
theorem cOut_some {hf : Int → Bool} {b r : List It} {x : It} {v : Bool × Int} (h : cIn hf x b = some v) : cOut hf b (x :: r) = v := by unfold cOut; rw [h]
theorem cOut_none {hf : Int → Bool} {b r : List It} {x : It} (h : cIn hf x b = none) : cOut hf b (x :: r) = cOut hf b r := by
  conv => lhs; unfold cOut
  rw [h]
/-- a sign -/
def Sign (op : ByteArray) (hf : Int → Bool) : Prop := ∀ (n : Int) (w : World), Calls Tryz.prog 24 #[.string op, .int .i64 n] w fun e w' => e = .returned (.tuple #[.bool (hf n), .bool true]) ∧ w = w'
set_option maxRecDepth 100000 in
set_option maxHeartbeats 8000000 in
theorem compare_any (op : ByteArray) (hf : Int → Bool) (pa pb : Option Addr) (na nb ca cb : Nat) (la lb : List It) (w : World) (he : Env w) (hh : Sign op hf) (ha : OkA w ⟨pa, la, ca⟩) (hb : OkA w ⟨pb, lb, cb⟩) (hna : na = la.length) (hnb : nb = lb.length) :
    Calls Tryz.prog 7 #[.string op, .slice pa na ca, .slice pb nb cb] w fun e w' => e = .returned (.tuple #[.bool (cmpA hf ⟨pa, la, ca⟩ ⟨pb, lb, cb⟩).1, .int .i64 (cmpA hf ⟨pa, la, ca⟩ ⟨pb, lb, cb⟩).2]) ∧ Below w.heap.size w w' := by
  have He := hide he
  have Hh := hide hh
  have Ha := hide ha
  have Hb := hide hb
  have Hna := hide hna
  have Hnb := hide hnb
  have hna2 : na < 9223372036854775807 := by rw [hna]; exact ha.2.2
  have hnb2 : nb < 9223372036854775807 := by rw [hnb]; exact hb.2.2
  have hrd : Rd (w.alloc (.cells #[.slice pa na ca, .slice pb nb cb] 22)) (some ⟨w.heap.size, 0, none⟩) (([⟨pa, la, ca⟩, ⟨pb, lb, cb⟩] : List Lst).map Lst.v) := by
    rw [hna, hnb]; exact Rd.new w 22 [.slice pa la.length ca, .slice pb lb.length cb]
  have Hrd := hide hrd
  have hb0 : Below w.heap.size w (w.alloc (.cells #[.slice pa na ca, .slice pb nb cb] 22)) := (Below.refl _ _).alloc (Nat.le_refl _) _
  clear he hh ha hb hna hnb hrd
  go_enter Tryz.func7, Tryz.ntmps7
  go_wp2_with fail
  refine (Hh.out 0 _).mono ?_
  rintro e wx ⟨rfl, rfl⟩
  go_wp2_with fail
  refine (right_any (some ⟨w.heap.size, 0, none⟩) 2 2 [⟨pa, la, ca⟩, ⟨pb, lb, cb⟩] _ (He.out.keep hb0).t8 rfl (by decide) Hrd.out ?ok).mono ?_
  case ok =>
    intro x hx
    simp only [List.mem_cons, List.not_mem_nil, or_false] at hx
    rcases hx with rfl | rfl
    · exact ⟨Ha.out.1.keep hb0, Ha.out.2⟩
    · exact ⟨Hb.out.1.keep hb0, Hb.out.2⟩
  rintro e w1 ⟨rfl, hb1⟩
  have hB1 := chain0 hb0 hb1
  clear hb0 hb1 Hrd
  rcases Bool.eq_false_or_eq_true (rightL [⟨pa, la, ca⟩, ⟨pb, lb, cb⟩]) with hr | hr
  · have Hc : Hid (cmpA hf ⟨pa, la, ca⟩ ⟨pb, lb, cb⟩ = cOut hf lb la) := by show _ = _; unfold cmpA; rw [if_pos hr]
    rw [hr]
    clear hr
    go_wp2_with fail
    go_loopw [34] (fun i W => ∃ k : Nat, k ≤ na ∧ i = .int .i64 k ∧ Hid (cOut hf lb (la.drop k) = cOut hf lb la) ∧ Below w.heap.size w W) (fun i _ => na - (intOf i).toNat)
    case atStart => exact ⟨0, Nat.zero_le _, rfl, hide rfl, hB1⟩
    case round =>
      clear hB1
      obtain ⟨k, hk, rfl, Hk, hB⟩ := hrel
      by_cases hlt : k < na
      · have hI : (k : Int) < (na : Int) := by omega
        obtain ⟨x, hx⟩ : ∃ x, la[k]? = some x := ⟨_, List.getElem?_eq_getElem (by have := Hna.out; omega)⟩
        obtain ⟨b1, off1, e1, c0, c1, c2, c3⟩ := (Ha.out.1.keep hB).at k x hx
        dsimp only at e1
        subst e1
        have hs1 := Ha.out.2.1 x (List.mem_of_getElem? hx)
        have hix := ix_item b1 off1 na ca k hlt
        have hst := drop_at la k x hx
        have Hst := hide hst
        clear hx hst
        obtain ⟨k1, a1, t1, d1⟩ := x
        dsimp only at c0 c1 c2 c3 hs1
        have x_x := Blk.new wr 38 #[.int .u8 k1, .int .i64 a1, .string t1, .int .i64 d1]
        have hB2 := hB.alloc hB.size (.cells #[.int .u8 k1, .int .i64 a1, .string t1, .int .i64 d1] 38)
        obtain ⟨bx, hbx⟩ : ∃ bx, bx = wr.heap.size := ⟨_, rfl⟩
        go_wp2_with fail
        rw [← hbx] at x_x ⊢
        clear c0 c1 c2 c3 hix hbx
        go_loopw [40] (fun i W => ∃ j : Nat, j ≤ nb ∧ i = .int .i64 j ∧ Hid (cIn hf ⟨k1, a1, t1, d1⟩ (lb.drop j) = cIn hf ⟨k1, a1, t1, d1⟩ lb) ∧ Below w.heap.size w W ∧ Blk W bx 38 #[.int .u8 k1, .int .i64 a1, .string t1, .int .i64 d1]) (fun i _ => nb - (intOf i).toNat)
        case atStart => exact ⟨0, Nat.zero_le _, rfl, hide rfl, hB2, x_x⟩
        case round =>
          clear hB2 x_x hB
          obtain ⟨j, hj, rfl, Hj, hB3, y_x⟩ := hrel
          by_cases hlj : j < nb
          · have hI2 : (j : Int) < (nb : Int) := by omega
            obtain ⟨y, hy⟩ : ∃ y, lb[j]? = some y := ⟨_, List.getElem?_eq_getElem (by have := Hnb.out; omega)⟩
            obtain ⟨b2, off2, e2, c0, c1, c2, c3⟩ := (Hb.out.1.keep hB3).at j y hy
            dsimp only at e2
            subst e2
            have hs2 := Hb.out.2.1 y (List.mem_of_getElem? hy)
            have hix2 := ix_item b2 off2 nb cb j hlj
            have Hsj := hide (drop_at lb j y hy)
            clear hy
            obtain ⟨k2, a2, t2, d2⟩ := y
            dsimp only at c0 c1 c2 c3 hs2
            have z_x := y_x.alloc (.cells #[.int .u8 k2, .int .i64 a2, .string t2, .int .i64 d2] 38)
            have q0 := z_x.cell 0
            have q1 := z_x.cell 1
            have q2 := z_x.cell 2
            have q3 := z_x.cell 3
            simp only [List.getElem?_toArray, List.getElem?_cons_zero, List.getElem?_cons_succ] at q0 q1 q2 q3
            have hB4 := hB3.alloc hB3.size (.cells #[.int .u8 k2, .int .i64 a2, .string t2, .int .i64 d2] 38)
            go_wp2_with fail
            refine (order_any k1 k2 a1 a2 d1 d2 t1 t2 _ (He.out.keep hB4) hs1 hs2).mono ?_
            rintro e w5 ⟨rfl, hb5⟩
            have hB5 := chain0 hB4 hb5
            have z5 := z_x.keep hb5
            clear hb5 z_x q0 q1 q2 q3 c0 c1 c2 c3 hix2 hB4 y_x
            by_cases hE : oE ⟨k1, a1, t1, d1⟩ ⟨k2, a2, t2, d2⟩ = 0
            · rw [hE]
              go_wp2_with fail
              refine (Hh.out _ _).mono ?_
              rintro e wx ⟨rfl, rfl⟩
              rcases Bool.eq_false_or_eq_true (hf (oV ⟨k1, a1, t1, d1⟩ ⟨k2, a2, t2, d2⟩)) with hv | hv
              · have HR : Hid (cmpA hf ⟨some ⟨b1, off1, none⟩, la, ca⟩ ⟨some ⟨b2, off2, none⟩, lb, cb⟩ = (true, 0)) := by
                  show _ = _
                  rw [Hc.out, ← Hk.out, Hst.out]
                  refine cOut_some ?_
                  rw [← Hj.out, Hsj.out]
                  exact cIn_yes hE hv
                rw [hv]
                clear Hc Hk Hst Hj Hsj hE hv
                go_wp2
                go_ret2
                exact ⟨by rw [HR.out]; rfl, hB5⟩
              · have Hj2 : Hid (cIn hf ⟨k1, a1, t1, d1⟩ (lb.drop (j + 1)) = cIn hf ⟨k1, a1, t1, d1⟩ lb) := by
                  show _ = _
                  rw [← Hj.out, Hsj.out]
                  exact (cIn_no hE hv).symm
                rw [hv]
                clear Hc Hk Hst Hj Hsj hE hv
                go_wp2
                go_roundw
                case rel => exact ⟨j + 1, by omega, by simp, Hj2, hB5, z5⟩
                case measure => simp [intOf]; omega
            · have hE2 : (oE ⟨k1, a1, t1, d1⟩ ⟨k2, a2, t2, d2⟩ != 0) = true := by simpa using hE
              have HR : Hid (cmpA hf ⟨some ⟨b1, off1, none⟩, la, ca⟩ ⟨some ⟨b2, off2, none⟩, lb, cb⟩ = (false, oE ⟨k1, a1, t1, d1⟩ ⟨k2, a2, t2, d2⟩)) := by
                show _ = _
                rw [Hc.out, ← Hk.out, Hst.out]
                refine cOut_some ?_
                rw [← Hj.out, Hsj.out]
                exact cIn_bad hE
              clear Hc Hk Hst Hj Hsj hE
              go_wp2
              go_ret2
              exact ⟨by rw [HR.out]; rfl, hB5⟩
          · have hI2 : ¬ (j : Int) < (nb : Int) := by omega
            have Hk2 : Hid (cOut hf lb (la.drop (k + 1)) = cOut hf lb la) := by
              show _ = _
              rw [← Hk.out, Hst.out]
              refine (cOut_none ?_).symm
              rw [← Hj.out, List.drop_eq_nil_of_le (by have := Hnb.out; omega)]
              rfl
            clear Hk Hst Hj
            go_wp2
            go_roundw
            case rel => exact ⟨k + 1, by omega, by simp, Hk2, hB3⟩
            case measure => simp [intOf]; omega
      · have hI : ¬ (k : Int) < (na : Int) := by omega
        have HR : Hid (cmpA hf ⟨pa, la, ca⟩ ⟨pb, lb, cb⟩ = (false, 0)) := by
          show _ = _
          rw [Hc.out, ← Hk.out, List.drop_eq_nil_of_le (by have := Hna.out; omega)]
          rfl
        clear Hc Hk
        go_wp2
        go_ret2
        exact ⟨by rw [HR.out]; rfl, hB⟩
  · have HR : Hid (cmpA hf ⟨pa, la, ca⟩ ⟨pb, lb, cb⟩ = (false, 2)) := by show _ = _; unfold cmpA; rw [if_neg (by rw [hr]; decide)]
    rw [hr]
    clear hr
    go_wp2
    go_ret2
    exact ⟨by rw [HR.out]; rfl, hB1⟩
end Go.Proofs.YtnhjphjdncaimaaGreatDoor
