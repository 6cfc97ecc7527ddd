/- ValueHolds: the walk. -/
import Derived.Test.YtnhjphjdncaimaaGreatDoorHk
import Derived.Test.YtnhjphjdncaimaaGreatDoorHg
import Derived.Test.YtnhjphjdncaimaaGreatDoorR4
import Derived.Test.YtnhjphjdncaimaaGreatDoorR2
import Derived.Test.YtnhjphjdncaimaaGreatDoorR3
import Derived.Test.YtnhjphjdncaimaaGreatDoorWa
namespace Go.Proofs.YtnhjphjdncaimaaGreatDoor
open Go.RowKit
set_option maxRecDepth 100000 in
set_option maxHeartbeats 8000000 in
theorem valueHolds_ok (op : ByteArray) (pa pb : Option Addr) (na nb ca cb : Nat) (la lb : List It) (m : Int) (w : World) (he : Env w) (hm : w.cell? ⟨3, 0, none⟩ = some (.int .i64 m)) (hc : Counts w) (ha : OkA w ⟨pa, la, ca⟩) (hb : OkA w ⟨pb, lb, cb⟩) (hRa : ∀ y ∈ la, R64 y.num) (hRb : ∀ y ∈ lb, R64 y.num) (hna : na = la.length) (hnb : nb = lb.length) :
    Calls Tryz.prog 3 #[.string op, .slice pa na ca, .slice pb nb cb] w fun e w' => e = .returned (.bool true) ∧ Below w.heap.size w w' := by
  have He := hide he
  have Hm := hide hm
  have Hc := hide hc
  have Ha := hide ha
  have Hb := hide hb
  have Hra := hide hRa
  have Hrb := hide hRb
  have Hna := hide hna
  have Hnb := hide hnb
  obtain ⟨v, hv1, hv2⟩ := cmp_both op
  have Hv1 := hide hv1
  have Hv2 := hide hv2
  have hrd : Rd (w.alloc (.cells #[.slice pa na ca, .slice pb nb cb] 22)) (some ⟨w.heap.size, 0, none⟩) (([⟨pa, la, ca⟩, ⟨pb, lb, cb⟩] : List Lst).map Lst.v) := by
    rw [hna, hnb]; exact Rd.new w 22 [.slice pa la.length ca, .slice pb lb.length cb]
  have Hrd := hide hrd
  have hb2 := (Below.refl w.heap.size w).alloc (Nat.le_refl _) (.cells #[.slice pa na ca, .slice pb nb cb] 22)
  clear he hm hc ha hb hRa hRb hna hnb hv1 hv2 hrd
  go_enter Tryz.func3, Tryz.ntmps3
  go_wp2_with fail
  refine (great_len (some ⟨w.heap.size, 0, none⟩) 2 2 [⟨pa, la, ca⟩, ⟨pb, lb, cb⟩] _ rfl (by decide) Hrd.out ?ok).mono ?_
  case ok =>
    intro x hx
    simp only [List.mem_cons, List.not_mem_nil, or_false] at hx
    rcases hx with rfl | rfl
    · exact ⟨Ha.out.1.keep hb2, Ha.out.2⟩
    · exact ⟨Hb.out.1.keep hb2, Hb.out.2⟩
  rintro e w2 ⟨⟨q, rfl, hq⟩, hg2⟩
  have hB2 := chain0 hb2 hg2
  clear hb2 hg2 Hrd
  by_cases hq0 : q = 0
  · subst hq0
    clear hq
    obtain ⟨ev, hv, hev⟩ := (He.out.keep hB2).syn
    go_wp2_with fail
    refine (awake_ok m ev _ (cell_keep hB2 Hm.out) (Hc.out.keep hB2) hv hev).mono ?_
    rintro e w99 ⟨rfl, hb99⟩
    have hB99 := chain0 hB2 hb99
    go_wp2
    go_ret
    exact ⟨rfl, hB99⟩
  · have hla : la.length ≤ 300 := hq hq0 ⟨pa, la, ca⟩ (by simp)
    have hlb : lb.length ≤ 300 := hq hq0 ⟨pb, lb, cb⟩ (by simp)
    have Hla := hide hla
    have Hlb := hide hlb
    have hqf : (q == 0) = false := by simpa using hq0
    rw [hqf]
    clear hla hlb hq hqf hq0
    by_cases h1000 : (1000 : Int) < (op.size : Int)
    · obtain ⟨ev, hv, hev⟩ := (He.out.keep hB2).syn
      go_wp2_with fail
      refine (awake_ok m ev _ (cell_keep hB2 Hm.out) (Hc.out.keep hB2) hv hev).mono ?_
      rintro e w99 ⟨rfl, hb99⟩
      have hB99 := chain0 hB2 hb99
      go_wp2
      go_ret
      exact ⟨rfl, hB99⟩
    · have hna3 : na ≤ 1048576 := by have := Hla.out; have := Hna.out; omega
      have hnb3 : nb ≤ 1048576 := by have := Hlb.out; have := Hnb.out; omega
      have Hna3 := hide hna3
      have Hnb3 := hide hnb3
      clear hna3 hnb3
      go_wp2_with fail
      refine (lentI_any pa la na ca _ (Ha.out.1.keep hB2) Hna.out Hna3.out).mono ?_
      rintro e w3 ⟨rfl, hx, hb3⟩
      have hB3 := chain0 hB2 hb3
      generalize w2.heap.size = gx at hx ⊢
      clear hb3 hB2
      go_wp2_with fail
      refine (lentI_any pb lb nb cb _ (Hb.out.1.keep hB3) Hnb.out Hnb3.out).mono ?_
      rintro e w4 ⟨rfl, hy, hb4⟩
      have hB4 := chain0 hB3 hb4
      have hx4 := hx.keep hb4
      generalize w3.heap.size = gy at hy ⊢
      clear hb4 hB3 hx
      have Hx4 := hide hx4
      have Hy4 := hide hy
      have hA4 : OkA w4 ⟨some ⟨gx, 0, none⟩, la, na + 12⟩ := ⟨hx4.left, Ha.out.2⟩
      have hD4 : OkA w4 ⟨some ⟨gy, 0, none⟩, lb, nb + 12⟩ := ⟨hy.left, Hb.out.2⟩
      have HA4 := hide hA4
      have HD4 := hide hD4
      have He4 := hide (He.out.keep hB4)
      have Hq4 : Hid (Below w.heap.size w w4) := hB4
      have hB4 := Below.refl w4.heap.size w4
      clear hx4 hy hA4 hD4
      go_wp2_with fail
      refine (Hv1.out (some ⟨gx, 0, none⟩) (some ⟨gy, 0, none⟩) na nb (na + 12) (nb + 12) la lb _ He4.out HA4.out HD4.out Hna.out Hnb.out).mono ?_
      rintro e w5 ⟨rfl, hb5⟩
      have hB5 := chain0 hB4 hb5
      clear hb5 hB4
      go_wp2_with fail
      refine (Hv2.out pa pb na nb ca cb la lb _ ⟨Ha.out.1.keep (chain0 Hq4.out hB5), Ha.out.2⟩ ⟨Hb.out.1.keep (chain0 Hq4.out hB5), Hb.out.2⟩ Hna.out Hnb.out).mono ?_
      rintro e w6 ⟨rfl, hb6⟩
      have hB6 := chain0 hB5 hb6
      clear hb6 hB5
      generalize v la lb = v0
      obtain ⟨c1, c2⟩ := v0
      dsimp only
      go_wp2_with fail
      refine (truth_any (some ⟨gx, 0, none⟩) na (na + 12) la _ (He4.out.keep hB6) ⟨HA4.out.1.keep hB6, HA4.out.2⟩ Hna.out).mono ?_
      rintro e w7 ⟨rfl, hb7⟩
      have hB7 := chain0 hB6 hb7
      clear hb7 hB6
      go_wp2_with fail
      refine (rtruth_any pa na ca la _ ⟨Ha.out.1.keep (chain0 Hq4.out hB7), Ha.out.2⟩ Hna.out).mono ?_
      rintro e w8 ⟨rfl, hb8⟩
      have hB8 := chain0 hB7 hb8
      clear hb8 hB7
      generalize truthV la = v0
      obtain ⟨g1, g2⟩ := v0
      dsimp only
      go_wp2_with fail
      refine (string_any (some ⟨gx, 0, none⟩) na (na + 12) la _ (He4.out.keep hB8) ⟨HA4.out.1.keep hB8, HA4.out.2⟩ Hra.out Hna.out).mono ?_
      rintro e w9 ⟨rfl, hb9⟩
      have hB9 := chain0 hB8 hb9
      clear hb9 hB8
      go_wp2_with fail
      refine (rstring_any pa na ca la _ ⟨Ha.out.1.keep (chain0 Hq4.out hB9), Ha.out.2⟩ Hra.out Hna.out).mono ?_
      rintro e w10 ⟨rfl, hb10⟩
      have hB10 := chain0 hB9 hb10
      clear hb10 hB9
      generalize strV la = v0
      obtain ⟨s1, s2⟩ := v0
      dsimp only
      go_wp2_with fail
      refine (less_any (some ⟨gx, 0, none⟩) (some ⟨gy, 0, none⟩) na nb (na + 12) (nb + 12) la lb _ (He4.out.keep hB10) ⟨HA4.out.1.keep hB10, HA4.out.2⟩ ⟨HD4.out.1.keep hB10, HD4.out.2⟩ Hna.out Hnb.out).mono ?_
      rintro e w11 ⟨rfl, hb11⟩
      have hB11 := chain0 hB10 hb11
      clear hb11 hB10
      go_wp2_with fail
      refine (rless_any pa pb na nb ca cb la lb _ ⟨Ha.out.1.keep (chain0 Hq4.out hB11), Ha.out.2⟩ ⟨Hb.out.1.keep (chain0 Hq4.out hB11), Hb.out.2⟩ Hna.out Hnb.out).mono ?_
      rintro e w12 ⟨rfl, hb12⟩
      have hB12 := chain0 hB11 hb12
      clear hb12 hB11
      generalize lessV la lb = v0
      obtain ⟨u1, u2⟩ := v0
      dsimp only
      go_wp2_with fail
      refine (keptI_true pa la gx na ca _ (Hx4.out.keep hB12) (Ha.out.1.keep (chain0 Hq4.out hB12)) Hna.out Hna3.out).mono ?_
      rintro e w13 ⟨rfl, hb13⟩
      have hB13 := chain0 hB12 hb13
      clear hb13 hB12
      go_wp2_with fail
      refine (keptI_true pb lb gy nb cb _ (Hy4.out.keep hB13) (Hb.out.1.keep (chain0 Hq4.out hB13)) Hnb.out Hnb3.out).mono ?_
      rintro e w14 ⟨rfl, hb14⟩
      have hB14 := chain0 hB13 hb14
      clear hb14 hB13
      have hB15 := chain0 Hq4.out hB14
      clear hB14
      obtain ⟨ev, hv, hev⟩ := (He.out.keep hB15).syn
      go_wp2_with fail
      refine (awake_ok m ev _ (cell_keep hB15 Hm.out) (Hc.out.keep hB15) hv hev).mono ?_
      rintro e w99 ⟨rfl, hb99⟩
      have hB99 := chain0 hB15 hb99
      go_wp2
      go_ret
      exact ⟨rfl, hB99⟩
end Go.Proofs.YtnhjphjdncaimaaGreatDoor
