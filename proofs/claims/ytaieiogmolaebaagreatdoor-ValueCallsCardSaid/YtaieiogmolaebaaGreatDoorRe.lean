/- The reference: join. -/
import Derived.Test.YtaieiogmolaebaaGreatDoorC41
namespace Go.Proofs.YtaieiogmolaebaaGreatDoor
open Go.RowKit
set_option maxRecDepth 100000 in
set_option maxHeartbeats 4000000 in
theorem rjoin_any (aa ba : Option Addr) (q qb ac bc : Nat) (al bl : List It) (w : World) (ha : OkA w ⟨aa, al, ac⟩) (hb : OkA w ⟨ba, bl, bc⟩) (hL : q ≤ 1000000) (hR : ∀ y ∈ al, R64 y.num) (hs : ∀ y ∈ al, y.text.size ≤ 100000) (hRb : ∀ y ∈ bl, R64 y.num) (hsb : ∀ y ∈ bl, y.text.size ≤ 100000) (hq : q = al.length) (hqb : qb = bl.length) :
  Calls Tryz.prog 44 #[.slice aa q ac, .slice ba qb bc] w (Res w (joinV [⟨aa, al, ac⟩, ⟨ba, bl, bc⟩]).1 (joinV [⟨aa, al, ac⟩, ⟨ba, bl, bc⟩]).2) := by
 obtain ⟨i0, hi⟩ := info_parts (show (Tryz.prog.info? 9).map (fun i => (i.zero, i.size, i.bytes)) = some (some (.string ⟨#[]⟩), 1, 16) by kernel_rfl)
 have Hi := hide hi
 have Hq := hide hq
 have Hst := hide (rstring_any ba qb bc bl w hb hRb hqb)
 have Hss := hide (strV_small bl hRb hsb)
 have Ha := hide ha
 have HR := hide hR
 have Hs := hide hs
 have HJ : Hid (joinV [⟨aa, al, ac⟩, ⟨ba, bl, bc⟩] = if (strV bl).2 = 0 then joinR (strV bl).1 (txL al) else ([], (strV bl).2)) := by show _ = _; rfl
 rw [HJ.out]
 clear ha hb hR hs hRb hsb hq hqb hi HJ
 generalize strV bl = sv at *
 obtain ⟨s1, s2⟩ := sv
 dsimp only at Hst Hss ⊢
 by_cases hz : s2 = 0
 ·subst hz
  rw [if_pos rfl]
  obtain ⟨jv, hjv⟩ : ∃ x, x = joinR s1 (txL al) := ⟨_, rfl⟩
  rw [← hjv]
  have Hjv := hide hjv
  clear hjv
  obtain ⟨j1, j2⟩ := jv
  dsimp only
  go_enter Tryz.func44, Tryz.ntmps44
  go_wp2_with fail
  refine Hst.out.mono ?_
  rintro e w1 ⟨rfl, hB2⟩
  go_wp2_with fail
  go_loopw [8, 9] (fun lv iv W => ∃ k : Nat, k ≤ q ∧ iv = .int .i64 k ∧ Hid (W.ownsRow w.heap.size 9 1 lv k ((txL (al.take k)).map Value.string)) ∧ Below w.heap.size w W) (fun _ iv _ => q - (intOf iv).toNat)
  case atStart => exact ⟨0, Nat.zero_le _, rfl, hide (ow_nil _ _ _ _), hB2⟩
  case round =>
   clear hB2
   obtain ⟨k, hk, rfl, Ho, hB⟩ := hrel
   by_cases hlt : k < q
   ·have hI : (k : Int) < (q : Int) := by omega
    obtain ⟨x, hx⟩ : ∃ x, al[k]? = some x := ⟨_, List.getElem?_eq_getElem (by have := Hq.out; omega)⟩
    obtain ⟨b1, off1, e1, c0, c1, c2, c3⟩ := (Ha.out.1.keep hB).at k x hx
    dsimp only at e1
    subst e1
    have hix2 := ix_item b1 off1 q ac k hlt
    have HxR := hide (HR.out x (List.mem_of_getElem? hx))
    have Htk : Hid (txL (al.take (k + 1)) = txL (al.take k) ++ [txt x]) := by show _ = _; rw [List.take_add_one, hx]; simp [txL]
    clear hx
    obtain ⟨xk, xa, xt, xd⟩ := x
    dsimp only at c0 c1 c2 c3
    obtain ⟨lav, lcv, hv⟩ := ow_forms Ho.out
    subst hv
    go_wp2_with fail
    refine (rtext_any xk xa xd xt _ HxR.out).mono ?_
    rintro e w4 ⟨rfl, hb4⟩
    have hB4 := chain0 hB hb4
    have Ho4 := hide (ow_keep Ho.out hb4)
    clear hb4 hB c0 c1 c2 c3 hix2 Ho
    generalize txt ⟨xk, xa, xt, xd⟩ = sx at *
    have hrd := Rd.new w4 9 [.string sx]
    have hk6 := (Below.refl w4.heap.size w4).alloc (Nat.le_refl _) (.cells #[.string sx] 9)
    have own6 := ow_keep Ho4.out hk6
    have be6 := chain0 hB4 hk6
    have Hrd := hide hrd
    have Own6 := hide own6
    clear hrd hk6 own6 Ho4 hB4
    go_wp2_with (at_builtin; refine wpList_appR rfl _ _ 50 rfl i0 _ 16 1 Tryz.underlying50 Hi.out.1 Hi.out.2.1 Hi.out.2.2.1 Hi.out.2.2.2 rfl (by decide) rfl rfl ?e1 Own6.out Hrd.out (m := 1) rfl ?e2 ?e3 ?e4 ?_)
    case e1 => intro u hu; simp at hu; subst hu; rfl
    case e2 => omega
    case e3 => omega
    case e4 => exact be6.size
    intro v3 W3 own3 hg3 hv3
    have own4 : W3.ownsRow w.heap.size 9 1 v3 (k + 1) ((txL (al.take (k + 1))).map Value.string) := by rw [Htk.out, List.map_append]; exact own3
    have hB3 : Below w.heap.size w W3 := be6.grown hg3 be6.size fun b hb => (ow_lt Own6.out b hb).1
    have Hown4 := hide own4
    clear own3 hg3 hv3 own4 Own6 Hrd be6
    go_wp2
    go_roundw
    case rel => exact ⟨k + 1, by omega, by simp, hide Hown4.out, hB3⟩
    case measure => simp [intOf]; omega
   ·have hI : ¬ (k : Int) < (q : Int) := by omega
    have hkq : k = q := by omega
    subst hkq
    have htk : al.take k = al := List.take_of_length_le (by have := Hq.out; omega)
    obtain ⟨lav, lcv, hv⟩ := ow_forms Ho.out
    subst hv
    have hfin := Ho.out
    rw [htk] at hfin
    have Hj := hide (rjoined_any s1 lav k lcv (txL al) wr (ow_rd hfin) (by show _ = (List.map txt al).length; rw [List.length_map]; exact Hq.out) hL (fun x hx => by obtain ⟨y, hy, rfl⟩ := List.mem_map.1 hx; exact Nat.le_trans (txt_small y (HR.out y hy) (Hs.out y hy)) (by decide)) (Nat.le_trans Hss.out (by decide)))
    rw [← Hjv.out] at Hj
    have hbs := hB.size
    clear htk hfin Ho hk Hjv
    dsimp only at Hj
    go_wp2_with fail
    refine Hj.out.mono ?_
    rintro e w5 ⟨v, rfl, ho, hb5⟩
    have Ho5 := hide (ho.mono hbs)
    have hB5 := chain0 hB hb5
    clear ho hb5 hB hbs
    go_wp2
    go_ret2
    exact ⟨v, rfl, Ho5.out, hB5⟩
 ·have hz1 : (s2 != 0) = true := by simpa using hz
  rw [if_neg hz]
  clear hz
  go_enter Tryz.func44, Tryz.ntmps44
  go_wp2_with fail
  refine Hst.out.mono ?_
  rintro e w1 ⟨rfl, hb1⟩
  go_wp2
  go_ret2
  exact ⟨.slice none 0 0, rfl, OwI.nil _ _, hb1⟩
end Go.Proofs.YtaieiogmolaebaaGreatDoor
