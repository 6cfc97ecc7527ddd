/- ValueCalls: the walk. What the rows of the Value laws list: what the walks ask of the world. A slice of rows of items that came in. -/
import Derived.Test.YtaieiogmolaebaaGreatDoorC48
import Derived.Test.YtaieiogmolaebaaGreatDoorRows
import Derived.Test.YtaieiogmolaebaaGreatDoorC15
import Derived.Test.YtaieiogmolaebaaGreatDoorC16
import Derived.Lib.LaidU8
import Derived.LaidLaws
import Derived.Lay
import Derived.SevenTiedAt
import Derived.LaidOnce
import Derived.LaidMore
import Derived.MakeChecks
import Derived.WalkKit
import Derived.ProofKit
import Derived.OpenShut
import Derived.Stop.Joined
import Derived.Test.YtaieiogmolaebaaGreatDoorC05
namespace Go.Proofs.YtaieiogmolaebaaGreatDoor
open Go.RowKit
theorem PreC.keep {w W : World} {p : Option Addr} {n : Nat} {ls : List Lst} (h : PreC w p n ls) (hb : Below w.heap.size w W) : PreC W p n ls := ⟨h.r.keep hb, h.ok.keep hb, h.R, h.s, h.L, h.q, h.m⟩
set_option maxRecDepth 100000 in
set_option maxHeartbeats 8000000 in
theorem valueCalls_ok (name : ByteArray) (p : Option Addr) (n c : Nat) (ls : List Lst) (m : Int) (w : World) (he : Env w) (hm : w.cell? ⟨3, 0, none⟩ = some (.int .i64 m)) (hc : Counts w) (hr : Rd w p (ls.map Lst.v)) (hok : OkAs w ls) (hR : ∀ x ∈ ls, ∀ y ∈ x.l, R64 y.num) (hn : n = ls.length) (hle : n < 9223372036854775807) :
  Calls Tryz.prog 3 #[.string name, .slice p n c] w fun e w' => e = .returned (.bool true) ∧ Below w.heap.size w w' := by
 obtain ⟨i1, hi1, hi2, hi3, hi4⟩ := info_parts rowInfo
 have Hi : Hid (Tryz.prog.info? 25 = some i1 ∧ i1.zero = some (.slice none 0 0) ∧ i1.size = 1 ∧ i1.bytes = 24) := ⟨hi1, hi2, hi3, hi4⟩
 have He := hide he
 have Hm := hide hm
 have Hc := hide hc
 have Hr := hide hr
 have Hok := hide hok
 have HR := hide hR
 have Hn := hide hn
 clear hi1 hi2 hi3 hi4 he hm hc hr hok hR hn
 go_enter Tryz.func3, Tryz.ntmps3
 go_wp2_with fail
 refine (great_size p n c ls _ Hn.out hle Hr.out Hok.out).mono ?_
 rintro e w1 ⟨⟨q, rfl, hq⟩, hB1⟩
 by_cases hq0 : q = 0
 ·subst hq0
  clear hq
  obtain ⟨ev, hv, hev⟩ := (He.out.keep hB1).syn
  go_wp2_with fail
  refine (awake_ok m ev _ (cell_keep hB1 Hm.out) (Hc.out.keep hB1) hv hev).mono ?_
  rintro e w99 ⟨rfl, hb99⟩
  have hB99 := chain0 hB1 hb99
  go_wp2
  go_ret
  exact ⟨rfl, hB99⟩
 ·have hqq := hq hq0
  have H300 := hide hqq.1
  have Hsm := hide hqq.2
  have hqf : (q == 0) = false := by simpa using hq0
  rw [hqf]
  clear hq hqq hqf hq0
  by_cases h1000 : (1000 : Int) < (name.size : Int)
  ·obtain ⟨ev, hv, hev⟩ := (He.out.keep hB1).syn
   go_wp2_with fail
   refine (awake_ok m ev _ (cell_keep hB1 Hm.out) (Hc.out.keep hB1) hv hev).mono ?_
   rintro e w99 ⟨rfl, hb99⟩
   have hB99 := chain0 hB1 hb99
   go_wp2
   go_ret
   exact ⟨rfl, hB99⟩
  ·have hs1000 : name.size ≤ 1000 := by omega
   by_cases h20 : (20 : Int) < (n : Int)
   ·obtain ⟨ev, hv, hev⟩ := (He.out.keep hB1).syn
    go_wp2_with fail
    refine (awake_ok m ev _ (cell_keep hB1 Hm.out) (Hc.out.keep hB1) hv hev).mono ?_
    rintro e w99 ⟨rfl, hb99⟩
    have hB99 := chain0 hB1 hb99
    go_wp2
    go_ret
    exact ⟨rfl, hB99⟩
   ·have hn20 : n ≤ 20 := by omega
    obtain ⟨V, hV1, hV2, hV3⟩ := call_both name hs1000
    have HV1 := hide hV1
    have HV2 := hide hV2
    have HV3 := hide hV3
    clear hV1 hV2 hV3
    go_wp2_with fail
    go_loopw [5, 6] (fun v iv W => ∃ (k : Nat) (L : List Lst), k ≤ n ∧ iv = .int .i64 k ∧ InQ w1 W k v ls L) (fun _ iv _ => n - (intOf iv).toNat)
    case atStart => exact ⟨0, [], Nat.zero_le _, rfl, InQ.start w1 ls⟩
    case round =>
     obtain ⟨k, L, hk, rfl, I⟩ := hrel
     by_cases hlt : k < n
     ·have hI : (k : Int) < (n : Int) := by omega
      obtain ⟨x, hx⟩ : ∃ x, ls[k]? = some x := ⟨_, List.getElem?_eq_getElem (by have := Hn.out; omega)⟩
      obtain ⟨b, off, rfl, hcl⟩ := Hr.out.cellAt k x.v (by simp [hx])
      have hix := ix_row b off n c k hlt
      have Hxo := hide (Hok.out x (List.mem_of_getElem? hx))
      have hx3 := H300.out x (List.mem_of_getElem? hx)
      have Hx := hide hx
      clear hx
      obtain ⟨xa, xl, xc⟩ := x
      obtain ⟨j, hj⟩ : ∃ j, j = xl.length := ⟨_, rfl⟩
      have hj3 : j ≤ 1048576 := by dsimp only at hx3; omega
      have hcl2 : wr.cell? ⟨b, off + k, none⟩ = some (.slice xa j xc) := by rw [hj]; exact cell_keep (chain0 hB1 I.hB) hcl
      have Hj := hide hj
      have HI := hide I
      have hrdI := (Hxo.out.1.keep (chain0 hB1 I.hB))
      have HrdI := hide hrdI
      clear hcl hj I hrdI
      go_wp2_with fail
      refine (lentI_own xa xl j xc _ HrdI.out Hj.out hj3).mono ?_
      rintro e w2 ⟨rfl, own2, hb2⟩
      have Own2 := hide own2
      have I2 := HI.out.keep hb2
      have hal : Below w2.heap.size w2 (w2.alloc (.cells #[.slice (some ⟨wr.heap.size, 0, none⟩) j (j + 12)] 25)) := (Below.refl _ _).alloc (Nat.le_refl _) _
      have Hrow := hide (I2.keep hal).row
      have Hrd := hide (Rd.new w2 25 [.slice (some ⟨wr.heap.size, 0, none⟩) j (j + 12)])
      have hsz : w1.heap.size ≤ w2.heap.size := I2.hB.size
      clear own2 I2 hal hcl2
      go_wp2_with (at_builtin; refine wpList_appR rfl _ _ 22 rfl i1 _ 24 1 Tryz.underlying22 Hi.out.1 Hi.out.2.1 Hi.out.2.2.1 Hi.out.2.2.2 rfl (by decide) rfl rfl ?e1 Hrow.out Hrd.out (m := 1) rfl ?e2 ?e3 ?e4 ?_)
      case e1 => intro u hu; simp at hu; subst hu; rfl
      case e2 => omega
      case e3 => omega
      case e4 => simp; omega
      intro v' W3 own3 hg3 hv3
      have I3 := HI.out.next Hx.out Hj.out Own2.out hb2 _ own3 hg3
      clear own3 hg3 hv3 Hrow Hrd HI Own2 hb2 HrdI Hxo
      go_wp2
      go_roundw
      case rel => exact ⟨k + 1, _, by omega, by go_num, I3⟩
      case measure => simp [intOf]; omega
     ·have hk' : k = n := by omega
      subst hk'
      obtain ⟨ia, ic, hv⟩ := ow_forms I.row
      subst hv
      obtain ⟨hcon, hpre⟩ := I.pre HR.out Hsm.out H300.out Hn.out hn20
      have hl3 : ∀ l ∈ conL ls, l.length ≤ 1000 := fun l hl => by
       obtain ⟨x, hx, rfl⟩ := List.mem_map.1 hl
       exact Nat.le_trans (H300.out x hx) (by decide)
      have hla := HV3.out (conL ls) hl3
      obtain ⟨WB, rfl⟩ : ∃ W, W = wr := ⟨_, rfl⟩
      have hB2 := chain0 hB1 I.hB
      have C1 := HV1.out ia k ic L m WB (He.out.keep hB2) (cell_keep hB2 Hm.out) (Hc.out.keep hB2) hpre
      rw [hcon] at C1
      obtain ⟨vv, hvv⟩ : ∃ x, x = V (conL ls) := ⟨_, rfl⟩
      rw [← hvv] at C1 hla
      have Hpre := hide hpre
      have Hvv := hide hvv
      have Hcon := hide hcon
      have HI := hide I
      obtain ⟨la, ec⟩ := vv
      dsimp only at C1 hla
      clear I hcon hpre hvv hl3
      go_wp2_with fail
      refine C1.mono ?_
      rintro e w3 ⟨va, rfl, oa, hb3⟩
      clear C1
      have hB3 := chain0 hB2 hb3
      have C2 := HV1.out ia k ic L m w3 (He.out.keep hB3) (cell_keep hB3 Hm.out) (Hc.out.keep hB3) (Hpre.out.keep hb3)
      rw [Hcon.out, ← Hvv.out] at C2
      dsimp only at C2
      have Oa := hide oa
      clear oa hB2
      go_wp2_with fail
      refine C2.mono ?_
      rintro e w4 ⟨vb, rfl, ob, hb4⟩
      clear C2
      have hB4 := chain0 hB3 hb4
      have C3 := HV2.out p k c ls w4 (pre_in Hr.out Hok.out HR.out Hsm.out H300.out Hn.out hn20 hB4)
      rw [← Hvv.out] at C3
      dsimp only at C3
      have Ob := hide ob
      clear ob hB3
      go_wp2_with fail
      refine C3.mono ?_
      rintro e w5 ⟨vr, rfl, oc, hb5⟩
      clear C3
      have hA : Ans w5 WB.heap.size w3.heap.size w4.heap.size va vb vr la := by
       have ea : OwE w3 WB.heap.size w3.heap.size va la := OwZ.ends (.inl Oa.out)
       have eb : OwE w4 w3.heap.size w4.heap.size vb la := OwZ.ends (.inl Ob.out)
       exact ⟨(ea.keep hb4).keep hb5, eb.keep hb5, .inl oc⟩
      have hI5 : InR w1 w5 k 0 (.slice ia k ic) L := ((HI.out.turn.keep hb3).keep hb4).keep hb5
      have hlt3 := hb3.size
      have hlt4 := hb4.size
      have hlw : w.heap.size ≤ WB.heap.size := (chain0 hB1 HI.out.hB).size
      have Hlv : Hid (∀ x ∈ L, ∀ g, x.a = some ⟨g, 0, none⟩ → g < WB.heap.size) := fun x hx g hg => by
       obtain ⟨g2, cur, h1, _, _, h2⟩ := (HI.out.own x hx).parts
       rw [h1] at hg
       injection hg with hg
       injection hg with hg
       subst hg
       exact lt_of_heap h2
      generalize WB.heap.size = B1 at hA hlt3 Hlv hlw
      generalize w3.heap.size = B2 at hA hlt3 hlt4
      generalize w4.heap.size = B3 at hA hlt4
      clear oc Oa Ob hb3 hb4 hb5 HI Hpre hB4 Hvv HV1 HV2 HV3
      go_wp2_with fail
      go_loopw [13] (fun iv W => ∃ i : Nat, i ≤ k ∧ iv = .int .i64 i ∧ InR w1 W k i (.slice ia k ic) L ∧ Ans W B1 B2 B3 va vb vr la) (fun iv _ => k - (intOf iv).toNat)
      case atStart => exact ⟨0, Nat.zero_le _, rfl, hI5, hA⟩
      case round =>
       clear hI5 hA
       obtain ⟨i, hi, rfl, I, A⟩ := hrel
       by_cases hlt : i < k
       ·have hI : (i : Int) < (k : Int) := by omega
        obtain ⟨x, hx⟩ : ∃ x, ls[i]? = some x := ⟨_, List.getElem?_eq_getElem (by have := Hn.out; omega)⟩
        obtain ⟨y, hy, hyx⟩ := con_at Hcon.out i hx
        obtain ⟨W0, rfl⟩ : ∃ W0, W0 = wr := ⟨_, rfl⟩
        have hB := chain0 hB1 I.hB
        obtain ⟨b, off, rfl, hc1⟩ := Hr.out.cellAt i x.v (by simp [hx])
        have hc2 := cell_keep hB hc1
        obtain ⟨ib, io, rfl, hd1⟩ := (ow_rd I.row).cellAt i y.v (by simp [hy])
        obtain ⟨g, ha, hcc, hgB, hct⟩ := (I.own i y (Nat.le_refl _) hy).cont
        obtain ⟨_, ha2, _, hrg⟩ := (I.own i y (Nat.le_refl _) hy).rd
        rw [ha] at ha2
        injection ha2 with ha2
        injection ha2 with ha2
        subst ha2
        have hrx := (Hok.out x (List.mem_of_getElem? hx)).1.keep hB
        have hx3 := H300.out x (List.mem_of_getElem? hx)
        have hgl := Hlv.out y (List.mem_of_getElem? hy) g ha
        have Hy := hide hy
        have Ha := hide ha
        clear hx hy hc1
        obtain ⟨ya, yl, yc⟩ := y
        obtain ⟨xa, xl, xc⟩ := x
        dsimp only at ha hcc hyx hct hrg hrx hx3
        subst ha hyx hcc
        obtain ⟨j, hj⟩ : ∃ j, j = yl.length := ⟨_, rfl⟩
        have hj3 : j ≤ 1048576 := by omega
        have hd : W0.cell? ⟨ib, io + i, none⟩ = some (.slice (some ⟨g, 0, none⟩) j (j + 12)) := by rw [hj]; exact hd1
        have hc : W0.cell? ⟨b, off + i, none⟩ = some (.slice xa j xc) := by rw [hj]; exact hc2
        rw [← hj] at hct
        have hix1 := ix_row ib io k ic i hlt
        have hix2 := ix_row b off k c i hlt
        have Hj := hide hj
        have HI := hide I
        have HA := hide A
        have Hct := hide hct
        have Hrg := hide hrg
        have Hrx := hide hrx
        clear hc2 hd1 hj I A hct hrg hrx
        go_wp2_with fail
        refine wp_region_facts (R := RB W0.heap.size (⟨#[]⟩) (0)) [eqF _ _ _ 65 (.slice (some ⟨ib, io, none⟩) k ic), eqF _ _ _ 66 (.int .i64 i), eqF _ _ _ 67 (.pointer (some ⟨ib, io + i, none⟩)), eqF _ _ _ 68 (.slice (some ⟨g, 0, none⟩) j (j + 12)), eqF _ _ _ 69 (.slice (some ⟨b, off, none⟩) k c), eqF _ _ _ 70 (.int .i64 i), eqF _ _ _ 71 (.pointer (some ⟨b, off + i, none⟩)), eqF _ _ _ 72 (.slice xa j xc), eqF _ _ _ 73 (.bool true), eqF _ _ _ 74 (.bool false)] (by kernel_rfl) (by kernel_rfl) (by kernel_rfl) (RB.refl (Nat.le_refl _)) (fun _ h => h.again) (fun _ _ _ h k => h.trans k) ?_ ?_
        ·refine stepsU_cons rfl ?_ (stepsU_cons rfl ?_ (stepsU_cons rfl ?_ (stepsU_cons rfl ?_ (stepsU_cons rfl ?_ (stepsU_cons rfl ?_ (stepsU_cons rfl ?_ (stepsU_cons rfl ?_ (stepsU_cons rfl ?_ (stepsU_cons rfl ?_ (stepsU_nil))))))))))
         ·refine stepU_plain rfl fun u wr hR hK hD => ?_; exact upon_move _ _ rfl (hK 5 rfl) ⟨hR.again, rfl⟩
         ·refine stepU_plain rfl fun u wr hR hK hD => ?_; exact upon_move _ _ rfl (hK 13 rfl) ⟨hR.again, rfl⟩
         ·refine stepU_plain rfl fun u wr hR hK hD => ?_; have z : u 65 = _ := (hD 0 rfl); have z2 : u 66 = _ := (hD 1 rfl); exact upon_val _ (by unfold execOp; simp [go_sem, evU, z, z2, hix1]) ⟨hR.again, rfl⟩
         ·refine stepU_plain rfl fun u wr hR hK hD => ?_; have z : u 67 = _ := (hD 2 rfl); have z2 := cell_keep hR.be hd; exact upon_val _ (by unfold execOp; simp [go_sem, evU, z, z2]) ⟨hR.again, rfl⟩
         ·refine stepU_plain rfl fun u wr hR hK hD => ?_; exact upon_move _ _ rfl (hK 1 rfl) ⟨hR.again, rfl⟩
         ·refine stepU_plain rfl fun u wr hR hK hD => ?_; exact upon_move _ _ rfl (hK 13 rfl) ⟨hR.again, rfl⟩
         ·refine stepU_plain rfl fun u wr hR hK hD => ?_; have z : u 69 = _ := (hD 4 rfl); have z2 : u 70 = _ := (hD 5 rfl); exact upon_val _ (by unfold execOp; simp [go_sem, evU, z, z2, hix2]) ⟨hR.again, rfl⟩
         ·refine stepU_plain rfl fun u wr hR hK hD => ?_; have z : u 71 = _ := (hD 6 rfl); have z2 := cell_keep hR.be hc; exact upon_val _ (by unfold execOp; simp [go_sem, evU, z, z2]) ⟨hR.again, rfl⟩
         ·refine stepU_plain rfl fun u wr hR hK hD => ?_; exact upon_call2 _ _ _ _ _ Tryz.func9 (by kernel_rfl) rfl (hD 3 rfl) (hD 7 rfl) ((keptI_true _ _ _ _ _ wr (RdI.keep (w := W0.drew) Hrg.out hR.be) (RdI.keep (w := W0.drew) Hrx.out hR.be) Hj.out hj3).mono fun e wn ⟨he, hb⟩ => ⟨_, he, hR.next hb, rfl⟩)
         ·refine stepU_plain rfl fun u wr hR hK hD => ?_; have z73 : u 73 = _ := (hD 8 rfl); exact upon_val _ (by unfold execOp; simp [go_sem, evU, z73]) ⟨hR.again, rfl⟩
        intro u w5 hR hF
        have e65 : u 65 = .slice (some ⟨ib, io, none⟩) k ic := hF 0 (by decide)
        have e66 : u 66 = .int .i64 i := hF 1 (by decide)
        have e67 : u 67 = .pointer (some ⟨ib, io + i, none⟩) := hF 2 (by decide)
        have e68 : u 68 = .slice (some ⟨g, 0, none⟩) j (j + 12) := hF 3 (by decide)
        have e69 : u 69 = .slice (some ⟨b, off, none⟩) k c := hF 4 (by decide)
        have e70 : u 70 = .int .i64 i := hF 5 (by decide)
        have e71 : u 71 = .pointer (some ⟨b, off + i, none⟩) := hF 6 (by decide)
        have e72 : u 72 = .slice xa j xc := hF 7 (by decide)
        have e73 : u 73 = .bool true := hF 8 (by decide)
        have e74 : u 74 = .bool false := hF 9 (by decide)
        simp only [finU, Act.put, List.setIfInBounds_toArray, List.set_cons_succ, List.set_cons_zero, e65, e66, e67, e68, e69, e70, e71, e72, e73, e74]
        clear hF e65 e66 e67 e68 e69 e70 e71 e72 e73 e74
        have hB2 : Below w.heap.size w w5 := chain hB.drew hB.size hR.be
        have hb_w5 : Below W0.heap.size W0 w5 := ⟨hR.be.os, hR.be.tape, hR.be.output, hR.be.size, hR.be.block⟩
        clear hB hR
        have hB := hB2
        clear hB2
        have hd5 := cell_keep hb_w5 hd
        have I5 := hide (HI.out.keep hb_w5)
        have A5 := hide (HA.out.keep hb_w5)
        have Hct5 := hide (Hct.out.keep hb_w5)
        clear hc hd hb_w5 hB HI HA Hct Hrg Hrx
        go_wp2_with fail
        refine (over_any g j _ Hct5.out hj3).mono ?_
        rintro e w6 ⟨rfl, hg6⟩
        have I6 := I5.out.next Hy.out rfl hg6
        have A6 := A5.out.other hg6 hgl hlt3 hlt4
        clear hd5 hg6 I5 A5 Hct5
        go_wp2
        go_roundw
        case rel => exact ⟨i + 1, by omega, by go_num, I6, A6⟩
        case measure => simp [intOf]; omega
       ·have hi' : i = k := by omega
        subst hi'
        have hB := chain0 hB1 I.hB
        obtain ⟨lj, hlj⟩ : ∃ lj, lj = la.length := ⟨_, rfl⟩
        obtain ⟨aa, ca, rfl, hra⟩ := A.a.z.form
        obtain ⟨ba, cb, rfl, hrb⟩ := A.b.z.form
        obtain ⟨ra, cr, rfl, hrr⟩ := A.r.form
        rw [← hlj] at A hla ⊢
        have HA := hide A
        have Hra := hide hra
        have Hrb := hide hrb
        have Hrr := hide hrr
        have Hlj := hide hlj
        have hlj6 : lj ≤ 1000000 := by omega
        clear A I hra hrb hrr hlj
        go_wp2_with fail
        refine (same_any aa ra lj ca cr la _ Hra.out Hrr.out Hlj.out hlj6).mono ?_
        rintro e w7 ⟨rfl, hb7⟩
        go_wp2_with fail
        refine (same_any ba ra lj cb cr la _ (Hrb.out.keep hb7) (Hrr.out.keep hb7) Hlj.out hlj6).mono ?_
        rintro e w8 ⟨rfl, hb8⟩
        have hB8 := chain0 (chain0 hB hb7) hb8
        have ha8 := (HA.out.a.keep hb7).keep hb8
        have hb8' := (HA.out.b.keep hb7).keep hb8
        have hal : Below w8.heap.size w8 (w8.alloc (.cells #[.slice aa lj ca, .slice ba lj cb] 25)) := (Below.refl _ _).alloc (Nat.le_refl _) _
        have hB9 := chain0 hB8 hal
        have hap := apart_of (some ⟨w8.heap.size, 0, none⟩) 2 2 [⟨B1, B2, .slice aa lj ca, la⟩, ⟨B2, B3, .slice ba lj cb, la⟩] w.heap.size _ (Rd.new w8 25 [.slice aa lj ca, .slice ba lj cb]) rfl (by simp) (by decide) hB9.size
         (by
          intro x hx
          simp only [List.mem_cons, List.not_mem_nil, or_false] at hx
          rcases hx with rfl | rfl
          ·exact ⟨ha8.keep hal, by have := Hlj.out; dsimp only; omega, hlw⟩
          ·exact ⟨hb8'.keep hal, by have := Hlj.out; dsimp only; omega, Nat.le_trans hlw hlt3⟩)
         (by simp)
        clear hb7 hb8 HA Hra Hrb Hrr ha8 hb8' hal hB hB8
        go_wp2_with fail
        refine hap.mono ?_
        rintro e w10 ⟨rfl, hb10⟩
        have hB10 := hB9.trans hb10
        clear hap hB9 hb10
        obtain ⟨ev, hv, hev⟩ := (He.out.keep hB10).syn
        go_wp2_with fail
        refine (awake_ok m ev _ (cell_keep hB10 Hm.out) (Hc.out.keep hB10) hv hev).mono ?_
        rintro e w99 ⟨rfl, hb99⟩
        have hB99 := chain0 hB10 hb99
        go_wp2
        go_ret
        exact ⟨rfl, hB99⟩
end Go.Proofs.YtaieiogmolaebaaGreatDoor
namespace Go.Proofs.YtaieiogmolaebaaGreatDoor
set_option maxRecDepth 100000
set_option maxHeartbeats 4000000
open Go.RowKit
theorem first_of {W : World} (h : Lib.VarReads Tryz.prog W "unicode/utf8.first" Rows.laid_unicode_utf8_first) : ∀ c, c < 256 → W.cell? ⟨1, c, none⟩ = some (.int .u8 (Lib.firstT c)) := by
 intro c hc
 have e : Rows.laid_unicode_utf8_first = Lib.firstData := by kernel_rfl
 rw [e] at h
 obtain ⟨g, t, cs, fuel, p, hg, ht, hv, hd⟩ := h
 obtain rfl := Option.some.inj ((show Tryz.prog.globalNamed "unicode/utf8.first" = some 1 by kernel_rfl).symm.trans hg)
 obtain rfl := Option.some.inj ((show (Tryz.prog.globals[1]?).map (·.type) = some 236 by kernel_rfl).symm.trans ht)
 have hcs := Lib.cells_of_tab Tryz.underlying236 Tryz.underlying5 (by kernel_rfl) (by kernel_rfl) hd
 rw [World.var?_cell hg hv c, ← Array.getElem?_toList, hcs]
 simp [Lib.firstTab, hc]
theorem accept_of {W : World} (h : Lib.VarReads Tryz.prog W "unicode/utf8.acceptRanges" Rows.laid_unicode_utf8_acceptRanges) : ∀ i, i < 16 → W.cell? ⟨2, 2 * i, none⟩ = some (.int .u8 (Lib.accLo i)) ∧ W.cell? ⟨2, 2 * i + 1, none⟩ = some (.int .u8 (Lib.accHi i)) := by
 intro i hi
 have e : (Rows.laid_unicode_utf8_acceptRanges : DataW Unit) = Lib.acceptData := by kernel_rfl
 rw [e] at h
 obtain ⟨g, t, cs, fuel, p, hg, ht, hv, hd⟩ := h
 obtain rfl := Option.some.inj ((show Tryz.prog.globalNamed "unicode/utf8.acceptRanges" = some 2 by kernel_rfl).symm.trans hg)
 obtain rfl := Option.some.inj ((show (Tryz.prog.globals[2]?).map (·.type) = some 239 by kernel_rfl).symm.trans ht)
 obtain ⟨fuel', d, q, hdi, he⟩ := Lib.array_elem Tryz.underlying239 hd i hi
 simp only [List.getElem?_map, List.getElem?_range hi, Option.map_some, Option.some.injEq] at hdi
 subst hdi
 have c2 : Tryz.prog.cellsOf 238 = 2 := by kernel_rfl
 have c1 : Tryz.prog.cellsOf 5 = 1 := by kernel_rfl
 rw [c2] at he
 have hcs := Lib.ints_of_struct Tryz.underlying238 (fun j f hj => by
  match j, hj with
  | 0, hj => simp at hj; subst hj; exact ⟨Tryz.underlying5, rfl, c1⟩
  | 1, hj => simp at hj; subst hj; exact ⟨Tryz.underlying5, rfl, c1⟩
  | j + 2, hj => simp at hj) (by rw [c2]; rfl) he
 have e0 := congrArg (·[0]?) hcs
 have e1 := congrArg (·[1]?) hcs
 simp only [List.getElem?_take, List.getElem?_drop] at e0 e1
 constructor
 ·rw [World.var?_cell hg hv (2 * i), ← Array.getElem?_toList]
  simpa [Nat.mul_comm] using e0
 ·rw [World.var?_cell hg hv (2 * i + 1), ← Array.getElem?_toList]
  simpa [Nat.mul_comm] using e1
theorem pow_of {W : World} (h : Lib.VarReads Tryz.prog W "internal/strconv.uint64pow10" Rows.laid_internal_strconv_uint64pow10) : Lib.TabIs Tryz.prog W "internal/strconv.uint64pow10" .u64 Lib.pow10Tab := by
 have e : (Rows.laid_internal_strconv_uint64pow10 : DataW Unit) = Lib.tabData .u64 Lib.pow10Tab := by kernel_rfl
 rw [e] at h
 obtain ⟨g, t, cs, fuel, p, hg, ht, hv, hd⟩ := h
 obtain rfl := Option.some.inj ((show Tryz.prog.globalNamed "internal/strconv.uint64pow10" = some 4 by kernel_rfl).symm.trans hg)
 obtain rfl := Option.some.inj ((show (Tryz.prog.globals[4]?).map (·.type) = some 266 by kernel_rfl).symm.trans ht)
 have hcs := Lib.cells_of_tab Tryz.underlying266 Tryz.underlying119 (by kernel_rfl) (by kernel_rfl) hd
 unfold Lib.TabIs
 rw [hv]
 congr 1
 exact Array.toList_inj.1 (by rw [hcs])
theorem drop_take (L : List Value) (k : Nat) : L.drop k = (L.drop k).take 3 ++ L.drop (k + 3) := by
 have h : L.drop (k + 3) = (L.drop k).drop 3 := by rw [List.drop_drop]
 rw [h]; exact (List.take_append_drop 3 _).symm
theorem six_of {L a0 a1 a2 a3 a4 a5 : List Value} (h : L.length = 18) (h0 : (L.drop (0 * 3)).take 3 = a0) (h1 : (L.drop (1 * 3)).take 3 = a1) (h2 : (L.drop (2 * 3)).take 3 = a2) (h3 : (L.drop (3 * 3)).take 3 = a3) (h4 : (L.drop (4 * 3)).take 3 = a4) (h5 : (L.drop (5 * 3)).take 3 = a5) :
  L = a0 ++ (a1 ++ (a2 ++ (a3 ++ (a4 ++ a5)))) := by
 have e : L.drop 18 = [] := List.drop_eq_nil_of_le (by omega)
 have s0 := drop_take L 0
 have s1 := drop_take L 3
 have s2 := drop_take L 6
 have s3 := drop_take L 9
 have s4 := drop_take L 12
 have s5 := drop_take L 15
 simp only [Nat.reduceMul, Nat.reduceAdd, Nat.zero_add, Nat.zero_mul] at *
 rw [h0] at s0; rw [h1] at s1; rw [h2] at s2; rw [h3] at s3; rw [h4] at s4; rw [h5, e, List.append_nil] at s5
 rw [s5] at s4; rw [s4] at s3; rw [s3] at s2; rw [s2] at s1; rw [s1] at s0
 simpa using s0
section
variable {H : Type} {enc : TypeId × Value → H} {w : World} {base : Nat} {sp : Nat → Bool} {held : Bool}
theorem cnt_cells {fuel : Nat} {cs : List Value} {a b : Int} {bs : List UInt8} {p : List MemPlace} (h : DataW.trod enc Tryz.prog w base sp held fuel 95 cs = some (.agg [.lit (.int .i64 a), .lit (.int .i64 b), .lit (.string bs)], p)) :
  cs = [.int .i64 a, .int .i64 b, .string ⟨bs.toArray⟩] := by
 obtain ⟨xs, n, _, hx, hl, hn, hf⟩ := DataW.trod_struct Tryz.underlying95 h
 have hl3 : cs.length = 3 := hl.trans (by kernel_rfl)
 have f0 : DataW.trod enc Tryz.prog w base sp held n 3 (List.take (Tryz.prog.cellsOf 3) (List.drop 0 cs)) = xs[0]? := hf 0 _ rfl
 have f1 : DataW.trod enc Tryz.prog w base sp held n 3 (List.take (Tryz.prog.cellsOf 3) (List.drop 1 cs)) = xs[1]? := hf 1 _ rfl
 have f2 : DataW.trod enc Tryz.prog w base sp held n 9 (List.take (Tryz.prog.cellsOf 9) (List.drop 2 cs)) = xs[2]? := hf 2 _ rfl
 have c1 : Tryz.prog.cellsOf 3 = 1 := by kernel_rfl
 have c2 : Tryz.prog.cellsOf 9 = 1 := by kernel_rfl
 obtain ⟨x0, x1, x2, rfl⟩ : ∃ x0 x1 x2, cs = [x0, x1, x2] := by
  match cs, hl3 with
  | [x0, x1, x2], _ => exact ⟨_, _, _, rfl⟩
 obtain ⟨y0, y1, y2, rfl⟩ : ∃ y0 y1 y2, xs = [y0, y1, y2] := by
  match xs, hn with
  | [y0, y1, y2], _ => exact ⟨_, _, _, rfl⟩
 simp only [c1, c2, List.drop_zero, List.drop_succ_cons, List.take_succ_cons, List.take_zero, List.getElem?_cons_zero, List.getElem?_cons_succ] at f0 f1 f2
 obtain ⟨n0, e0, g0, _⟩ := DataW.trod_int Tryz.underlying3 f0
 obtain ⟨n1, e1, g1, _⟩ := DataW.trod_int Tryz.underlying3 f1
 obtain ⟨s2, e2, g2, _⟩ := DataW.trod_string Tryz.underlying9 f2
 subst g0 g1 g2
 simp only [List.map_cons, List.map_nil, Prod.mk.injEq, DataW.agg.injEq, List.cons.injEq, DataW.lit.injEq, Lit.int.injEq, Lit.string.injEq] at hx
 obtain ⟨⟨⟨_, r0⟩, ⟨_, r1⟩, r2, _⟩, _⟩ := hx
 simp only [List.cons.injEq, and_true] at e0 e1 e2
 subst r0 r1 r2 e0 e1 e2
 rfl
end
theorem counts_of {W : World} (h : Lib.VarReads Tryz.prog W "parchment/value.counts" Rows.laid_parchment_value_counts) : Counts W := by
 obtain ⟨g, t, cs, fuel, p, hg, ht, hv, hd⟩ := h
 obtain rfl := Option.some.inj ((show Tryz.prog.globalNamed "parchment/value.counts" = some 0 by kernel_rfl).symm.trans hg)
 obtain rfl := Option.some.inj ((show (Tryz.prog.globals[0]?).map (·.type) = some 96 by kernel_rfl).symm.trans ht)
 obtain ⟨xs, m, _, hx, hl, hn, hel⟩ := DataW.trod_array Tryz.underlying96 hd
 have c3 : Tryz.prog.cellsOf 95 = 3 := by kernel_rfl
 have c18 : cs.toList.length = 18 := hl.trans (by kernel_rfl)
 rw [c3] at hel
 have e0 := hel 0 (by decide)
 have e1 := hel 1 (by decide)
 have e2 := hel 2 (by decide)
 have e3 := hel 3 (by decide)
 have e4 := hel 4 (by decide)
 have e5 := hel 5 (by decide)
 have hL : cs.toList = cntC := by
  obtain ⟨y0, q0, y1, q1, y2, q2, y3, q3, y4, q4, y5, q5, rfl⟩ : ∃ y0 q0 y1 q1 y2 q2 y3 q3 y4 q4 y5 q5, xs = [(y0, q0), (y1, q1), (y2, q2), (y3, q3), (y4, q4), (y5, q5)] := by
   match xs, hn with
   | [⟨y0, q0⟩, ⟨y1, q1⟩, ⟨y2, q2⟩, ⟨y3, q3⟩, ⟨y4, q4⟩, ⟨y5, q5⟩], _ => exact ⟨_, _, _, _, _, _, _, _, _, _, _, _, rfl⟩
  have hx1 := congrArg Prod.fst hx
  unfold Rows.laid_parchment_value_counts at hx1
  simp only [List.map_cons, List.map_nil, DataW.agg.injEq, List.cons.injEq] at hx1
  obtain ⟨r0, r1, r2, r3, r4, r5, _⟩ := hx1
  simp only [List.getElem?_cons_zero, List.getElem?_cons_succ] at e0 e1 e2 e3 e4 e5
  rw [← r0] at e0; rw [← r1] at e1; rw [← r2] at e2; rw [← r3] at e3; rw [← r4] at e4; rw [← r5] at e5
  exact six_of c18 (cnt_cells e0) (cnt_cells e1) (cnt_cells e2) (cnt_cells e3) (cnt_cells e4) (cnt_cells e5)
 intro j v hj
 rw [World.var?_cell hg hv j, ← Array.getElem?_toList, hL]
 exact hj
theorem errSyntax_of {W : World} (h : Lib.VarReads Tryz.prog W "strconv.ErrSyntax" Rows.laid_strconv_ErrSyntax) : ∃ ev, W.cell? ⟨5, 0, none⟩ = some ev ∧ (ev = .nilIface ∨ ∃ te pe, ev = .iface te pe) := by
 obtain ⟨g, t, cs, fuel, p, hg, ht, hv, hd⟩ := h
 obtain rfl := Option.some.inj ((show Tryz.prog.globalNamed "strconv.ErrSyntax" = some 5 by kernel_rfl).symm.trans hg)
 obtain rfl := Option.some.inj ((show (Tryz.prog.globals[5]?).map (·.type) = some 151 by kernel_rfl).symm.trans ht)
 obtain ⟨f', u, v, hcs, _, _⟩ := iface_of_trod Tryz.underlying151 hd
 refine ⟨.iface u v, ?_, .inr ⟨u, v, rfl⟩⟩
 rw [World.var?_cell hg hv 0, ← Array.getElem?_toList, hcs]
 rfl
theorem errRange_of {W : World} (h : Lib.VarReads Tryz.prog W "strconv.ErrRange" Rows.laid_strconv_ErrRange) : ∃ ev, W.cell? ⟨6, 0, none⟩ = some ev ∧ (ev = .nilIface ∨ ∃ te pe, ev = .iface te pe) := by
 obtain ⟨g, t, cs, fuel, p, hg, ht, hv, hd⟩ := h
 obtain rfl := Option.some.inj ((show Tryz.prog.globalNamed "strconv.ErrRange" = some 6 by kernel_rfl).symm.trans hg)
 obtain rfl := Option.some.inj ((show (Tryz.prog.globals[6]?).map (·.type) = some 151 by kernel_rfl).symm.trans ht)
 obtain ⟨f', u, v, hcs, _, _⟩ := iface_of_trod Tryz.underlying151 hd
 refine ⟨.iface u v, ?_, .inr ⟨u, v, rfl⟩⟩
 rw [World.var?_cell hg hv 0, ← Array.getElem?_toList, hcs]
 rfl
theorem maxLen_of {W : World} (h : W.ShapedOpen Tryz.prog) : ∃ m, W.cell? ⟨3, 0, none⟩ = some (.int .i64 m) :=
 Go.Proofs.cell_of_shapedOpen_int (zero := #[.int .i64 0]) (t := 3) h (of_decide_eq_true (by kernel_rfl)) (by kernel_rfl) rfl (by kernel_rfl) (by kernel_rfl) Tryz.underlying3
theorem env_of {laid : List (String × DataW Unit)} {W : World} (h : laidMetH Tryz.prog laid W) (hp : laidMetH Tryz.prog laid W = laidMet Tryz.prog laid W) (m1 : ("unicode/utf8.first", Rows.laid_unicode_utf8_first) ∈ laid) (m2 : ("unicode/utf8.acceptRanges", Rows.laid_unicode_utf8_acceptRanges) ∈ laid) (m3 : ("internal/strconv.uint64pow10", Rows.laid_internal_strconv_uint64pow10) ∈ laid) (m4 : ("strconv.ErrSyntax", Rows.laid_strconv_ErrSyntax) ∈ laid) (m5 : ("strconv.ErrRange", Rows.laid_strconv_ErrRange) ∈ laid) (m6 : ("parchment/value.counts", Rows.laid_parchment_value_counts) ∈ laid) : Env W ∧ Counts W := by
 rw [hp] at h
 exact ⟨⟨⟨first_of (Lib.laidMet.reads h m1), accept_of (Lib.laidMet.reads h m2)⟩, pow_of (Lib.laidMet.reads h m3), errSyntax_of (Lib.laidMet.reads h m4), errRange_of (Lib.laidMet.reads h m5)⟩, counts_of (Lib.laidMet.reads h m6)⟩
end Go.Proofs.YtaieiogmolaebaaGreatDoor
namespace Go.Proofs.YtaieiogmolaebaaGreatDoor
open Go.RowKit
theorem rows_list (P : Lst → Prop) (w : World) (x : Addr) : ∀ n : Nat, (∀ i, i < n → ∃ y : Lst, w.cell? (x.add i) = some y.v ∧ P y) →
  ∃ l : List Lst, l.length = n ∧ (∀ i y, l[i]? = some y → w.cell? (x.add i) = some y.v) ∧ ∀ y ∈ l, P y
 | 0, _ => ⟨[], rfl, fun i y h => by simp at h, fun y h => by cases h⟩
 | n + 1, h => by
  obtain ⟨l, hl, hc, hs⟩ := rows_list P w x n fun i hi => h i (by omega)
  obtain ⟨y, hy, hys⟩ := h n (by omega)
  refine ⟨l ++ [y], by simp [hl], fun i z hz => ?_, fun z hz => ?_⟩
  ·by_cases hi : i < n
   ·rw [List.getElem?_append_left (by omega)] at hz
    exact hc i z hz
   ·have hi2 : i = n := by
     have := (List.getElem?_eq_some_iff.1 hz).1
     simp [hl] at this; omega
    subst hi2
    rw [List.getElem?_append_right (by omega), hl] at hz
    simp at hz
    subst hz
    exact hy
  ·rcases List.mem_append.1 hz with hz | hz
   ·exact hs z hz
   ·rw [List.mem_singleton] at hz; subst hz; exact hys
theorem rows_of {H : Type} {enc : TypeId × Value → H} {W : World} {d : DataW H} {p : List MemPlace} {a : Option Addr} {n c : Nat} (h : DataW.Trod enc Tryz.prog W 0 (fun _ => true) true 22 (.slice a n c) d p)
  (hsz : ∀ k ∈ d.weights Tryz.prog 22, k ≤ reachBytes) : ∃ ls : List Lst, n = ls.length ∧ n < 9223372036854775807 ∧ Rd W a (ls.map Lst.v) ∧ OkAs W ls ∧ ∀ x ∈ ls, ∀ y ∈ x.l, R64 y.num := by
 obtain ⟨fuel, hf⟩ := h
 rcases Go.Deep.open_slice1 Tryz.underlying22 (show Tryz.prog.cellsOf 25 = 1 by kernel_rfl) hf with ⟨hcs, _⟩ | ⟨x, len, cap, m, k, V, D, Pl, hcs, _, hle, _, hm, hx, hel⟩
 ·simp [Value.cells] at hcs
  obtain ⟨rfl, rfl, rfl⟩ := hcs
  exact ⟨[], rfl, by decide, .inl rfl, fun y hy => (by cases hy), fun y hy => (by cases hy)⟩
 ·simp [Value.cells] at hcs
  obtain ⟨rfl, rfl, rfl⟩ := hcs
  have hm2 : c = m := by simpa using hm.symm
  clear hm
  subst hm2
  have b24 : Tryz.prog.bytesOf 25 = 24 := by kernel_rfl
  have hd := congrArg Prod.fst hx
  simp only at hd
  subst hd
  have hu := Tryz.underlying22
  have hw : DataW.weights Tryz.prog 22 (.slice ((List.range n).map D) ((List.range (c - n)).map fun j => D (n + j)) : DataW H) = (((List.range n).map D).length + ((List.range (c - n)).map fun j => D (n + j)).length) * Tryz.prog.bytesOf 25 :: (DataW.weightsAll Tryz.prog 25 ((List.range n).map D) ++ DataW.weightsAll Tryz.prog 25 ((List.range (c - n)).map fun j => D (n + j))) := by
   conv => lhs; unfold DataW.weights
   rw [hu]
  rw [hw] at hsz
  have hn := hsz _ (List.mem_cons_self ..)
  rw [b24] at hn
  simp [reachBytes] at hn
  have hit : ∀ i, i < n → ∃ y : Lst, W.cell? (x.add i) = some y.v ∧ (OkA W y ∧ ∀ z ∈ y.l, R64 z.num) := by
   intro i hi
   obtain ⟨h1, h2⟩ := hel i (by omega)
   obtain ⟨a2, n2, c2, hv⟩ : ∃ a2 n2 c2, V i = .slice a2 n2 c2 := by
    rcases Go.Deep.open_slice Tryz.underlying25 h2 with ⟨e, _⟩ | ⟨a, len, cap, _, _, _, _, e, _⟩
    ·exact ⟨_, _, _, by simpa using e⟩
    ·exact ⟨_, _, _, by simpa using e⟩
   rw [hv] at h1 h2
   obtain ⟨l, e, hok, hR⟩ := items_of2 (W := W) (a := a2) (n := n2) (c := c2) ⟨_, h2⟩ fun k hk => hsz _ (List.mem_cons_of_mem _ (List.mem_append_left _ (weights_all (List.mem_map.2 ⟨i, List.mem_range.2 hi, rfl⟩) _ hk)))
   subst e
   exact ⟨⟨a2, l, c2⟩, h1, hok, hR⟩
  obtain ⟨l, hl, hc, hs⟩ := rows_list (fun y => OkA W y ∧ ∀ z ∈ y.l, R64 z.num) W x n hit
  refine ⟨l, hl.symm, by omega, ?_, fun y hy => (hs y hy).1, fun y hy => (hs y hy).2⟩
  by_cases h0 : l = []
  ·subst h0; exact .inl rfl
  ·obtain ⟨y0, hy0⟩ : ∃ y0, l[0]? = some y0 := by
    cases l with
    | nil => exact absurd rfl h0
    | cons y r => exact ⟨y, rfl⟩
   have hc0 := hc 0 y0 hy0
   obtain ⟨b, off, spot⟩ := x
   have hspot : spot = none := by simpa [Addr.add] using World.cell?_spot hc0
   subst hspot
   have hb : b < W.heap.size := by
    rcases Nat.lt_or_ge b W.heap.size with h | h
    ·exact h
    ·simp [Addr.add, World.cell?, Array.getElem?_eq_none h] at hc0
   refine .inr ⟨b, off, rfl, hb, fun t u ht => ?_⟩
   rw [List.getElem?_map] at ht
   obtain ⟨y, hy, rfl⟩ := Option.map_eq_some_iff.1 ht
   have := hc t y hy
   rw [addr_add] at this
   exact this
end Go.Proofs.YtaieiogmolaebaaGreatDoor
