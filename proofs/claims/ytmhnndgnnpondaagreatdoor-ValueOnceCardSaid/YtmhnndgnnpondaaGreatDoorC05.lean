/- value.right at any rows of items. A slice of items that came in: a row of items. A slice of items that came in: a row of items, their numbers in bounds. -/
import Derived.Test.YtmhnndgnnpondaaGreatDoorC04
import Derived.OpenShut
import Derived.Deep.Slices
import Derived.SizedLaws
import Derived.DataReads
namespace Go.Proofs.YtmhnndgnnpondaaGreatDoor
open Go.RowKit
def okI (x : It) : Bool :=
 (if x.kind = 1 then decide ((0 : Int) = x.num) && decide (0 ≤ x.node)
  else if x.kind = 2 then decide (x.text.toList = []) && decide ((0 : Int) = x.node)
  else if x.kind = 3 then decide ((0 : Int) = x.num) && decide ((0 : Int) = x.node)
  else if x.kind = 4 then (decide (x.num = 0) || decide (x.num = 1)) && (decide (x.text.toList = []) && decide ((0 : Int) = x.node))
  else false) && tS x.text
theorem toList_nil {t : ByteArray} (h : t.toList = []) : t = ⟨#[]⟩ := by
 have : t.data.toList = [] := by rwa [ByteArray.toList_eq] at h
 apply ByteArray.ext
 apply Array.toList_inj.1
 simpa using this
def rightL (ls : List Lst) : Bool := ls.all fun x => x.l.all okI
def OkA (w : World) (x : Lst) : Prop := RdI w x.a x.l ∧ (∀ y ∈ x.l, y.text.size ≤ 140737488355328) ∧ x.l.length < 9223372036854775807
def OkAs (w : World) (ls : List Lst) : Prop := ∀ x ∈ ls, OkA w x
theorem OkAs.keep {w w' : World} {ls : List Lst} (h : OkAs w ls) (hb : Below w.heap.size w w') : OkAs w' ls := fun x hx => ⟨(h x hx).1.keep hb, (h x hx).2⟩
theorem drop_all {α : Type} (f : α → Bool) (l : List α) (k : Nat) (x : α) (hx : l[k]? = some x) : (l.drop k).all f = (f x && (l.drop (k + 1)).all f) := by
 have h := (List.getElem?_eq_some_iff.1 hx)
 obtain ⟨h1, h2⟩ := h
 rw [List.drop_eq_getElem_cons h1, List.all_cons, h2]
theorem drop_end {α : Type} (f : α → Bool) (l : List α) (k : Nat) (h : ¬ k < l.length) : (l.drop k).all f = true := by
 rw [List.drop_eq_nil_of_le (by omega)]; rfl
theorem and1_other {a : Int} (h0 : a ≠ 0) (h1 : a ≠ 1) : bits .and .i64 a 1 ≠ a := by
 intro h
 rw [and_toInt] at h
 have h2 : (BitVec.ofInt 64 a &&& BitVec.ofInt 64 1).toNat ≤ 1 := by
  rw [BitVec.toNat_and]
  exact Nat.le_trans Nat.and_le_right (by decide)
 rw [BitVec.toInt_eq_toNat_cond] at h
 split at h <;> omega
set_option maxRecDepth 100000 in
set_option maxHeartbeats 8000000 in
theorem right_any (p : Option Addr) (n c : Nat) (ls : List Lst) (w : World) (ht8 : Tabs8 w) (hn : n = ls.length) (hle : n < 9223372036854775807) (hr : Rd w p (ls.map Lst.v)) (hok : OkAs w ls) :
  Calls Tryz.prog 26 #[.slice p n c] w fun e w' => e = .returned (.bool (rightL ls)) ∧ Below w.heap.size w w' := by
 have T8 := hide ht8
 have Hn := hide hn
 have Hr := hide hr
 have Hok := hide hok
 clear hn hr hok ht8
 go_enter Tryz.func26, Tryz.ntmps26
 go_wp2_with fail
 go_loopw [10] (fun i W => ∃ k : Nat, k ≤ n ∧ i = .int .i64 k ∧ Hid (rightL (ls.drop k) = rightL ls) ∧ Below w.heap.size w W) (fun i _ => n - (intOf i).toNat)
 case atStart => exact ⟨0, Nat.zero_le _, rfl, hide rfl, Below.refl _ _⟩
 case round =>
  obtain ⟨k, hk, rfl, Hrel, hB⟩ := hrel
  by_cases hlt : k < n
  ·have hI : (k : Int) < (n : Int) := by omega
   obtain ⟨x, hx⟩ : ∃ x, ls[k]? = some x := ⟨_, List.getElem?_eq_getElem (by have := Hn.out; omega)⟩
   obtain ⟨b, off, rfl, hc⟩ := Hr.out.cellAt k x.v (by simp [hx])
   have hcell : wr.cell? ⟨b, off + k, none⟩ = some (.slice x.a x.l.length x.c) := cell_keep hB hc
   have hix := ix_row b off n c k hlt
   have hokx := hide (Hok.out x (List.mem_of_getElem? hx))
   have Hout := hide (drop_all (fun x : Lst => x.l.all okI) ls k x hx)
   clear hx hc
   obtain ⟨xa, xl, xc⟩ := x
   dsimp only at hcell
   obtain ⟨m, hm⟩ : ∃ m, m = xl.length := ⟨_, rfl⟩
   have hml : m < 9223372036854775807 := by rw [hm]; exact hokx.out.2.2
   rw [← hm] at hcell
   have Hm := hide hm
   clear hm
   go_wp2_with fail
   go_loopw [16] (fun i W => ∃ j : Nat, j ≤ m ∧ i = .int .i64 j ∧ Hid ((xl.drop j).all okI = xl.all okI) ∧ Below w.heap.size w W) (fun i _ => m - (intOf i).toNat)
   case atStart => exact ⟨0, Nat.zero_le _, rfl, hide rfl, hB⟩
   case round =>
    obtain ⟨j, hj, rfl, Hin, hB2⟩ := hrel
    by_cases hlj : j < m
    ·have hI2 : (j : Int) < (m : Int) := by omega
     obtain ⟨y, hy⟩ : ∃ y, xl[j]? = some y := ⟨_, List.getElem?_eq_getElem (by have := Hm.out; omega)⟩
     obtain ⟨b2, off2, rfl, c0, c1, c2, c3⟩ := (hokx.out.1.keep hB2).at j y hy
     have hsz := hokx.out.2.1 y (List.mem_of_getElem? hy)
     have hix2 := ix_item b2 off2 m xc j hlj
     have hy := hide hy
     obtain ⟨q, a, t, d⟩ := y
     dsimp only at c0 c1 c2 c3 hsz
     by_cases k1 : q = 1
     ·subst k1
      by_cases hd : d < 0
      ·have hdd : ¬ 0 ≤ d := by omega
       have hdx : ¬ (0 : Int) = d := by omega
       have Hbad : Hid (rightL ls = false) := by
        show rightL ls = false
        have h1 : xl.all okI = false := by
         rw [← Hin.out, drop_all okI xl j _ hy.out]
         rw [show okI _ = false by simp [okI, hdd]]; rfl
        have h2 := Hout.out
        try dsimp only at h2
        rw [h1, Bool.false_and] at h2
        rw [← Hrel.out]; exact h2
       clear Hin Hout Hrel
       go_wp2_with fail
       go_region
       all_goals (go_wp2; go_ret; first | exact ⟨by rw [Hbad.out]; rfl, hB2.alloc hB2.size _⟩ | exact ⟨by rw [Hbad.out]; rfl, (hB2.alloc hB2.size _).alloc (hB2.alloc hB2.size _).size _⟩ | exact ⟨by rw [Hbad.out]; rfl, ((hB2.alloc hB2.size _).drew).alloc (hB2.alloc hB2.size _).size _⟩ | exact ⟨by rw [Hbad.out]; rfl, ((hB2.alloc hB2.size _).alloc (hB2.alloc hB2.size _).size _).drew⟩)
      ·have hdd : 0 ≤ d := by omega
       by_cases ha : (0 : Int) = a
       ·subst ha
        have hok1 : Hid (okI ⟨1, 0, t, d⟩ = tS t) := by show _ = _; simp [okI, hdd]
        go_wp2_with fail
        go_region
        go_wp2_with fail
        refine (texts_any _ _ (T8.out.keep (by first | exact hB2 | exact (hB2.alloc hB2.size _).alloc (hB2.alloc hB2.size _).size _ | exact ((hB2.alloc hB2.size _).drew).alloc (hB2.alloc hB2.size _).size _ | exact ((hB2.alloc hB2.size _).alloc (hB2.alloc hB2.size _).size _).drew)) (Nat.lt_of_le_of_lt hsz (by decide))).mono ?_
        rintro e w3 ⟨rfl, hb3⟩
        have hB3 : Below w.heap.size w w3 := by first | exact chain0 hB2 (chain2 (Below.refl _ _) hb3) | exact chain hB2 hB2.size (Below.trans (((Below.refl wr.heap.size wr).alloc (Nat.le_refl _) _).alloc (by simp) _).drew (hb3.mono (by simp; omega)))
        clear hb3
        have ho := hok1.out
        generalize tS _ = v at ho ⊢
        have Ho := hide ho
        clear ho
        cases v with
        | true =>
         have hin2 : Hid ((xl.drop (j + 1)).all okI = xl.all okI) := by
          show _ = _
          have h1 := drop_all okI xl j _ hy.out
          rw [Ho.out, Bool.true_and] at h1
          rw [← Hin.out]; exact h1.symm
         clear Hin Hrel Hout Ho hok1
         go_wp2
         go_roundw
         case rel => exact ⟨j + 1, by omega, by simp, hin2, hB3⟩
         case measure => simp [intOf]; omega
        | false =>
         have Hbad : Hid (rightL ls = false) := by
          show rightL ls = false
          have h1 : xl.all okI = false := by
           rw [← Hin.out, drop_all okI xl j _ hy.out]
           rw [Ho.out]; rfl
          have h2 := Hout.out
          try dsimp only at h2
          rw [h1, Bool.false_and] at h2
          rw [← Hrel.out]; exact h2
         clear Hin Hout Hrel Ho hok1
         go_wp2
         go_ret
         exact ⟨by rw [Hbad.out]; rfl, hB3⟩
       ·have Hbad : Hid (rightL ls = false) := by
         show rightL ls = false
         have h1 : xl.all okI = false := by
          rw [← Hin.out, drop_all okI xl j _ hy.out]
          rw [show okI _ = false by simp [okI, ha]]; rfl
         have h2 := Hout.out
         try dsimp only at h2
         rw [h1, Bool.false_and] at h2
         rw [← Hrel.out]; exact h2
        clear Hin Hout Hrel
        go_wp2_with fail
        go_region
        all_goals (go_wp2; go_ret; first | exact ⟨by rw [Hbad.out]; rfl, hB2.alloc hB2.size _⟩ | exact ⟨by rw [Hbad.out]; rfl, (hB2.alloc hB2.size _).alloc (hB2.alloc hB2.size _).size _⟩ | exact ⟨by rw [Hbad.out]; rfl, ((hB2.alloc hB2.size _).drew).alloc (hB2.alloc hB2.size _).size _⟩ | exact ⟨by rw [Hbad.out]; rfl, ((hB2.alloc hB2.size _).alloc (hB2.alloc hB2.size _).size _).drew⟩)
     ·by_cases k2 : q = 2
      ·subst k2
       clear k1
       by_cases ht0 : t.toList = []
       ·by_cases hd0 : (0 : Int) = d
        ·have te := toList_nil ht0
         subst te
         subst hd0
         clear ht0
         have hok1 : Hid (okI ⟨2, a, ⟨#[]⟩, 0⟩ = tS ⟨#[]⟩) := by show _ = _; simp [okI]
         go_wp2_with fail
         skip
         go_wp2_with fail
         refine (texts_any _ _ (T8.out.keep (by first | exact hB2 | exact (hB2.alloc hB2.size _).alloc (hB2.alloc hB2.size _).size _ | exact ((hB2.alloc hB2.size _).drew).alloc (hB2.alloc hB2.size _).size _ | exact ((hB2.alloc hB2.size _).alloc (hB2.alloc hB2.size _).size _).drew)) (Nat.lt_of_le_of_lt hsz (by decide))).mono ?_
         rintro e w3 ⟨rfl, hb3⟩
         have hB3 : Below w.heap.size w w3 := by first | exact chain0 hB2 (chain2 (Below.refl _ _) hb3) | exact chain hB2 hB2.size (Below.trans (((Below.refl wr.heap.size wr).alloc (Nat.le_refl _) _).alloc (by simp) _).drew (hb3.mono (by simp; omega)))
         clear hb3
         have ho := hok1.out
         generalize tS _ = v at ho ⊢
         have Ho := hide ho
         clear ho
         cases v with
         | true =>
          have hin2 : Hid ((xl.drop (j + 1)).all okI = xl.all okI) := by
           show _ = _
           have h1 := drop_all okI xl j _ hy.out
           rw [Ho.out, Bool.true_and] at h1
           rw [← Hin.out]; exact h1.symm
          clear Hin Hrel Hout Ho hok1
          go_wp2
          go_roundw
          case rel => exact ⟨j + 1, by omega, by simp, hin2, hB3⟩
          case measure => simp [intOf]; omega
         | false =>
          have Hbad : Hid (rightL ls = false) := by
           show rightL ls = false
           have h1 : xl.all okI = false := by
            rw [← Hin.out, drop_all okI xl j _ hy.out]
            rw [Ho.out]; rfl
           have h2 := Hout.out
           try dsimp only at h2
           rw [h1, Bool.false_and] at h2
           rw [← Hrel.out]; exact h2
          clear Hin Hout Hrel Ho hok1
          go_wp2
          go_ret
          exact ⟨by rw [Hbad.out]; rfl, hB3⟩
        ·have te := toList_nil ht0
         subst te
         clear ht0
         have Hbad : Hid (rightL ls = false) := by
          show rightL ls = false
          have h1 : xl.all okI = false := by
           rw [← Hin.out, drop_all okI xl j _ hy.out]
           rw [show okI _ = false by simp [okI, hd0]]; rfl
          have h2 := Hout.out
          try dsimp only at h2
          rw [h1, Bool.false_and] at h2
          rw [← Hrel.out]; exact h2
         clear Hin Hout Hrel
         go_wp2_with fail
         skip
         all_goals (go_wp2; go_ret; first | exact ⟨by rw [Hbad.out]; rfl, hB2.alloc hB2.size _⟩ | exact ⟨by rw [Hbad.out]; rfl, (hB2.alloc hB2.size _).alloc (hB2.alloc hB2.size _).size _⟩ | exact ⟨by rw [Hbad.out]; rfl, ((hB2.alloc hB2.size _).drew).alloc (hB2.alloc hB2.size _).size _⟩ | exact ⟨by rw [Hbad.out]; rfl, ((hB2.alloc hB2.size _).alloc (hB2.alloc hB2.size _).size _).drew⟩)
       ·have Hbad : Hid (rightL ls = false) := by
         show rightL ls = false
         have h1 : xl.all okI = false := by
          rw [← Hin.out, drop_all okI xl j _ hy.out]
          rw [show okI _ = false by simp [okI, ht0]]; rfl
         have h2 := Hout.out
         try dsimp only at h2
         rw [h1, Bool.false_and] at h2
         rw [← Hrel.out]; exact h2
        clear Hin Hout Hrel
        go_wp2_with fail
        skip
        all_goals (go_wp2; go_ret; first | exact ⟨by rw [Hbad.out]; rfl, hB2.alloc hB2.size _⟩ | exact ⟨by rw [Hbad.out]; rfl, (hB2.alloc hB2.size _).alloc (hB2.alloc hB2.size _).size _⟩ | exact ⟨by rw [Hbad.out]; rfl, ((hB2.alloc hB2.size _).drew).alloc (hB2.alloc hB2.size _).size _⟩ | exact ⟨by rw [Hbad.out]; rfl, ((hB2.alloc hB2.size _).alloc (hB2.alloc hB2.size _).size _).drew⟩)
      ·by_cases k3 : q = 3
       ·subst k3
        clear k1 k2
        by_cases ha : (0 : Int) = a
        ·by_cases hd0 : (0 : Int) = d
         ·subst ha
          subst hd0
          have hok1 : Hid (okI ⟨3, 0, t, 0⟩ = tS t) := by show _ = _; simp [okI]
          go_wp2_with fail
          skip
          go_wp2_with fail
          refine (texts_any _ _ (T8.out.keep (by first | exact hB2 | exact (hB2.alloc hB2.size _).alloc (hB2.alloc hB2.size _).size _ | exact ((hB2.alloc hB2.size _).drew).alloc (hB2.alloc hB2.size _).size _ | exact ((hB2.alloc hB2.size _).alloc (hB2.alloc hB2.size _).size _).drew)) (Nat.lt_of_le_of_lt hsz (by decide))).mono ?_
          rintro e w3 ⟨rfl, hb3⟩
          have hB3 : Below w.heap.size w w3 := by first | exact chain0 hB2 (chain2 (Below.refl _ _) hb3) | exact chain hB2 hB2.size (Below.trans (((Below.refl wr.heap.size wr).alloc (Nat.le_refl _) _).alloc (by simp) _).drew (hb3.mono (by simp; omega)))
          clear hb3
          have ho := hok1.out
          generalize tS _ = v at ho ⊢
          have Ho := hide ho
          clear ho
          cases v with
          | true =>
           have hin2 : Hid ((xl.drop (j + 1)).all okI = xl.all okI) := by
            show _ = _
            have h1 := drop_all okI xl j _ hy.out
            rw [Ho.out, Bool.true_and] at h1
            rw [← Hin.out]; exact h1.symm
           clear Hin Hrel Hout Ho hok1
           go_wp2
           go_roundw
           case rel => exact ⟨j + 1, by omega, by simp, hin2, hB3⟩
           case measure => simp [intOf]; omega
          | false =>
           have Hbad : Hid (rightL ls = false) := by
            show rightL ls = false
            have h1 : xl.all okI = false := by
             rw [← Hin.out, drop_all okI xl j _ hy.out]
             rw [Ho.out]; rfl
            have h2 := Hout.out
            try dsimp only at h2
            rw [h1, Bool.false_and] at h2
            rw [← Hrel.out]; exact h2
           clear Hin Hout Hrel Ho hok1
           go_wp2
           go_ret
           exact ⟨by rw [Hbad.out]; rfl, hB3⟩
         ·subst ha
          have Hbad : Hid (rightL ls = false) := by
           show rightL ls = false
           have h1 : xl.all okI = false := by
            rw [← Hin.out, drop_all okI xl j _ hy.out]
            rw [show okI _ = false by simp [okI, hd0]]; rfl
           have h2 := Hout.out
           try dsimp only at h2
           rw [h1, Bool.false_and] at h2
           rw [← Hrel.out]; exact h2
          clear Hin Hout Hrel
          go_wp2_with fail
          skip
          all_goals (go_wp2; go_ret; first | exact ⟨by rw [Hbad.out]; rfl, hB2.alloc hB2.size _⟩ | exact ⟨by rw [Hbad.out]; rfl, (hB2.alloc hB2.size _).alloc (hB2.alloc hB2.size _).size _⟩ | exact ⟨by rw [Hbad.out]; rfl, ((hB2.alloc hB2.size _).drew).alloc (hB2.alloc hB2.size _).size _⟩ | exact ⟨by rw [Hbad.out]; rfl, ((hB2.alloc hB2.size _).alloc (hB2.alloc hB2.size _).size _).drew⟩)
        ·have Hbad : Hid (rightL ls = false) := by
          show rightL ls = false
          have h1 : xl.all okI = false := by
           rw [← Hin.out, drop_all okI xl j _ hy.out]
           rw [show okI _ = false by simp [okI, ha]]; rfl
          have h2 := Hout.out
          try dsimp only at h2
          rw [h1, Bool.false_and] at h2
          rw [← Hrel.out]; exact h2
         clear Hin Hout Hrel
         go_wp2_with fail
         skip
         all_goals (go_wp2; go_ret; first | exact ⟨by rw [Hbad.out]; rfl, hB2.alloc hB2.size _⟩ | exact ⟨by rw [Hbad.out]; rfl, (hB2.alloc hB2.size _).alloc (hB2.alloc hB2.size _).size _⟩ | exact ⟨by rw [Hbad.out]; rfl, ((hB2.alloc hB2.size _).drew).alloc (hB2.alloc hB2.size _).size _⟩ | exact ⟨by rw [Hbad.out]; rfl, ((hB2.alloc hB2.size _).alloc (hB2.alloc hB2.size _).size _).drew⟩)
       ·by_cases k4 : q = 4
        ·subst k4
         clear k1 k2 k3
         by_cases ht0 : t.toList = []
         ·have te := toList_nil ht0
          subst te
          clear ht0
          by_cases hd0 : (0 : Int) = d
          ·subst hd0
           by_cases ha0 : a = 0
           ·subst ha0
            have hok1 : Hid (okI ⟨4, 0, ⟨#[]⟩, 0⟩ = tS ⟨#[]⟩) := by show _ = _; simp [okI]
            have e01 : bits .and .i64 0 1 = 0 := by decide +kernel
            go_wp2_with fail
            skip
            go_wp2_with fail
            refine (texts_any _ _ (T8.out.keep (by first | exact hB2 | exact (hB2.alloc hB2.size _).alloc (hB2.alloc hB2.size _).size _ | exact ((hB2.alloc hB2.size _).drew).alloc (hB2.alloc hB2.size _).size _ | exact ((hB2.alloc hB2.size _).alloc (hB2.alloc hB2.size _).size _).drew)) (Nat.lt_of_le_of_lt hsz (by decide))).mono ?_
            rintro e w3 ⟨rfl, hb3⟩
            have hB3 : Below w.heap.size w w3 := by first | exact chain0 hB2 (chain2 (Below.refl _ _) hb3) | exact chain hB2 hB2.size (Below.trans (((Below.refl wr.heap.size wr).alloc (Nat.le_refl _) _).alloc (by simp) _).drew (hb3.mono (by simp; omega)))
            clear hb3
            have ho := hok1.out
            generalize tS _ = v at ho ⊢
            have Ho := hide ho
            clear ho
            cases v with
            | true =>
             have hin2 : Hid ((xl.drop (j + 1)).all okI = xl.all okI) := by
              show _ = _
              have h1 := drop_all okI xl j _ hy.out
              rw [Ho.out, Bool.true_and] at h1
              rw [← Hin.out]; exact h1.symm
             clear Hin Hrel Hout Ho hok1
             go_wp2
             go_roundw
             case rel => exact ⟨j + 1, by omega, by simp, hin2, hB3⟩
             case measure => simp [intOf]; omega
            | false =>
             have Hbad : Hid (rightL ls = false) := by
              show rightL ls = false
              have h1 : xl.all okI = false := by
               rw [← Hin.out, drop_all okI xl j _ hy.out]
               rw [Ho.out]; rfl
              have h2 := Hout.out
              try dsimp only at h2
              rw [h1, Bool.false_and] at h2
              rw [← Hrel.out]; exact h2
             clear Hin Hout Hrel Ho hok1
             go_wp2
             go_ret
             exact ⟨by rw [Hbad.out]; rfl, hB3⟩
           ·by_cases ha1 : a = 1
            ·subst ha1
             have hok1 : Hid (okI ⟨4, 1, ⟨#[]⟩, 0⟩ = tS ⟨#[]⟩) := by show _ = _; simp [okI]
             have e01 : bits .and .i64 1 1 = 1 := by decide +kernel
             go_wp2_with fail
             skip
             go_wp2_with fail
             refine (texts_any _ _ (T8.out.keep (by first | exact hB2 | exact (hB2.alloc hB2.size _).alloc (hB2.alloc hB2.size _).size _ | exact ((hB2.alloc hB2.size _).drew).alloc (hB2.alloc hB2.size _).size _ | exact ((hB2.alloc hB2.size _).alloc (hB2.alloc hB2.size _).size _).drew)) (Nat.lt_of_le_of_lt hsz (by decide))).mono ?_
             rintro e w3 ⟨rfl, hb3⟩
             have hB3 : Below w.heap.size w w3 := by first | exact chain0 hB2 (chain2 (Below.refl _ _) hb3) | exact chain hB2 hB2.size (Below.trans (((Below.refl wr.heap.size wr).alloc (Nat.le_refl _) _).alloc (by simp) _).drew (hb3.mono (by simp; omega)))
             clear hb3
             have ho := hok1.out
             generalize tS _ = v at ho ⊢
             have Ho := hide ho
             clear ho
             cases v with
             | true =>
              have hin2 : Hid ((xl.drop (j + 1)).all okI = xl.all okI) := by
               show _ = _
               have h1 := drop_all okI xl j _ hy.out
               rw [Ho.out, Bool.true_and] at h1
               rw [← Hin.out]; exact h1.symm
              clear Hin Hrel Hout Ho hok1
              go_wp2
              go_roundw
              case rel => exact ⟨j + 1, by omega, by simp, hin2, hB3⟩
              case measure => simp [intOf]; omega
             | false =>
              have Hbad : Hid (rightL ls = false) := by
               show rightL ls = false
               have h1 : xl.all okI = false := by
                rw [← Hin.out, drop_all okI xl j _ hy.out]
                rw [Ho.out]; rfl
               have h2 := Hout.out
               try dsimp only at h2
               rw [h1, Bool.false_and] at h2
               rw [← Hrel.out]; exact h2
              clear Hin Hout Hrel Ho hok1
              go_wp2
              go_ret
              exact ⟨by rw [Hbad.out]; rfl, hB3⟩
            ·have ha2 : ¬ bits .and .i64 a 1 = a := and1_other ha0 ha1
             have Hbad : Hid (rightL ls = false) := by
              show rightL ls = false
              have h1 : xl.all okI = false := by
               rw [← Hin.out, drop_all okI xl j _ hy.out]
               rw [show okI _ = false by simp [okI, ha0, ha1]]; rfl
              have h2 := Hout.out
              try dsimp only at h2
              rw [h1, Bool.false_and] at h2
              rw [← Hrel.out]; exact h2
             clear Hin Hout Hrel
             go_wp2_with fail
             skip
             all_goals (go_wp2; go_ret; first | exact ⟨by rw [Hbad.out]; rfl, hB2.alloc hB2.size _⟩ | exact ⟨by rw [Hbad.out]; rfl, (hB2.alloc hB2.size _).alloc (hB2.alloc hB2.size _).size _⟩ | exact ⟨by rw [Hbad.out]; rfl, ((hB2.alloc hB2.size _).drew).alloc (hB2.alloc hB2.size _).size _⟩ | exact ⟨by rw [Hbad.out]; rfl, ((hB2.alloc hB2.size _).alloc (hB2.alloc hB2.size _).size _).drew⟩)
          ·have Hbad : Hid (rightL ls = false) := by
            show rightL ls = false
            have h1 : xl.all okI = false := by
             rw [← Hin.out, drop_all okI xl j _ hy.out]
             rw [show okI _ = false by simp [okI, hd0]]; rfl
            have h2 := Hout.out
            try dsimp only at h2
            rw [h1, Bool.false_and] at h2
            rw [← Hrel.out]; exact h2
           clear Hin Hout Hrel
           go_wp2_with fail
           skip
           all_goals (go_wp2; go_ret; first | exact ⟨by rw [Hbad.out]; rfl, hB2.alloc hB2.size _⟩ | exact ⟨by rw [Hbad.out]; rfl, (hB2.alloc hB2.size _).alloc (hB2.alloc hB2.size _).size _⟩ | exact ⟨by rw [Hbad.out]; rfl, ((hB2.alloc hB2.size _).drew).alloc (hB2.alloc hB2.size _).size _⟩ | exact ⟨by rw [Hbad.out]; rfl, ((hB2.alloc hB2.size _).alloc (hB2.alloc hB2.size _).size _).drew⟩)
         ·have Hbad : Hid (rightL ls = false) := by
           show rightL ls = false
           have h1 : xl.all okI = false := by
            rw [← Hin.out, drop_all okI xl j _ hy.out]
            rw [show okI _ = false by simp [okI, ht0]]; rfl
           have h2 := Hout.out
           try dsimp only at h2
           rw [h1, Bool.false_and] at h2
           rw [← Hrel.out]; exact h2
          clear Hin Hout Hrel
          go_wp2_with fail
          skip
          all_goals (go_wp2; go_ret; first | exact ⟨by rw [Hbad.out]; rfl, hB2.alloc hB2.size _⟩ | exact ⟨by rw [Hbad.out]; rfl, (hB2.alloc hB2.size _).alloc (hB2.alloc hB2.size _).size _⟩ | exact ⟨by rw [Hbad.out]; rfl, ((hB2.alloc hB2.size _).drew).alloc (hB2.alloc hB2.size _).size _⟩ | exact ⟨by rw [Hbad.out]; rfl, ((hB2.alloc hB2.size _).alloc (hB2.alloc hB2.size _).size _).drew⟩)
        ·have f1 : ((q : Int) == 1) = false := by simpa using (show (q : Int) ≠ 1 by omega)
         have f2 : ((q : Int) == 2) = false := by simpa using (show (q : Int) ≠ 2 by omega)
         have f3 : ((q : Int) == 3) = false := by simpa using (show (q : Int) ≠ 3 by omega)
         have f4 : ((q : Int) == 4) = false := by simpa using (show (q : Int) ≠ 4 by omega)
         have Hbad : Hid (rightL ls = false) := by
          show rightL ls = false
          have h1 : xl.all okI = false := by
           rw [← Hin.out, drop_all okI xl j _ hy.out]
           rw [show okI _ = false by simp [okI, k1, k2, k3, k4]]; rfl
          have h2 := Hout.out
          try dsimp only at h2
          rw [h1, Bool.false_and] at h2
          rw [← Hrel.out]; exact h2
         clear Hin Hout Hrel
         go_wp2_with fail
         skip
         all_goals (go_wp2; go_ret; first | exact ⟨by rw [Hbad.out]; rfl, hB2.alloc hB2.size _⟩ | exact ⟨by rw [Hbad.out]; rfl, (hB2.alloc hB2.size _).alloc (hB2.alloc hB2.size _).size _⟩ | exact ⟨by rw [Hbad.out]; rfl, ((hB2.alloc hB2.size _).drew).alloc (hB2.alloc hB2.size _).size _⟩ | exact ⟨by rw [Hbad.out]; rfl, ((hB2.alloc hB2.size _).alloc (hB2.alloc hB2.size _).size _).drew⟩)
    ·have hI2 : ¬ (j : Int) < (m : Int) := by omega
     have hdone : Hid (rightL (ls.drop (k + 1)) = rightL ls) := by
      show _ = _
      have h1 : xl.all okI = true := by rw [← Hin.out]; exact drop_end _ _ _ (by have := Hm.out; omega)
      have h2 := Hout.out
      try dsimp only at h2
      rw [h1, Bool.true_and] at h2
      rw [← Hrel.out]; exact h2.symm
     clear Hin Hout Hrel
     go_wp2
     go_roundw
     case rel => exact ⟨k + 1, by omega, by simp, hdone, hB2⟩
     case measure => simp [intOf]; omega
  ·have hI : ¬ (k : Int) < (n : Int) := by omega
   have hall : Hid (rightL ls = true) := by
    show rightL ls = true
    rw [← Hrel.out]
    exact drop_end _ _ _ (by have := Hn.out; omega)
   go_wp2
   go_ret
   exact ⟨by rw [hall.out]; rfl, hB⟩
end Go.Proofs.YtmhnndgnnpondaaGreatDoor
namespace Go.Proofs.YtmhnndgnnpondaaGreatDoor
open Go.RowKit
section
variable {H : Type} {enc : TypeId × Value → H} {w : World} {base : Nat} {sp : Nat → Bool} {held : Bool}
set_option maxRecDepth 100000 in
theorem it_cells {fuel : Nat} {cs : List Value} {d : DataW H} {p : List MemPlace} (h : DataW.trod enc Tryz.prog w base sp held fuel 31 cs = some (d, p)) :
  ∃ x : It, cs = itC x ∧ x.text.size ∈ d.weights Tryz.prog 31 := by
 obtain ⟨xs, n, _, hx, hl, hn, hf⟩ := DataW.trod_struct Tryz.underlying31 h
 have hl4 : cs.length = 4 := hl.trans (by kernel_rfl)
 have f0 : DataW.trod enc Tryz.prog w base sp held n 29 (List.take (Tryz.prog.cellsOf 29) (List.drop 0 cs)) = xs[0]? := hf 0 _ rfl
 have f1 : DataW.trod enc Tryz.prog w base sp held n 2 (List.take (Tryz.prog.cellsOf 2) (List.drop 1 cs)) = xs[1]? := hf 1 _ rfl
 have f2 : DataW.trod enc Tryz.prog w base sp held n 9 (List.take (Tryz.prog.cellsOf 9) (List.drop 2 cs)) = xs[2]? := hf 2 _ rfl
 have f3 : DataW.trod enc Tryz.prog w base sp held n 3 (List.take (Tryz.prog.cellsOf 3) (List.drop 3 cs)) = xs[3]? := hf 3 _ rfl
 have c0 : Tryz.prog.cellsOf 29 = 1 := by kernel_rfl
 have c1 : Tryz.prog.cellsOf 2 = 1 := by kernel_rfl
 have c2 : Tryz.prog.cellsOf 9 = 1 := by kernel_rfl
 have c3 : Tryz.prog.cellsOf 3 = 1 := by kernel_rfl
 obtain ⟨x0, x1, x2, x3, rfl⟩ : ∃ x0 x1 x2 x3, cs = [x0, x1, x2, x3] := by
  match cs, hl4 with
  | [x0, x1, x2, x3], _ => exact ⟨_, _, _, _, rfl⟩
 obtain ⟨y0, y1, y2, y3, rfl⟩ : ∃ y0 y1 y2 y3, xs = [y0, y1, y2, y3] := by
  match xs, hn with
  | [y0, y1, y2, y3], _ => exact ⟨_, _, _, _, rfl⟩
 simp only [c0, c1, c2, c3, List.drop_zero, List.drop_succ_cons, List.take_succ_cons, List.take_zero, List.getElem?_cons_zero, List.getElem?_cons_succ] at f0 f1 f2 f3
 obtain ⟨n0, e0, g0, w0⟩ := DataW.trod_int Tryz.underlying29 f0
 obtain ⟨n1, e1, g1, _⟩ := DataW.trod_int Tryz.underlying2 f1
 obtain ⟨s2, e2, g2, _⟩ := DataW.trod_string Tryz.underlying9 f2
 obtain ⟨n3, e3, g3, _⟩ := DataW.trod_int Tryz.underlying3 f3
 subst g0 g1 g2 g3
 simp only [List.cons.injEq, and_true] at e0 e1 e2 e3
 subst e0 e1 e2 e3
 obtain ⟨q, hq⟩ := Int.eq_ofNat_of_zero_le (show 0 ≤ n0 from (bounds_u8 w0).1)
 subst hq
 refine ⟨⟨q, n1, s2, n3⟩, rfl, ?_⟩
 have hd := congrArg Prod.fst hx
 simp only [List.map_cons, List.map_nil] at hd
 subst hd
 have hw : DataW.weights Tryz.prog 31 (.agg [.lit (.int .u8 (q : Int)), .lit (.int .i64 n1), .lit (.string s2.data.toList), .lit (.int .i64 n3)] : DataW H) = [s2.data.toList.length] := by
  unfold DataW.weights
  rw [Tryz.underlying31]
  rfl
 show s2.size ∈ DataW.weights Tryz.prog 31 _
 have hz : s2.data.toList.length = s2.size := Array.length_toList
 exact hw ▸ (by rw [hz]; exact List.mem_singleton.2 rfl)
end
theorem weights_all {H : Type} {P : Program} {e : TypeId} : ∀ {l : List (DataW H)} {d : DataW H}, d ∈ l → ∀ n ∈ d.weights P e, n ∈ DataW.weightsAll P e l
 | x :: r, d, hd, n, hn => by
  unfold DataW.weightsAll
  rw [List.mem_append]
  rcases List.mem_cons.1 hd with rfl | hd
  ·exact .inl hn
  ·exact .inr (weights_all hd n hn)
theorem add_add (x : Addr) (a b : Nat) : (x.add a).add b = x.add (a + b) := by
 unfold Addr.add
 by_cases ha : a = 0
 ·subst ha; simp
 ·by_cases hb : b = 0
  ·subst hb; simp
  ·have hab : ¬ a + b = 0 := by omega
   simp [ha, hb, Nat.add_assoc]
theorem items_list (w : World) (x : Addr) : ∀ n : Nat, (∀ i, i < n → ∃ y : It, (∀ j, j < 4 → w.cell? (x.add (i * 4 + j)) = (itC y)[j]?) ∧ y.text.size ≤ 140737488355328) →
  ∃ l : List It, l.length = n ∧ (∀ i y, l[i]? = some y → ∀ j, j < 4 → w.cell? (x.add (i * 4 + j)) = (itC y)[j]?) ∧ ∀ y ∈ l, y.text.size ≤ 140737488355328
 | 0, _ => ⟨[], rfl, fun i y h => by simp at h, fun y h => by cases h⟩
 | n + 1, h => by
  obtain ⟨l, hl, hc, hs⟩ := items_list w x n fun i hi => h i (by omega)
  obtain ⟨y, hy, hys⟩ := h n (by omega)
  refine ⟨l ++ [y], by simp [hl], fun i z hz => ?_, fun z hz => ?_⟩
  ·by_cases hi : i < n
   ·rw [List.getElem?_append_left (by omega)] at hz
    exact hc i z hz
   ·have hi2 : i = n := by
     have := (List.getElem?_eq_some_iff.1 hz).1
     simp [hl] at this; omega
    subst hi2
    rw [List.getElem?_append_right (by omega), hl] at hz
    simp at hz
    subst hz
    exact hy
  ·rcases List.mem_append.1 hz with hz | hz
   ·exact hs z hz
   ·rw [List.mem_singleton] at hz; subst hz; exact hys
theorem icells_at : ∀ (l : List It) (t : Nat) (u : Value), (icells l)[t]? = some u → ∃ i j y, t = i * 4 + j ∧ j < 4 ∧ l[i]? = some y ∧ (itC y)[j]? = some u
 | [], t, u, h => by simp [icells] at h
 | x :: l, t, u, h => by
  rw [icells_cons] at h
  by_cases ht : t < 4
  ·rw [List.getElem?_append_left (by simp [itC]; omega)] at h
   exact ⟨0, t, x, by omega, ht, rfl, h⟩
  ·rw [List.getElem?_append_right (by simp [itC]; omega)] at h
   obtain ⟨i, j, y, h1, h2, h3, h4⟩ := icells_at l _ u h
   have : (itC x).length = 4 := rfl
   exact ⟨i + 1, j, y, by omega, h2, by simpa using h3, h4⟩
theorem items_of {H : Type} {enc : TypeId × Value → H} {W : World} {d : DataW H} {p : List MemPlace} {a : Option Addr} {n c : Nat} (h : DataW.Trod enc Tryz.prog W 0 (fun _ => true) true 22 (.slice a n c) d p)
  (hsz : ∀ k ∈ d.weights Tryz.prog 22, k ≤ reachBytes) : ∃ l : List It, n = l.length ∧ OkA W ⟨a, l, c⟩ := by
 obtain ⟨fuel, hf⟩ := h
 rcases Go.Deep.open_slice Tryz.underlying22 hf with ⟨hcs, _⟩ | ⟨x, len, cap, m, k, D, Pl, hcs, _, hle, _, hm, hx, hel⟩
 ·simp [Value.cells] at hcs
  obtain ⟨rfl, rfl, rfl⟩ := hcs
  exact ⟨[], rfl, .inl rfl, fun y hy => (by cases hy), (by decide)⟩
 ·simp [Value.cells] at hcs
  obtain ⟨rfl, rfl, rfl⟩ := hcs
  have hm2 : c = m := by simpa using hm.symm
  clear hm
  subst hm2
  have c4 : Tryz.prog.cellsOf 31 = 4 := by kernel_rfl
  have b40 : Tryz.prog.bytesOf 31 = 40 := by kernel_rfl
  have hd := congrArg Prod.fst hx
  simp only at hd
  subst hd
  have hu := Tryz.underlying22
  have hw : DataW.weights Tryz.prog 22 (.slice ((List.range n).map D) ((List.range (c - n)).map fun j => D (n + j)) : DataW H) = (((List.range n).map D).length + ((List.range (c - n)).map fun j => D (n + j)).length) * Tryz.prog.bytesOf 31 :: (DataW.weightsAll Tryz.prog 31 ((List.range n).map D) ++ DataW.weightsAll Tryz.prog 31 ((List.range (c - n)).map fun j => D (n + j))) := by
   conv => lhs; unfold DataW.weights
   rw [hu]
  rw [hw] at hsz
  have hn := hsz _ (List.mem_cons_self ..)
  rw [b40] at hn
  simp [reachBytes] at hn
  have hit : ∀ i, i < n → ∃ y : It, (∀ j, j < 4 → W.cell? (x.add (i * 4 + j)) = (itC y)[j]?) ∧ y.text.size ≤ 140737488355328 := by
   intro i hi
   obtain ⟨cs', h1, h2⟩ := hel i (by omega)
   rw [c4] at h1
   obtain ⟨_, hl4, hcell⟩ := World.cells?_some h1
   obtain ⟨y, hy, hyw⟩ := it_cells h2
   refine ⟨y, fun j hj => ?_, ?_⟩
   ·rw [← hy, ← hcell j hj, add_add]
   ·have hin : y.text.size ∈ DataW.weightsAll Tryz.prog 31 ((List.range n).map D) := weights_all (List.mem_map.2 ⟨i, List.mem_range.2 hi, rfl⟩) _ hyw
    have := hsz _ (List.mem_cons_of_mem _ (List.mem_append_left _ hin))
    simp [reachBytes] at this
    omega
  obtain ⟨l, hl, hc, hs⟩ := items_list W x n hit
  refine ⟨l, hl.symm, ?_, hs, by rw [hl]; omega⟩
  by_cases h0 : l = []
  ·subst h0; exact .inl rfl
  ·obtain ⟨y0, hy0⟩ : ∃ y0, l[0]? = some y0 := by
    cases l with
    | nil => exact absurd rfl h0
    | cons y r => exact ⟨y, rfl⟩
   have hc0 := hc 0 y0 hy0 0 (by decide)
   obtain ⟨b, off, spot⟩ := x
   have hspot : spot = none := by simpa [Addr.add, itC] using World.cell?_spot (hc0.trans rfl)
   subst hspot
   have hb : b < W.heap.size := by
    rcases Nat.lt_or_ge b W.heap.size with h | h
    ·exact h
    ·simp [Addr.add, World.cell?, Array.getElem?_eq_none h, itC] at hc0
   refine .inr ⟨b, off, rfl, hb, fun t u ht => ?_⟩
   obtain ⟨i, j, y, rfl, hj, hy, hu⟩ := icells_at l t u ht
   have := hc i y hy j hj
   rw [addr_add] at this
   rw [this, hu]
end Go.Proofs.YtmhnndgnnpondaaGreatDoor
namespace Go.Proofs.YtmhnndgnnpondaaGreatDoor
open Go.RowKit
theorem bounds_i64 {n : Int} (h : (Lit.int .i64 n).wf = true) : R64 n := by
 unfold Lit.wf at h
 simp only [Bool.and_eq_true, decide_eq_true_eq] at h
 exact ⟨h.1, h.2⟩
section
variable {H : Type} {enc : TypeId × Value → H} {w : World} {base : Nat} {sp : Nat → Bool} {held : Bool}
set_option maxRecDepth 100000 in
theorem it_cells2 {fuel : Nat} {cs : List Value} {d : DataW H} {p : List MemPlace} (h : DataW.trod enc Tryz.prog w base sp held fuel 31 cs = some (d, p)) :
  ∃ x : It, cs = itC x ∧ x.text.size ∈ d.weights Tryz.prog 31 ∧ R64 x.num := by
 obtain ⟨xs, n, _, hx, hl, hn, hf⟩ := DataW.trod_struct Tryz.underlying31 h
 have hl4 : cs.length = 4 := hl.trans (by kernel_rfl)
 have f0 : DataW.trod enc Tryz.prog w base sp held n 29 (List.take (Tryz.prog.cellsOf 29) (List.drop 0 cs)) = xs[0]? := hf 0 _ rfl
 have f1 : DataW.trod enc Tryz.prog w base sp held n 2 (List.take (Tryz.prog.cellsOf 2) (List.drop 1 cs)) = xs[1]? := hf 1 _ rfl
 have f2 : DataW.trod enc Tryz.prog w base sp held n 9 (List.take (Tryz.prog.cellsOf 9) (List.drop 2 cs)) = xs[2]? := hf 2 _ rfl
 have f3 : DataW.trod enc Tryz.prog w base sp held n 3 (List.take (Tryz.prog.cellsOf 3) (List.drop 3 cs)) = xs[3]? := hf 3 _ rfl
 have c0 : Tryz.prog.cellsOf 29 = 1 := by kernel_rfl
 have c1 : Tryz.prog.cellsOf 2 = 1 := by kernel_rfl
 have c2 : Tryz.prog.cellsOf 9 = 1 := by kernel_rfl
 have c3 : Tryz.prog.cellsOf 3 = 1 := by kernel_rfl
 obtain ⟨x0, x1, x2, x3, rfl⟩ : ∃ x0 x1 x2 x3, cs = [x0, x1, x2, x3] := by
  match cs, hl4 with
  | [x0, x1, x2, x3], _ => exact ⟨_, _, _, _, rfl⟩
 obtain ⟨y0, y1, y2, y3, rfl⟩ : ∃ y0 y1 y2 y3, xs = [y0, y1, y2, y3] := by
  match xs, hn with
  | [y0, y1, y2, y3], _ => exact ⟨_, _, _, _, rfl⟩
 simp only [c0, c1, c2, c3, List.drop_zero, List.drop_succ_cons, List.take_succ_cons, List.take_zero, List.getElem?_cons_zero, List.getElem?_cons_succ] at f0 f1 f2 f3
 obtain ⟨n0, e0, g0, w0⟩ := DataW.trod_int Tryz.underlying29 f0
 obtain ⟨n1, e1, g1, w1⟩ := DataW.trod_int Tryz.underlying2 f1
 obtain ⟨s2, e2, g2, _⟩ := DataW.trod_string Tryz.underlying9 f2
 obtain ⟨n3, e3, g3, _⟩ := DataW.trod_int Tryz.underlying3 f3
 subst g0 g1 g2 g3
 simp only [List.cons.injEq, and_true] at e0 e1 e2 e3
 subst e0 e1 e2 e3
 obtain ⟨q, hq⟩ := Int.eq_ofNat_of_zero_le (show 0 ≤ n0 from (bounds_u8 w0).1)
 subst hq
 refine ⟨⟨q, n1, s2, n3⟩, rfl, ?_, bounds_i64 w1⟩
 have hd := congrArg Prod.fst hx
 simp only [List.map_cons, List.map_nil] at hd
 subst hd
 have hw : DataW.weights Tryz.prog 31 (.agg [.lit (.int .u8 (q : Int)), .lit (.int .i64 n1), .lit (.string s2.data.toList), .lit (.int .i64 n3)] : DataW H) = [s2.data.toList.length] := by
  unfold DataW.weights
  rw [Tryz.underlying31]
  rfl
 show s2.size ∈ DataW.weights Tryz.prog 31 _
 have hz : s2.data.toList.length = s2.size := Array.length_toList
 exact hw ▸ (by rw [hz]; exact List.mem_singleton.2 rfl)
end
theorem items_list2 (P : It → Prop) (w : World) (x : Addr) : ∀ n : Nat, (∀ i, i < n → ∃ y : It, (∀ j, j < 4 → w.cell? (x.add (i * 4 + j)) = (itC y)[j]?) ∧ P y) →
  ∃ l : List It, l.length = n ∧ (∀ i y, l[i]? = some y → ∀ j, j < 4 → w.cell? (x.add (i * 4 + j)) = (itC y)[j]?) ∧ ∀ y ∈ l, P y
 | 0, _ => ⟨[], rfl, fun i y h => by simp at h, fun y h => by cases h⟩
 | n + 1, h => by
  obtain ⟨l, hl, hc, hs⟩ := items_list2 P w x n fun i hi => h i (by omega)
  obtain ⟨y, hy, hys⟩ := h n (by omega)
  refine ⟨l ++ [y], by simp [hl], fun i z hz => ?_, fun z hz => ?_⟩
  ·by_cases hi : i < n
   ·rw [List.getElem?_append_left (by omega)] at hz
    exact hc i z hz
   ·have hi2 : i = n := by
     have := (List.getElem?_eq_some_iff.1 hz).1
     simp [hl] at this; omega
    subst hi2
    rw [List.getElem?_append_right (by omega), hl] at hz
    simp at hz
    subst hz
    exact hy
  ·rcases List.mem_append.1 hz with hz | hz
   ·exact hs z hz
   ·rw [List.mem_singleton] at hz; subst hz; exact hys
theorem items_of2 {H : Type} {enc : TypeId × Value → H} {W : World} {d : DataW H} {p : List MemPlace} {a : Option Addr} {n c : Nat} (h : DataW.Trod enc Tryz.prog W 0 (fun _ => true) true 22 (.slice a n c) d p)
  (hsz : ∀ k ∈ d.weights Tryz.prog 22, k ≤ reachBytes) : ∃ l : List It, n = l.length ∧ OkA W ⟨a, l, c⟩ ∧ ∀ y ∈ l, R64 y.num := by
 obtain ⟨fuel, hf⟩ := h
 rcases Go.Deep.open_slice Tryz.underlying22 hf with ⟨hcs, _⟩ | ⟨x, len, cap, m, k, D, Pl, hcs, _, hle, _, hm, hx, hel⟩
 ·simp [Value.cells] at hcs
  obtain ⟨rfl, rfl, rfl⟩ := hcs
  exact ⟨[], rfl, ⟨.inl rfl, fun y hy => (by cases hy), (by decide)⟩, fun y hy => (by cases hy)⟩
 ·simp [Value.cells] at hcs
  obtain ⟨rfl, rfl, rfl⟩ := hcs
  have hm2 : c = m := by simpa using hm.symm
  clear hm
  subst hm2
  have c4 : Tryz.prog.cellsOf 31 = 4 := by kernel_rfl
  have b40 : Tryz.prog.bytesOf 31 = 40 := by kernel_rfl
  have hd := congrArg Prod.fst hx
  simp only at hd
  subst hd
  have hu := Tryz.underlying22
  have hw : DataW.weights Tryz.prog 22 (.slice ((List.range n).map D) ((List.range (c - n)).map fun j => D (n + j)) : DataW H) = (((List.range n).map D).length + ((List.range (c - n)).map fun j => D (n + j)).length) * Tryz.prog.bytesOf 31 :: (DataW.weightsAll Tryz.prog 31 ((List.range n).map D) ++ DataW.weightsAll Tryz.prog 31 ((List.range (c - n)).map fun j => D (n + j))) := by
   conv => lhs; unfold DataW.weights
   rw [hu]
  rw [hw] at hsz
  have hn := hsz _ (List.mem_cons_self ..)
  rw [b40] at hn
  simp [reachBytes] at hn
  have hit : ∀ i, i < n → ∃ y : It, (∀ j, j < 4 → W.cell? (x.add (i * 4 + j)) = (itC y)[j]?) ∧ (y.text.size ≤ 140737488355328 ∧ R64 y.num) := by
   intro i hi
   obtain ⟨cs', h1, h2⟩ := hel i (by omega)
   rw [c4] at h1
   obtain ⟨_, hl4, hcell⟩ := World.cells?_some h1
   obtain ⟨y, hy, hyw, hyR⟩ := it_cells2 h2
   refine ⟨y, fun j hj => ?_, ?_, hyR⟩
   ·rw [← hy, ← hcell j hj, add_add]
   ·have hin : y.text.size ∈ DataW.weightsAll Tryz.prog 31 ((List.range n).map D) := weights_all (List.mem_map.2 ⟨i, List.mem_range.2 hi, rfl⟩) _ hyw
    have := hsz _ (List.mem_cons_of_mem _ (List.mem_append_left _ hin))
    simp [reachBytes] at this
    omega
  obtain ⟨l, hl, hc, hs2⟩ := items_list2 (fun y => y.text.size ≤ 140737488355328 ∧ R64 y.num) W x n hit
  have hs : ∀ y ∈ l, y.text.size ≤ 140737488355328 := fun y hy => (hs2 y hy).1
  refine ⟨l, hl.symm, ⟨?_, hs, by rw [hl]; omega⟩, fun y hy => (hs2 y hy).2⟩
  by_cases h0 : l = []
  ·subst h0; exact .inl rfl
  ·obtain ⟨y0, hy0⟩ : ∃ y0, l[0]? = some y0 := by
    cases l with
    | nil => exact absurd rfl h0
    | cons y r => exact ⟨y, rfl⟩
   have hc0 := hc 0 y0 hy0 0 (by decide)
   obtain ⟨b, off, spot⟩ := x
   have hspot : spot = none := by simpa [Addr.add, itC] using World.cell?_spot (hc0.trans rfl)
   subst hspot
   have hb : b < W.heap.size := by
    rcases Nat.lt_or_ge b W.heap.size with h | h
    ·exact h
    ·simp [Addr.add, World.cell?, Array.getElem?_eq_none h, itC] at hc0
   refine .inr ⟨b, off, rfl, hb, fun t u ht => ?_⟩
   obtain ⟨i, j, y, rfl, hj, hy, hu⟩ := icells_at l t u ht
   have := hc i y hy j hj
   rw [addr_add] at this
   rw [this, hu]
end Go.Proofs.YtmhnndgnnpondaaGreatDoor
