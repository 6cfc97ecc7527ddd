/- value.right at any rows of items. -/
import Derived.Test.YtmnmnnocgimcpaaGreatDoorTt
import Derived.Test.YtmnmnnocgimcpaaGreatDoorVh
import Derived.Test.YtmnmnnocgimcpaaGreatDoorVl
namespace Go.Proofs.YtmnmnnocgimcpaaGreatDoor
open Go.RowKit
/-- is an item right? -/
def okI (x : It) : Bool :=
  (if x.kind = 1 then decide ((0 : Int) = x.num) && decide (0 ≤ x.node)
   else if x.kind = 2 then decide (x.text.toList = []) && decide ((0 : Int) = x.node)
   else if x.kind = 3 then decide ((0 : Int) = x.num) && decide ((0 : Int) = x.node)
   else if x.kind = 4 then (decide (x.num = 0) || decide (x.num = 1)) && (decide (x.text.toList = []) && decide ((0 : Int) = x.node))
   else false) && tS x.text
theorem nil_toList : (⟨#[]⟩ : ByteArray).toList = [] := by rw [ByteArray.toList_eq]
theorem toList_nil {t : ByteArray} (h : t.toList = []) : t = ⟨#[]⟩ := by
  have : t.data.toList = [] := by rwa [ByteArray.toList_eq] at h
  apply ByteArray.ext
  apply Array.toList_inj.1
  simpa using this
def rightL (ls : List Lst) : Bool := ls.all fun x => x.l.all okI
/-- rows of items, wherever they lie; no text is longer than any machine bears -/
def OkA (w : World) (x : Lst) : Prop := RdI w x.a x.l ∧ (∀ y ∈ x.l, y.text.size ≤ 140737488355328) ∧ x.l.length < 9223372036854775807
def OkAs (w : World) (ls : List Lst) : Prop := ∀ x ∈ ls, OkA w x
theorem OkAs.keep {w w' : World} {ls : List Lst} (h : OkAs w ls) (hb : Below w.heap.size w w') : OkAs w' ls := fun x hx => ⟨(h x hx).1.keep hb, (h x hx).2⟩
theorem drop_all {α : Type} (f : α → Bool) (l : List α) (k : Nat) (x : α) (hx : l[k]? = some x) : (l.drop k).all f = (f x && (l.drop (k + 1)).all f) := by
  have h := (List.getElem?_eq_some_iff.1 hx)
  obtain ⟨h1, h2⟩ := h
  rw [List.drop_eq_getElem_cons h1, List.all_cons, h2]
theorem drop_end {α : Type} (f : α → Bool) (l : List α) (k : Nat) (h : ¬ k < l.length) : (l.drop k).all f = true := by
  rw [List.drop_eq_nil_of_le (by omega)]; rfl
theorem and1_other {a : Int} (h0 : a ≠ 0) (h1 : a ≠ 1) : bits .and .i64 a 1 ≠ a := by
  intro h
  rw [and_toInt] at h
  have h2 : (BitVec.ofInt 64 a &&& BitVec.ofInt 64 1).toNat ≤ 1 := by
    rw [BitVec.toNat_and]
    exact Nat.le_trans Nat.and_le_right (by decide)
  rw [BitVec.toInt_eq_toNat_cond] at h
  split at h <;> omega
set_option maxRecDepth 100000 in
set_option maxHeartbeats 8000000 in
theorem right_any (p : Option Addr) (n c : Nat) (ls : List Lst) (w : World) (ht8 : Tabs8 w) (hn : n = ls.length) (hle : n < 9223372036854775807) (hr : Rd w p (ls.map Lst.v)) (hok : OkAs w ls) :
    Calls Tryz.prog 26 #[.slice p n c] w fun e w' => e = .returned (.bool (rightL ls)) ∧ Below w.heap.size w w' := by
  have T8 := hide ht8
  have Hn := hide hn
  have Hr := hide hr
  have Hok := hide hok
  clear hn hr hok ht8
  go_enter Tryz.func26, Tryz.ntmps26
  go_wp2_with fail
  go_loopw [10] (fun i W => ∃ k : Nat, k ≤ n ∧ i = .int .i64 k ∧ Hid (rightL (ls.drop k) = rightL ls) ∧ Below w.heap.size w W) (fun i _ => n - (intOf i).toNat)
  case atStart => exact ⟨0, Nat.zero_le _, rfl, hide rfl, Below.refl _ _⟩
  case round =>
    obtain ⟨k, hk, rfl, Hrel, hB⟩ := hrel
    by_cases hlt : k < n
    · have hI : (k : Int) < (n : Int) := by omega
      obtain ⟨x, hx⟩ : ∃ x, ls[k]? = some x := ⟨_, List.getElem?_eq_getElem (by have := Hn.out; omega)⟩
      obtain ⟨b, off, rfl, hc⟩ := Hr.out.cellAt k x.v (by simp [hx])
      have hcell : wr.cell? ⟨b, off + k, none⟩ = some (.slice x.a x.l.length x.c) := cell_keep hB hc
      have hix := ix_row b off n c k hlt
      have hokx := hide (Hok.out x (List.mem_of_getElem? hx))
      have Hout := hide (drop_all (fun x : Lst => x.l.all okI) ls k x hx)
      clear hx hc
      obtain ⟨xa, xl, xc⟩ := x
      dsimp only at hcell
      obtain ⟨m, hm⟩ : ∃ m, m = xl.length := ⟨_, rfl⟩
      have hml : m < 9223372036854775807 := by rw [hm]; exact hokx.out.2.2
      rw [← hm] at hcell
      have Hm := hide hm
      clear hm
      go_wp2_with fail
      go_loopw [16] (fun i W => ∃ j : Nat, j ≤ m ∧ i = .int .i64 j ∧ Hid ((xl.drop j).all okI = xl.all okI) ∧ Below w.heap.size w W) (fun i _ => m - (intOf i).toNat)
      case atStart => exact ⟨0, Nat.zero_le _, rfl, hide rfl, hB⟩
      case round =>
        obtain ⟨j, hj, rfl, Hin, hB2⟩ := hrel
        by_cases hlj : j < m
        · have hI2 : (j : Int) < (m : Int) := by omega
          obtain ⟨y, hy⟩ : ∃ y, xl[j]? = some y := ⟨_, List.getElem?_eq_getElem (by have := Hm.out; omega)⟩
          obtain ⟨b2, off2, rfl, c0, c1, c2, c3⟩ := (hokx.out.1.keep hB2).at j y hy
          have hsz := hokx.out.2.1 y (List.mem_of_getElem? hy)
          have hix2 := ix_item b2 off2 m xc j hlj
          have hy := hide hy
          obtain ⟨q, a, t, d⟩ := y
          dsimp only at c0 c1 c2 c3 hsz
          by_cases k1 : q = 1
          · subst k1
            by_cases hd : d < 0
            · have hdd : ¬ 0 ≤ d := by omega
              have hdx : ¬ (0 : Int) = d := by omega
              have Hbad : Hid (rightL ls = false) := by
                show rightL ls = false
                have h1 : xl.all okI = false := by
                  rw [← Hin.out, drop_all okI xl j _ hy.out]
                  rw [show okI _ = false by simp [okI, hdd]]; rfl
                have h2 := Hout.out
                try dsimp only at h2
                rw [h1, Bool.false_and] at h2
                rw [← Hrel.out]; exact h2
              clear Hin Hout Hrel
              go_wp2_with fail
              go_region
              all_goals (go_wp2; go_ret; first | exact ⟨by rw [Hbad.out]; rfl, hB2.alloc hB2.size _⟩ | exact ⟨by rw [Hbad.out]; rfl, (hB2.alloc hB2.size _).alloc (hB2.alloc hB2.size _).size _⟩ | exact ⟨by rw [Hbad.out]; rfl, ((hB2.alloc hB2.size _).drew).alloc (hB2.alloc hB2.size _).size _⟩ | exact ⟨by rw [Hbad.out]; rfl, ((hB2.alloc hB2.size _).alloc (hB2.alloc hB2.size _).size _).drew⟩)
            · have hdd : 0 ≤ d := by omega
              by_cases ha : (0 : Int) = a
              · subst ha
                have hok1 : Hid (okI ⟨1, 0, t, d⟩ = tS t) := by show _ = _; simp [okI, hdd]
                go_wp2_with fail
                go_region
                go_wp2_with fail
                refine (texts_any _ _ (T8.out.keep (by first | exact hB2 | exact (hB2.alloc hB2.size _).alloc (hB2.alloc hB2.size _).size _ | exact ((hB2.alloc hB2.size _).drew).alloc (hB2.alloc hB2.size _).size _ | exact ((hB2.alloc hB2.size _).alloc (hB2.alloc hB2.size _).size _).drew)) (Nat.lt_of_le_of_lt hsz (by decide))).mono ?_
                rintro e w3 ⟨rfl, hb3⟩
                have hB3 : Below w.heap.size w w3 := by first | exact chain0 hB2 (chain2 (Below.refl _ _) hb3) | exact chain hB2 hB2.size (Below.trans (((Below.refl wr.heap.size wr).alloc (Nat.le_refl _) _).alloc (by simp) _).drew (hb3.mono (by simp; omega)))
                clear hb3
                have ho := hok1.out
                generalize tS _ = v at ho ⊢
                have Ho := hide ho
                clear ho
                cases v with
                | true =>
                  have hin2 : Hid ((xl.drop (j + 1)).all okI = xl.all okI) := by
                    show _ = _
                    have h1 := drop_all okI xl j _ hy.out
                    rw [Ho.out, Bool.true_and] at h1
                    rw [← Hin.out]; exact h1.symm
                  clear Hin Hrel Hout Ho hok1
                  go_wp2
                  go_roundw
                  case rel => exact ⟨j + 1, by omega, by simp, hin2, hB3⟩
                  case measure => simp [intOf]; omega
                | false =>
                  have Hbad : Hid (rightL ls = false) := by
                    show rightL ls = false
                    have h1 : xl.all okI = false := by
                      rw [← Hin.out, drop_all okI xl j _ hy.out]
                      rw [Ho.out]; rfl
                    have h2 := Hout.out
                    try dsimp only at h2
                    rw [h1, Bool.false_and] at h2
                    rw [← Hrel.out]; exact h2
                  clear Hin Hout Hrel Ho hok1
                  go_wp2
                  go_ret
                  exact ⟨by rw [Hbad.out]; rfl, hB3⟩
              · have Hbad : Hid (rightL ls = false) := by
                  show rightL ls = false
                  have h1 : xl.all okI = false := by
                    rw [← Hin.out, drop_all okI xl j _ hy.out]
                    rw [show okI _ = false by simp [okI, ha]]; rfl
                  have h2 := Hout.out
                  try dsimp only at h2
                  rw [h1, Bool.false_and] at h2
                  rw [← Hrel.out]; exact h2
                clear Hin Hout Hrel
                go_wp2_with fail
                go_region
                all_goals (go_wp2; go_ret; first | exact ⟨by rw [Hbad.out]; rfl, hB2.alloc hB2.size _⟩ | exact ⟨by rw [Hbad.out]; rfl, (hB2.alloc hB2.size _).alloc (hB2.alloc hB2.size _).size _⟩ | exact ⟨by rw [Hbad.out]; rfl, ((hB2.alloc hB2.size _).drew).alloc (hB2.alloc hB2.size _).size _⟩ | exact ⟨by rw [Hbad.out]; rfl, ((hB2.alloc hB2.size _).alloc (hB2.alloc hB2.size _).size _).drew⟩)
          · by_cases k2 : q = 2
            · subst k2
              clear k1
              by_cases ht0 : t.toList = []
              · by_cases hd0 : (0 : Int) = d
                · have te := toList_nil ht0
                  subst te
                  subst hd0
                  clear ht0
                  have hok1 : Hid (okI ⟨2, a, ⟨#[]⟩, 0⟩ = tS ⟨#[]⟩) := by show _ = _; simp [okI]
                  go_wp2_with fail
                  skip
                  go_wp2_with fail
                  refine (texts_any _ _ (T8.out.keep (by first | exact hB2 | exact (hB2.alloc hB2.size _).alloc (hB2.alloc hB2.size _).size _ | exact ((hB2.alloc hB2.size _).drew).alloc (hB2.alloc hB2.size _).size _ | exact ((hB2.alloc hB2.size _).alloc (hB2.alloc hB2.size _).size _).drew)) (Nat.lt_of_le_of_lt hsz (by decide))).mono ?_
                  rintro e w3 ⟨rfl, hb3⟩
                  have hB3 : Below w.heap.size w w3 := by first | exact chain0 hB2 (chain2 (Below.refl _ _) hb3) | exact chain hB2 hB2.size (Below.trans (((Below.refl wr.heap.size wr).alloc (Nat.le_refl _) _).alloc (by simp) _).drew (hb3.mono (by simp; omega)))
                  clear hb3
                  have ho := hok1.out
                  generalize tS _ = v at ho ⊢
                  have Ho := hide ho
                  clear ho
                  cases v with
                  | true =>
                    have hin2 : Hid ((xl.drop (j + 1)).all okI = xl.all okI) := by
                      show _ = _
                      have h1 := drop_all okI xl j _ hy.out
                      rw [Ho.out, Bool.true_and] at h1
                      rw [← Hin.out]; exact h1.symm
                    clear Hin Hrel Hout Ho hok1
                    go_wp2
                    go_roundw
                    case rel => exact ⟨j + 1, by omega, by simp, hin2, hB3⟩
                    case measure => simp [intOf]; omega
                  | false =>
                    have Hbad : Hid (rightL ls = false) := by
                      show rightL ls = false
                      have h1 : xl.all okI = false := by
                        rw [← Hin.out, drop_all okI xl j _ hy.out]
                        rw [Ho.out]; rfl
                      have h2 := Hout.out
                      try dsimp only at h2
                      rw [h1, Bool.false_and] at h2
                      rw [← Hrel.out]; exact h2
                    clear Hin Hout Hrel Ho hok1
                    go_wp2
                    go_ret
                    exact ⟨by rw [Hbad.out]; rfl, hB3⟩
                · have te := toList_nil ht0
                  subst te
                  clear ht0
                  have Hbad : Hid (rightL ls = false) := by
                    show rightL ls = false
                    have h1 : xl.all okI = false := by
                      rw [← Hin.out, drop_all okI xl j _ hy.out]
                      rw [show okI _ = false by simp [okI, hd0]]; rfl
                    have h2 := Hout.out
                    try dsimp only at h2
                    rw [h1, Bool.false_and] at h2
                    rw [← Hrel.out]; exact h2
                  clear Hin Hout Hrel
                  go_wp2_with fail
                  skip
                  all_goals (go_wp2; go_ret; first | exact ⟨by rw [Hbad.out]; rfl, hB2.alloc hB2.size _⟩ | exact ⟨by rw [Hbad.out]; rfl, (hB2.alloc hB2.size _).alloc (hB2.alloc hB2.size _).size _⟩ | exact ⟨by rw [Hbad.out]; rfl, ((hB2.alloc hB2.size _).drew).alloc (hB2.alloc hB2.size _).size _⟩ | exact ⟨by rw [Hbad.out]; rfl, ((hB2.alloc hB2.size _).alloc (hB2.alloc hB2.size _).size _).drew⟩)
              · have Hbad : Hid (rightL ls = false) := by
                  show rightL ls = false
                  have h1 : xl.all okI = false := by
                    rw [← Hin.out, drop_all okI xl j _ hy.out]
                    rw [show okI _ = false by simp [okI, ht0]]; rfl
                  have h2 := Hout.out
                  try dsimp only at h2
                  rw [h1, Bool.false_and] at h2
                  rw [← Hrel.out]; exact h2
                clear Hin Hout Hrel
                go_wp2_with fail
                skip
                all_goals (go_wp2; go_ret; first | exact ⟨by rw [Hbad.out]; rfl, hB2.alloc hB2.size _⟩ | exact ⟨by rw [Hbad.out]; rfl, (hB2.alloc hB2.size _).alloc (hB2.alloc hB2.size _).size _⟩ | exact ⟨by rw [Hbad.out]; rfl, ((hB2.alloc hB2.size _).drew).alloc (hB2.alloc hB2.size _).size _⟩ | exact ⟨by rw [Hbad.out]; rfl, ((hB2.alloc hB2.size _).alloc (hB2.alloc hB2.size _).size _).drew⟩)
            · by_cases k3 : q = 3
              · subst k3
                clear k1 k2
                by_cases ha : (0 : Int) = a
                · by_cases hd0 : (0 : Int) = d
                  · subst ha
                    subst hd0
                    have hok1 : Hid (okI ⟨3, 0, t, 0⟩ = tS t) := by show _ = _; simp [okI]
                    go_wp2_with fail
                    skip
                    go_wp2_with fail
                    refine (texts_any _ _ (T8.out.keep (by first | exact hB2 | exact (hB2.alloc hB2.size _).alloc (hB2.alloc hB2.size _).size _ | exact ((hB2.alloc hB2.size _).drew).alloc (hB2.alloc hB2.size _).size _ | exact ((hB2.alloc hB2.size _).alloc (hB2.alloc hB2.size _).size _).drew)) (Nat.lt_of_le_of_lt hsz (by decide))).mono ?_
                    rintro e w3 ⟨rfl, hb3⟩
                    have hB3 : Below w.heap.size w w3 := by first | exact chain0 hB2 (chain2 (Below.refl _ _) hb3) | exact chain hB2 hB2.size (Below.trans (((Below.refl wr.heap.size wr).alloc (Nat.le_refl _) _).alloc (by simp) _).drew (hb3.mono (by simp; omega)))
                    clear hb3
                    have ho := hok1.out
                    generalize tS _ = v at ho ⊢
                    have Ho := hide ho
                    clear ho
                    cases v with
                    | true =>
                      have hin2 : Hid ((xl.drop (j + 1)).all okI = xl.all okI) := by
                        show _ = _
                        have h1 := drop_all okI xl j _ hy.out
                        rw [Ho.out, Bool.true_and] at h1
                        rw [← Hin.out]; exact h1.symm
                      clear Hin Hrel Hout Ho hok1
                      go_wp2
                      go_roundw
                      case rel => exact ⟨j + 1, by omega, by simp, hin2, hB3⟩
                      case measure => simp [intOf]; omega
                    | false =>
                      have Hbad : Hid (rightL ls = false) := by
                        show rightL ls = false
                        have h1 : xl.all okI = false := by
                          rw [← Hin.out, drop_all okI xl j _ hy.out]
                          rw [Ho.out]; rfl
                        have h2 := Hout.out
                        try dsimp only at h2
                        rw [h1, Bool.false_and] at h2
                        rw [← Hrel.out]; exact h2
                      clear Hin Hout Hrel Ho hok1
                      go_wp2
                      go_ret
                      exact ⟨by rw [Hbad.out]; rfl, hB3⟩
                  · subst ha
                    have Hbad : Hid (rightL ls = false) := by
                      show rightL ls = false
                      have h1 : xl.all okI = false := by
                        rw [← Hin.out, drop_all okI xl j _ hy.out]
                        rw [show okI _ = false by simp [okI, hd0]]; rfl
                      have h2 := Hout.out
                      try dsimp only at h2
                      rw [h1, Bool.false_and] at h2
                      rw [← Hrel.out]; exact h2
                    clear Hin Hout Hrel
                    go_wp2_with fail
                    skip
                    all_goals (go_wp2; go_ret; first | exact ⟨by rw [Hbad.out]; rfl, hB2.alloc hB2.size _⟩ | exact ⟨by rw [Hbad.out]; rfl, (hB2.alloc hB2.size _).alloc (hB2.alloc hB2.size _).size _⟩ | exact ⟨by rw [Hbad.out]; rfl, ((hB2.alloc hB2.size _).drew).alloc (hB2.alloc hB2.size _).size _⟩ | exact ⟨by rw [Hbad.out]; rfl, ((hB2.alloc hB2.size _).alloc (hB2.alloc hB2.size _).size _).drew⟩)
                · have Hbad : Hid (rightL ls = false) := by
                    show rightL ls = false
                    have h1 : xl.all okI = false := by
                      rw [← Hin.out, drop_all okI xl j _ hy.out]
                      rw [show okI _ = false by simp [okI, ha]]; rfl
                    have h2 := Hout.out
                    try dsimp only at h2
                    rw [h1, Bool.false_and] at h2
                    rw [← Hrel.out]; exact h2
                  clear Hin Hout Hrel
                  go_wp2_with fail
                  skip
                  all_goals (go_wp2; go_ret; first | exact ⟨by rw [Hbad.out]; rfl, hB2.alloc hB2.size _⟩ | exact ⟨by rw [Hbad.out]; rfl, (hB2.alloc hB2.size _).alloc (hB2.alloc hB2.size _).size _⟩ | exact ⟨by rw [Hbad.out]; rfl, ((hB2.alloc hB2.size _).drew).alloc (hB2.alloc hB2.size _).size _⟩ | exact ⟨by rw [Hbad.out]; rfl, ((hB2.alloc hB2.size _).alloc (hB2.alloc hB2.size _).size _).drew⟩)
              · by_cases k4 : q = 4
                · subst k4
                  clear k1 k2 k3
                  by_cases ht0 : t.toList = []
                  · have te := toList_nil ht0
                    subst te
                    clear ht0
                    by_cases hd0 : (0 : Int) = d
                    · subst hd0
                      by_cases ha0 : a = 0
                      · subst ha0
                        have hok1 : Hid (okI ⟨4, 0, ⟨#[]⟩, 0⟩ = tS ⟨#[]⟩) := by show _ = _; simp [okI]
                        have e01 : bits .and .i64 0 1 = 0 := by decide +kernel
                        go_wp2_with fail
                        skip
                        go_wp2_with fail
                        refine (texts_any _ _ (T8.out.keep (by first | exact hB2 | exact (hB2.alloc hB2.size _).alloc (hB2.alloc hB2.size _).size _ | exact ((hB2.alloc hB2.size _).drew).alloc (hB2.alloc hB2.size _).size _ | exact ((hB2.alloc hB2.size _).alloc (hB2.alloc hB2.size _).size _).drew)) (Nat.lt_of_le_of_lt hsz (by decide))).mono ?_
                        rintro e w3 ⟨rfl, hb3⟩
                        have hB3 : Below w.heap.size w w3 := by first | exact chain0 hB2 (chain2 (Below.refl _ _) hb3) | exact chain hB2 hB2.size (Below.trans (((Below.refl wr.heap.size wr).alloc (Nat.le_refl _) _).alloc (by simp) _).drew (hb3.mono (by simp; omega)))
                        clear hb3
                        have ho := hok1.out
                        generalize tS _ = v at ho ⊢
                        have Ho := hide ho
                        clear ho
                        cases v with
                        | true =>
                          have hin2 : Hid ((xl.drop (j + 1)).all okI = xl.all okI) := by
                            show _ = _
                            have h1 := drop_all okI xl j _ hy.out
                            rw [Ho.out, Bool.true_and] at h1
                            rw [← Hin.out]; exact h1.symm
                          clear Hin Hrel Hout Ho hok1
                          go_wp2
                          go_roundw
                          case rel => exact ⟨j + 1, by omega, by simp, hin2, hB3⟩
                          case measure => simp [intOf]; omega
                        | false =>
                          have Hbad : Hid (rightL ls = false) := by
                            show rightL ls = false
                            have h1 : xl.all okI = false := by
                              rw [← Hin.out, drop_all okI xl j _ hy.out]
                              rw [Ho.out]; rfl
                            have h2 := Hout.out
                            try dsimp only at h2
                            rw [h1, Bool.false_and] at h2
                            rw [← Hrel.out]; exact h2
                          clear Hin Hout Hrel Ho hok1
                          go_wp2
                          go_ret
                          exact ⟨by rw [Hbad.out]; rfl, hB3⟩
                      · by_cases ha1 : a = 1
                        · subst ha1
                          have hok1 : Hid (okI ⟨4, 1, ⟨#[]⟩, 0⟩ = tS ⟨#[]⟩) := by show _ = _; simp [okI]
                          have e01 : bits .and .i64 1 1 = 1 := by decide +kernel
                          go_wp2_with fail
                          skip
                          go_wp2_with fail
                          refine (texts_any _ _ (T8.out.keep (by first | exact hB2 | exact (hB2.alloc hB2.size _).alloc (hB2.alloc hB2.size _).size _ | exact ((hB2.alloc hB2.size _).drew).alloc (hB2.alloc hB2.size _).size _ | exact ((hB2.alloc hB2.size _).alloc (hB2.alloc hB2.size _).size _).drew)) (Nat.lt_of_le_of_lt hsz (by decide))).mono ?_
                          rintro e w3 ⟨rfl, hb3⟩
                          have hB3 : Below w.heap.size w w3 := by first | exact chain0 hB2 (chain2 (Below.refl _ _) hb3) | exact chain hB2 hB2.size (Below.trans (((Below.refl wr.heap.size wr).alloc (Nat.le_refl _) _).alloc (by simp) _).drew (hb3.mono (by simp; omega)))
                          clear hb3
                          have ho := hok1.out
                          generalize tS _ = v at ho ⊢
                          have Ho := hide ho
                          clear ho
                          cases v with
                          | true =>
                            have hin2 : Hid ((xl.drop (j + 1)).all okI = xl.all okI) := by
                              show _ = _
                              have h1 := drop_all okI xl j _ hy.out
                              rw [Ho.out, Bool.true_and] at h1
                              rw [← Hin.out]; exact h1.symm
                            clear Hin Hrel Hout Ho hok1
                            go_wp2
                            go_roundw
                            case rel => exact ⟨j + 1, by omega, by simp, hin2, hB3⟩
                            case measure => simp [intOf]; omega
                          | false =>
                            have Hbad : Hid (rightL ls = false) := by
                              show rightL ls = false
                              have h1 : xl.all okI = false := by
                                rw [← Hin.out, drop_all okI xl j _ hy.out]
                                rw [Ho.out]; rfl
                              have h2 := Hout.out
                              try dsimp only at h2
                              rw [h1, Bool.false_and] at h2
                              rw [← Hrel.out]; exact h2
                            clear Hin Hout Hrel Ho hok1
                            go_wp2
                            go_ret
                            exact ⟨by rw [Hbad.out]; rfl, hB3⟩
                        · have ha2 : ¬ bits .and .i64 a 1 = a := and1_other ha0 ha1
                          have Hbad : Hid (rightL ls = false) := by
                            show rightL ls = false
                            have h1 : xl.all okI = false := by
                              rw [← Hin.out, drop_all okI xl j _ hy.out]
                              rw [show okI _ = false by simp [okI, ha0, ha1]]; rfl
                            have h2 := Hout.out
                            try dsimp only at h2
                            rw [h1, Bool.false_and] at h2
                            rw [← Hrel.out]; exact h2
                          clear Hin Hout Hrel
                          go_wp2_with fail
                          skip
                          all_goals (go_wp2; go_ret; first | exact ⟨by rw [Hbad.out]; rfl, hB2.alloc hB2.size _⟩ | exact ⟨by rw [Hbad.out]; rfl, (hB2.alloc hB2.size _).alloc (hB2.alloc hB2.size _).size _⟩ | exact ⟨by rw [Hbad.out]; rfl, ((hB2.alloc hB2.size _).drew).alloc (hB2.alloc hB2.size _).size _⟩ | exact ⟨by rw [Hbad.out]; rfl, ((hB2.alloc hB2.size _).alloc (hB2.alloc hB2.size _).size _).drew⟩)
                    · have Hbad : Hid (rightL ls = false) := by
                        show rightL ls = false
                        have h1 : xl.all okI = false := by
                          rw [← Hin.out, drop_all okI xl j _ hy.out]
                          rw [show okI _ = false by simp [okI, hd0]]; rfl
                        have h2 := Hout.out
                        try dsimp only at h2
                        rw [h1, Bool.false_and] at h2
                        rw [← Hrel.out]; exact h2
                      clear Hin Hout Hrel
                      go_wp2_with fail
                      skip
                      all_goals (go_wp2; go_ret; first | exact ⟨by rw [Hbad.out]; rfl, hB2.alloc hB2.size _⟩ | exact ⟨by rw [Hbad.out]; rfl, (hB2.alloc hB2.size _).alloc (hB2.alloc hB2.size _).size _⟩ | exact ⟨by rw [Hbad.out]; rfl, ((hB2.alloc hB2.size _).drew).alloc (hB2.alloc hB2.size _).size _⟩ | exact ⟨by rw [Hbad.out]; rfl, ((hB2.alloc hB2.size _).alloc (hB2.alloc hB2.size _).size _).drew⟩)
                  · have Hbad : Hid (rightL ls = false) := by
                      show rightL ls = false
                      have h1 : xl.all okI = false := by
                        rw [← Hin.out, drop_all okI xl j _ hy.out]
                        rw [show okI _ = false by simp [okI, ht0]]; rfl
                      have h2 := Hout.out
                      try dsimp only at h2
                      rw [h1, Bool.false_and] at h2
                      rw [← Hrel.out]; exact h2
                    clear Hin Hout Hrel
                    go_wp2_with fail
                    skip
                    all_goals (go_wp2; go_ret; first | exact ⟨by rw [Hbad.out]; rfl, hB2.alloc hB2.size _⟩ | exact ⟨by rw [Hbad.out]; rfl, (hB2.alloc hB2.size _).alloc (hB2.alloc hB2.size _).size _⟩ | exact ⟨by rw [Hbad.out]; rfl, ((hB2.alloc hB2.size _).drew).alloc (hB2.alloc hB2.size _).size _⟩ | exact ⟨by rw [Hbad.out]; rfl, ((hB2.alloc hB2.size _).alloc (hB2.alloc hB2.size _).size _).drew⟩)
                · have f1 : ((q : Int) == 1) = false := by simpa using (show (q : Int) ≠ 1 by omega)
                  have f2 : ((q : Int) == 2) = false := by simpa using (show (q : Int) ≠ 2 by omega)
                  have f3 : ((q : Int) == 3) = false := by simpa using (show (q : Int) ≠ 3 by omega)
                  have f4 : ((q : Int) == 4) = false := by simpa using (show (q : Int) ≠ 4 by omega)
                  have Hbad : Hid (rightL ls = false) := by
                    show rightL ls = false
                    have h1 : xl.all okI = false := by
                      rw [← Hin.out, drop_all okI xl j _ hy.out]
                      rw [show okI _ = false by simp [okI, k1, k2, k3, k4]]; rfl
                    have h2 := Hout.out
                    try dsimp only at h2
                    rw [h1, Bool.false_and] at h2
                    rw [← Hrel.out]; exact h2
                  clear Hin Hout Hrel
                  go_wp2_with fail
                  skip
                  all_goals (go_wp2; go_ret; first | exact ⟨by rw [Hbad.out]; rfl, hB2.alloc hB2.size _⟩ | exact ⟨by rw [Hbad.out]; rfl, (hB2.alloc hB2.size _).alloc (hB2.alloc hB2.size _).size _⟩ | exact ⟨by rw [Hbad.out]; rfl, ((hB2.alloc hB2.size _).drew).alloc (hB2.alloc hB2.size _).size _⟩ | exact ⟨by rw [Hbad.out]; rfl, ((hB2.alloc hB2.size _).alloc (hB2.alloc hB2.size _).size _).drew⟩)
        · have hI2 : ¬ (j : Int) < (m : Int) := by omega
          have hdone : Hid (rightL (ls.drop (k + 1)) = rightL ls) := by
            show _ = _
            have h1 : xl.all okI = true := by rw [← Hin.out]; exact drop_end _ _ _ (by have := Hm.out; omega)
            have h2 := Hout.out
            try dsimp only at h2
            rw [h1, Bool.true_and] at h2
            rw [← Hrel.out]; exact h2.symm
          clear Hin Hout Hrel
          go_wp2
          go_roundw
          case rel => exact ⟨k + 1, by omega, by simp, hdone, hB2⟩
          case measure => simp [intOf]; omega
    · have hI : ¬ (k : Int) < (n : Int) := by omega
      have hall : Hid (rightL ls = true) := by
        show rightL ls = true
        rw [← Hrel.out]
        exact drop_end _ _ _ (by have := Hn.out; omega)
      go_wp2
      go_ret
      exact ⟨by rw [hall.out]; rfl, hB⟩
end Go.Proofs.YtmnmnnocgimcpaaGreatDoor
