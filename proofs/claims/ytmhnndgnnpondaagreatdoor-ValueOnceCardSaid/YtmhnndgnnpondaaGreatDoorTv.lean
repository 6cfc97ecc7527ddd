/- unicode/utf8's ValidString at any text: what it answers hangs on the text alone. -/
import Derived.Test.YtmhnndgnnpondaaGreatDoorC01
import Derived.Test.YtmhnndgnnpondaaGreatDoorC00
import Derived.Lib.LaidU8
namespace Go.Proofs.YtmhnndgnnpondaaGreatDoor
open Go.RowKit
def vnum (t : ByteArray) : Nat :=
 if bt t 0 < 128 then 1
 else if Lib.firstT (bt t 0).toNat % 8 = 2 then (if t.size < 2 ∨ bt t 1 < Lib.accLo (Lib.firstT (bt t 0).toNat / 16) ∨ (Lib.accHi (Lib.firstT (bt t 0).toNat / 16) : Int) < bt t 1 then 0 else 2)
 else if Lib.firstT (bt t 0).toNat % 8 = 3 then (if t.size < 3 ∨ bt t 1 < Lib.accLo (Lib.firstT (bt t 0).toNat / 16) ∨ (Lib.accHi (Lib.firstT (bt t 0).toNat / 16) : Int) < bt t 1 ∨ bt t 2 < 128 ∨ 191 < bt t 2 then 0 else 3)
 else if Lib.firstT (bt t 0).toNat % 8 = 4 then (if t.size < 4 ∨ bt t 1 < Lib.accLo (Lib.firstT (bt t 0).toNat / 16) ∨ (Lib.accHi (Lib.firstT (bt t 0).toNat / 16) : Int) < bt t 1 ∨ bt t 2 < 128 ∨ 191 < bt t 2 ∨ bt t 3 < 128 ∨ 191 < bt t 3 then 0 else 4)
 else 0
def vSf : Nat → ByteArray → Bool
 | 0, _ => true
 | n + 1, t => if t.size = 0 then true else if vnum t = 0 then false else vSf n (t.extract (vnum t) t.size)
def vS (t : ByteArray) : Bool := vSf t.size t
theorem ext_size (t : ByteArray) (k : Nat) : (t.extract k t.size).size = t.size - k := by simp [ByteArray.size_extract]
theorem vSf_fuel : ∀ (n m : Nat) (t : ByteArray), t.size ≤ n → t.size ≤ m → vSf n t = vSf m t
 | 0, 0, _, _, _ => rfl
 | 0, m + 1, t, h, _ => by
  have : t.size = 0 := by omega
  simp [vSf, this]
 | n + 1, 0, t, _, h => by
  have : t.size = 0 := by omega
  simp [vSf, this]
 | n + 1, m + 1, t, h1, h2 => by
  unfold vSf
  by_cases h0 : t.size = 0
  ·rw [if_pos h0, if_pos h0]
  ·rw [if_neg h0, if_neg h0]
   by_cases hv : vnum t = 0
   ·rw [if_pos hv, if_pos hv]
   ·rw [if_neg hv, if_neg hv]
    have := ext_size t (vnum t)
    exact vSf_fuel n m _ (by omega) (by omega)
theorem vS_nil {t : ByteArray} (h : t.size = 0) : vS t = true := by unfold vS; rw [h]; rfl
theorem vS_no {t : ByteArray} (h : t.size ≠ 0) (hv : vnum t = 0) : vS t = false := by
 unfold vS
 obtain ⟨n, hn⟩ : ∃ n, t.size = n + 1 := ⟨t.size - 1, by omega⟩
 rw [hn]; unfold vSf
 rw [if_neg h, if_pos hv]
theorem vS_yes {t : ByteArray} {k : Nat} (h : t.size ≠ 0) (hv : vnum t = k) (hk : k ≠ 0) : vS (t.extract k t.size) = vS t := by
 subst hv
 have e := ext_size t (vnum t)
 have : vS t = vSf (t.size) t := rfl
 rw [this]
 obtain ⟨n, hn⟩ : ∃ n, t.size = n + 1 := ⟨t.size - 1, by omega⟩
 conv => rhs; rw [hn]
 unfold vSf
 rw [if_neg h, if_neg hk]
 exact vSf_fuel _ _ _ (by omega) (by omega)
theorem bt_ext (t : ByteArray) (k i : Nat) : bt (t.extract k t.size) i = bt t (k + i) := by
 by_cases h : k + i < t.size
 ·have h1 : i < (t.extract k t.size).size := by rw [ext_size]; omega
  rw [← bt_get _ _ h1, ← bt_get _ _ h, ByteArray.getElem_extract]
 ·have h1 : ¬ i < (t.extract k t.size).size := by rw [ext_size]; omega
  have h2 : ¬ i < (t.extract k t.size).data.size := h1
  have h3 : ¬ k + i < t.data.size := h
  unfold bt
  rw [Array.getElem?_eq_none (by omega), Array.getElem?_eq_none (by omega)]
theorem ext_ext (t : ByteArray) (a b : Nat) : (t.extract a t.size).extract b (t.extract a t.size).size = t.extract (a + b) t.size := by
 apply ByteArray.ext
 apply Array.ext
 ·have h1 := ext_size (t.extract a t.size) b
  have h2 := ext_size t a
  have h3 := ext_size t (a + b)
  show ByteArray.size _ = ByteArray.size _
  omega
 ·intro i h1 h2
  have h1' : i < ((t.extract a t.size).extract b (t.extract a t.size).size).size := h1
  have h2' : i < (t.extract (a + b) t.size).size := h2
  have e1 : ((t.extract a t.size).extract b (t.extract a t.size).size)[i]'h1' = t[a + (b + i)]'(by rw [ext_size, ext_size] at h1'; omega) := by
   rw [ByteArray.getElem_extract, ByteArray.getElem_extract]
  have e2 : (t.extract (a + b) t.size)[i]'h2' = t[(a + b) + i]'(by rw [ext_size] at h2'; omega) := by
   rw [ByteArray.getElem_extract]
  have e3 : t[a + (b + i)]'(by rw [ext_size, ext_size] at h1'; omega) = t[(a + b) + i]'(by rw [ext_size] at h2'; omega) := by
   congr 1; omega
  exact e1.trans (e3.trans e2.symm)
theorem vnum_ascii {t : ByteArray} (h : bt t 0 < 128) : vnum t = 1 := by unfold vnum; rw [if_pos h]
theorem vS_skip (t : ByteArray) : ∀ k, k ≤ t.size → (∀ i, i < k → bt t i < 128) → vS (t.extract k t.size) = vS t
 | 0, _, _ => by
  have : t.extract 0 t.size = t := by simp
  rw [this]
 | k + 1, hk, h => by
  have ih := vS_skip t k (by omega) (fun i hi => h i (by omega))
  rw [← ih]
  have h0 : bt (t.extract k t.size) 0 < 128 := by rw [bt_ext]; exact h k (by omega)
  have hs := ext_size t k
  have := vS_yes (t := t.extract k t.size) (by omega) (vnum_ascii h0) (by decide)
  rw [ext_ext] at this
  exact this
theorem bt_asc8 (t : ByteArray) (k : Nat) (h : Zm (wz (t.extract k t.size))) : ∀ i, k ≤ i → i < k + 8 → bt t i < 128 := by
 intro i h1 h2
 have := wz_ascii _ h (i - k) (by omega)
 rw [bt_ext] at this
 rwa [show k + (i - k) = i by omega] at this
theorem vS_skip16 (t : ByteArray) (h : 16 ≤ t.size) (h1 : Zm (wz t)) (h2 : Zm (wz (t.extract 8 t.size))) : vS (t.extract 16 t.size) = vS t :=
 vS_skip t 16 h fun i hi => by
  by_cases c : i < 8
  ·exact wz_ascii t h1 i c
  ·exact bt_asc8 t 8 h2 i (by omega) (by omega)
theorem vS_skip32 (t : ByteArray) (h : 32 ≤ t.size) (h1 : Zm (wz t)) (h2 : Zm (wz (t.extract 8 t.size))) (h3 : Zm (wz (t.extract 16 t.size))) (h4 : Zm (wz (t.extract 24 t.size))) : vS (t.extract 32 t.size) = vS t :=
 vS_skip t 32 h fun i hi => by
  by_cases c : i < 8
  ·exact wz_ascii t h1 i c
  ·by_cases c2 : i < 16
   ·exact bt_asc8 t 8 h2 i (by omega) (by omega)
   ·by_cases c3 : i < 24
    ·exact bt_asc8 t 16 h3 i (by omega) (by omega)
    ·exact bt_asc8 t 24 h4 i (by omega) (by omega)
theorem vnum2_no {t : ByteArray} {x : Nat} (h0 : ¬ bt t 0 < 128) (hx : Lib.firstT (bt t 0).toNat = x) (h2 : x % 8 = 2) (h : t.size < 2 ∨ bt t 1 < Lib.accLo (x / 16) ∨ (Lib.accHi (x / 16) : Int) < bt t 1) : vnum t = 0 := by
 unfold vnum; rw [if_neg h0, hx, if_pos h2, if_pos h]
theorem vnum2_yes {t : ByteArray} {x : Nat} (h0 : ¬ bt t 0 < 128) (hx : Lib.firstT (bt t 0).toNat = x) (h2 : x % 8 = 2) (h : ¬ (t.size < 2 ∨ bt t 1 < Lib.accLo (x / 16) ∨ (Lib.accHi (x / 16) : Int) < bt t 1)) : vnum t = 2 := by
 unfold vnum; rw [if_neg h0, hx, if_pos h2, if_neg h]
theorem vnum3_no {t : ByteArray} {x : Nat} (h0 : ¬ bt t 0 < 128) (hx : Lib.firstT (bt t 0).toNat = x) (h2 : x % 8 = 3) (h : t.size < 3 ∨ bt t 1 < Lib.accLo (x / 16) ∨ (Lib.accHi (x / 16) : Int) < bt t 1 ∨ bt t 2 < 128 ∨ 191 < bt t 2) : vnum t = 0 := by
 unfold vnum; rw [if_neg h0, hx, if_neg (by omega), if_pos h2, if_pos h]
theorem vnum3_yes {t : ByteArray} {x : Nat} (h0 : ¬ bt t 0 < 128) (hx : Lib.firstT (bt t 0).toNat = x) (h2 : x % 8 = 3) (h : ¬ (t.size < 3 ∨ bt t 1 < Lib.accLo (x / 16) ∨ (Lib.accHi (x / 16) : Int) < bt t 1 ∨ bt t 2 < 128 ∨ 191 < bt t 2)) : vnum t = 3 := by
 unfold vnum; rw [if_neg h0, hx, if_neg (by omega), if_pos h2, if_neg h]
theorem vnum4_no {t : ByteArray} {x : Nat} (h0 : ¬ bt t 0 < 128) (hx : Lib.firstT (bt t 0).toNat = x) (h2 : x % 8 = 4) (h : t.size < 4 ∨ bt t 1 < Lib.accLo (x / 16) ∨ (Lib.accHi (x / 16) : Int) < bt t 1 ∨ bt t 2 < 128 ∨ 191 < bt t 2 ∨ bt t 3 < 128 ∨ 191 < bt t 3) : vnum t = 0 := by
 unfold vnum; rw [if_neg h0, hx, if_neg (by omega), if_neg (by omega), if_pos h2, if_pos h]
theorem vnum4_yes {t : ByteArray} {x : Nat} (h0 : ¬ bt t 0 < 128) (hx : Lib.firstT (bt t 0).toNat = x) (h2 : x % 8 = 4) (h : ¬ (t.size < 4 ∨ bt t 1 < Lib.accLo (x / 16) ∨ (Lib.accHi (x / 16) : Int) < bt t 1 ∨ bt t 2 < 128 ∨ 191 < bt t 2 ∨ bt t 3 < 128 ∨ 191 < bt t 3)) : vnum t = 4 := by
 unfold vnum; rw [if_neg h0, hx, if_neg (by omega), if_neg (by omega), if_pos h2, if_neg h]
theorem vnum_bad {t : ByteArray} {x : Nat} (h0 : ¬ bt t 0 < 128) (hx : Lib.firstT (bt t 0).toNat = x) (h2 : x % 8 ≠ 2) (h3 : x % 8 ≠ 3) (h4 : x % 8 ≠ 4) : vnum t = 0 := by
 unfold vnum; rw [if_neg h0, hx, if_neg h2, if_neg h3, if_neg h4]
def Tabs8 (w : World) : Prop := Lib.Utf8Tabs 1 2 w
theorem Tabs8.keep {w w' : World} (h : Tabs8 w) (hb : Below w.heap.size w w') : Tabs8 w' :=
 ⟨fun c hc => cell_keep hb (h.1 c hc), fun i hi => ⟨cell_keep hb (h.2 i hi).1, cell_keep hb (h.2 i hi).2⟩⟩
theorem below_drewN {B : Nat} {a w : World} (h : Below B a w) (n : Nat) : Below B a (w.drewN n) := h.trans ⟨rfl, rfl, rfl, Nat.le_refl _, fun _ _ => rfl⟩
end Go.Proofs.YtmhnndgnnpondaaGreatDoor
