/- The reference: which items are right (ref25.Right, rights). Plain laws: what ParseInt and FormatInt make of a text is what is told by hand (Whole, Digits). -/
import Derived.Test.YtmhnndgnnpondaaGreatDoorC16
import Derived.Test.YtmhnndgnnpondaaGreatDoorC05
import Derived.Test.YtmhnndgnnpondaaGreatDoorC14
import Derived.Lib.ParseIntB
import Derived.Lib.ItoaNum
namespace Go.Proofs.YtmhnndgnnpondaaGreatDoor
set_option maxRecDepth 100000
set_option maxHeartbeats 4000000
open Go.RowKit
theorem rtexts_any (s : ByteArray) (w : World) (hs : s.size ≤ 140737488355328) : Calls Tryz.prog 130 #[.string s] w fun e w' => e = .returned (.bool (tS s)) ∧ w = w' := by
 rw [← rT_eq]; exact rtextsf_any s w hs
theorem rright_any (k : Nat) (n d : Int) (s : ByteArray) (w : World) (hs : s.size ≤ 140737488355328) :
  Calls Tryz.prog 82 #[.agg #[.int .u8 k, .int .i64 n, .string s, .int .i64 d]] w fun e w' => e = .returned (.bool (okI ⟨k, n, s, d⟩)) ∧ Below w.heap.size w w' := by
 have hz := (Below.refl w.heap.size w).alloc (Nat.le_refl _) (.cells #[.int .u8 k, .int .i64 n, .string s, .int .i64 d] 31)
 by_cases k1 : k = 1
 ·subst k1
  by_cases hd : 0 ≤ d
  ·by_cases hn : n = 0
   ·subst hn
    have H : Hid (okI ⟨1, 0, s, d⟩ = tS s) := by show _ = _; simp [okI, hd]
    go_enter Tryz.func82, Tryz.ntmps82
    go_wp2_with fail
    refine (rtexts_any s _ hs).mono ?_
    rintro e w1 ⟨rfl, rfl⟩
    go_wp2
    go_ret
    exact ⟨by rw [H.out]; rfl, hz⟩
   ·have hnf : (n == 0) = false := by simpa using hn
    have H : Hid (okI ⟨1, n, s, d⟩ = false) := by show _ = _; simp [okI]; intro h; exact absurd h.symm hn
    clear hn
    go_enter Tryz.func82, Tryz.ntmps82
    go_wp2
    go_ret
    exact ⟨by rw [H.out]; rfl, hz⟩
  ·have hdf : decide (0 ≤ d) = false := by simpa using hd
   have H : Hid (okI ⟨1, n, s, d⟩ = false) := by show _ = _; simp [okI, hd]
   clear hd
   go_enter Tryz.func82, Tryz.ntmps82
   go_wp2
   go_ret
   exact ⟨by rw [H.out]; rfl, hz⟩
 by_cases k2 : k = 2
 ·subst k2
  clear k1
  by_cases hd : d = 0
  ·subst hd
   by_cases ht : s.toList = []
   ·have te := toList_nil ht
    subst te
    clear ht
    have H : Hid (okI ⟨2, n, ⟨#[]⟩, 0⟩ = true) := by show _ = _; simp [okI]; rfl
    go_enter Tryz.func82, Tryz.ntmps82
    go_wp2
    go_ret
    exact ⟨by rw [H.out]; rfl, hz⟩
   ·have H : Hid (okI ⟨2, n, s, 0⟩ = false) := by show _ = _; simp [okI, ht]
    have hte : s.toList.isEmpty = false := by cases hl : s.toList with | nil => exact absurd hl ht | cons _ _ => rfl
    go_enter Tryz.func82, Tryz.ntmps82
    go_wp2
    go_ret
    exact ⟨by rw [H.out]; rfl, hz⟩
  ·have hdf : (d == 0) = false := by simpa using hd
   have H : Hid (okI ⟨2, n, s, d⟩ = false) := by show _ = _; simp [okI]; intro _ h; exact absurd h.symm hd
   clear hd
   go_enter Tryz.func82, Tryz.ntmps82
   go_wp2
   go_ret
   exact ⟨by rw [H.out]; rfl, hz⟩
 by_cases k3 : k = 3
 ·subst k3
  clear k1 k2
  by_cases hd : d = 0
  ·subst hd
   by_cases hn : n = 0
   ·subst hn
    have H : Hid (okI ⟨3, 0, s, 0⟩ = tS s) := by show _ = _; simp [okI]
    go_enter Tryz.func82, Tryz.ntmps82
    go_wp2_with fail
    refine (rtexts_any s _ hs).mono ?_
    rintro e w1 ⟨rfl, rfl⟩
    go_wp2
    go_ret
    exact ⟨by rw [H.out]; rfl, hz⟩
   ·have hnf : (n == 0) = false := by simpa using hn
    have H : Hid (okI ⟨3, n, s, 0⟩ = false) := by show _ = _; simp [okI]; intro h; exact absurd h.symm hn
    clear hn
    go_enter Tryz.func82, Tryz.ntmps82
    go_wp2
    go_ret
    exact ⟨by rw [H.out]; rfl, hz⟩
  ·have hdf : (d == 0) = false := by simpa using hd
   have H : Hid (okI ⟨3, n, s, d⟩ = false) := by show _ = _; simp [okI]; intro _ h; exact absurd h.symm hd
   clear hd
   go_enter Tryz.func82, Tryz.ntmps82
   go_wp2
   go_ret
   exact ⟨by rw [H.out]; rfl, hz⟩
 by_cases k4 : k = 4
 ·subst k4
  clear k1 k2 k3
  by_cases hd : d = 0
  ·subst hd
   by_cases ht : s.toList = []
   ·have te := toList_nil ht
    subst te
    clear ht
    by_cases hn : n = 0
    ·subst hn
     have H : Hid (okI ⟨4, 0, ⟨#[]⟩, 0⟩ = true) := by show _ = _; simp [okI]; rfl
     go_enter Tryz.func82, Tryz.ntmps82
     go_wp2
     go_ret
     exact ⟨by rw [H.out]; rfl, hz⟩
    ·have hnf : (n == 0) = false := by simpa using hn
     by_cases hn1 : n = 1
     ·subst hn1
      clear hn hnf
      have H : Hid (okI ⟨4, 1, ⟨#[]⟩, 0⟩ = true) := by show _ = _; simp [okI]; rfl
      go_enter Tryz.func82, Tryz.ntmps82
      go_wp2
      go_ret
      exact ⟨by rw [H.out]; rfl, hz⟩
     ·have hnf1 : (n == 1) = false := by simpa using hn1
      have H : Hid (okI ⟨4, n, ⟨#[]⟩, 0⟩ = false) := by show _ = _; simp [okI, hn, hn1]
      clear hn hn1
      go_enter Tryz.func82, Tryz.ntmps82
      go_wp2
      go_ret
      exact ⟨by rw [H.out]; rfl, hz⟩
   ·have H : Hid (okI ⟨4, n, s, 0⟩ = false) := by show _ = _; simp [okI, ht]
    have hte : s.toList.isEmpty = false := by cases hl : s.toList with | nil => exact absurd hl ht | cons _ _ => rfl
    go_enter Tryz.func82, Tryz.ntmps82
    go_wp2
    go_ret
    exact ⟨by rw [H.out]; rfl, hz⟩
  ·have hdf : (d == 0) = false := by simpa using hd
   have H : Hid (okI ⟨4, n, s, d⟩ = false) := by show _ = _; simp [okI]; intro _ _ h; exact absurd h.symm hd
   clear hd
   go_enter Tryz.func82, Tryz.ntmps82
   go_wp2
   go_ret
   exact ⟨by rw [H.out]; rfl, hz⟩
 ·have i1 : ((k : Int) == 1) = false := by simpa using (show (k : Int) ≠ 1 by omega)
  have i2 : ((k : Int) == 2) = false := by simpa using (show (k : Int) ≠ 2 by omega)
  have i3 : ((k : Int) == 3) = false := by simpa using (show (k : Int) ≠ 3 by omega)
  have i4 : ((k : Int) == 4) = false := by simpa using (show (k : Int) ≠ 4 by omega)
  have H : Hid (okI ⟨k, n, s, d⟩ = false) := by show _ = _; simp [okI, k1, k2, k3, k4]
  clear k1 k2 k3 k4
  go_enter Tryz.func82, Tryz.ntmps82
  go_wp2
  go_ret
  exact ⟨by rw [H.out]; rfl, hz⟩
theorem rrights_any (p : Option Addr) (n c : Nat) (l : List It) (w : World) (ha : OkA w ⟨p, l, c⟩) (hn : n = l.length) :
  Calls Tryz.prog 51 #[.slice p n c] w fun e w' => e = .returned (.bool (l.all okI)) ∧ Below w.heap.size w w' := by
 have Ha := hide ha
 have Hn := hide hn
 have hnl : n < 9223372036854775807 := by rw [hn]; exact ha.2.2
 clear ha hn
 go_enter Tryz.func51, Tryz.ntmps51
 go_wp2_with fail
 go_loopw [3] (fun v W => ∃ k : Nat, k ≤ n ∧ v = .int .i64 k ∧ Hid ((l.drop k).all okI = l.all okI) ∧ Below w.heap.size w W) (fun v _ => n - (intOf v).toNat)
 case atStart => exact ⟨0, Nat.zero_le _, rfl, hide rfl, Below.refl _ _⟩
 case round =>
  obtain ⟨k, hk, rfl, Hk, hB⟩ := hrel
  by_cases hlt : k < n
  ·have hI : (k : Int) < (n : Int) := by omega
   obtain ⟨x, hx⟩ : ∃ x, l[k]? = some x := ⟨_, List.getElem?_eq_getElem (by have := Hn.out; omega)⟩
   obtain ⟨b1, off1, e1, c0, c1, c2, c3⟩ := (Ha.out.1.keep hB).at k x hx
   dsimp only at e1
   subst e1
   have hs1 := Ha.out.2.1 x (List.mem_of_getElem? hx)
   have hix := ix_item b1 off1 n c k hlt
   have hst := hide (drop_all okI l k x hx)
   clear hx
   obtain ⟨k1, a1, t1, d1⟩ := x
   dsimp only at c0 c1 c2 c3 hs1
   go_wp2_with fail
   refine (rright_any k1 a1 d1 t1 _ hs1).mono ?_
   rintro e w1 ⟨rfl, hb1⟩
   have hB1 := chain0 hB hb1
   clear hb1 c0 c1 c2 c3 hB
   rcases Bool.eq_false_or_eq_true (okI ⟨k1, a1, t1, d1⟩) with hq | hq
   ·have Hk2 : Hid ((l.drop (k + 1)).all okI = l.all okI) := by show _ = _; rw [← Hk.out, hst.out, hq, Bool.true_and]
    rw [hq]
    clear hst Hk hq
    go_wp2
    go_roundw
    case rel => exact ⟨k + 1, by omega, by simp, Hk2, hB1⟩
    case measure => simp [intOf]; omega
   ·have HR : Hid (l.all okI = false) := by show _ = _; rw [← Hk.out, hst.out, hq, Bool.false_and]
    rw [hq]
    clear hst Hk hq
    go_wp2
    go_ret
    exact ⟨by rw [HR.out]; rfl, hB1⟩
  ·have hI : ¬ (k : Int) < (n : Int) := by omega
   have HR : Hid (l.all okI = true) := by show _ = _; rw [← Hk.out]; exact drop_end okI l k (by have := Hn.out; omega)
   clear Hk
   go_wp2
   go_ret
   exact ⟨by rw [HR.out]; rfl, hB⟩
end Go.Proofs.YtmhnndgnnpondaaGreatDoor
namespace Go.Proofs.YtmhnndgnnpondaaGreatDoor
def isD (c : UInt8) : Bool := decide (48 ≤ c.toNat) && decide (c.toNat ≤ 57)
def rv : Nat → List UInt8 → Option Nat
 | a, [] => some a
 | a, c :: r => if isD c = true then rv (10 * a + (c.toNat - 48)) r else none
def rfD (neg : Bool) (d : List UInt8) : Option Int :=
 if d.length = 0 ∨ 19 < d.length ∨ (d.head? = some 48 ∧ (1 < d.length ∨ neg = true)) then none
 else match rv 0 d with
  | none => none
  | some n => if neg = true then (if n ≤ 9223372036854775808 then some (-(n : Int)) else none) else (if n < 9223372036854775808 then some (n : Int) else none)
def rfO (l : List UInt8) : Option Int := if l.head? = some 45 then rfD true l.tail else rfD false l
theorem isD_lt {n : Nat} (h : n < 10) : isD (UInt8.ofNat (48 + n)) = true ∧ (UInt8.ofNat (48 + n)).toNat - 48 = n := by
 have : (UInt8.ofNat (48 + n)).toNat = 48 + n := by simp; omega
 constructor
 ·unfold isD; rw [this]; simp; omega
 ·rw [this]; omega
theorem isD_of {c : UInt8} (h : isD c = true) : 48 ≤ c.toNat ∧ c.toNat ≤ 57 := by simpa [isD] using h
theorem rv_snoc (c : UInt8) : ∀ (l : List UInt8) (a : Nat), rv a (l ++ [c]) = (rv a l).bind fun b => if isD c = true then some (10 * b + (c.toNat - 48)) else none
 | [], a => by simp [rv]
 | d :: l, a => by
  simp only [List.cons_append, rv]
  split
  ·exact rv_snoc c l _
  ·rfl
theorem rv_mono : ∀ (l : List UInt8) (a n : Nat), rv a l = some n → a ≤ n
 | [], a, n, h => by simp [rv] at h; omega
 | c :: l, a, n, h => by
  unfold rv at h
  split at h
  ·have := rv_mono l _ _ h; omega
  ·cases h
theorem rv_dec : ∀ (u : Nat), rv 0 (Lib.decDigits u) = some u := by
 intro u
 induction u using Nat.strongRecOn with
 | _ u ih =>
  rw [Lib.decDigits]
  split
  ·rename_i h
   have := isD_lt h
   simp only [rv]
   rw [if_pos this.1, this.2]
   simp
  ·have h2 := isD_lt (n := u % 10) (by omega)
   rw [rv_snoc, ih (u / 10) (by omega)]
   simp only [Option.bind_some]
   rw [if_pos h2.1, h2.2]
   congr 1; omega
theorem dec_head : ∀ (u : Nat), 1 ≤ u → (Lib.decDigits u).head? ≠ some 48 := by
 intro u
 induction u using Nat.strongRecOn with
 | _ u ih =>
  intro h1
  rw [Lib.decDigits]
  split
  ·rename_i h
   simp only [List.head?_cons, ne_eq, Option.some.injEq]
   intro e
   have := congrArg UInt8.toNat e
   simp at this; omega
  ·have := ih (u / 10) (by omega) (by omega)
   have hl := Lib.decDigits_length (u / 10)
   have hp := Lib.nDigits_pos (u / 10)
   cases hd : Lib.decDigits (u / 10) with
   | nil => rw [hd] at hl; simp at hl; omega
   | cons a b => rw [hd] at this; simpa using this
theorem dec_first (u : Nat) : ∃ a b, Lib.decDigits u = a :: b ∧ isD a = true := by
 have hv := rv_dec u
 have hl := Lib.decDigits_length u
 have hp := Lib.nDigits_pos u
 cases hd : Lib.decDigits u with
 | nil => rw [hd] at hl; simp at hl; omega
 | cons a b =>
  refine ⟨a, b, rfl, ?_⟩
  rw [hd] at hv
  unfold rv at hv
  split at hv
  ·assumption
  ·cases hv
theorem dec_of : ∀ (k : Nat) (d : List UInt8) (n : Nat), d.length = k + 1 → d.head? ≠ some 48 → rv 0 d = some n → 1 ≤ n ∧ Lib.decDigits n = d
 | 0, d, n, hl, hh, hv => by
  match d, hl with
  | [c], _ =>
   unfold rv at hv
   split at hv
   ·rename_i hc
    have hc2 := isD_of hc
    simp only [rv, Option.some.injEq] at hv
    have hne : c.toNat ≠ 48 := by
     intro e
     apply hh
     simp only [List.head?_cons, Option.some.injEq]
     exact UInt8.toNat_inj.1 e
    refine ⟨by omega, ?_⟩
    rw [Lib.decDigits, dif_pos (by omega)]
    congr 1
    apply UInt8.toNat_inj.1
    simp; omega
   ·cases hv
 | k + 1, d, n, hl, hh, hv => by
  have hne : d ≠ [] := by intro e; subst e; simp at hl
  obtain ⟨d', c, rfl⟩ : ∃ d' c, d = d' ++ [c] := ⟨d.dropLast, d.getLast hne, (List.dropLast_concat_getLast hne).symm⟩
  have hl' : d'.length = k + 1 := by simp at hl; omega
  rw [rv_snoc] at hv
  cases hm : rv 0 d' with
  | none => rw [hm] at hv; cases hv
  | some m =>
   rw [hm] at hv
   simp only [Option.bind_some] at hv
   split at hv
   ·rename_i hc
    have hc2 := isD_of hc
    injection hv with hv
    have hh' : d'.head? ≠ some 48 := by
     cases d' with
     | nil => simp at hl'
     | cons a b => simpa using hh
    obtain ⟨h1, h2⟩ := dec_of k d' m hl' hh' hm
    refine ⟨by omega, ?_⟩
    rw [Lib.decDigits, dif_neg (by omega), show n / 10 = m by omega, h2]
    congr 2
    apply UInt8.toNat_inj.1
    simp; omega
   ·cases hv
theorem parseM_of (M : Nat) (hM : M < 18446744073709551616) : ∀ (l : List UInt8) (a n : Nat), rv a l = some n → n ≤ M → Lib.parseUintM M a l = .ok n
 | [], a, n, h, _ => by simp [rv] at h; subst h; rfl
 | c :: l, a, n, h, hn => by
  unfold rv at h
  split at h
  ·rename_i hc
   have hc2 := isD_of hc
   have h1 := rv_mono _ _ _ h
   unfold Lib.parseUintM
   rw [if_pos hc2, if_neg (by omega), if_neg (by omega)]
   rw [show a * 10 + (c.toNat - 48) = 10 * a + (c.toNat - 48) by omega]
   exact parseM_of M hM l _ n h hn
  ·cases h
theorem pow63 : (2 : Nat) ^ 63 = 9223372036854775808 := by decide
theorem pow64 : (2 : Nat) ^ 64 = 18446744073709551616 := by decide
theorem parseB_of {l : List UInt8} {n : Nat} (h0 : l ≠ []) (h : rv 0 l = some n) (hn : n ≤ 9223372036854775808) : Lib.parseUintB 64 l = .ok n := by
 unfold Lib.parseUintB
 rw [if_neg h0]
 exact parseM_of _ (by decide) l 0 n h (by rw [pow64]; omega)
theorem nDig_le {u : Nat} (h : u ≤ 9223372036854775808) : Lib.nDigits u ≤ 19 := by
 rcases Nat.lt_or_ge 19 (Lib.nDigits u) with h1 | h1
 ·exfalso
  have hlen : ∀ (k u : Nat), k < Lib.nDigits u → k = 0 ∨ 10 ^ k ≤ u := by
   intro k
   induction k with
   | zero => intro u _; exact .inl rfl
   | succ k ih =>
    intro u hk
    right
    by_cases hs : u < 10
    ·rw [Lib.nDigits_small hs] at hk; omega
    ·rw [Lib.nDigits_big hs] at hk
     rcases ih (u / 10) (by omega) with e | e
     ·subst e; simp; omega
     ·rw [Nat.pow_succ]; omega
  rcases hlen 19 u h1 with e | e
  ·omega
  ·have : (10 : Nat) ^ 19 = 10000000000000000000 := by decide
   omega
 ·exact h1
theorem dec_zero : Lib.decDigits 0 = [48] := by rw [Lib.decDigits, dif_pos (by omega)]; rfl
theorem rfO_itoa {v : Int} (h1 : -9223372036854775808 ≤ v) (h2 : v < 9223372036854775808) : rfO (Lib.itoa v) = some v := by
 unfold Lib.itoa rfO
 by_cases hn : v < 0
 ·rw [if_pos hn, if_pos (by rfl)]
  simp only [List.tail_cons]
  have hl := Lib.decDigits_length v.natAbs
  have hp := Lib.nDigits_pos v.natAbs
  have hle := nDig_le (u := v.natAbs) (by omega)
  have hh := dec_head v.natAbs (by omega)
  unfold rfD
  rw [if_neg (by
   rw [hl]
   rintro (h | h | ⟨h, _⟩)
   ·omega
   ·omega
   ·exact hh h), rv_dec]
  simp only [if_true]
  rw [if_pos (by omega)]
  congr 1; omega
 ·rw [if_neg hn]
  obtain ⟨a, b, e, ha⟩ := dec_first v.toNat
  have ha2 := isD_of ha
  rw [if_neg (by
   rw [e]; simp only [List.head?_cons, Option.some.injEq]
   intro e2; subst e2; simp [isD] at ha)]
  have hl := Lib.decDigits_length v.toNat
  have hp := Lib.nDigits_pos v.toNat
  have hle := nDig_le (u := v.toNat) (by omega)
  unfold rfD
  rw [if_neg (by
   rintro (h | h | ⟨h, h3⟩)
   ·omega
   ·omega
   ·by_cases h0 : v.toNat = 0
    ·rw [h0, dec_zero] at h3; simp at h3
    ·exact dec_head v.toNat (by omega) h), rv_dec]
  simp only
  rw [if_neg (by decide), if_pos (by omega)]
  congr 1; omega
theorem parse_of_rfO {l : List UInt8} {v : Int} (h : rfO l = some v) : Lib.parseIntB 64 l = .ok v ∧ Lib.itoa v = l := by
 unfold rfO at h
 by_cases hh : l.head? = some 45
 ·rw [if_pos hh] at h
  cases l with
  | nil => cases hh
  | cons c d =>
   simp only [List.head?_cons, Option.some.injEq] at hh
   subst hh
   simp only [List.tail_cons] at h
   unfold rfD at h
   split at h
   ·cases h
   ·rename_i hd
    split at h
    ·cases h
    ·rename_i n hv
     rw [if_pos rfl] at h
     split at h
     ·rename_i hle
      injection h with h
      have h0 : d ≠ [] := by intro e; subst e; simp at hd
      have hh2 : d.head? ≠ some 48 := fun e => hd (.inr (.inr ⟨e, .inr rfl⟩))
      obtain ⟨h1, h2⟩ := dec_of (d.length - 1) d n (by have : d.length ≠ 0 := fun e => hd (.inl e); omega) hh2 hv
      constructor
      ·unfold Lib.parseIntB
       simp only
       have e45 : (45 : UInt8).toNat = 45 := rfl
       rw [if_pos (.inr e45), parseB_of h0 hv hle]
       simp only
       rw [if_neg (by rw [e45]; simp), if_neg (by rw [e45]; simp only [true_and]; show ¬ 2 ^ 63 < n; rw [pow63]; omega), if_pos e45, h]
      ·unfold Lib.itoa
       rw [if_pos (by omega), show v.natAbs = n by omega, h2]
     ·cases h
 ·rw [if_neg hh] at h
  unfold rfD at h
  split at h
  ·cases h
  ·rename_i hd
   split at h
   ·cases h
   ·rename_i n hv
    rw [if_neg (by decide)] at h
    split at h
    ·rename_i hlt
     injection h with h
     have h0 : l ≠ [] := by intro e; subst e; simp at hd
     have hdig : Lib.decDigits n = l := by
      by_cases hz : l.head? = some 48
      ·have hl1 : l.length = 1 := by
        have : ¬ 1 < l.length := fun e => hd (.inr (.inr ⟨hz, .inl e⟩))
        have : l.length ≠ 0 := fun e => hd (.inl e)
        omega
       match l, hl1, hz with
       | [c], _, hz =>
        simp only [List.head?_cons, Option.some.injEq] at hz
        subst hz
        simp [rv, isD] at hv
        subst hv
        exact dec_zero
      ·exact (dec_of (l.length - 1) l n (by have : l.length ≠ 0 := fun e => hd (.inl e); omega) hz hv).2
     constructor
     ·cases l with
      | nil => exact absurd rfl h0
      | cons c d =>
       have hc : isD c = true := by
        have hv2 := hv
        unfold rv at hv2
        split at hv2
        ·assumption
        ·cases hv2
       have hc2 := isD_of hc
       unfold Lib.parseIntB
       simp only
       rw [if_neg (by omega), parseB_of h0 hv (by omega)]
       simp only
       rw [if_neg (by rintro ⟨_, h3⟩; rw [show 64 - 1 = 63 from rfl, pow63] at h3; omega), if_neg (by omega), if_neg (by omega), h]
     ·unfold Lib.itoa
      rw [if_neg (by omega), show v.toNat = n by omega, hdig]
    ·cases h
end Go.Proofs.YtmhnndgnnpondaaGreatDoor
