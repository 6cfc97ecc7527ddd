/- value.Truth, value.String at any rows of items. Plain laws: what ParseInt and FormatInt make of a text is what is told by hand (Whole, Digits). value.ofItems, value.ofNumbers at functions of texts. -/
import Derived.Test.YtaieiogmolaebaaGreatDoorC16
import Derived.Test.YtaieiogmolaebaaGreatDoorC13
import Derived.Lib.ParseIntB
import Derived.Lib.ItoaNum
import Derived.Test.YtaieiogmolaebaaGreatDoorC14
namespace Go.Proofs.YtaieiogmolaebaaGreatDoor
set_option maxRecDepth 100000
set_option maxHeartbeats 4000000
open Go.RowKit
theorem right1_any (p : Option Addr) (n c : Nat) (l : List It) (w : World) (ht8 : Tabs8 w) (ha : OkA w ⟨p, l, c⟩) (hn : n = l.length) :
  Calls Tryz.prog 21 #[.slice (some ⟨w.heap.size, 0, none⟩) 1 1] (w.alloc (.cells #[.slice p n c] 25)) fun e w' => e = .returned (.bool (l.all okI)) ∧ Below w.heap.size w w' := by
 subst hn
 have hb0 : Below w.heap.size w (w.alloc (.cells #[.slice p l.length c] 25)) := (Below.refl _ _).alloc (Nat.le_refl _) _
 have hrd : Rd (w.alloc (.cells #[.slice p l.length c] 25)) (some ⟨w.heap.size, 0, none⟩) (([⟨p, l, c⟩] : List Lst).map Lst.v) := Rd.new w 25 [.slice p l.length c]
 refine (right_any (some ⟨w.heap.size, 0, none⟩) 1 1 [⟨p, l, c⟩] _ (ht8.keep hb0) rfl (by decide) hrd ?_).mono ?_
 ·intro x hx
  rw [List.mem_singleton] at hx
  subst hx
  exact ⟨ha.1.keep hb0, ha.2⟩
 ·rintro e w' ⟨rfl, hb⟩
  refine ⟨by simp [rightL], chain0 hb0 hb⟩
def truthV (l : List It) : Bool × Int :=
 if l.all okI = true then
  match l with
  | [] => (false, 0)
  | x :: r => if x.kind = 1 then (true, 0) else if r = [] then (decide (x.num ≠ 0) || decide (x.text.toList ≠ []), 0) else (false, 250)
 else (false, 2)
theorem at0 {w : World} {p : Option Addr} {x : It} {r : List It} (h : RdI w p (x :: r)) :
  ∃ b off, p = some ⟨b, off, none⟩ ∧ w.cell? ⟨b, off, none⟩ = some (.int .u8 x.kind) ∧ w.cell? ⟨b, off + 1, none⟩ = some (.int .i64 x.num) ∧ w.cell? ⟨b, off + 2, none⟩ = some (.string x.text) ∧ w.cell? ⟨b, off + 3, none⟩ = some (.int .i64 x.node) := by
 obtain ⟨b, off, h1, h2, h3, h4, h5⟩ := h.at 0 x rfl
 exact ⟨b, off, h1, by simpa using h2, by simpa using h3, by simpa using h4, by simpa using h5⟩
theorem ix_at0 (b off n c : Nat) (h : 0 < n) (W : World) : (Instr.indexAt 25 (.slice (some ⟨b, off, none⟩) n c) (.int .i64 0)).run Tryz.prog W = .ok (.pointer (some ⟨b, off, none⟩)) W := by
 have := ix_item b off n c 0 h W
 simpa using this
theorem truth_any (p : Option Addr) (n c : Nat) (l : List It) (w : World) (he : Env w) (ha : OkA w ⟨p, l, c⟩) (hn : n = l.length) :
  Calls Tryz.prog 18 #[.slice p n c] w fun e w' => e = .returned (.tuple #[.bool (truthV l).1, .int .i64 (truthV l).2]) ∧ Below w.heap.size w w' := by
 have Hr := hide (right1_any p n c l w he.t8 ha hn)
 have Ha := hide ha
 have hnl : n < 9223372036854775807 := by rw [hn]; exact ha.2.2
 clear ha he
 rcases Bool.eq_false_or_eq_true (l.all okI) with hq | hq
 ·match l with
  | [] =>
   have HT : Hid (truthV [] = (false, 0)) := by show _ = _; rfl
   have hn0 : n = 0 := hn
   subst hn0
   rw [hq] at Hr
   clear hn hq
   go_enter Tryz.func18, Tryz.ntmps18
   go_wp2_with fail
   refine Hr.out.mono ?_
   rintro e w1 ⟨rfl, hb1⟩
   go_wp2
   go_ret2
   exact ⟨by rw [HT.out]; rfl, hb1⟩
  | x :: r =>
   obtain ⟨m, hm⟩ : ∃ m, m = r.length := ⟨_, rfl⟩
   have hn1 : n = m + 1 := by rw [hn, List.length_cons, hm]
   rw [hq] at Hr
   obtain ⟨b, off, hp, _⟩ := at0 Ha.out.1
   dsimp only at hp
   subst hp
   have hix := ix_at0 b off n c (by omega)
   by_cases k1 : x.kind = 1
   ·have HT : Hid (truthV (x :: r) = (true, 0)) := by show _ = _; unfold truthV; rw [if_pos hq]; exact if_pos k1
    clear hn hm
    obtain ⟨xk, xa, xt, xd⟩ := x
    have k1 : xk = 1 := k1
    subst k1
    clear hq
    subst hn1
    go_enter Tryz.func18, Tryz.ntmps18
    go_wp2_with fail
    refine Hr.out.mono ?_
    rintro e w1 ⟨rfl, hb1⟩
    obtain ⟨b2, off2, e2, c0, c1, c2, c3⟩ := at0 (Ha.out.1.keep hb1)
    injection e2 with e2
    injection e2 with e2 e3
    subst e2 e3
    dsimp only at c0 c1 c2 c3
    go_wp2
    go_ret2
    exact ⟨by rw [HT.out]; rfl, hb1⟩
   ·have k1i : ((x.kind : Int) == 1) = false := by simpa using (show (x.kind : Int) ≠ 1 by omega)
    by_cases hr0 : r = []
    ·subst hr0
     have hm0 : m = 0 := hm
     subst hm0
     have hn2 : n = 1 := hn1
     subst hn2
     have HT : Hid (truthV [x] = (decide (x.num ≠ 0) || decide (x.text.toList ≠ []), 0)) := by show _ = _; unfold truthV; rw [if_pos hq]; simp only; rw [if_neg k1, if_pos trivial]
     clear hn hm hn1 hq k1
     obtain ⟨xk, xa, xt, xd⟩ := x
     dsimp only at k1i HT
     by_cases hz : xa = 0
     ·have hz1 : (xa != 0) = false := by simpa using hz
      have HT2 : Hid (truthV [⟨xk, xa, xt, xd⟩] = (decide (xt.toList ≠ []), 0)) := by show _ = _; rw [HT.out]; simp [hz]
      clear hz HT
      go_enter Tryz.func18, Tryz.ntmps18
      go_wp2_with fail
      refine Hr.out.mono ?_
      rintro e w1 ⟨rfl, hb1⟩
      obtain ⟨b2, off2, e2, c0, c1, c2, c3⟩ := at0 (Ha.out.1.keep hb1)
      injection e2 with e2
      injection e2 with e2 e3
      subst e2 e3
      dsimp only at c0 c1 c2 c3
      go_wp2
      go_ret2
      exact ⟨by rw [HT2.out]; simp; cases xt.toList <;> rfl, hb1⟩
     ·have hz1 : (xa != 0) = true := by simpa using hz
      have HT2 : Hid (truthV [⟨xk, xa, xt, xd⟩] = (true, 0)) := by show _ = _; rw [HT.out]; simp [hz]
      clear hz HT
      go_enter Tryz.func18, Tryz.ntmps18
      go_wp2_with fail
      refine Hr.out.mono ?_
      rintro e w1 ⟨rfl, hb1⟩
      obtain ⟨b2, off2, e2, c0, c1, c2, c3⟩ := at0 (Ha.out.1.keep hb1)
      injection e2 with e2
      injection e2 with e2 e3
      subst e2 e3
      dsimp only at c0 c1 c2 c3
      go_wp2
      go_ret2
      exact ⟨by rw [HT2.out]; rfl, hb1⟩
    ·have HT : Hid (truthV (x :: r) = (false, 250)) := by show _ = _; unfold truthV; rw [if_pos hq]; simp only; rw [if_neg k1, if_neg hr0]
     have hm1 : (1 : Int) < (n : Int) := by
      have : r.length ≠ 0 := fun h => hr0 (List.length_eq_zero_iff.1 h)
      omega
     have hn3 : ((n : Int) == 0) = false := by simpa using (show (n : Int) ≠ 0 by omega)
     clear hn hm hq k1 hn1
     obtain ⟨xk, xa, xt, xd⟩ := x
     dsimp only at k1i
     go_enter Tryz.func18, Tryz.ntmps18
     go_wp2_with fail
     refine Hr.out.mono ?_
     rintro e w1 ⟨rfl, hb1⟩
     obtain ⟨b2, off2, e2, c0, c1, c2, c3⟩ := at0 (Ha.out.1.keep hb1)
     injection e2 with e2
     injection e2 with e2 e3
     subst e2 e3
     dsimp only at c0 c1 c2 c3
     go_wp2
     go_ret2
     exact ⟨by rw [HT.out]; rfl, hb1⟩
 ·have HT : Hid (truthV l = (false, 2)) := by show _ = _; unfold truthV; rw [if_neg (by rw [hq]; decide)]
  rw [hq] at Hr
  clear hq hn
  go_enter Tryz.func18, Tryz.ntmps18
  go_wp2_with fail
  refine Hr.out.mono ?_
  rintro e w1 ⟨rfl, hb1⟩
  go_wp2
  go_ret2
  exact ⟨by rw [HT.out]; rfl, hb1⟩
def bT : ByteArray := ⟨#[116, 114, 117, 101]⟩
def bF : ByteArray := ⟨#[102, 97, 108, 115, 101]⟩
def txt (x : It) : ByteArray := if x.kind = 2 then ⟨(Lib.itoa x.num).toArray⟩ else if x.kind = 4 then (if x.num = 1 then bT else bF) else x.text
def strV (l : List It) : ByteArray × Int :=
 if l.all okI = true then
  match l with
  | [] => (⟨#[]⟩, 0)
  | x :: r => if r = [] then (txt x, 0) else (⟨#[]⟩, 253)
 else (⟨#[]⟩, 2)
theorem text_any (k : Nat) (n d : Int) (s : ByteArray) (w : World) (he : Env w) (hR : R64 n) : Calls Tryz.prog 57 #[.agg #[.int .u8 k, .int .i64 n, .string s, .int .i64 d]] w fun e w' => e = .returned (.string (txt ⟨k, n, s, d⟩)) ∧ Below w.heap.size w w' := by
 have hz := (Below.refl w.heap.size w).alloc (Nat.le_refl _) (.cells #[.int .u8 k, .int .i64 n, .string s, .int .i64 d] 36)
 have He := hide (he.keep hz)
 have HR := hide hR
 clear he hR
 by_cases k2 : k = 2
 ·subst k2
  have HT : Hid (txt ⟨2, n, s, d⟩ = ⟨(Lib.itoa n).toArray⟩) := by show _ = _; rfl
  go_enter Tryz.func57, Tryz.ntmps57
  go_wp2_with fail
  refine (Tryz.strconv_FormatInt_10 n HR.out.1 HR.out.2 _ He.out.pow).mono ?_
  rintro e w2 ⟨rfl, k2, os2, hw2⟩
  have hb2 : Below w.heap.size w w2 := by rw [hw2]; exact chain0 hz (Lib.below_grow _ _ (Nat.le_refl _) _ _)
  clear hw2
  go_wp2
  go_ret
  exact ⟨by rw [HT.out]; rfl, hb2⟩
 ·have k2i : ((k : Int) == 2) = false := by simpa using (show (k : Int) ≠ 2 by omega)
  by_cases k4 : k = 4
  ·subst k4
   clear k2 k2i
   by_cases h1 : n = 1
   ·subst h1
    have HT : Hid (txt ⟨4, 1, s, d⟩ = bT) := by show _ = _; rfl
    go_enter Tryz.func57, Tryz.ntmps57
    go_wp2
    go_ret
    exact ⟨by rw [HT.out]; rfl, hz⟩
   ·have h1f : (n == 1) = false := by simpa using h1
    have HT : Hid (txt ⟨4, n, s, d⟩ = bF) := by show _ = _; unfold txt; rw [if_neg (show ¬ (4 = 2) by decide), if_pos rfl, if_neg h1]
    clear h1
    go_enter Tryz.func57, Tryz.ntmps57
    go_wp2
    go_ret
    exact ⟨by rw [HT.out]; rfl, hz⟩
  ·have k4i : ((k : Int) == 4) = false := by simpa using (show (k : Int) ≠ 4 by omega)
   have HT : Hid (txt ⟨k, n, s, d⟩ = s) := by show _ = _; unfold txt; rw [if_neg k2, if_neg k4]
   clear k2 k4
   go_enter Tryz.func57, Tryz.ntmps57
   go_wp2
   go_ret
   exact ⟨by rw [HT.out]; rfl, hz⟩
theorem string_any (p : Option Addr) (n c : Nat) (l : List It) (w : World) (he : Env w) (ha : OkA w ⟨p, l, c⟩) (hR : ∀ y ∈ l, R64 y.num) (hn : n = l.length) :
  Calls Tryz.prog 25 #[.slice p n c] w fun e w' => e = .returned (.tuple #[.string (strV l).1, .int .i64 (strV l).2]) ∧ Below w.heap.size w w' := by
 have Hr := hide (right1_any p n c l w he.t8 ha hn)
 have Ha := hide ha
 have He := hide he
 have hnl : n < 9223372036854775807 := by rw [hn]; exact ha.2.2
 clear ha he
 rcases Bool.eq_false_or_eq_true (l.all okI) with hq | hq
 ·match l with
  | [] =>
   have HT : Hid (strV [] = (⟨#[]⟩, 0)) := by show _ = _; rfl
   have hn0 : n = 0 := hn
   subst hn0
   rw [hq] at Hr
   clear hn hq
   go_enter Tryz.func25, Tryz.ntmps25
   go_wp2_with fail
   refine Hr.out.mono ?_
   rintro e w1 ⟨rfl, hb1⟩
   go_wp2
   go_ret2
   exact ⟨by rw [HT.out]; rfl, hb1⟩
  | x :: r =>
   have HR := hide (hR x (by simp))
   clear hR
   obtain ⟨m, hm⟩ : ∃ m, m = r.length := ⟨_, rfl⟩
   have hn1 : n = m + 1 := by rw [hn, List.length_cons, hm]
   rw [hq] at Hr
   obtain ⟨b, off, hp, _⟩ := at0 Ha.out.1
   dsimp only at hp
   subst hp
   have hix := ix_at0 b off n c (by omega)
   by_cases hr0 : r = []
   ·subst hr0
    have hm0 : m = 0 := hm
    subst hm0
    have hn2 : n = 1 := hn1
    subst hn2
    have HT : Hid (strV [x] = (txt x, 0)) := by show _ = _; unfold strV; rw [if_pos hq]; simp only; rw [if_pos trivial]
    clear hn hm hn1 hq
    obtain ⟨xk, xa, xt, xd⟩ := x
    go_enter Tryz.func25, Tryz.ntmps25
    go_wp2_with fail
    refine Hr.out.mono ?_
    rintro e w1 ⟨rfl, hb1⟩
    obtain ⟨b2, off2, e2, c0, c1, c2, c3⟩ := at0 (Ha.out.1.keep hb1)
    injection e2 with e2
    injection e2 with e2 e3
    subst e2 e3
    dsimp only at c0 c1 c2 c3
    go_wp2_with fail
    refine (text_any xk xa xd xt _ (He.out.keep hb1) HR.out).mono ?_
    rintro e w2 ⟨rfl, hb2⟩
    have hB2 := chain0 hb1 hb2
    clear hb2 c0 c1 c2 c3
    generalize txt ⟨xk, xa, xt, xd⟩ = tx at *
    go_wp2
    go_ret2
    exact ⟨by rw [HT.out]; rfl, hB2⟩
   ·have HT : Hid (strV (x :: r) = (⟨#[]⟩, 253)) := by show _ = _; unfold strV; rw [if_pos hq]; simp only; rw [if_neg hr0]
    have hm1 : (1 : Int) < (n : Int) := by
     have : r.length ≠ 0 := fun h => hr0 (List.length_eq_zero_iff.1 h)
     omega
    clear hn hm hq hn1
    go_enter Tryz.func25, Tryz.ntmps25
    go_wp2_with fail
    refine Hr.out.mono ?_
    rintro e w1 ⟨rfl, hb1⟩
    go_wp2
    go_ret2
    exact ⟨by rw [HT.out]; rfl, hb1⟩
 ·have HT : Hid (strV l = (⟨#[]⟩, 2)) := by show _ = _; unfold strV; rw [if_neg (by rw [hq]; decide)]
  rw [hq] at Hr
  clear hq hn hR
  go_enter Tryz.func25, Tryz.ntmps25
  go_wp2_with fail
  refine Hr.out.mono ?_
  rintro e w1 ⟨rfl, hb1⟩
  go_wp2
  go_ret2
  exact ⟨by rw [HT.out]; rfl, hb1⟩
end Go.Proofs.YtaieiogmolaebaaGreatDoor
namespace Go.Proofs.YtaieiogmolaebaaGreatDoor
def isD (c : UInt8) : Bool := decide (48 ≤ c.toNat) && decide (c.toNat ≤ 57)
def rv : Nat → List UInt8 → Option Nat
 | a, [] => some a
 | a, c :: r => if isD c = true then rv (10 * a + (c.toNat - 48)) r else none
def rfD (neg : Bool) (d : List UInt8) : Option Int :=
 if d.length = 0 ∨ 19 < d.length ∨ (d.head? = some 48 ∧ (1 < d.length ∨ neg = true)) then none
 else match rv 0 d with
  | none => none
  | some n => if neg = true then (if n ≤ 9223372036854775808 then some (-(n : Int)) else none) else (if n < 9223372036854775808 then some (n : Int) else none)
def rfO (l : List UInt8) : Option Int := if l.head? = some 45 then rfD true l.tail else rfD false l
theorem isD_lt {n : Nat} (h : n < 10) : isD (UInt8.ofNat (48 + n)) = true ∧ (UInt8.ofNat (48 + n)).toNat - 48 = n := by
 have : (UInt8.ofNat (48 + n)).toNat = 48 + n := by simp; omega
 constructor
 ·unfold isD; rw [this]; simp; omega
 ·rw [this]; omega
theorem isD_of {c : UInt8} (h : isD c = true) : 48 ≤ c.toNat ∧ c.toNat ≤ 57 := by simpa [isD] using h
theorem rv_snoc (c : UInt8) : ∀ (l : List UInt8) (a : Nat), rv a (l ++ [c]) = (rv a l).bind fun b => if isD c = true then some (10 * b + (c.toNat - 48)) else none
 | [], a => by simp [rv]
 | d :: l, a => by
  simp only [List.cons_append, rv]
  split
  ·exact rv_snoc c l _
  ·rfl
theorem rv_mono : ∀ (l : List UInt8) (a n : Nat), rv a l = some n → a ≤ n
 | [], a, n, h => by simp [rv] at h; omega
 | c :: l, a, n, h => by
  unfold rv at h
  split at h
  ·have := rv_mono l _ _ h; omega
  ·cases h
theorem rv_dec : ∀ (u : Nat), rv 0 (Lib.decDigits u) = some u := by
 intro u
 induction u using Nat.strongRecOn with
 | _ u ih =>
  rw [Lib.decDigits]
  split
  ·rename_i h
   have := isD_lt h
   simp only [rv]
   rw [if_pos this.1, this.2]
   simp
  ·have h2 := isD_lt (n := u % 10) (by omega)
   rw [rv_snoc, ih (u / 10) (by omega)]
   simp only [Option.bind_some]
   rw [if_pos h2.1, h2.2]
   congr 1; omega
theorem dec_head : ∀ (u : Nat), 1 ≤ u → (Lib.decDigits u).head? ≠ some 48 := by
 intro u
 induction u using Nat.strongRecOn with
 | _ u ih =>
  intro h1
  rw [Lib.decDigits]
  split
  ·rename_i h
   simp only [List.head?_cons, ne_eq, Option.some.injEq]
   intro e
   have := congrArg UInt8.toNat e
   simp at this; omega
  ·have := ih (u / 10) (by omega) (by omega)
   have hl := Lib.decDigits_length (u / 10)
   have hp := Lib.nDigits_pos (u / 10)
   cases hd : Lib.decDigits (u / 10) with
   | nil => rw [hd] at hl; simp at hl; omega
   | cons a b => rw [hd] at this; simpa using this
theorem dec_first (u : Nat) : ∃ a b, Lib.decDigits u = a :: b ∧ isD a = true := by
 have hv := rv_dec u
 have hl := Lib.decDigits_length u
 have hp := Lib.nDigits_pos u
 cases hd : Lib.decDigits u with
 | nil => rw [hd] at hl; simp at hl; omega
 | cons a b =>
  refine ⟨a, b, rfl, ?_⟩
  rw [hd] at hv
  unfold rv at hv
  split at hv
  ·assumption
  ·cases hv
theorem dec_of : ∀ (k : Nat) (d : List UInt8) (n : Nat), d.length = k + 1 → d.head? ≠ some 48 → rv 0 d = some n → 1 ≤ n ∧ Lib.decDigits n = d
 | 0, d, n, hl, hh, hv => by
  match d, hl with
  | [c], _ =>
   unfold rv at hv
   split at hv
   ·rename_i hc
    have hc2 := isD_of hc
    simp only [rv, Option.some.injEq] at hv
    have hne : c.toNat ≠ 48 := by
     intro e
     apply hh
     simp only [List.head?_cons, Option.some.injEq]
     exact UInt8.toNat_inj.1 e
    refine ⟨by omega, ?_⟩
    rw [Lib.decDigits, dif_pos (by omega)]
    congr 1
    apply UInt8.toNat_inj.1
    simp; omega
   ·cases hv
 | k + 1, d, n, hl, hh, hv => by
  have hne : d ≠ [] := by intro e; subst e; simp at hl
  obtain ⟨d', c, rfl⟩ : ∃ d' c, d = d' ++ [c] := ⟨d.dropLast, d.getLast hne, (List.dropLast_concat_getLast hne).symm⟩
  have hl' : d'.length = k + 1 := by simp at hl; omega
  rw [rv_snoc] at hv
  cases hm : rv 0 d' with
  | none => rw [hm] at hv; cases hv
  | some m =>
   rw [hm] at hv
   simp only [Option.bind_some] at hv
   split at hv
   ·rename_i hc
    have hc2 := isD_of hc
    injection hv with hv
    have hh' : d'.head? ≠ some 48 := by
     cases d' with
     | nil => simp at hl'
     | cons a b => simpa using hh
    obtain ⟨h1, h2⟩ := dec_of k d' m hl' hh' hm
    refine ⟨by omega, ?_⟩
    rw [Lib.decDigits, dif_neg (by omega), show n / 10 = m by omega, h2]
    congr 2
    apply UInt8.toNat_inj.1
    simp; omega
   ·cases hv
theorem parseM_of (M : Nat) (hM : M < 18446744073709551616) : ∀ (l : List UInt8) (a n : Nat), rv a l = some n → n ≤ M → Lib.parseUintM M a l = .ok n
 | [], a, n, h, _ => by simp [rv] at h; subst h; rfl
 | c :: l, a, n, h, hn => by
  unfold rv at h
  split at h
  ·rename_i hc
   have hc2 := isD_of hc
   have h1 := rv_mono _ _ _ h
   unfold Lib.parseUintM
   rw [if_pos hc2, if_neg (by omega), if_neg (by omega)]
   rw [show a * 10 + (c.toNat - 48) = 10 * a + (c.toNat - 48) by omega]
   exact parseM_of M hM l _ n h hn
  ·cases h
theorem pow63 : (2 : Nat) ^ 63 = 9223372036854775808 := by decide
theorem pow64 : (2 : Nat) ^ 64 = 18446744073709551616 := by decide
theorem parseB_of {l : List UInt8} {n : Nat} (h0 : l ≠ []) (h : rv 0 l = some n) (hn : n ≤ 9223372036854775808) : Lib.parseUintB 64 l = .ok n := by
 unfold Lib.parseUintB
 rw [if_neg h0]
 exact parseM_of _ (by decide) l 0 n h (by rw [pow64]; omega)
theorem nDig_le {u : Nat} (h : u ≤ 9223372036854775808) : Lib.nDigits u ≤ 19 := by
 rcases Nat.lt_or_ge 19 (Lib.nDigits u) with h1 | h1
 ·exfalso
  have hlen : ∀ (k u : Nat), k < Lib.nDigits u → k = 0 ∨ 10 ^ k ≤ u := by
   intro k
   induction k with
   | zero => intro u _; exact .inl rfl
   | succ k ih =>
    intro u hk
    right
    by_cases hs : u < 10
    ·rw [Lib.nDigits_small hs] at hk; omega
    ·rw [Lib.nDigits_big hs] at hk
     rcases ih (u / 10) (by omega) with e | e
     ·subst e; simp; omega
     ·rw [Nat.pow_succ]; omega
  rcases hlen 19 u h1 with e | e
  ·omega
  ·have : (10 : Nat) ^ 19 = 10000000000000000000 := by decide
   omega
 ·exact h1
theorem dec_zero : Lib.decDigits 0 = [48] := by rw [Lib.decDigits, dif_pos (by omega)]; rfl
theorem rfO_itoa {v : Int} (h1 : -9223372036854775808 ≤ v) (h2 : v < 9223372036854775808) : rfO (Lib.itoa v) = some v := by
 unfold Lib.itoa rfO
 by_cases hn : v < 0
 ·rw [if_pos hn, if_pos (by rfl)]
  simp only [List.tail_cons]
  have hl := Lib.decDigits_length v.natAbs
  have hp := Lib.nDigits_pos v.natAbs
  have hle := nDig_le (u := v.natAbs) (by omega)
  have hh := dec_head v.natAbs (by omega)
  unfold rfD
  rw [if_neg (by
   rw [hl]
   rintro (h | h | ⟨h, _⟩)
   ·omega
   ·omega
   ·exact hh h), rv_dec]
  simp only [if_true]
  rw [if_pos (by omega)]
  congr 1; omega
 ·rw [if_neg hn]
  obtain ⟨a, b, e, ha⟩ := dec_first v.toNat
  have ha2 := isD_of ha
  rw [if_neg (by
   rw [e]; simp only [List.head?_cons, Option.some.injEq]
   intro e2; subst e2; simp [isD] at ha)]
  have hl := Lib.decDigits_length v.toNat
  have hp := Lib.nDigits_pos v.toNat
  have hle := nDig_le (u := v.toNat) (by omega)
  unfold rfD
  rw [if_neg (by
   rintro (h | h | ⟨h, h3⟩)
   ·omega
   ·omega
   ·by_cases h0 : v.toNat = 0
    ·rw [h0, dec_zero] at h3; simp at h3
    ·exact dec_head v.toNat (by omega) h), rv_dec]
  simp only
  rw [if_neg (by decide), if_pos (by omega)]
  congr 1; omega
theorem parse_of_rfO {l : List UInt8} {v : Int} (h : rfO l = some v) : Lib.parseIntB 64 l = .ok v ∧ Lib.itoa v = l := by
 unfold rfO at h
 by_cases hh : l.head? = some 45
 ·rw [if_pos hh] at h
  cases l with
  | nil => cases hh
  | cons c d =>
   simp only [List.head?_cons, Option.some.injEq] at hh
   subst hh
   simp only [List.tail_cons] at h
   unfold rfD at h
   split at h
   ·cases h
   ·rename_i hd
    split at h
    ·cases h
    ·rename_i n hv
     rw [if_pos rfl] at h
     split at h
     ·rename_i hle
      injection h with h
      have h0 : d ≠ [] := by intro e; subst e; simp at hd
      have hh2 : d.head? ≠ some 48 := fun e => hd (.inr (.inr ⟨e, .inr rfl⟩))
      obtain ⟨h1, h2⟩ := dec_of (d.length - 1) d n (by have : d.length ≠ 0 := fun e => hd (.inl e); omega) hh2 hv
      constructor
      ·unfold Lib.parseIntB
       simp only
       have e45 : (45 : UInt8).toNat = 45 := rfl
       rw [if_pos (.inr e45), parseB_of h0 hv hle]
       simp only
       rw [if_neg (by rw [e45]; simp), if_neg (by rw [e45]; simp only [true_and]; show ¬ 2 ^ 63 < n; rw [pow63]; omega), if_pos e45, h]
      ·unfold Lib.itoa
       rw [if_pos (by omega), show v.natAbs = n by omega, h2]
     ·cases h
 ·rw [if_neg hh] at h
  unfold rfD at h
  split at h
  ·cases h
  ·rename_i hd
   split at h
   ·cases h
   ·rename_i n hv
    rw [if_neg (by decide)] at h
    split at h
    ·rename_i hlt
     injection h with h
     have h0 : l ≠ [] := by intro e; subst e; simp at hd
     have hdig : Lib.decDigits n = l := by
      by_cases hz : l.head? = some 48
      ·have hl1 : l.length = 1 := by
        have : ¬ 1 < l.length := fun e => hd (.inr (.inr ⟨hz, .inl e⟩))
        have : l.length ≠ 0 := fun e => hd (.inl e)
        omega
       match l, hl1, hz with
       | [c], _, hz =>
        simp only [List.head?_cons, Option.some.injEq] at hz
        subst hz
        simp [rv, isD] at hv
        subst hv
        exact dec_zero
      ·exact (dec_of (l.length - 1) l n (by have : l.length ≠ 0 := fun e => hd (.inl e); omega) hz hv).2
     constructor
     ·cases l with
      | nil => exact absurd rfl h0
      | cons c d =>
       have hc : isD c = true := by
        have hv2 := hv
        unfold rv at hv2
        split at hv2
        ·assumption
        ·cases hv2
       have hc2 := isD_of hc
       unfold Lib.parseIntB
       simp only
       rw [if_neg (by omega), parseB_of h0 hv (by omega)]
       simp only
       rw [if_neg (by rintro ⟨_, h3⟩; rw [show 64 - 1 = 63 from rfl, pow63] at h3; omega), if_neg (by omega), if_neg (by omega), h]
     ·unfold Lib.itoa
      rw [if_neg (by omega), show v.toNat = n by omega, hdig]
    ·cases h
end Go.Proofs.YtaieiogmolaebaaGreatDoor
namespace Go.Proofs.YtaieiogmolaebaaGreatDoor
set_option maxRecDepth 100000
set_option maxHeartbeats 4000000
open Go.RowKit
theorem ix_rowA (b off n c : Nat) (h : 0 < n) (W : World) : (Instr.indexAt 22 (.slice (some ⟨b, off, none⟩) n c) (.int .i64 0)).run Tryz.prog W = .ok (.pointer (some ⟨b, off, none⟩)) W := by
 have := ix_row b off n c 0 h W
 simpa using this
theorem txt_small (x : It) (hR : R64 x.num) (hs : x.text.size ≤ 100000) : (txt x).size ≤ 100000 := by
 unfold txt
 split
 ·show (Lib.itoa x.num).toArray.size ≤ 100000
  have h1 : (Lib.itoa x.num).length ≤ 20 := by
   unfold Lib.itoa
   unfold R64 at hR
   split
   ·rw [List.length_cons, Lib.decDigits_length]
    have := nDig_le (u := x.num.natAbs) (by omega)
    omega
   ·rw [Lib.decDigits_length]
    have := nDig_le (u := x.num.toNat) (by omega)
    omega
  rw [List.size_toArray]; omega
 ·split
  ·split <;> decide
  ·exact hs
theorem strV_small (l : List It) (hR : ∀ y ∈ l, R64 y.num) (hs : ∀ y ∈ l, y.text.size ≤ 100000) : (strV l).1.size ≤ 100000 := by
 unfold strV
 split
 ·match l, hR, hs with
  | [], _, _ => decide
  | x :: r, hR, hs =>
   dsimp only
   split
   ·exact txt_small x (hR x (by simp)) (hs x (by simp))
   ·decide
 ·decide
theorem len_two {α : Type} : ∀ {l : List α}, l.length = 2 → ∃ a b, l = [a, b]
 | [a, b], _ => ⟨a, b, rfl⟩
def txs (ls : List Lst) : List ByteArray := ls.map fun x => (strV x.l).1
def errS : List Lst → Int
 | [] => 0
 | x :: r => if (strV x.l).2 = 0 then errS r else (strV x.l).2
theorem errS_no : ∀ ls : List Lst, (∀ x ∈ ls, (strV x.l).2 = 0) → errS ls = 0
 | [], _ => rfl
 | x :: r, h => by unfold errS; rw [if_pos (h x (by simp))]; exact errS_no r fun y hy => h y (by simp [hy])
theorem errS_at : ∀ (ls : List Lst) (k : Nat) (x : Lst), (∀ y ∈ ls.take k, (strV y.l).2 = 0) → ls[k]? = some x → (strV x.l).2 ≠ 0 → errS ls = (strV x.l).2
 | [], k, x, _, h, _ => by simp at h
 | y :: r, 0, x, _, h, h2 => by simp at h; subst h; unfold errS; rw [if_neg h2]
 | y :: r, k + 1, x, h1, h, h2 => by
  unfold errS
  rw [if_pos (h1 y (by simp))]
  exact errS_at r k x (fun z hz => h1 z (by simp [hz])) (by simpa using h) h2
def callT (nm : List UInt8) (f : List ByteArray → List It × Int) (ls : List Lst) : List It × Int :=
 if rightL ls = true then (if knV nm ls.length = true then (if errS ls = 0 then f (txs ls) else ([], errS ls)) else ([], 241)) else ([], 2)
theorem ofItems_no_string (b off n c : Nat) (v : Value) (w : World) (hn : 0 < n) (h0 : w.cell? ⟨b, off, none⟩ = some v) (hv : ∃ a k d, v = .slice a k d) : Calls Tryz.prog 23 #[.string ⟨#[115, 116, 114, 105, 110, 103]⟩, .slice (some ⟨b, off, none⟩) n c] w fun e w' => e = .returned (.tuple #[.slice none 0 0, .int .i64 0, .bool false]) ∧ w = w' := by
 have hix := ix_rowA b off n c hn
 have hn1 : ¬ (n : Int) = 0 := by omega
 have hn2 : ((n : Int) == 0) = false := by simpa using hn1
 have hn3 : ¬ n = 0 := by omega
 obtain ⟨a, k, d, rfl⟩ := hv
 clear hn
 go_enter Tryz.func23, Tryz.ntmps23
 go_wp2
 go_ret3
 exact ⟨rfl, rfl⟩
theorem ofNumbers_no_string (v : Value) (w : World) : Calls Tryz.prog 24 #[.string ⟨#[115, 116, 114, 105, 110, 103]⟩, v] w fun e w' => e = .returned (.tuple #[.slice none 0 0, .int .i64 0, .bool false]) ∧ w = w' := by
 go_enter Tryz.func24, Tryz.ntmps24
 go_wp2
 go_ret3
 exact ⟨rfl, rfl⟩
theorem ofItems_no_string_length (b off n c : Nat) (v : Value) (w : World) (hn : 0 < n) (h0 : w.cell? ⟨b, off, none⟩ = some v) (hv : ∃ a k d, v = .slice a k d) : Calls Tryz.prog 23 #[.string ⟨#[115, 116, 114, 105, 110, 103, 45, 108, 101, 110, 103, 116, 104]⟩, .slice (some ⟨b, off, none⟩) n c] w fun e w' => e = .returned (.tuple #[.slice none 0 0, .int .i64 0, .bool false]) ∧ w = w' := by
 have hix := ix_rowA b off n c hn
 have hn1 : ¬ (n : Int) = 0 := by omega
 have hn2 : ((n : Int) == 0) = false := by simpa using hn1
 have hn3 : ¬ n = 0 := by omega
 obtain ⟨a, k, d, rfl⟩ := hv
 clear hn
 go_enter Tryz.func23, Tryz.ntmps23
 go_wp2
 go_ret3
 exact ⟨rfl, rfl⟩
theorem ofNumbers_no_string_length (v : Value) (w : World) : Calls Tryz.prog 24 #[.string ⟨#[115, 116, 114, 105, 110, 103, 45, 108, 101, 110, 103, 116, 104]⟩, v] w fun e w' => e = .returned (.tuple #[.slice none 0 0, .int .i64 0, .bool false]) ∧ w = w' := by
 go_enter Tryz.func24, Tryz.ntmps24
 go_wp2
 go_ret3
 exact ⟨rfl, rfl⟩
theorem ofItems_no_concat (b off n c : Nat) (v : Value) (w : World) (hn : 0 < n) (h0 : w.cell? ⟨b, off, none⟩ = some v) (hv : ∃ a k d, v = .slice a k d) : Calls Tryz.prog 23 #[.string ⟨#[99, 111, 110, 99, 97, 116]⟩, .slice (some ⟨b, off, none⟩) n c] w fun e w' => e = .returned (.tuple #[.slice none 0 0, .int .i64 0, .bool false]) ∧ w = w' := by
 have hix := ix_rowA b off n c hn
 have hn1 : ¬ (n : Int) = 0 := by omega
 have hn2 : ((n : Int) == 0) = false := by simpa using hn1
 have hn3 : ¬ n = 0 := by omega
 obtain ⟨a, k, d, rfl⟩ := hv
 clear hn
 go_enter Tryz.func23, Tryz.ntmps23
 go_wp2
 go_ret3
 exact ⟨rfl, rfl⟩
theorem ofNumbers_no_concat (v : Value) (w : World) : Calls Tryz.prog 24 #[.string ⟨#[99, 111, 110, 99, 97, 116]⟩, v] w fun e w' => e = .returned (.tuple #[.slice none 0 0, .int .i64 0, .bool false]) ∧ w = w' := by
 go_enter Tryz.func24, Tryz.ntmps24
 go_wp2
 go_ret3
 exact ⟨rfl, rfl⟩
theorem ofItems_no_contains (b off n c : Nat) (v : Value) (w : World) (hn : 0 < n) (h0 : w.cell? ⟨b, off, none⟩ = some v) (hv : ∃ a k d, v = .slice a k d) : Calls Tryz.prog 23 #[.string ⟨#[99, 111, 110, 116, 97, 105, 110, 115]⟩, .slice (some ⟨b, off, none⟩) n c] w fun e w' => e = .returned (.tuple #[.slice none 0 0, .int .i64 0, .bool false]) ∧ w = w' := by
 have hix := ix_rowA b off n c hn
 have hn1 : ¬ (n : Int) = 0 := by omega
 have hn2 : ((n : Int) == 0) = false := by simpa using hn1
 have hn3 : ¬ n = 0 := by omega
 obtain ⟨a, k, d, rfl⟩ := hv
 clear hn
 go_enter Tryz.func23, Tryz.ntmps23
 go_wp2
 go_ret3
 exact ⟨rfl, rfl⟩
theorem ofNumbers_no_contains (v : Value) (w : World) : Calls Tryz.prog 24 #[.string ⟨#[99, 111, 110, 116, 97, 105, 110, 115]⟩, v] w fun e w' => e = .returned (.tuple #[.slice none 0 0, .int .i64 0, .bool false]) ∧ w = w' := by
 go_enter Tryz.func24, Tryz.ntmps24
 go_wp2
 go_ret3
 exact ⟨rfl, rfl⟩
theorem ofItems_no_starts_with (b off n c : Nat) (v : Value) (w : World) (hn : 0 < n) (h0 : w.cell? ⟨b, off, none⟩ = some v) (hv : ∃ a k d, v = .slice a k d) : Calls Tryz.prog 23 #[.string ⟨#[115, 116, 97, 114, 116, 115, 45, 119, 105, 116, 104]⟩, .slice (some ⟨b, off, none⟩) n c] w fun e w' => e = .returned (.tuple #[.slice none 0 0, .int .i64 0, .bool false]) ∧ w = w' := by
 have hix := ix_rowA b off n c hn
 have hn1 : ¬ (n : Int) = 0 := by omega
 have hn2 : ((n : Int) == 0) = false := by simpa using hn1
 have hn3 : ¬ n = 0 := by omega
 obtain ⟨a, k, d, rfl⟩ := hv
 clear hn
 go_enter Tryz.func23, Tryz.ntmps23
 go_wp2
 go_ret3
 exact ⟨rfl, rfl⟩
theorem ofNumbers_no_starts_with (v : Value) (w : World) : Calls Tryz.prog 24 #[.string ⟨#[115, 116, 97, 114, 116, 115, 45, 119, 105, 116, 104]⟩, v] w fun e w' => e = .returned (.tuple #[.slice none 0 0, .int .i64 0, .bool false]) ∧ w = w' := by
 go_enter Tryz.func24, Tryz.ntmps24
 go_wp2
 go_ret3
 exact ⟨rfl, rfl⟩
theorem ofItems_no_ends_with (b off n c : Nat) (v : Value) (w : World) (hn : 0 < n) (h0 : w.cell? ⟨b, off, none⟩ = some v) (hv : ∃ a k d, v = .slice a k d) : Calls Tryz.prog 23 #[.string ⟨#[101, 110, 100, 115, 45, 119, 105, 116, 104]⟩, .slice (some ⟨b, off, none⟩) n c] w fun e w' => e = .returned (.tuple #[.slice none 0 0, .int .i64 0, .bool false]) ∧ w = w' := by
 have hix := ix_rowA b off n c hn
 have hn1 : ¬ (n : Int) = 0 := by omega
 have hn2 : ((n : Int) == 0) = false := by simpa using hn1
 have hn3 : ¬ n = 0 := by omega
 obtain ⟨a, k, d, rfl⟩ := hv
 clear hn
 go_enter Tryz.func23, Tryz.ntmps23
 go_wp2
 go_ret3
 exact ⟨rfl, rfl⟩
theorem ofNumbers_no_ends_with (v : Value) (w : World) : Calls Tryz.prog 24 #[.string ⟨#[101, 110, 100, 115, 45, 119, 105, 116, 104]⟩, v] w fun e w' => e = .returned (.tuple #[.slice none 0 0, .int .i64 0, .bool false]) ∧ w = w' := by
 go_enter Tryz.func24, Tryz.ntmps24
 go_wp2
 go_ret3
 exact ⟨rfl, rfl⟩
theorem ofItems_no_upper_case (b off n c : Nat) (v : Value) (w : World) (hn : 0 < n) (h0 : w.cell? ⟨b, off, none⟩ = some v) (hv : ∃ a k d, v = .slice a k d) : Calls Tryz.prog 23 #[.string ⟨#[117, 112, 112, 101, 114, 45, 99, 97, 115, 101]⟩, .slice (some ⟨b, off, none⟩) n c] w fun e w' => e = .returned (.tuple #[.slice none 0 0, .int .i64 0, .bool false]) ∧ w = w' := by
 have hix := ix_rowA b off n c hn
 have hn1 : ¬ (n : Int) = 0 := by omega
 have hn2 : ((n : Int) == 0) = false := by simpa using hn1
 have hn3 : ¬ n = 0 := by omega
 obtain ⟨a, k, d, rfl⟩ := hv
 clear hn
 go_enter Tryz.func23, Tryz.ntmps23
 go_wp2
 go_ret3
 exact ⟨rfl, rfl⟩
theorem ofNumbers_no_upper_case (v : Value) (w : World) : Calls Tryz.prog 24 #[.string ⟨#[117, 112, 112, 101, 114, 45, 99, 97, 115, 101]⟩, v] w fun e w' => e = .returned (.tuple #[.slice none 0 0, .int .i64 0, .bool false]) ∧ w = w' := by
 go_enter Tryz.func24, Tryz.ntmps24
 go_wp2
 go_ret3
 exact ⟨rfl, rfl⟩
theorem ofItems_no_lower_case (b off n c : Nat) (v : Value) (w : World) (hn : 0 < n) (h0 : w.cell? ⟨b, off, none⟩ = some v) (hv : ∃ a k d, v = .slice a k d) : Calls Tryz.prog 23 #[.string ⟨#[108, 111, 119, 101, 114, 45, 99, 97, 115, 101]⟩, .slice (some ⟨b, off, none⟩) n c] w fun e w' => e = .returned (.tuple #[.slice none 0 0, .int .i64 0, .bool false]) ∧ w = w' := by
 have hix := ix_rowA b off n c hn
 have hn1 : ¬ (n : Int) = 0 := by omega
 have hn2 : ((n : Int) == 0) = false := by simpa using hn1
 have hn3 : ¬ n = 0 := by omega
 obtain ⟨a, k, d, rfl⟩ := hv
 clear hn
 go_enter Tryz.func23, Tryz.ntmps23
 go_wp2
 go_ret3
 exact ⟨rfl, rfl⟩
theorem ofNumbers_no_lower_case (v : Value) (w : World) : Calls Tryz.prog 24 #[.string ⟨#[108, 111, 119, 101, 114, 45, 99, 97, 115, 101]⟩, v] w fun e w' => e = .returned (.tuple #[.slice none 0 0, .int .i64 0, .bool false]) ∧ w = w' := by
 go_enter Tryz.func24, Tryz.ntmps24
 go_wp2
 go_ret3
 exact ⟨rfl, rfl⟩
theorem ofItems_no_normalize_space (b off n c : Nat) (v : Value) (w : World) (hn : 0 < n) (h0 : w.cell? ⟨b, off, none⟩ = some v) (hv : ∃ a k d, v = .slice a k d) : Calls Tryz.prog 23 #[.string ⟨#[110, 111, 114, 109, 97, 108, 105, 122, 101, 45, 115, 112, 97, 99, 101]⟩, .slice (some ⟨b, off, none⟩) n c] w fun e w' => e = .returned (.tuple #[.slice none 0 0, .int .i64 0, .bool false]) ∧ w = w' := by
 have hix := ix_rowA b off n c hn
 have hn1 : ¬ (n : Int) = 0 := by omega
 have hn2 : ((n : Int) == 0) = false := by simpa using hn1
 have hn3 : ¬ n = 0 := by omega
 obtain ⟨a, k, d, rfl⟩ := hv
 clear hn
 go_enter Tryz.func23, Tryz.ntmps23
 go_wp2
 go_ret3
 exact ⟨rfl, rfl⟩
theorem ofNumbers_no_normalize_space (v : Value) (w : World) : Calls Tryz.prog 24 #[.string ⟨#[110, 111, 114, 109, 97, 108, 105, 122, 101, 45, 115, 112, 97, 99, 101]⟩, v] w fun e w' => e = .returned (.tuple #[.slice none 0 0, .int .i64 0, .bool false]) ∧ w = w' := by
 go_enter Tryz.func24, Tryz.ntmps24
 go_wp2
 go_ret3
 exact ⟨rfl, rfl⟩
end Go.Proofs.YtaieiogmolaebaaGreatDoor
