/- Plain laws: what ParseInt and FormatInt make of a text is what is told by hand (Whole, Digits). Plain laws: the character of a text, told by hand (ref05.Next), as ValidString and Decode tell it. Plain laws: a text that is right, told by hand. The reference on texts (ref05): Char, Next, Texts. The reference on texts: Texts. The reference: a number's text (ref25.Digits). -/
import Derived.Lib.ParseIntB
import Derived.Lib.ItoaNum
import Derived.Test.YtnhjphjdncaimaaGreatDoorTv
import Derived.Lib.DecodeN
import Derived.Test.YtnhjphjdncaimaaGreatDoorVl
namespace Go.Proofs.YtnhjphjdncaimaaGreatDoor
/-- is a byte a digit? -/
def isD (c : UInt8) : Bool := decide (48 ≤ c.toNat) && decide (c.toNat ≤ 57)
/-- what digits say behind others that say a -/
def rv : Nat → List UInt8 → Option Nat
  | a, [] => some a
  | a, c :: r => if isD c = true then rv (10 * a + (c.toNat - 48)) r else none
/-- the number of a text, told by hand -/
def rfD (neg : Bool) (d : List UInt8) : Option Int :=
  if d.length = 0 ∨ 19 < d.length ∨ (d.head? = some 48 ∧ (1 < d.length ∨ neg = true)) then none
  else match rv 0 d with
    | none => none
    | some n => if neg = true then (if n ≤ 9223372036854775808 then some (-(n : Int)) else none) else (if n < 9223372036854775808 then some (n : Int) else none)
def rfO (l : List UInt8) : Option Int := if l.head? = some 45 then rfD true l.tail else rfD false l
theorem isD_lt {n : Nat} (h : n < 10) : isD (UInt8.ofNat (48 + n)) = true ∧ (UInt8.ofNat (48 + n)).toNat - 48 = n := by
  have : (UInt8.ofNat (48 + n)).toNat = 48 + n := by simp; omega
  constructor
  · unfold isD; rw [this]; simp; omega
  · rw [this]; omega
theorem isD_of {c : UInt8} (h : isD c = true) : 48 ≤ c.toNat ∧ c.toNat ≤ 57 := by simpa [isD] using h
theorem rv_snoc (c : UInt8) : ∀ (l : List UInt8) (a : Nat), rv a (l ++ [c]) = (rv a l).bind fun b => if isD c = true then some (10 * b + (c.toNat - 48)) else none
  | [], a => by simp [rv]
  | d :: l, a => by
    simp only [List.cons_append, rv]
    split
    · exact rv_snoc c l _
    · rfl
theorem rv_mono : ∀ (l : List UInt8) (a n : Nat), rv a l = some n → a ≤ n
  | [], a, n, h => by simp [rv] at h; omega
  | c :: l, a, n, h => by
    unfold rv at h
    split at h
    · have := rv_mono l _ _ h; omega
    · cases h
theorem rv_lt : ∀ (l : List UInt8) (a n k : Nat), a < 10 ^ k → rv a l = some n → n < 10 ^ (k + l.length)
  | [], a, n, k, ha, h => by simp [rv] at h; subst h; simpa using ha
  | c :: l, a, n, k, ha, h => by
    unfold rv at h
    split at h
    · rename_i hd
      have := isD_of hd
      have := rv_lt l (10 * a + (c.toNat - 48)) n (k + 1) (by rw [Nat.pow_succ]; omega) h
      rwa [List.length_cons, show k + (l.length + 1) = k + 1 + l.length by omega]
    · cases h
theorem rv_dec : ∀ (u : Nat), rv 0 (Lib.decDigits u) = some u := by
  intro u
  induction u using Nat.strongRecOn with
  | _ u ih =>
    rw [Lib.decDigits]
    split
    · rename_i h
      have := isD_lt h
      simp only [rv]
      rw [if_pos this.1, this.2]
      simp
    · have h2 := isD_lt (n := u % 10) (by omega)
      rw [rv_snoc, ih (u / 10) (by omega)]
      simp only [Option.bind_some]
      rw [if_pos h2.1, h2.2]
      congr 1; omega
theorem dec_head : ∀ (u : Nat), 1 ≤ u → (Lib.decDigits u).head? ≠ some 48 := by
  intro u
  induction u using Nat.strongRecOn with
  | _ u ih =>
    intro h1
    rw [Lib.decDigits]
    split
    · rename_i h
      simp only [List.head?_cons, ne_eq, Option.some.injEq]
      intro e
      have := congrArg UInt8.toNat e
      simp at this; omega
    · have := ih (u / 10) (by omega) (by omega)
      have hl := Lib.decDigits_length (u / 10)
      have hp := Lib.nDigits_pos (u / 10)
      cases hd : Lib.decDigits (u / 10) with
      | nil => rw [hd] at hl; simp at hl; omega
      | cons a b => rw [hd] at this; simpa using this
theorem dec_first (u : Nat) : ∃ a b, Lib.decDigits u = a :: b ∧ isD a = true := by
  have hv := rv_dec u
  have hl := Lib.decDigits_length u
  have hp := Lib.nDigits_pos u
  cases hd : Lib.decDigits u with
  | nil => rw [hd] at hl; simp at hl; omega
  | cons a b =>
    refine ⟨a, b, rfl, ?_⟩
    rw [hd] at hv
    unfold rv at hv
    split at hv
    · assumption
    · cases hv
/-- digits without a nought ahead are what FormatInt makes of what they say -/
theorem dec_of : ∀ (k : Nat) (d : List UInt8) (n : Nat), d.length = k + 1 → d.head? ≠ some 48 → rv 0 d = some n → 1 ≤ n ∧ Lib.decDigits n = d
  | 0, d, n, hl, hh, hv => by
    match d, hl with
    | [c], _ =>
      unfold rv at hv
      split at hv
      · rename_i hc
        have hc2 := isD_of hc
        simp only [rv, Option.some.injEq] at hv
        have hne : c.toNat ≠ 48 := by
          intro e
          apply hh
          simp only [List.head?_cons, Option.some.injEq]
          exact UInt8.toNat_inj.1 e
        refine ⟨by omega, ?_⟩
        rw [Lib.decDigits, dif_pos (by omega)]
        congr 1
        apply UInt8.toNat_inj.1
        simp; omega
      · cases hv
  | k + 1, d, n, hl, hh, hv => by
    have hne : d ≠ [] := by intro e; subst e; simp at hl
    obtain ⟨d', c, rfl⟩ : ∃ d' c, d = d' ++ [c] := ⟨d.dropLast, d.getLast hne, (List.dropLast_concat_getLast hne).symm⟩
    have hl' : d'.length = k + 1 := by simp at hl; omega
    rw [rv_snoc] at hv
    cases hm : rv 0 d' with
    | none => rw [hm] at hv; cases hv
    | some m =>
      rw [hm] at hv
      simp only [Option.bind_some] at hv
      split at hv
      · rename_i hc
        have hc2 := isD_of hc
        injection hv with hv
        have hh' : d'.head? ≠ some 48 := by
          cases d' with
          | nil => simp at hl'
          | cons a b => simpa using hh
        obtain ⟨h1, h2⟩ := dec_of k d' m hl' hh' hm
        refine ⟨by omega, ?_⟩
        rw [Lib.decDigits, dif_neg (by omega), show n / 10 = m by omega, h2]
        congr 2
        apply UInt8.toNat_inj.1
        simp; omega
      · cases hv
theorem parseM_of (M : Nat) (hM : M < 18446744073709551616) : ∀ (l : List UInt8) (a n : Nat), rv a l = some n → n ≤ M → Lib.parseUintM M a l = .ok n
  | [], a, n, h, _ => by simp [rv] at h; subst h; rfl
  | c :: l, a, n, h, hn => by
    unfold rv at h
    split at h
    · rename_i hc
      have hc2 := isD_of hc
      have h1 := rv_mono _ _ _ h
      unfold Lib.parseUintM
      rw [if_pos hc2, if_neg (by omega), if_neg (by omega)]
      rw [show a * 10 + (c.toNat - 48) = 10 * a + (c.toNat - 48) by omega]
      exact parseM_of M hM l _ n h hn
    · cases h
theorem pow63 : (2 : Nat) ^ 63 = 9223372036854775808 := by decide
theorem pow64 : (2 : Nat) ^ 64 = 18446744073709551616 := by decide
theorem parseB_of {l : List UInt8} {n : Nat} (h0 : l ≠ []) (h : rv 0 l = some n) (hn : n ≤ 9223372036854775808) : Lib.parseUintB 64 l = .ok n := by
  unfold Lib.parseUintB
  rw [if_neg h0]
  exact parseM_of _ (by decide) l 0 n h (by rw [pow64]; omega)
theorem nDig_le {u : Nat} (h : u ≤ 9223372036854775808) : Lib.nDigits u ≤ 19 := by
  rcases Nat.lt_or_ge 19 (Lib.nDigits u) with h1 | h1
  · exfalso
    have hlen : ∀ (k u : Nat), k < Lib.nDigits u → k = 0 ∨ 10 ^ k ≤ u := by
      intro k
      induction k with
      | zero => intro u _; exact .inl rfl
      | succ k ih =>
        intro u hk
        right
        by_cases hs : u < 10
        · rw [Lib.nDigits_small hs] at hk; omega
        · rw [Lib.nDigits_big hs] at hk
          rcases ih (u / 10) (by omega) with e | e
          · subst e; simp; omega
          · rw [Nat.pow_succ]; omega
    rcases hlen 19 u h1 with e | e
    · omega
    · have : (10 : Nat) ^ 19 = 10000000000000000000 := by decide
      omega
  · exact h1
theorem dec_zero : Lib.decDigits 0 = [48] := by rw [Lib.decDigits, dif_pos (by omega)]; rfl
/-- what is told by hand of what FormatInt made -/
theorem rfO_itoa {v : Int} (h1 : -9223372036854775808 ≤ v) (h2 : v < 9223372036854775808) : rfO (Lib.itoa v) = some v := by
  unfold Lib.itoa rfO
  by_cases hn : v < 0
  · rw [if_pos hn, if_pos (by rfl)]
    simp only [List.tail_cons]
    have hl := Lib.decDigits_length v.natAbs
    have hp := Lib.nDigits_pos v.natAbs
    have hle := nDig_le (u := v.natAbs) (by omega)
    have hh := dec_head v.natAbs (by omega)
    unfold rfD
    rw [if_neg (by
      rw [hl]
      rintro (h | h | ⟨h, _⟩)
      · omega
      · omega
      · exact hh h), rv_dec]
    simp only [if_true]
    rw [if_pos (by omega)]
    congr 1; omega
  · rw [if_neg hn]
    obtain ⟨a, b, e, ha⟩ := dec_first v.toNat
    have ha2 := isD_of ha
    rw [if_neg (by
      rw [e]; simp only [List.head?_cons, Option.some.injEq]
      intro e2; subst e2; simp [isD] at ha)]
    have hl := Lib.decDigits_length v.toNat
    have hp := Lib.nDigits_pos v.toNat
    have hle := nDig_le (u := v.toNat) (by omega)
    unfold rfD
    rw [if_neg (by
      rintro (h | h | ⟨h, h3⟩)
      · omega
      · omega
      · by_cases h0 : v.toNat = 0
        · rw [h0, dec_zero] at h3; simp at h3
        · exact dec_head v.toNat (by omega) h), rv_dec]
    simp only
    rw [if_neg (by decide), if_pos (by omega)]
    congr 1; omega
/-- what is told by hand is what ParseInt tells, and FormatInt makes the text again -/
theorem parse_of_rfO {l : List UInt8} {v : Int} (h : rfO l = some v) : Lib.parseIntB 64 l = .ok v ∧ Lib.itoa v = l := by
  unfold rfO at h
  by_cases hh : l.head? = some 45
  · rw [if_pos hh] at h
    cases l with
    | nil => cases hh
    | cons c d =>
      simp only [List.head?_cons, Option.some.injEq] at hh
      subst hh
      simp only [List.tail_cons] at h
      unfold rfD at h
      split at h
      · cases h
      · rename_i hd
        split at h
        · cases h
        · rename_i n hv
          rw [if_pos rfl] at h
          split at h
          · rename_i hle
            injection h with h
            have h0 : d ≠ [] := by intro e; subst e; simp at hd
            have hh2 : d.head? ≠ some 48 := fun e => hd (.inr (.inr ⟨e, .inr rfl⟩))
            obtain ⟨h1, h2⟩ := dec_of (d.length - 1) d n (by have : d.length ≠ 0 := fun e => hd (.inl e); omega) hh2 hv
            constructor
            · unfold Lib.parseIntB
              simp only
              have e45 : (45 : UInt8).toNat = 45 := rfl
              rw [if_pos (.inr e45), parseB_of h0 hv hle]
              simp only
              rw [if_neg (by rw [e45]; simp), if_neg (by rw [e45]; simp only [true_and]; show ¬ 2 ^ 63 < n; rw [pow63]; omega), if_pos e45, h]
            · unfold Lib.itoa
              rw [if_pos (by omega), show v.natAbs = n by omega, h2]
          · cases h
  · rw [if_neg hh] at h
    unfold rfD at h
    split at h
    · cases h
    · rename_i hd
      split at h
      · cases h
      · rename_i n hv
        rw [if_neg (by decide)] at h
        split at h
        · rename_i hlt
          injection h with h
          have h0 : l ≠ [] := by intro e; subst e; simp at hd
          have hdig : Lib.decDigits n = l := by
            by_cases hz : l.head? = some 48
            · have hl1 : l.length = 1 := by
                have : ¬ 1 < l.length := fun e => hd (.inr (.inr ⟨hz, .inl e⟩))
                have : l.length ≠ 0 := fun e => hd (.inl e)
                omega
              match l, hl1, hz with
              | [c], _, hz =>
                simp only [List.head?_cons, Option.some.injEq] at hz
                subst hz
                simp [rv, isD] at hv
                subst hv
                exact dec_zero
            · exact (dec_of (l.length - 1) l n (by have : l.length ≠ 0 := fun e => hd (.inl e); omega) hz hv).2
          constructor
          · cases l with
            | nil => exact absurd rfl h0
            | cons c d =>
              have hc : isD c = true := by
                have hv2 := hv
                unfold rv at hv2
                split at hv2
                · assumption
                · cases hv2
              have hc2 := isD_of hc
              unfold Lib.parseIntB
              simp only
              rw [if_neg (by omega), parseB_of h0 hv (by omega)]
              simp only
              rw [if_neg (by rintro ⟨_, h3⟩; rw [show 64 - 1 = 63 from rfl, pow63] at h3; omega), if_neg (by omega), if_neg (by omega), h]
          · unfold Lib.itoa
            rw [if_neg (by omega), show v.toNat = n by omega, hdig]
        · cases h
end Go.Proofs.YtnhjphjdncaimaaGreatDoor
namespace Go.Proofs.YtnhjphjdncaimaaGreatDoor
open Go.RowKit
/-- the character of a text, told by hand; 0 bytes: none -/
def nxN (n b0 b1 b2 b3 : Nat) : Nat × Nat :=
  if b0 < 128 then (b0, 1)
  else if 194 ≤ b0 ∧ b0 ≤ 223 then (if n < 2 ∨ b1 < 128 ∨ 191 < b1 then (0, 0) else ((b0 - 192) * 64 + (b1 - 128), 2))
  else if 224 ≤ b0 ∧ b0 ≤ 239 then
    (if n < 3 ∨ b1 < 128 ∨ 191 < b1 ∨ b2 < 128 ∨ 191 < b2 ∨ (b0 - 224) * 4096 + (b1 - 128) * 64 + (b2 - 128) < 2048 ∨ (55296 ≤ (b0 - 224) * 4096 + (b1 - 128) * 64 + (b2 - 128) ∧ (b0 - 224) * 4096 + (b1 - 128) * 64 + (b2 - 128) ≤ 57343) then (0, 0)
     else ((b0 - 224) * 4096 + (b1 - 128) * 64 + (b2 - 128), 3))
  else if 240 ≤ b0 ∧ b0 ≤ 244 then
    (if n < 4 ∨ b1 < 128 ∨ 191 < b1 ∨ b2 < 128 ∨ 191 < b2 ∨ b3 < 128 ∨ 191 < b3 ∨ (b0 - 240) * 262144 + (b1 - 128) * 4096 + (b2 - 128) * 64 + (b3 - 128) < 65536 ∨ 1114111 < (b0 - 240) * 262144 + (b1 - 128) * 4096 + (b2 - 128) * 64 + (b3 - 128) then (0, 0)
     else ((b0 - 240) * 262144 + (b1 - 128) * 4096 + (b2 - 128) * 64 + (b3 - 128), 4))
  else (0, 0)
/-- how many bytes ValidString goes on -/
def vnN (n b0 b1 b2 b3 : Nat) : Nat :=
  if b0 < 128 then 1
  else if Lib.firstT b0 % 8 = 2 then (if n < 2 ∨ b1 < Lib.accLo (Lib.firstT b0 / 16) ∨ Lib.accHi (Lib.firstT b0 / 16) < b1 then 0 else 2)
  else if Lib.firstT b0 % 8 = 3 then (if n < 3 ∨ b1 < Lib.accLo (Lib.firstT b0 / 16) ∨ Lib.accHi (Lib.firstT b0 / 16) < b1 ∨ b2 < 128 ∨ 191 < b2 then 0 else 3)
  else if Lib.firstT b0 % 8 = 4 then (if n < 4 ∨ b1 < Lib.accLo (Lib.firstT b0 / 16) ∨ Lib.accHi (Lib.firstT b0 / 16) < b1 ∨ b2 < 128 ∨ 191 < b2 ∨ b3 < 128 ∨ 191 < b3 then 0 else 4)
  else 0
theorem first_C (b : Nat) : Lib.firstT b = 240 ∧ b < 128 ∨ Lib.firstT b = 241 ∧ 128 ≤ b ∧ b < 194 ∨ Lib.firstT b = 2 ∧ 194 ≤ b ∧ b < 224 ∨ Lib.firstT b = 19 ∧ b = 224 ∨ Lib.firstT b = 3 ∧ 225 ≤ b ∧ b < 240 ∧ b ≠ 237 ∨ Lib.firstT b = 35 ∧ b = 237 ∨ Lib.firstT b = 52 ∧ b = 240 ∨ Lib.firstT b = 4 ∧ 241 ≤ b ∧ b < 244 ∨ Lib.firstT b = 68 ∧ b = 244 ∨ Lib.firstT b = 241 ∧ 245 ≤ b := by
  unfold Lib.firstT
  repeat' split
  all_goals omega
theorem if_same {α : Type} {p q : Prop} [Decidable p] [Decidable q] (h : p ↔ q) {a b : α} : (if p then a else b) = if q then a else b := by
  by_cases hp : p
  · rw [if_pos hp, if_pos (h.1 hp)]
  · rw [if_neg hp, if_neg (fun hq => hp (h.2 hq))]
theorem snd_if {p : Prop} [Decidable p] {r k : Nat} : (if p then ((0, 0) : Nat × Nat) else (r, k)).2 = if p then 0 else k := by
  by_cases hp : p
  · rw [if_pos hp, if_pos hp]
  · rw [if_neg hp, if_neg hp]
theorem vn2 {n b0 b1 b2 b3 f lo hi : Nat} (e : Lib.firstT b0 = f) (h0 : ¬ b0 < 128) (h2 : f % 8 = 2) (hl : Lib.accLo (f / 16) = lo) (hh : Lib.accHi (f / 16) = hi) :
    vnN n b0 b1 b2 b3 = if n < 2 ∨ b1 < lo ∨ hi < b1 then 0 else 2 := by
  unfold vnN
  rw [e, if_neg h0, if_pos h2, hl, hh]
theorem vn3 {n b0 b1 b2 b3 f lo hi : Nat} (e : Lib.firstT b0 = f) (h0 : ¬ b0 < 128) (h2 : f % 8 = 3) (hl : Lib.accLo (f / 16) = lo) (hh : Lib.accHi (f / 16) = hi) :
    vnN n b0 b1 b2 b3 = if n < 3 ∨ b1 < lo ∨ hi < b1 ∨ b2 < 128 ∨ 191 < b2 then 0 else 3 := by
  unfold vnN
  rw [e, if_neg h0, if_neg (by omega), if_pos h2, hl, hh]
theorem vn4 {n b0 b1 b2 b3 f lo hi : Nat} (e : Lib.firstT b0 = f) (h0 : ¬ b0 < 128) (h2 : f % 8 = 4) (hl : Lib.accLo (f / 16) = lo) (hh : Lib.accHi (f / 16) = hi) :
    vnN n b0 b1 b2 b3 = if n < 4 ∨ b1 < lo ∨ hi < b1 ∨ b2 < 128 ∨ 191 < b2 ∨ b3 < 128 ∨ 191 < b3 then 0 else 4 := by
  unfold vnN
  rw [e, if_neg h0, if_neg (by omega), if_neg (by omega), if_pos h2, hl, hh]
theorem vn0 {n b0 b1 b2 b3 : Nat} (e : Lib.firstT b0 = 241) (h0 : ¬ b0 < 128) : vnN n b0 b1 b2 b3 = 0 := by
  unfold vnN
  rw [e, if_neg h0, if_neg (by decide), if_neg (by decide), if_neg (by decide)]
theorem nx3 {n b0 b1 b2 b3 : Nat} (h : 224 ≤ b0 ∧ b0 ≤ 239) : nxN n b0 b1 b2 b3 = if n < 3 ∨ b1 < 128 ∨ 191 < b1 ∨ b2 < 128 ∨ 191 < b2 ∨ (b0 - 224) * 4096 + (b1 - 128) * 64 + (b2 - 128) < 2048 ∨ (55296 ≤ (b0 - 224) * 4096 + (b1 - 128) * 64 + (b2 - 128) ∧ (b0 - 224) * 4096 + (b1 - 128) * 64 + (b2 - 128) ≤ 57343) then (0, 0)
     else ((b0 - 224) * 4096 + (b1 - 128) * 64 + (b2 - 128), 3) := by
  unfold nxN
  rw [if_neg (by omega), if_neg (by omega), if_pos h]
theorem nx4 {n b0 b1 b2 b3 : Nat} (h : 240 ≤ b0 ∧ b0 ≤ 244) : nxN n b0 b1 b2 b3 = if n < 4 ∨ b1 < 128 ∨ 191 < b1 ∨ b2 < 128 ∨ 191 < b2 ∨ b3 < 128 ∨ 191 < b3 ∨ (b0 - 240) * 262144 + (b1 - 128) * 4096 + (b2 - 128) * 64 + (b3 - 128) < 65536 ∨ 1114111 < (b0 - 240) * 262144 + (b1 - 128) * 4096 + (b2 - 128) * 64 + (b3 - 128) then (0, 0)
     else ((b0 - 240) * 262144 + (b1 - 128) * 4096 + (b2 - 128) * 64 + (b3 - 128), 4) := by
  unfold nxN
  rw [if_neg (by omega), if_neg (by omega), if_neg (by omega), if_pos h]
theorem nx2 {n b0 b1 b2 b3 : Nat} (h : 194 ≤ b0 ∧ b0 ≤ 223) : nxN n b0 b1 b2 b3 = if n < 2 ∨ b1 < 128 ∨ 191 < b1 then (0, 0) else ((b0 - 192) * 64 + (b1 - 128), 2) := by
  unfold nxN
  rw [if_neg (by omega), if_pos h]
theorem nx0 {n b0 b1 b2 b3 : Nat} (h0 : ¬ b0 < 128) (h : b0 < 194 ∨ 245 ≤ b0) : nxN n b0 b1 b2 b3 = (0, 0) := by
  unfold nxN
  rw [if_neg h0, if_neg (by omega), if_neg (by omega), if_neg (by omega)]
theorem nx1 {n b0 b1 b2 b3 : Nat} (h : b0 < 128) : nxN n b0 b1 b2 b3 = (b0, 1) := by
  unfold nxN
  rw [if_pos h]
theorem nx_vn (n b0 b1 b2 b3 : Nat) : (nxN n b0 b1 b2 b3).2 = vnN n b0 b1 b2 b3 := by
  rcases first_C b0 with ⟨e, h⟩ | ⟨e, h⟩ | ⟨e, h⟩ | ⟨e, h⟩ | ⟨e, h⟩ | ⟨e, h⟩ | ⟨e, h⟩ | ⟨e, h⟩ | ⟨e, h⟩ | ⟨e, h⟩
  · rw [nx1 h]; unfold vnN; rw [if_pos h]
  · rw [nx0 (by omega) (by omega), vn0 e (by omega)]
  · rw [nx2 (by omega), snd_if, vn2 e (by omega) (by decide) (lo := 128) (hi := 191) rfl rfl]
  · rw [nx3 (by omega), snd_if, vn3 e (by omega) (by decide) (lo := 160) (hi := 191) rfl rfl]
    subst h
    exact if_same (by omega)
  · rw [nx3 (by omega), snd_if, vn3 e (by omega) (by decide) (lo := 128) (hi := 191) rfl rfl]
    exact if_same (by omega)
  · rw [nx3 (by omega), snd_if, vn3 e (by omega) (by decide) (lo := 128) (hi := 159) rfl rfl]
    subst h
    exact if_same (by omega)
  · rw [nx4 (by omega), snd_if, vn4 e (by omega) (by decide) (lo := 144) (hi := 191) rfl rfl]
    subst h
    exact if_same (by omega)
  · rw [nx4 (by omega), snd_if, vn4 e (by omega) (by decide) (lo := 128) (hi := 191) rfl rfl]
    exact if_same (by omega)
  · rw [nx4 (by omega), snd_if, vn4 e (by omega) (by decide) (lo := 128) (hi := 143) rfl rfl]
    subst h
    exact if_same (by omega)
  · rw [nx0 (by omega) (by omega), vn0 e (by omega)]
theorem if_no0 {p : Prop} [Decidable p] {r k : Nat} (h : (if p then ((0, 0) : Nat × Nat) else (r, k)).2 ≠ 0) : ¬ p := by
  intro hp
  rw [if_pos hp] at h
  exact h rfl
theorem nx_dec (n b0 b1 b2 b3 : Nat) (h : (nxN n b0 b1 b2 b3).2 ≠ 0) : nxN n b0 b1 b2 b3 = Lib.decodeN n b0 b1 b2 b3 := by
  by_cases c1 : b0 < 128
  · rw [nx1 c1]; unfold Lib.decodeN; rw [if_pos c1]
  by_cases c0 : b0 < 194 ∨ 245 ≤ b0
  · rw [nx0 c1 c0] at h; exact absurd rfl h
  by_cases c2 : b0 ≤ 223
  · rw [nx2 (by omega)] at h ⊢
    have hp := if_no0 h
    clear h
    rw [if_neg hp]
    unfold Lib.decodeN
    rw [if_neg c1, if_pos (by omega), if_pos (by omega)]
    have e1 : b0 % 32 = b0 - 192 := by omega
    have e2 : b1 % 64 = b1 - 128 := by omega
    rw [e1, e2]
  by_cases c3 : b0 ≤ 239
  · rw [nx3 (by omega)] at h ⊢
    have hp := if_no0 h
    clear h
    rw [if_neg hp]
    have e1 : b0 % 16 = b0 - 224 := by omega
    have e2 : b1 % 64 = b1 - 128 := by omega
    have e3 : b2 % 64 = b2 - 128 := by omega
    have d1 : b1 / 64 = 2 := by omega
    have d2 : b2 / 64 = 2 := by omega
    unfold Lib.decodeN
    rw [e1, e2, e3, if_neg c1, if_neg (by omega), if_pos (by omega), if_pos (by omega)]
  · rw [nx4 (by omega)] at h ⊢
    have hp := if_no0 h
    clear h
    rw [if_neg hp]
    have e1 : b0 % 8 = b0 - 240 := by omega
    have e2 : b1 % 64 = b1 - 128 := by omega
    have e3 : b2 % 64 = b2 - 128 := by omega
    have e4 : b3 % 64 = b3 - 128 := by omega
    have d1 : b1 / 64 = 2 := by omega
    have d2 : b2 / 64 = 2 := by omega
    have d3 : b3 / 64 = 2 := by omega
    unfold Lib.decodeN
    rw [e2, e3, e4, e1, if_neg c1, if_neg (by omega), if_neg (by omega), if_pos (by omega), if_pos (by omega)]
/-- is a rune one of texts, told by hand? -/
def rchr (r : Nat) : Bool := decide (r = 9) || (decide (r = 10) || (decide (r = 13) || ((decide (32 ≤ r) && decide (r ≤ 55295)) || ((decide (57344 ≤ r) && decide (r ≤ 65533)) || (decide (65536 ≤ r) && decide (r ≤ 1114111))))))
/-- the character at a place -/
def nxt (s : ByteArray) (k : Nat) : Nat × Nat := nxN (s.size - k) (bt s k).toNat (bt s (k + 1)).toNat (bt s (k + 2)).toNat (bt s (k + 3)).toNat
theorem get_bt (s : ByteArray) (k : Nat) : (s.get! k).toNat = (bt s k).toNat := by
  unfold bt
  rw [Int.toNat_natCast]
  show (s.data[k]!).toNat = _
  rw [getElem!_def]
  cases s.data[k]? <;> rfl
theorem nxt_dec (s : ByteArray) (k : Nat) (_hk : k < s.size) (h : (nxt s k).2 ≠ 0) : nxt s k = Utf8.decode s k := by
  rw [Lib.decode_at, get_bt, get_bt, get_bt, get_bt]
  exact nx_dec _ _ _ _ _ h
theorem vnum_vn (t : ByteArray) : vnum t = vnN t.size (bt t 0).toNat (bt t 1).toNat (bt t 2).toNat (bt t 3).toNat := by
  obtain ⟨n0, l0, e0⟩ := bt_nat t 0
  obtain ⟨n1, l1, e1⟩ := bt_nat t 1
  obtain ⟨n2, l2, e2⟩ := bt_nat t 2
  obtain ⟨n3, l3, e3⟩ := bt_nat t 3
  unfold vnum vnN
  rw [e0, e1, e2, e3]
  simp only [Int.toNat_natCast]
  repeat' split
  all_goals first | rfl | omega
theorem nxt_vnum (s : ByteArray) (k : Nat) (_hk : k < s.size) : (nxt s k).2 = vnum (s.extract k s.size) := by
  rw [vnum_vn, bt_ext, bt_ext, bt_ext, bt_ext, ext_size]
  exact nx_vn _ _ _ _ _
end Go.Proofs.YtnhjphjdncaimaaGreatDoor
namespace Go.Proofs.YtnhjphjdncaimaaGreatDoor
open Go.RowKit
/-- is a text right, told by hand? -/
def rTf (s : ByteArray) : Nat → Nat → Bool
  | 0, _ => true
  | n + 1, k => if k < s.size then (if (nxt s k).2 = 0 then false else (rchr (nxt s k).1 && rTf s n (k + (nxt s k).2))) else true
theorem rTf_fuel (s : ByteArray) : ∀ (n m k : Nat), s.size ≤ k + n → s.size ≤ k + m → rTf s n k = rTf s m k
  | 0, 0, _, _, _ => rfl
  | 0, m + 1, k, h, _ => by unfold rTf; rw [if_neg (by omega)]
  | n + 1, 0, k, _, h => by unfold rTf; rw [if_neg (by omega)]
  | n + 1, m + 1, k, h1, h2 => by
    unfold rTf
    by_cases hk : k < s.size
    · rw [if_pos hk, if_pos hk]
      by_cases h0 : (nxt s k).2 = 0
      · rw [if_pos h0, if_pos h0]
      · rw [if_neg h0, if_neg h0, rTf_fuel s n m _ (by omega) (by omega)]
    · rw [if_neg hk, if_neg hk]
theorem rT_no (s : ByteArray) (k : Nat) (hk : k < s.size) (h : (nxt s k).2 = 0) : rTf s s.size k = false := by
  obtain ⟨n, hn⟩ : ∃ n, n = s.size := ⟨_, rfl⟩
  rw [← hn]
  match n with
  | 0 => omega
  | n + 1 => unfold rTf; rw [if_pos hk, if_pos h]
theorem rT_step (s : ByteArray) (k : Nat) (hk : k < s.size) (h : (nxt s k).2 ≠ 0) : rTf s s.size k = (rchr (nxt s k).1 && rTf s s.size (k + (nxt s k).2)) := by
  rw [rTf_fuel s s.size (s.size + 1) k (by omega) (by omega)]
  conv => lhs; unfold rTf
  rw [if_pos hk, if_neg h]
theorem rT_end (s : ByteArray) (k : Nat) (h : ¬ k < s.size) : rTf s s.size k = true := by
  obtain ⟨n, hn⟩ : ∃ n, n = s.size := ⟨_, rfl⟩
  rw [← hn]
  match n with
  | 0 => rfl
  | n + 1 => unfold rTf; rw [if_neg h]
theorem vnN_le (n b0 b1 b2 b3 : Nat) : vnN n b0 b1 b2 b3 ≤ 4 := by
  unfold vnN
  repeat' split
  all_goals omega
theorem nxt_le (s : ByteArray) (k : Nat) : (nxt s k).2 ≤ 4 := by
  unfold nxt
  rw [nx_vn]
  exact vnN_le _ _ _ _ _
end Go.Proofs.YtnhjphjdncaimaaGreatDoor
namespace Go.Proofs.YtnhjphjdncaimaaGreatDoor
open Go.RowKit
/-- a byte of a text -/
theorem run_sx (s : ByteArray) (k : Nat) (hk : k < s.size) (z : Int) (hz : z = (k : Int)) (W : World) : (Instr.index 9 (.string s) (.int .i64 z)).run Tryz.prog W = .ok (.int .u8 (bt s k)) W := by
  subst hz
  rw [run_index_string W 9 s .i64 _ Tryz.underlying9, dif_pos ⟨by omega, by omega⟩]
  have e : ((k : Int)).toNat = k := by omega
  simp only [e]
  rw [bt_get]
def win (r a b : Int) : Bool := decide (a ≤ r) && decide (r ≤ b)
theorem win_yes {r a b : Int} (h : win r a b = true) : a ≤ r ∧ r ≤ b := by unfold win at h; simpa using h
theorem win_no {r a b : Int} (h : win r a b = false) : ¬ (a ≤ r ∧ r ≤ b) := by
  rintro ⟨h1, h2⟩
  unfold win at h
  simp [h1, h2] at h
set_option maxRecDepth 100000 in
set_option maxHeartbeats 400000 in
theorem within_any (r a b : Int) (w : World) : Calls Tryz.prog 118 #[.int .i32 r, .int .i32 a, .int .i32 b] w fun e w' => e = .returned (.bool (win r a b)) ∧ w = w' := by
  by_cases h1 : a ≤ r
  · by_cases h2 : r ≤ b
    · have H : Hid (win r a b = true) := by show _ = _; simp [win, h1, h2]
      go_enter Tryz.func118, Tryz.ntmps118
      go_wp2
      go_ret
      exact ⟨by rw [H.out]; rfl, rfl⟩
    · have H : Hid (win r a b = false) := by show _ = _; simp [win, h2]
      have h2d : decide (r ≤ b) = false := by simpa using h2
      go_enter Tryz.func118, Tryz.ntmps118
      go_wp2
      go_ret
      exact ⟨by rw [H.out]; rfl, rfl⟩
  · have H : Hid (win r a b = false) := by show _ = _; simp [win, h1]
    have h1d : decide (a ≤ r) = false := by simpa using h1
    go_enter Tryz.func118, Tryz.ntmps118
    go_wp2
    go_ret
    exact ⟨by rw [H.out]; rfl, rfl⟩
theorem rchr_win (r : Nat) : rchr r = (decide ((r : Int) = 9) || (decide ((r : Int) = 10) || (decide ((r : Int) = 13) || (win r 32 55295 || (win r 57344 65533 || win r 65536 1114111))))) := by
  unfold rchr win
  rw [Bool.eq_iff_iff]
  simp only [Bool.or_eq_true, Bool.and_eq_true, decide_eq_true_eq]
  omega
set_option maxRecDepth 100000 in
set_option maxHeartbeats 2000000 in
theorem rchar_any (r : Nat) (w : World) : Calls Tryz.prog 102 #[.int .i32 (r : Int)] w fun e w' => e = .returned (.bool (rchr r)) ∧ w = w' := by
  have hw := rchr_win r
  generalize (r : Int) = z at *
  by_cases h9 : z = 9
  · have f : (z == 9) = true := by simpa using h9
    have H : Hid (rchr r = true) := by show _ = _; rw [hw]; simp [h9]
    clear h9 hw
    go_enter Tryz.func102, Tryz.ntmps102
    go_wp2_with (go_at_call 118; refine (within_any _ _ _ _).mono ?_; rintro e w' ⟨rfl, rfl⟩)
    go_ret
    exact ⟨by rw [H.out]; rfl, rfl⟩
  have f9 : (z == 9) = false := by simpa using h9
  by_cases h10 : z = 10
  · have f : (z == 10) = true := by simpa using h10
    have H : Hid (rchr r = true) := by show _ = _; rw [hw]; simp [h10]
    clear h9 h10 hw
    go_enter Tryz.func102, Tryz.ntmps102
    go_wp2_with (go_at_call 118; refine (within_any _ _ _ _).mono ?_; rintro e w' ⟨rfl, rfl⟩)
    go_ret
    exact ⟨by rw [H.out]; rfl, rfl⟩
  have f10 : (z == 10) = false := by simpa using h10
  by_cases h13 : z = 13
  · have f : (z == 13) = true := by simpa using h13
    have H : Hid (rchr r = true) := by show _ = _; rw [hw]; simp [h13]
    clear h9 h10 h13 hw
    go_enter Tryz.func102, Tryz.ntmps102
    go_wp2_with (go_at_call 118; refine (within_any _ _ _ _).mono ?_; rintro e w' ⟨rfl, rfl⟩)
    go_ret
    exact ⟨by rw [H.out]; rfl, rfl⟩
  have f13 : (z == 13) = false := by simpa using h13
  rcases Bool.eq_false_or_eq_true (win z 32 55295) with a1 | a1
  · have H : Hid (rchr r = true) := by show _ = _; rw [hw, a1]; simp
    clear h9 h10 h13 hw
    go_enter Tryz.func102, Tryz.ntmps102
    go_wp2_with (go_at_call 118; refine (within_any _ _ _ _).mono ?_; rintro e w' ⟨rfl, rfl⟩)
    go_ret
    exact ⟨by rw [H.out]; rfl, rfl⟩
  rcases Bool.eq_false_or_eq_true (win z 57344 65533) with a2 | a2
  · have H : Hid (rchr r = true) := by show _ = _; rw [hw, a2]; simp
    clear h9 h10 h13 hw
    go_enter Tryz.func102, Tryz.ntmps102
    go_wp2_with (go_at_call 118; refine (within_any _ _ _ _).mono ?_; rintro e w' ⟨rfl, rfl⟩)
    go_ret
    exact ⟨by rw [H.out]; rfl, rfl⟩
  have H : Hid (rchr r = win z 65536 1114111) := by show _ = _; rw [hw, a1, a2]; simp [h9, h10, h13]
  clear h9 h10 h13 hw
  go_enter Tryz.func102, Tryz.ntmps102
  go_wp2_with (go_at_call 118; refine (within_any _ _ _ _).mono ?_; rintro e w' ⟨rfl, rfl⟩)
  go_ret
  exact ⟨by rw [H.out]; rfl, rfl⟩
theorem ret_nx {a m : Int} {c d : Nat} (h : a = (c : Int)) (h2 : m = (d : Int)) : Ending.returned (.tuple #[.int .i32 a, .int .i64 m]) = .returned (.tuple #[.int .i32 (c : Int), .int .i64 (d : Int)]) := by rw [h, h2]
theorem nxt_of {s : ByteArray} {k n0 n1 n2 n3 : Nat} (e0 : bt s k = n0) (e1 : bt s (k + 1) = n1) (e2 : bt s (k + 2) = n2) (e3 : bt s (k + 3) = n3) : nxt s k = nxN (s.size - k) n0 n1 n2 n3 := by
  unfold nxt
  rw [e0, e1, e2, e3]
  simp only [Int.toNat_natCast]
set_option maxRecDepth 100000 in
set_option maxHeartbeats 8000000 in
theorem rnext_any (s : ByteArray) (k : Nat) (hk : k < s.size) (hs : s.size ≤ 140737488355328) (w : World) :
    Calls Tryz.prog 101 #[.string s, .int .i64 k] w fun e w' => e = .returned (.tuple #[.int .i32 ((nxt s k).1 : Nat), .int .i64 ((nxt s k).2 : Nat)]) ∧ w = w' := by
  obtain ⟨n0, l0, e0⟩ := bt_nat s k
  obtain ⟨n1, l1, e1⟩ := bt_nat s (k + 1)
  obtain ⟨n2, l2, e2⟩ := bt_nat s (k + 2)
  obtain ⟨n3, l3, e3⟩ := bt_nat s (k + 3)
  have hN := nxt_of e0 e1 e2 e3
  have hx0 := run_sx s k hk k rfl
  rw [e0] at hx0
  by_cases c1 : n0 < 128
  · have HR : Hid (nxt s k = (n0, 1)) := by show _ = _; rw [hN, nx1 c1]
    have i1 : (n0 : Int) < 128 := by omega
    clear hN e0 e1 e2 e3 c1
    go_enter Tryz.func101, Tryz.ntmps101
    go_wp2
    go_ret2
    exact ⟨by rw [HR.out]; rfl, rfl⟩
  have i1 : decide ((n0 : Int) < 128) = false := by simp; omega
  by_cases c0 : n0 < 194
  · have HR : Hid (nxt s k = (0, 0)) := by show _ = _; rw [hN, nx0 c1 (.inl c0)]
    have i2 : decide (194 ≤ (n0 : Int)) = false := by simp; omega
    have i3 : decide (224 ≤ (n0 : Int)) = false := by simp; omega
    have i4 : decide (240 ≤ (n0 : Int)) = false := by simp; omega
    clear hN e0 e1 e2 e3 c1 c0
    go_enter Tryz.func101, Tryz.ntmps101
    go_wp2
    go_ret2
    exact ⟨by rw [HR.out]; rfl, rfl⟩
  have i2 : 194 ≤ (n0 : Int) := by omega
  by_cases c5 : 244 < n0
  · have HR : Hid (nxt s k = (0, 0)) := by show _ = _; rw [hN, nx0 c1 (.inr (by omega))]
    have i3 : decide ((n0 : Int) ≤ 223) = false := by simp; omega
    have i4 : 224 ≤ (n0 : Int) := by omega
    have i5 : decide ((n0 : Int) ≤ 239) = false := by simp; omega
    have i6 : 240 ≤ (n0 : Int) := by omega
    have i7 : decide ((n0 : Int) ≤ 244) = false := by simp; omega
    clear hN e0 e1 e2 e3 c1 c0
    go_enter Tryz.func101, Tryz.ntmps101
    go_wp2
    go_ret2
    exact ⟨by rw [HR.out]; rfl, rfl⟩
  have cc := c5
  by_cases c2 : n0 ≤ 223
  · have i3 : (n0 : Int) ≤ 223 := by omega
    by_cases cs : s.size < k + 2
    · skip
      have HR : Hid (nxt s k = (0, 0)) := by show _ = _; rw [hN, nx2 (by omega), if_pos (by omega)]
      have i9 : (s.size : Int) < (k : Int) + 2 := by omega
      clear hN e0 e1 e2 e3 c1 c0 cc
      go_enter Tryz.func101, Tryz.ntmps101
      go_wp2
      go_ret2
      exact ⟨by rw [HR.out]; exact ret_nx (by dsimp only; omega) rfl, rfl⟩
    have i9 : decide ((s.size : Int) < (k : Int) + 2) = false := by simp; omega
    have hx1 := run_sx s (k + 1) (by omega) ((k : Int) + 1) (by omega)
    rw [e1] at hx1
    by_cases d1 : n1 < 128
    · skip
      have HR : Hid (nxt s k = (0, 0)) := by show _ = _; rw [hN, nx2 (by omega), if_pos (by omega)]
      have j1 : (n1 : Int) < 128 := by omega
      clear hN e0 e1 e2 e3 c1 c0 cc
      go_enter Tryz.func101, Tryz.ntmps101
      go_wp2_with fail
      refine wp_loop_rounds 5 ?_
      rw [rounds_succ]
      go_wp2
      go_ret2
      exact ⟨by rw [HR.out]; exact ret_nx (by dsimp only; omega) rfl, rfl⟩
    have j1 : decide ((n1 : Int) < 128) = false := by simp; omega
    by_cases g1 : 191 < n1
    · skip
      have HR : Hid (nxt s k = (0, 0)) := by show _ = _; rw [hN, nx2 (by omega), if_pos (by omega)]
      have h1 : 191 < (n1 : Int) := by omega
      clear hN e0 e1 e2 e3 c1 c0 cc
      go_enter Tryz.func101, Tryz.ntmps101
      go_wp2_with fail
      refine wp_loop_rounds 5 ?_
      rw [rounds_succ]
      go_wp2
      go_ret2
      exact ⟨by rw [HR.out]; exact ret_nx (by dsimp only; omega) rfl, rfl⟩
    have h1 : decide (191 < (n1 : Int)) = false := by simp; omega
    have HR : Hid (nxt s k = ((n0 - 192) * 64 + (n1 - 128), 2)) := by show _ = _; rw [hN, nx2 (by omega), if_neg (by omega)]
    clear hN e0 e1 e2 e3 c1 c0 cc
    go_enter Tryz.func101, Tryz.ntmps101
    go_wp2_with fail
    refine wp_loop_rounds 5 ?_
    rw [rounds_succ]
    go_wp2_with fail
    rw [rounds_succ]
    go_wp2
    go_ret2
    exact ⟨by rw [HR.out]; exact ret_nx (by dsimp only; omega) rfl, rfl⟩
  have i3 : decide ((n0 : Int) ≤ 223) = false := by simp; omega
  have i4 : 224 ≤ (n0 : Int) := by omega
  by_cases c3 : n0 ≤ 239
  · have i5 : (n0 : Int) ≤ 239 := by omega
    by_cases cs : s.size < k + 3
    · skip
      have HR : Hid (nxt s k = (0, 0)) := by show _ = _; rw [hN, nx3 (by omega), if_pos (by omega)]
      have i9 : (s.size : Int) < (k : Int) + 3 := by omega
      clear hN e0 e1 e2 e3 c1 c0 cc
      go_enter Tryz.func101, Tryz.ntmps101
      go_wp2
      go_ret2
      exact ⟨by rw [HR.out]; exact ret_nx (by dsimp only; omega) rfl, rfl⟩
    have i9 : decide ((s.size : Int) < (k : Int) + 3) = false := by simp; omega
    have hx1 := run_sx s (k + 1) (by omega) ((k : Int) + 1) (by omega)
    rw [e1] at hx1
    have hx2 := run_sx s (k + 2) (by omega) ((k : Int) + 2) (by omega)
    rw [e2] at hx2
    by_cases d1 : n1 < 128
    · skip
      have HR : Hid (nxt s k = (0, 0)) := by show _ = _; rw [hN, nx3 (by omega), if_pos (by omega)]
      have j1 : (n1 : Int) < 128 := by omega
      clear hN e0 e1 e2 e3 c1 c0 cc
      go_enter Tryz.func101, Tryz.ntmps101
      go_wp2_with fail
      refine wp_loop_rounds 5 ?_
      rw [rounds_succ]
      go_wp2
      go_ret2
      exact ⟨by rw [HR.out]; exact ret_nx (by dsimp only; omega) rfl, rfl⟩
    have j1 : decide ((n1 : Int) < 128) = false := by simp; omega
    by_cases g1 : 191 < n1
    · skip
      have HR : Hid (nxt s k = (0, 0)) := by show _ = _; rw [hN, nx3 (by omega), if_pos (by omega)]
      have h1 : 191 < (n1 : Int) := by omega
      clear hN e0 e1 e2 e3 c1 c0 cc
      go_enter Tryz.func101, Tryz.ntmps101
      go_wp2_with fail
      refine wp_loop_rounds 5 ?_
      rw [rounds_succ]
      go_wp2
      go_ret2
      exact ⟨by rw [HR.out]; exact ret_nx (by dsimp only; omega) rfl, rfl⟩
    have h1 : decide (191 < (n1 : Int)) = false := by simp; omega
    by_cases d2 : n2 < 128
    · skip
      have HR : Hid (nxt s k = (0, 0)) := by show _ = _; rw [hN, nx3 (by omega), if_pos (by omega)]
      have j2 : (n2 : Int) < 128 := by omega
      clear hN e0 e1 e2 e3 c1 c0 cc
      go_enter Tryz.func101, Tryz.ntmps101
      go_wp2_with fail
      refine wp_loop_rounds 5 ?_
      rw [rounds_succ]
      go_wp2_with fail
      rw [rounds_succ]
      go_wp2
      go_ret2
      exact ⟨by rw [HR.out]; exact ret_nx (by dsimp only; omega) rfl, rfl⟩
    have j2 : decide ((n2 : Int) < 128) = false := by simp; omega
    by_cases g2 : 191 < n2
    · skip
      have HR : Hid (nxt s k = (0, 0)) := by show _ = _; rw [hN, nx3 (by omega), if_pos (by omega)]
      have h2 : 191 < (n2 : Int) := by omega
      clear hN e0 e1 e2 e3 c1 c0 cc
      go_enter Tryz.func101, Tryz.ntmps101
      go_wp2_with fail
      refine wp_loop_rounds 5 ?_
      rw [rounds_succ]
      go_wp2_with fail
      rw [rounds_succ]
      go_wp2
      go_ret2
      exact ⟨by rw [HR.out]; exact ret_nx (by dsimp only; omega) rfl, rfl⟩
    have h2 : decide (191 < (n2 : Int)) = false := by simp; omega
    by_cases r1 : 64 * (64 * ((n0 : Int) - 224) + (n1 : Int) - 128) + (n2 : Int) - 128 < 2048
    · skip
      have HR : Hid (nxt s k = (0, 0)) := by show _ = _; rw [hN, nx3 (by omega), if_pos (by omega)]
      clear hN e0 e1 e2 e3 c1 c0 cc
      go_enter Tryz.func101, Tryz.ntmps101
      go_wp2_with fail
      refine wp_loop_rounds 5 ?_
      rw [rounds_succ]
      go_wp2_with fail
      rw [rounds_succ]
      go_wp2_with fail
      rw [rounds_succ]
      go_wp2
      go_ret2
      exact ⟨by rw [HR.out]; exact ret_nx (by dsimp only; omega) rfl, rfl⟩
    have r1d : decide (64 * (64 * ((n0 : Int) - 224) + (n1 : Int) - 128) + (n2 : Int) - 128 < 2048) = false := by simp; omega
    rcases Bool.eq_false_or_eq_true (win (64 * (64 * ((n0 : Int) - 224) + (n1 : Int) - 128) + (n2 : Int) - 128) 55296 57343) with r2 | r2
    · have r3 : 55296 ≤ 64 * (64 * ((n0 : Int) - 224) + (n1 : Int) - 128) + (n2 : Int) - 128 ∧ 64 * (64 * ((n0 : Int) - 224) + (n1 : Int) - 128) + (n2 : Int) - 128 ≤ 57343 := win_yes r2
      have HR : Hid (nxt s k = (0, 0)) := by show _ = _; rw [hN, nx3 (by omega), if_pos (by omega)]
      clear r3
      clear hN e0 e1 e2 e3 c1 c0 cc
      go_enter Tryz.func101, Tryz.ntmps101
      go_wp2_with fail
      refine wp_loop_rounds 5 ?_
      rw [rounds_succ]
      go_wp2_with fail
      rw [rounds_succ]
      go_wp2_with fail
      rw [rounds_succ]
      go_wp2_with (go_at_call 118; refine (within_any _ _ _ _).mono ?_; rintro e w' ⟨rfl, rfl⟩)
      go_ret2
      exact ⟨by rw [HR.out]; exact ret_nx (by dsimp only; omega) rfl, rfl⟩
    have r3 : ¬ (55296 ≤ 64 * (64 * ((n0 : Int) - 224) + (n1 : Int) - 128) + (n2 : Int) - 128 ∧ 64 * (64 * ((n0 : Int) - 224) + (n1 : Int) - 128) + (n2 : Int) - 128 ≤ 57343) := win_no r2
    have HR : Hid (nxt s k = ((n0 - 224) * 4096 + (n1 - 128) * 64 + (n2 - 128), 3)) := by show _ = _; rw [hN, nx3 (by omega), if_neg (by omega)]
    clear r3
    clear hN e0 e1 e2 e3 c1 c0 cc
    go_enter Tryz.func101, Tryz.ntmps101
    go_wp2_with fail
    refine wp_loop_rounds 5 ?_
    rw [rounds_succ]
    go_wp2_with fail
    rw [rounds_succ]
    go_wp2_with fail
    rw [rounds_succ]
    go_wp2_with (go_at_call 118; refine (within_any _ _ _ _).mono ?_; rintro e w' ⟨rfl, rfl⟩)
    go_ret2
    exact ⟨by rw [HR.out]; exact ret_nx (by dsimp only; omega) rfl, rfl⟩
  have i5 : decide ((n0 : Int) ≤ 239) = false := by simp; omega
  have i6 : 240 ≤ (n0 : Int) := by omega
  have i7 : (n0 : Int) ≤ 244 := by omega
  by_cases cs : s.size < k + 4
  · skip
    have HR : Hid (nxt s k = (0, 0)) := by show _ = _; rw [hN, nx4 (by omega), if_pos (by omega)]
    have i9 : (s.size : Int) < (k : Int) + 4 := by omega
    clear hN e0 e1 e2 e3 c1 c0 cc
    go_enter Tryz.func101, Tryz.ntmps101
    go_wp2
    go_ret2
    exact ⟨by rw [HR.out]; exact ret_nx (by dsimp only; omega) rfl, rfl⟩
  have i9 : decide ((s.size : Int) < (k : Int) + 4) = false := by simp; omega
  have hx1 := run_sx s (k + 1) (by omega) ((k : Int) + 1) (by omega)
  rw [e1] at hx1
  have hx2 := run_sx s (k + 2) (by omega) ((k : Int) + 2) (by omega)
  rw [e2] at hx2
  have hx3 := run_sx s (k + 3) (by omega) ((k : Int) + 3) (by omega)
  rw [e3] at hx3
  by_cases d1 : n1 < 128
  · skip
    have HR : Hid (nxt s k = (0, 0)) := by show _ = _; rw [hN, nx4 (by omega), if_pos (by omega)]
    have j1 : (n1 : Int) < 128 := by omega
    clear hN e0 e1 e2 e3 c1 c0 cc
    go_enter Tryz.func101, Tryz.ntmps101
    go_wp2_with fail
    refine wp_loop_rounds 5 ?_
    rw [rounds_succ]
    go_wp2
    go_ret2
    exact ⟨by rw [HR.out]; exact ret_nx (by dsimp only; omega) rfl, rfl⟩
  have j1 : decide ((n1 : Int) < 128) = false := by simp; omega
  by_cases g1 : 191 < n1
  · skip
    have HR : Hid (nxt s k = (0, 0)) := by show _ = _; rw [hN, nx4 (by omega), if_pos (by omega)]
    have h1 : 191 < (n1 : Int) := by omega
    clear hN e0 e1 e2 e3 c1 c0 cc
    go_enter Tryz.func101, Tryz.ntmps101
    go_wp2_with fail
    refine wp_loop_rounds 5 ?_
    rw [rounds_succ]
    go_wp2
    go_ret2
    exact ⟨by rw [HR.out]; exact ret_nx (by dsimp only; omega) rfl, rfl⟩
  have h1 : decide (191 < (n1 : Int)) = false := by simp; omega
  by_cases d2 : n2 < 128
  · skip
    have HR : Hid (nxt s k = (0, 0)) := by show _ = _; rw [hN, nx4 (by omega), if_pos (by omega)]
    have j2 : (n2 : Int) < 128 := by omega
    clear hN e0 e1 e2 e3 c1 c0 cc
    go_enter Tryz.func101, Tryz.ntmps101
    go_wp2_with fail
    refine wp_loop_rounds 5 ?_
    rw [rounds_succ]
    go_wp2_with fail
    rw [rounds_succ]
    go_wp2
    go_ret2
    exact ⟨by rw [HR.out]; exact ret_nx (by dsimp only; omega) rfl, rfl⟩
  have j2 : decide ((n2 : Int) < 128) = false := by simp; omega
  by_cases g2 : 191 < n2
  · skip
    have HR : Hid (nxt s k = (0, 0)) := by show _ = _; rw [hN, nx4 (by omega), if_pos (by omega)]
    have h2 : 191 < (n2 : Int) := by omega
    clear hN e0 e1 e2 e3 c1 c0 cc
    go_enter Tryz.func101, Tryz.ntmps101
    go_wp2_with fail
    refine wp_loop_rounds 5 ?_
    rw [rounds_succ]
    go_wp2_with fail
    rw [rounds_succ]
    go_wp2
    go_ret2
    exact ⟨by rw [HR.out]; exact ret_nx (by dsimp only; omega) rfl, rfl⟩
  have h2 : decide (191 < (n2 : Int)) = false := by simp; omega
  by_cases d3 : n3 < 128
  · skip
    have HR : Hid (nxt s k = (0, 0)) := by show _ = _; rw [hN, nx4 (by omega), if_pos (by omega)]
    have j3 : (n3 : Int) < 128 := by omega
    clear hN e0 e1 e2 e3 c1 c0 cc
    go_enter Tryz.func101, Tryz.ntmps101
    go_wp2_with fail
    refine wp_loop_rounds 5 ?_
    rw [rounds_succ]
    go_wp2_with fail
    rw [rounds_succ]
    go_wp2_with fail
    rw [rounds_succ]
    go_wp2
    go_ret2
    exact ⟨by rw [HR.out]; exact ret_nx (by dsimp only; omega) rfl, rfl⟩
  have j3 : decide ((n3 : Int) < 128) = false := by simp; omega
  by_cases g3 : 191 < n3
  · skip
    have HR : Hid (nxt s k = (0, 0)) := by show _ = _; rw [hN, nx4 (by omega), if_pos (by omega)]
    have h3 : 191 < (n3 : Int) := by omega
    clear hN e0 e1 e2 e3 c1 c0 cc
    go_enter Tryz.func101, Tryz.ntmps101
    go_wp2_with fail
    refine wp_loop_rounds 5 ?_
    rw [rounds_succ]
    go_wp2_with fail
    rw [rounds_succ]
    go_wp2_with fail
    rw [rounds_succ]
    go_wp2
    go_ret2
    exact ⟨by rw [HR.out]; exact ret_nx (by dsimp only; omega) rfl, rfl⟩
  have h3 : decide (191 < (n3 : Int)) = false := by simp; omega
  by_cases r1 : 64 * (64 * (64 * ((n0 : Int) - 240) + (n1 : Int) - 128) + (n2 : Int) - 128) + (n3 : Int) - 128 < 65536
  · skip
    have HR : Hid (nxt s k = (0, 0)) := by show _ = _; rw [hN, nx4 (by omega), if_pos (by omega)]
    clear hN e0 e1 e2 e3 c1 c0 cc
    go_enter Tryz.func101, Tryz.ntmps101
    go_wp2_with fail
    refine wp_loop_rounds 5 ?_
    rw [rounds_succ]
    go_wp2_with fail
    rw [rounds_succ]
    go_wp2_with fail
    rw [rounds_succ]
    go_wp2_with fail
    rw [rounds_succ]
    go_wp2
    go_ret2
    exact ⟨by rw [HR.out]; exact ret_nx (by dsimp only; omega) rfl, rfl⟩
  have r1d : decide (64 * (64 * (64 * ((n0 : Int) - 240) + (n1 : Int) - 128) + (n2 : Int) - 128) + (n3 : Int) - 128 < 65536) = false := by simp; omega
  by_cases r2 : 1114111 < 64 * (64 * (64 * ((n0 : Int) - 240) + (n1 : Int) - 128) + (n2 : Int) - 128) + (n3 : Int) - 128
  · skip
    have HR : Hid (nxt s k = (0, 0)) := by show _ = _; rw [hN, nx4 (by omega), if_pos (by omega)]
    clear hN e0 e1 e2 e3 c1 c0 cc
    go_enter Tryz.func101, Tryz.ntmps101
    go_wp2_with fail
    refine wp_loop_rounds 5 ?_
    rw [rounds_succ]
    go_wp2_with fail
    rw [rounds_succ]
    go_wp2_with fail
    rw [rounds_succ]
    go_wp2_with fail
    rw [rounds_succ]
    go_wp2
    go_ret2
    exact ⟨by rw [HR.out]; exact ret_nx (by dsimp only; omega) rfl, rfl⟩
  have r2d : decide (1114111 < 64 * (64 * (64 * ((n0 : Int) - 240) + (n1 : Int) - 128) + (n2 : Int) - 128) + (n3 : Int) - 128) = false := by simp; omega
  have HR : Hid (nxt s k = ((n0 - 240) * 262144 + (n1 - 128) * 4096 + (n2 - 128) * 64 + (n3 - 128), 4)) := by show _ = _; rw [hN, nx4 (by omega), if_neg (by omega)]
  clear hN e0 e1 e2 e3 c1 c0 cc
  go_enter Tryz.func101, Tryz.ntmps101
  go_wp2_with fail
  refine wp_loop_rounds 5 ?_
  rw [rounds_succ]
  go_wp2_with fail
  rw [rounds_succ]
  go_wp2_with fail
  rw [rounds_succ]
  go_wp2_with fail
  rw [rounds_succ]
  go_wp2
  go_ret2
  exact ⟨by rw [HR.out]; exact ret_nx (by dsimp only; omega) rfl, rfl⟩
end Go.Proofs.YtnhjphjdncaimaaGreatDoor
namespace Go.Proofs.YtnhjphjdncaimaaGreatDoor
open Go.RowKit
set_option maxRecDepth 100000 in
set_option maxHeartbeats 2000000 in
theorem rtextsf_any (s : ByteArray) (w : World) (hs : s.size ≤ 140737488355328) : Calls Tryz.prog 80 #[.string s] w fun e w' => e = .returned (.bool (rTf s s.size 0)) ∧ w = w' := by
  go_enter Tryz.func80, Tryz.ntmps80
  go_wp2_with fail
  go_loopw [3] (fun v W => ∃ k : Nat, v = .int .i64 k ∧ k ≤ s.size + 4 ∧ Hid (rTf s s.size k = rTf s s.size 0) ∧ w = W) (fun v _ => s.size - (intOf v).toNat)
  case atStart => exact ⟨0, rfl, Nat.zero_le _, hide rfl, rfl⟩
  case round =>
    obtain ⟨k, rfl, hk4, Hk, rfl⟩ := hrel
    by_cases hlt : k < s.size
    · have hI : (k : Int) < (s.size : Int) := by omega
      have Hst := hide (rT_step s k hlt)
      have Hno := hide (rT_no s k hlt)
      go_wp2_with fail
      refine (rnext_any s k hlt hs _).mono ?_
      rintro e w1 ⟨rfl, rfl⟩
      obtain ⟨r, hr⟩ : ∃ r, r = nxt s k := ⟨_, rfl⟩
      rw [← hr] at Hst Hno ⊢
      have hd := nxt_le s k
      rw [← hr] at hd
      clear hr
      obtain ⟨r, d⟩ := r
      dsimp only at Hst Hno hd
      by_cases h0 : d = 0
      · subst h0
        have HR : Hid (rTf s s.size 0 = false) := by show _ = _; rw [← Hk.out]; exact Hno.out rfl
        clear Hst Hno Hk hd
        go_wp2
        go_ret
        exact ⟨by rw [HR.out]; rfl, rfl⟩
      · have h0i : ((d : Int) == 0) = false := by simpa using (show (d : Int) ≠ 0 by omega)
        have Hst2 := hide (Hst.out h0)
        clear Hst Hno
        rcases Bool.eq_false_or_eq_true (rchr r) with hc | hc
        · have Hk2 : Hid (rTf s s.size (k + d) = rTf s s.size 0) := by show _ = _; rw [← Hk.out, Hst2.out, hc, Bool.true_and]
          clear Hst2 Hk
          go_wp2_with (go_at_call 102; refine (rchar_any _ _).mono ?_; rintro e w1 ⟨rfl, rfl⟩)
          go_roundw
          case rel => exact ⟨k + d, by simp, by omega, Hk2, by trivial⟩
          case measure => simp [intOf]; omega
        · have HR : Hid (rTf s s.size 0 = false) := by show _ = _; rw [← Hk.out, Hst2.out, hc, Bool.false_and]
          clear Hst2 Hk
          go_wp2_with (go_at_call 102; refine (rchar_any _ _).mono ?_; rintro e w1 ⟨rfl, rfl⟩)
          go_ret
          exact ⟨by rw [HR.out]; rfl, rfl⟩
    · have hI : ¬ (k : Int) < (s.size : Int) := by omega
      have HR : Hid (rTf s s.size 0 = true) := by show _ = _; rw [← Hk.out]; exact rT_end s k hlt
      clear Hk
      go_wp2
      go_ret
      exact ⟨by rw [HR.out]; rfl, rfl⟩
end Go.Proofs.YtnhjphjdncaimaaGreatDoor
namespace Go.Proofs.YtnhjphjdncaimaaGreatDoor
open Go.RowKit
/-- digits ahead of others -/
def dg (u : Nat) (l : List UInt8) : List UInt8 := if u = 0 ∧ l ≠ [] then l else Lib.decDigits u ++ l
theorem dg_step (u : Nat) (l : List UInt8) (h : 0 < u ∨ l = []) : dg (u / 10) (UInt8.ofNat (48 + u % 10) :: l) = dg u l := by
  have h1 : dg u l = Lib.decDigits u ++ l := by
    unfold dg
    rw [if_neg]
    rintro ⟨h2, h3⟩
    rcases h with h | h
    · omega
    · exact h3 h
  rw [h1]
  unfold dg
  by_cases hu : u < 10
  · rw [if_pos ⟨by omega, by simp⟩, Lib.decDigits, dif_pos hu, Nat.mod_eq_of_lt hu]; rfl
  · rw [if_neg (by omega)]
    conv => rhs; rw [Lib.decDigits, dif_neg hu]
    rw [List.append_assoc]; rfl
theorem dg_end {u : Nat} {l : List UInt8} (h : u = 0) (h2 : l ≠ []) : dg u l = l := by unfold dg; rw [if_pos ⟨h, h2⟩]
theorem dg_start (u : Nat) : dg u [] = Lib.decDigits u := by unfold dg; rw [if_neg (by simp), List.append_nil]
theorem ba_cons (c : UInt8) (l : List UInt8) : (⟨#[c]⟩ : ByteArray) ++ ⟨l.toArray⟩ = ⟨(c :: l).toArray⟩ := by
  apply ByteArray.ext
  simp [ByteArray.data_append]
theorem ba_nil_list (l : List UInt8) : (⟨l.toArray⟩ : ByteArray).toList = l := by rw [ByteArray.toList_eq]
theorem ba_one (u : UInt8) (t : ByteArray) : ((⟨[u].toArray⟩ : ByteArray) ++ t).data.toList = u :: t.data.toList := by
  simp [ByteArray.data_append]
theorem ba_empty {t : ByteArray} : t.toList = [] ↔ t.data.toList = [] := by rw [ByteArray.toList_eq]
theorem ba_eq {s t : ByteArray} (h : s.data.toList = t.data.toList) : s = t := by
  apply ByteArray.ext
  exact Array.toList_inj.1 h
theorem ba_size0 {t : ByteArray} : t.data.toList = [] ↔ t.size = 0 := by
  rw [← List.length_eq_zero_iff, Array.length_toList]; rfl
theorem dg_size {u m : Nat} {t : ByteArray} (h : dg u t.data.toList = Lib.decDigits m) (hm : m ≤ 9223372036854775808) : t.size ≤ 19 := by
  have h1 : t.data.toList.length ≤ (dg u t.data.toList).length := by
    unfold dg
    split
    · exact Nat.le_refl _
    · rw [List.length_append]; omega
  rw [h, Lib.decDigits_length, Array.length_toList] at h1
  exact Nat.le_trans h1 (nDig_le hm)
set_option maxRecDepth 100000 in
set_option maxHeartbeats 2000000 in
theorem rdigits_any (n : Int) (hR : R64 n) (w : World) : Calls Tryz.prog 56 #[.int .i64 n] w fun e w' => e = .returned (.string ⟨(Lib.itoa n).toArray⟩) ∧ Below w.heap.size w w' := by
  obtain ⟨hR1, hR2⟩ := hR
  by_cases hn : n < 0
  · obtain ⟨m, hm⟩ := Int.eq_ofNat_of_zero_le (show 0 ≤ -n by omega)
    have hnm : n = -(m : Int) := by omega
    subst hnm
    have hstart : True := trivial
    have Hle : Hid (m ≤ 9223372036854775808) := by show m ≤ 9223372036854775808; omega
    have HF : Hid (Lib.itoa (-(m : Int)) = 45 :: Lib.decDigits m) := by show _ = _; unfold Lib.itoa; rw [if_pos hn, Int.natAbs_neg, Int.natAbs_natCast]
    have hw : IntKind.u64.wrap (-IntKind.u64.wrap (-(m : Int))) = (m : Int) := by rw [IntKind.wrap_u64, IntKind.wrap_u64]; omega
    have h45 : (ByteArray.mk #[45]).size = 1 := rfl
    clear hm
    go_enter Tryz.func56, Tryz.ntmps56
    go_wp2_with fail
    go_loopw [3, 4] (fun v x W => ∃ (u : Nat) (t : ByteArray), v = .int .u64 u ∧ x = .string t ∧ u < 18446744073709551616 ∧ Hid (dg u t.data.toList = Lib.decDigits m) ∧ Below w.heap.size w W) (fun v x _ => 2 * (intOf v).toNat + (1 - sizeS x))
    case atStart => exact ⟨m, ⟨#[]⟩, by simp, rfl, Nat.lt_of_le_of_lt Hle.out (by decide), hide (dg_start m), Below.refl _ _⟩
    case round =>
      obtain ⟨u, t, rfl, rfl, hu, Hk, hB⟩ := hrel
      have hc : (48 + (u : Int) % 10) = (((UInt8.ofNat (48 + u % 10)).toNat : Nat) : Int) := by simp; omega
      have hst0 := dg_step u t.data.toList
      generalize UInt8.ofNat (48 + u % 10) = q at hc hst0
      have hcv := (rd_one wr (48 + (u : Int) % 10) q hc).str 1 1 rfl
      have Hst0 := hide hst0
      have hts := dg_size Hk.out Hle.out
      have htsz : (ByteArray.mk #[q]).size = 1 := rfl
      clear hc hst0
      have hB2 := hB.alloc hB.size (.cells #[.int .u8 (48 + (u : Int) % 10)] 5)
      by_cases h0 : 0 < u
      · have hI : (0 : Int) < (u : Int) := by omega
        have Hst := hide (Hst0.out (.inl h0))
        clear hstart Hst0
        go_wp2_with fail
        go_roundw
        case rel => exact ⟨u / 10, ⟨[q].toArray⟩ ++ t, by simp, rfl, by omega, hide (by show _ = _; rw [ba_one, Hst.out]; exact Hk.out), hB2⟩
        case measure => simp [intOf, sizeS]; omega
      · have hI : decide ((0 : Int) < (u : Int)) = false := by simp; omega
        by_cases ht : t.toList = []
        · have htb : (t.toList == []) = true := by rw [ht]; rfl
          have Hst := hide (Hst0.out (.inr (ba_empty.1 ht)))
          have hsz := ba_size0.1 (ba_empty.1 ht)
          clear hstart Hst0
          go_wp2_with fail
          go_roundw
          case rel => exact ⟨u / 10, ⟨[q].toArray⟩ ++ t, by simp, rfl, by omega, hide (by show _ = _; rw [ba_one, Hst.out]; exact Hk.out), hB2⟩
          case measure => simp [intOf, sizeS]; omega
        · have htb : (t.toList == []) = false := by simpa using ht
          have HR : Hid (t.data.toList = Lib.decDigits m) := by show _ = _; rw [← Hk.out]; exact (dg_end (by omega) (fun h => ht (ba_empty.2 h))).symm
          clear ht Hk hcv hB2 hstart Hst0
          go_wp2
          go_ret
          exact ⟨by rw [show (⟨(Lib.itoa (-(m : Int))).toArray⟩ : ByteArray) = ⟨#[45]⟩ ++ t from ba_eq (by rw [show (⟨#[45]⟩ ++ t : ByteArray).data.toList = 45 :: t.data.toList from ba_one 45 t, HR.out, HF.out])]; rfl, hB⟩
  · obtain ⟨m, rfl⟩ := Int.eq_ofNat_of_zero_le (show 0 ≤ n by omega)
    have hstart : True := trivial
    have Hle : Hid (m ≤ 9223372036854775808) := by show m ≤ 9223372036854775808; omega
    have HF : Hid (Lib.itoa (m : Int) = Lib.decDigits m) := by show _ = _; unfold Lib.itoa; rw [if_neg (by omega), Int.toNat_natCast]
    go_enter Tryz.func56, Tryz.ntmps56
    go_wp2_with fail
    go_loopw [3, 4] (fun v x W => ∃ (u : Nat) (t : ByteArray), v = .int .u64 u ∧ x = .string t ∧ u < 18446744073709551616 ∧ Hid (dg u t.data.toList = Lib.decDigits m) ∧ Below w.heap.size w W) (fun v x _ => 2 * (intOf v).toNat + (1 - sizeS x))
    case atStart => exact ⟨m, ⟨#[]⟩, by simp, rfl, Nat.lt_of_le_of_lt Hle.out (by decide), hide (dg_start m), Below.refl _ _⟩
    case round =>
      obtain ⟨u, t, rfl, rfl, hu, Hk, hB⟩ := hrel
      have hc : (48 + (u : Int) % 10) = (((UInt8.ofNat (48 + u % 10)).toNat : Nat) : Int) := by simp; omega
      have hst0 := dg_step u t.data.toList
      generalize UInt8.ofNat (48 + u % 10) = q at hc hst0
      have hcv := (rd_one wr (48 + (u : Int) % 10) q hc).str 1 1 rfl
      have Hst0 := hide hst0
      have hts := dg_size Hk.out Hle.out
      have htsz : (ByteArray.mk #[q]).size = 1 := rfl
      clear hc hst0
      have hB2 := hB.alloc hB.size (.cells #[.int .u8 (48 + (u : Int) % 10)] 5)
      by_cases h0 : 0 < u
      · have hI : (0 : Int) < (u : Int) := by omega
        have Hst := hide (Hst0.out (.inl h0))
        clear hstart Hst0
        go_wp2_with fail
        go_roundw
        case rel => exact ⟨u / 10, ⟨[q].toArray⟩ ++ t, by simp, rfl, by omega, hide (by show _ = _; rw [ba_one, Hst.out]; exact Hk.out), hB2⟩
        case measure => simp [intOf, sizeS]; omega
      · have hI : decide ((0 : Int) < (u : Int)) = false := by simp; omega
        by_cases ht : t.toList = []
        · have htb : (t.toList == []) = true := by rw [ht]; rfl
          have Hst := hide (Hst0.out (.inr (ba_empty.1 ht)))
          have hsz := ba_size0.1 (ba_empty.1 ht)
          clear hstart Hst0
          go_wp2_with fail
          go_roundw
          case rel => exact ⟨u / 10, ⟨[q].toArray⟩ ++ t, by simp, rfl, by omega, hide (by show _ = _; rw [ba_one, Hst.out]; exact Hk.out), hB2⟩
          case measure => simp [intOf, sizeS]; omega
        · have htb : (t.toList == []) = false := by simpa using ht
          have HR : Hid (t.data.toList = Lib.decDigits m) := by show _ = _; rw [← Hk.out]; exact (dg_end (by omega) (fun h => ht (ba_empty.2 h))).symm
          clear ht Hk hcv hB2 hstart Hst0
          go_wp2
          go_ret
          exact ⟨by rw [show (⟨(Lib.itoa (m : Int)).toArray⟩ : ByteArray) = t from ba_eq (by rw [HR.out, HF.out])]; rfl, hB⟩
end Go.Proofs.YtnhjphjdncaimaaGreatDoor
