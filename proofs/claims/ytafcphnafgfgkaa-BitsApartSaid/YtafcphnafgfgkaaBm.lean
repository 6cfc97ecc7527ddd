/- Plain facts on rows of bits and how they are packed into bytes: no program in sight. -/
import Derived.WalkKit
namespace Go.Proofs.Ytafcphnafgfgkaa.Bm

def bv (b : Bool) : Nat := if b then 1 else 0
def nb (n : Nat) : Nat := (n + 7) / 8
def byteN (l : List Bool) (k : Nat) : Nat :=
  128 * bv (l.getD (8 * k) false) + 64 * bv (l.getD (8 * k + 1) false) + 32 * bv (l.getD (8 * k + 2) false) + 16 * bv (l.getD (8 * k + 3) false) +
  8 * bv (l.getD (8 * k + 4) false) + 4 * bv (l.getD (8 * k + 5) false) + 2 * bv (l.getD (8 * k + 6) false) + bv (l.getD (8 * k + 7) false)
def wk (l : List Bool) (n : Nat) : List UInt8 := (List.range n).map fun k => UInt8.ofNat (byteN l k)
def pkL (l : List Bool) : List UInt8 := wk l (nb l.length)
def pk (l : List Bool) : ByteArray := ⟨(pkL l).toArray⟩
def tx (l : List Bool) : List UInt8 := l.map fun b => if b then 49 else 48
def txS (l : List Bool) : ByteArray := ⟨(tx l).toArray⟩

def sel8 (a b c d e f g h : Bool) (j : Nat) : Bool := match j with | 0 => a | 1 => b | 2 => c | 3 => d | 4 => e | 5 => f | 6 => g | _ => h
theorem bv_le (b : Bool) : bv b ≤ 1 := by cases b <;> simp [bv]
theorem byteN_lt (l : List Bool) (k : Nat) : byteN l k < 256 := by
  have h0 := bv_le (l.getD (8 * k) false)
  have h1 := bv_le (l.getD (8 * k + 1) false)
  have h2 := bv_le (l.getD (8 * k + 2) false)
  have h3 := bv_le (l.getD (8 * k + 3) false)
  have h4 := bv_le (l.getD (8 * k + 4) false)
  have h5 := bv_le (l.getD (8 * k + 5) false)
  have h6 := bv_le (l.getD (8 * k + 6) false)
  have h7 := bv_le (l.getD (8 * k + 7) false)
  unfold byteN; omega
theorem bits8 (a b c d e f g h : Bool) (j : Nat) (hj : j < 8) :
    (128 * bv a + 64 * bv b + 32 * bv c + 16 * bv d + 8 * bv e + 4 * bv f + 2 * bv g + bv h) / 2 ^ (7 - j) % 2 =
      bv (sel8 a b c d e f g h j) := by
  match j, hj with
  | 0, _ | 1, _ | 2, _ | 3, _ | 4, _ | 5, _ | 6, _ | 7, _ =>
    cases a <;> cases b <;> cases c <;> cases d <;> cases e <;> cases f <;> cases g <;> cases h <;> rfl
theorem byteN_bit (l : List Bool) (k j : Nat) (hj : j < 8) : byteN l k / 2 ^ (7 - j) % 2 = bv (l.getD (8 * k + j) false) := by
  unfold byteN
  rw [bits8 _ _ _ _ _ _ _ _ j hj]
  match j, hj with
  | 0, _ | 1, _ | 2, _ | 3, _ | 4, _ | 5, _ | 6, _ | 7, _ => rfl
theorem byteN_at (l : List Bool) (i : Nat) : byteN l (i / 8) / 2 ^ (7 - i % 8) % 2 = bv (l.getD i false) := by
  rw [byteN_bit l (i / 8) (i % 8) (by omega)]
  congr 2; omega
/-- a byte is known by its bits -/
theorem byteN_ext (l m : List Bool) (k : Nat) (h : ∀ j, j < 8 → l.getD (8 * k + j) false = m.getD (8 * k + j) false) : byteN l k = byteN m k := by
  unfold byteN
  have h0 := h 0 (by omega)
  have h1 := h 1 (by omega)
  have h2 := h 2 (by omega)
  have h3 := h 3 (by omega)
  have h4 := h 4 (by omega)
  have h5 := h 5 (by omega)
  have h6 := h 6 (by omega)
  have h7 := h 7 (by omega)
  simp only [Nat.add_zero] at h0
  rw [h0, h1, h2, h3, h4, h5, h6, h7]
theorem bv_inj {a b : Bool} (h : bv a = bv b) : a = b := by cases a <;> cases b <;> simp_all [bv]
theorem byteN_inj (l m : List Bool) (k : Nat) (h : byteN l k = byteN m k) (j : Nat) (hj : j < 8) : l.getD (8 * k + j) false = m.getD (8 * k + j) false := by
  apply bv_inj
  rw [← byteN_bit l k j hj, ← byteN_bit m k j hj, h]
theorem getD_snoc (l : List Bool) (b : Bool) (i : Nat) : (l ++ [b]).getD i false = if i = l.length then b else l.getD i false := by
  by_cases h : i < l.length
  · rw [if_neg (by omega)]; simp [List.getD_eq_getElem?_getD, List.getElem?_append_left h]
  · by_cases e : i = l.length
    · subst e; simp [List.getD_eq_getElem?_getD]
    · rw [if_neg e]; simp only [List.getD_eq_getElem?_getD]; rw [List.getElem?_eq_none (by simp; omega), List.getElem?_eq_none (by omega)]
theorem getD_ge (l : List Bool) (i : Nat) (h : l.length ≤ i) : l.getD i false = false := by
  rw [List.getD_eq_getElem?_getD, List.getElem?_eq_none h]; rfl
theorem byteN_snoc_false (l : List Bool) (k : Nat) : byteN (l ++ [false]) k = byteN l k :=
  byteN_ext _ _ _ fun j _ => by
    rw [getD_snoc]; split
    · rw [getD_ge _ _ (by omega)]
    · rfl
theorem byteN_snoc_other (l : List Bool) (b : Bool) (k : Nat) (hk : k ≠ l.length / 8) : byteN (l ++ [b]) k = byteN l k :=
  byteN_ext _ _ _ fun j hj => by
    rw [getD_snoc, if_neg (by omega)]
theorem or8 (a b c d e f g h : Bool) (j : Nat) (hj : j < 8)
    (hz : (sel8 a b c d e f g h j) = false) :
    (128 * bv a + 64 * bv b + 32 * bv c + 16 * bv d + 8 * bv e + 4 * bv f + 2 * bv g + bv h) ||| (128 / 2 ^ j) =
    (128 * bv a + 64 * bv b + 32 * bv c + 16 * bv d + 8 * bv e + 4 * bv f + 2 * bv g + bv h) + 128 / 2 ^ j := by
  match j, hj with
  | 0, _ | 1, _ | 2, _ | 3, _ | 4, _ | 5, _ | 6, _ | 7, _ =>
    simp only [sel8] at hz; subst hz
    first
      | (revert b c d e f g h; decide)
      | (revert a c d e f g h; decide)
      | (revert a b d e f g h; decide)
      | (revert a b c e f g h; decide)
      | (revert a b c d f g h; decide)
      | (revert a b c d e g h; decide)
      | (revert a b c d e f h; decide)
      | (revert a b c d e f g; decide)
theorem add8 (a b c d e f g h : Bool) (j : Nat) (hj : j < 8) (x : Bool → Nat → Bool)
    (hx : ∀ b i, x b i = if i = j then true else b) (hz : (sel8 a b c d e f g h j) = false) :
    128 * bv (x a 0) + 64 * bv (x b 1) + 32 * bv (x c 2) + 16 * bv (x d 3) + 8 * bv (x e 4) + 4 * bv (x f 5) + 2 * bv (x g 6) + bv (x h 7) =
    (128 * bv a + 64 * bv b + 32 * bv c + 16 * bv d + 8 * bv e + 4 * bv f + 2 * bv g + bv h) + 128 / 2 ^ j := by
  match j, hj with
  | 0, _ | 1, _ | 2, _ | 3, _ | 4, _ | 5, _ | 6, _ | 7, _ =>
    simp only [sel8] at hz; subst hz
    simp only [hx, ↓reduceIte, Nat.reduceEqDiff, bv, Bool.false_eq_true]
    try omega
/-- setting the bit behind a row -/
theorem byteN_snoc_true (l : List Bool) : byteN (l ++ [true]) (l.length / 8) = byteN l (l.length / 8) ||| (128 / 2 ^ (l.length % 8)) := by
  have hz : l.getD (8 * (l.length / 8) + l.length % 8) false = false := getD_ge _ _ (by omega)
  have hj : l.length % 8 < 8 := by omega
  have hx : ∀ i, i < 8 → (l ++ [true]).getD (8 * (l.length / 8) + i) false = (fun (b : Bool) (i : Nat) => if i = l.length % 8 then true else b) (l.getD (8 * (l.length / 8) + i) false) i := by
    intro i hi
    rw [getD_snoc]
    by_cases e : i = l.length % 8
    · rw [if_pos (by omega)]; simp [e]
    · rw [if_neg (by omega)]; simp [e]
  have hz' : sel8 (l.getD (8 * (l.length / 8)) false) (l.getD (8 * (l.length / 8) + 1) false) (l.getD (8 * (l.length / 8) + 2) false) (l.getD (8 * (l.length / 8) + 3) false) (l.getD (8 * (l.length / 8) + 4) false) (l.getD (8 * (l.length / 8) + 5) false) (l.getD (8 * (l.length / 8) + 6) false) (l.getD (8 * (l.length / 8) + 7) false) (l.length % 8) = false := by
    revert hz
    generalize l.length % 8 = j at hj
    match j, hj with
    | 0, _ | 1, _ | 2, _ | 3, _ | 4, _ | 5, _ | 6, _ | 7, _ => exact fun h => h
  unfold byteN
  rw [or8 _ _ _ _ _ _ _ _ _ hj hz', ← add8 _ _ _ _ _ _ _ _ _ hj _ (fun _ _ => rfl) hz']
  have h0 := hx 0 (by omega)
  rw [Nat.add_zero] at h0
  rw [h0, hx 1 (by omega), hx 2 (by omega), hx 3 (by omega), hx 4 (by omega), hx 5 (by omega), hx 6 (by omega), hx 7 (by omega)]
theorem byteN_snoc_add (l : List Bool) : byteN (l ++ [true]) (l.length / 8) = byteN l (l.length / 8) + 128 / 2 ^ (l.length % 8) := by
  rw [byteN_snoc_true]
  have hz : l.getD (8 * (l.length / 8) + l.length % 8) false = false := getD_ge _ _ (by omega)
  have hj : l.length % 8 < 8 := by omega
  have hz' : sel8 (l.getD (8 * (l.length / 8)) false) (l.getD (8 * (l.length / 8) + 1) false) (l.getD (8 * (l.length / 8) + 2) false) (l.getD (8 * (l.length / 8) + 3) false) (l.getD (8 * (l.length / 8) + 4) false) (l.getD (8 * (l.length / 8) + 5) false) (l.getD (8 * (l.length / 8) + 6) false) (l.getD (8 * (l.length / 8) + 7) false) (l.length % 8) = false := by
    revert hz
    generalize l.length % 8 = j at hj
    match j, hj with
    | 0, _ | 1, _ | 2, _ | 3, _ | 4, _ | 5, _ | 6, _ | 7, _ => exact fun h => h
  unfold byteN
  rw [or8 _ _ _ _ _ _ _ _ _ hj hz']
theorem byteN_nil (k : Nat) : byteN [] k = 0 := by simp [byteN, bv]
theorem byteN_ge (l : List Bool) (k : Nat) (h : nb l.length ≤ k) : byteN l k = 0 := by
  rw [← byteN_nil k]
  exact byteN_ext _ _ _ fun j _ => by rw [getD_ge l _ (by unfold nb at h; omega)]; rfl
theorem length_pkL (l : List Bool) : (pkL l).length = nb l.length := by simp [pkL, wk]
theorem size_pk (l : List Bool) : (pk l).size = nb l.length := by simp [pk, ByteArray.size, length_pkL]
theorem pkL_get (l : List Bool) (k : Nat) (h : k < nb l.length) : (pkL l)[k]? = some (UInt8.ofNat (byteN l k)) := by
  simp [pkL, wk, List.getElem?_map, List.getElem?_range h]
theorem pk_get (l : List Bool) (k : Nat) (h : k < (pk l).size) : ((pk l)[k]'h).toNat = byteN l k := by
  have h' : k < nb l.length := by rw [← size_pk]; exact h
  have e : (pk l)[k]'h = UInt8.ofNat (byteN l k) := by
    show (pkL l).toArray[k]'_ = _
    have := pkL_get l k h'
    rw [List.getElem?_eq_some_iff] at this
    obtain ⟨_, h2⟩ := this
    exact (List.getElem_toArray _).trans h2
  rw [e]
  simp only [UInt8.toNat_ofNat']
  exact Nat.mod_eq_of_lt (byteN_lt l k)
theorem length_tx (l : List Bool) : (tx l).length = l.length := by simp [tx]
theorem size_txS (l : List Bool) : (txS l).size = l.length := by simp [txS, ByteArray.size, length_tx]
theorem txS_get (l : List Bool) (k : Nat) (h : k < (txS l).size) : (txS l)[k]'h = if l.getD k false then 49 else 48 := by
  have h' : k < l.length := by rw [← size_txS]; exact h
  have e : (txS l)[k]'h = (tx l).toArray[k]'(by simpa [length_tx] using h') := rfl
  rw [e]
  simp [tx, List.getD_eq_getElem?_getD, List.getElem?_eq_getElem h']
theorem length_wk (l : List Bool) (n : Nat) : (wk l n).length = n := by simp [wk]
theorem wk_nil (n : Nat) : wk [] n = List.replicate n 0 := by
  apply List.ext_getElem
  · simp [wk]
  · intro i h1 h2; simp [wk, byteN_nil]
theorem toNat_byte (l : List Bool) (k : Nat) : (UInt8.ofNat (byteN l k)).toNat = byteN l k := by
  simp only [UInt8.toNat_ofNat']; exact Nat.mod_eq_of_lt (byteN_lt l k)
theorem wk_get (l : List Bool) (n k : Nat) (h : k < (wk l n).length) : ((wk l n)[k]'h).toNat = byteN l k := by
  simp only [wk, List.getElem_map, List.getElem_range]; exact toNat_byte l k
theorem wk_zero (l : List Bool) : wk l (nb l.length) ++ [0] = wk l (nb l.length + 1) := by
  simp only [wk, List.range_succ, List.map_append, List.map_cons, List.map_nil]
  rw [byteN_ge l (nb l.length) (Nat.le_refl _)]; rfl
theorem wk_snoc_false (l : List Bool) (n : Nat) : wk (l ++ [false]) n = wk l n := by
  simp only [wk, byteN_snoc_false]
theorem wk_snoc_true (l : List Bool) (n : Nat) : wk (l ++ [true]) n = (wk l n).set (l.length / 8) (UInt8.ofNat (byteN l (l.length / 8) ||| (128 / 2 ^ (l.length % 8)))) := by
  apply List.ext_getElem
  · simp [wk]
  · intro i h1 h2
    simp only [wk, List.getElem_map, List.getElem_range, List.getElem_set]
    split
    · rename_i e; subst e; rw [byteN_snoc_true]
    · rename_i e; rw [byteN_snoc_other _ _ _ (by omega)]
theorem wk_pk (l : List Bool) (n : Nat) (h : nb l.length ≤ n) : pkL l ++ (List.replicate n 0).drop (nb l.length) = wk l n := by
  apply List.ext_getElem
  · simp [wk, pkL]; omega
  · intro i h1 h2
    rw [List.getElem_append]
    split
    · simp [pkL, wk]
    · rename_i hi
      rw [length_pkL] at hi
      simp only [List.drop_replicate, List.getElem_replicate, wk, List.getElem_map, List.getElem_range]
      rw [byteN_ge l i (by omega)]; rfl
theorem pk_list (l : List Bool) : (pk l).data.toList = pkL l := rfl
/-- the bits of bytes -/
def unb (bs : List UInt8) : List Bool := (List.range (8 * bs.length)).map fun i => (bs.getD (i / 8) 0).toNat / 2 ^ (7 - i % 8) % 2 == 1
theorem unb_get (bs : List UInt8) (i : Nat) (h : i < 8 * bs.length) : (unb bs).getD i false = ((bs.getD (i / 8) 0).toNat / 2 ^ (7 - i % 8) % 2 == 1) := by
  simp [unb, List.getD_eq_getElem?_getD, List.getElem?_map, List.getElem?_range h]
theorem byte_of_bits (x : Nat) (h : x < 256) : x = 128 * (x / 2 ^ 7 % 2) + 64 * (x / 2 ^ 6 % 2) + 32 * (x / 2 ^ 5 % 2) + 16 * (x / 2 ^ 4 % 2) + 8 * (x / 2 ^ 3 % 2) + 4 * (x / 2 ^ 2 % 2) + 2 * (x / 2 ^ 1 % 2) + x / 2 ^ 0 % 2 := by omega
theorem bv_beq (x : Nat) : bv (x % 2 == 1) = x % 2 := by
  have : x % 2 = 0 ∨ x % 2 = 1 := by omega
  rcases this with h | h <;> simp [h, bv]
/-- bytes whose bits behind the n are noughts are the row of their first n bits, packed -/
theorem unb_pk (bs : List UInt8) (n : Nat) (hl : bs.length = nb n) (hz : ∀ i, n ≤ i → i < 8 * bs.length → (bs.getD (i / 8) 0).toNat / 2 ^ (7 - i % 8) % 2 = 0) :
    ((unb bs).take n).length = n ∧ pkL ((unb bs).take n) = bs := by
  have hn : n ≤ 8 * bs.length := by rw [hl]; unfold nb; omega
  have hlen : ((unb bs).take n).length = n := by simp [unb]; omega
  refine ⟨hlen, ?_⟩
  have hg : ∀ i, i < 8 * bs.length → bv (((unb bs).take n).getD i false) = (bs.getD (i / 8) 0).toNat / 2 ^ (7 - i % 8) % 2 := by
    intro i hi
    by_cases h : i < n
    · rw [List.getD_eq_getElem?_getD, List.getElem?_take, if_pos h, ← List.getD_eq_getElem?_getD, unb_get bs i hi, bv_beq]
    · rw [getD_ge _ _ (by omega), hz i (by omega) hi]; rfl
  apply List.ext_getElem
  · rw [length_pkL, hlen, hl]
  · intro k h1 h2
    rw [length_pkL, hlen] at h1
    simp only [pkL, wk, List.getElem_map, List.getElem_range]
    apply UInt8.toNat_inj.1
    rw [toNat_byte, byteN]
    have hk : bs.getD k 0 = bs[k] := by simp [List.getD_eq_getElem?_getD, h2]
    have e : ∀ j, j < 8 → bv (((unb bs).take n).getD (8 * k + j) false) = bs[k].toNat / 2 ^ (7 - j) % 2 := by
      intro j hj
      rw [hg (8 * k + j) (by omega), show (8 * k + j) / 8 = k from by omega, show (8 * k + j) % 8 = j from by omega, hk]
    have e0 := e 0 (by omega)
    rw [Nat.add_zero] at e0
    rw [e0, e 1 (by omega), e 2 (by omega), e 3 (by omega), e 4 (by omega), e 5 (by omega), e 6 (by omega), e 7 (by omega)]
    exact (byte_of_bits _ (by have := bs[k].toNat_lt; omega)).symm
/-- a last byte, shifted -/
theorem tail_zero (x r : Nat) (hr : r < 8) (hx : x < 256) : x * 2 ^ r % 256 = 0 ↔ ∀ j, r ≤ j → j < 8 → x / 2 ^ (7 - j) % 2 = 0 := by
  match r, hr with
  | 0, _ | 1, _ | 2, _ | 3, _ | 4, _ | 5, _ | 6, _ | 7, _ =>
    constructor
    · intro h j hj hj8
      match j, hj8 with
      | 0, _ | 1, _ | 2, _ | 3, _ | 4, _ | 5, _ | 6, _ | 7, _ => omega
    · intro h
      have h0 := fun a => h 0 a (by omega)
      have h1 := fun a => h 1 a (by omega)
      have h2 := fun a => h 2 a (by omega)
      have h3 := fun a => h 3 a (by omega)
      have h4 := fun a => h 4 a (by omega)
      have h5 := fun a => h 5 a (by omega)
      have h6 := fun a => h 6 a (by omega)
      have h7 := fun a => h 7 a (by omega)
      simp only [Nat.reduceSub, Nat.reduceLeDiff, forall_const, Nat.zero_le] at h0 h1 h2 h3 h4 h5 h6 h7
      omega
theorem pkL_inj (l m : List Bool) (hl : l.length = m.length) (h : pkL l = pkL m) : l = m := by
  have hb : ∀ k, k < nb l.length → byteN l k = byteN m k := by
    intro k hk
    have h1 := pkL_get l k hk
    have h2 := pkL_get m k (by rw [← hl]; exact hk)
    rw [h, h2] at h1
    injection h1 with h1
    rw [← toNat_byte l k, ← toNat_byte m k, h1]
  apply List.ext_getElem hl
  intro i h1 h2
  have := byteN_inj l m (i / 8) (hb (i / 8) (by unfold nb; omega)) (i % 8) (by omega)
  rw [show 8 * (i / 8) + i % 8 = i from by omega] at this
  simpa [List.getD_eq_getElem?_getD, h1, h2] using this
/-- a text says a row, or says one up to a byte that is neither 0 nor 1 -/
theorem txt_cases (s : ByteArray) : (∃ l, s = txS l) ∨ ∃ l : List Bool, ∃ h : l.length < s.size, (∀ (k : Nat) (h : k < s.size), k < l.length → s[k]'h = if l.getD k false then 49 else 48) ∧ s[l.length]'h ≠ 48 ∧ s[l.length]'h ≠ 49 := by
  suffices H : ∀ (ys : List UInt8), (∃ l, ys = tx l) ∨ ∃ l : List Bool, ∃ h : l.length < ys.length, (∀ (k : Nat) (h : k < ys.length), k < l.length → ys[k]'h = if l.getD k false then 49 else 48) ∧ ys[l.length]'h ≠ 48 ∧ ys[l.length]'h ≠ 49 by
    obtain ⟨⟨ys⟩⟩ := s
    rcases H ys with ⟨l, h⟩ | ⟨l, h, h1, h2⟩
    · exact .inl ⟨l, by rw [txS, ← h]⟩
    · exact .inr ⟨l, h, fun k hk hkl => h1 k hk hkl, h2⟩
  intro ys
  induction ys with
  | nil => exact .inl ⟨[], rfl⟩
  | cons y ys ih =>
    by_cases hy : y = 48 ∨ y = 49
    · have hy' : y = if (y == 49) then 49 else 48 := by
        rcases hy with rfl | rfl <;> rfl
      rcases ih with ⟨l, h⟩ | ⟨l, h, h1, h2⟩
      · refine .inl ⟨(y == 49) :: l, ?_⟩
        rw [tx, List.map_cons, ← hy', h, tx]
      · refine .inr ⟨(y == 49) :: l, by simpa using h, ?_, by simpa using h2⟩
        intro k hk hkl
        match k with
        | 0 => simpa using hy'
        | k + 1 => simpa using h1 k (by simpa using hk) (by simpa using hkl)
    · refine .inr ⟨[], by simp, fun k _ hkl => by simp at hkl, ?_⟩
      simp only [List.length_nil, List.getElem_cons_zero]
      exact ⟨fun e => hy (.inl e), fun e => hy (.inr e)⟩
theorem txS_append (l m : List Bool) : txS l ++ txS m = txS (l ++ m) := by
  simp [txS, tx]
  rfl
theorem txS_inj (l m : List Bool) (h : txS l = txS m) : l = m := by
  have h' : tx l = tx m := by
    have := congrArg (fun s : ByteArray => s.data.toList) h
    simpa [txS] using this
  have hl : l.length = m.length := by rw [← length_tx l, h', length_tx]
  apply List.ext_getElem hl
  intro i h1 h2
  have e1 : (tx l)[i]? = (tx m)[i]? := by rw [h']
  simp only [tx, List.getElem?_map, List.getElem?_eq_getElem h1, List.getElem?_eq_getElem h2, Option.map_some] at e1
  cases hx : l[i] <;> cases hy : m[i] <;> simp_all
/-- how rows stand -/
def lexB : List Bool → List Bool → Int
  | [], [] => 0
  | [], _ :: _ => -1
  | _ :: _, [] => 1
  | a :: as, b :: bs => if a = b then lexB as bs else if a then 1 else -1
theorem take_snoc (l : List Bool) (k : Nat) (h : k < l.length) : l.take (k + 1) = l.take k ++ [l.getD k false] := by
  rw [List.take_succ_eq_append_getElem h, List.getD_eq_getElem?_getD, List.getElem?_eq_getElem h]; rfl
end Go.Proofs.Ytafcphnafgfgkaa.Bm
