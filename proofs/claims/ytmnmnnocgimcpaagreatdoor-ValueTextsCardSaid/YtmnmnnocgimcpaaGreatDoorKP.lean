/- Plain laws: a right text is a row of runes; what is cut, turned and split of it. Plain laws: what the functions of texts make of a right text, as runes. -/
import Derived.Test.YtmnmnnocgimcpaaGreatDoorHu
import Derived.Test.YtmnmnnocgimcpaaGreatDoorHp
import Derived.Test.YtmnmnnocgimcpaaGreatDoorKf
import Derived.Test.YtmnmnnocgimcpaaGreatDoorKe5
import Derived.Lib.MapLaws
import Derived.Lib.TrimUEq
import Derived.Lib.TrimByte
import Derived.Lib.IndexAny
namespace Go.Proofs.YtmnmnnocgimcpaaGreatDoor
open Go.RowKit
/-- the bytes of runes -/
def enc : List Nat → List UInt8
  | [] => []
  | r :: t => Lib.encodeRune (r : Int) ++ enc t
theorem enc_app : ∀ a b : List Nat, enc (a ++ b) = enc a ++ enc b
  | [], b => rfl
  | r :: a, b => by simp only [List.cons_append, enc, enc_app a b, List.append_assoc]
/-- runes of texts -/
def OkR (rs : List Nat) : Prop := ∀ r ∈ rs, rchr r = true
theorem OkR_nil : OkR [] := by intro r hr; cases hr
theorem rchr_le {r : Nat} (h : rchr r = true) : r ≤ 55295 ∨ (57344 ≤ r ∧ r ≤ 1114111) := by
  simp only [rchr, Bool.or_eq_true, Bool.and_eq_true, decide_eq_true_eq] at h
  omega
theorem bt_drop {s : ByteArray} {k : Nat} {u : UInt8} {l : List UInt8} (h : s.data.toList.drop k = u :: l) : (bt s k).toNat = u.toNat ∧ k < s.size ∧ s.data.toList.drop (k + 1) = l := by
  have hk : k < s.size := by
    have h1 := congrArg List.length h
    rw [List.length_drop, dl_len] at h1
    simp at h1
    omega
  obtain ⟨v, e1, e2⟩ := dl_drop s k hk
  rw [e1] at h
  injection h with h1 h2
  subst h1
  exact ⟨by rw [e2, Int.toNat_natCast], hk, h2⟩
theorem u8z {z : Int} (h : 0 ≤ z) (h2 : z < 256) : ((z.toNat.toUInt8).toNat : Int) = z := by
  have : z.toNat.toUInt8.toNat = z.toNat % 256 := by simp
  omega
theorem enc_size {s : ByteArray} {k : Nat} {l t : List UInt8} (h : s.data.toList.drop k = l ++ t) (h0 : l ≠ []) : k < s.size ∧ l.length ≤ s.size - k ∧ s.data.toList.drop (k + l.length) = t := by
  have h1 := congrArg List.length h
  rw [List.length_drop, dl_len, List.length_append] at h1
  have h2 : l.length ≠ 0 := fun e => h0 (List.length_eq_zero_iff.1 e)
  refine ⟨by omega, by omega, ?_⟩
  rw [← List.drop_drop, h, List.drop_left]
theorem encR_one {r : Nat} (h : r < 128) : Lib.encodeRune (r : Int) = [((r : Int)).toNat.toUInt8] := by
  unfold Lib.encodeRune
  rw [Lib.encodeRuneZ_one (by omega) (by omega)]; rfl
theorem encR_two {r : Nat} (h : 128 ≤ r) (h2 : r < 2048) : Lib.encodeRune (r : Int) = [(192 + (r : Int) / 64).toNat.toUInt8, (128 + (r : Int) % 64).toNat.toUInt8] := by
  unfold Lib.encodeRune
  rw [Lib.encodeRuneZ_two (by omega) (by omega)]; rfl
theorem encR_three {r : Nat} (h : 2048 ≤ r) (h2 : r < 65536) (h3 : r ≤ 55295 ∨ 57344 ≤ r) : Lib.encodeRune (r : Int) = [(224 + (r : Int) / 4096).toNat.toUInt8, (128 + (r : Int) / 64 % 64).toNat.toUInt8, (128 + (r : Int) % 64).toNat.toUInt8] := by
  unfold Lib.encodeRune
  rw [Lib.encodeRuneZ_three (by omega)]; rfl
theorem encR_four {r : Nat} (h : 65536 ≤ r) (h2 : r ≤ 1114111) : Lib.encodeRune (r : Int) = [(240 + (r : Int) / 262144).toNat.toUInt8, (128 + (r : Int) / 4096 % 64).toNat.toUInt8, (128 + (r : Int) / 64 % 64).toNat.toUInt8, (128 + (r : Int) % 64).toNat.toUInt8] := by
  unfold Lib.encodeRune
  rw [Lib.encodeRuneZ_four (by omega) (by omega)]; rfl
/-- the character that stands at a place -/
theorem nxt_enc {s : ByteArray} {k r : Nat} {t : List UInt8} (hr : rchr r = true) (h : s.data.toList.drop k = Lib.encodeRune (r : Int) ++ t) :
    nxt s k = (r, (Lib.encodeRune (r : Int)).length) := by
  have hle := rchr_le hr
  unfold nxt
  by_cases c1 : r < 128
  · rw [encR_one c1] at h ⊢
    obtain ⟨b0, _, _⟩ := bt_drop (show s.data.toList.drop k = ((r : Int)).toNat.toUInt8 :: t from h)
    have e0 := u8z (z := (r : Int)) (by omega) (by omega)
    rw [b0]
    unfold nxN
    rw [if_pos (by omega)]
    exact Prod.ext (by show _ = r; omega) rfl
  by_cases c2 : r < 2048
  · rw [encR_two (by omega) c2] at h ⊢
    obtain ⟨b0, _, h1⟩ := bt_drop (show s.data.toList.drop k = (192 + (r : Int) / 64).toNat.toUInt8 :: (128 + (r : Int) % 64).toNat.toUInt8 :: t from h)
    obtain ⟨b1, hs1, h2⟩ := bt_drop h1
    have e0 := u8z (z := 192 + (r : Int) / 64) (by omega) (by omega)
    have e1 := u8z (z := 128 + (r : Int) % 64) (by omega) (by omega)
    rw [b0, b1]
    unfold nxN
    rw [if_neg (by omega), if_pos (by omega), if_neg (by omega)]
    exact Prod.ext (by show _ = r; omega) rfl
  by_cases c3 : r < 65536
  · rw [encR_three (by omega) c3 (by omega)] at h ⊢
    obtain ⟨b0, _, h1⟩ := bt_drop (show s.data.toList.drop k = (224 + (r : Int) / 4096).toNat.toUInt8 :: (128 + (r : Int) / 64 % 64).toNat.toUInt8 :: (128 + (r : Int) % 64).toNat.toUInt8 :: t from h)
    obtain ⟨b1, _, h2⟩ := bt_drop h1
    obtain ⟨b2, hs2, h3⟩ := bt_drop h2
    have e0 := u8z (z := 224 + (r : Int) / 4096) (by omega) (by omega)
    have e1 := u8z (z := 128 + (r : Int) / 64 % 64) (by omega) (by omega)
    have e2 := u8z (z := 128 + (r : Int) % 64) (by omega) (by omega)
    rw [b0, b1, b2]
    generalize (224 + (r : Int) / 4096).toNat.toUInt8.toNat = B0 at *
    generalize (128 + (r : Int) / 64 % 64).toNat.toUInt8.toNat = B1 at *
    generalize (128 + (r : Int) % 64).toNat.toUInt8.toNat = B2 at *
    clear b0 b1 b2 h h1 h2 h3
    unfold nxN
    have hv : (B0 - 224) * 4096 + (B1 - 128) * 64 + (B2 - 128) = r := by omega
    rw [if_neg (by omega), if_neg (by omega), if_pos (by omega), if_neg (by rw [hv]; omega), hv]
    rfl
  · rw [encR_four (by omega) (by omega)] at h ⊢
    obtain ⟨b0, _, h1⟩ := bt_drop (show s.data.toList.drop k = (240 + (r : Int) / 262144).toNat.toUInt8 :: (128 + (r : Int) / 4096 % 64).toNat.toUInt8 :: (128 + (r : Int) / 64 % 64).toNat.toUInt8 :: (128 + (r : Int) % 64).toNat.toUInt8 :: t from h)
    obtain ⟨b1, _, h2⟩ := bt_drop h1
    obtain ⟨b2, _, h3⟩ := bt_drop h2
    obtain ⟨b3, hs3, h4⟩ := bt_drop h3
    have e0 := u8z (z := 240 + (r : Int) / 262144) (by omega) (by omega)
    have e1 := u8z (z := 128 + (r : Int) / 4096 % 64) (by omega) (by omega)
    have e2 := u8z (z := 128 + (r : Int) / 64 % 64) (by omega) (by omega)
    have e3 := u8z (z := 128 + (r : Int) % 64) (by omega) (by omega)
    rw [b0, b1, b2, b3]
    generalize (240 + (r : Int) / 262144).toNat.toUInt8.toNat = B0 at *
    generalize (128 + (r : Int) / 4096 % 64).toNat.toUInt8.toNat = B1 at *
    generalize (128 + (r : Int) / 64 % 64).toNat.toUInt8.toNat = B2 at *
    generalize (128 + (r : Int) % 64).toNat.toUInt8.toNat = B3 at *
    clear b0 b1 b2 b3 h h1 h2 h3 h4
    unfold nxN
    have hv : (B0 - 240) * 262144 + (B1 - 128) * 4096 + (B2 - 128) * 64 + (B3 - 128) = r := by omega
    rw [if_neg (by omega), if_neg (by omega), if_neg (by omega), if_pos (by omega), if_neg (by rw [hv]; omega), hv]
    rfl
theorem encR_ne (r : Int) : Lib.encodeRune r ≠ [] := by
  intro e
  have := (Lib.encodeRuneZ_length r).1
  unfold Lib.encodeRune at e
  have h2 := congrArg List.length e
  rw [List.length_map, List.length_nil] at h2
  omega
theorem encR_pos (r : Int) : 1 ≤ (Lib.encodeRune r).length := by
  have := encR_ne r
  rcases Nat.eq_zero_or_pos (Lib.encodeRune r).length with h | h
  · exact absurd (List.length_eq_zero_iff.1 h) this
  · exact h
theorem dec_enc {s : ByteArray} {k r : Nat} {t : List UInt8} (hr : rchr r = true) (h : s.data.toList.drop k = Lib.encodeRune (r : Int) ++ t) :
    Utf8.decode s k = (r, (Lib.encodeRune (r : Int)).length) ∧ k < s.size ∧ s.data.toList.drop (k + (Lib.encodeRune (r : Int)).length) = t := by
  obtain ⟨h1, h2, h3⟩ := enc_size h (encR_ne _)
  have h4 := nxt_enc hr h
  have h5 := encR_pos (r : Int)
  exact ⟨by rw [← nxt_dec s k h1 (by rw [h4]; show (Lib.encodeRune (r : Int)).length ≠ 0; omega), h4], h1, h3⟩
theorem drop_end' {s : ByteArray} {k : Nat} (h : s.data.toList.drop k = []) : ¬ k < s.size := by
  have h1 := congrArg List.length h
  rw [List.length_drop, dl_len] at h1
  simp at h1
  omega
theorem rTf_enc (s : ByteArray) : ∀ (rs : List Nat) (f k : Nat), OkR rs → s.data.toList.drop k = enc rs → s.size ≤ k + f → rTf s f k = true
  | [], 0, k, _, _, _ => rfl
  | [], f + 1, k, _, h, _ => by unfold rTf; rw [if_neg (drop_end' h)]
  | r :: t, 0, k, ho, h, hf => by
    have := (dec_enc (ho r (by simp)) (show _ = Lib.encodeRune (r : Int) ++ enc t from h)).2.1
    omega
  | r :: t, f + 1, k, ho, h, hf => by
    have hr := ho r (by simp)
    have h' : s.data.toList.drop k = Lib.encodeRune (r : Int) ++ enc t := h
    obtain ⟨_, h2, h3⟩ := dec_enc hr h'
    have h4 := nxt_enc hr h'
    have h5 := encR_pos (r : Int)
    unfold rTf
    rw [if_pos h2, h4]
    dsimp only
    rw [if_neg (by omega), hr, Bool.true_and]
    exact rTf_enc s t f _ (fun x hx => ho x (by simp [hx])) h3 (by omega)
theorem nx_one {n b0 b1 b2 b3 : Nat} (h : (nxN n b0 b1 b2 b3).2 = 1) : (nxN n b0 b1 b2 b3).1 < 128 := by
  unfold nxN at *
  repeat' split at h
  all_goals first | (simp at h) | skip
  rw [if_pos (by assumption)]
  assumption
theorem rTf_runes (s : ByteArray) : ∀ (f k : Nat), s.size ≤ k + f → rTf s f k = true → ∃ rs, OkR rs ∧ s.data.toList.drop k = enc rs
  | 0, k, hf, _ => ⟨[], OkR_nil, List.drop_eq_nil_of_le (by rw [dl_len]; omega)⟩
  | f + 1, k, hf, h => by
    by_cases hk : k < s.size
    · unfold rTf at h
      rw [if_pos hk] at h
      by_cases h0 : (nxt s k).2 = 0
      · rw [if_pos h0] at h; cases h
      · rw [if_neg h0, Bool.and_eq_true] at h
        obtain ⟨rs, ho, hrs⟩ := rTf_runes s f (k + (nxt s k).2) (by omega) h.2
        have hd := nxt_dec s k hk h0
        have hdl : Lib.decodeL (s.data.toList.drop k) = nxt s k := by rw [Lib.decodeL_drop, hd]
        have hne : s.data.toList.drop k ≠ [] := fun e => drop_end' e hk
        have he := Lib.encode_decode (s.data.toList.drop k) hne (by
          rw [hdl]
          rintro ⟨h1, h2⟩
          have := nx_one (show (nxN _ _ _ _ _).2 = 1 from h2)
          have h3 : (nxN (s.size - k) (bt s k).toNat (bt s (k + 1)).toNat (bt s (k + 2)).toNat (bt s (k + 3)).toNat).1 = 65533 := h1
          omega)
        rw [hdl] at he
        refine ⟨(nxt s k).1 :: rs, ?_, ?_⟩
        · intro x hx
          rcases List.mem_cons.1 hx with rfl | hx
          · exact h.1
          · exact ho x hx
        · show _ = Lib.encodeRune ((nxt s k).1 : Int) ++ enc rs
          rw [he, ← hrs, ← List.drop_drop, List.take_append_drop]
    · exact ⟨[], OkR_nil, List.drop_eq_nil_of_le (by rw [dl_len]; omega)⟩
theorem tS_runes {s : ByteArray} (h : tS s = true) : ∃ rs, OkR rs ∧ s.data.toList = enc rs := by
  rw [← rT_eq] at h
  obtain ⟨rs, h1, h2⟩ := rTf_runes s s.size 0 (by omega) h
  exact ⟨rs, h1, by rw [← h2, List.drop_zero]⟩
theorem tS_enc {s : ByteArray} {rs : List Nat} (ho : OkR rs) (h : s.data.toList = enc rs) : tS s = true := by
  rw [← rT_eq]
  exact rTf_enc s rs s.size 0 ho (by rw [List.drop_zero, h]) (by omega)
theorem count_enc (s : ByteArray) : ∀ (rs : List Nat) (f k : Nat), OkR rs → s.data.toList.drop k = enc rs → s.size ≤ k + f → Lib.runeCountFrom s f k = rs.length
  | [], f, k, _, h, _ => Lib.runeCountFrom_end s f k (drop_end' h)
  | r :: t, 0, k, ho, h, hf => by
    have := (dec_enc (ho r (by simp)) (show _ = Lib.encodeRune (r : Int) ++ enc t from h)).2.1
    omega
  | r :: t, f + 1, k, ho, h, hf => by
    obtain ⟨h1, h2, h3⟩ := dec_enc (ho r (by simp)) (show _ = Lib.encodeRune (r : Int) ++ enc t from h)
    have h5 := encR_pos (r : Int)
    unfold Lib.runeCountFrom
    rw [if_pos h2, h1, count_enc s t f _ (fun x hx => ho x (by simp [hx])) h3 (by omega)]
    simp; omega
theorem count_runes {s : ByteArray} {rs : List Nat} (ho : OkR rs) (h : s.data.toList = enc rs) : Lib.runeCount s = rs.length :=
  count_enc s rs s.size 0 ho (by rw [List.drop_zero, h]) (by omega)
/-- the runes at places from n on, ahead of e -/
def cutR (n e : Int) : Int → List Nat → List Nat
  | _, [] => []
  | p, r :: t => (if n ≤ p + 1 ∧ p + 1 < e then [r] else []) ++ cutR n e (p + 1) t
theorem cut_enc (s : ByteArray) (n e : Int) : ∀ (rs : List Nat) (f k : Nat) (p : Int), OkR rs → s.data.toList.drop k = enc rs → s.size ≤ k + f → cutD s n e f k p = enc (cutR n e p rs)
  | [], 0, k, p, _, _, _ => rfl
  | [], f + 1, k, p, _, h, _ => by unfold cutD; rw [if_neg (drop_end' h)]; rfl
  | r :: t, 0, k, p, ho, h, hf => by
    have := (dec_enc (ho r (by simp)) (show _ = Lib.encodeRune (r : Int) ++ enc t from h)).2.1
    omega
  | r :: t, f + 1, k, p, ho, h, hf => by
    obtain ⟨h1, h2, h3⟩ := dec_enc (ho r (by simp)) (show _ = Lib.encodeRune (r : Int) ++ enc t from h)
    have h5 := encR_pos (r : Int)
    unfold cutD
    rw [if_pos h2, h1]
    dsimp only
    rw [cut_enc s n e t f _ (p + 1) (fun x hx => ho x (by simp [hx])) h3 (by omega)]
    rw [show cutR n e p (r :: t) = (if n ≤ p + 1 ∧ p + 1 < e then [r] else []) ++ cutR n e (p + 1) t from rfl, enc_app]
    congr 1
    split
    · show _ = Lib.encodeRune (r : Int) ++ []
      rw [List.append_nil]
    · rfl
theorem cut_runes {s : ByteArray} {rs : List Nat} (n e : Int) (ho : OkR rs) (h : s.data.toList = enc rs) : (cutB s n e).data.toList = enc (cutR n e 0 rs) := by
  show (cutD s n e s.size 0 0).toArray.toList = _
  rw [List.toList_toArray]
  exact cut_enc s n e rs s.size 0 0 ho (by rw [List.drop_zero, h]) (by omega)
theorem map_enc (f : Int → Int) (g : Nat → Nat) (hg : ∀ r, (g r : Int) = f r) : ∀ (rs : List Nat) (n : Nat) (l : List UInt8), OkR rs → l = enc rs → l.length ≤ n → Lib.mapGoD f n l = enc (rs.map g)
  | [], n, l, _, h, _ => by subst h; exact Lib.mapGoD_nil f n
  | r :: t, 0, l, ho, h, hn => by
    have h5 := encR_pos (r : Int)
    have := congrArg List.length h
    simp only [enc, List.length_append] at this
    omega
  | r :: t, n + 1, l, ho, h, hn => by
    have h5 := encR_pos (r : Int)
    have hl := congrArg List.length h
    simp only [enc, List.length_append] at hl
    have hd := dec_enc (s := ⟨l.toArray⟩) (k := 0) (r := r) (t := enc t) (ho r (by simp)) (by rw [List.drop_zero]; exact h)
    have hdl : Lib.decodeL l = (r, (Lib.encodeRune (r : Int)).length) := hd.1
    have hdr : l.drop (Lib.encodeRune (r : Int)).length = enc t := by rw [h]; exact List.drop_left
    unfold Lib.mapGoD
    rw [if_neg (by intro e; subst e; simp at hl; omega), hdl]
    dsimp only
    rw [hdr, ← hg r, if_pos (by omega), map_enc f g hg t n (enc t) (fun x hx => ho x (by simp [hx])) rfl (by omega)]
    rfl
theorem map_runes {s : ByteArray} {rs : List Nat} (f : Int → Int) (g : Nat → Nat) (hg : ∀ r, (g r : Int) = f r) (ho : OkR rs) (h : s.data.toList = enc rs) : (mapB f s).data.toList = enc (rs.map g) := by
  show (Lib.mapD f s.data.toList).toArray.toList = _
  rw [List.toList_toArray]
  exact map_enc f g hg rs _ _ ho h (Nat.le_refl _)
/-- the groups of runes that are no blanks -/
def fR : Option (List Nat) → List Nat → List (List Nat)
  | none, [] => []
  | some g, [] => [g]
  | none, r :: t => if isBl r = true then fR none t else fR (some [r]) t
  | some g, r :: t => if isBl r = true then g :: fR none t else fR (some (g ++ [r])) t
def toB (rs : List Nat) : ByteArray := ⟨(enc rs).toArray⟩
theorem toB_list (rs : List Nat) : (toB rs).data.toList = enc rs := by show (enc rs).toArray.toList = _; rw [List.toList_toArray]
theorem ext_toB {s : ByteArray} {a : Nat} {g : List Nat} {t : List UInt8} (h : s.data.toList.drop a = enc g ++ t) : s.extract a (a + (enc g).length) = toB g := by
  apply ByteArray.ext
  apply Array.toList_inj.1
  rw [toB_list, ByteArray.data_extract, Array.toList_extract, List.extract_eq_take_drop, h, Nat.add_sub_cancel_left, List.take_left]
theorem fields_enc (s : ByteArray) : ∀ (rs : List Nat) (f k : Nat) (st : Option Nat) (cur : Option (List Nat)) (acc : List (Nat × Nat)), OkR rs → s.data.toList.drop k = enc rs → s.size ≤ k + f →
    ((st = none ∧ cur = none) ∨ ∃ a g, st = some a ∧ cur = some g ∧ g ≠ [] ∧ s.data.toList.drop a = enc g ++ enc rs ∧ k = a + (enc g).length) →
    (Lib.closeSpans s (Lib.spansFromP isBl s f k st acc)).map (fun x => s.extract x.1 x.2) = acc.map (fun x => s.extract x.1 x.2) ++ (fR cur rs).map toB
  | [], f, k, st, cur, acc, _, h, _, hc => by
    rw [Lib.spansFromP_end isBl s f k st acc (drop_end' h)]
    rcases hc with ⟨rfl, rfl⟩ | ⟨a, g, rfl, rfl, hg0, h1, h2⟩
    · simp [Lib.closeSpans, fR]
    · have hk : s.size = a + (enc g).length := by
        have h3 := congrArg List.length h1
        simp only [List.length_drop, dl_len, List.length_append] at h3
        have h4 : (enc []).length = 0 := rfl
        rw [h4] at h3
        have h5 := drop_end' h
        have h7 : 1 ≤ (enc g).length := by
          cases g with
          | nil => exact absurd rfl hg0
          | cons x y =>
            have := encR_pos (x : Int)
            simp only [enc, List.length_append]; omega
        omega
      have h6 := ext_toB h1
      simp only [Lib.closeSpans, fR, List.map_append, List.map_cons, List.map_nil]
      rw [hk, h6]
  | r :: t, 0, k, st, cur, acc, ho, h, hf, _ => by
    have := (dec_enc (ho r (by simp)) (show _ = Lib.encodeRune (r : Int) ++ enc t from h)).2.1
    omega
  | r :: t, f + 1, k, st, cur, acc, ho, h, hf, hc => by
    obtain ⟨h1, h2, h3⟩ := dec_enc (ho r (by simp)) (show _ = Lib.encodeRune (r : Int) ++ enc t from h)
    have h5 := encR_pos (r : Int)
    have ht : OkR t := fun x hx => ho x (by simp [hx])
    unfold Lib.spansFromP
    rw [if_pos h2, h1]
    dsimp only
    rcases hc with ⟨rfl, rfl⟩ | ⟨a, g, rfl, rfl, hg0, hg, hk⟩
    · by_cases hb : isBl r = true
      · rw [if_pos hb]
        dsimp only
        rw [fields_enc s t f _ none none acc ht h3 (by omega) (.inl ⟨rfl, rfl⟩)]
        conv => rhs; unfold fR
        rw [if_pos hb]
      · rw [if_neg hb]
        dsimp only
        rw [fields_enc s t f _ (some k) (some [r]) acc ht h3 (by omega) (.inr ⟨k, [r], rfl, rfl, by simp, by rw [h]; simp [enc], by simp [enc]⟩)]
        conv => rhs; unfold fR
        rw [if_neg hb]
    · by_cases hb : isBl r = true
      · rw [if_pos hb]
        dsimp only
        rw [fields_enc s t f _ none none (acc ++ [(a, k)]) ht h3 (by omega) (.inl ⟨rfl, rfl⟩)]
        have h6 := ext_toB hg
        conv => rhs; unfold fR
        rw [if_pos hb, List.map_append, List.map_cons, List.map_nil, List.map_cons, hk, h6, List.append_assoc]
        rfl
      · rw [if_neg hb]
        dsimp only
        rw [fields_enc s t f _ (some a) (some (g ++ [r])) acc ht h3 (by omega) (.inr ⟨a, g ++ [r], rfl, rfl, by simp, by rw [hg, enc_app]; simp [enc], by rw [enc_app, List.length_append]; simp [enc]; omega⟩)]
        conv => rhs; unfold fR
        rw [if_neg hb]
theorem fields_runes {s : ByteArray} {rs : List Nat} (ho : OkR rs) (h : s.data.toList = enc rs) : Lib.goFieldsP isBl s = (fR none rs).map toB := by
  unfold Lib.goFieldsP Lib.spansOfP
  have := fields_enc s rs s.size 0 none none [] ho (by rw [List.drop_zero, h]) (by omega) (.inl ⟨rfl, rfl⟩)
  simpa using this
end Go.Proofs.YtmnmnnocgimcpaaGreatDoor
namespace Go.Proofs.YtmnmnnocgimcpaaGreatDoor
open Go.RowKit
theorem cutR_none (n e : Int) : ∀ (p : Int) (rs : List Nat), e ≤ p + 1 → cutR n e p rs = []
  | _, [], _ => rfl
  | p, r :: t, h => by
    show (if n ≤ p + 1 ∧ p + 1 < e then [r] else []) ++ cutR n e (p + 1) t = []
    rw [if_neg (by omega), cutR_none n e (p + 1) t (by omega)]; rfl
theorem cutR_all (n e : Int) : ∀ (p : Int) (rs : List Nat), n ≤ p + 1 → p + (rs.length : Int) < e → cutR n e p rs = rs
  | _, [], _, _ => rfl
  | p, r :: t, h, h2 => by
    rw [List.length_cons] at h2
    show (if n ≤ p + 1 ∧ p + 1 < e then [r] else []) ++ cutR n e (p + 1) t = _
    rw [if_pos (by omega), cutR_all n e (p + 1) t (by omega) (by omega)]; rfl
theorem cutR_two (n e : Int) : ∀ (p : Int) (rs : List Nat), 0 ≤ p → p + (rs.length : Int) < e → cutR 1 n p rs ++ cutR n e p rs = rs
  | _, [], _, _ => rfl
  | p, r :: t, h0, h2 => by
    rw [List.length_cons] at h2
    by_cases h : n ≤ p + 1
    · rw [cutR_none 1 n p (r :: t) h, cutR_all n e p (r :: t) h (by rw [List.length_cons]; omega)]; rfl
    · have ih := cutR_two n e (p + 1) t (by omega) (by omega)
      show ((if (1 : Int) ≤ p + 1 ∧ p + 1 < n then [r] else []) ++ cutR 1 n (p + 1) t) ++ ((if n ≤ p + 1 ∧ p + 1 < e then [r] else []) ++ cutR n e (p + 1) t) = _
      rw [if_pos (by omega), if_neg (by omega), List.nil_append, List.append_assoc, ih]; rfl
theorem cutR_mem (n e : Int) : ∀ (p : Int) (rs : List Nat), ∀ x ∈ cutR n e p rs, x ∈ rs
  | _, [], x, h => by cases h
  | p, r :: t, x, h => by
    have h : x ∈ (if n ≤ p + 1 ∧ p + 1 < e then [r] else []) ++ cutR n e (p + 1) t := h
    rcases List.mem_append.1 h with h | h
    · split at h
      · rw [List.mem_singleton] at h; subst h; simp
      · cases h
    · exact List.mem_cons_of_mem _ (cutR_mem n e (p + 1) t x h)
theorem OkR.sub {a b : List Nat} (h : OkR b) (hs : ∀ x ∈ a, x ∈ b) : OkR a := fun x hx => h x (hs x hx)
/-- letters, turned -/
def upR (r : Nat) : Nat := if 97 ≤ r ∧ r ≤ 122 then r - 32 else r
def loR (r : Nat) : Nat := if 65 ≤ r ∧ r ≤ 90 then r + 32 else r
theorem upR_eq (r : Nat) : (upR r : Int) = upF r := by unfold upR upF shF; split <;> split <;> omega
theorem loR_eq (r : Nat) : (loR r : Int) = loF r := by unfold loR loF shF; split <;> split <;> omega
theorem rchr_mid {r : Nat} (h : 32 ≤ r) (h2 : r ≤ 55295) : rchr r = true := by simp [rchr, h, h2]
theorem upR_ok {r : Nat} (h : rchr r = true) : rchr (upR r) = true := by
  unfold upR
  split
  · exact rchr_mid (by omega) (by omega)
  · exact h
theorem loR_ok {r : Nat} (h : rchr r = true) : rchr (loR r) = true := by
  unfold loR
  split
  · exact rchr_mid (by omega) (by omega)
  · exact h
theorem OkR.map {f : Nat → Nat} {rs : List Nat} (h : OkR rs) (hf : ∀ r, rchr r = true → rchr (f r) = true) : OkR (rs.map f) := by
  intro x hx
  obtain ⟨r, hr, rfl⟩ := List.mem_map.1 hx
  exact hf r (h r hr)
theorem lo_up (r : Nat) : loR (upR r) = loR r := by unfold upR loR; repeat' split
                                                    all_goals omega
theorem up_lo (r : Nat) : upR (loR r) = upR r := by unfold upR loR; repeat' split
                                                    all_goals omega
theorem ba_of {s : ByteArray} {l : List UInt8} (h : s.data.toList = l) : s = ⟨l.toArray⟩ := by
  apply ByteArray.ext
  apply Array.toList_inj.1
  rw [h, List.toList_toArray]
theorem ba_same {s t : ByteArray} (h : s.data.toList = t.data.toList) : s = t := by
  apply ByteArray.ext
  exact Array.toList_inj.1 h
theorem lower_upper {s : ByteArray} {rs : List Nat} (ho : OkR rs) (h : s.data.toList = enc rs) : mapB loF (mapB upF s) = mapB loF s := by
  apply ba_same
  have h1 := map_runes upF upR upR_eq ho h
  rw [map_runes loF loR loR_eq (ho.map fun _ => upR_ok) h1, map_runes loF loR loR_eq ho h, List.map_map]
  congr 1
  apply List.map_congr_left
  intro r _
  exact lo_up r
theorem upper_lower {s : ByteArray} {rs : List Nat} (ho : OkR rs) (h : s.data.toList = enc rs) : mapB upF (mapB loF s) = mapB upF s := by
  apply ba_same
  have h1 := map_runes loF loR loR_eq ho h
  rw [map_runes upF upR upR_eq (ho.map fun _ => loR_ok) h1, map_runes upF upR upR_eq ho h, List.map_map]
  congr 1
  apply List.map_congr_left
  intro r _
  exact up_lo r
/-- groups with a blank between -/
def inter : List (List Nat) → List Nat
  | [] => []
  | [g] => g
  | g :: h :: t => g ++ 32 :: inter (h :: t)
def nR (rs : List Nat) : List Nat := inter (fR none rs)
def GoodG (gs : List (List Nat)) : Prop := ∀ g ∈ gs, g ≠ [] ∧ ∀ r ∈ g, isBl r = false
theorem fR_good : ∀ (rs : List Nat) (cur : Option (List Nat)), (∀ g, cur = some g → g ≠ [] ∧ ∀ r ∈ g, isBl r = false) → GoodG (fR cur rs)
  | [], none, _ => by intro g hg; cases hg
  | [], some g, h => by
    intro x hx
    have hx : x ∈ [g] := hx
    rw [List.mem_singleton] at hx
    subst hx; exact h _ rfl
  | r :: t, none, h => by
    unfold fR
    split
    · exact fR_good t none (fun g hg => by cases hg)
    · rename_i hb
      refine fR_good t (some [r]) fun g hg => ?_
      injection hg with hg
      subst hg
      exact ⟨by simp, fun x hx => by rw [List.mem_singleton] at hx; subst hx; simpa using hb⟩
  | r :: t, some g, h => by
    unfold fR
    have hg := h g rfl
    split
    · intro x hx
      rcases List.mem_cons.1 hx with rfl | hx
      · exact hg
      · exact fR_good t none (fun g hg => by cases hg) x hx
    · rename_i hb
      refine fR_good t (some (g ++ [r])) fun x hx => ?_
      injection hx with hx
      subst hx
      refine ⟨by simp, fun y hy => ?_⟩
      rcases List.mem_append.1 hy with hy | hy
      · exact hg.2 y hy
      · rw [List.mem_singleton] at hy; subst hy; simpa using hb
theorem fR_some (g t : List Nat) (r : Nat) : fR (some g) (r :: t) = if isBl r = true then g :: fR none t else fR (some (g ++ [r])) t := by conv => lhs; unfold fR
theorem fR_none (t : List Nat) (r : Nat) : fR none (r :: t) = if isBl r = true then fR none t else fR (some [r]) t := by conv => lhs; unfold fR
theorem fR_run : ∀ (g : List Nat) (h rest : List Nat), (∀ r ∈ g, isBl r = false) → fR (some h) (g ++ 32 :: rest) = (h ++ g) :: fR none rest
  | [], h, rest, _ => by
    show fR (some h) (32 :: rest) = _
    rw [fR_some, if_pos (by decide), List.append_nil]
  | r :: t, h, rest, hg => by
    show fR (some h) (r :: (t ++ 32 :: rest)) = _
    rw [fR_some, if_neg (by rw [hg r (by simp)]; decide), fR_run t (h ++ [r]) rest (fun x hx => hg x (by simp [hx])), List.append_assoc]; rfl
theorem fR_last : ∀ (g : List Nat) (h : List Nat), (∀ r ∈ g, isBl r = false) → fR (some h) g = [h ++ g]
  | [], h, _ => by show [h] = _; rw [List.append_nil]
  | r :: t, h, hg => by
    show fR (some h) (r :: t) = _
    rw [fR_some, if_neg (by rw [hg r (by simp)]; decide), fR_last t (h ++ [r]) (fun x hx => hg x (by simp [hx])), List.append_assoc]; rfl
theorem fR_inter : ∀ gs : List (List Nat), GoodG gs → fR none (inter gs) = gs
  | [], _ => rfl
  | [g], h => by
    obtain ⟨h1, h2⟩ := h g (by simp)
    match g, h1, h2 with
    | r :: t, _, h2 =>
      show fR none (r :: t) = _
      rw [fR_none, if_neg (by rw [h2 r (by simp)]; decide), fR_last t [r] (fun x hx => h2 x (by simp [hx]))]; rfl
  | g :: k :: t, h => by
    obtain ⟨h1, h2⟩ := h g (by simp)
    have ih := fR_inter (k :: t) (fun x hx => h x (by simp only [List.mem_cons] at hx ⊢; exact .inr hx))
    match g, h1, h2 with
    | r :: u, _, h2 =>
      show fR none (r :: (u ++ 32 :: inter (k :: t))) = _
      rw [fR_none, if_neg (by rw [h2 r (by simp)]; decide), fR_run u [r] _ (fun x hx => h2 x (by simp [hx])), ih]; rfl
theorem nR_again (rs : List Nat) : nR (nR rs) = nR rs := by
  unfold nR
  rw [fR_inter _ (fR_good rs none (fun g hg => by cases hg))]
theorem inter_mem : ∀ gs : List (List Nat), ∀ x ∈ inter gs, x = 32 ∨ ∃ g ∈ gs, x ∈ g
  | [], x, h => by cases h
  | [g], x, h => .inr ⟨g, by simp, h⟩
  | g :: k :: t, x, h => by
    rcases List.mem_append.1 h with h | h
    · exact .inr ⟨g, by simp, h⟩
    · rcases List.mem_cons.1 h with h | h
      · exact .inl h
      · rcases inter_mem (k :: t) x h with h | ⟨y, hy, h⟩
        · exact .inl h
        · exact .inr ⟨y, List.mem_cons_of_mem _ hy, h⟩
theorem fR_sub : ∀ (rs : List Nat) (cur : Option (List Nat)), ∀ g ∈ fR cur rs, ∀ x ∈ g, x ∈ rs ∨ ∃ h, cur = some h ∧ x ∈ h
  | [], none, g, hg, x, hx => by cases hg
  | [], some h, g, hg, x, hx => by
    have hg : g ∈ [h] := hg
    rw [List.mem_singleton] at hg
    subst hg; exact .inr ⟨_, rfl, hx⟩
  | r :: t, none, g, hg, x, hx => by
    unfold fR at hg
    split at hg
    · rcases fR_sub t none g hg x hx with h | ⟨h, h1, _⟩
      · exact .inl (List.mem_cons_of_mem _ h)
      · cases h1
    · rcases fR_sub t (some [r]) g hg x hx with h | ⟨h, h1, h2⟩
      · exact .inl (List.mem_cons_of_mem _ h)
      · injection h1 with h1
        subst h1
        rw [List.mem_singleton] at h2
        subst h2; exact .inl (by simp)
  | r :: t, some h, g, hg, x, hx => by
    unfold fR at hg
    split at hg
    · rcases List.mem_cons.1 hg with rfl | hg
      · exact .inr ⟨_, rfl, hx⟩
      · rcases fR_sub t none g hg x hx with h | ⟨h, h1, _⟩
        · exact .inl (List.mem_cons_of_mem _ h)
        · cases h1
    · rcases fR_sub t (some (h ++ [r])) g hg x hx with h | ⟨k, h1, h2⟩
      · exact .inl (List.mem_cons_of_mem _ h)
      · injection h1 with h1
        subst h1
        rcases List.mem_append.1 h2 with h2 | h2
        · exact .inr ⟨_, rfl, h2⟩
        · rw [List.mem_singleton] at h2
          subst h2; exact .inl (by simp)
theorem nR_ok {rs : List Nat} (h : OkR rs) : OkR (nR rs) := by
  intro x hx
  rcases inter_mem _ x hx with rfl | ⟨g, hg, hx⟩
  · decide
  · rcases fR_sub rs none g hg x hx with h1 | ⟨k, h1, _⟩
    · exact h x h1
    · cases h1
theorem join_groups : ∀ gs : List (List Nat), (joinB ⟨#[32]⟩ (gs.map toB)).data.toList = enc (inter gs)
  | [] => rfl
  | [g] => by
    show (List.intercalate [32] [(toB g).data.toList]).toArray.toList = enc g
    rw [List.toList_toArray, toB_list]
    simp [List.intercalate]
  | g :: k :: t => by
    have ih := join_groups (k :: t)
    have e1 : (joinB ⟨#[32]⟩ ((g :: k :: t).map toB)).data.toList = List.intercalate [32] ((toB g).data.toList :: (toB k).data.toList :: (t.map toB).map (·.data.toList)) := by
      show (List.intercalate [32] ((toB g).data.toList :: (toB k).data.toList :: (t.map toB).map (·.data.toList))).toArray.toList = _
      rw [List.toList_toArray]
    have e2 : (joinB ⟨#[32]⟩ ((k :: t).map toB)).data.toList = List.intercalate [32] ((toB k).data.toList :: (t.map toB).map (·.data.toList)) := by
      show (List.intercalate [32] ((toB k).data.toList :: (t.map toB).map (·.data.toList))).toArray.toList = _
      rw [List.toList_toArray]
    rw [e1, List.intercalate_cons_cons, ← e2, ih, toB_list]
    show _ = enc (g ++ 32 :: inter (k :: t))
    rw [enc_app]
    show enc g ++ [32] ++ enc (inter (k :: t)) = enc g ++ (Lib.encodeRune ((32 : Nat) : Int) ++ enc (inter (k :: t)))
    rw [encR_one (by decide), List.append_assoc]
    rfl
/-- what is normalised -/
def normB (s : ByteArray) : ByteArray := joinB ⟨#[32]⟩ (Lib.goFieldsP isBl s)
theorem norm_runes {s : ByteArray} {rs : List Nat} (ho : OkR rs) (h : s.data.toList = enc rs) : (normB s).data.toList = enc (nR rs) := by
  unfold normB
  rw [fields_runes ho h, join_groups]; rfl
theorem norm_again {s : ByteArray} {rs : List Nat} (ho : OkR rs) (h : s.data.toList = enc rs) : normB (normB s) = normB s := by
  apply ba_same
  rw [norm_runes (nR_ok ho) (norm_runes ho h), norm_runes ho h, nR_again]
/-- how long it is -/
def sumG : List (List Nat) → Nat
  | [] => 0
  | g :: t => (enc g).length + 1 + sumG t
theorem sumG_le : ∀ (rs : List Nat) (cur : Option (List Nat)), sumG (fR cur rs) ≤ (match cur with | none => 1 | some g => (enc g).length + 1) + (enc rs).length
  | [], none => by simp [fR, sumG]
  | [], some g => by simp [fR, sumG]
  | r :: t, none => by
    have h5 := encR_pos (r : Int)
    have e : (enc (r :: t)).length = (Lib.encodeRune (r : Int)).length + (enc t).length := by simp [enc]
    unfold fR
    split
    · have := sumG_le t none
      dsimp only at this ⊢
      omega
    · have := sumG_le t (some [r])
      have e2 : (enc [r]).length = (Lib.encodeRune (r : Int)).length := by simp [enc]
      dsimp only at this ⊢
      omega
  | r :: t, some g => by
    have h5 := encR_pos (r : Int)
    have e : (enc (r :: t)).length = (Lib.encodeRune (r : Int)).length + (enc t).length := by simp [enc]
    unfold fR
    split
    · have := sumG_le t none
      unfold sumG
      dsimp only at this ⊢
      omega
    · have := sumG_le t (some (g ++ [r]))
      have e2 : (enc (g ++ [r])).length = (enc g).length + (Lib.encodeRune (r : Int)).length := by rw [enc_app]; simp [enc]
      dsimp only at this ⊢
      omega
theorem inter_len : ∀ gs : List (List Nat), (enc (inter gs)).length ≤ sumG gs - 1
  | [] => by simp [inter, enc, sumG]
  | [g] => by simp [inter, sumG]
  | g :: k :: t => by
    have ih := inter_len (k :: t)
    have e : (enc (inter (g :: k :: t))).length = (enc g).length + 1 + (enc (inter (k :: t))).length := by
      show (enc (g ++ 32 :: inter (k :: t))).length = _
      rw [enc_app, List.length_append]
      show _ + (Lib.encodeRune ((32 : Nat) : Int) ++ enc (inter (k :: t))).length = _
      rw [encR_one (by decide), List.length_append]
      simp; omega
    have h1 : 1 ≤ sumG (k :: t) := by unfold sumG; omega
    have h2 : sumG (g :: k :: t) = (enc g).length + 1 + sumG (k :: t) := rfl
    omega
theorem norm_size {s : ByteArray} {rs : List Nat} (ho : OkR rs) (h : s.data.toList = enc rs) : (normB s).size ≤ s.size := by
  rw [← dl_len, ← dl_len, norm_runes ho h, h]
  have h1 := inter_len (fR none rs)
  have h2 := sumG_le rs none
  dsimp only at h2
  unfold nR
  omega
/-- a low byte is a rune -/
theorem encR_low (r : Nat) (b : UInt8) (hb : b ∈ Lib.encodeRune (r : Int)) (h : b.toNat < 128) : r = b.toNat := by
  by_cases c1 : r < 128
  · rw [encR_one c1] at hb
    rw [List.mem_singleton] at hb
    subst hb
    have := u8z (z := (r : Int)) (by omega) (by omega)
    omega
  · exfalso
    unfold Lib.encodeRune Lib.encodeRuneZ at hb
    obtain ⟨x, hx, rfl⟩ := List.mem_map.1 hb
    have hx2 := Lib.encodeRuneZ_byte (r : Int) x (by unfold Lib.encodeRuneZ; exact hx)
    have := u8z hx2.1 hx2.2
    have hx3 : 128 ≤ x := by
      rw [if_neg (by omega)] at hx
      split at hx
      · simp at hx; omega
      · split at hx
        · simp at hx; omega
        · split at hx
          · simp at hx; omega
          · simp at hx; omega
    omega
theorem enc_low : ∀ (rs : List Nat) (b : UInt8), b ∈ enc rs → b.toNat < 128 → b.toNat ∈ rs
  | [], b, hb, _ => by cases hb
  | r :: t, b, hb, h => by
    rcases List.mem_append.1 hb with hb | hb
    · rw [← encR_low r b hb h]; simp
    · exact List.mem_cons_of_mem _ (enc_low t b hb h)
theorem nR_bl {rs : List Nat} {x : Nat} (hx : x ∈ nR rs) (h : x ≠ 32) : isBl x = false := by
  rcases inter_mem _ x hx with e | ⟨g, hg, hx⟩
  · exact absurd e h
  · exact (fR_good rs none (fun g hg => by cases hg) g hg).2 x hx
theorem norm_any {s : ByteArray} {rs : List Nat} (ho : OkR rs) (h : s.data.toList = enc rs) : ∀ b ∈ (normB s).data.toList, b ≠ 9 ∧ b ≠ 10 ∧ b ≠ 13 := by
  intro b hb
  rw [norm_runes ho h] at hb
  have key : ∀ c : Nat, c < 128 → c ≠ 32 → isBl c = true → b.toNat ≠ c := by
    intro c h1 h2 h3 e
    have := enc_low _ b hb (by omega)
    rw [e] at this
    rw [nR_bl this h2] at h3; cases h3
  refine ⟨fun e => ?_, fun e => ?_, fun e => ?_⟩ <;> subst e
  · exact key 9 (by decide) (by decide) (by decide) rfl
  · exact key 10 (by decide) (by decide) (by decide) rfl
  · exact key 13 (by decide) (by decide) (by decide) rfl
/-- a group has no blank byte, and is not empty -/
theorem group_bytes {g : List Nat} (h : g ≠ [] ∧ ∀ r ∈ g, isBl r = false) : enc g ≠ [] ∧ ∀ b ∈ enc g, b ≠ 32 := by
  constructor
  · match g, h.1 with
    | r :: t, _ =>
      intro e
      have := encR_ne (r : Int)
      have h2 : Lib.encodeRune (r : Int) ++ enc t = [] := e
      rw [List.append_eq_nil_iff] at h2
      exact this h2.1
  · intro b hb e
    subst e
    have := enc_low g 32 hb (by decide)
    have h2 := h.2 _ this
    revert h2; decide
/-- no two blanks in a row; no blank at the ends -/
theorem inter_dbl : ∀ gs : List (List Nat), GoodG gs → (∀ i, List.isPrefixOf [32, 32] ((enc (inter gs)).drop i) = false) ∧ (enc (inter gs)).head? ≠ some 32 ∧ (enc (inter gs)).getLast? ≠ some 32
  | [], _ => ⟨fun i => by simp [inter, enc], by simp [inter, enc], by simp [inter, enc]⟩
  | [g], h => by
    obtain ⟨h1, h2⟩ := group_bytes (h g (by simp))
    refine ⟨fun i => ?_, fun e => ?_, fun e => ?_⟩
    · show List.isPrefixOf [32, 32] ((enc g).drop i) = false
      cases hd : (enc g).drop i with
      | nil => rfl
      | cons b l =>
        have hb : b ∈ enc g := List.mem_of_mem_drop (by rw [hd]; simp)
        have := h2 b hb
        simp [List.isPrefixOf]
        intro e; exact absurd e.symm this
    · exact h2 32 (List.mem_of_head? e) rfl
    · exact h2 32 (List.mem_of_getLast? e) rfl
  | g :: k :: t, h => by
    obtain ⟨h1, h2⟩ := group_bytes (h g (by simp))
    obtain ⟨i1, i2, i3⟩ := inter_dbl (k :: t) (fun x hx => h x (by simp only [List.mem_cons] at hx ⊢; exact .inr hx))
    have e : enc (inter (g :: k :: t)) = enc g ++ 32 :: enc (inter (k :: t)) := by
      show enc (g ++ 32 :: inter (k :: t)) = _
      rw [enc_app]
      show _ ++ (Lib.encodeRune ((32 : Nat) : Int) ++ enc (inter (k :: t))) = _
      rw [encR_one (by decide)]; rfl
    have hne : enc (inter (k :: t)) ≠ [] := by
      obtain ⟨k1, _⟩ := group_bytes (h k (by simp))
      cases t with
      | nil => exact k1
      | cons a b =>
        show enc (k ++ 32 :: inter (a :: b)) ≠ []
        rw [enc_app]
        intro e2
        exact k1 (List.append_eq_nil_iff.1 e2).1
    rw [e]
    generalize enc (inter (k :: t)) = B at *
    generalize enc g = A at *
    refine ⟨fun i => ?_, fun e2 => ?_, fun e2 => ?_⟩
    · rcases Nat.lt_trichotomy i A.length with hi | hi | hi
      · rw [List.drop_append_of_le_length (by omega)]
        cases hd : A.drop i with
        | nil => have := congrArg List.length hd; simp at this; omega
        | cons b l =>
          have hb : b ∈ A := List.mem_of_mem_drop (by rw [hd]; simp)
          have := h2 b hb
          simp [List.isPrefixOf]
          intro e; exact absurd e.symm this
      · subst hi
        rw [List.drop_left]
        cases B with
        | nil => exact absurd rfl hne
        | cons b l =>
          simp [List.isPrefixOf]
          intro e; subst e; exact i2 rfl
      · obtain ⟨j, rfl⟩ : ∃ j, i = A.length + (j + 1) := ⟨i - A.length - 1, by omega⟩
        rw [← List.drop_drop, List.drop_left, List.drop_succ_cons]
        exact i1 j
    · cases A with
      | nil => exact h1 rfl
      | cons a l =>
        simp at e2
        exact h2 a (by simp) e2
    · rw [List.getLast?_append] at e2
      have : (32 :: B).getLast? = B.getLast? := by
        cases B with
        | nil => exact absurd rfl hne
        | cons b l => rfl
      rw [this] at e2
      cases hB : B.getLast? with
      | none => rw [List.getLast?_eq_none_iff] at hB; exact hne hB
      | some y => rw [hB] at e2; simp at e2; subst e2; exact i3 hB
theorem norm_dbl {s : ByteArray} {rs : List Nat} (ho : OkR rs) (h : s.data.toList = enc rs) : Lib.contains (normB s).data.toList [32, 32] = false := by
  rcases Bool.eq_false_or_eq_true (Lib.contains (normB s).data.toList [32, 32]) with hc | hc
  · obtain ⟨i, _, hi⟩ := (contains_occ _ _).1 hc
    have hd := (inter_dbl _ (fR_good rs none (fun g hg => by cases hg))).1 i
    rw [norm_runes ho h] at hi
    rw [show Lib.occAt (enc (nR rs)) [32, 32] i = List.isPrefixOf [32, 32] ((enc (nR rs)).drop i) from rfl, show nR rs = inter (fR none rs) from rfl, hd] at hi
    cases hi
  · exact hc
theorem dropW_head (l : List UInt8) (h : l.head? ≠ some 32) : l.dropWhile (· == (32 : UInt8)) = l := by
  cases l with
  | nil => rfl
  | cons b t =>
    have : (b == (32 : UInt8)) = false := by
      rw [beq_eq_false_iff_ne]
      intro e; subst e; exact h rfl
    simp [List.dropWhile, this]
theorem norm_trim {s : ByteArray} {rs : List Nat} (ho : OkR rs) (h : s.data.toList = enc rs) : Lib.trimB (normB s).data.toList 32 = (normB s).data.toList := by
  obtain ⟨_, h1, h2⟩ := inter_dbl _ (fR_good rs none (fun g hg => by cases hg))
  rw [norm_runes ho h]
  unfold Lib.trimB Lib.trimLeftB Lib.trimRightB nR
  rw [dropW_head (enc (inter (fR none rs))).reverse (by rw [List.head?_reverse]; exact h2), List.reverse_reverse, dropW_head _ h1]
theorem norm_noany {s : ByteArray} {rs : List Nat} (ho : OkR rs) (h : s.data.toList = enc rs) : Lib.containsAny (normB s).data.toList [9, 10, 13] = false := by
  have hn := norm_any ho h
  unfold Lib.containsAny
  rw [Lib.indexAny_none (fun j b _ hb => by
    have := hn b (List.mem_of_getElem? hb)
    simp [this.1, this.2.1, this.2.2])]
  rfl
end Go.Proofs.YtmnmnnocgimcpaaGreatDoor
