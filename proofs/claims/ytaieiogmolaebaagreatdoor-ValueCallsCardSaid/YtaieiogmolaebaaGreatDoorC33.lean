/- Plain laws: a right text is a row of runes; what is cut, turned and split of it. Plain laws: what the functions of texts make of a right text, as runes. Plain: what the reference's loops over bytes make of right texts. -/
import Derived.Test.YtaieiogmolaebaaGreatDoorC30
import Derived.Test.YtaieiogmolaebaaGreatDoorHp
import Derived.Test.YtaieiogmolaebaaGreatDoorKf
import Derived.Test.YtaieiogmolaebaaGreatDoorKe5
import Derived.Lib.MapLaws
import Derived.Lib.TrimUEq
import Derived.Lib.TrimByte
import Derived.Lib.IndexAny
import Derived.Test.YtaieiogmolaebaaGreatDoorC15
namespace Go.Proofs.YtaieiogmolaebaaGreatDoor
open Go.RowKit
def enc : List Nat → List UInt8
 | [] => []
 | r :: t => Lib.encodeRune (r : Int) ++ enc t
theorem enc_app : ∀ a b : List Nat, enc (a ++ b) = enc a ++ enc b
 | [], b => rfl
 | r :: a, b => by simp only [List.cons_append, enc, enc_app a b, List.append_assoc]
def OkR (rs : List Nat) : Prop := ∀ r ∈ rs, rchr r = true
theorem OkR_nil : OkR [] := by intro r hr; cases hr
theorem rchr_le {r : Nat} (h : rchr r = true) : r ≤ 55295 ∨ (57344 ≤ r ∧ r ≤ 1114111) := by
 simp only [rchr, Bool.or_eq_true, Bool.and_eq_true, decide_eq_true_eq] at h
 omega
theorem bt_drop {s : ByteArray} {k : Nat} {u : UInt8} {l : List UInt8} (h : s.data.toList.drop k = u :: l) : (bt s k).toNat = u.toNat ∧ k < s.size ∧ s.data.toList.drop (k + 1) = l := by
 have hk : k < s.size := by
  have h1 := congrArg List.length h
  rw [List.length_drop, dl_len] at h1
  simp at h1
  omega
 obtain ⟨v, e1, e2⟩ := dl_drop s k hk
 rw [e1] at h
 injection h with h1 h2
 subst h1
 exact ⟨by rw [e2, Int.toNat_natCast], hk, h2⟩
theorem u8z {z : Int} (h : 0 ≤ z) (h2 : z < 256) : ((z.toNat.toUInt8).toNat : Int) = z := by
 have : z.toNat.toUInt8.toNat = z.toNat % 256 := by simp
 omega
theorem enc_size {s : ByteArray} {k : Nat} {l t : List UInt8} (h : s.data.toList.drop k = l ++ t) (h0 : l ≠ []) : k < s.size ∧ l.length ≤ s.size - k ∧ s.data.toList.drop (k + l.length) = t := by
 have h1 := congrArg List.length h
 rw [List.length_drop, dl_len, List.length_append] at h1
 have h2 : l.length ≠ 0 := fun e => h0 (List.length_eq_zero_iff.1 e)
 refine ⟨by omega, by omega, ?_⟩
 rw [← List.drop_drop, h, List.drop_left]
theorem encR_one {r : Nat} (h : r < 128) : Lib.encodeRune (r : Int) = [((r : Int)).toNat.toUInt8] := by
 unfold Lib.encodeRune
 rw [Lib.encodeRuneZ_one (by omega) (by omega)]; rfl
theorem encR_two {r : Nat} (h : 128 ≤ r) (h2 : r < 2048) : Lib.encodeRune (r : Int) = [(192 + (r : Int) / 64).toNat.toUInt8, (128 + (r : Int) % 64).toNat.toUInt8] := by
 unfold Lib.encodeRune
 rw [Lib.encodeRuneZ_two (by omega) (by omega)]; rfl
theorem encR_three {r : Nat} (h : 2048 ≤ r) (h2 : r < 65536) (h3 : r ≤ 55295 ∨ 57344 ≤ r) : Lib.encodeRune (r : Int) = [(224 + (r : Int) / 4096).toNat.toUInt8, (128 + (r : Int) / 64 % 64).toNat.toUInt8, (128 + (r : Int) % 64).toNat.toUInt8] := by
 unfold Lib.encodeRune
 rw [Lib.encodeRuneZ_three (by omega)]; rfl
theorem encR_four {r : Nat} (h : 65536 ≤ r) (h2 : r ≤ 1114111) : Lib.encodeRune (r : Int) = [(240 + (r : Int) / 262144).toNat.toUInt8, (128 + (r : Int) / 4096 % 64).toNat.toUInt8, (128 + (r : Int) / 64 % 64).toNat.toUInt8, (128 + (r : Int) % 64).toNat.toUInt8] := by
 unfold Lib.encodeRune
 rw [Lib.encodeRuneZ_four (by omega) (by omega)]; rfl
theorem nxt_enc {s : ByteArray} {k r : Nat} {t : List UInt8} (hr : rchr r = true) (h : s.data.toList.drop k = Lib.encodeRune (r : Int) ++ t) :
  nxt s k = (r, (Lib.encodeRune (r : Int)).length) := by
 have hle := rchr_le hr
 unfold nxt
 by_cases c1 : r < 128
 ·rw [encR_one c1] at h ⊢
  obtain ⟨b0, _, _⟩ := bt_drop (show s.data.toList.drop k = ((r : Int)).toNat.toUInt8 :: t from h)
  have e0 := u8z (z := (r : Int)) (by omega) (by omega)
  rw [b0]
  unfold nxN
  rw [if_pos (by omega)]
  exact Prod.ext (by show _ = r; omega) rfl
 by_cases c2 : r < 2048
 ·rw [encR_two (by omega) c2] at h ⊢
  obtain ⟨b0, _, h1⟩ := bt_drop (show s.data.toList.drop k = (192 + (r : Int) / 64).toNat.toUInt8 :: (128 + (r : Int) % 64).toNat.toUInt8 :: t from h)
  obtain ⟨b1, hs1, h2⟩ := bt_drop h1
  have e0 := u8z (z := 192 + (r : Int) / 64) (by omega) (by omega)
  have e1 := u8z (z := 128 + (r : Int) % 64) (by omega) (by omega)
  rw [b0, b1]
  unfold nxN
  rw [if_neg (by omega), if_pos (by omega), if_neg (by omega)]
  exact Prod.ext (by show _ = r; omega) rfl
 by_cases c3 : r < 65536
 ·rw [encR_three (by omega) c3 (by omega)] at h ⊢
  obtain ⟨b0, _, h1⟩ := bt_drop (show s.data.toList.drop k = (224 + (r : Int) / 4096).toNat.toUInt8 :: (128 + (r : Int) / 64 % 64).toNat.toUInt8 :: (128 + (r : Int) % 64).toNat.toUInt8 :: t from h)
  obtain ⟨b1, _, h2⟩ := bt_drop h1
  obtain ⟨b2, hs2, h3⟩ := bt_drop h2
  have e0 := u8z (z := 224 + (r : Int) / 4096) (by omega) (by omega)
  have e1 := u8z (z := 128 + (r : Int) / 64 % 64) (by omega) (by omega)
  have e2 := u8z (z := 128 + (r : Int) % 64) (by omega) (by omega)
  rw [b0, b1, b2]
  generalize (224 + (r : Int) / 4096).toNat.toUInt8.toNat = B0 at *
  generalize (128 + (r : Int) / 64 % 64).toNat.toUInt8.toNat = B1 at *
  generalize (128 + (r : Int) % 64).toNat.toUInt8.toNat = B2 at *
  clear b0 b1 b2 h h1 h2 h3
  unfold nxN
  have hv : (B0 - 224) * 4096 + (B1 - 128) * 64 + (B2 - 128) = r := by omega
  rw [if_neg (by omega), if_neg (by omega), if_pos (by omega), if_neg (by rw [hv]; omega), hv]
  rfl
 ·rw [encR_four (by omega) (by omega)] at h ⊢
  obtain ⟨b0, _, h1⟩ := bt_drop (show s.data.toList.drop k = (240 + (r : Int) / 262144).toNat.toUInt8 :: (128 + (r : Int) / 4096 % 64).toNat.toUInt8 :: (128 + (r : Int) / 64 % 64).toNat.toUInt8 :: (128 + (r : Int) % 64).toNat.toUInt8 :: t from h)
  obtain ⟨b1, _, h2⟩ := bt_drop h1
  obtain ⟨b2, _, h3⟩ := bt_drop h2
  obtain ⟨b3, hs3, h4⟩ := bt_drop h3
  have e0 := u8z (z := 240 + (r : Int) / 262144) (by omega) (by omega)
  have e1 := u8z (z := 128 + (r : Int) / 4096 % 64) (by omega) (by omega)
  have e2 := u8z (z := 128 + (r : Int) / 64 % 64) (by omega) (by omega)
  have e3 := u8z (z := 128 + (r : Int) % 64) (by omega) (by omega)
  rw [b0, b1, b2, b3]
  generalize (240 + (r : Int) / 262144).toNat.toUInt8.toNat = B0 at *
  generalize (128 + (r : Int) / 4096 % 64).toNat.toUInt8.toNat = B1 at *
  generalize (128 + (r : Int) / 64 % 64).toNat.toUInt8.toNat = B2 at *
  generalize (128 + (r : Int) % 64).toNat.toUInt8.toNat = B3 at *
  clear b0 b1 b2 b3 h h1 h2 h3 h4
  unfold nxN
  have hv : (B0 - 240) * 262144 + (B1 - 128) * 4096 + (B2 - 128) * 64 + (B3 - 128) = r := by omega
  rw [if_neg (by omega), if_neg (by omega), if_neg (by omega), if_pos (by omega), if_neg (by rw [hv]; omega), hv]
  rfl
theorem encR_ne (r : Int) : Lib.encodeRune r ≠ [] := by
 intro e
 have := (Lib.encodeRuneZ_length r).1
 unfold Lib.encodeRune at e
 have h2 := congrArg List.length e
 rw [List.length_map, List.length_nil] at h2
 omega
theorem encR_pos (r : Int) : 1 ≤ (Lib.encodeRune r).length := by
 have := encR_ne r
 rcases Nat.eq_zero_or_pos (Lib.encodeRune r).length with h | h
 ·exact absurd (List.length_eq_zero_iff.1 h) this
 ·exact h
theorem dec_enc {s : ByteArray} {k r : Nat} {t : List UInt8} (hr : rchr r = true) (h : s.data.toList.drop k = Lib.encodeRune (r : Int) ++ t) :
  Utf8.decode s k = (r, (Lib.encodeRune (r : Int)).length) ∧ k < s.size ∧ s.data.toList.drop (k + (Lib.encodeRune (r : Int)).length) = t := by
 obtain ⟨h1, h2, h3⟩ := enc_size h (encR_ne _)
 have h4 := nxt_enc hr h
 have h5 := encR_pos (r : Int)
 exact ⟨by rw [← nxt_dec s k h1 (by rw [h4]; show (Lib.encodeRune (r : Int)).length ≠ 0; omega), h4], h1, h3⟩
theorem drop_end' {s : ByteArray} {k : Nat} (h : s.data.toList.drop k = []) : ¬ k < s.size := by
 have h1 := congrArg List.length h
 rw [List.length_drop, dl_len] at h1
 simp at h1
 omega
theorem rTf_enc (s : ByteArray) : ∀ (rs : List Nat) (f k : Nat), OkR rs → s.data.toList.drop k = enc rs → s.size ≤ k + f → rTf s f k = true
 | [], 0, k, _, _, _ => rfl
 | [], f + 1, k, _, h, _ => by unfold rTf; rw [if_neg (drop_end' h)]
 | r :: t, 0, k, ho, h, hf => by
  have := (dec_enc (ho r (by simp)) (show _ = Lib.encodeRune (r : Int) ++ enc t from h)).2.1
  omega
 | r :: t, f + 1, k, ho, h, hf => by
  have hr := ho r (by simp)
  have h' : s.data.toList.drop k = Lib.encodeRune (r : Int) ++ enc t := h
  obtain ⟨_, h2, h3⟩ := dec_enc hr h'
  have h4 := nxt_enc hr h'
  have h5 := encR_pos (r : Int)
  unfold rTf
  rw [if_pos h2, h4]
  dsimp only
  rw [if_neg (by omega), hr, Bool.true_and]
  exact rTf_enc s t f _ (fun x hx => ho x (by simp [hx])) h3 (by omega)
theorem nx_one {n b0 b1 b2 b3 : Nat} (h : (nxN n b0 b1 b2 b3).2 = 1) : (nxN n b0 b1 b2 b3).1 < 128 := by
 unfold nxN at *
 repeat' split at h
 all_goals first | (simp at h) | skip
 rw [if_pos (by assumption)]
 assumption
theorem rTf_runes (s : ByteArray) : ∀ (f k : Nat), s.size ≤ k + f → rTf s f k = true → ∃ rs, OkR rs ∧ s.data.toList.drop k = enc rs
 | 0, k, hf, _ => ⟨[], OkR_nil, List.drop_eq_nil_of_le (by rw [dl_len]; omega)⟩
 | f + 1, k, hf, h => by
  by_cases hk : k < s.size
  ·unfold rTf at h
   rw [if_pos hk] at h
   by_cases h0 : (nxt s k).2 = 0
   ·rw [if_pos h0] at h; cases h
   ·rw [if_neg h0, Bool.and_eq_true] at h
    obtain ⟨rs, ho, hrs⟩ := rTf_runes s f (k + (nxt s k).2) (by omega) h.2
    have hd := nxt_dec s k hk h0
    have hdl : Lib.decodeL (s.data.toList.drop k) = nxt s k := by rw [Lib.decodeL_drop, hd]
    have hne : s.data.toList.drop k ≠ [] := fun e => drop_end' e hk
    have he := Lib.encode_decode (s.data.toList.drop k) hne (by
     rw [hdl]
     rintro ⟨h1, h2⟩
     have := nx_one (show (nxN _ _ _ _ _).2 = 1 from h2)
     have h3 : (nxN (s.size - k) (bt s k).toNat (bt s (k + 1)).toNat (bt s (k + 2)).toNat (bt s (k + 3)).toNat).1 = 65533 := h1
     omega)
    rw [hdl] at he
    refine ⟨(nxt s k).1 :: rs, ?_, ?_⟩
    ·intro x hx
     rcases List.mem_cons.1 hx with rfl | hx
     ·exact h.1
     ·exact ho x hx
    ·show _ = Lib.encodeRune ((nxt s k).1 : Int) ++ enc rs
     rw [he, ← hrs, ← List.drop_drop, List.take_append_drop]
  ·exact ⟨[], OkR_nil, List.drop_eq_nil_of_le (by rw [dl_len]; omega)⟩
theorem tS_runes {s : ByteArray} (h : tS s = true) : ∃ rs, OkR rs ∧ s.data.toList = enc rs := by
 rw [← rT_eq] at h
 obtain ⟨rs, h1, h2⟩ := rTf_runes s s.size 0 (by omega) h
 exact ⟨rs, h1, by rw [← h2, List.drop_zero]⟩
theorem count_enc (s : ByteArray) : ∀ (rs : List Nat) (f k : Nat), OkR rs → s.data.toList.drop k = enc rs → s.size ≤ k + f → Lib.runeCountFrom s f k = rs.length
 | [], f, k, _, h, _ => Lib.runeCountFrom_end s f k (drop_end' h)
 | r :: t, 0, k, ho, h, hf => by
  have := (dec_enc (ho r (by simp)) (show _ = Lib.encodeRune (r : Int) ++ enc t from h)).2.1
  omega
 | r :: t, f + 1, k, ho, h, hf => by
  obtain ⟨h1, h2, h3⟩ := dec_enc (ho r (by simp)) (show _ = Lib.encodeRune (r : Int) ++ enc t from h)
  have h5 := encR_pos (r : Int)
  unfold Lib.runeCountFrom
  rw [if_pos h2, h1, count_enc s t f _ (fun x hx => ho x (by simp [hx])) h3 (by omega)]
  simp; omega
theorem count_runes {s : ByteArray} {rs : List Nat} (ho : OkR rs) (h : s.data.toList = enc rs) : Lib.runeCount s = rs.length :=
 count_enc s rs s.size 0 ho (by rw [List.drop_zero, h]) (by omega)
def cutR (n e : Int) : Int → List Nat → List Nat
 | _, [] => []
 | p, r :: t => (if n ≤ p + 1 ∧ p + 1 < e then [r] else []) ++ cutR n e (p + 1) t
theorem cut_enc (s : ByteArray) (n e : Int) : ∀ (rs : List Nat) (f k : Nat) (p : Int), OkR rs → s.data.toList.drop k = enc rs → s.size ≤ k + f → cutD s n e f k p = enc (cutR n e p rs)
 | [], 0, k, p, _, _, _ => rfl
 | [], f + 1, k, p, _, h, _ => by unfold cutD; rw [if_neg (drop_end' h)]; rfl
 | r :: t, 0, k, p, ho, h, hf => by
  have := (dec_enc (ho r (by simp)) (show _ = Lib.encodeRune (r : Int) ++ enc t from h)).2.1
  omega
 | r :: t, f + 1, k, p, ho, h, hf => by
  obtain ⟨h1, h2, h3⟩ := dec_enc (ho r (by simp)) (show _ = Lib.encodeRune (r : Int) ++ enc t from h)
  have h5 := encR_pos (r : Int)
  unfold cutD
  rw [if_pos h2, h1]
  dsimp only
  rw [cut_enc s n e t f _ (p + 1) (fun x hx => ho x (by simp [hx])) h3 (by omega)]
  rw [show cutR n e p (r :: t) = (if n ≤ p + 1 ∧ p + 1 < e then [r] else []) ++ cutR n e (p + 1) t from rfl, enc_app]
  congr 1
  split
  ·show _ = Lib.encodeRune (r : Int) ++ []
   rw [List.append_nil]
  ·rfl
theorem cut_runes {s : ByteArray} {rs : List Nat} (n e : Int) (ho : OkR rs) (h : s.data.toList = enc rs) : (cutB s n e).data.toList = enc (cutR n e 0 rs) := by
 show (cutD s n e s.size 0 0).toArray.toList = _
 rw [List.toList_toArray]
 exact cut_enc s n e rs s.size 0 0 ho (by rw [List.drop_zero, h]) (by omega)
theorem map_enc (f : Int → Int) (g : Nat → Nat) (hg : ∀ r, (g r : Int) = f r) : ∀ (rs : List Nat) (n : Nat) (l : List UInt8), OkR rs → l = enc rs → l.length ≤ n → Lib.mapGoD f n l = enc (rs.map g)
 | [], n, l, _, h, _ => by subst h; exact Lib.mapGoD_nil f n
 | r :: t, 0, l, ho, h, hn => by
  have h5 := encR_pos (r : Int)
  have := congrArg List.length h
  simp only [enc, List.length_append] at this
  omega
 | r :: t, n + 1, l, ho, h, hn => by
  have h5 := encR_pos (r : Int)
  have hl := congrArg List.length h
  simp only [enc, List.length_append] at hl
  have hd := dec_enc (s := ⟨l.toArray⟩) (k := 0) (r := r) (t := enc t) (ho r (by simp)) (by rw [List.drop_zero]; exact h)
  have hdl : Lib.decodeL l = (r, (Lib.encodeRune (r : Int)).length) := hd.1
  have hdr : l.drop (Lib.encodeRune (r : Int)).length = enc t := by rw [h]; exact List.drop_left
  unfold Lib.mapGoD
  rw [if_neg (by intro e; subst e; simp at hl; omega), hdl]
  dsimp only
  rw [hdr, ← hg r, if_pos (by omega), map_enc f g hg t n (enc t) (fun x hx => ho x (by simp [hx])) rfl (by omega)]
  rfl
theorem map_runes {s : ByteArray} {rs : List Nat} (f : Int → Int) (g : Nat → Nat) (hg : ∀ r, (g r : Int) = f r) (ho : OkR rs) (h : s.data.toList = enc rs) : (mapB f s).data.toList = enc (rs.map g) := by
 show (Lib.mapD f s.data.toList).toArray.toList = _
 rw [List.toList_toArray]
 exact map_enc f g hg rs _ _ ho h (Nat.le_refl _)
def fR : Option (List Nat) → List Nat → List (List Nat)
 | none, [] => []
 | some g, [] => [g]
 | none, r :: t => if isBl r = true then fR none t else fR (some [r]) t
 | some g, r :: t => if isBl r = true then g :: fR none t else fR (some (g ++ [r])) t
def toB (rs : List Nat) : ByteArray := ⟨(enc rs).toArray⟩
theorem toB_list (rs : List Nat) : (toB rs).data.toList = enc rs := by show (enc rs).toArray.toList = _; rw [List.toList_toArray]
theorem ext_toB {s : ByteArray} {a : Nat} {g : List Nat} {t : List UInt8} (h : s.data.toList.drop a = enc g ++ t) : s.extract a (a + (enc g).length) = toB g := by
 apply ByteArray.ext
 apply Array.toList_inj.1
 rw [toB_list, ByteArray.data_extract, Array.toList_extract, List.extract_eq_take_drop, h, Nat.add_sub_cancel_left, List.take_left]
theorem fields_enc (s : ByteArray) : ∀ (rs : List Nat) (f k : Nat) (st : Option Nat) (cur : Option (List Nat)) (acc : List (Nat × Nat)), OkR rs → s.data.toList.drop k = enc rs → s.size ≤ k + f →
  ((st = none ∧ cur = none) ∨ ∃ a g, st = some a ∧ cur = some g ∧ g ≠ [] ∧ s.data.toList.drop a = enc g ++ enc rs ∧ k = a + (enc g).length) →
  (Lib.closeSpans s (Lib.spansFromP isBl s f k st acc)).map (fun x => s.extract x.1 x.2) = acc.map (fun x => s.extract x.1 x.2) ++ (fR cur rs).map toB
 | [], f, k, st, cur, acc, _, h, _, hc => by
  rw [Lib.spansFromP_end isBl s f k st acc (drop_end' h)]
  rcases hc with ⟨rfl, rfl⟩ | ⟨a, g, rfl, rfl, hg0, h1, h2⟩
  ·simp [Lib.closeSpans, fR]
  ·have hk : s.size = a + (enc g).length := by
    have h3 := congrArg List.length h1
    simp only [List.length_drop, dl_len, List.length_append] at h3
    have h4 : (enc []).length = 0 := rfl
    rw [h4] at h3
    have h5 := drop_end' h
    have h7 : 1 ≤ (enc g).length := by
     cases g with
     | nil => exact absurd rfl hg0
     | cons x y =>
      have := encR_pos (x : Int)
      simp only [enc, List.length_append]; omega
    omega
   have h6 := ext_toB h1
   simp only [Lib.closeSpans, fR, List.map_append, List.map_cons, List.map_nil]
   rw [hk, h6]
 | r :: t, 0, k, st, cur, acc, ho, h, hf, _ => by
  have := (dec_enc (ho r (by simp)) (show _ = Lib.encodeRune (r : Int) ++ enc t from h)).2.1
  omega
 | r :: t, f + 1, k, st, cur, acc, ho, h, hf, hc => by
  obtain ⟨h1, h2, h3⟩ := dec_enc (ho r (by simp)) (show _ = Lib.encodeRune (r : Int) ++ enc t from h)
  have h5 := encR_pos (r : Int)
  have ht : OkR t := fun x hx => ho x (by simp [hx])
  unfold Lib.spansFromP
  rw [if_pos h2, h1]
  dsimp only
  rcases hc with ⟨rfl, rfl⟩ | ⟨a, g, rfl, rfl, hg0, hg, hk⟩
  ·by_cases hb : isBl r = true
   ·rw [if_pos hb]
    dsimp only
    rw [fields_enc s t f _ none none acc ht h3 (by omega) (.inl ⟨rfl, rfl⟩)]
    conv => rhs; unfold fR
    rw [if_pos hb]
   ·rw [if_neg hb]
    dsimp only
    rw [fields_enc s t f _ (some k) (some [r]) acc ht h3 (by omega) (.inr ⟨k, [r], rfl, rfl, by simp, by rw [h]; simp [enc], by simp [enc]⟩)]
    conv => rhs; unfold fR
    rw [if_neg hb]
  ·by_cases hb : isBl r = true
   ·rw [if_pos hb]
    dsimp only
    rw [fields_enc s t f _ none none (acc ++ [(a, k)]) ht h3 (by omega) (.inl ⟨rfl, rfl⟩)]
    have h6 := ext_toB hg
    conv => rhs; unfold fR
    rw [if_pos hb, List.map_append, List.map_cons, List.map_nil, List.map_cons, hk, h6, List.append_assoc]
    rfl
   ·rw [if_neg hb]
    dsimp only
    rw [fields_enc s t f _ (some a) (some (g ++ [r])) acc ht h3 (by omega) (.inr ⟨a, g ++ [r], rfl, rfl, by simp, by rw [hg, enc_app]; simp [enc], by rw [enc_app, List.length_append]; simp [enc]; omega⟩)]
    conv => rhs; unfold fR
    rw [if_neg hb]
theorem fields_runes {s : ByteArray} {rs : List Nat} (ho : OkR rs) (h : s.data.toList = enc rs) : Lib.goFieldsP isBl s = (fR none rs).map toB := by
 unfold Lib.goFieldsP Lib.spansOfP
 have := fields_enc s rs s.size 0 none none [] ho (by rw [List.drop_zero, h]) (by omega) (.inl ⟨rfl, rfl⟩)
 simpa using this
end Go.Proofs.YtaieiogmolaebaaGreatDoor
namespace Go.Proofs.YtaieiogmolaebaaGreatDoor
open Go.RowKit
theorem OkR.sub {a b : List Nat} (h : OkR b) (hs : ∀ x ∈ a, x ∈ b) : OkR a := fun x hx => h x (hs x hx)
def upR (r : Nat) : Nat := if 97 ≤ r ∧ r ≤ 122 then r - 32 else r
def loR (r : Nat) : Nat := if 65 ≤ r ∧ r ≤ 90 then r + 32 else r
theorem upR_eq (r : Nat) : (upR r : Int) = upF r := by unfold upR upF shF; split <;> split <;> omega
theorem loR_eq (r : Nat) : (loR r : Int) = loF r := by unfold loR loF shF; split <;> split <;> omega
theorem rchr_mid {r : Nat} (h : 32 ≤ r) (h2 : r ≤ 55295) : rchr r = true := by simp [rchr, h, h2]
theorem OkR.map {f : Nat → Nat} {rs : List Nat} (h : OkR rs) (hf : ∀ r, rchr r = true → rchr (f r) = true) : OkR (rs.map f) := by
 intro x hx
 obtain ⟨r, hr, rfl⟩ := List.mem_map.1 hx
 exact hf r (h r hr)
theorem ba_same {s t : ByteArray} (h : s.data.toList = t.data.toList) : s = t := by
 apply ByteArray.ext
 exact Array.toList_inj.1 h
def inter : List (List Nat) → List Nat
 | [] => []
 | [g] => g
 | g :: h :: t => g ++ 32 :: inter (h :: t)
def nR (rs : List Nat) : List Nat := inter (fR none rs)
def GoodG (gs : List (List Nat)) : Prop := ∀ g ∈ gs, g ≠ [] ∧ ∀ r ∈ g, isBl r = false
theorem fR_some (g t : List Nat) (r : Nat) : fR (some g) (r :: t) = if isBl r = true then g :: fR none t else fR (some (g ++ [r])) t := by conv => lhs; unfold fR
theorem fR_none (t : List Nat) (r : Nat) : fR none (r :: t) = if isBl r = true then fR none t else fR (some [r]) t := by conv => lhs; unfold fR
theorem join_groups : ∀ gs : List (List Nat), (joinB ⟨#[32]⟩ (gs.map toB)).data.toList = enc (inter gs)
 | [] => rfl
 | [g] => by
  show (List.intercalate [32] [(toB g).data.toList]).toArray.toList = enc g
  rw [List.toList_toArray, toB_list]
  simp [List.intercalate]
 | g :: k :: t => by
  have ih := join_groups (k :: t)
  have e1 : (joinB ⟨#[32]⟩ ((g :: k :: t).map toB)).data.toList = List.intercalate [32] ((toB g).data.toList :: (toB k).data.toList :: (t.map toB).map (·.data.toList)) := by
   show (List.intercalate [32] ((toB g).data.toList :: (toB k).data.toList :: (t.map toB).map (·.data.toList))).toArray.toList = _
   rw [List.toList_toArray]
  have e2 : (joinB ⟨#[32]⟩ ((k :: t).map toB)).data.toList = List.intercalate [32] ((toB k).data.toList :: (t.map toB).map (·.data.toList)) := by
   show (List.intercalate [32] ((toB k).data.toList :: (t.map toB).map (·.data.toList))).toArray.toList = _
   rw [List.toList_toArray]
  rw [e1, List.intercalate_cons_cons, ← e2, ih, toB_list]
  show _ = enc (g ++ 32 :: inter (k :: t))
  rw [enc_app]
  show enc g ++ [32] ++ enc (inter (k :: t)) = enc g ++ (Lib.encodeRune ((32 : Nat) : Int) ++ enc (inter (k :: t)))
  rw [encR_one (by decide), List.append_assoc]
  rfl
def normB (s : ByteArray) : ByteArray := joinB ⟨#[32]⟩ (Lib.goFieldsP isBl s)
theorem norm_runes {s : ByteArray} {rs : List Nat} (ho : OkR rs) (h : s.data.toList = enc rs) : (normB s).data.toList = enc (nR rs) := by
 unfold normB
 rw [fields_runes ho h, join_groups]; rfl
theorem encR_low (r : Nat) (b : UInt8) (hb : b ∈ Lib.encodeRune (r : Int)) (h : b.toNat < 128) : r = b.toNat := by
 by_cases c1 : r < 128
 ·rw [encR_one c1] at hb
  rw [List.mem_singleton] at hb
  subst hb
  have := u8z (z := (r : Int)) (by omega) (by omega)
  omega
 ·exfalso
  unfold Lib.encodeRune Lib.encodeRuneZ at hb
  obtain ⟨x, hx, rfl⟩ := List.mem_map.1 hb
  have hx2 := Lib.encodeRuneZ_byte (r : Int) x (by unfold Lib.encodeRuneZ; exact hx)
  have := u8z hx2.1 hx2.2
  have hx3 : 128 ≤ x := by
   rw [if_neg (by omega)] at hx
   split at hx
   ·simp at hx; omega
   ·split at hx
    ·simp at hx; omega
    ·split at hx
     ·simp at hx; omega
     ·simp at hx; omega
  omega
end Go.Proofs.YtaieiogmolaebaaGreatDoor
namespace Go.Proofs.YtaieiogmolaebaaGreatDoor
open Go.RowKit
def tuB (a b : Nat) (c : UInt8) : UInt8 := if a ≤ c.toNat ∧ c.toNat ≤ a + 25 then UInt8.ofNat (c.toNat - a + b) else c
theorem encR_high {r : Nat} (h : 128 ≤ r) (b : UInt8) (hb : b ∈ Lib.encodeRune (r : Int)) : 128 ≤ b.toNat := by
 rcases Nat.lt_or_ge b.toNat 128 with h2 | h2
 ·have := encR_low r b hb h2; omega
 ·exact h2
theorem tu_enc (a b : Nat) (g : Nat → Nat) (ha : a + 25 < 128) (hb : b + 25 < 128) (hg : ∀ r, g r = if a ≤ r ∧ r ≤ a + 25 then r - a + b else r) : ∀ rs, (enc rs).map (tuB a b) = enc (rs.map g)
 | [] => rfl
 | r :: t => by
  simp only [enc, List.map_append, List.map_cons, tu_enc a b g ha hb hg t]
  congr 1
  rcases Nat.lt_or_ge r 128 with h | h
  ·have hgr : g r < 128 := by rw [hg]; split <;> omega
   rw [encR_one h, encR_one hgr]
   have h1 : ((r : Int)).toNat.toUInt8.toNat = r := by
    rw [Int.toNat_natCast]
    show (UInt8.ofNat r).toNat = r
    rw [UInt8.toNat_ofNat']; omega
   simp only [List.map_cons, List.map_nil, List.cons.injEq, and_true, tuB, h1, hg]
   split
   ·rfl
   ·rfl
  ·have hgr : g r = r := by rw [hg, if_neg (by omega)]
   rw [hgr]
   conv => rhs; rw [← List.map_id (Lib.encodeRune (r : Int))]
   apply List.map_congr_left
   intro c hc
   have := encR_high h c hc
   unfold tuB
   rw [if_neg (by omega)]; rfl
def turnB (a b : Nat) (s : ByteArray) : ByteArray := ⟨(s.data.toList.map (tuB a b)).toArray⟩
theorem turn_up {s : ByteArray} {rs : List Nat} (ho : OkR rs) (h : s.data.toList = enc rs) : turnB 97 65 s = mapB upF s := by
 apply ba_same
 rw [map_runes upF upR upR_eq ho h, ← tu_enc 97 65 upR (by decide) (by decide) (fun r => by unfold upR; split <;> omega), ← h]
 show (List.toArray _).toList = _
 rw [List.toList_toArray]
theorem turn_lo {s : ByteArray} {rs : List Nat} (ho : OkR rs) (h : s.data.toList = enc rs) : turnB 65 97 s = mapB loF s := by
 apply ba_same
 rw [map_runes loF loR loR_eq ho h, ← tu_enc 65 97 loR (by decide) (by decide) (fun r => by unfold loR; split <;> omega), ← h]
 show (List.toArray _).toList = _
 rw [List.toList_toArray]
def isW (b : UInt8) : Bool := b == 32 || b == 9 || b == 10 || b == 13
def gapB (out : List UInt8) (gap : Bool) : List UInt8 := if gap = true ∧ out ≠ [] then out ++ [32] else out
def spB : List UInt8 → Bool → List UInt8 → List UInt8
 | out, _, [] => out
 | out, gap, b :: r => if isW b = true then spB out true r else spB (gapB out gap ++ [b]) false r
theorem gapB_false (out : List UInt8) : gapB out false = out := by unfold gapB; rw [if_neg (by simp)]
theorem spB_run : ∀ (l : List UInt8) (out : List UInt8) (gap : Bool) (t : List UInt8), (∀ b ∈ l, isW b = false) → l ≠ [] → spB out gap (l ++ t) = spB (gapB out gap ++ l) false t
 | [], _, _, _, _, h => absurd rfl h
 | b :: l, out, gap, t, hl, _ => by
  have hb := hl b (by simp)
  rw [List.cons_append, spB, if_neg (by rw [hb]; decide)]
  cases l with
  | nil => rfl
  | cons c l =>
   rw [spB_run (c :: l) _ false t (fun x hx => hl x (by simp [hx])) (by simp), gapB_false, List.append_assoc]
   rfl
theorem isW_low {b : UInt8} (h : isW b = true) : b.toNat < 128 ∧ isBl b.toNat = true := by
 unfold isW at h
 simp only [Bool.or_eq_true, beq_iff_eq] at h
 rcases h with ((h | h) | h) | h <;> subst h <;> decide
theorem encR_noW {r : Nat} (h : isBl r = false) : ∀ b ∈ Lib.encodeRune (r : Int), isW b = false := by
 intro b hb
 rcases Bool.eq_false_or_eq_true (isW b) with h2 | h2
 ·have h3 := isW_low h2
  have := encR_low r b hb h3.1
  rw [this, h3.2] at h; cases h
 ·exact h2
theorem encR_W {r : Nat} (h : isBl r = true) : ∃ b, Lib.encodeRune (r : Int) = [b] ∧ isW b = true := by
 unfold isBl at h
 simp only [Bool.or_eq_true, beq_iff_eq] at h
 rcases h with ((h | h) | h) | h <;> subst h <;> exact ⟨_, rfl, by decide⟩
theorem inter_snoc : ∀ (G : List (List Nat)) (h : List Nat), G ≠ [] → inter (G ++ [h]) = inter G ++ 32 :: h
 | [], _, h => absurd rfl h
 | [g], h, _ => rfl
 | g :: g2 :: t, h, _ => by
  show g ++ 32 :: inter ((g2 :: t) ++ [h]) = _
  rw [inter_snoc (g2 :: t) h (by simp)]
  show _ = (g ++ 32 :: inter (g2 :: t)) ++ 32 :: h
  simp
theorem inter_grow (G : List (List Nat)) (g h : List Nat) : inter (G ++ [g ++ h]) = inter (G ++ [g]) ++ h := by
 by_cases e : G = []
 ·subst e; rfl
 ·rw [inter_snoc G _ e, inter_snoc G _ e]; simp
theorem enc_ne {rs : List Nat} (h : rs ≠ []) : enc rs ≠ [] := by
 cases rs with
 | nil => exact absurd rfl h
 | cons r t =>
  intro e
  have := encR_ne (r : Int)
  rw [enc, List.append_eq_nil_iff] at e
  exact this e.1
theorem inter_ne : ∀ G : List (List Nat), GoodG G → G ≠ [] → inter G ≠ []
 | [], _, h => absurd rfl h
 | [g], hG, _ => (hG g (by simp)).1
 | g :: h :: t, _, _ => by simp [inter]
theorem enc_one (r : Nat) : enc [r] = Lib.encodeRune (r : Int) := by simp [enc]
theorem sp_enc : ∀ (rs : List Nat) (G : List (List Nat)), GoodG G → spB (enc (inter G)) true (enc rs) = enc (inter (G ++ fR none rs)) ∧ ∀ g, g ≠ [] → (∀ x ∈ g, isBl x = false) → spB (enc (inter (G ++ [g]))) false (enc rs) = enc (inter (G ++ fR (some g) rs))
 | [], G, _ => ⟨by simp [enc, spB, fR], fun g _ _ => by simp [enc, spB, fR]⟩
 | r :: t, G, hG => by
  have hgood : ∀ g, g ≠ [] → (∀ x ∈ g, isBl x = false) → GoodG (G ++ [g]) := fun g h1 h2 k hk => by
   rcases List.mem_append.1 hk with h | h
   ·exact hG k h
   ·rw [List.mem_singleton] at h; subst h; exact ⟨h1, h2⟩
  rcases Bool.eq_false_or_eq_true (isBl r) with hb | hb
  ·obtain ⟨b, e, hW⟩ := encR_W hb
   refine ⟨?_, fun g h1 h2 => ?_⟩
   ·rw [enc, e, List.singleton_append, spB, if_pos hW, (sp_enc t G hG).1, fR_none, if_pos hb]
   ·rw [enc, e, List.singleton_append, spB, if_pos hW, (sp_enc t (G ++ [g]) (hgood g h1 h2)).1, fR_some, if_pos hb]
    simp
  ·have hnb : ¬ isBl r = true := by rw [hb]; decide
   refine ⟨?_, fun g h1 h2 => ?_⟩
   ·rw [enc, spB_run _ _ _ _ (encR_noW hb) (encR_ne _), fR_none, if_neg hnb, ← (sp_enc t G hG).2 [r] (by simp) (by simpa using hb)]
    congr 1
    by_cases e : G = []
    ·subst e
     simp [gapB, inter, enc]
    ·unfold gapB
     rw [if_pos ⟨rfl, enc_ne (inter_ne G hG e)⟩, inter_snoc G _ e, enc_app]
     show _ = enc (inter G) ++ (Lib.encodeRune ((32 : Nat) : Int) ++ enc [r])
     rw [enc_one, show Lib.encodeRune ((32 : Nat) : Int) = [32] from rfl]
     simp
   ·rw [enc, spB_run _ _ _ _ (encR_noW hb) (encR_ne _), gapB_false, fR_some, if_neg hnb, ← (sp_enc t G hG).2 (g ++ [r]) (by simp) (by
     intro x hx
     rcases List.mem_append.1 hx with h | h
     ·exact h2 x h
     ·rw [List.mem_singleton] at h; subst h; exact hb)]
    congr 1
    rw [inter_grow, enc_app, enc_one]
theorem spB_start (l : List UInt8) : spB [] false l = spB [] true l := by
 cases l with
 | nil => rfl
 | cons b r => simp only [spB, gapB, ne_eq, not_true_eq_false, and_false, if_false]
def spaceB (s : ByteArray) : ByteArray := ⟨(spB [] false s.data.toList).toArray⟩
theorem space_norm {s : ByteArray} {rs : List Nat} (ho : OkR rs) (h : s.data.toList = enc rs) : spaceB s = normB s := by
 apply ba_same
 rw [norm_runes ho h]
 show (spB [] false s.data.toList).toArray.toList = _
 rw [List.toList_toArray, spB_start, h]
 have := (sp_enc rs [] (fun g hg => by cases hg)).1
 simpa [inter, enc, nR] using this
theorem cut_at (s t : ByteArray) (i : Nat) (_h : i + t.size ≤ s.size) : (s.extract i (i + t.size) = t) ↔ List.isPrefixOf t.data.toList (s.data.toList.drop i) = true := by
 have e : (s.extract i (i + t.size)).data.toList = (s.data.toList.drop i).take t.size := by
  simp [ByteArray.data_extract, List.take_drop]
 have ht : t.data.toList.length = t.size := Array.length_toList
 rw [List.isPrefixOf_iff_prefix]
 constructor
 ·intro h2
  rw [h2] at e
  rw [e]
  exact List.take_prefix _ _
 ·intro h2
  apply ba_same
  rw [e, ← ht]
  exact (List.prefix_iff_eq_take.1 h2).symm
theorem con_yes {s t : ByteArray} {i : Nat} (h : i + t.size ≤ s.size) (h2 : s.extract i (i + t.size) = t) : Lib.contains s.data.toList t.data.toList = true := by
 rw [contains_occ]
 have hs : s.data.toList.length = s.size := Array.length_toList
 exact ⟨i, by omega, (cut_at s t i h).1 h2⟩
theorem con_no {s t : ByteArray} (h : ∀ i, i + t.size ≤ s.size → s.extract i (i + t.size) ≠ t) : Lib.contains s.data.toList t.data.toList = false := by
 rcases Bool.eq_false_or_eq_true (Lib.contains s.data.toList t.data.toList) with h2 | h2
 ·obtain ⟨i, hi, ho⟩ := (contains_occ _ _).1 h2
  have hs : s.data.toList.length = s.size := Array.length_toList
  have ht : t.data.toList.length = t.size := Array.length_toList
  have ho2 : List.isPrefixOf t.data.toList (s.data.toList.drop i) = true := ho
  have hle := (List.isPrefixOf_iff_prefix.1 ho2).length_le
  rw [List.length_drop] at hle
  exact absurd ((cut_at s t i (by omega)).2 ho2) (h i (by omega))
 ·exact h2
theorem pre_iff {s t : ByteArray} : Lib.hasPrefix s.data.toList t.data.toList = true ↔ t.size ≤ s.size ∧ s.extract 0 t.size = t := by
 have hs : s.data.toList.length = s.size := Array.length_toList
 have ht : t.data.toList.length = t.size := Array.length_toList
 unfold Lib.hasPrefix
 constructor
 ·intro h
  have hle := (List.isPrefixOf_iff_prefix.1 h).length_le
  refine ⟨by omega, ?_⟩
  have := (cut_at s t 0 (by omega)).2 (by simpa using h)
  simpa using this
 ·rintro ⟨h1, h2⟩
  have := (cut_at s t 0 (by omega)).1 (by simpa using h2)
  simpa using this
theorem suf_iff {s t : ByteArray} : Lib.hasSuffix s.data.toList t.data.toList = true ↔ t.size ≤ s.size ∧ s.extract (s.size - t.size) (s.size - t.size + t.size) = t := by
 have hs : s.data.toList.length = s.size := Array.length_toList
 have ht : t.data.toList.length = t.size := Array.length_toList
 unfold Lib.hasSuffix
 rw [List.isSuffixOf_iff_suffix]
 constructor
 ·intro h
  have hle := h.length_le
  refine ⟨by omega, (cut_at s t _ (by omega)).2 ?_⟩
  rw [List.isPrefixOf_iff_prefix]
  have := List.suffix_iff_eq_drop.1 h
  rw [hs, ht] at this
  rw [← this]
  exact List.prefix_refl _
 ·rintro ⟨h1, h2⟩
  have h3 := List.isPrefixOf_iff_prefix.1 ((cut_at s t _ (by omega)).1 h2)
  have h4 : t.data.toList = s.data.toList.drop (s.size - t.size) := h3.eq_of_length (by rw [List.length_drop]; omega)
  rw [h4]
  exact List.drop_suffix _ _
theorem sub_len (n m : Int) (hn : R64 n) (hm : R64 m) (p : Int) (hp : 0 ≤ p) (hp2 : p ≤ 100000) : (n ≤ p + 1 ∧ p + 1 < endV n m) ↔ (n ≤ p + 1 ∧ 0 < m ∧ p + 1 - n < m) := by
 unfold endV
 unfold R64 at hn hm
 unfold i64max
 split
 ·omega
 ·rename_i h
  have h2 : fit (n + m) = false := by simpa using h
  unfold fit at h2
  simp only [decide_eq_false_iff_not] at h2
  split <;> omega
end Go.Proofs.YtaieiogmolaebaaGreatDoor
