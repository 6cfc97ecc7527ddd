/- The reference: one item; short; turned, spaced, length, stands; joined. Plain: the text of right items is a row of runes. The reference on texts: Texts. The reference: which items are right (ref25.Right, rights). -/
import Derived.Test.YtaieiogmolaebaaGreatDoorC33
import Derived.Test.YtaieiogmolaebaaGreatDoorC30
import Derived.Test.YtaieiogmolaebaaGreatDoorKe5
import Derived.Lib.AppendStr
import Derived.Test.YtaieiogmolaebaaGreatDoorC17
import Derived.Test.YtaieiogmolaebaaGreatDoorC05
namespace Go.Proofs.YtaieiogmolaebaaGreatDoor
set_option maxRecDepth 100000
set_option maxHeartbeats 4000000
open Go.RowKit
theorem wpList_appS {w : World} {ops : Array Oper} {rest : List Oper} {o : Oper} {ac : Act} {Q : Exit → Act → World → Prop} (hgd : o.guard = none) (sl x : Operand)
  (ho : o.op = .call { callee := .builtin .append, args := #[sl, x], argTypes := #[116, 9] })
  (B : Nat) (v : Value) (xs : List UInt8) (s : ByteArray) (hs : ac.eval sl = v) (hx : ac.eval x = .string s) (hown : OwB w B v xs) (hle : xs.length + s.size ≤ 140737488355328) (hB : B ≤ w.heap.size)
  (K : ∀ v' w', OwB w' B v' (xs ++ s.data.toList) → w.grownBy w' v.ownBlock → wpList Tryz.prog ops Q rest (ac.put o.dst v') w') :
  wpList Tryz.prog ops Q (o :: rest) ac w := by
 obtain ⟨i0, hi, hz0, hz1, hz2⟩ := info_parts byteInfo
 refine Lib.wpList_append_own_string w hgd sl x 116 9 ho B 5 i0 Tryz.underlying116 Tryz.underlying9 hi hz0 hz1 hz2 v xs.length (Lib.byteCells xs) hs hown s hx (by unfold maxLen; omega) hle hB fun v' w' h1 h2 _ => K v' w' ?_ h2
 unfold OwB
 have hsz : s.data.toList.length = s.size := Array.length_toList
 rw [List.length_append, hsz, show Lib.byteCells (xs ++ s.data.toList) = Lib.byteCells xs ++ Lib.strCells s from by simp [Lib.byteCells, Lib.strCells]]
 exact h1
theorem rwhole_own (n : Int) (w : World) : Calls Tryz.prog 40 #[.int .i64 n] w fun e w' => ∃ v, e = .returned v ∧ OwI w' w.heap.size v [⟨2, n, ⟨#[]⟩, 0⟩] ∧ Below w.heap.size w w' := by
 have hk := (Below.refl w.heap.size w).alloc (Nat.le_refl _) (.cells #[.int .u8 2, .int .i64 n, .string ⟨#[]⟩, .int .i64 0] 36)
 have hr := OwI.one w w.heap.size (Nat.le_refl _) ⟨2, n, ⟨#[]⟩, 0⟩
 go_enter Tryz.func40, Tryz.ntmps40
 go_wp2
 go_ret
 exact ⟨_, rfl, hr, hk⟩
theorem rstr_own (s : ByteArray) (w : World) : Calls Tryz.prog 127 #[.string s] w fun e w' => ∃ v, e = .returned v ∧ OwI w' w.heap.size v [⟨3, 0, s, 0⟩] ∧ Below w.heap.size w w' := by
 have hk := (Below.refl w.heap.size w).alloc (Nat.le_refl _) (.cells #[.int .u8 3, .int .i64 0, .string s, .int .i64 0] 36)
 have hr := OwI.one w w.heap.size (Nat.le_refl _) ⟨3, 0, s, 0⟩
 go_enter Tryz.func127, Tryz.ntmps127
 go_wp2
 go_ret
 exact ⟨_, rfl, hr, hk⟩
theorem rtruth_own (b : Bool) (w : World) : Calls Tryz.prog 39 #[.bool b] w fun e w' => ∃ v, e = .returned v ∧ OwI w' w.heap.size v [⟨4, bN b, ⟨#[]⟩, 0⟩] ∧ Below w.heap.size w w' := by
 cases b with
 | true =>
  have hk := (Below.refl w.heap.size w).alloc (Nat.le_refl _) (.cells #[.int .u8 4, .int .i64 1, .string ⟨#[]⟩, .int .i64 0] 36)
  have hr := OwI.one w w.heap.size (Nat.le_refl _) ⟨4, 1, ⟨#[]⟩, 0⟩
  go_enter Tryz.func39, Tryz.ntmps39
  go_wp2
  go_ret
  exact ⟨_, rfl, hr, hk⟩
 | false =>
  have hk := (Below.refl w.heap.size w).alloc (Nat.le_refl _) (.cells #[.int .u8 4, .int .i64 0, .string ⟨#[]⟩, .int .i64 0] 36)
  have hr := OwI.one w w.heap.size (Nat.le_refl _) ⟨4, 0, ⟨#[]⟩, 0⟩
  go_enter Tryz.func39, Tryz.ntmps39
  go_wp2
  go_ret
  exact ⟨_, rfl, hr, hk⟩
theorem joinB_one (s : ByteArray) : joinB ⟨#[]⟩ [s] = s := by
 show (⟨(List.intercalate [] [s.data.toList]).toArray⟩ : ByteArray) = s
 simp [List.intercalate]
theorem joinR_one (s : ByteArray) : joinR ⟨#[]⟩ [s] = if 65536 < s.size then ([], 3) else ([⟨3, 0, s, 0⟩], 0) := by unfold joinR; rw [joinB_one]
theorem rshort_any (s : ByteArray) (w : World) : Calls Tryz.prog 79 #[.string s] w (Res w (joinR ⟨#[]⟩ [s]).1 (joinR ⟨#[]⟩ [s]).2) := by
 rw [joinR_one]
 by_cases h : 65536 < s.size
 ·rw [if_pos h]
  have h1 : (65536 : Int) < (s.size : Int) := by omega
  clear h
  go_enter Tryz.func79, Tryz.ntmps79
  go_wp2
  go_ret2
  exact ⟨.slice none 0 0, rfl, OwI.nil _ _, Below.refl _ _⟩
 ·rw [if_neg h]
  have h1 : ¬ (65536 : Int) < (s.size : Int) := by omega
  clear h
  go_enter Tryz.func79, Tryz.ntmps79
  go_wp2_with fail
  refine (rstr_own s _).mono ?_
  rintro e w1 ⟨v, rfl, ho, hb⟩
  have Ho := hide ho
  clear ho
  go_wp2
  go_ret2
  exact ⟨v, rfl, Ho.out, hb⟩
theorem rlength_any (s : ByteArray) (rs : List Nat) (w : World) (ho : OkR rs) (h : s.data.toList = enc rs) (hs : s.size ≤ 140737488355328) : Calls Tryz.prog 80 #[.string s] w fun e w' => e = .returned (.int .i64 (rs.length : Int)) ∧ w = w' := by
 have Ho := hide ho
 have Hs := hide hs
 have hr : rs.length ≤ s.size := by
  have h1 : ∀ rs : List Nat, rs.length ≤ (enc rs).length := by
   intro rs
   induction rs with
   | nil => exact Nat.le_refl _
   | cons r t ih => simp only [enc, List.length_append, List.length_cons]; have := encR_pos (r : Int); omega
  have h2 := h1 rs
  rw [← h, show s.data.toList.length = s.size from Array.length_toList] at h2
  exact h2
 have h0 : s.data.toList.drop 0 = enc rs := by rw [List.drop_zero]; exact h
 have H0 := hide h0
 clear ho h h0 hs
 go_enter Tryz.func80, Tryz.ntmps80
 go_wp2_with fail
 go_loopw [3, 4] (fun nv av W => ∃ (k m : Nat) (pre suf : List Nat), nv = .int .i64 m ∧ av = .int .i64 k ∧ m = pre.length ∧ Hid (rs = pre ++ suf) ∧ Hid (s.data.toList.drop k = enc suf) ∧ k ≤ s.size ∧ w = W) (fun _ av _ => s.size - (intOf av).toNat)
 case atStart => exact ⟨0, 0, [], rs, rfl, rfl, rfl, hide rfl, H0, Nat.zero_le _, rfl⟩
 case round =>
  obtain ⟨k, m, pre, suf, rfl, rfl, hm, Hp, Hd, hks, rfl⟩ := hrel
  cases suf with
  | nil =>
   have hk : ¬ k < s.size := by
    intro hk
    have := congrArg List.length Hd.out
    rw [List.length_drop, show s.data.toList.length = s.size from Array.length_toList] at this
    simp [enc] at this
    omega
   have hI : ¬ (k : Int) < (s.size : Int) := by omega
   have hml : m = rs.length := by rw [hm, Hp.out]; simp
   have Hml := hide hml
   clear hk hm hml Hp Hd hr
   go_wp2
   go_ret
   exact ⟨by rw [← Hml.out]; rfl, rfl⟩
  | cons r t =>
   have hok : rchr r = true := Ho.out r (by rw [Hp.out]; simp)
   have hd1 : s.data.toList.drop k = Lib.encodeRune (r : Int) ++ enc t := Hd.out
   obtain ⟨hk, hle, hd2⟩ := enc_size hd1 (encR_ne _)
   have hnx := nxt_enc hok hd1
   have hz := encR_pos (r : Int)
   obtain ⟨z, hzz⟩ : ∃ z, z = (Lib.encodeRune (r : Int)).length := ⟨_, rfl⟩
   rw [← hzz] at hle hd2 hnx hz
   have hI : (k : Int) < (s.size : Int) := by omega
   have hN := rnext_any s k hk Hs.out w
   rw [hnx] at hN
   have HN := hide hN
   have Hd2 := hide hd2
   have Hp2 : Hid (rs = (pre ++ [r]) ++ t) := by show _ = _; rw [Hp.out]; simp
   have hms : m < s.size := by
    have := congrArg List.length Hp.out
    simp at this
    omega
   have Hm := hide hm
   have hs := Hs.out
   clear hok hd1 hnx hN hd2 hzz Hp Hd hm hk hr
   go_wp2_with fail
   refine HN.out.mono ?_
   rintro e w1 ⟨rfl, rfl⟩
   go_wp2
   go_roundw
   case rel => exact ⟨k + z, m + 1, pre ++ [r], t, by simp, by simp, by rw [List.length_append, ← Hm.out]; rfl, Hp2, Hd2, by omega, by trivial⟩
   case measure => simp [intOf]; omega
theorem bt_toNat (s : ByteArray) (k : Nat) (h : k < s.size) : bt s k = ((s.data.toList[k]'(by rw [Array.length_toList]; exact h)).toNat : Int) := by
 unfold bt
 have h' : k < s.data.size := h
 rw [Array.getElem?_eq_getElem h']
 simp
theorem drop_by (s : ByteArray) (k : Nat) (h : k < s.size) : ∃ b : UInt8, s.data.toList.drop k = b :: s.data.toList.drop (k + 1) ∧ bt s k = (b.toNat : Int) := by
 have hl : k < s.data.toList.length := by rw [Array.length_toList]; exact h
 exact ⟨s.data.toList[k], List.drop_eq_getElem_cons hl, bt_toNat s k h⟩
theorem rturned_up (s : ByteArray) (w : World) (hs : s.size ≤ 140737488355328) : Calls Tryz.prog 82 #[.string s, .int .u8 97, .int .u8 65] w fun e w' => e = .returned (.string (turnB 97 65 s)) ∧ Below w.heap.size w w' := by
 have HF : Hid (turnB 97 65 s = ⟨(s.data.toList.map (tuB 97 65)).toArray⟩) := by show _ = _; rfl
 go_enter Tryz.func82, Tryz.ntmps82
 go_wp2_with fail
 go_loopw [7, 8] (fun ov iv W => ∃ (k : Nat) (out : List UInt8), k ≤ s.size ∧ iv = .int .i64 k ∧ OwB W w.heap.size ov out ∧ Hid (out ++ (s.data.toList.drop k).map (tuB 97 65) = s.data.toList.map (tuB 97 65)) ∧ out.length = k ∧ Below w.heap.size w W) (fun _ iv _ => s.size - (intOf iv).toNat)
 case atStart => exact ⟨0, [], Nat.zero_le _, rfl, OwB.nil _ _, hide (by simp), rfl, Below.refl _ _⟩
 case round =>
  obtain ⟨k, out, hk, rfl, ho, HT, hol, hB⟩ := hrel
  obtain ⟨av, cv, hv⟩ := ho.forms
  subst hv
  have Ho := hide ho
  clear ho
  obtain ⟨m, hm⟩ : ∃ m, m = out.length := ⟨_, rfl⟩
  rw [← hm] at Ho hol ⊢
  have Hm := hide hm
  have Hol := hide hol
  clear hm hol
  by_cases hlt : k < s.size
  ·have hI : (k : Int) < (s.size : Int) := by omega
   obtain ⟨b, hd, hbt⟩ := drop_by s k hlt
   have hrx := run_sx s k hlt k rfl
   have HT2 : Hid ((out ++ [tuB 97 65 b]) ++ (s.data.toList.drop (k + 1)).map (tuB 97 65) = s.data.toList.map (tuB 97 65)) := by
    show _ = _
    rw [← HT.out, hd]
    simp
   have hb256 : b.toNat < 256 := UInt8.toNat_lt b
   obtain ⟨z, hz⟩ : ∃ z : Nat, z = b.toNat := ⟨_, rfl⟩
   rw [← hz] at hbt hb256
   rw [hbt] at hrx
   have Hz := hide hz
   clear hd hbt HT hz
   by_cases h1 : 97 ≤ z ∧ z ≤ 122
   ·have hV : ((tuB 97 65 b).toNat : Int) = ((z - 97 + 65 : Nat) : Int) := by
     have hz2 := Hz.out
     unfold tuB
     rw [if_pos (by omega), UInt8.toNat_ofNat']
     omega
    obtain ⟨y, hy⟩ : ∃ y : Nat, y = z - 97 + 65 := ⟨_, rfl⟩
    rw [← hy] at hV
    have HV := hide hV
    have g1 : (97 : Int) ≤ (z : Int) := by omega
    have g2 : (z : Int) ≤ 122 := by omega
    have g3 : IntKind.u8.wrap ((z : Int) - 97) = ((z - 97 : Nat) : Int) := by rw [IntKind.wrap_u8]; omega
    have g4 : IntKind.u8.wrap (((z - 97 : Nat) : Int) + 65) = (y : Int) := by rw [IntKind.wrap_u8]; omega
    clear hV h1 hy
    have hka := (Below.refl wr.heap.size wr).alloc (Nat.le_refl _) (.cells #[.int .u8 ((tuB 97 65 b).toNat : Int)] 5)
    have HO2 := hide (OwB.keep Ho.out hka)
    have Hrd := hide (rd_one wr ((tuB 97 65 b).toNat : Int) (tuB 97 65 b) rfl)
    have hbs := hB.size
    have hB0 := hB.alloc hB.size (.cells #[.int .u8 ((tuB 97 65 b).toNat : Int)] 5)
    rw [HV.out] at HO2 Hrd hB0
    clear hka hB
    go_wp2_with (at_builtin; refine wpList_appB rfl _ _ rfl w.heap.size (.slice av m cv) out (some ⟨wr.heap.size, 0, none⟩) 1 1 [tuB 97 65 b] rfl rfl HO2.out Hrd.out rfl ?e3 ?e4 ?_)
    case e3 => have := Hm.out; have := Hol.out; simp; omega
    case e4 => first | exact hB0.size | omega
    intro v3 W3 own3 hg3 _
    have hB3 : Below w.heap.size w W3 := hB0.grown hg3 (by simp; omega) fun b hb => (OwB.lt Ho.out b hb).1
    have Hown3 := hide own3
    clear own3 hg3 HO2 Hrd hB0 HV
    go_wp2
    go_roundw
    case rel => exact ⟨k + 1, out ++ [tuB 97 65 b], by omega, by simp, Hown3.out, HT2, by have := Hm.out; have := Hol.out; simp; omega, hB3⟩
    case measure => simp [intOf]; omega
   ·have hV : ((tuB 97 65 b).toNat : Int) = (z : Int) := by
     have hz2 := Hz.out
     unfold tuB
     rw [if_neg (by omega)]
     omega
    have HV := hide hV
    have g0 : ¬ ((97 : Int) ≤ (z : Int) ∧ (z : Int) ≤ 122) := by omega
    clear hV
    by_cases g1 : (97 : Int) ≤ (z : Int)
    ·have g2 : ¬ (z : Int) ≤ 122 := by omega
     clear h1 g0
     have hka := (Below.refl wr.heap.size wr).alloc (Nat.le_refl _) (.cells #[.int .u8 ((tuB 97 65 b).toNat : Int)] 5)
     have HO2 := hide (OwB.keep Ho.out hka)
     have Hrd := hide (rd_one wr ((tuB 97 65 b).toNat : Int) (tuB 97 65 b) rfl)
     have hbs := hB.size
     have hB0 := hB.alloc hB.size (.cells #[.int .u8 ((tuB 97 65 b).toNat : Int)] 5)
     rw [HV.out] at HO2 Hrd hB0
     clear hka hB
     go_wp2_with (at_builtin; refine wpList_appB rfl _ _ rfl w.heap.size (.slice av m cv) out (some ⟨wr.heap.size, 0, none⟩) 1 1 [tuB 97 65 b] rfl rfl HO2.out Hrd.out rfl ?e3 ?e4 ?_)
     case e3 => have := Hm.out; have := Hol.out; simp; omega
     case e4 => first | exact hB0.size | omega
     intro v3 W3 own3 hg3 _
     have hB3 : Below w.heap.size w W3 := hB0.grown hg3 (by simp; omega) fun b hb => (OwB.lt Ho.out b hb).1
     have Hown3 := hide own3
     clear own3 hg3 HO2 Hrd hB0 HV
     go_wp2
     go_roundw
     case rel => exact ⟨k + 1, out ++ [tuB 97 65 b], by omega, by simp, Hown3.out, HT2, by have := Hm.out; have := Hol.out; simp; omega, hB3⟩
     case measure => simp [intOf]; omega
    ·clear h1 g0
     have hka := (Below.refl wr.heap.size wr).alloc (Nat.le_refl _) (.cells #[.int .u8 ((tuB 97 65 b).toNat : Int)] 5)
     have HO2 := hide (OwB.keep Ho.out hka)
     have Hrd := hide (rd_one wr ((tuB 97 65 b).toNat : Int) (tuB 97 65 b) rfl)
     have hbs := hB.size
     have hB0 := hB.alloc hB.size (.cells #[.int .u8 ((tuB 97 65 b).toNat : Int)] 5)
     rw [HV.out] at HO2 Hrd hB0
     clear hka hB
     go_wp2_with (at_builtin; refine wpList_appB rfl _ _ rfl w.heap.size (.slice av m cv) out (some ⟨wr.heap.size, 0, none⟩) 1 1 [tuB 97 65 b] rfl rfl HO2.out Hrd.out rfl ?e3 ?e4 ?_)
     case e3 => have := Hm.out; have := Hol.out; simp; omega
     case e4 => first | exact hB0.size | omega
     intro v3 W3 own3 hg3 _
     have hB3 : Below w.heap.size w W3 := hB0.grown hg3 (by simp; omega) fun b hb => (OwB.lt Ho.out b hb).1
     have Hown3 := hide own3
     clear own3 hg3 HO2 Hrd hB0 HV
     go_wp2
     go_roundw
     case rel => exact ⟨k + 1, out ++ [tuB 97 65 b], by omega, by simp, Hown3.out, HT2, by have := Hm.out; have := Hol.out; simp; omega, hB3⟩
     case measure => simp [intOf]; omega
  ·have hI : ¬ (k : Int) < (s.size : Int) := by omega
   have hx : out = s.data.toList.map (tuB 97 65) := by
    rw [← HT.out, List.drop_eq_nil_of_le (by rw [show s.data.toList.length = s.size from Array.length_toList]; omega)]
    simp
   have hcv := (OwB.rd Ho.out).str m cv Hm.out
   have Hx := hide hx
   clear hx HT Ho
   go_wp2
   go_ret
   exact ⟨by rw [HF.out, ← Hx.out]; rfl, hB⟩
theorem rturned_low (s : ByteArray) (w : World) (hs : s.size ≤ 140737488355328) : Calls Tryz.prog 82 #[.string s, .int .u8 65, .int .u8 97] w fun e w' => e = .returned (.string (turnB 65 97 s)) ∧ Below w.heap.size w w' := by
 have HF : Hid (turnB 65 97 s = ⟨(s.data.toList.map (tuB 65 97)).toArray⟩) := by show _ = _; rfl
 go_enter Tryz.func82, Tryz.ntmps82
 go_wp2_with fail
 go_loopw [7, 8] (fun ov iv W => ∃ (k : Nat) (out : List UInt8), k ≤ s.size ∧ iv = .int .i64 k ∧ OwB W w.heap.size ov out ∧ Hid (out ++ (s.data.toList.drop k).map (tuB 65 97) = s.data.toList.map (tuB 65 97)) ∧ out.length = k ∧ Below w.heap.size w W) (fun _ iv _ => s.size - (intOf iv).toNat)
 case atStart => exact ⟨0, [], Nat.zero_le _, rfl, OwB.nil _ _, hide (by simp), rfl, Below.refl _ _⟩
 case round =>
  obtain ⟨k, out, hk, rfl, ho, HT, hol, hB⟩ := hrel
  obtain ⟨av, cv, hv⟩ := ho.forms
  subst hv
  have Ho := hide ho
  clear ho
  obtain ⟨m, hm⟩ : ∃ m, m = out.length := ⟨_, rfl⟩
  rw [← hm] at Ho hol ⊢
  have Hm := hide hm
  have Hol := hide hol
  clear hm hol
  by_cases hlt : k < s.size
  ·have hI : (k : Int) < (s.size : Int) := by omega
   obtain ⟨b, hd, hbt⟩ := drop_by s k hlt
   have hrx := run_sx s k hlt k rfl
   have HT2 : Hid ((out ++ [tuB 65 97 b]) ++ (s.data.toList.drop (k + 1)).map (tuB 65 97) = s.data.toList.map (tuB 65 97)) := by
    show _ = _
    rw [← HT.out, hd]
    simp
   have hb256 : b.toNat < 256 := UInt8.toNat_lt b
   obtain ⟨z, hz⟩ : ∃ z : Nat, z = b.toNat := ⟨_, rfl⟩
   rw [← hz] at hbt hb256
   rw [hbt] at hrx
   have Hz := hide hz
   clear hd hbt HT hz
   by_cases h1 : 65 ≤ z ∧ z ≤ 90
   ·have hV : ((tuB 65 97 b).toNat : Int) = ((z - 65 + 97 : Nat) : Int) := by
     have hz2 := Hz.out
     unfold tuB
     rw [if_pos (by omega), UInt8.toNat_ofNat']
     omega
    obtain ⟨y, hy⟩ : ∃ y : Nat, y = z - 65 + 97 := ⟨_, rfl⟩
    rw [← hy] at hV
    have HV := hide hV
    have g1 : (65 : Int) ≤ (z : Int) := by omega
    have g2 : (z : Int) ≤ 90 := by omega
    have g3 : IntKind.u8.wrap ((z : Int) - 65) = ((z - 65 : Nat) : Int) := by rw [IntKind.wrap_u8]; omega
    have g4 : IntKind.u8.wrap (((z - 65 : Nat) : Int) + 97) = (y : Int) := by rw [IntKind.wrap_u8]; omega
    clear hV h1 hy
    have hka := (Below.refl wr.heap.size wr).alloc (Nat.le_refl _) (.cells #[.int .u8 ((tuB 65 97 b).toNat : Int)] 5)
    have HO2 := hide (OwB.keep Ho.out hka)
    have Hrd := hide (rd_one wr ((tuB 65 97 b).toNat : Int) (tuB 65 97 b) rfl)
    have hbs := hB.size
    have hB0 := hB.alloc hB.size (.cells #[.int .u8 ((tuB 65 97 b).toNat : Int)] 5)
    rw [HV.out] at HO2 Hrd hB0
    clear hka hB
    go_wp2_with (at_builtin; refine wpList_appB rfl _ _ rfl w.heap.size (.slice av m cv) out (some ⟨wr.heap.size, 0, none⟩) 1 1 [tuB 65 97 b] rfl rfl HO2.out Hrd.out rfl ?e3 ?e4 ?_)
    case e3 => have := Hm.out; have := Hol.out; simp; omega
    case e4 => first | exact hB0.size | omega
    intro v3 W3 own3 hg3 _
    have hB3 : Below w.heap.size w W3 := hB0.grown hg3 (by simp; omega) fun b hb => (OwB.lt Ho.out b hb).1
    have Hown3 := hide own3
    clear own3 hg3 HO2 Hrd hB0 HV
    go_wp2
    go_roundw
    case rel => exact ⟨k + 1, out ++ [tuB 65 97 b], by omega, by simp, Hown3.out, HT2, by have := Hm.out; have := Hol.out; simp; omega, hB3⟩
    case measure => simp [intOf]; omega
   ·have hV : ((tuB 65 97 b).toNat : Int) = (z : Int) := by
     have hz2 := Hz.out
     unfold tuB
     rw [if_neg (by omega)]
     omega
    have HV := hide hV
    have g0 : ¬ ((65 : Int) ≤ (z : Int) ∧ (z : Int) ≤ 90) := by omega
    clear hV
    by_cases g1 : (65 : Int) ≤ (z : Int)
    ·have g2 : ¬ (z : Int) ≤ 90 := by omega
     clear h1 g0
     have hka := (Below.refl wr.heap.size wr).alloc (Nat.le_refl _) (.cells #[.int .u8 ((tuB 65 97 b).toNat : Int)] 5)
     have HO2 := hide (OwB.keep Ho.out hka)
     have Hrd := hide (rd_one wr ((tuB 65 97 b).toNat : Int) (tuB 65 97 b) rfl)
     have hbs := hB.size
     have hB0 := hB.alloc hB.size (.cells #[.int .u8 ((tuB 65 97 b).toNat : Int)] 5)
     rw [HV.out] at HO2 Hrd hB0
     clear hka hB
     go_wp2_with (at_builtin; refine wpList_appB rfl _ _ rfl w.heap.size (.slice av m cv) out (some ⟨wr.heap.size, 0, none⟩) 1 1 [tuB 65 97 b] rfl rfl HO2.out Hrd.out rfl ?e3 ?e4 ?_)
     case e3 => have := Hm.out; have := Hol.out; simp; omega
     case e4 => first | exact hB0.size | omega
     intro v3 W3 own3 hg3 _
     have hB3 : Below w.heap.size w W3 := hB0.grown hg3 (by simp; omega) fun b hb => (OwB.lt Ho.out b hb).1
     have Hown3 := hide own3
     clear own3 hg3 HO2 Hrd hB0 HV
     go_wp2
     go_roundw
     case rel => exact ⟨k + 1, out ++ [tuB 65 97 b], by omega, by simp, Hown3.out, HT2, by have := Hm.out; have := Hol.out; simp; omega, hB3⟩
     case measure => simp [intOf]; omega
    ·clear h1 g0
     have hka := (Below.refl wr.heap.size wr).alloc (Nat.le_refl _) (.cells #[.int .u8 ((tuB 65 97 b).toNat : Int)] 5)
     have HO2 := hide (OwB.keep Ho.out hka)
     have Hrd := hide (rd_one wr ((tuB 65 97 b).toNat : Int) (tuB 65 97 b) rfl)
     have hbs := hB.size
     have hB0 := hB.alloc hB.size (.cells #[.int .u8 ((tuB 65 97 b).toNat : Int)] 5)
     rw [HV.out] at HO2 Hrd hB0
     clear hka hB
     go_wp2_with (at_builtin; refine wpList_appB rfl _ _ rfl w.heap.size (.slice av m cv) out (some ⟨wr.heap.size, 0, none⟩) 1 1 [tuB 65 97 b] rfl rfl HO2.out Hrd.out rfl ?e3 ?e4 ?_)
     case e3 => have := Hm.out; have := Hol.out; simp; omega
     case e4 => first | exact hB0.size | omega
     intro v3 W3 own3 hg3 _
     have hB3 : Below w.heap.size w W3 := hB0.grown hg3 (by simp; omega) fun b hb => (OwB.lt Ho.out b hb).1
     have Hown3 := hide own3
     clear own3 hg3 HO2 Hrd hB0 HV
     go_wp2
     go_roundw
     case rel => exact ⟨k + 1, out ++ [tuB 65 97 b], by omega, by simp, Hown3.out, HT2, by have := Hm.out; have := Hol.out; simp; omega, hB3⟩
     case measure => simp [intOf]; omega
  ·have hI : ¬ (k : Int) < (s.size : Int) := by omega
   have hx : out = s.data.toList.map (tuB 65 97) := by
    rw [← HT.out, List.drop_eq_nil_of_le (by rw [show s.data.toList.length = s.size from Array.length_toList]; omega)]
    simp
   have hcv := (OwB.rd Ho.out).str m cv Hm.out
   have Hx := hide hx
   clear hx HT Ho
   go_wp2
   go_ret
   exact ⟨by rw [HF.out, ← Hx.out]; rfl, hB⟩
end Go.Proofs.YtaieiogmolaebaaGreatDoor
namespace Go.Proofs.YtaieiogmolaebaaGreatDoor
open Go.RowKit
def plainB (b : UInt8) : Prop := 32 ≤ b.toNat ∧ b.toNat < 127
theorem plain_runes : ∀ l : List UInt8, (∀ b ∈ l, plainB b) → ∃ rs, OkR rs ∧ l = enc rs
 | [], _ => ⟨[], OkR_nil, rfl⟩
 | b :: l, h => by
  obtain ⟨rs, h1, h2⟩ := plain_runes l fun c hc => h c (by simp [hc])
  obtain ⟨h3, h4⟩ := h b (by simp)
  refine ⟨b.toNat :: rs, ?_, ?_⟩
  ·intro r hr
   rcases List.mem_cons.1 hr with rfl | hr
   ·exact rchr_mid h3 (by omega)
   ·exact h1 r hr
  ·rw [enc, encR_one (by omega), ← h2]
   have : ((b.toNat : Int)).toNat.toUInt8 = b := by simp
   rw [this]; rfl
theorem plain_dec : ∀ u : Nat, ∀ b ∈ Lib.decDigits u, plainB b := by
 intro u
 induction u using Nat.strongRecOn with
 | _ u ih =>
  intro b hb
  rw [Lib.decDigits] at hb
  split at hb
  ·rw [List.mem_singleton] at hb
   subst hb
   unfold plainB
   rw [UInt8.toNat_ofNat']; omega
  ·rcases List.mem_append.1 hb with hb | hb
   ·exact ih (u / 10) (by omega) b hb
   ·rw [List.mem_singleton] at hb
    subst hb
    unfold plainB
    rw [UInt8.toNat_ofNat']; omega
theorem plain_itoa (n : Int) : ∀ b ∈ Lib.itoa n, plainB b := by
 intro b hb
 unfold Lib.itoa at hb
 split at hb
 ·rcases List.mem_cons.1 hb with rfl | hb
  ·unfold plainB; decide
  ·exact plain_dec _ b hb
 ·exact plain_dec _ b hb
theorem txt_runes {x : It} (h : okI x = true) : ∃ rs, OkR rs ∧ (txt x).data.toList = enc rs := by
 unfold txt
 split
 ·exact plain_runes _ (by
   intro b hb
   have : b ∈ Lib.itoa x.num := by simpa using hb
   exact plain_itoa _ b this)
 ·split
  ·split
   ·exact plain_runes _ (by unfold plainB; decide)
   ·exact plain_runes _ (by unfold plainB; decide)
  ·unfold okI at h
   rw [Bool.and_eq_true] at h
   exact tS_runes h.2
theorem strV_runes {l : List It} (h : l.all okI = true) : ∃ rs, OkR rs ∧ (strV l).1.data.toList = enc rs := by
 unfold strV
 rw [if_pos h]
 match l, h with
 | [], _ => exact ⟨[], OkR_nil, rfl⟩
 | x :: r, h =>
  dsimp only
  have hx : okI x = true := by
   rw [List.all_eq_true] at h
   exact h x (by simp)
  split
  ·exact txt_runes hx
  ·exact ⟨[], OkR_nil, rfl⟩
theorem ok_kind4 {x : It} (h : okI x = true) (h4 : x.kind = 4) : x.text = ⟨#[]⟩ := by
 unfold okI at h
 rw [h4] at h
 simp at h
 exact toList_nil (h.1.2.1)
end Go.Proofs.YtaieiogmolaebaaGreatDoor
namespace Go.Proofs.YtaieiogmolaebaaGreatDoor
open Go.RowKit
set_option maxRecDepth 100000 in
set_option maxHeartbeats 2000000 in
theorem rtextsf_any (s : ByteArray) (w : World) (hs : s.size ≤ 140737488355328) : Calls Tryz.prog 124 #[.string s] w fun e w' => e = .returned (.bool (rTf s s.size 0)) ∧ w = w' := by
 go_enter Tryz.func124, Tryz.ntmps124
 go_wp2_with fail
 go_loopw [3] (fun v W => ∃ k : Nat, v = .int .i64 k ∧ k ≤ s.size + 4 ∧ Hid (rTf s s.size k = rTf s s.size 0) ∧ w = W) (fun v _ => s.size - (intOf v).toNat)
 case atStart => exact ⟨0, rfl, Nat.zero_le _, hide rfl, rfl⟩
 case round =>
  obtain ⟨k, rfl, hk4, Hk, rfl⟩ := hrel
  by_cases hlt : k < s.size
  ·have hI : (k : Int) < (s.size : Int) := by omega
   have Hst := hide (rT_step s k hlt)
   have Hno := hide (rT_no s k hlt)
   go_wp2_with fail
   refine (rnext_any s k hlt hs _).mono ?_
   rintro e w1 ⟨rfl, rfl⟩
   obtain ⟨r, hr⟩ : ∃ r, r = nxt s k := ⟨_, rfl⟩
   rw [← hr] at Hst Hno ⊢
   have hd := nxt_le s k
   rw [← hr] at hd
   clear hr
   obtain ⟨r, d⟩ := r
   dsimp only at Hst Hno hd
   by_cases h0 : d = 0
   ·subst h0
    have HR : Hid (rTf s s.size 0 = false) := by show _ = _; rw [← Hk.out]; exact Hno.out rfl
    clear Hst Hno Hk hd
    go_wp2
    go_ret
    exact ⟨by rw [HR.out]; rfl, rfl⟩
   ·have h0i : ((d : Int) == 0) = false := by simpa using (show (d : Int) ≠ 0 by omega)
    have Hst2 := hide (Hst.out h0)
    clear Hst Hno
    rcases Bool.eq_false_or_eq_true (rchr r) with hc | hc
    ·have Hk2 : Hid (rTf s s.size (k + d) = rTf s s.size 0) := by show _ = _; rw [← Hk.out, Hst2.out, hc, Bool.true_and]
     clear Hst2 Hk
     go_wp2_with (go_at_call 165; refine (rchar_any _ _).mono ?_; rintro e w1 ⟨rfl, rfl⟩)
     go_roundw
     case rel => exact ⟨k + d, by simp, by omega, Hk2, by trivial⟩
     case measure => simp [intOf]; omega
    ·have HR : Hid (rTf s s.size 0 = false) := by show _ = _; rw [← Hk.out, Hst2.out, hc, Bool.false_and]
     clear Hst2 Hk
     go_wp2_with (go_at_call 165; refine (rchar_any _ _).mono ?_; rintro e w1 ⟨rfl, rfl⟩)
     go_ret
     exact ⟨by rw [HR.out]; rfl, rfl⟩
  ·have hI : ¬ (k : Int) < (s.size : Int) := by omega
   have HR : Hid (rTf s s.size 0 = true) := by show _ = _; rw [← Hk.out]; exact rT_end s k hlt
   clear Hk
   go_wp2
   go_ret
   exact ⟨by rw [HR.out]; rfl, rfl⟩
end Go.Proofs.YtaieiogmolaebaaGreatDoor
namespace Go.Proofs.YtaieiogmolaebaaGreatDoor
set_option maxRecDepth 100000
set_option maxHeartbeats 4000000
open Go.RowKit
theorem rtexts_any (s : ByteArray) (w : World) (hs : s.size ≤ 140737488355328) : Calls Tryz.prog 124 #[.string s] w fun e w' => e = .returned (.bool (tS s)) ∧ w = w' := by
 rw [← rT_eq]; exact rtextsf_any s w hs
theorem rright_any (k : Nat) (n d : Int) (s : ByteArray) (w : World) (hs : s.size ≤ 140737488355328) :
  Calls Tryz.prog 72 #[.agg #[.int .u8 k, .int .i64 n, .string s, .int .i64 d]] w fun e w' => e = .returned (.bool (okI ⟨k, n, s, d⟩)) ∧ Below w.heap.size w w' := by
 have hz := (Below.refl w.heap.size w).alloc (Nat.le_refl _) (.cells #[.int .u8 k, .int .i64 n, .string s, .int .i64 d] 36)
 by_cases k1 : k = 1
 ·subst k1
  by_cases hd : 0 ≤ d
  ·by_cases hn : n = 0
   ·subst hn
    have H : Hid (okI ⟨1, 0, s, d⟩ = tS s) := by show _ = _; simp [okI, hd]
    go_enter Tryz.func72, Tryz.ntmps72
    go_wp2_with fail
    refine (rtexts_any s _ hs).mono ?_
    rintro e w1 ⟨rfl, rfl⟩
    go_wp2
    go_ret
    exact ⟨by rw [H.out]; rfl, hz⟩
   ·have hnf : (n == 0) = false := by simpa using hn
    have H : Hid (okI ⟨1, n, s, d⟩ = false) := by show _ = _; simp [okI]; intro h; exact absurd h.symm hn
    clear hn
    go_enter Tryz.func72, Tryz.ntmps72
    go_wp2
    go_ret
    exact ⟨by rw [H.out]; rfl, hz⟩
  ·have hdf : decide (0 ≤ d) = false := by simpa using hd
   have H : Hid (okI ⟨1, n, s, d⟩ = false) := by show _ = _; simp [okI, hd]
   clear hd
   go_enter Tryz.func72, Tryz.ntmps72
   go_wp2
   go_ret
   exact ⟨by rw [H.out]; rfl, hz⟩
 by_cases k2 : k = 2
 ·subst k2
  clear k1
  by_cases hd : d = 0
  ·subst hd
   by_cases ht : s.toList = []
   ·have te := toList_nil ht
    subst te
    clear ht
    have H : Hid (okI ⟨2, n, ⟨#[]⟩, 0⟩ = true) := by show _ = _; simp [okI]; rfl
    go_enter Tryz.func72, Tryz.ntmps72
    go_wp2
    go_ret
    exact ⟨by rw [H.out]; rfl, hz⟩
   ·have H : Hid (okI ⟨2, n, s, 0⟩ = false) := by show _ = _; simp [okI, ht]
    have hte : s.toList.isEmpty = false := by cases hl : s.toList with | nil => exact absurd hl ht | cons _ _ => rfl
    go_enter Tryz.func72, Tryz.ntmps72
    go_wp2
    go_ret
    exact ⟨by rw [H.out]; rfl, hz⟩
  ·have hdf : (d == 0) = false := by simpa using hd
   have H : Hid (okI ⟨2, n, s, d⟩ = false) := by show _ = _; simp [okI]; intro _ h; exact absurd h.symm hd
   clear hd
   go_enter Tryz.func72, Tryz.ntmps72
   go_wp2
   go_ret
   exact ⟨by rw [H.out]; rfl, hz⟩
 by_cases k3 : k = 3
 ·subst k3
  clear k1 k2
  by_cases hd : d = 0
  ·subst hd
   by_cases hn : n = 0
   ·subst hn
    have H : Hid (okI ⟨3, 0, s, 0⟩ = tS s) := by show _ = _; simp [okI]
    go_enter Tryz.func72, Tryz.ntmps72
    go_wp2_with fail
    refine (rtexts_any s _ hs).mono ?_
    rintro e w1 ⟨rfl, rfl⟩
    go_wp2
    go_ret
    exact ⟨by rw [H.out]; rfl, hz⟩
   ·have hnf : (n == 0) = false := by simpa using hn
    have H : Hid (okI ⟨3, n, s, 0⟩ = false) := by show _ = _; simp [okI]; intro h; exact absurd h.symm hn
    clear hn
    go_enter Tryz.func72, Tryz.ntmps72
    go_wp2
    go_ret
    exact ⟨by rw [H.out]; rfl, hz⟩
  ·have hdf : (d == 0) = false := by simpa using hd
   have H : Hid (okI ⟨3, n, s, d⟩ = false) := by show _ = _; simp [okI]; intro _ h; exact absurd h.symm hd
   clear hd
   go_enter Tryz.func72, Tryz.ntmps72
   go_wp2
   go_ret
   exact ⟨by rw [H.out]; rfl, hz⟩
 by_cases k4 : k = 4
 ·subst k4
  clear k1 k2 k3
  by_cases hd : d = 0
  ·subst hd
   by_cases ht : s.toList = []
   ·have te := toList_nil ht
    subst te
    clear ht
    by_cases hn : n = 0
    ·subst hn
     have H : Hid (okI ⟨4, 0, ⟨#[]⟩, 0⟩ = true) := by show _ = _; simp [okI]; rfl
     go_enter Tryz.func72, Tryz.ntmps72
     go_wp2
     go_ret
     exact ⟨by rw [H.out]; rfl, hz⟩
    ·have hnf : (n == 0) = false := by simpa using hn
     by_cases hn1 : n = 1
     ·subst hn1
      clear hn hnf
      have H : Hid (okI ⟨4, 1, ⟨#[]⟩, 0⟩ = true) := by show _ = _; simp [okI]; rfl
      go_enter Tryz.func72, Tryz.ntmps72
      go_wp2
      go_ret
      exact ⟨by rw [H.out]; rfl, hz⟩
     ·have hnf1 : (n == 1) = false := by simpa using hn1
      have H : Hid (okI ⟨4, n, ⟨#[]⟩, 0⟩ = false) := by show _ = _; simp [okI, hn, hn1]
      clear hn hn1
      go_enter Tryz.func72, Tryz.ntmps72
      go_wp2
      go_ret
      exact ⟨by rw [H.out]; rfl, hz⟩
   ·have H : Hid (okI ⟨4, n, s, 0⟩ = false) := by show _ = _; simp [okI, ht]
    have hte : s.toList.isEmpty = false := by cases hl : s.toList with | nil => exact absurd hl ht | cons _ _ => rfl
    go_enter Tryz.func72, Tryz.ntmps72
    go_wp2
    go_ret
    exact ⟨by rw [H.out]; rfl, hz⟩
  ·have hdf : (d == 0) = false := by simpa using hd
   have H : Hid (okI ⟨4, n, s, d⟩ = false) := by show _ = _; simp [okI]; intro _ _ h; exact absurd h.symm hd
   clear hd
   go_enter Tryz.func72, Tryz.ntmps72
   go_wp2
   go_ret
   exact ⟨by rw [H.out]; rfl, hz⟩
 ·have i1 : ((k : Int) == 1) = false := by simpa using (show (k : Int) ≠ 1 by omega)
  have i2 : ((k : Int) == 2) = false := by simpa using (show (k : Int) ≠ 2 by omega)
  have i3 : ((k : Int) == 3) = false := by simpa using (show (k : Int) ≠ 3 by omega)
  have i4 : ((k : Int) == 4) = false := by simpa using (show (k : Int) ≠ 4 by omega)
  have H : Hid (okI ⟨k, n, s, d⟩ = false) := by show _ = _; simp [okI, k1, k2, k3, k4]
  clear k1 k2 k3 k4
  go_enter Tryz.func72, Tryz.ntmps72
  go_wp2
  go_ret
  exact ⟨by rw [H.out]; rfl, hz⟩
theorem rrights_any (p : Option Addr) (n c : Nat) (l : List It) (w : World) (ha : OkA w ⟨p, l, c⟩) (hn : n = l.length) :
  Calls Tryz.prog 37 #[.slice p n c] w fun e w' => e = .returned (.bool (l.all okI)) ∧ Below w.heap.size w w' := by
 have Ha := hide ha
 have Hn := hide hn
 have hnl : n < 9223372036854775807 := by rw [hn]; exact ha.2.2
 clear ha hn
 go_enter Tryz.func37, Tryz.ntmps37
 go_wp2_with fail
 go_loopw [3] (fun v W => ∃ k : Nat, k ≤ n ∧ v = .int .i64 k ∧ Hid ((l.drop k).all okI = l.all okI) ∧ Below w.heap.size w W) (fun v _ => n - (intOf v).toNat)
 case atStart => exact ⟨0, Nat.zero_le _, rfl, hide rfl, Below.refl _ _⟩
 case round =>
  obtain ⟨k, hk, rfl, Hk, hB⟩ := hrel
  by_cases hlt : k < n
  ·have hI : (k : Int) < (n : Int) := by omega
   obtain ⟨x, hx⟩ : ∃ x, l[k]? = some x := ⟨_, List.getElem?_eq_getElem (by have := Hn.out; omega)⟩
   obtain ⟨b1, off1, e1, c0, c1, c2, c3⟩ := (Ha.out.1.keep hB).at k x hx
   dsimp only at e1
   subst e1
   have hs1 := Ha.out.2.1 x (List.mem_of_getElem? hx)
   have hix := ix_item b1 off1 n c k hlt
   have hst := hide (drop_all okI l k x hx)
   clear hx
   obtain ⟨k1, a1, t1, d1⟩ := x
   dsimp only at c0 c1 c2 c3 hs1
   go_wp2_with fail
   refine (rright_any k1 a1 d1 t1 _ hs1).mono ?_
   rintro e w1 ⟨rfl, hb1⟩
   have hB1 := chain0 hB hb1
   clear hb1 c0 c1 c2 c3 hB
   rcases Bool.eq_false_or_eq_true (okI ⟨k1, a1, t1, d1⟩) with hq | hq
   ·have Hk2 : Hid ((l.drop (k + 1)).all okI = l.all okI) := by show _ = _; rw [← Hk.out, hst.out, hq, Bool.true_and]
    rw [hq]
    clear hst Hk hq
    go_wp2
    go_roundw
    case rel => exact ⟨k + 1, by omega, by simp, Hk2, hB1⟩
    case measure => simp [intOf]; omega
   ·have HR : Hid (l.all okI = false) := by show _ = _; rw [← Hk.out, hst.out, hq, Bool.false_and]
    rw [hq]
    clear hst Hk hq
    go_wp2
    go_ret
    exact ⟨by rw [HR.out]; rfl, hB1⟩
  ·have hI : ¬ (k : Int) < (n : Int) := by omega
   have HR : Hid (l.all okI = true) := by show _ = _; rw [← Hk.out]; exact drop_end okI l k (by have := Hn.out; omega)
   clear Hk
   go_wp2
   go_ret
   exact ⟨by rw [HR.out]; rfl, hB⟩
end Go.Proofs.YtaieiogmolaebaaGreatDoor
