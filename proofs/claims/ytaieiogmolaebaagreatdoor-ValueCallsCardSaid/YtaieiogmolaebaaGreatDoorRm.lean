/- Both Calls answer the same, at any name. -/
import Derived.Test.YtaieiogmolaebaaGreatDoorC22
import Derived.Test.YtaieiogmolaebaaGreatDoorKv
import Derived.Test.YtaieiogmolaebaaGreatDoorC27
import Derived.Test.YtaieiogmolaebaaGreatDoorKe2
import Derived.Test.YtaieiogmolaebaaGreatDoorC29
import Derived.Test.YtaieiogmolaebaaGreatDoorRl1
import Derived.Test.YtaieiogmolaebaaGreatDoorRl2
import Derived.Test.YtaieiogmolaebaaGreatDoorRl3
import Derived.Test.YtaieiogmolaebaaGreatDoorRl4
namespace Go.Proofs.YtaieiogmolaebaaGreatDoor
open Go.RowKit
def atL (L : List (List It)) : List Lst := L.map fun l => ⟨none, l, 0⟩
def conL (ls : List Lst) : List (List It) := ls.map fun x => x.l
theorem right_at (ls : List Lst) : rightL (atL (conL ls)) = rightL ls := by unfold rightL atL conL; simp [List.all_map, Function.comp_def]
theorem len_at (ls : List Lst) : (atL (conL ls)).length = ls.length := by simp [atL, conL]
theorem one_at (f : List It → List It × Int) (ls : List Lst) : one1 f (atL (conL ls)) = one1 f ls := by
 match ls with
 | [] => rfl
 | [a] => rfl
 | _ :: _ :: _ => rfl
theorem sub_at (ls : List Lst) : subV (atL (conL ls)) = subV ls := by
 match ls with
 | [] => rfl
 | [a] => rfl
 | [a, b] => rfl
 | [a, b, c] => rfl
 | _ :: _ :: _ :: _ :: _ => rfl
theorem join_at (ls : List Lst) : joinV (atL (conL ls)) = joinV ls := by
 match ls with
 | [] => rfl
 | [a] => rfl
 | [a, b] => rfl
 | _ :: _ :: _ :: _ => rfl
theorem errS_map : ∀ ls : List Lst, errS (atL (conL ls)) = errS ls
 | [] => rfl
 | x :: r => by
  show (if (strV x.l).2 = 0 then errS (atL (conL r)) else _) = (if (strV x.l).2 = 0 then errS r else _)
  rw [errS_map r]
theorem txs_map (ls : List Lst) : txs (atL (conL ls)) = txs ls := by simp [txs, atL, conL]
theorem fT_at (f : List ByteArray → List It × Int) (ls : List Lst) : fT f (atL (conL ls)) = fT f ls := by unfold fT; rw [errS_map, txs_map]
theorem cR_at {nm : List UInt8} {body : List Lst → List It × Int} (hb : ∀ ls, body (atL (conL ls)) = body ls) (ls : List Lst) : cR nm body (atL (conL ls)) = cR nm body ls := by unfold cR; rw [right_at, len_at, hb]
theorem is_name {op : ByteArray} {l : List UInt8} (h : (op.toList == l) = true) : op = ⟨l.toArray⟩ := by
 have e : op.toList = l := by simpa using h
 rw [ByteArray.toList_eq] at e
 apply ByteArray.ext
 apply Array.toList_inj.1
 rw [e]
theorem joinR_len (sep : ByteArray) (xs : List ByteArray) : (joinR sep xs).1.length ≤ 1 := by
 unfold joinR
 split
 ·exact Nat.zero_le _
 ·exact Nat.le_refl _
theorem numR_len (op : Int → Int → Int × Bool) (l : List It) : (numR op l).1.length ≤ 1 := by
 unfold numR
 split
 ·exact Nat.le_refl _
 ·exact Nat.zero_le _
theorem distA_len : ∀ (l acc : List It), (distA acc l).length ≤ acc.length + l.length
 | [], acc => Nat.le_refl _
 | x :: r, acc => by
  have h1 := distA_len r (addI acc (plainI x))
  have h2 := addI_len acc (plainI x)
  show (distA (addI acc (plainI x)) r).length ≤ _
  rw [List.length_cons]; omega
def LenB (body : List Lst → List It × Int) : Prop := ∀ ls : List Lst, (∀ x ∈ ls, x.l.length ≤ 1000) → (body ls).1.length ≤ 1000
theorem lenb_one {f : List It → List It × Int} (hf : ∀ l : List It, l.length ≤ 1000 → (f l).1.length ≤ 1000) : LenB (one1 f) := by
 intro ls h
 match ls, h with
 | [], _ => exact Nat.zero_le _
 | [a], h => exact hf a.l (h a (by simp))
 | _ :: _ :: _, _ => exact Nat.zero_le _
theorem len_ite {c : Prop} [Decidable c] {x y : List It × Int} (hx : x.1.length ≤ 1000) (hy : y.1.length ≤ 1000) : (if c then x else y).1.length ≤ 1000 := by
 split
 ·exact hx
 ·exact hy
theorem joinR_le (sep : ByteArray) (xs : List ByteArray) : (joinR sep xs).1.length ≤ 1000 := Nat.le_trans (joinR_len sep xs) (by decide)
theorem lenb_sub : LenB subV := by
 intro ls _
 match ls with
 | [] => exact Nat.zero_le _
 | [a] => exact Nat.zero_le _
 | [a, b] => exact len_ite (Nat.zero_le _) (len_ite (Nat.zero_le _) (joinR_le _ _))
 | [a, b, c] => exact len_ite (Nat.zero_le _) (len_ite (Nat.zero_le _) (len_ite (Nat.zero_le _) (joinR_le _ _)))
 | _ :: _ :: _ :: _ :: _ => exact Nat.zero_le _
theorem lenb_join : LenB joinV := by
 intro ls _
 match ls with
 | [] => exact Nat.zero_le _
 | [a] => exact joinR_le _ _
 | [a, b] => exact len_ite (joinR_le _ _) (Nat.zero_le _)
 | _ :: _ :: _ :: _ => exact Nat.zero_le _
theorem lenb_fT {f : List ByteArray → List It × Int} (hf : ∀ l, (f l).1.length ≤ 1) : LenB (fT f) := by
 intro ls _
 unfold fT
 split
 ·exact Nat.le_trans (hf _) (by decide)
 ·exact Nat.zero_le _
theorem lenb_cR {nm : List UInt8} {body : List Lst → List It × Int} (hb : LenB body) : LenB (cR nm body) := by
 intro ls h
 unfold cR
 split
 ·split
  ·exact hb ls h
  ·exact Nat.zero_le _
 ·exact Nat.zero_le _
theorem lenb_atL {body : List Lst → List It × Int} (hb : LenB body) (L : List (List It)) (h : ∀ l ∈ L, l.length ≤ 1000) : (body (atL L)).1.length ≤ 1000 := by
 refine hb _ fun x hx => ?_
 obtain ⟨l, hl, rfl⟩ := List.mem_map.1 hx
 exact h l hl
structure PreC (w : World) (p : Option Addr) (n : Nat) (ls : List Lst) : Prop where
 r : Rd w p (ls.map Lst.v)
 ok : OkAs w ls
 R : ∀ x ∈ ls, ∀ y ∈ x.l, R64 y.num
 s : ∀ x ∈ ls, ∀ y ∈ x.l, y.text.size ≤ 100000
 L : ∀ x ∈ ls, x.l.length ≤ 1000000
 q : n = ls.length
 m : n ≤ 1000
set_option maxRecDepth 100000 in
set_option maxHeartbeats 4000000 in
theorem rcall_no (s : ByteArray) (hno : ∀ W, Calls Tryz.prog 38 #[.string s] W fun e w' => e = .returned (.tuple #[.int .i64 0, .int .i64 0, .bool false]) ∧ W = w') (p : Option Addr) (n c : Nat) (ls : List Lst) (w : World) (hr : Rd w p (ls.map Lst.v)) (hok : OkAs w ls) (hR : ∀ x ∈ ls, ∀ y ∈ x.l, R64 y.num) (hsz : ∀ x ∈ ls, ∀ y ∈ x.l, y.text.size ≤ 100000) (hL : ∀ x ∈ ls, x.l.length ≤ 1000000) (hn : n = ls.length) (hnm : n ≤ 1000) :
  Calls Tryz.prog 8 #[.string s, .slice p n c] w (Res w [] (if rightL ls = true then 241 else 2)) := by
 have Hr := hide hr
 have Hok := hide hok
 have HR := hide hR
 have Hsz := hide hsz
 have HL := hide hL
 have Hn := hide hn
 obtain ⟨JE, hJE⟩ : ∃ x : Int, x = if rightL ls = true then 241 else 2 := ⟨_, rfl⟩
 rw [← hJE]
 have HJE := hide hJE
 have Hno := hide hno
 clear hr hok hR hsz hL hn hJE hno
 go_enter Tryz.func8, Tryz.ntmps8
 go_wp2_with fail
 go_loopw [6] (fun iv W => ∃ k : Nat, k ≤ n ∧ iv = .int .i64 k ∧ Hid (∀ x ∈ ls.take k, x.l.all okI = true) ∧ Below w.heap.size w W) (fun iv _ => n - (intOf iv).toNat)
 case atStart => exact ⟨0, Nat.zero_le _, rfl, hide (by simp), Below.refl _ _⟩
 case round =>
  obtain ⟨k, hk, rfl, Hz, hB⟩ := hrel
  by_cases hlt : k < n
  ·have hI : (k : Int) < (n : Int) := by omega
   obtain ⟨x, hx⟩ : ∃ x, ls[k]? = some x := ⟨_, List.getElem?_eq_getElem (by have := Hn.out; omega)⟩
   obtain ⟨b1, off1, e1, hcz⟩ := (Hr.out.keep hB).cellAt k x.v (by simp [hx])
   subst e1
   have hix := ix_row b1 off1 n c k hlt
   have Hx := hide hx
   have Hokx := hide (Hok.out x (List.mem_of_getElem? hx))
   have Hmx := hide (List.mem_of_getElem? hx)
   clear hx
   obtain ⟨xa, xl, xc⟩ := x
   obtain ⟨q, hq⟩ : ∃ q, q = xl.length := ⟨_, rfl⟩
   have hcx : wr.cell? ⟨b1, off1 + k, none⟩ = some (.slice xa q xc) := by rw [hq]; exact hcz
   clear hcz
   have Hq := hide hq
   clear hq
   have hrt := hide (rrights_any xa q xc xl wr ⟨Hokx.out.1.keep hB, Hokx.out.2⟩ Hq.out)
   rcases Bool.eq_false_or_eq_true (xl.all okI) with ha | ha
   ·rw [ha] at hrt
    have Hz2 : Hid (∀ x ∈ ls.take (k + 1), x.l.all okI = true) := by
     show ∀ x ∈ _, _
     intro x hx
     rw [List.take_add_one, Hx.out] at hx
     rcases List.mem_append.1 hx with hx | hx
     ·exact Hz.out x hx
     ·simp at hx; subst hx; exact ha
    clear ha Hz
    go_wp2_with fail
    refine hrt.out.mono ?_
    rintro e w4 ⟨rfl, hb4⟩
    have hB4 := chain0 hB hb4
    clear hb4 hB hcx hix
    go_wp2
    go_roundw
    case rel => exact ⟨k + 1, by omega, by simp, Hz2, hB4⟩
    case measure => simp [intOf]; omega
   ·rw [ha] at hrt
    have HA : Hid (JE = 2) := by
     show _ = _
     rw [HJE.out, if_neg]
     intro h
     unfold rightL at h
     rw [List.all_eq_true] at h
     have := h _ Hmx.out
     rw [ha] at this; cases this
    clear ha Hz
    go_wp2_with fail
    refine hrt.out.mono ?_
    rintro e w4 ⟨rfl, hb4⟩
    have hB4 := chain0 hB hb4
    clear hb4 hB hcx hix
    go_wp2
    go_ret2
    exact ⟨.slice none 0 0, by rw [HA.out]; rfl, OwI.nil _ _, hB4⟩
  ·have hI : ¬ (k : Int) < (n : Int) := by omega
   have hkn : k = n := by omega
   subst hkn
   have htk : ls.take k = ls := List.take_of_length_le (by have := Hn.out; omega)
   have hri : ∀ x ∈ ls, x.l.all okI = true := by have := Hz.out; rw [htk] at this; exact this
   have hrl : rightL ls = true := by unfold rightL; rw [List.all_eq_true]; exact hri
   have HA : Hid (JE = 241) := by show _ = _; rw [HJE.out, if_pos hrl]
   clear htk Hz hri hrl hk
   go_wp2_with fail
   refine (Hno.out _).mono ?_
   rintro e w4 ⟨rfl, rfl⟩
   go_wp2
   go_ret2
   exact ⟨.slice none 0 0, by rw [HA.out]; rfl, OwI.nil _ _, hB⟩
theorem call_both (name : ByteArray) (hs : name.size ≤ 1000) : ∃ V : List (List It) → List It × Int,
  (∀ p n c ls m w, Env w → w.cell? ⟨3, 0, none⟩ = some (.int .i64 m) → Counts w → PreC w p n ls → Calls Tryz.prog 7 #[.string name, .slice p n c] w (Res w (V (conL ls)).1 (V (conL ls)).2)) ∧
  (∀ p n c ls w, PreC w p n ls → Calls Tryz.prog 8 #[.string name, .slice p n c] w (Res w (V (conL ls)).1 (V (conL ls)).2)) ∧ (∀ L : List (List It), (∀ l ∈ L, l.length ≤ 1000) → (V L).1.length ≤ 1000) := by
 rcases Bool.eq_false_or_eq_true (name.toList == [116, 114, 117, 101]) with h0 | h0
 ·rw [is_name h0]
  refine ⟨fun L => cR [116, 114, 117, 101] (fun _ => ([⟨4, bN true, ⟨#[]⟩, 0⟩], 0)) (atL L), fun p n c ls m w he hm hc h => ?_, fun p n c ls w h => ?_, lenb_atL (lenb_cR (fun ls _ => (by decide)))⟩
  ·show Calls _ _ _ _ (Res w (cR [116, 114, 117, 101] (fun _ => ([⟨4, bN true, ⟨#[]⟩, 0⟩], 0)) (atL (conL ls))).1 (cR [116, 114, 117, 101] (fun _ => ([⟨4, bN true, ⟨#[]⟩, 0⟩], 0)) (atL (conL ls))).2)
   rw [cR_at (fun _ => rfl) ls]
   have hnn := h.q
   by_cases h0 : n = 0
   ·subst h0
    have hls : ls = [] := List.length_eq_zero_iff.1 hnn.symm
    subst hls
    rw [show cR [116, 114, 117, 101] (fun _ => ([⟨4, bN true, ⟨#[]⟩, 0⟩], 0)) [] = ([⟨4, bN true, ⟨#[]⟩, 0⟩], 0) by unfold cR; rw [if_pos (show rightL [] = true from rfl), if_pos (show knV [116, 114, 117, 101] ([] : List Lst).length = true by decide +kernel)]]
    exact call_true p c m w he hm hc
   ·have hk : knV [116, 114, 117, 101] n = false := by rw [knV_0 (by decide)]; simp; omega
    have := call_no ⟨#[116, 114, 117, 101]⟩ p n c ls m w he hm hc h.r h.ok (by decide) hnn (by have := h.m; omega) (.inr hk)
    rw [show cR [116, 114, 117, 101] (fun _ => ([⟨4, bN true, ⟨#[]⟩, 0⟩], 0)) ls = ([], if rightL ls = true then 241 else 2) by unfold cR; rw [← hnn, hk]; split <;> rfl]
    exact this
  ·show Calls _ _ _ _ (Res w (cR [116, 114, 117, 101] (fun _ => ([⟨4, bN true, ⟨#[]⟩, 0⟩], 0)) (atL (conL ls))).1 (cR [116, 114, 117, 101] (fun _ => ([⟨4, bN true, ⟨#[]⟩, 0⟩], 0)) (atL (conL ls))).2)
   rw [cR_at (fun _ => rfl) ls]
   exact Rl1_any _ _ (.inl ⟨rfl, rfl⟩) p n c ls w h.r h.ok h.R h.s h.L h.q h.m
 rcases Bool.eq_false_or_eq_true (name.toList == [102, 97, 108, 115, 101]) with h1 | h1
 ·rw [is_name h1]
  refine ⟨fun L => cR [102, 97, 108, 115, 101] (fun _ => ([⟨4, bN false, ⟨#[]⟩, 0⟩], 0)) (atL L), fun p n c ls m w he hm hc h => ?_, fun p n c ls w h => ?_, lenb_atL (lenb_cR (fun ls _ => (by decide)))⟩
  ·show Calls _ _ _ _ (Res w (cR [102, 97, 108, 115, 101] (fun _ => ([⟨4, bN false, ⟨#[]⟩, 0⟩], 0)) (atL (conL ls))).1 (cR [102, 97, 108, 115, 101] (fun _ => ([⟨4, bN false, ⟨#[]⟩, 0⟩], 0)) (atL (conL ls))).2)
   rw [cR_at (fun _ => rfl) ls]
   have hnn := h.q
   by_cases h0 : n = 0
   ·subst h0
    have hls : ls = [] := List.length_eq_zero_iff.1 hnn.symm
    subst hls
    rw [show cR [102, 97, 108, 115, 101] (fun _ => ([⟨4, bN false, ⟨#[]⟩, 0⟩], 0)) [] = ([⟨4, bN false, ⟨#[]⟩, 0⟩], 0) by unfold cR; rw [if_pos (show rightL [] = true from rfl), if_pos (show knV [102, 97, 108, 115, 101] ([] : List Lst).length = true by decide +kernel)]]
    exact call_false p c m w he hm hc
   ·have hk : knV [102, 97, 108, 115, 101] n = false := by rw [knV_0 (by decide)]; simp; omega
    have := call_no ⟨#[102, 97, 108, 115, 101]⟩ p n c ls m w he hm hc h.r h.ok (by decide) hnn (by have := h.m; omega) (.inr hk)
    rw [show cR [102, 97, 108, 115, 101] (fun _ => ([⟨4, bN false, ⟨#[]⟩, 0⟩], 0)) ls = ([], if rightL ls = true then 241 else 2) by unfold cR; rw [← hnn, hk]; split <;> rfl]
    exact this
  ·show Calls _ _ _ _ (Res w (cR [102, 97, 108, 115, 101] (fun _ => ([⟨4, bN false, ⟨#[]⟩, 0⟩], 0)) (atL (conL ls))).1 (cR [102, 97, 108, 115, 101] (fun _ => ([⟨4, bN false, ⟨#[]⟩, 0⟩], 0)) (atL (conL ls))).2)
   rw [cR_at (fun _ => rfl) ls]
   exact Rl1_any _ _ (.inr (.inl ⟨rfl, rfl⟩)) p n c ls w h.r h.ok h.R h.s h.L h.q h.m
 rcases Bool.eq_false_or_eq_true (name.toList == [99, 111, 117, 110, 116]) with h2 | h2
 ·rw [is_name h2]
  refine ⟨fun L => cR [99, 111, 117, 110, 116] (one1 fCount) (atL L), fun p n c ls m w he hm hc h => ?_, fun p n c ls w h => ?_, lenb_atL (lenb_cR (lenb_one fun l h => (by unfold fCount; repeat (first | (split) | (simp)))))⟩
  ·show Calls _ _ _ _ (Res w (cR [99, 111, 117, 110, 116] (one1 fCount) (atL (conL ls))).1 (cR [99, 111, 117, 110, 116] (one1 fCount) (atL (conL ls))).2)
   rw [cR_at (one_at _) ls]
   exact callO_count p n c ls m w he hm hc h.r h.ok h.q (by have := h.m; omega)
  ·show Calls _ _ _ _ (Res w (cR [99, 111, 117, 110, 116] (one1 fCount) (atL (conL ls))).1 (cR [99, 111, 117, 110, 116] (one1 fCount) (atL (conL ls))).2)
   rw [cR_at (one_at _) ls]
   exact Rl1_any _ _ (.inr (.inr (.inl ⟨rfl, rfl⟩))) p n c ls w h.r h.ok h.R h.s h.L h.q h.m
 rcases Bool.eq_false_or_eq_true (name.toList == [101, 109, 112, 116, 121]) with h3 | h3
 ·rw [is_name h3]
  refine ⟨fun L => cR [101, 109, 112, 116, 121] (one1 fEmpty) (atL L), fun p n c ls m w he hm hc h => ?_, fun p n c ls w h => ?_, lenb_atL (lenb_cR (lenb_one fun l h => (by unfold fEmpty; repeat (first | (split) | (simp)))))⟩
  ·show Calls _ _ _ _ (Res w (cR [101, 109, 112, 116, 121] (one1 fEmpty) (atL (conL ls))).1 (cR [101, 109, 112, 116, 121] (one1 fEmpty) (atL (conL ls))).2)
   rw [cR_at (one_at _) ls]
   exact callO_empty p n c ls m w he hm hc h.r h.ok h.q (by have := h.m; omega)
  ·show Calls _ _ _ _ (Res w (cR [101, 109, 112, 116, 121] (one1 fEmpty) (atL (conL ls))).1 (cR [101, 109, 112, 116, 121] (one1 fEmpty) (atL (conL ls))).2)
   rw [cR_at (one_at _) ls]
   exact Rl1_any _ _ (.inr (.inr (.inr (.inl ⟨rfl, rfl⟩)))) p n c ls w h.r h.ok h.R h.s h.L h.q h.m
 rcases Bool.eq_false_or_eq_true (name.toList == [101, 120, 105, 115, 116, 115]) with h4 | h4
 ·rw [is_name h4]
  refine ⟨fun L => cR [101, 120, 105, 115, 116, 115] (one1 fExists) (atL L), fun p n c ls m w he hm hc h => ?_, fun p n c ls w h => ?_, lenb_atL (lenb_cR (lenb_one fun l h => (by unfold fExists; repeat (first | (split) | (simp)))))⟩
  ·show Calls _ _ _ _ (Res w (cR [101, 120, 105, 115, 116, 115] (one1 fExists) (atL (conL ls))).1 (cR [101, 120, 105, 115, 116, 115] (one1 fExists) (atL (conL ls))).2)
   rw [cR_at (one_at _) ls]
   exact callO_exists p n c ls m w he hm hc h.r h.ok h.q (by have := h.m; omega)
  ·show Calls _ _ _ _ (Res w (cR [101, 120, 105, 115, 116, 115] (one1 fExists) (atL (conL ls))).1 (cR [101, 120, 105, 115, 116, 115] (one1 fExists) (atL (conL ls))).2)
   rw [cR_at (one_at _) ls]
   exact Rl1_any _ _ (.inr (.inr (.inr (.inr (.inl ⟨rfl, rfl⟩))))) p n c ls w h.r h.ok h.R h.s h.L h.q h.m
 rcases Bool.eq_false_or_eq_true (name.toList == [110, 111, 116]) with h5 | h5
 ·rw [is_name h5]
  refine ⟨fun L => cR [110, 111, 116] (one1 fNot) (atL L), fun p n c ls m w he hm hc h => ?_, fun p n c ls w h => ?_, lenb_atL (lenb_cR (lenb_one fun l h => (by unfold fNot; repeat (first | (split) | (simp)))))⟩
  ·show Calls _ _ _ _ (Res w (cR [110, 111, 116] (one1 fNot) (atL (conL ls))).1 (cR [110, 111, 116] (one1 fNot) (atL (conL ls))).2)
   rw [cR_at (one_at _) ls]
   exact callO_not p n c ls m w he hm hc h.r h.ok h.q (by have := h.m; omega)
  ·show Calls _ _ _ _ (Res w (cR [110, 111, 116] (one1 fNot) (atL (conL ls))).1 (cR [110, 111, 116] (one1 fNot) (atL (conL ls))).2)
   rw [cR_at (one_at _) ls]
   exact Rl1_any _ _ (.inr (.inr (.inr (.inr (.inr (.inl ⟨rfl, rfl⟩)))))) p n c ls w h.r h.ok h.R h.s h.L h.q h.m
 rcases Bool.eq_false_or_eq_true (name.toList == [98, 111, 111, 108, 101, 97, 110]) with h6 | h6
 ·rw [is_name h6]
  refine ⟨fun L => cR [98, 111, 111, 108, 101, 97, 110] (one1 fBoolean) (atL L), fun p n c ls m w he hm hc h => ?_, fun p n c ls w h => ?_, lenb_atL (lenb_cR (lenb_one fun l h => (by unfold fBoolean; repeat (first | (split) | (simp)))))⟩
  ·show Calls _ _ _ _ (Res w (cR [98, 111, 111, 108, 101, 97, 110] (one1 fBoolean) (atL (conL ls))).1 (cR [98, 111, 111, 108, 101, 97, 110] (one1 fBoolean) (atL (conL ls))).2)
   rw [cR_at (one_at _) ls]
   exact callO_boolean p n c ls m w he hm hc h.r h.ok h.q (by have := h.m; omega)
  ·show Calls _ _ _ _ (Res w (cR [98, 111, 111, 108, 101, 97, 110] (one1 fBoolean) (atL (conL ls))).1 (cR [98, 111, 111, 108, 101, 97, 110] (one1 fBoolean) (atL (conL ls))).2)
   rw [cR_at (one_at _) ls]
   exact Rl1_any _ _ (.inr (.inr (.inr (.inr (.inr (.inr ⟨rfl, rfl⟩)))))) p n c ls w h.r h.ok h.R h.s h.L h.q h.m
 rcases Bool.eq_false_or_eq_true (name.toList == [115, 116, 114, 105, 110, 103]) with h7 | h7
 ·rw [is_name h7]
  refine ⟨fun L => cR [115, 116, 114, 105, 110, 103] (fT fString) (atL L), fun p n c ls m w he hm hc h => ?_, fun p n c ls w h => ?_, lenb_atL (lenb_cR (lenb_fT fun l => (by unfold fString; split; exact joinR_len _ _; exact Nat.zero_le _)))⟩
  ·show Calls _ _ _ _ (Res w (cR [115, 116, 114, 105, 110, 103] (fT fString) (atL (conL ls))).1 (cR [115, 116, 114, 105, 110, 103] (fT fString) (atL (conL ls))).2)
   rw [cR_at (fT_at _) ls]
   exact callT_string p n c ls m w he hm hc h.r h.ok h.R h.s h.q (by have := h.m; omega)
  ·show Calls _ _ _ _ (Res w (cR [115, 116, 114, 105, 110, 103] (fT fString) (atL (conL ls))).1 (cR [115, 116, 114, 105, 110, 103] (fT fString) (atL (conL ls))).2)
   rw [cR_at (fT_at _) ls]
   exact Rl3_any _ _ (.inr (.inr (.inl ⟨rfl, rfl⟩))) p n c ls w h.r h.ok h.R h.s h.L h.q h.m
 rcases Bool.eq_false_or_eq_true (name.toList == [115, 116, 114, 105, 110, 103, 45, 108, 101, 110, 103, 116, 104]) with h8 | h8
 ·rw [is_name h8]
  refine ⟨fun L => cR [115, 116, 114, 105, 110, 103, 45, 108, 101, 110, 103, 116, 104] (fT fLength) (atL L), fun p n c ls m w he hm hc h => ?_, fun p n c ls w h => ?_, lenb_atL (lenb_cR (lenb_fT fun l => (by unfold fLength; split <;> simp)))⟩
  ·show Calls _ _ _ _ (Res w (cR [115, 116, 114, 105, 110, 103, 45, 108, 101, 110, 103, 116, 104] (fT fLength) (atL (conL ls))).1 (cR [115, 116, 114, 105, 110, 103, 45, 108, 101, 110, 103, 116, 104] (fT fLength) (atL (conL ls))).2)
   rw [cR_at (fT_at _) ls]
   exact callT_string_length p n c ls m w he hm hc h.r h.ok h.R h.s h.q (by have := h.m; omega)
  ·show Calls _ _ _ _ (Res w (cR [115, 116, 114, 105, 110, 103, 45, 108, 101, 110, 103, 116, 104] (fT fLength) (atL (conL ls))).1 (cR [115, 116, 114, 105, 110, 103, 45, 108, 101, 110, 103, 116, 104] (fT fLength) (atL (conL ls))).2)
   rw [cR_at (fT_at _) ls]
   exact Rl3_any _ _ (.inr (.inr (.inr (.inl ⟨rfl, rfl⟩)))) p n c ls w h.r h.ok h.R h.s h.L h.q h.m
 rcases Bool.eq_false_or_eq_true (name.toList == [110, 111, 114, 109, 97, 108, 105, 122, 101, 45, 115, 112, 97, 99, 101]) with h9 | h9
 ·rw [is_name h9]
  refine ⟨fun L => cR [110, 111, 114, 109, 97, 108, 105, 122, 101, 45, 115, 112, 97, 99, 101] (fT fNorm) (atL L), fun p n c ls m w he hm hc h => ?_, fun p n c ls w h => ?_, lenb_atL (lenb_cR (lenb_fT fun l => (by unfold fNorm; split; exact joinR_len _ _; exact Nat.zero_le _)))⟩
  ·show Calls _ _ _ _ (Res w (cR [110, 111, 114, 109, 97, 108, 105, 122, 101, 45, 115, 112, 97, 99, 101] (fT fNorm) (atL (conL ls))).1 (cR [110, 111, 114, 109, 97, 108, 105, 122, 101, 45, 115, 112, 97, 99, 101] (fT fNorm) (atL (conL ls))).2)
   rw [cR_at (fT_at _) ls]
   exact callT_normalize_space p n c ls m w he hm hc h.r h.ok h.R h.s h.q (by have := h.m; omega)
  ·show Calls _ _ _ _ (Res w (cR [110, 111, 114, 109, 97, 108, 105, 122, 101, 45, 115, 112, 97, 99, 101] (fT fNorm) (atL (conL ls))).1 (cR [110, 111, 114, 109, 97, 108, 105, 122, 101, 45, 115, 112, 97, 99, 101] (fT fNorm) (atL (conL ls))).2)
   rw [cR_at (fT_at _) ls]
   exact Rl4_any _ _ (.inl ⟨rfl, rfl⟩) p n c ls w h.r h.ok h.R h.s h.L h.q h.m
 rcases Bool.eq_false_or_eq_true (name.toList == [117, 112, 112, 101, 114, 45, 99, 97, 115, 101]) with h10 | h10
 ·rw [is_name h10]
  refine ⟨fun L => cR [117, 112, 112, 101, 114, 45, 99, 97, 115, 101] (fT fUpper) (atL L), fun p n c ls m w he hm hc h => ?_, fun p n c ls w h => ?_, lenb_atL (lenb_cR (lenb_fT fun l => (by unfold fUpper; split; exact joinR_len _ _; exact Nat.zero_le _)))⟩
  ·show Calls _ _ _ _ (Res w (cR [117, 112, 112, 101, 114, 45, 99, 97, 115, 101] (fT fUpper) (atL (conL ls))).1 (cR [117, 112, 112, 101, 114, 45, 99, 97, 115, 101] (fT fUpper) (atL (conL ls))).2)
   rw [cR_at (fT_at _) ls]
   exact callT_upper_case p n c ls m w he hm hc h.r h.ok h.R h.s h.q (by have := h.m; omega)
  ·show Calls _ _ _ _ (Res w (cR [117, 112, 112, 101, 114, 45, 99, 97, 115, 101] (fT fUpper) (atL (conL ls))).1 (cR [117, 112, 112, 101, 114, 45, 99, 97, 115, 101] (fT fUpper) (atL (conL ls))).2)
   rw [cR_at (fT_at _) ls]
   exact Rl4_any _ _ (.inr (.inl ⟨rfl, rfl⟩)) p n c ls w h.r h.ok h.R h.s h.L h.q h.m
 rcases Bool.eq_false_or_eq_true (name.toList == [108, 111, 119, 101, 114, 45, 99, 97, 115, 101]) with h11 | h11
 ·rw [is_name h11]
  refine ⟨fun L => cR [108, 111, 119, 101, 114, 45, 99, 97, 115, 101] (fT fLower) (atL L), fun p n c ls m w he hm hc h => ?_, fun p n c ls w h => ?_, lenb_atL (lenb_cR (lenb_fT fun l => (by unfold fLower; split; exact joinR_len _ _; exact Nat.zero_le _)))⟩
  ·show Calls _ _ _ _ (Res w (cR [108, 111, 119, 101, 114, 45, 99, 97, 115, 101] (fT fLower) (atL (conL ls))).1 (cR [108, 111, 119, 101, 114, 45, 99, 97, 115, 101] (fT fLower) (atL (conL ls))).2)
   rw [cR_at (fT_at _) ls]
   exact callT_lower_case p n c ls m w he hm hc h.r h.ok h.R h.s h.q (by have := h.m; omega)
  ·show Calls _ _ _ _ (Res w (cR [108, 111, 119, 101, 114, 45, 99, 97, 115, 101] (fT fLower) (atL (conL ls))).1 (cR [108, 111, 119, 101, 114, 45, 99, 97, 115, 101] (fT fLower) (atL (conL ls))).2)
   rw [cR_at (fT_at _) ls]
   exact Rl4_any _ _ (.inr (.inr (.inl ⟨rfl, rfl⟩))) p n c ls w h.r h.ok h.R h.s h.L h.q h.m
 rcases Bool.eq_false_or_eq_true (name.toList == [110, 117, 109, 98, 101, 114]) with h12 | h12
 ·rw [is_name h12]
  refine ⟨fun L => cR [110, 117, 109, 98, 101, 114] (one1 fNumber) (atL L), fun p n c ls m w he hm hc h => ?_, fun p n c ls w h => ?_, lenb_atL (lenb_cR (lenb_one fun l h => (by unfold fNumber; repeat (first | (split) | (simp)))))⟩
  ·show Calls _ _ _ _ (Res w (cR [110, 117, 109, 98, 101, 114] (one1 fNumber) (atL (conL ls))).1 (cR [110, 117, 109, 98, 101, 114] (one1 fNumber) (atL (conL ls))).2)
   rw [cR_at (one_at _) ls]
   exact callO_number p n c ls m w he hm hc h.r h.ok h.R h.q (by have := h.m; omega)
  ·show Calls _ _ _ _ (Res w (cR [110, 117, 109, 98, 101, 114] (one1 fNumber) (atL (conL ls))).1 (cR [110, 117, 109, 98, 101, 114] (one1 fNumber) (atL (conL ls))).2)
   rw [cR_at (one_at _) ls]
   exact Rl2_any _ _ (.inr (.inr (.inr (.inl ⟨rfl, rfl⟩)))) p n c ls w h.r h.ok h.R h.s h.L h.q h.m
 rcases Bool.eq_false_or_eq_true (name.toList == [115, 117, 109]) with h13 | h13
 ·rw [is_name h13]
  refine ⟨fun L => cR [115, 117, 109] (one1 fSum) (atL L), fun p n c ls m w he hm hc h => ?_, fun p n c ls w h => ?_, lenb_atL (lenb_cR (lenb_one fun l h => Nat.le_trans (numR_len _ _) (by decide)))⟩
  ·show Calls _ _ _ _ (Res w (cR [115, 117, 109] (one1 fSum) (atL (conL ls))).1 (cR [115, 117, 109] (one1 fSum) (atL (conL ls))).2)
   rw [cR_at (one_at _) ls]
   exact callO_sum p n c ls m w he hm hc h.r h.ok h.R h.q (by have := h.m; omega)
  ·show Calls _ _ _ _ (Res w (cR [115, 117, 109] (one1 fSum) (atL (conL ls))).1 (cR [115, 117, 109] (one1 fSum) (atL (conL ls))).2)
   rw [cR_at (one_at _) ls]
   exact Rl2_any _ _ (.inl ⟨rfl, rfl⟩) p n c ls w h.r h.ok h.R h.s h.L h.q h.m
 rcases Bool.eq_false_or_eq_true (name.toList == [109, 105, 110]) with h14 | h14
 ·rw [is_name h14]
  refine ⟨fun L => cR [109, 105, 110] (one1 fMin) (atL L), fun p n c ls m w he hm hc h => ?_, fun p n c ls w h => ?_, lenb_atL (lenb_cR (lenb_one fun l h => (by unfold fMin; split; exact Nat.zero_le _; exact Nat.le_trans (numR_len _ _) (by decide))))⟩
  ·show Calls _ _ _ _ (Res w (cR [109, 105, 110] (one1 fMin) (atL (conL ls))).1 (cR [109, 105, 110] (one1 fMin) (atL (conL ls))).2)
   rw [cR_at (one_at _) ls]
   exact callO_min p n c ls m w he hm hc h.r h.ok h.R h.q (by have := h.m; omega)
  ·show Calls _ _ _ _ (Res w (cR [109, 105, 110] (one1 fMin) (atL (conL ls))).1 (cR [109, 105, 110] (one1 fMin) (atL (conL ls))).2)
   rw [cR_at (one_at _) ls]
   exact Rl2_any _ _ (.inr (.inl ⟨rfl, rfl⟩)) p n c ls w h.r h.ok h.R h.s h.L h.q h.m
 rcases Bool.eq_false_or_eq_true (name.toList == [109, 97, 120]) with h15 | h15
 ·rw [is_name h15]
  refine ⟨fun L => cR [109, 97, 120] (one1 fMax) (atL L), fun p n c ls m w he hm hc h => ?_, fun p n c ls w h => ?_, lenb_atL (lenb_cR (lenb_one fun l h => (by unfold fMax; split; exact Nat.zero_le _; exact Nat.le_trans (numR_len _ _) (by decide))))⟩
  ·show Calls _ _ _ _ (Res w (cR [109, 97, 120] (one1 fMax) (atL (conL ls))).1 (cR [109, 97, 120] (one1 fMax) (atL (conL ls))).2)
   rw [cR_at (one_at _) ls]
   exact callO_max p n c ls m w he hm hc h.r h.ok h.R h.q (by have := h.m; omega)
  ·show Calls _ _ _ _ (Res w (cR [109, 97, 120] (one1 fMax) (atL (conL ls))).1 (cR [109, 97, 120] (one1 fMax) (atL (conL ls))).2)
   rw [cR_at (one_at _) ls]
   exact Rl2_any _ _ (.inr (.inr (.inl ⟨rfl, rfl⟩))) p n c ls w h.r h.ok h.R h.s h.L h.q h.m
 rcases Bool.eq_false_or_eq_true (name.toList == [97, 98, 115]) with h16 | h16
 ·rw [is_name h16]
  refine ⟨fun L => cR [97, 98, 115] (one1 fAbs) (atL L), fun p n c ls m w he hm hc h => ?_, fun p n c ls w h => ?_, lenb_atL (lenb_cR (lenb_one fun l h => (by unfold fAbs; repeat (first | (split) | (simp)))))⟩
  ·show Calls _ _ _ _ (Res w (cR [97, 98, 115] (one1 fAbs) (atL (conL ls))).1 (cR [97, 98, 115] (one1 fAbs) (atL (conL ls))).2)
   rw [cR_at (one_at _) ls]
   exact callO_abs p n c ls m w he hm hc h.r h.ok h.R h.q (by have := h.m; omega)
  ·show Calls _ _ _ _ (Res w (cR [97, 98, 115] (one1 fAbs) (atL (conL ls))).1 (cR [97, 98, 115] (one1 fAbs) (atL (conL ls))).2)
   rw [cR_at (one_at _) ls]
   exact Rl2_any _ _ (.inr (.inr (.inr (.inr (.inl ⟨rfl, rfl⟩))))) p n c ls w h.r h.ok h.R h.s h.L h.q h.m
 rcases Bool.eq_false_or_eq_true (name.toList == [100, 105, 115, 116, 105, 110, 99, 116, 45, 118, 97, 108, 117, 101, 115]) with h17 | h17
 ·rw [is_name h17]
  refine ⟨fun L => cR [100, 105, 115, 116, 105, 110, 99, 116, 45, 118, 97, 108, 117, 101, 115] (one1 fDistinct) (atL L), fun p n c ls m w he hm hc h => ?_, fun p n c ls w h => ?_, lenb_atL (lenb_cR (lenb_one fun l h => Nat.le_trans (distA_len l []) (by simpa using h)))⟩
  ·show Calls _ _ _ _ (Res w (cR [100, 105, 115, 116, 105, 110, 99, 116, 45, 118, 97, 108, 117, 101, 115] (one1 fDistinct) (atL (conL ls))).1 (cR [100, 105, 115, 116, 105, 110, 99, 116, 45, 118, 97, 108, 117, 101, 115] (one1 fDistinct) (atL (conL ls))).2)
   rw [cR_at (one_at _) ls]
   exact callO_distinct p n c ls m w he hm hc h.r h.ok h.L h.q (by have := h.m; omega)
  ·show Calls _ _ _ _ (Res w (cR [100, 105, 115, 116, 105, 110, 99, 116, 45, 118, 97, 108, 117, 101, 115] (one1 fDistinct) (atL (conL ls))).1 (cR [100, 105, 115, 116, 105, 110, 99, 116, 45, 118, 97, 108, 117, 101, 115] (one1 fDistinct) (atL (conL ls))).2)
   rw [cR_at (one_at _) ls]
   exact Rl2_any _ _ (.inr (.inr (.inr (.inr (.inr (.inl ⟨rfl, rfl⟩)))))) p n c ls w h.r h.ok h.R h.s h.L h.q h.m
 rcases Bool.eq_false_or_eq_true (name.toList == [114, 101, 118, 101, 114, 115, 101]) with h18 | h18
 ·rw [is_name h18]
  refine ⟨fun L => cR [114, 101, 118, 101, 114, 115, 101] (one1 fReverse) (atL L), fun p n c ls m w he hm hc h => ?_, fun p n c ls w h => ?_, lenb_atL (lenb_cR (lenb_one fun l h => (by show l.reverse.length ≤ 1000; simpa using h)))⟩
  ·show Calls _ _ _ _ (Res w (cR [114, 101, 118, 101, 114, 115, 101] (one1 fReverse) (atL (conL ls))).1 (cR [114, 101, 118, 101, 114, 115, 101] (one1 fReverse) (atL (conL ls))).2)
   rw [cR_at (one_at _) ls]
   exact callO_reverse p n c ls m w he hm hc h.r h.ok h.L h.q (by have := h.m; omega)
  ·show Calls _ _ _ _ (Res w (cR [114, 101, 118, 101, 114, 115, 101] (one1 fReverse) (atL (conL ls))).1 (cR [114, 101, 118, 101, 114, 115, 101] (one1 fReverse) (atL (conL ls))).2)
   rw [cR_at (one_at _) ls]
   exact Rl2_any _ _ (.inr (.inr (.inr (.inr (.inr (.inr ⟨rfl, rfl⟩)))))) p n c ls w h.r h.ok h.R h.s h.L h.q h.m
 rcases Bool.eq_false_or_eq_true (name.toList == [99, 111, 110, 116, 97, 105, 110, 115]) with h19 | h19
 ·rw [is_name h19]
  refine ⟨fun L => cR [99, 111, 110, 116, 97, 105, 110, 115] (fT fContains) (atL L), fun p n c ls m w he hm hc h => ?_, fun p n c ls w h => ?_, lenb_atL (lenb_cR (lenb_fT fun l => (by unfold fContains fB2; split <;> simp)))⟩
  ·show Calls _ _ _ _ (Res w (cR [99, 111, 110, 116, 97, 105, 110, 115] (fT fContains) (atL (conL ls))).1 (cR [99, 111, 110, 116, 97, 105, 110, 115] (fT fContains) (atL (conL ls))).2)
   rw [cR_at (fT_at _) ls]
   exact callT_contains p n c ls m w he hm hc h.r h.ok h.R h.s h.q (by have := h.m; omega)
  ·show Calls _ _ _ _ (Res w (cR [99, 111, 110, 116, 97, 105, 110, 115] (fT fContains) (atL (conL ls))).1 (cR [99, 111, 110, 116, 97, 105, 110, 115] (fT fContains) (atL (conL ls))).2)
   rw [cR_at (fT_at _) ls]
   exact Rl4_any _ _ (.inr (.inr (.inr (.inl ⟨rfl, rfl⟩)))) p n c ls w h.r h.ok h.R h.s h.L h.q h.m
 rcases Bool.eq_false_or_eq_true (name.toList == [115, 116, 97, 114, 116, 115, 45, 119, 105, 116, 104]) with h20 | h20
 ·rw [is_name h20]
  refine ⟨fun L => cR [115, 116, 97, 114, 116, 115, 45, 119, 105, 116, 104] (fT fStarts) (atL L), fun p n c ls m w he hm hc h => ?_, fun p n c ls w h => ?_, lenb_atL (lenb_cR (lenb_fT fun l => (by unfold fStarts fB2; split <;> simp)))⟩
  ·show Calls _ _ _ _ (Res w (cR [115, 116, 97, 114, 116, 115, 45, 119, 105, 116, 104] (fT fStarts) (atL (conL ls))).1 (cR [115, 116, 97, 114, 116, 115, 45, 119, 105, 116, 104] (fT fStarts) (atL (conL ls))).2)
   rw [cR_at (fT_at _) ls]
   exact callT_starts_with p n c ls m w he hm hc h.r h.ok h.R h.s h.q (by have := h.m; omega)
  ·show Calls _ _ _ _ (Res w (cR [115, 116, 97, 114, 116, 115, 45, 119, 105, 116, 104] (fT fStarts) (atL (conL ls))).1 (cR [115, 116, 97, 114, 116, 115, 45, 119, 105, 116, 104] (fT fStarts) (atL (conL ls))).2)
   rw [cR_at (fT_at _) ls]
   exact Rl4_any _ _ (.inr (.inr (.inr (.inr (.inl ⟨rfl, rfl⟩))))) p n c ls w h.r h.ok h.R h.s h.L h.q h.m
 rcases Bool.eq_false_or_eq_true (name.toList == [101, 110, 100, 115, 45, 119, 105, 116, 104]) with h21 | h21
 ·rw [is_name h21]
  refine ⟨fun L => cR [101, 110, 100, 115, 45, 119, 105, 116, 104] (fT fEnds) (atL L), fun p n c ls m w he hm hc h => ?_, fun p n c ls w h => ?_, lenb_atL (lenb_cR (lenb_fT fun l => (by unfold fEnds fB2; split <;> simp)))⟩
  ·show Calls _ _ _ _ (Res w (cR [101, 110, 100, 115, 45, 119, 105, 116, 104] (fT fEnds) (atL (conL ls))).1 (cR [101, 110, 100, 115, 45, 119, 105, 116, 104] (fT fEnds) (atL (conL ls))).2)
   rw [cR_at (fT_at _) ls]
   exact callT_ends_with p n c ls m w he hm hc h.r h.ok h.R h.s h.q (by have := h.m; omega)
  ·show Calls _ _ _ _ (Res w (cR [101, 110, 100, 115, 45, 119, 105, 116, 104] (fT fEnds) (atL (conL ls))).1 (cR [101, 110, 100, 115, 45, 119, 105, 116, 104] (fT fEnds) (atL (conL ls))).2)
   rw [cR_at (fT_at _) ls]
   exact Rl4_any _ _ (.inr (.inr (.inr (.inr (.inr ⟨rfl, rfl⟩))))) p n c ls w h.r h.ok h.R h.s h.L h.q h.m
 rcases Bool.eq_false_or_eq_true (name.toList == [115, 116, 114, 105, 110, 103, 45, 106, 111, 105, 110]) with h22 | h22
 ·rw [is_name h22]
  refine ⟨fun L => cR [115, 116, 114, 105, 110, 103, 45, 106, 111, 105, 110] (joinV) (atL L), fun p n c ls m w he hm hc h => ?_, fun p n c ls w h => ?_, lenb_atL (lenb_cR lenb_join)⟩
  ·show Calls _ _ _ _ (Res w (cR [115, 116, 114, 105, 110, 103, 45, 106, 111, 105, 110] (joinV) (atL (conL ls))).1 (cR [115, 116, 114, 105, 110, 103, 45, 106, 111, 105, 110] (joinV) (atL (conL ls))).2)
   rw [cR_at (join_at) ls]
   exact callJ_any p n c ls m w he hm hc h.r h.ok h.R h.s h.L h.q (by have := h.m; omega)
  ·show Calls _ _ _ _ (Res w (cR [115, 116, 114, 105, 110, 103, 45, 106, 111, 105, 110] (joinV) (atL (conL ls))).1 (cR [115, 116, 114, 105, 110, 103, 45, 106, 111, 105, 110] (joinV) (atL (conL ls))).2)
   rw [cR_at (join_at) ls]
   exact Rl3_any _ _ (.inl ⟨rfl, rfl⟩) p n c ls w h.r h.ok h.R h.s h.L h.q h.m
 rcases Bool.eq_false_or_eq_true (name.toList == [115, 117, 98, 115, 116, 114, 105, 110, 103]) with h23 | h23
 ·rw [is_name h23]
  refine ⟨fun L => cR [115, 117, 98, 115, 116, 114, 105, 110, 103] (subV) (atL L), fun p n c ls m w he hm hc h => ?_, fun p n c ls w h => ?_, lenb_atL (lenb_cR lenb_sub)⟩
  ·show Calls _ _ _ _ (Res w (cR [115, 117, 98, 115, 116, 114, 105, 110, 103] (subV) (atL (conL ls))).1 (cR [115, 117, 98, 115, 116, 114, 105, 110, 103] (subV) (atL (conL ls))).2)
   rw [cR_at (sub_at) ls]
   exact callS_any p n c ls m w he hm hc h.r h.ok h.R h.s h.q (by have := h.m; omega)
  ·show Calls _ _ _ _ (Res w (cR [115, 117, 98, 115, 116, 114, 105, 110, 103] (subV) (atL (conL ls))).1 (cR [115, 117, 98, 115, 116, 114, 105, 110, 103] (subV) (atL (conL ls))).2)
   rw [cR_at (sub_at) ls]
   exact Rl3_any _ _ (.inr (.inl ⟨rfl, rfl⟩)) p n c ls w h.r h.ok h.R h.s h.L h.q h.m
 rcases Bool.eq_false_or_eq_true (name.toList == [99, 111, 110, 99, 97, 116]) with h24 | h24
 ·rw [is_name h24]
  refine ⟨fun L => cR [99, 111, 110, 99, 97, 116] (fT fConcat) (atL L), fun p n c ls m w he hm hc h => ?_, fun p n c ls w h => ?_, lenb_atL (lenb_cR (lenb_fT fun l => joinR_len _ _))⟩
  ·show Calls _ _ _ _ (Res w (cR [99, 111, 110, 99, 97, 116] (fT fConcat) (atL (conL ls))).1 (cR [99, 111, 110, 99, 97, 116] (fT fConcat) (atL (conL ls))).2)
   rw [cR_at (fT_at _) ls]
   exact callT_concat p n c ls m w he hm hc h.r h.ok h.R h.s h.q (by have := h.m; omega)
  ·show Calls _ _ _ _ (Res w (cR [99, 111, 110, 99, 97, 116] (fT fConcat) (atL (conL ls))).1 (cR [99, 111, 110, 99, 97, 116] (fT fConcat) (atL (conL ls))).2)
   rw [cR_at (fT_at _) ls]
   exact Rl3_any _ _ (.inr (.inr (.inr (.inr ⟨rfl, rfl⟩)))) p n c ls w h.r h.ok h.R h.s h.L h.q h.m
 have hk : ∀ n, knV name.data.toList n = false := by
  intro n
  rw [ByteArray.toList_eq] at h0 h1 h2 h3 h4 h5 h6 h7 h8 h9 h10 h11 h12 h13 h14 h15 h16 h17 h18 h19 h20 h21 h22 h23 h24
  simp only [beq_eq_false_iff_ne, ne_eq] at h0 h1 h2 h3 h4 h5 h6 h7 h8 h9 h10 h11 h12 h13 h14 h15 h16 h17 h18 h19 h20 h21 h22 h23 h24
  exact knV_no (by simp [wK0, *]) (by simp [wK1, *]) (by simp [wK2, *]) (by simp [wK3, *]) (by simp [wK4, *]) (by simp [wK5, *])
 refine ⟨fun L => ([], if rightL (atL L) = true then 241 else 2), fun p n c ls m w he hm hc h => ?_, fun p n c ls w h => ?_, fun L h => Nat.zero_le _⟩
 ·show Calls _ _ _ _ (Res w [] (if rightL (atL (conL ls)) = true then 241 else 2))
  rw [right_at]
  exact call_no name p n c ls m w he hm hc h.r h.ok (by omega) h.q (by have := h.m; omega) (.inr (hk n))
 ·show Calls _ _ _ _ (Res w [] (if rightL (atL (conL ls)) = true then 241 else 2))
  rw [right_at]
  exact rcall_no name (fun W => rarity_no name W h0 h1 h2 h3 h4 h5 h6 h7 h8 h9 h10 h11 h12 h13 h14 h15 h16 h17 h18 h19 h20 h21 h22 h23 h24) p n c ls w h.r h.ok h.R h.s h.L h.q h.m
end Go.Proofs.YtaieiogmolaebaaGreatDoor
