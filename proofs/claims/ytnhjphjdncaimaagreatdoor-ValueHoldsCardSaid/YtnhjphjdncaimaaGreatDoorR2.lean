/- Plain law: key.Whole is what is told by hand. Plain laws: what is told by hand of a text (ref05.Next, Texts) is what ValidString and the ranges over its runes tell. value.Truth, value.String at any rows of items. Two rows of items that are right; what Less answers; holds and Compare at what is no sign. value.Less at any rows of items. -/
import Derived.Test.YtnhjphjdncaimaaGreatDoorTn
import Derived.Test.YtnhjphjdncaimaaGreatDoorR1
import Derived.Test.YtnhjphjdncaimaaGreatDoorTt
import Derived.Test.YtnhjphjdncaimaaGreatDoorWj
import Derived.Test.YtnhjphjdncaimaaGreatDoorTp
namespace Go.Proofs.YtnhjphjdncaimaaGreatDoor
open Go.RowKit
theorem bl_ext {x y : ByteArray} : x.toList = y.toList ↔ x.data.toList = y.data.toList := by
  rw [ByteArray.toList_eq, ByteArray.toList_eq]
theorem wh_eq (s : ByteArray) : rfO s.data.toList = if whB s = true then some (whN s) else none := by
  by_cases h : whB s = true
  · rw [if_pos h]
    unfold whB at h
    unfold whN
    split at h
    · rename_i v hv
      have h2 : (⟨(Lib.itoa v).toArray⟩ : ByteArray).toList = s.toList := of_decide_eq_true h
      rw [if_pos h2]
      have h3 := bl_ext.1 h2
      simp only at h3
      have hR := parse_R hv
      unfold R64 at hR
      rw [← h3]
      exact rfO_itoa hR.1 (by have := hR.2; omega)
    · cases h
  · rw [if_neg h]
    cases hr : rfO s.data.toList with
    | none => rfl
    | some v =>
      exfalso
      obtain ⟨h1, h2⟩ := parse_of_rfO hr
      apply h
      unfold whB
      rw [h1]
      simp only
      apply decide_eq_true
      rw [bl_ext]
      simpa using h2
end Go.Proofs.YtnhjphjdncaimaaGreatDoor
namespace Go.Proofs.YtnhjphjdncaimaaGreatDoor
open Go.RowKit
theorem rchr_eq (r : Nat) : rchr r = chr (r : Int) := by
  unfold rchr chr
  rw [Bool.eq_iff_iff]
  simp only [Bool.or_eq_true, Bool.and_eq_true, decide_eq_true_eq, beq_iff_eq, Bool.not_eq_true', Bool.or_eq_false_iff, Bool.and_eq_false_iff, decide_eq_false_iff_not, bne_iff_ne, ne_eq]
  omega
theorem rTf_eq (s : ByteArray) : ∀ (n k : Nat), rTf s n k = (scan s n k && vSf n (s.extract k s.size))
  | 0, k => rfl
  | n + 1, k => by
    unfold rTf scan vSf
    have hsz := ext_size s k
    by_cases hk : k < s.size
    · have hne : ¬ (s.extract k s.size).size = 0 := by omega
      rw [if_pos hk, if_pos hk, if_neg hne]
      have hv := nxt_vnum s k hk
      by_cases h0 : (nxt s k).2 = 0
      · rw [if_pos h0, if_pos (by rw [← hv]; exact h0), Bool.and_false]
      · rw [if_neg h0, if_neg (by rw [← hv]; exact h0), rTf_eq s n, rchr_eq, ← hv, ext_ext]
        rw [nxt_dec s k hk h0, Bool.and_assoc]
    · have he : (s.extract k s.size).size = 0 := by omega
      rw [if_neg hk, if_neg hk, if_pos he]; rfl
theorem rT_eq (s : ByteArray) : rTf s s.size 0 = tS s := by
  rw [rTf_eq]
  unfold tS vS
  have e : s.extract 0 s.size = s := by
    apply ByteArray.ext
    rw [ByteArray.data_extract]
    exact Array.extract_size
  rw [e]
end Go.Proofs.YtnhjphjdncaimaaGreatDoor
namespace Go.Proofs.YtnhjphjdncaimaaGreatDoor
open Go.RowKit
theorem right1_any (p : Option Addr) (n c : Nat) (l : List It) (w : World) (ht8 : Tabs8 w) (ha : OkA w ⟨p, l, c⟩) (hn : n = l.length) :
    Calls Tryz.prog 25 #[.slice (some ⟨w.heap.size, 0, none⟩) 1 1] (w.alloc (.cells #[.slice p n c] 22)) fun e w' => e = .returned (.bool (l.all okI)) ∧ Below w.heap.size w w' := by
  subst hn
  have hb0 : Below w.heap.size w (w.alloc (.cells #[.slice p l.length c] 22)) := (Below.refl _ _).alloc (Nat.le_refl _) _
  have hrd : Rd (w.alloc (.cells #[.slice p l.length c] 22)) (some ⟨w.heap.size, 0, none⟩) (([⟨p, l, c⟩] : List Lst).map Lst.v) := Rd.new w 22 [.slice p l.length c]
  refine (right_any (some ⟨w.heap.size, 0, none⟩) 1 1 [⟨p, l, c⟩] _ (ht8.keep hb0) rfl (by decide) hrd ?_).mono ?_
  · intro x hx
    rw [List.mem_singleton] at hx
    subst hx
    exact ⟨ha.1.keep hb0, ha.2⟩
  · rintro e w' ⟨rfl, hb⟩
    refine ⟨by simp [rightL], chain0 hb0 hb⟩
/-- is a row true? -/
def truthV (l : List It) : Bool × Int :=
  if l.all okI = true then
    match l with
    | [] => (false, 0)
    | x :: r => if x.kind = 1 then (true, 0) else if r = [] then (decide (x.num ≠ 0) || decide (x.text.toList ≠ []), 0) else (false, 250)
  else (false, 2)
theorem at0 {w : World} {p : Option Addr} {x : It} {r : List It} (h : RdI w p (x :: r)) :
    ∃ b off, p = some ⟨b, off, none⟩ ∧ w.cell? ⟨b, off, none⟩ = some (.int .u8 x.kind) ∧ w.cell? ⟨b, off + 1, none⟩ = some (.int .i64 x.num) ∧ w.cell? ⟨b, off + 2, none⟩ = some (.string x.text) ∧ w.cell? ⟨b, off + 3, none⟩ = some (.int .i64 x.node) := by
  obtain ⟨b, off, h1, h2, h3, h4, h5⟩ := h.at 0 x rfl
  exact ⟨b, off, h1, by simpa using h2, by simpa using h3, by simpa using h4, by simpa using h5⟩
theorem ix_at0 (b off n c : Nat) (h : 0 < n) (W : World) : (Instr.indexAt 22 (.slice (some ⟨b, off, none⟩) n c) (.int .i64 0)).run Tryz.prog W = .ok (.pointer (some ⟨b, off, none⟩)) W := by
  have := ix_item b off n c 0 h W
  simpa using this
set_option maxRecDepth 100000 in
set_option maxHeartbeats 4000000 in
theorem truth_any (p : Option Addr) (n c : Nat) (l : List It) (w : World) (he : Env w) (ha : OkA w ⟨p, l, c⟩) (hn : n = l.length) :
    Calls Tryz.prog 9 #[.slice p n c] w fun e w' => e = .returned (.tuple #[.bool (truthV l).1, .int .i64 (truthV l).2]) ∧ Below w.heap.size w w' := by
  have Hr := hide (right1_any p n c l w he.t8 ha hn)
  have Ha := hide ha
  have hnl : n < 9223372036854775807 := by rw [hn]; exact ha.2.2
  clear ha he
  rcases Bool.eq_false_or_eq_true (l.all okI) with hq | hq
  · match l with
    | [] =>
      have HT : Hid (truthV [] = (false, 0)) := by show _ = _; rfl
      have hn0 : n = 0 := hn
      subst hn0
      rw [hq] at Hr
      clear hn hq
      go_enter Tryz.func9, Tryz.ntmps9
      go_wp2_with fail
      refine Hr.out.mono ?_
      rintro e w1 ⟨rfl, hb1⟩
      go_wp2
      go_ret2
      exact ⟨by rw [HT.out]; rfl, hb1⟩
    | x :: r =>
      obtain ⟨m, hm⟩ : ∃ m, m = r.length := ⟨_, rfl⟩
      have hn1 : n = m + 1 := by rw [hn, List.length_cons, hm]
      rw [hq] at Hr
      obtain ⟨b, off, hp, _⟩ := at0 Ha.out.1
      dsimp only at hp
      subst hp
      have hix := ix_at0 b off n c (by omega)
      by_cases k1 : x.kind = 1
      · have HT : Hid (truthV (x :: r) = (true, 0)) := by show _ = _; unfold truthV; rw [if_pos hq]; exact if_pos k1
        clear hn hm
        obtain ⟨xk, xa, xt, xd⟩ := x
        have k1 : xk = 1 := k1
        subst k1
        clear hq
        subst hn1
        go_enter Tryz.func9, Tryz.ntmps9
        go_wp2_with fail
        refine Hr.out.mono ?_
        rintro e w1 ⟨rfl, hb1⟩
        obtain ⟨b2, off2, e2, c0, c1, c2, c3⟩ := at0 (Ha.out.1.keep hb1)
        injection e2 with e2
        injection e2 with e2 e3
        subst e2 e3
        dsimp only at c0 c1 c2 c3
        go_wp2
        go_ret2
        exact ⟨by rw [HT.out]; rfl, hb1⟩
      · have k1i : ((x.kind : Int) == 1) = false := by simpa using (show (x.kind : Int) ≠ 1 by omega)
        by_cases hr0 : r = []
        · subst hr0
          have hm0 : m = 0 := hm
          subst hm0
          have hn2 : n = 1 := hn1
          subst hn2
          have HT : Hid (truthV [x] = (decide (x.num ≠ 0) || decide (x.text.toList ≠ []), 0)) := by show _ = _; unfold truthV; rw [if_pos hq]; simp only; rw [if_neg k1, if_pos trivial]
          clear hn hm hn1 hq k1
          obtain ⟨xk, xa, xt, xd⟩ := x
          dsimp only at k1i HT
          by_cases hz : xa = 0
          · have hz1 : (xa != 0) = false := by simpa using hz
            have HT2 : Hid (truthV [⟨xk, xa, xt, xd⟩] = (decide (xt.toList ≠ []), 0)) := by show _ = _; rw [HT.out]; simp [hz]
            clear hz HT
            go_enter Tryz.func9, Tryz.ntmps9
            go_wp2_with fail
            refine Hr.out.mono ?_
            rintro e w1 ⟨rfl, hb1⟩
            obtain ⟨b2, off2, e2, c0, c1, c2, c3⟩ := at0 (Ha.out.1.keep hb1)
            injection e2 with e2
            injection e2 with e2 e3
            subst e2 e3
            dsimp only at c0 c1 c2 c3
            go_wp2
            go_ret2
            exact ⟨by rw [HT2.out]; simp; cases xt.toList <;> rfl, hb1⟩
          · have hz1 : (xa != 0) = true := by simpa using hz
            have HT2 : Hid (truthV [⟨xk, xa, xt, xd⟩] = (true, 0)) := by show _ = _; rw [HT.out]; simp [hz]
            clear hz HT
            go_enter Tryz.func9, Tryz.ntmps9
            go_wp2_with fail
            refine Hr.out.mono ?_
            rintro e w1 ⟨rfl, hb1⟩
            obtain ⟨b2, off2, e2, c0, c1, c2, c3⟩ := at0 (Ha.out.1.keep hb1)
            injection e2 with e2
            injection e2 with e2 e3
            subst e2 e3
            dsimp only at c0 c1 c2 c3
            go_wp2
            go_ret2
            exact ⟨by rw [HT2.out]; rfl, hb1⟩
        · have HT : Hid (truthV (x :: r) = (false, 250)) := by show _ = _; unfold truthV; rw [if_pos hq]; simp only; rw [if_neg k1, if_neg hr0]
          have hm1 : (1 : Int) < (n : Int) := by
            have : r.length ≠ 0 := fun h => hr0 (List.length_eq_zero_iff.1 h)
            omega
          have hn3 : ((n : Int) == 0) = false := by simpa using (show (n : Int) ≠ 0 by omega)
          clear hn hm hq k1 hn1
          obtain ⟨xk, xa, xt, xd⟩ := x
          dsimp only at k1i
          go_enter Tryz.func9, Tryz.ntmps9
          go_wp2_with fail
          refine Hr.out.mono ?_
          rintro e w1 ⟨rfl, hb1⟩
          obtain ⟨b2, off2, e2, c0, c1, c2, c3⟩ := at0 (Ha.out.1.keep hb1)
          injection e2 with e2
          injection e2 with e2 e3
          subst e2 e3
          dsimp only at c0 c1 c2 c3
          go_wp2
          go_ret2
          exact ⟨by rw [HT.out]; rfl, hb1⟩
  · have HT : Hid (truthV l = (false, 2)) := by show _ = _; unfold truthV; rw [if_neg (by rw [hq]; decide)]
    rw [hq] at Hr
    clear hq hn
    go_enter Tryz.func9, Tryz.ntmps9
    go_wp2_with fail
    refine Hr.out.mono ?_
    rintro e w1 ⟨rfl, hb1⟩
    go_wp2
    go_ret2
    exact ⟨by rw [HT.out]; rfl, hb1⟩
/-- a text of an item; of a row -/
def bT : ByteArray := ⟨#[116, 114, 117, 101]⟩
def bF : ByteArray := ⟨#[102, 97, 108, 115, 101]⟩
def txt (x : It) : ByteArray := if x.kind = 2 then ⟨(Lib.itoa x.num).toArray⟩ else if x.kind = 4 then (if x.num = 1 then bT else bF) else x.text
def strV (l : List It) : ByteArray × Int :=
  if l.all okI = true then
    match l with
    | [] => (⟨#[]⟩, 0)
    | x :: r => if r = [] then (txt x, 0) else (⟨#[]⟩, 253)
  else (⟨#[]⟩, 2)
set_option maxRecDepth 100000 in
set_option maxHeartbeats 1000000 in
theorem text_any (k : Nat) (n d : Int) (s : ByteArray) (w : World) (he : Env w) (hR : R64 n) : Calls Tryz.prog 30 #[.agg #[.int .u8 k, .int .i64 n, .string s, .int .i64 d]] w fun e w' => e = .returned (.string (txt ⟨k, n, s, d⟩)) ∧ Below w.heap.size w w' := by
  have hz := (Below.refl w.heap.size w).alloc (Nat.le_refl _) (.cells #[.int .u8 k, .int .i64 n, .string s, .int .i64 d] 38)
  have He := hide (he.keep hz)
  have HR := hide hR
  clear he hR
  by_cases k2 : k = 2
  · subst k2
    have HT : Hid (txt ⟨2, n, s, d⟩ = ⟨(Lib.itoa n).toArray⟩) := by show _ = _; rfl
    go_enter Tryz.func30, Tryz.ntmps30
    go_wp2_with fail
    refine (Tryz.strconv_FormatInt_10 n HR.out.1 HR.out.2 _ He.out.pow).mono ?_
    rintro e w2 ⟨rfl, k2, os2, hw2⟩
    have hb2 : Below w.heap.size w w2 := by rw [hw2]; exact chain0 hz (Lib.below_grow _ _ (Nat.le_refl _) _ _)
    clear hw2
    go_wp2
    go_ret
    exact ⟨by rw [HT.out]; rfl, hb2⟩
  · have k2i : ((k : Int) == 2) = false := by simpa using (show (k : Int) ≠ 2 by omega)
    by_cases k4 : k = 4
    · subst k4
      clear k2 k2i
      by_cases h1 : n = 1
      · subst h1
        have HT : Hid (txt ⟨4, 1, s, d⟩ = bT) := by show _ = _; rfl
        go_enter Tryz.func30, Tryz.ntmps30
        go_wp2
        go_ret
        exact ⟨by rw [HT.out]; rfl, hz⟩
      · have h1f : (n == 1) = false := by simpa using h1
        have HT : Hid (txt ⟨4, n, s, d⟩ = bF) := by show _ = _; unfold txt; rw [if_neg (show ¬ (4 = 2) by decide), if_pos rfl, if_neg h1]
        clear h1
        go_enter Tryz.func30, Tryz.ntmps30
        go_wp2
        go_ret
        exact ⟨by rw [HT.out]; rfl, hz⟩
    · have k4i : ((k : Int) == 4) = false := by simpa using (show (k : Int) ≠ 4 by omega)
      have HT : Hid (txt ⟨k, n, s, d⟩ = s) := by show _ = _; unfold txt; rw [if_neg k2, if_neg k4]
      clear k2 k4
      go_enter Tryz.func30, Tryz.ntmps30
      go_wp2
      go_ret
      exact ⟨by rw [HT.out]; rfl, hz⟩
set_option maxRecDepth 100000 in
set_option maxHeartbeats 4000000 in
theorem string_any (p : Option Addr) (n c : Nat) (l : List It) (w : World) (he : Env w) (ha : OkA w ⟨p, l, c⟩) (hR : ∀ y ∈ l, R64 y.num) (hn : n = l.length) :
    Calls Tryz.prog 11 #[.slice p n c] w fun e w' => e = .returned (.tuple #[.string (strV l).1, .int .i64 (strV l).2]) ∧ Below w.heap.size w w' := by
  have Hr := hide (right1_any p n c l w he.t8 ha hn)
  have Ha := hide ha
  have He := hide he
  have hnl : n < 9223372036854775807 := by rw [hn]; exact ha.2.2
  clear ha he
  rcases Bool.eq_false_or_eq_true (l.all okI) with hq | hq
  · match l with
    | [] =>
      have HT : Hid (strV [] = (⟨#[]⟩, 0)) := by show _ = _; rfl
      have hn0 : n = 0 := hn
      subst hn0
      rw [hq] at Hr
      clear hn hq
      go_enter Tryz.func11, Tryz.ntmps11
      go_wp2_with fail
      refine Hr.out.mono ?_
      rintro e w1 ⟨rfl, hb1⟩
      go_wp2
      go_ret2
      exact ⟨by rw [HT.out]; rfl, hb1⟩
    | x :: r =>
      have HR := hide (hR x (by simp))
      clear hR
      obtain ⟨m, hm⟩ : ∃ m, m = r.length := ⟨_, rfl⟩
      have hn1 : n = m + 1 := by rw [hn, List.length_cons, hm]
      rw [hq] at Hr
      obtain ⟨b, off, hp, _⟩ := at0 Ha.out.1
      dsimp only at hp
      subst hp
      have hix := ix_at0 b off n c (by omega)
      by_cases hr0 : r = []
      · subst hr0
        have hm0 : m = 0 := hm
        subst hm0
        have hn2 : n = 1 := hn1
        subst hn2
        have HT : Hid (strV [x] = (txt x, 0)) := by show _ = _; unfold strV; rw [if_pos hq]; simp only; rw [if_pos trivial]
        clear hn hm hn1 hq
        obtain ⟨xk, xa, xt, xd⟩ := x
        go_enter Tryz.func11, Tryz.ntmps11
        go_wp2_with fail
        refine Hr.out.mono ?_
        rintro e w1 ⟨rfl, hb1⟩
        obtain ⟨b2, off2, e2, c0, c1, c2, c3⟩ := at0 (Ha.out.1.keep hb1)
        injection e2 with e2
        injection e2 with e2 e3
        subst e2 e3
        dsimp only at c0 c1 c2 c3
        go_wp2_with fail
        refine (text_any xk xa xd xt _ (He.out.keep hb1) HR.out).mono ?_
        rintro e w2 ⟨rfl, hb2⟩
        have hB2 := chain0 hb1 hb2
        clear hb2 c0 c1 c2 c3
        generalize txt ⟨xk, xa, xt, xd⟩ = tx at *
        go_wp2
        go_ret2
        exact ⟨by rw [HT.out]; rfl, hB2⟩
      · have HT : Hid (strV (x :: r) = (⟨#[]⟩, 253)) := by show _ = _; unfold strV; rw [if_pos hq]; simp only; rw [if_neg hr0]
        have hm1 : (1 : Int) < (n : Int) := by
          have : r.length ≠ 0 := fun h => hr0 (List.length_eq_zero_iff.1 h)
          omega
        clear hn hm hq hn1
        go_enter Tryz.func11, Tryz.ntmps11
        go_wp2_with fail
        refine Hr.out.mono ?_
        rintro e w1 ⟨rfl, hb1⟩
        go_wp2
        go_ret2
        exact ⟨by rw [HT.out]; rfl, hb1⟩
  · have HT : Hid (strV l = (⟨#[]⟩, 2)) := by show _ = _; unfold strV; rw [if_neg (by rw [hq]; decide)]
    rw [hq] at Hr
    clear hq hn hR
    go_enter Tryz.func11, Tryz.ntmps11
    go_wp2_with fail
    refine Hr.out.mono ?_
    rintro e w1 ⟨rfl, hb1⟩
    go_wp2
    go_ret2
    exact ⟨by rw [HT.out]; rfl, hb1⟩
end Go.Proofs.YtnhjphjdncaimaaGreatDoor
namespace Go.Proofs.YtnhjphjdncaimaaGreatDoor
open Go.RowKit
theorem right2_any (p q : Option Addr) (n m c d : Nat) (A B : List It) (w : World) (ht8 : Tabs8 w) (ha : OkA w ⟨p, A, c⟩) (hb : OkA w ⟨q, B, d⟩) (hn : n = A.length) (hm : m = B.length) :
    Calls Tryz.prog 25 #[.slice (some ⟨w.heap.size, 0, none⟩) 2 2] (w.alloc (.cells #[.slice p n c, .slice q m d] 22)) fun e w' => e = .returned (.bool (A.all okI && B.all okI)) ∧ Below w.heap.size w w' := by
  subst hn hm
  have hb0 : Below w.heap.size w (w.alloc (.cells #[.slice p A.length c, .slice q B.length d] 22)) := (Below.refl _ _).alloc (Nat.le_refl _) _
  have hrd : Rd (w.alloc (.cells #[.slice p A.length c, .slice q B.length d] 22)) (some ⟨w.heap.size, 0, none⟩) (([⟨p, A, c⟩, ⟨q, B, d⟩] : List Lst).map Lst.v) := Rd.new w 22 [.slice p A.length c, .slice q B.length d]
  refine (right_any (some ⟨w.heap.size, 0, none⟩) 2 2 [⟨p, A, c⟩, ⟨q, B, d⟩] _ (ht8.keep hb0) rfl (by decide) hrd ?_).mono ?_
  · intro x hx
    simp only [List.mem_cons, List.not_mem_nil, or_false] at hx
    rcases hx with rfl | rfl
    · exact ⟨ha.1.keep hb0, ha.2⟩
    · exact ⟨hb.1.keep hb0, hb.2⟩
  · rintro e w' ⟨rfl, hb⟩
    refine ⟨by simp [rightL], chain0 hb0 hb⟩
/-- does a row stand ahead of another one? -/
def lessV (A B : List It) : Bool × Int :=
  if (A.all okI && B.all okI) = true then
    match A, B with
    | [x], [y] => (decide (oV x y < 0), oE x y)
    | [], [] => (false, 0)
    | [], [_] => (true, 0)
    | [_], [] => (false, 0)
    | _, _ => (false, 253)
  else (false, 2)
theorem lessV_long {A B : List It} (h : (A.all okI && B.all okI) = true) (h2 : 1 < A.length ∨ 1 < B.length) : lessV A B = (false, 253) := by
  unfold lessV
  rw [if_pos h]
  match A, B, h2 with
  | [], [], h2 => simp at h2
  | [], [_], h2 => simp at h2
  | [_], [], h2 => simp at h2
  | [_], [_], h2 => simp at h2
  | [], _ :: _ :: _, _ => rfl
  | [_], _ :: _ :: _, _ => rfl
  | _ :: _ :: _, [], _ => rfl
  | _ :: _ :: _, _ :: _, _ => rfl
theorem lessV_nil {A B : List It} (h : (A.all okI && B.all okI) = true) (h1 : A.length ≤ 1) (h2 : B.length ≤ 1) (h3 : A.length = 0 ∨ B.length = 0) : lessV A B = (decide (A.length < B.length), 0) := by
  unfold lessV
  rw [if_pos h]
  match A, B, h1, h2, h3 with
  | [], [], _, _, _ => rfl
  | [], [_], _, _, _ => rfl
  | [_], [], _, _, _ => rfl
  | [_], [_], _, _, h => simp at h
  | [], _ :: _ :: _, _, h, _ => simp at h
  | [_], _ :: _ :: _, _, h, _ => simp at h
  | _ :: _ :: _, _, h, _, _ => simp at h
theorem lessV_one {x y : It} (h : ([x].all okI && [y].all okI) = true) : lessV [x] [y] = (decide (oV x y < 0), oE x y) := by
  unfold lessV
  rw [if_pos h]
/-- no sign -/
structure NoSign (op : ByteArray) : Prop where
  e1 : (op.toList == [61]) = false
  e2 : (op.toList == [33, 61]) = false
  e3 : (op.toList == [60]) = false
  e4 : (op.toList == [60, 61]) = false
  e5 : (op.toList == [62]) = false
  e6 : (op.toList == [62, 61]) = false
set_option maxRecDepth 100000 in
set_option maxHeartbeats 1000000 in
theorem holds_other {op : ByteArray} (h : NoSign op) (n : Int) (w : World) : Calls Tryz.prog 24 #[.string op, .int .i64 n] w fun e w' => e = .returned (.tuple #[.bool false, .bool false]) ∧ w = w' := by
  obtain ⟨h1, h2, h3, h4, h5, h6⟩ := h
  go_enter Tryz.func24, Tryz.ntmps24
  go_wp2
  go_ret2
  exact ⟨rfl, rfl⟩
set_option maxRecDepth 100000 in
set_option maxHeartbeats 1000000 in
theorem compare_other {op : ByteArray} (h : NoSign op) (a b : Value) (w : World) :
    Calls Tryz.prog 7 #[.string op, a, b] w fun e w' => e = .returned (.tuple #[.bool false, .int .i64 2]) ∧ Below w.heap.size w w' := by
  have H := hide h
  clear h
  go_enter Tryz.func7, Tryz.ntmps7
  go_wp2_with fail
  refine (holds_other H.out 0 _).mono ?_
  rintro e wx ⟨rfl, rfl⟩
  go_wp2
  go_ret2
  exact ⟨rfl, Below.refl _ _⟩
end Go.Proofs.YtnhjphjdncaimaaGreatDoor
namespace Go.Proofs.YtnhjphjdncaimaaGreatDoor
open Go.RowKit
set_option maxRecDepth 100000 in
set_option maxHeartbeats 4000000 in
theorem less_any (p q : Option Addr) (n m c d : Nat) (A B : List It) (w : World) (he : Env w) (ha : OkA w ⟨p, A, c⟩) (hb : OkA w ⟨q, B, d⟩) (hn : n = A.length) (hm : m = B.length) :
    Calls Tryz.prog 13 #[.slice p n c, .slice q m d] w fun e w' => e = .returned (.tuple #[.bool (lessV A B).1, .int .i64 (lessV A B).2]) ∧ Below w.heap.size w w' := by
  have Hr := hide (right2_any p q n m c d A B w he.t8 ha hb hn hm)
  have Ha := hide ha
  have Hb := hide hb
  have He := hide he
  have hnl : n < 9223372036854775807 := by rw [hn]; exact ha.2.2
  have hml : m < 9223372036854775807 := by rw [hm]; exact hb.2.2
  clear ha hb he
  rcases Bool.eq_false_or_eq_true (A.all okI && B.all okI) with hq | hq
  · rw [hq] at Hr
    by_cases h1 : 1 < n
    · have HT : Hid (lessV A B = (false, 253)) := lessV_long hq (.inl (by omega))
      have h1i : (1 : Int) < (n : Int) := by omega
      clear hq hn hm
      go_enter Tryz.func13, Tryz.ntmps13
      go_wp2_with fail
      refine Hr.out.mono ?_
      rintro e w1 ⟨rfl, hb1⟩
      go_wp2
      go_ret2
      exact ⟨by rw [HT.out]; rfl, hb1⟩
    · have h1i : ¬ (1 : Int) < (n : Int) := by omega
      by_cases h2 : 1 < m
      · have HT : Hid (lessV A B = (false, 253)) := lessV_long hq (.inr (by omega))
        have h2i : (1 : Int) < (m : Int) := by omega
        clear hq hn hm
        go_enter Tryz.func13, Tryz.ntmps13
        go_wp2_with fail
        refine Hr.out.mono ?_
        rintro e w1 ⟨rfl, hb1⟩
        go_wp2
        go_ret2
        exact ⟨by rw [HT.out]; rfl, hb1⟩
      · have h2i : ¬ (1 : Int) < (m : Int) := by omega
        by_cases h3 : n = 0
        · subst h3
          have HT : Hid (lessV A B = (decide (0 < m), 0)) := by
            show _ = _
            rw [lessV_nil hq (by omega) (by omega) (.inl (by omega))]
            congr 1
            rw [Bool.eq_iff_iff, decide_eq_true_eq, decide_eq_true_eq]
            omega
          clear hq hn hm h1 h2 h1i
          go_enter Tryz.func13, Tryz.ntmps13
          go_wp2_with fail
          refine Hr.out.mono ?_
          rintro e w1 ⟨rfl, hb1⟩
          go_wp2
          go_ret2
          exact ⟨by rw [HT.out]; rfl, hb1⟩
        · have hn1 : n = 1 := by omega
          subst hn1
          by_cases h4 : m = 0
          · subst h4
            have HT : Hid (lessV A B = (false, 0)) := by
              show _ = _
              rw [lessV_nil hq (by omega) (by omega) (.inr (by omega))]
              congr 1
              rw [decide_eq_false_iff_not]
              omega
            clear hq hn hm h1 h2 h1i h2i h3
            go_enter Tryz.func13, Tryz.ntmps13
            go_wp2_with fail
            refine Hr.out.mono ?_
            rintro e w1 ⟨rfl, hb1⟩
            go_wp2
            go_ret2
            exact ⟨by rw [HT.out]; rfl, hb1⟩
          · have hm1 : m = 1 := by omega
            subst hm1
            obtain ⟨x, rfl⟩ : ∃ x, A = [x] := List.length_eq_one_iff.1 hn.symm
            obtain ⟨y, rfl⟩ : ∃ y, B = [y] := List.length_eq_one_iff.1 hm.symm
            have HT : Hid (lessV [x] [y] = (decide (oV x y < 0), oE x y)) := lessV_one hq
            have Hs1 := hide (Ha.out.2.1 x (by simp))
            have Hs2 := hide (Hb.out.2.1 y (by simp))
            obtain ⟨b, off, hp, _⟩ := at0 Ha.out.1
            dsimp only at hp
            subst hp
            obtain ⟨b2, off2, hp2, _⟩ := at0 Hb.out.1
            dsimp only at hp2
            subst hp2
            have hix := ix_at0 b off 1 c (by omega)
            have hix2 := ix_at0 b2 off2 1 d (by omega)
            obtain ⟨k1, a1, t1, d1⟩ := x
            obtain ⟨k2, a2, t2, d2⟩ := y
            clear hq hn hm h1 h2 h1i h2i h3 h4
            go_enter Tryz.func13, Tryz.ntmps13
            go_wp2_with fail
            refine Hr.out.mono ?_
            rintro e w1 ⟨rfl, hb1⟩
            obtain ⟨b3, off3, e3, c0, c1, c2, c3⟩ := at0 (Ha.out.1.keep hb1)
            injection e3 with e3
            injection e3 with e3 e4
            subst e3 e4
            dsimp only at c0 c1 c2 c3
            obtain ⟨b3, off3, e3, q0, q1, q2, q3⟩ := at0 (Hb.out.1.keep hb1)
            injection e3 with e3
            injection e3 with e3 e4
            subst e3 e4
            dsimp only at q0 q1 q2 q3
            go_wp2_with fail
            have l0 := later_cell c0
            have l1 := later_cell c1
            have l2 := later_cell c2
            have l3 := later_cell c3
            have r0 := later_cell q0
            have r1 := later_cell q1
            have r2 := later_cell q2
            have r3 := later_cell q3
            have HeL : Hid (∀ x : Later w1, Env x.1) := fun x => (He.out.keep hb1).keep x.2
            clear c0 c1 c2 c3 q0 q1 q2 q3
            refine wp_region_later (by kernel_rfl) (by kernel_rfl) ?_
            repeat (go_big_quiet_step ((go_at_call 26; exact later_of (order_any k1 k2 a1 a2 d1 d2 t1 t2 _ (HeL.out _) Hs1.out Hs2.out))))
            refine wpQuiet_nil ?_
            intro _ hw'
            obtain ⟨y, hw''⟩ := hw'
            subst hw''
            have hB2 := chain0 hb1 y.2
            clear l0 l1 l2 l3 r0 r1 r2 r3 HeL
            generalize oV ⟨k1, a1, t1, d1⟩ ⟨k2, a2, t2, d2⟩ = ov at *
            generalize oE ⟨k1, a1, t1, d1⟩ ⟨k2, a2, t2, d2⟩ = oe at *
            go_wp2
            go_ret2
            exact ⟨by rw [HT.out]; rfl, hB2⟩
  · have HT : Hid (lessV A B = (false, 2)) := by show _ = _; unfold lessV; rw [if_neg (by rw [hq]; decide)]
    rw [hq] at Hr
    clear hq hn hm
    go_enter Tryz.func13, Tryz.ntmps13
    go_wp2_with fail
    refine Hr.out.mono ?_
    rintro e w1 ⟨rfl, hb1⟩
    go_wp2
    go_ret2
    exact ⟨by rw [HT.out]; rfl, hb1⟩
end Go.Proofs.YtnhjphjdncaimaaGreatDoor
