/- value.Truth, value.String at any rows of items. -/
import Derived.Test.YtmnmnnocgimcpaaGreatDoorTn
import Derived.Test.YtmnmnnocgimcpaaGreatDoorWj
namespace Go.Proofs.YtmnmnnocgimcpaaGreatDoor
open Go.RowKit
theorem right1_any (p : Option Addr) (n c : Nat) (l : List It) (w : World) (ht8 : Tabs8 w) (ha : OkA w ⟨p, l, c⟩) (hn : n = l.length) :
    Calls Tryz.prog 26 #[.slice (some ⟨w.heap.size, 0, none⟩) 1 1] (w.alloc (.cells #[.slice p n c] 25)) fun e w' => e = .returned (.bool (l.all okI)) ∧ Below w.heap.size w w' := by
  subst hn
  have hb0 : Below w.heap.size w (w.alloc (.cells #[.slice p l.length c] 25)) := (Below.refl _ _).alloc (Nat.le_refl _) _
  have hrd : Rd (w.alloc (.cells #[.slice p l.length c] 25)) (some ⟨w.heap.size, 0, none⟩) (([⟨p, l, c⟩] : List Lst).map Lst.v) := Rd.new w 25 [.slice p l.length c]
  refine (right_any (some ⟨w.heap.size, 0, none⟩) 1 1 [⟨p, l, c⟩] _ (ht8.keep hb0) rfl (by decide) hrd ?_).mono ?_
  · intro x hx
    rw [List.mem_singleton] at hx
    subst hx
    exact ⟨ha.1.keep hb0, ha.2⟩
  · rintro e w' ⟨rfl, hb⟩
    refine ⟨by simp [rightL], chain0 hb0 hb⟩
/-- is a row true? -/
def truthV (l : List It) : Bool × Int :=
  if l.all okI = true then
    match l with
    | [] => (false, 0)
    | x :: r => if x.kind = 1 then (true, 0) else if r = [] then (decide (x.num ≠ 0) || decide (x.text.toList ≠ []), 0) else (false, 250)
  else (false, 2)
theorem at0 {w : World} {p : Option Addr} {x : It} {r : List It} (h : RdI w p (x :: r)) :
    ∃ b off, p = some ⟨b, off, none⟩ ∧ w.cell? ⟨b, off, none⟩ = some (.int .u8 x.kind) ∧ w.cell? ⟨b, off + 1, none⟩ = some (.int .i64 x.num) ∧ w.cell? ⟨b, off + 2, none⟩ = some (.string x.text) ∧ w.cell? ⟨b, off + 3, none⟩ = some (.int .i64 x.node) := by
  obtain ⟨b, off, h1, h2, h3, h4, h5⟩ := h.at 0 x rfl
  exact ⟨b, off, h1, by simpa using h2, by simpa using h3, by simpa using h4, by simpa using h5⟩
theorem ix_at0 (b off n c : Nat) (h : 0 < n) (W : World) : (Instr.indexAt 25 (.slice (some ⟨b, off, none⟩) n c) (.int .i64 0)).run Tryz.prog W = .ok (.pointer (some ⟨b, off, none⟩)) W := by
  have := ix_item b off n c 0 h W
  simpa using this
set_option maxRecDepth 100000 in
set_option maxHeartbeats 4000000 in
theorem truth_any (p : Option Addr) (n c : Nat) (l : List It) (w : World) (he : Env w) (ha : OkA w ⟨p, l, c⟩) (hn : n = l.length) :
    Calls Tryz.prog 23 #[.slice p n c] w fun e w' => e = .returned (.tuple #[.bool (truthV l).1, .int .i64 (truthV l).2]) ∧ Below w.heap.size w w' := by
  have Hr := hide (right1_any p n c l w he.t8 ha hn)
  have Ha := hide ha
  have hnl : n < 9223372036854775807 := by rw [hn]; exact ha.2.2
  clear ha he
  rcases Bool.eq_false_or_eq_true (l.all okI) with hq | hq
  · match l with
    | [] =>
      have HT : Hid (truthV [] = (false, 0)) := by show _ = _; rfl
      have hn0 : n = 0 := hn
      subst hn0
      rw [hq] at Hr
      clear hn hq
      go_enter Tryz.func23, Tryz.ntmps23
      go_wp2_with fail
      refine Hr.out.mono ?_
      rintro e w1 ⟨rfl, hb1⟩
      go_wp2
      go_ret2
      exact ⟨by rw [HT.out]; rfl, hb1⟩
    | x :: r =>
      obtain ⟨m, hm⟩ : ∃ m, m = r.length := ⟨_, rfl⟩
      have hn1 : n = m + 1 := by rw [hn, List.length_cons, hm]
      rw [hq] at Hr
      obtain ⟨b, off, hp, _⟩ := at0 Ha.out.1
      dsimp only at hp
      subst hp
      have hix := ix_at0 b off n c (by omega)
      by_cases k1 : x.kind = 1
      · have HT : Hid (truthV (x :: r) = (true, 0)) := by show _ = _; unfold truthV; rw [if_pos hq]; exact if_pos k1
        clear hn hm
        obtain ⟨xk, xa, xt, xd⟩ := x
        have k1 : xk = 1 := k1
        subst k1
        clear hq
        subst hn1
        go_enter Tryz.func23, Tryz.ntmps23
        go_wp2_with fail
        refine Hr.out.mono ?_
        rintro e w1 ⟨rfl, hb1⟩
        obtain ⟨b2, off2, e2, c0, c1, c2, c3⟩ := at0 (Ha.out.1.keep hb1)
        injection e2 with e2
        injection e2 with e2 e3
        subst e2 e3
        dsimp only at c0 c1 c2 c3
        go_wp2
        go_ret2
        exact ⟨by rw [HT.out]; rfl, hb1⟩
      · have k1i : ((x.kind : Int) == 1) = false := by simpa using (show (x.kind : Int) ≠ 1 by omega)
        by_cases hr0 : r = []
        · subst hr0
          have hm0 : m = 0 := hm
          subst hm0
          have hn2 : n = 1 := hn1
          subst hn2
          have HT : Hid (truthV [x] = (decide (x.num ≠ 0) || decide (x.text.toList ≠ []), 0)) := by show _ = _; unfold truthV; rw [if_pos hq]; simp only; rw [if_neg k1, if_pos trivial]
          clear hn hm hn1 hq k1
          obtain ⟨xk, xa, xt, xd⟩ := x
          dsimp only at k1i HT
          by_cases hz : xa = 0
          · have hz1 : (xa != 0) = false := by simpa using hz
            have HT2 : Hid (truthV [⟨xk, xa, xt, xd⟩] = (decide (xt.toList ≠ []), 0)) := by show _ = _; rw [HT.out]; simp [hz]
            clear hz HT
            go_enter Tryz.func23, Tryz.ntmps23
            go_wp2_with fail
            refine Hr.out.mono ?_
            rintro e w1 ⟨rfl, hb1⟩
            obtain ⟨b2, off2, e2, c0, c1, c2, c3⟩ := at0 (Ha.out.1.keep hb1)
            injection e2 with e2
            injection e2 with e2 e3
            subst e2 e3
            dsimp only at c0 c1 c2 c3
            go_wp2
            go_ret2
            exact ⟨by rw [HT2.out]; simp; cases xt.toList <;> rfl, hb1⟩
          · have hz1 : (xa != 0) = true := by simpa using hz
            have HT2 : Hid (truthV [⟨xk, xa, xt, xd⟩] = (true, 0)) := by show _ = _; rw [HT.out]; simp [hz]
            clear hz HT
            go_enter Tryz.func23, Tryz.ntmps23
            go_wp2_with fail
            refine Hr.out.mono ?_
            rintro e w1 ⟨rfl, hb1⟩
            obtain ⟨b2, off2, e2, c0, c1, c2, c3⟩ := at0 (Ha.out.1.keep hb1)
            injection e2 with e2
            injection e2 with e2 e3
            subst e2 e3
            dsimp only at c0 c1 c2 c3
            go_wp2
            go_ret2
            exact ⟨by rw [HT2.out]; rfl, hb1⟩
        · have HT : Hid (truthV (x :: r) = (false, 250)) := by show _ = _; unfold truthV; rw [if_pos hq]; simp only; rw [if_neg k1, if_neg hr0]
          have hm1 : (1 : Int) < (n : Int) := by
            have : r.length ≠ 0 := fun h => hr0 (List.length_eq_zero_iff.1 h)
            omega
          have hn3 : ((n : Int) == 0) = false := by simpa using (show (n : Int) ≠ 0 by omega)
          clear hn hm hq k1 hn1
          obtain ⟨xk, xa, xt, xd⟩ := x
          dsimp only at k1i
          go_enter Tryz.func23, Tryz.ntmps23
          go_wp2_with fail
          refine Hr.out.mono ?_
          rintro e w1 ⟨rfl, hb1⟩
          obtain ⟨b2, off2, e2, c0, c1, c2, c3⟩ := at0 (Ha.out.1.keep hb1)
          injection e2 with e2
          injection e2 with e2 e3
          subst e2 e3
          dsimp only at c0 c1 c2 c3
          go_wp2
          go_ret2
          exact ⟨by rw [HT.out]; rfl, hb1⟩
  · have HT : Hid (truthV l = (false, 2)) := by show _ = _; unfold truthV; rw [if_neg (by rw [hq]; decide)]
    rw [hq] at Hr
    clear hq hn
    go_enter Tryz.func23, Tryz.ntmps23
    go_wp2_with fail
    refine Hr.out.mono ?_
    rintro e w1 ⟨rfl, hb1⟩
    go_wp2
    go_ret2
    exact ⟨by rw [HT.out]; rfl, hb1⟩
/-- a text of an item; of a row -/
def bT : ByteArray := ⟨#[116, 114, 117, 101]⟩
def bF : ByteArray := ⟨#[102, 97, 108, 115, 101]⟩
def txt (x : It) : ByteArray := if x.kind = 2 then ⟨(Lib.itoa x.num).toArray⟩ else if x.kind = 4 then (if x.num = 1 then bT else bF) else x.text
def strV (l : List It) : ByteArray × Int :=
  if l.all okI = true then
    match l with
    | [] => (⟨#[]⟩, 0)
    | x :: r => if r = [] then (txt x, 0) else (⟨#[]⟩, 253)
  else (⟨#[]⟩, 2)
set_option maxRecDepth 100000 in
set_option maxHeartbeats 1000000 in
theorem text_any (k : Nat) (n d : Int) (s : ByteArray) (w : World) (he : Env w) (hR : R64 n) : Calls Tryz.prog 70 #[.agg #[.int .u8 k, .int .i64 n, .string s, .int .i64 d]] w fun e w' => e = .returned (.string (txt ⟨k, n, s, d⟩)) ∧ Below w.heap.size w w' := by
  have hz := (Below.refl w.heap.size w).alloc (Nat.le_refl _) (.cells #[.int .u8 k, .int .i64 n, .string s, .int .i64 d] 37)
  have He := hide (he.keep hz)
  have HR := hide hR
  clear he hR
  by_cases k2 : k = 2
  · subst k2
    have HT : Hid (txt ⟨2, n, s, d⟩ = ⟨(Lib.itoa n).toArray⟩) := by show _ = _; rfl
    go_enter Tryz.func70, Tryz.ntmps70
    go_wp2_with fail
    refine (Tryz.strconv_FormatInt_10 n HR.out.1 HR.out.2 _ He.out.pow).mono ?_
    rintro e w2 ⟨rfl, k2, os2, hw2⟩
    have hb2 : Below w.heap.size w w2 := by rw [hw2]; exact chain0 hz (Lib.below_grow _ _ (Nat.le_refl _) _ _)
    clear hw2
    go_wp2
    go_ret
    exact ⟨by rw [HT.out]; rfl, hb2⟩
  · have k2i : ((k : Int) == 2) = false := by simpa using (show (k : Int) ≠ 2 by omega)
    by_cases k4 : k = 4
    · subst k4
      clear k2 k2i
      by_cases h1 : n = 1
      · subst h1
        have HT : Hid (txt ⟨4, 1, s, d⟩ = bT) := by show _ = _; rfl
        go_enter Tryz.func70, Tryz.ntmps70
        go_wp2
        go_ret
        exact ⟨by rw [HT.out]; rfl, hz⟩
      · have h1f : (n == 1) = false := by simpa using h1
        have HT : Hid (txt ⟨4, n, s, d⟩ = bF) := by show _ = _; unfold txt; rw [if_neg (show ¬ (4 = 2) by decide), if_pos rfl, if_neg h1]
        clear h1
        go_enter Tryz.func70, Tryz.ntmps70
        go_wp2
        go_ret
        exact ⟨by rw [HT.out]; rfl, hz⟩
    · have k4i : ((k : Int) == 4) = false := by simpa using (show (k : Int) ≠ 4 by omega)
      have HT : Hid (txt ⟨k, n, s, d⟩ = s) := by show _ = _; unfold txt; rw [if_neg k2, if_neg k4]
      clear k2 k4
      go_enter Tryz.func70, Tryz.ntmps70
      go_wp2
      go_ret
      exact ⟨by rw [HT.out]; rfl, hz⟩
set_option maxRecDepth 100000 in
set_option maxHeartbeats 4000000 in
theorem string_any (p : Option Addr) (n c : Nat) (l : List It) (w : World) (he : Env w) (ha : OkA w ⟨p, l, c⟩) (hR : ∀ y ∈ l, R64 y.num) (hn : n = l.length) :
    Calls Tryz.prog 30 #[.slice p n c] w fun e w' => e = .returned (.tuple #[.string (strV l).1, .int .i64 (strV l).2]) ∧ Below w.heap.size w w' := by
  have Hr := hide (right1_any p n c l w he.t8 ha hn)
  have Ha := hide ha
  have He := hide he
  have hnl : n < 9223372036854775807 := by rw [hn]; exact ha.2.2
  clear ha he
  rcases Bool.eq_false_or_eq_true (l.all okI) with hq | hq
  · match l with
    | [] =>
      have HT : Hid (strV [] = (⟨#[]⟩, 0)) := by show _ = _; rfl
      have hn0 : n = 0 := hn
      subst hn0
      rw [hq] at Hr
      clear hn hq
      go_enter Tryz.func30, Tryz.ntmps30
      go_wp2_with fail
      refine Hr.out.mono ?_
      rintro e w1 ⟨rfl, hb1⟩
      go_wp2
      go_ret2
      exact ⟨by rw [HT.out]; rfl, hb1⟩
    | x :: r =>
      have HR := hide (hR x (by simp))
      clear hR
      obtain ⟨m, hm⟩ : ∃ m, m = r.length := ⟨_, rfl⟩
      have hn1 : n = m + 1 := by rw [hn, List.length_cons, hm]
      rw [hq] at Hr
      obtain ⟨b, off, hp, _⟩ := at0 Ha.out.1
      dsimp only at hp
      subst hp
      have hix := ix_at0 b off n c (by omega)
      by_cases hr0 : r = []
      · subst hr0
        have hm0 : m = 0 := hm
        subst hm0
        have hn2 : n = 1 := hn1
        subst hn2
        have HT : Hid (strV [x] = (txt x, 0)) := by show _ = _; unfold strV; rw [if_pos hq]; simp only; rw [if_pos trivial]
        clear hn hm hn1 hq
        obtain ⟨xk, xa, xt, xd⟩ := x
        go_enter Tryz.func30, Tryz.ntmps30
        go_wp2_with fail
        refine Hr.out.mono ?_
        rintro e w1 ⟨rfl, hb1⟩
        obtain ⟨b2, off2, e2, c0, c1, c2, c3⟩ := at0 (Ha.out.1.keep hb1)
        injection e2 with e2
        injection e2 with e2 e3
        subst e2 e3
        dsimp only at c0 c1 c2 c3
        go_wp2_with fail
        refine (text_any xk xa xd xt _ (He.out.keep hb1) HR.out).mono ?_
        rintro e w2 ⟨rfl, hb2⟩
        have hB2 := chain0 hb1 hb2
        clear hb2 c0 c1 c2 c3
        generalize txt ⟨xk, xa, xt, xd⟩ = tx at *
        go_wp2
        go_ret2
        exact ⟨by rw [HT.out]; rfl, hB2⟩
      · have HT : Hid (strV (x :: r) = (⟨#[]⟩, 253)) := by show _ = _; unfold strV; rw [if_pos hq]; simp only; rw [if_neg hr0]
        have hm1 : (1 : Int) < (n : Int) := by
          have : r.length ≠ 0 := fun h => hr0 (List.length_eq_zero_iff.1 h)
          omega
        clear hn hm hq hn1
        go_enter Tryz.func30, Tryz.ntmps30
        go_wp2_with fail
        refine Hr.out.mono ?_
        rintro e w1 ⟨rfl, hb1⟩
        go_wp2
        go_ret2
        exact ⟨by rw [HT.out]; rfl, hb1⟩
  · have HT : Hid (strV l = (⟨#[]⟩, 2)) := by show _ = _; unfold strV; rw [if_neg (by rw [hq]; decide)]
    rw [hq] at Hr
    clear hq hn hR
    go_enter Tryz.func30, Tryz.ntmps30
    go_wp2_with fail
    refine Hr.out.mono ?_
    rintro e w1 ⟨rfl, hb1⟩
    go_wp2
    go_ret2
    exact ⟨by rw [HT.out]; rfl, hb1⟩
end Go.Proofs.YtmnmnnocgimcpaaGreatDoor
