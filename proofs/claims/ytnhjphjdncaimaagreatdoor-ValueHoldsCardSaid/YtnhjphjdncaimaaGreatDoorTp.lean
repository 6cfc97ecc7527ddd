/- Plain laws of how items stand; the six signs; one item held against one. -/
import Derived.Test.YtnhjphjdncaimaaGreatDoorTc
namespace Go.Proofs.YtnhjphjdncaimaaGreatDoor
open Go.RowKit
theorem bl_asym : ∀ x y : List UInt8, Op.bytesLess x y = true → Op.bytesLess y x = false
  | _, [], h => by simp [Op.bytesLess] at h
  | [], _ :: _, _ => by simp [Op.bytesLess]
  | a :: x, b :: y, h => by
    simp only [Op.bytesLess, Bool.or_eq_true, Bool.and_eq_true, decide_eq_true_eq, beq_iff_eq] at h
    simp only [Op.bytesLess, Bool.or_eq_false_iff, Bool.and_eq_false_iff, decide_eq_false_iff_not, beq_eq_false_iff_ne]
    rcases h with h | ⟨rfl, h⟩
    · refine ⟨fun h2 => ?_, .inl fun h2 => ?_⟩
      · rw [UInt8.lt_iff_toNat_lt] at h h2; omega
      · subst h2; rw [UInt8.lt_iff_toNat_lt] at h; omega
    · refine ⟨fun h2 => ?_, .inr (bl_asym x y h)⟩
      rw [UInt8.lt_iff_toNat_lt] at h2; omega
theorem bl_self : ∀ x : List UInt8, Op.bytesLess x x = false
  | [] => by simp [Op.bytesLess]
  | a :: x => by
    simp only [Op.bytesLess, Bool.or_eq_false_iff, Bool.and_eq_false_iff, decide_eq_false_iff_not]
    refine ⟨fun h2 => ?_, .inr (bl_self x)⟩
    rw [UInt8.lt_iff_toNat_lt] at h2; omega
theorem bl_total : ∀ x y : List UInt8, Op.bytesLess x y = false → x ≠ y → Op.bytesLess y x = true
  | [], [], _, h => absurd rfl h
  | _ :: _, [], _, _ => by simp [Op.bytesLess]
  | [], _ :: _, h, _ => by simp [Op.bytesLess] at h
  | a :: x, b :: y, h, hne => by
    simp only [Op.bytesLess, Bool.or_eq_false_iff, Bool.and_eq_false_iff, decide_eq_false_iff_not, beq_eq_false_iff_ne] at h
    simp only [Op.bytesLess, Bool.or_eq_true, Bool.and_eq_true, decide_eq_true_eq, beq_iff_eq]
    obtain ⟨h1, h2⟩ := h
    rcases Nat.lt_trichotomy b.toNat a.toNat with c | c | c
    · exact .inl (by rwa [UInt8.lt_iff_toNat_lt])
    · have e : b = a := UInt8.toNat.inj c
      subst e
      refine .inr ⟨rfl, ?_⟩
      rcases h2 with h2 | h2
      · exact absurd rfl h2
      · exact bl_total x y h2 (fun e => hne (by rw [e]))
    · exact absurd (by rwa [UInt8.lt_iff_toNat_lt]) h1
theorem cmpT_neg (x y : ByteArray) : cmpT y x = -cmpT x y := by
  unfold cmpT
  cases h1 : Op.bytesLess x.toList y.toList with
  | true =>
    rw [bl_asym _ _ h1]
    have h2 : ¬ (y.toList == x.toList) = true := by
      intro h
      have e : y.toList = x.toList := by simpa using h
      rw [e, bl_self] at h1; cases h1
    simp [h2]
  | false =>
    by_cases h2 : x.toList = y.toList
    · rw [h2, bl_self]; simp
    · rw [bl_total _ _ h1 h2]
      simp [h2]
theorem cmpInt_neg (x y : Int) : cmpInt y x = -cmpInt x y := by
  unfold cmpInt
  split <;> split <;> first | omega | (split <;> omega) | rfl
theorem oE_symm (x y : It) : oE y x = oE x y := by
  unfold oE
  by_cases p : x.kind = 4 <;> by_cases q : y.kind = 4
  · simp [p, q]
  · simp [p, q]
  · simp [p, q]
  · simp only [p, q, decide_false, bne_self_eq_false, Bool.false_eq_true, if_false]
    by_cases h : x.kind ≠ 2 ∧ y.kind ≠ 2
    · rw [if_pos h, if_pos ⟨h.2, h.1⟩]
    · rw [if_neg h, if_neg (fun e => h ⟨e.2, e.1⟩)]
      by_cases n : nE x = 0 ∧ nE y = 0
      · rw [if_pos n, if_pos ⟨n.2, n.1⟩]
      · rw [if_neg n, if_neg (fun e => n ⟨e.2, e.1⟩)]
theorem oV_neg (x y : It) : oV y x = -oV x y := by
  unfold oV
  by_cases p : x.kind = 4 <;> by_cases q : y.kind = 4
  · simp only [p, q, decide_true, bne_self_eq_false, Bool.false_eq_true, if_false, if_true]
    exact cmpInt_neg _ _
  · simp [p, q]
  · simp [p, q]
  · simp only [p, q, decide_false, bne_self_eq_false, Bool.false_eq_true, if_false]
    by_cases h : x.kind ≠ 2 ∧ y.kind ≠ 2
    · rw [if_pos h, if_pos ⟨h.2, h.1⟩]; exact cmpT_neg _ _
    · rw [if_neg h, if_neg (fun e => h ⟨e.2, e.1⟩)]
      by_cases n : nE x = 0 ∧ nE y = 0
      · rw [if_pos n, if_pos ⟨n.2, n.1⟩]; exact cmpInt_neg _ _
      · rw [if_neg n, if_neg (fun e => n ⟨e.2, e.1⟩)]; rfl
set_option maxRecDepth 100000 in
set_option maxHeartbeats 1000000 in
theorem holds_ne (n : Int) (q : Bool) (w : World) (hq : (n != 0) = q) : Calls Tryz.prog 24 #[.string ⟨#[33, 61]⟩, .int .i64 n] w fun e w' => e = .returned (.tuple #[.bool q, .bool true]) ∧ w = w' := by
  go_enter Tryz.func24, Tryz.ntmps24
  go_wp2
  go_ret2
  exact ⟨rfl, rfl⟩
set_option maxRecDepth 100000 in
set_option maxHeartbeats 1000000 in
theorem holds_le (n : Int) (q : Bool) (w : World) (hq : (decide (n ≤ 0)) = q) : Calls Tryz.prog 24 #[.string ⟨#[60, 61]⟩, .int .i64 n] w fun e w' => e = .returned (.tuple #[.bool q, .bool true]) ∧ w = w' := by
  go_enter Tryz.func24, Tryz.ntmps24
  go_wp2
  go_ret2
  exact ⟨rfl, rfl⟩
set_option maxRecDepth 100000 in
set_option maxHeartbeats 1000000 in
theorem holds_gt (n : Int) (q : Bool) (w : World) (hq : (decide (0 < n)) = q) : Calls Tryz.prog 24 #[.string ⟨#[62]⟩, .int .i64 n] w fun e w' => e = .returned (.tuple #[.bool q, .bool true]) ∧ w = w' := by
  go_enter Tryz.func24, Tryz.ntmps24
  go_wp2
  go_ret2
  exact ⟨rfl, rfl⟩
set_option maxRecDepth 100000 in
set_option maxHeartbeats 1000000 in
theorem holds_ge (n : Int) (q : Bool) (w : World) (hq : (decide (0 ≤ n)) = q) : Calls Tryz.prog 24 #[.string ⟨#[62, 61]⟩, .int .i64 n] w fun e w' => e = .returned (.tuple #[.bool q, .bool true]) ∧ w = w' := by
  go_enter Tryz.func24, Tryz.ntmps24
  go_wp2
  go_ret2
  exact ⟨rfl, rfl⟩
theorem sEq : Sign ⟨#[61]⟩ (fun n => n == 0) := fun n w => holds_eq n _ w rfl
theorem sLt : Sign ⟨#[60]⟩ (fun n => decide (n < 0)) := fun n w => holds_lt n _ w rfl
theorem sNe : Sign ⟨#[33, 61]⟩ (fun n => n != 0) := fun n w => holds_ne n _ w rfl
theorem sLe : Sign ⟨#[60, 61]⟩ (fun n => decide (n ≤ 0)) := fun n w => holds_le n _ w rfl
theorem sGt : Sign ⟨#[62]⟩ (fun n => decide (0 < n)) := fun n w => holds_gt n _ w rfl
theorem sGe : Sign ⟨#[62, 61]⟩ (fun n => decide (0 ≤ n)) := fun n w => holds_ge n _ w rfl
/-- one item against one -/
theorem cmp_one (hf : Int → Bool) (pa pb : Option Addr) (ca cb : Nat) (x y : It) (hx : okI x = true) (hy : okI y = true) :
    cmpA hf ⟨pa, [x], ca⟩ ⟨pb, [y], cb⟩ = (if oE x y = 0 then (hf (oV x y), 0) else (false, oE x y)) := by
  unfold cmpA
  rw [if_pos (by simp [rightL, hx, hy])]
  show cOut hf [y] [x] = _
  by_cases h : oE x y = 0
  · rw [if_pos h]
    cases h2 : hf (oV x y) with
    | true => exact cOut_some (cIn_yes h h2)
    | false => rw [cOut_none (by rw [cIn_no h h2]; rfl)]; rfl
  · rw [if_neg h]; exact cOut_some (cIn_bad h)
/-- where nothing is refused a sign holds of two rows if it does of two of their items -/
theorem cOut_all (hf : Int → Bool) (b : List It) : ∀ a : List It, (a.all fun x => b.all fun y => decide (oE x y = 0)) = true → cOut hf b a = (a.any fun x => b.any fun y => hf (oV x y), 0)
  | [], _ => rfl
  | x :: r, h => by
    rw [List.all_cons, Bool.and_eq_true] at h
    have ih := cOut_all hf b r h.2
    have hin : ∀ l : List It, (l.all fun y => decide (oE x y = 0)) = true → cIn hf x l = (if (l.any fun y => hf (oV x y)) = true then some (true, 0) else none) := by
      intro l
      induction l with
      | nil => intro _; rfl
      | cons y l ihl =>
        intro hl
        rw [List.all_cons, Bool.and_eq_true, decide_eq_true_eq] at hl
        rw [List.any_cons]
        cases h2 : hf (oV x y) with
        | true => rw [cIn_yes hl.1 h2]; rfl
        | false => rw [cIn_no hl.1 h2, ihl hl.2]; rfl
    have h1 := hin b h.1
    rw [List.any_cons]
    cases h2 : (b.any fun y => hf (oV x y)) with
    | true => rw [h2] at h1; rw [cOut_some h1]; rfl
    | false => rw [h2] at h1; rw [cOut_none h1, ih]; rfl
end Go.Proofs.YtnhjphjdncaimaaGreatDoor
