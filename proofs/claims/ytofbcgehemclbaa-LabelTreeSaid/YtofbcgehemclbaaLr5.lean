/- The reference of layer 3: shortest. -/
import Derived.Test.YtofbcgehemclbaaLr4
import Derived.Test.YtofbcgehemclbaaLs
namespace Go.Proofs.Ytofbcgehemclbaa
open Go.RowKit Bm Lib
theorem cand_zero (l : List Bool) : cand l 0 = [true] := rfl
theorem getD_tail (l : List Bool) (j : Nat) : l.getD (j + 1) false = l.tail.getD j false := by cases l <;> rfl
theorem getD_head (l : List Bool) : l.getD 0 false = l.headD false := by cases l <;> rfl
theorem cand_succ (l : List Bool) (j : Nat) : cand l (j + 1) = l.headD false :: cand l.tail j := by
  unfold cand padT
  rw [List.range_succ_eq_map, List.map_cons, List.map_map, getD_head, List.cons_append]
  congr 1
  congr 1
  apply List.map_congr_left
  intro a _
  exact getD_tail l a
theorem shO_cand : ∀ low : List Bool, ∃ j, shO low = cand low j ∧ low.getD j false = false ∧ ∀ i, i < j → low.getD i false = true
  | [] => ⟨0, rfl, rfl, fun i h => absurd h (by omega)⟩
  | false :: r => ⟨0, rfl, rfl, fun i h => absurd h (by omega)⟩
  | true :: r => by
    obtain ⟨j, h1, h2, h3⟩ := shO_cand r
    refine ⟨j + 1, ?_, h2, ?_⟩
    · rw [shO, cand_succ, h1]; rfl
    · intro i hi
      cases i with
      | zero => rfl
      | succ i => exact h3 i (by omega)
theorem lex_cons_same (a : Bool) (l m : List Bool) : lexB (a :: l) (a :: m) = lexB l m := by simp [lexB]
theorem shB_cand : ∀ (high low : List Bool), lexB low high = -1 → lastOne high = true →
    ∃ j, shB low high = cand low j ∧ low.getD j false = false ∧ ∀ i, i < j → low.getD i false = false → lexB (cand low i) high ≠ -1
  | [], _, _, h => by cases h
  | h :: hs, low, hl, ho => by
    by_cases hn : low.headD false = false ∧ h = true ∧ hs ≠ []
    · refine ⟨0, by rw [shB, if_pos hn]; rfl, by rw [getD_head]; exact hn.1, fun i h => absurd h (by omega)⟩
    · by_cases he : low.headD false = h
      · obtain ⟨s1, s2, s3, s4⟩ := sh_same hl ho he hn
        obtain ⟨j, h1, h2, h3⟩ := shB_cand hs low.tail s2 s3
        refine ⟨j + 1, by rw [s4, cand_succ, h1, he], by rw [getD_tail]; exact h2, ?_⟩
        intro i hi hb
        cases i with
        | zero =>
          rw [getD_head] at hb
          rw [cand_zero, ← he, hb]
          simp [lexB]
        | succ i =>
          rw [getD_tail] at hb
          rw [cand_succ, he, lex_cons_same]
          exact h3 i (by omega) hb
      · obtain ⟨h1, rfl, rfl, s4⟩ := sh_last hl he hn
        obtain ⟨j, k1, k2, k3⟩ := shO_cand low.tail
        refine ⟨j + 1, by rw [s4, cand_succ, k1, h1], by rw [getD_tail]; exact k2, ?_⟩
        intro i hi hb
        cases i with
        | zero => rw [cand_zero]; simp [lexB]
        | succ i =>
          rw [getD_tail, k3 i (by omega)] at hb
          cases hb
/-- the shortest step is the first of the rows that are asked -/
theorem short_cand {low high : List Bool} (h : Asked low high) :
    ∃ j, short low high = cand low j ∧ low.getD j false = false ∧ ∀ i, i < j → low.getD i false = false → high ≠ [] ∧ lexB (cand low i) high ≠ -1 := by
  unfold short
  rcases h with h | ⟨h1, h2⟩
  · rw [if_pos h]
    obtain ⟨j, k1, k2, k3⟩ := shO_cand low
    exact ⟨j, k1, k2, fun i hi hb => by rw [k3 i hi] at hb; cases hb⟩
  · rw [if_neg (lastOne_ne h2)]
    obtain ⟨j, k1, k2, k3⟩ := shB_cand high low h1 h2
    exact ⟨j, k1, k2, fun i hi hb => ⟨lastOne_ne h2, k3 i hi hb⟩⟩
theorem cand_above : ∀ (j : Nat) (l : List Bool), l.getD j false = false → lexB l (cand l j) = -1
  | 0, [], _ => rfl
  | 0, a :: r, h => by
    rw [getD_head] at h
    simp at h
    subst h
    rfl
  | j + 1, [], _ => by rw [cand_succ]; rfl
  | j + 1, a :: r, h => by
    rw [cand_succ]
    show lexB (a :: r) (a :: cand r j) = -1
    rw [lex_cons_same]
    exact cand_above j r h
theorem lex_or : ∀ (l m : List Bool), lexB l m = -1 ∨ 0 ≤ lexB l m
  | [], [] => by simp [lexB]
  | [], _ :: _ => by simp [lexB]
  | _ :: _, [] => by simp [lexB]
  | a :: l, b :: m => by
    rw [lexB]
    split
    · exact lex_or l m
    · split
      · right; omega
      · left; rfl
theorem txS_cand_last (l : List Bool) (j : Nat) (Y : ByteArray) (hY : Y = txS (cand l j)) : Y.size = j + 1 ∧ ∀ h : j < Y.size, ((Y[j]'h).toNat : Int) = 49 := by
  subst hY
  refine ⟨by rw [size_txS, length_cand], fun h => ?_⟩
  have e : (padT l j ++ [true]).getD j false = true := by
    rw [List.getD_eq_getElem?_getD, List.getElem?_append_right (by rw [length_padT]; exact Nat.le_refl _), length_padT, Nat.sub_self]; rfl
  rw [txS_get, cand, e]
  rfl
theorem txS_nonil (l : List Bool) (X : ByteArray) (hX : X = txS l) (h : l ≠ []) : ¬ X.toList = [] := by
  intro e
  have h2 := size_txS l
  rw [← hX] at h2
  rw [ByteArray.toList_eq] at e
  have h3 : X.size = 0 := by rw [ByteArray.size, ← Array.length_toList, e]; rfl
  exact h (List.length_eq_zero_iff.1 (by omega))
set_option maxRecDepth 100000 in
set_option maxHeartbeats 1000000 in
theorem rshortest_any (low high : List Bool) (X Z S : ByteArray) (w : World) (hl : low.length ≤ 1024) (hh : high.length ≤ 1024) (hX : X = txS low) (hZ : Z = txS high) (hask : Asked low high) (hS : S = txS (short low high)) :
    Calls Try.prog 44 #[.string X, .string Z] w fun e w' => e = .returned (.string S) ∧ Below w.heap.size w w' := by
  obtain ⟨j, hj, hbit, hleast⟩ := short_cand hask
  have hjl : j ≤ 1025 := by have := short_len hask; rw [hj, length_cand] at this; omega
  have hhi : high ≠ [] → lexB (cand low j) high = -1 := fun h0 => by rw [← hj]; exact short_high hask h0
  rw [hj] at hS
  have HX := hide hX
  have HZ := hide hZ
  have HS := hide hS
  have Hbit := hide hbit
  have Hleast := hide hleast
  have Hhi := hide hhi
  clear hX hZ hS hbit hleast hask hj hhi
  go_enter Try.func44, Try.ntmps44
  go_wp2_with fail
  go_loopw [5] (fun x W => ∃ i : Nat, i ≤ j ∧ x = .int .i64 ((i : Int) + 1) ∧ Below w.heap.size w W) (fun x _ => j + 1 - (intOf x).toNat)
  case atStart => exact ⟨0, Nat.zero_le _, rfl, Below.refl _ _⟩
  case round =>
    obtain ⟨i, hi, rfl, hB⟩ := hrel
    by_cases hb : low.getD i false = true
    · have Hb := hide hb
      clear hb
      go_wp2_with fail
      refine (more_no low X i _ (by omega) (by omega) HX.out Hb.out).mono ?_
      have hlt : i < j := by
        rcases Nat.lt_or_ge i j with h | h
        · exact h
        · have e : i = j := by omega
          subst e
          have h1 := Hb.out
          rw [Hbit.out] at h1; cases h1
      rintro e w1 ⟨rfl | ⟨Y, hYs, hYg, rfl⟩, hb1⟩
      · have hB1 := chain0 hB hb1
        clear hB hb1
        go_wp2
        all_goals
          go_roundw
          case rel => exact ⟨i + 1, by omega, by go_num, hB1⟩
          case measure => simp [intOf]; omega
      · have hB1 := chain0 hB hb1
        clear hB hb1
        go_wp2
        all_goals
          go_roundw
          case rel => exact ⟨i + 1, by omega, by go_num, hB1⟩
          case measure => simp [intOf]; omega
    · have hb0 : low.getD i false = false := by simpa using hb
      obtain ⟨Y, hY⟩ : ∃ Y, Y = txS (cand low i) := ⟨_, rfl⟩
      obtain ⟨hYs, hYg⟩ := txS_cand_last low i Y hY
      have hab := cand_above i low hb0
      have hcl := length_cand low i
      have Hcl := hide hcl
      have HY := hide hY
      have Hb := hide hb0
      have Hab := hide hab
      clear hb hb0 hY hab hcl
      by_cases h0 : high = []
      · have hij : i = j := by
          rcases Nat.lt_or_ge i j with h | h
          · exact absurd h0 (Hleast.out i h Hb.out).1
          · omega
        have hZ0 : Z = ⟨#[]⟩ := by rw [HZ.out, h0]; rfl
        subst hij hZ0
        have hSY : S = Y := by rw [HS.out, HY.out]
        subst hSY
        go_wp2_with fail
        refine (more_yes low X S i _ (by omega) (by omega) HX.out HY.out Hb.out).mono ?_
        rintro e w1 ⟨rfl, hb1⟩
        have hB1 := chain0 hB hb1
        clear hB hb1
        go_wp2_with fail
        refine (rlessL low (cand low i) X S true _ (by omega) (by have := Hcl.out; omega) HX.out HY.out (by rw [Hab.out]; rfl)).mono ?_
        rintro e w2 ⟨rfl, hb2⟩
        have hB2 := chain0 hB1 hb2
        clear hB1 hb2
        go_wp2
        go_ret
        exact ⟨rfl, hB2⟩
      · have hZ0 : ¬ Z.toList = [] := txS_nonil high Z HZ.out h0
        have hZe : Z.toList.isEmpty = false := by cases h : Z.toList with | nil => exact absurd h hZ0 | cons a r => rfl
        have H0 := hide h0
        clear h0
        by_cases hij : i = j
        · subst hij
          have hSY : Y = S := by rw [HS.out, HY.out]
          subst hSY
          have hlt : true = decide (lexB (cand low i) high < 0) := by rw [Hhi.out H0.out]; rfl
          have Hlt := hide hlt
          clear hlt
          go_wp2_with fail
          refine (more_yes low X Y i _ (by omega) (by omega) HX.out HY.out Hb.out).mono ?_
          rintro e w1 ⟨rfl, hb1⟩
          have hB1 := chain0 hB hb1
          clear hB hb1
          go_wp2_with fail
          refine (rlessL low (cand low i) X Y true _ (by omega) (by have := Hcl.out; omega) HX.out HY.out (by rw [Hab.out]; rfl)).mono ?_
          rintro e w2 ⟨rfl, hb2⟩
          have hB2 := chain0 hB1 hb2
          clear hB1 hb2
          go_wp2_with fail
          refine (rlessL (cand low i) high Y Z true _ (by have := Hcl.out; omega) (by omega) HY.out HZ.out Hlt.out).mono ?_
          rintro e w3 ⟨rfl, hb3⟩
          have hB3 := chain0 hB2 hb3
          clear hB2 hb3
          go_wp2
          go_ret
          exact ⟨rfl, hB3⟩
        · have hlt : false = decide (lexB (cand low i) high < 0) := by
            have h1 := (Hleast.out i (by omega) Hb.out).2
            rcases lex_or (cand low i) high with h | h
            · exact absurd h h1
            · symm; rw [decide_eq_false_iff_not]; omega
          have Hlt := hide hlt
          clear hlt
          go_wp2_with fail
          refine (more_yes low X Y i _ (by omega) (by omega) HX.out HY.out Hb.out).mono ?_
          rintro e w1 ⟨rfl, hb1⟩
          have hB1 := chain0 hB hb1
          clear hB hb1
          go_wp2_with fail
          refine (rlessL low (cand low i) X Y true _ (by omega) (by have := Hcl.out; omega) HX.out HY.out (by rw [Hab.out]; rfl)).mono ?_
          rintro e w2 ⟨rfl, hb2⟩
          have hB2 := chain0 hB1 hb2
          clear hB1 hb2
          go_wp2_with fail
          refine (rlessL (cand low i) high Y Z false _ (by have := Hcl.out; omega) (by omega) HY.out HZ.out Hlt.out).mono ?_
          rintro e w3 ⟨rfl, hb3⟩
          have hB3 := chain0 hB2 hb3
          clear hB2 hb3
          go_wp2
          all_goals
            go_roundw
            case rel => exact ⟨i + 1, by omega, by go_num, hB3⟩
            case measure => simp [intOf]; omega
end Go.Proofs.Ytofbcgehemclbaa

