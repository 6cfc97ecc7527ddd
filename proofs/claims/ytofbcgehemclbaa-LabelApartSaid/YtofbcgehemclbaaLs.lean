/- Plain facts: the shortest step between two. -/
import Derived.Test.YtofbcgehemclbaaLm
namespace Go.Proofs.Ytofbcgehemclbaa.Bm
def shO : List Bool → List Bool
  | true :: r => true :: shO r
  | _ => [true]
def shB : List Bool → List Bool → List Bool
  | _, [] => []
  | low, h :: hs => if low.headD false = false ∧ h = true ∧ hs ≠ [] then [true] else if low.headD false = h then h :: shB low.tail hs else false :: shO low.tail
/-- the shortest step between two (either may be none) -/
def short (low high : List Bool) : List Bool := if high = [] then shO low else shB low high
theorem lastOne_cons {h : Bool} {hs : List Bool} (h1 : lastOne (h :: hs) = true) (h2 : hs ≠ []) : lastOne hs = true := by
  unfold lastOne at *
  rw [List.getLast?_cons] at h1
  cases hs with
  | nil => exact absurd rfl h2
  | cons x xs => simpa [List.getLast?_cons] using h1
theorem lex_nil_left {m : List Bool} (h : m ≠ []) : lexB [] m = -1 := by
  cases m with
  | nil => exact absurd rfl h
  | cons b bs => rfl
/-- while both go alike -/
theorem sh_same {low hs : List Bool} {h : Bool} (hl : lexB low (h :: hs) = -1) (ho : lastOne (h :: hs) = true) (he : low.headD false = h) (hn : ¬ (low.headD false = false ∧ h = true ∧ hs ≠ [])) :
    hs ≠ [] ∧ lexB low.tail hs = -1 ∧ lastOne hs = true ∧ shB low (h :: hs) = h :: shB low.tail hs := by
  have h0 : hs ≠ [] := by
    rintro rfl
    cases h with
    | false => cases ho
    | true =>
      cases low with
      | nil => cases he
      | cons a r =>
        simp at he
        subst he
        cases r <;> simp [lexB] at hl
  refine ⟨h0, ?_, lastOne_cons ho h0, ?_⟩
  · cases low with
    | nil => exact lex_nil_left h0
    | cons a r =>
      simp at he
      subst he
      simpa [lexB] using hl
  · rw [shB, if_neg hn, if_pos he]
theorem sh_first {low hs : List Bool} (he : low.headD false = false) (h0 : hs ≠ []) : shB low (true :: hs) = [true] := by
  rw [shB, if_pos ⟨he, rfl, h0⟩]
theorem sh_last {low hs : List Bool} {h : Bool} (hl : lexB low (h :: hs) = -1) (he : low.headD false ≠ h) (hn : ¬ (low.headD false = false ∧ h = true ∧ hs ≠ [])) :
    low.headD false = false ∧ h = true ∧ hs = [] ∧ shB low (h :: hs) = false :: shO low.tail := by
  have hb : low.headD false = false ∧ h = true := by
    cases low with
    | nil => cases h <;> simp_all
    | cons a r =>
      simp at he
      cases a <;> cases h <;> simp_all [lexB]
  refine ⟨hb.1, hb.2, ?_, ?_⟩
  · by_cases e : hs = []
    · exact e
    · exact absurd ⟨hb.1, hb.2, e⟩ hn
  · rw [shB, if_neg hn, if_neg he]
theorem shO_one {low : List Bool} (h : low.headD false = false) : shO low = [true] := by
  cases low with
  | nil => rfl
  | cons a r => simp at h; subst h; rfl
theorem shO_on {low : List Bool} (h : low.headD false = true) : shO low = true :: shO low.tail := by
  cases low with
  | nil => cases h
  | cons a r => simp at h; subst h; rfl
theorem drop_head (l : List Bool) (i : Nat) : (l.drop i).headD false = l.getD i false := by
  by_cases h : i < l.length
  · rw [drop_cons l i h]; rfl
  · rw [List.drop_eq_nil_of_le (by omega), getD_ge l i (by omega)]; rfl
theorem lastOne_cons' {h : Bool} {hs : List Bool} (h1 : lastOne hs = true) : lastOne (h :: hs) = true := by
  unfold lastOne at *
  rw [List.getLast?_cons]
  cases hs with
  | nil => cases h1
  | cons x xs => simpa [List.getLast?_cons] using h1
theorem shO_last : ∀ low, lastOne (shO low) = true
  | [] => rfl
  | false :: _ => rfl
  | true :: r => lastOne_cons' (shO_last r)
theorem shB_last : ∀ (high low : List Bool), lexB low high = -1 → lastOne high = true → lastOne (shB low high) = true
  | [], _, _, h => by cases h
  | h :: hs, low, hl, ho => by
    by_cases hn : low.headD false = false ∧ h = true ∧ hs ≠ []
    · rw [shB, if_pos hn]; rfl
    · by_cases he : low.headD false = h
      · obtain ⟨s1, s2, s3, s4⟩ := sh_same hl ho he hn
        rw [s4]
        exact lastOne_cons' (shB_last hs low.tail s2 s3)
      · rw [(sh_last hl he hn).2.2.2]
        exact lastOne_cons' (shO_last _)
theorem shO_len : ∀ low, (shO low).length ≤ low.length + 1
  | [] => by simp [shO]
  | false :: r => by simp [shO]
  | true :: r => by
    have := shO_len r
    simp only [shO, List.length_cons]; omega
theorem shB_len : ∀ (high low : List Bool), lexB low high = -1 → lastOne high = true → (shB low high).length ≤ max low.length high.length + 1
  | [], _, _, h => by cases h
  | h :: hs, low, hl, ho => by
    by_cases hn : low.headD false = false ∧ h = true ∧ hs ≠ []
    · rw [shB, if_pos hn]; simp
    · by_cases he : low.headD false = h
      · obtain ⟨s1, s2, s3, s4⟩ := sh_same hl ho he hn
        rw [s4]
        have := shB_len hs low.tail s2 s3
        have h2 : low.tail.length ≤ low.length - 1 := by rw [List.length_tail]; exact Nat.le_refl _
        simp only [List.length_cons] at *; omega
      · rw [(sh_last hl he hn).2.2.2]
        have := shO_len low.tail
        have h2 : low.tail.length ≤ low.length - 1 := by rw [List.length_tail]; exact Nat.le_refl _
        simp only [List.length_cons]; omega
theorem shO_above : ∀ low, lexB low (shO low) = -1
  | [] => rfl
  | false :: r => rfl
  | true :: r => by simpa [shO, lexB] using shO_above r
theorem shB_between : ∀ (high low : List Bool), lexB low high = -1 → lastOne high = true → lexB low (shB low high) = -1 ∧ lexB (shB low high) high = -1
  | [], _, _, h => by cases h
  | h :: hs, low, hl, ho => by
    by_cases hn : low.headD false = false ∧ h = true ∧ hs ≠ []
    · rw [shB, if_pos hn]
      obtain ⟨h1, rfl, h3⟩ := hn
      refine ⟨?_, by simpa [lexB] using lex_nil_left h3⟩
      cases low with
      | nil => rfl
      | cons a r => simp at h1; subst h1; simp [lexB]
    · by_cases he : low.headD false = h
      · obtain ⟨s1, s2, s3, s4⟩ := sh_same hl ho he hn
        rw [s4]
        obtain ⟨i1, i2⟩ := shB_between hs low.tail s2 s3
        refine ⟨?_, by simpa [lexB] using i2⟩
        cases low with
        | nil => rfl
        | cons a r => simp at he; subst he; simpa [lexB] using i1
      · obtain ⟨h1, rfl, rfl, s4⟩ := sh_last hl he hn
        rw [s4]
        refine ⟨?_, by simp [lexB]⟩
        cases low with
        | nil => rfl
        | cons a r => simp at h1; subst h1; simpa [lexB] using shO_above r
/-- what the shortest step is asked for -/
def Asked (low high : List Bool) : Prop := high = [] ∨ (lexB low high = -1 ∧ lastOne high = true)
theorem short_last {low high : List Bool} (h : Asked low high) : lastOne (short low high) = true := by
  unfold short
  rcases h with h | ⟨h1, h2⟩
  · rw [if_pos h]; exact shO_last _
  · rw [if_neg (lastOne_ne h2)]; exact shB_last _ _ h1 h2
theorem short_len {low high : List Bool} (h : Asked low high) : (short low high).length ≤ max low.length high.length + 1 := by
  unfold short
  rcases h with h | ⟨h1, h2⟩
  · rw [if_pos h, h]; have := shO_len low; simp; omega
  · rw [if_neg (lastOne_ne h2)]; exact shB_len _ _ h1 h2
theorem short_low {low high : List Bool} (h : Asked low high) : lexB low (short low high) = -1 := by
  unfold short
  rcases h with h | ⟨h1, h2⟩
  · rw [if_pos h]; exact shO_above _
  · rw [if_neg (lastOne_ne h2)]; exact (shB_between _ _ h1 h2).1
theorem short_high {low high : List Bool} (h : Asked low high) (h0 : high ≠ []) : lexB (short low high) high = -1 := by
  unfold short
  rcases h with h | ⟨h1, h2⟩
  · exact absurd h h0
  · rw [if_neg (lastOne_ne h2)]; exact (shB_between _ _ h1 h2).2
end Go.Proofs.Ytofbcgehemclbaa.Bm
