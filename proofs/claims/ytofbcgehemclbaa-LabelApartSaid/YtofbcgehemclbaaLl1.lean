/- What labels answer, as functions of their bytes: the program and the reference answer the same. -/
import Derived.Test.YtofbcgehemclbaaLr3
import Derived.Test.YtofbcgehemclbaaRow
namespace Go.Proofs.Ytofbcgehemclbaa
open Go.RowKit Bm Classical
noncomputable def rtB (bs : List UInt8) : Bool := decide (∃ ss, IsL bs ss)
noncomputable def ssB (bs : List UInt8) : List (List Bool) := if h : ∃ ss, IsL bs ss then Classical.choose h else []
/-- the parent: its bytes, and whether there is one -/
noncomputable def okP (bs : List UInt8) : Bool := rtB bs && !decide (ssB bs = [])
noncomputable def parB (bs : List UInt8) : List UInt8 := if okP bs then pkL (wr (ssB bs).dropLast) else []
noncomputable def aftB (bs : List UInt8) : List UInt8 := if okP bs then pkL ((wr (ssB bs)).dropLast ++ [true]) else []
noncomputable def abvB (xs ys : List UInt8) : Bool := rtB xs && rtB ys && aboveS (ssB xs) (ssB ys)
theorem ssB_is {bs : List UInt8} {ss : List (List Bool)} (h : IsL bs ss) : ssB bs = ss ∧ rtB bs = true := by
  have h1 : ∃ ss, IsL bs ss := ⟨ss, h⟩
  refine ⟨?_, decide_eq_true h1⟩
  unfold ssB
  rw [dif_pos h1]
  exact isL_uniq (Classical.choose_spec h1) h
theorem ssB_no {bs : List UInt8} (h : ¬ ∃ ss, IsL bs ss) : ssB bs = [] ∧ rtB bs = false := by
  refine ⟨?_, decide_eq_false h⟩
  unfold ssB
  rw [dif_neg h]
theorem label_cases (bs : List UInt8) : (∃ ss, IsL bs ss ∧ ss ≠ [] ∧ ssB bs = ss ∧ rtB bs = true ∧ okP bs = true) ∨ (IsL bs [] ∧ ssB bs = [] ∧ rtB bs = true ∧ okP bs = false) ∨ ((¬ ∃ ss, IsL bs ss) ∧ ssB bs = [] ∧ rtB bs = false ∧ okP bs = false) := by
  by_cases h : ∃ ss, IsL bs ss
  · obtain ⟨ss, h⟩ := h
    obtain ⟨h1, h2⟩ := ssB_is h
    by_cases h0 : ss = []
    · subst h0
      exact .inr (.inl ⟨h, h1, h2, by simp [okP, h1, h2]⟩)
    · exact .inl ⟨ss, h, h0, h1, h2, by simp [okP, h1, h2, h0]⟩
  · obtain ⟨h1, h2⟩ := ssB_no h
    exact .inr (.inr ⟨h, h1, h2, by simp [okP, h2]⟩)
section
variable (a : Option Addr) (bs : List UInt8) (n c : Nat) (w : World)
theorem rightG (q : Bool) (hr : RdB w a bs) (hn : n = bs.length) (hle : (n : Int) ≤ 9223372036854775807) (hq : q = rtB bs) :
    Calls Try.prog 24 #[.slice a n c] w fun e w' => e = .returned (.bool q) ∧ Below w.heap.size w w' := by
  subst hq
  rcases label_cases bs with ⟨ss, h, _, _, h2, _⟩ | ⟨h, _, h2, _⟩ | ⟨h, _, h2, _⟩
  · rw [h2]; exact right_yesL a bs ss n c w hr hn hle h
  · rw [h2]; exact right_yesL a bs [] n c w hr hn hle h
  · rw [h2]; exact right_noL a bs n c w hr hn hle h
theorem rrightG (q : Bool) (hr : RdB w a bs) (hn : n = bs.length) (hle : (n : Int) ≤ 9223372036854775807) (hq : q = rtB bs) :
    Calls Try.prog 25 #[.slice a n c] w fun e w' => e = .returned (.bool q) ∧ Below w.heap.size w w' := by
  subst hq
  rcases label_cases bs with ⟨ss, h, _, _, h2, _⟩ | ⟨h, _, h2, _⟩ | ⟨h, _, h2, _⟩
  · rw [h2]; exact rright_yes a bs ss n c w hr hn hle h
  · rw [h2]; exact rright_yes a bs [] n c w hr hn hle h
  · rw [h2]; exact rright_no a bs n c w hr hn hle h
theorem levelG (q : Int) (hr : RdB w a bs) (hn : n = bs.length) (hle : (n : Int) ≤ 9223372036854775807) (hq : q = (ssB bs).length) :
    Calls Try.prog 26 #[.slice a n c] w fun e w' => e = .returned (.int .i64 q) ∧ Below w.heap.size w w' := by
  subst hq
  rcases label_cases bs with ⟨ss, h, _, h2, _, _⟩ | ⟨h, h2, _, _⟩ | ⟨h, h2, _, _⟩
  · rw [h2]; exact level_yes a bs ss n c w hr hn hle h
  · rw [h2]; exact level_yes a bs [] n c w hr hn hle h
  · rw [h2]; exact level_no a bs n c w hr hn hle h
theorem rlevelG (q : Int) (hr : RdB w a bs) (hn : n = bs.length) (hle : (n : Int) ≤ 9223372036854775807) (hq : q = (ssB bs).length) :
    Calls Try.prog 27 #[.slice a n c] w fun e w' => e = .returned (.int .i64 q) ∧ Below w.heap.size w w' := by
  subst hq
  rcases label_cases bs with ⟨ss, h, _, h2, _, _⟩ | ⟨h, h2, _, _⟩ | ⟨h, h2, _, _⟩
  · rw [h2]; exact rlevel_yes a bs ss n c w hr hn hle h
  · rw [h2]; exact rlevel_yes a bs [] n c w hr hn hle h
  · rw [h2]; exact rlevel_no a bs n c w hr hn hle h
theorem parentG (q : Bool) (ps : List UInt8) (m : Nat) (hr : RdB w a bs) (hn : n = bs.length) (hle : (n : Int) ≤ 9223372036854775807) (hq : q = okP bs) (hp : ps = parB bs) (hm : m = ps.length) :
    Calls Try.prog 20 #[.slice a n c] w fun e w' => ∃ a' c', e = .returned (.tuple #[.slice a' m c', .bool q]) ∧ RdB w' a' ps ∧ Below w.heap.size w w' := by
  subst hq hp hm
  unfold parB
  rcases label_cases bs with ⟨ss, h, h0, h1, _, h3⟩ | ⟨h, _, _, h3⟩ | ⟨h, _, _, h3⟩
  · rw [h3, if_pos rfl, h1, length_pkL]
    exact (parent_yes a bs ss n c w hr hn hle h h0).mono fun e w' ⟨g, cap, he, hp, hb⟩ => ⟨_, cap, he, hp.rd, hb⟩
  · rw [h3]
    exact (parent_root a bs n c w hr hn hle h).mono fun e w' ⟨he, hb⟩ => ⟨none, 0, he, .inl rfl, hb⟩
  · rw [h3]
    exact (parent_no a bs n c w hr hn hle h).mono fun e w' ⟨he, hb⟩ => ⟨none, 0, he, .inl rfl, hb⟩
theorem rparentG (q : Bool) (ps : List UInt8) (m : Nat) (hr : RdB w a bs) (hn : n = bs.length) (hle : (n : Int) ≤ 9223372036854775807) (hq : q = okP bs) (hp : ps = parB bs) (hm : m = ps.length) :
    Calls Try.prog 23 #[.slice a n c] w fun e w' => ∃ a' c', e = .returned (.tuple #[.slice a' m c', .bool q]) ∧ RdB w' a' ps ∧ Below w.heap.size w w' := by
  subst hq hp hm
  unfold parB
  rcases label_cases bs with ⟨ss, h, h0, h1, _, h3⟩ | ⟨h, _, _, h3⟩ | ⟨h, _, _, h3⟩
  · rw [h3, if_pos rfl, h1, length_pkL]
    exact rparent_yes a bs ss n c w hr hn hle h h0
  · rw [h3]
    exact (rparent_no a bs n c w hr hn hle (.inl h)).mono fun e w' ⟨he, hb⟩ => ⟨none, 0, he, .inl rfl, hb⟩
  · rw [h3]
    exact (rparent_no a bs n c w hr hn hle (.inr h)).mono fun e w' ⟨he, hb⟩ => ⟨none, 0, he, .inl rfl, hb⟩
theorem afterG (ps : List UInt8) (m : Nat) (hr : RdB w a bs) (hn : n = bs.length) (hle : (n : Int) ≤ 9223372036854775807) (hp : ps = aftB bs) (hm : m = ps.length) :
    Calls Try.prog 22 #[.slice a n c] w fun e w' => ∃ a' c', e = .returned (.slice a' m c') ∧ RdB w' a' ps ∧ Below w.heap.size w w' := by
  subst hp hm
  unfold aftB
  rcases label_cases bs with ⟨ss, h, h0, h1, _, h3⟩ | ⟨h, _, _, h3⟩ | ⟨h, _, _, h3⟩
  · rw [h3, if_pos rfl, h1, length_pkL]
    exact (after_yes a bs ss _ n c w hr hn hle h h0 rfl).mono fun e w' ⟨g, cap, he, hp, hb⟩ => ⟨_, cap, he, hp.rd, hb⟩
  · rw [h3]
    exact (after_no a bs n c w hr hn hle (.inl h)).mono fun e w' ⟨he, hb⟩ => ⟨none, 0, he, .inl rfl, hb⟩
  · rw [h3]
    exact (after_no a bs n c w hr hn hle (.inr h)).mono fun e w' ⟨he, hb⟩ => ⟨none, 0, he, .inl rfl, hb⟩
theorem rafterG (ps : List UInt8) (m : Nat) (hr : RdB w a bs) (hn : n = bs.length) (hle : (n : Int) ≤ 9223372036854775807) (hp : ps = aftB bs) (hm : m = ps.length) :
    Calls Try.prog 28 #[.slice a n c] w fun e w' => ∃ a' c', e = .returned (.slice a' m c') ∧ RdB w' a' ps ∧ Below w.heap.size w w' := by
  subst hp hm
  unfold aftB
  rcases label_cases bs with ⟨ss, h, h0, h1, _, h3⟩ | ⟨h, _, _, h3⟩ | ⟨h, _, _, h3⟩
  · rw [h3, if_pos rfl, h1, length_pkL]
    exact rafter_yes a bs ss _ n c w hr hn hle h h0 rfl
  · rw [h3]
    exact (rafter_no a bs n c w hr hn hle (.inl h)).mono fun e w' ⟨he, hb⟩ => ⟨none, 0, he, .inl rfl, hb⟩
  · rw [h3]
    exact (rafter_no a bs n c w hr hn hle (.inr h)).mono fun e w' ⟨he, hb⟩ => ⟨none, 0, he, .inl rfl, hb⟩
end
theorem aboveG (a b : Option Addr) (xs ys : List UInt8) (n c m d : Nat) (q : Bool) (w : World) (hx : RdB w a xs) (hy : RdB w b ys) (hn : n = xs.length) (hm : m = ys.length)
    (hle : (n : Int) ≤ 9223372036854775807) (hle2 : (m : Int) ≤ 9223372036854775807) (hq : q = abvB xs ys) :
    Calls Try.prog 31 #[.slice a n c, .slice b m d] w fun e w' => e = .returned (.bool q) ∧ Below w.heap.size w w' := by
  subst hq
  unfold abvB
  by_cases h1 : ∃ ss, IsL xs ss
  · by_cases h2 : ∃ tt, IsL ys tt
    · obtain ⟨ss, h1⟩ := h1
      obtain ⟨tt, h2⟩ := h2
      rw [(ssB_is h1).1, (ssB_is h1).2, (ssB_is h2).1, (ssB_is h2).2]
      exact above_both a b xs ys ss tt n c m d _ w hx hy hn hm hle hle2 h1 h2 rfl
    · rw [(ssB_no h2).2, Bool.and_false, Bool.false_and]
      exact above_not a b xs ys n c m d w hx hy hn hm hle hle2 (.inr h2)
  · rw [(ssB_no h1).2, Bool.false_and, Bool.false_and]
    exact above_not a b xs ys n c m d w hx hy hn hm hle hle2 (.inl h1)
theorem raboveG (a b : Option Addr) (xs ys : List UInt8) (n c m d : Nat) (q : Bool) (w : World) (hx : RdB w a xs) (hy : RdB w b ys) (hn : n = xs.length) (hm : m = ys.length)
    (hle : (n : Int) ≤ 9223372036854775807) (hle2 : (m : Int) ≤ 9223372036854775807) (hq : q = abvB xs ys) :
    Calls Try.prog 32 #[.slice a n c, .slice b m d] w fun e w' => e = .returned (.bool q) ∧ Below w.heap.size w w' := by
  subst hq
  unfold abvB
  by_cases h1 : ∃ ss, IsL xs ss
  · by_cases h2 : ∃ tt, IsL ys tt
    · obtain ⟨ss, h1⟩ := h1
      obtain ⟨tt, h2⟩ := h2
      rw [(ssB_is h1).1, (ssB_is h1).2, (ssB_is h2).1, (ssB_is h2).2]
      exact rabove_both a b xs ys ss tt n c m d _ w hx hy hn hm hle hle2 h1 h2 rfl
    · rw [(ssB_no h2).2, Bool.and_false, Bool.false_and]
      exact rabove_not a b xs ys n c m d w hx hy hn hm hle hle2 (.inr h2)
  · rw [(ssB_no h1).2, Bool.false_and, Bool.false_and]
    exact rabove_not a b xs ys n c m d w hx hy hn hm hle hle2 (.inl h1)
theorem sameT (a b : Option Addr) (xs : List UInt8) (n c m d : Nat) (w : World) (hx : RdB w a xs) (hy : RdB w b xs) (hn : n = xs.length) (hm : m = xs.length) (hbn : n ≤ 1048576) :
    Calls Try.prog 17 #[.slice a n c, .slice b m d] w fun e w' => e = .returned (.bool true) ∧ Below w.heap.size w w' := by
  have := same_any a b xs xs n c m d w hx hy hn hm (by omega)
  rw [show decide (xs = xs) = true from by simp] at this
  exact this
theorem lentR (a : Option Addr) (bs : List UInt8) (n c : Nat) (w : World) (hr : RdB w a bs) (hn : n = bs.length) (hle : n ≤ 1048576) :
    Calls Try.prog 10 #[.slice a n c] w fun e w' => ∃ g, e = .returned (.slice (some ⟨g, 0, none⟩) n (n + 12)) ∧ Rw w' g (lent bs) ∧ Below w.heap.size w w' :=
  (lent_any a bs n c w hr hn hle).mono fun e w' ⟨g, he, hbk, hg, hb⟩ => ⟨g, he, Rw.of_bk hbk, hb⟩
theorem lent_rd {w : World} {g n : Nat} {bs : List UInt8} (h : Rw w g (lent bs)) (hn : n = bs.length) : RdB w (some ⟨g, 0, none⟩) bs := by
  have := h.rd n
  rw [lent, hn, List.take_left] at this
  exact this
theorem Rw.alloc {w : World} {g : Nat} {full : List UInt8} (h : Rw w g full) (o : Obj) : Rw (w.alloc o) g full := h.keep ((Below.refl _ _).alloc (Nat.le_refl _) _)
theorem parB_le (bs : List UInt8) : (parB bs).length ≤ 1000 := by
  unfold parB
  split
  · rcases label_cases bs with ⟨ss, h, h0, h1, _, h3⟩ | ⟨h, _, _, h3⟩ | ⟨h, _, _, h3⟩
    · rw [h1, length_pkL]
      have := wr_take_le ss (ss.length - 1)
      rw [← List.dropLast_eq_take] at this
      have := h.2.1
      unfold nb; omega
    · simp_all
    · simp_all
  · simp
theorem aftB_le (bs : List UInt8) : (aftB bs).length ≤ 1000 := by
  unfold aftB
  split
  · rcases label_cases bs with ⟨ss, h, h0, h1, _, h3⟩ | ⟨h, _, _, h3⟩ | ⟨h, _, _, h3⟩
    · rw [h1, length_pkL, List.length_append, List.length_dropLast]
      have := h.2.1
      simp
      unfold nb; omega
    · simp_all
    · simp_all
  · simp
end Go.Proofs.Ytofbcgehemclbaa

