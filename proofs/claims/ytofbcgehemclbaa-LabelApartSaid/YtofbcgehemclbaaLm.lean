/- Plain facts on labels: rows of steps, how they are written and read: no program in sight. -/
import Derived.Test.YtofbcgehemclbaaBm
namespace Go.Proofs.Ytofbcgehemclbaa.Bm
def pairs (s : List Bool) : List Bool := s.flatMap fun b => [true, b]
/-- a step, as it is written -/
def enc (s : List Bool) : List Bool := pairs s ++ [false]
/-- a row of steps, as it is written -/
def wr (ss : List (List Bool)) : List Bool := ss.flatMap enc
def nought (k : Nat) : List Bool := List.replicate k false
def rdStep : List Bool → Option (List Bool × List Bool)
  | true :: b :: r => (rdStep r).map fun p => (b :: p.1, p.2)
  | false :: r => some ([], r)
  | _ => none
def lastOne (s : List Bool) : Bool := s.getLast? == some true
def okS (ss : List (List Bool)) : Prop := ∀ s ∈ ss, lastOne s = true
/-- the label of the steps ss -/
def IsL (bs : List UInt8) (ss : List (List Bool)) : Prop := okS ss ∧ (wr ss).length ≤ 1024 ∧ bs = pkL (wr ss)
theorem pairs_cons (b : Bool) (s : List Bool) : pairs (b :: s) = true :: b :: pairs s := rfl
theorem pairs_snoc (s : List Bool) (b : Bool) : pairs (s ++ [b]) = pairs s ++ [true, b] := by simp [pairs]
theorem enc_cons (b : Bool) (s : List Bool) : enc (b :: s) = true :: b :: enc s := rfl
theorem wr_cons (s : List Bool) (ss : List (List Bool)) : wr (s :: ss) = enc s ++ wr ss := rfl
theorem wr_app (a b : List (List Bool)) : wr (a ++ b) = wr a ++ wr b := by simp [wr]
theorem wr_snoc (a : List (List Bool)) (s : List Bool) : wr (a ++ [s]) = wr a ++ enc s := by simp [wr]
theorem pairs_length (s : List Bool) : (pairs s).length = 2 * s.length := by
  induction s with
  | nil => rfl
  | cons b s ih => rw [pairs_cons]; simp [ih]; omega
theorem enc_length (s : List Bool) : (enc s).length = 2 * s.length + 1 := by simp [enc, pairs_length]
theorem rdStep_pairs (s x : List Bool) : rdStep (pairs s ++ x) = (rdStep x).map fun p => (s ++ p.1, p.2) := by
  induction s with
  | nil => cases h : rdStep x <;> simp [pairs, h]
  | cons b s ih =>
    rw [pairs_cons, List.cons_append, List.cons_append, rdStep, ih]
    cases rdStep x <;> rfl
theorem rdStep_enc (s r : List Bool) : rdStep (enc s ++ r) = some (s, r) := by
  rw [enc, List.append_assoc, rdStep_pairs]
  simp [rdStep]
theorem lastOne_ne {s : List Bool} (h : lastOne s = true) : s ≠ [] := by rintro rfl; cases h
theorem enc_true {s : List Bool} (h : s ≠ []) : ∃ r, enc s = true :: r := by
  cases s with
  | nil => exact absurd rfl h
  | cons b s => exact ⟨_, enc_cons b s⟩
theorem okS_cons {s : List Bool} {ss : List (List Bool)} (h : okS (s :: ss)) : lastOne s = true ∧ okS ss := ⟨h s (by simp), fun x hx => h x (by simp [hx])⟩
theorem okS_snoc {s : List Bool} {ss : List (List Bool)} (h : okS ss) (hs : lastOne s = true) : okS (ss ++ [s]) := fun x hx => by
  rcases List.mem_append.1 hx with h1 | h1
  · exact h x h1
  · simp at h1; subst h1; exact hs
theorem okS_app {a b : List (List Bool)} (h : okS (a ++ b)) : okS a ∧ okS b := ⟨fun x hx => h x (by simp [hx]), fun x hx => h x (by simp [hx])⟩
theorem okS_nil : okS [] := fun x hx => by cases hx
theorem nought_head {k : Nat} {r : List Bool} (h : nought k = true :: r) : False := by
  cases k with
  | zero => cases h
  | succ k => simp [nought, List.replicate_succ] at h
theorem uniq : ∀ (out ss : List (List Bool)) (rest : List Bool) (k : Nat), okS out → okS ss → wr out ++ rest = wr ss ++ nought k → ∃ ss', ss = out ++ ss' ∧ rest = wr ss' ++ nought k
  | [], ss, rest, k, _, _, h => ⟨ss, rfl, h⟩
  | s :: out, [], rest, k, ho, _, h => by
    exfalso
    obtain ⟨h1, _⟩ := okS_cons ho
    obtain ⟨r, hr⟩ := enc_true (lastOne_ne h1)
    rw [wr_cons, List.append_assoc, hr] at h
    exact nought_head h.symm
  | s :: out, t :: ss, rest, k, ho, hs, h => by
    rw [wr_cons, wr_cons, List.append_assoc, List.append_assoc] at h
    have h1 := rdStep_enc s (wr out ++ rest)
    rw [h, rdStep_enc] at h1
    simp only [Option.some.injEq, Prod.mk.injEq] at h1
    obtain ⟨rfl, h2⟩ := h1
    obtain ⟨ss', h3, h4⟩ := uniq out ss rest k (okS_cons ho).2 (okS_cons hs).2 h2.symm
    exact ⟨ss', by rw [h3]; rfl, h4⟩
theorem head_step {ss : List (List Bool)} {k : Nat} {r : List Bool} (hs : okS ss) (h : true :: r = wr ss ++ nought k) : ∃ s t, rdStep (true :: r) = some (s, t) ∧ lastOne s = true := by
  cases ss with
  | nil => exact absurd h (fun e => nought_head e.symm)
  | cons s ss =>
    rw [wr_cons, List.append_assoc] at h
    exact ⟨s, _, by rw [h, rdStep_enc], (okS_cons hs).1⟩
theorem head_nought {ss : List (List Bool)} {k : Nat} {r : List Bool} (hs : okS ss) (h : false :: r = wr ss ++ nought k) : ss = [] := by
  cases ss with
  | nil => rfl
  | cons s ss =>
    obtain ⟨q, hq⟩ := enc_true (lastOne_ne (okS_cons hs).1)
    rw [wr_cons, List.append_assoc, hq] at h
    cases h
theorem lastOne_getD (s : List Bool) (m : Nat) (h : s.length = m + 1) : lastOne s = s.getD m false := by
  unfold lastOne
  rw [List.getLast?_eq_getElem?, h, Nat.add_sub_cancel, List.getD_eq_getElem?_getD, List.getElem?_eq_getElem (by omega)]
  cases s[m] <;> rfl
theorem drop_cons (l : List Bool) (k : Nat) (h : k < l.length) : l.drop k = l.getD k false :: l.drop (k + 1) := by
  rw [List.drop_eq_getElem_cons h, List.getD_eq_getElem?_getD, List.getElem?_eq_getElem h]; rfl
theorem unb_length (bs : List UInt8) : (unb bs).length = 8 * bs.length := by simp [unb]
theorem pk_unb (bs : List UInt8) : pkL (unb bs) = bs := by
  have h := unb_pk bs (8 * bs.length) (by unfold nb; omega) (fun i h1 h2 => by omega)
  rw [List.take_of_length_le (by rw [unb_length]; exact Nat.le_refl _)] at h
  exact h.2
theorem pkL_pad (l : List Bool) (k : Nat) (h : nb (l.length + k) = nb l.length) : pkL (l ++ nought k) = pkL l := by
  unfold pkL
  rw [List.length_append, nought, List.length_replicate, h]
  unfold wk
  apply List.map_congr_left
  intro i _
  congr 1
  refine byteN_ext _ _ _ fun j _ => ?_
  simp only [List.getD_eq_getElem?_getD, List.getElem?_append]
  split
  · rfl
  · rename_i hlt
    rw [List.getElem?_eq_none (l := l) (by omega), List.getElem?_replicate]
    split <;> rfl
/-- the bits of a row, packed: the row, and noughts -/
theorem unb_pkL (l : List Bool) : unb (pkL l) = l ++ nought (8 * nb l.length - l.length) := by
  have hle : l.length ≤ 8 * nb l.length := by unfold nb; omega
  refine pkL_inj _ _ ?_ ?_
  · rw [unb_length, length_pkL, List.length_append, nought, List.length_replicate]; omega
  · rw [pk_unb, pkL_pad]
    unfold nb at *; omega
/-- what a label's bytes say -/
theorem isL_bits {bs : List UInt8} {ss : List (List Bool)} (h : IsL bs ss) : bs.length ≤ 128 ∧ ∃ k, k < 8 ∧ unb bs = wr ss ++ nought k := by
  obtain ⟨_, h2, rfl⟩ := h
  refine ⟨by rw [length_pkL]; unfold nb; omega, 8 * nb (wr ss).length - (wr ss).length, by unfold nb; omega, unb_pkL _⟩
theorem isL_of {bs : List UInt8} {ss : List (List Bool)} {k : Nat} (hs : okS ss) (hl : bs.length ≤ 128) (hk : k < 8) (h : unb bs = wr ss ++ nought k) : IsL bs ss := by
  have hlen := congrArg List.length h
  rw [unb_length, List.length_append, nought, List.length_replicate] at hlen
  refine ⟨hs, by omega, ?_⟩
  rw [← pk_unb bs, h, pkL_pad]
  unfold nb; omega
theorem isL_uniq {bs : List UInt8} {ss tt : List (List Bool)} (h : IsL bs ss) (h' : IsL bs tt) : ss = tt := by
  obtain ⟨_, k, _, hk⟩ := isL_bits h
  obtain ⟨_, j, _, hj⟩ := isL_bits h'
  obtain ⟨ss', h1, h2⟩ := uniq ss tt (nought k) j h.1 h'.1 (by rw [← hk, hj])
  cases ss' with
  | nil => rw [h1, List.append_nil]
  | cons s r =>
    exfalso
    have ho := (okS_app (h1 ▸ h'.1)).2
    obtain ⟨q, hq⟩ := enc_true (lastOne_ne (okS_cons ho).1)
    rw [wr_cons, List.append_assoc, hq] at h2
    exact nought_head h2
/-- where reading stands: what has been read, and what is left -/
theorem no_label {bs : List UInt8} {out : List (List Bool)} {rest : List Bool} (ho : okS out) (h : unb bs = wr out ++ rest)
    (hno : (∃ r, rest = true :: r ∧ ∀ s t, rdStep rest = some (s, t) → lastOne s = false) ∨ (∃ r, rest = false :: r ∧ ¬ (rest = nought rest.length ∧ rest.length < 8))) : ¬ ∃ ss, IsL bs ss := by
  rintro ⟨ss, hl⟩
  obtain ⟨_, k, hk, hb⟩ := isL_bits hl
  obtain ⟨ss', h1, h2⟩ := uniq out ss rest k ho hl.1 (by rw [← h, hb])
  have hs' := (okS_app (h1 ▸ hl.1)).2
  rcases hno with ⟨r, hr, hn⟩ | ⟨r, hr, hn⟩
  · rw [hr] at h2 hn
    obtain ⟨s, t, h3, h4⟩ := head_step hs' h2
    rw [hn s t h3] at h4; cases h4
  · have h3 := head_nought hs' (hr ▸ h2)
    subst h3
    apply hn
    have : rest = nought k := h2
    rw [this, nought, List.length_replicate]
    exact ⟨rfl, hk⟩
theorem all_nought {x : List Bool} (h : ∀ i, i < x.length → x.getD i false = false) : x = nought x.length := by
  apply List.ext_getElem
  · simp [nought]
  · intro i h1 h2
    have := h i h1
    rw [List.getD_eq_getElem?_getD, List.getElem?_eq_getElem h1] at this
    simpa [nought] using this
end Go.Proofs.Ytofbcgehemclbaa.Bm
