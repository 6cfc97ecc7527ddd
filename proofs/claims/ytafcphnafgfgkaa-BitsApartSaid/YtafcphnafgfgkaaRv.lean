/- A region that draws its order, as in Reg: an operation knows a slot that only an operation behind it writes, too. -/
import Derived.Test.YtafcphnafgfgkaaReg
namespace Go.Proofs.Ytafcphnafgfgkaa.RV
open Go.RowKit
section
variable {P : Program} {l : List Oper} {Q : Exit → Act → World → Prop}
/-- number j waits for number i, be it through others -/
def reachB (l : List Oper) : Nat → Nat → Nat → Bool
  | 0, _, _ => false
  | n + 1, j, i => match l[j]? with
    | some o => o.after.toList.any fun e => Region.binds .any e && (e.on == i || reachB l n e.on i)
    | none => false
/-- slot s is written by no operation, or by such that wait for number i -/
def keepI (l : List Oper) (i s : Nat) : Bool := (List.range l.length).all fun j => match l[j]? with
  | some o => o.dst != some s || reachB l l.length j i
  | none => true
theorem reach_done {D : Array Bool} (hdn : ∀ k o i, l[k]? = some o → D.getD k false = true → waitsB o i = true → D.getD i false = true) : ∀ n j i, reachB l n j i = true → D.getD j false = true → D.getD i false = true
  | 0, _, _, h, _ => by cases h
  | n + 1, j, i, h, hj => by
    unfold reachB at h
    cases ho : l[j]? with
    | none => rw [ho] at h; cases h
    | some o =>
      rw [ho] at h
      obtain ⟨e, he, hb⟩ := List.any_eq_true.1 h
      simp only [Bool.and_eq_true, Bool.or_eq_true, beq_iff_eq] at hb
      have hw : waitsB o e.on = true := by
        unfold waitsB
        rw [List.any_eq_true]
        exact ⟨e, he, by simp [hb.1]⟩
      have h2 := hdn j o e.on ho hj hw
      rcases hb.2 with h3 | h3
      · rw [← h3]; exact h2
      · exact reach_done hdn n e.on i h3 h2
def stepU (P : Program) (l : List Oper) (R : World → World → Prop) (w0 : World) (u0 : Nat → Value) (Fs : List ((Nat → Value) → World → Prop)) (i : Nat) (o : Oper) : Prop :=
  ∀ u w, R w0 w → (∀ s, keepI l i s = true → u s = u0 s) → (∀ k, waitsB o k = true → factsU Fs k u w) →
    if Region.wanted o (yldU l u) then uponU (fun v w' => R w w' ∧ factsU Fs i (updU u o.dst v) w') P ((execOp (evU u) o).run P w) else factsU Fs i (updU u o.dst undef) w
def stepsU (P : Program) (l : List Oper) (R : World → World → Prop) (w0 : World) (u0 : Nat → Value) (Fs : List ((Nat → Value) → World → Prop)) : Nat → List Oper → Prop
  | _, [] => True
  | i, o :: rest => stepU P l R w0 u0 Fs i o ∧ stepsU P l R w0 u0 Fs (i + 1) rest
theorem stepsU_at {R : World → World → Prop} {w0 : World} {u0 : Nat → Value} {Fs : List ((Nat → Value) → World → Prop)} : ∀ (m : List Oper) (n : Nat), stepsU P l R w0 u0 Fs n m → ∀ i o, m[i]? = some o → stepU P l R w0 u0 Fs (n + i) o
  | [], _, _, i, o, h => by simp at h
  | x :: m, n, hs, 0, o, h => by simp at h; subst h; exact hs.1
  | x :: m, n, hs, i + 1, o, h => by
    have := stepsU_at m (n + 1) hs.2 i o (by simpa using h)
    rwa [show n + 1 + i = n + (i + 1) from by omega] at this
structure AtU (l : List Oper) (R : World → World → Prop) (w0 : World) (a0 : Act) (Fs : List ((Nat → Value) → World → Prop)) (D : Array Bool) (a : Act) (w : World) : Prop where
  sz : a.tmps.size = a0.tmps.size
  df : a.defers = a0.defers
  kp : ∀ s, (∀ o ∈ l, o.dst ≠ some s) → a.tmps.getD s undef = a0.tmps.getD s undef
  un : ∀ s, (∀ j o, l[j]? = some o → o.dst = some s → D.getD j false = false) → a.tmps.getD s undef = a0.tmps.getD s undef
  ww : R w0 w
  dn : ∀ k o i, l[k]? = some o → D.getD k false = true → waitsB o i = true → D.getD i false = true
  fa : ∀ k, D.getD k false = true → factsU Fs k (fun s => a.tmps.getD s undef) w
theorem wpAny_facts {R : World → World → Prop} {w0 : World} {a0 : Act} {Fs : List ((Nat → Value) → World → Prop)} {sl : List (List Nat)}
    (hE : edgesB l a0.tmps.size = true) (hO : ownB l sl = true) (hrf : ∀ w1, R w0 w1 → R w1 w1) (htr : ∀ w1 w2 w3, R w1 w2 → R w2 w3 → R w1 w3)
    (hloc : ∀ k u u' w w', k < l.length → (∀ s ∈ (sl[k]?).getD [], u' s = u s) → R w w' → factsU Fs k u w → factsU Fs k u' w')
    (hs : stepsU P l R w0 (fun s => a0.tmps.getD s undef) Fs 0 l)
    (hQ : ∀ u w, R w0 w → (∀ k, k < l.length → factsU Fs k u w) → Q .normal (finU l u a0) w) :
    ∀ (fuel : Nat) (D : Array Bool) (a : Act) (w : World), D.size = l.length → (D.toList.filter (!·)).length ≤ fuel → AtU l R w0 a0 Fs D a w → wpAny P .any l.toArray Q fuel D a w := by
  have hrefl : ∀ w1 w2, R w1 w2 → ∀ k u u', k < l.length → (∀ s ∈ (sl[k]?).getD [], u' s = u s) → factsU Fs k u w1 → factsU Fs k u' w2 := fun w1 w2 h k u u' hk hu hf => hloc k u u' w1 w2 hk hu h hf
  have hsp : ∀ i o, l[i]? = some o → stepU P l R w0 (fun s => a0.tmps.getD s undef) Fs i o := fun i o ho => by
    have := stepsU_at l 0 hs i o ho
    rwa [Nat.zero_add] at this
  have hEi : ∀ i o, l[i]? = some o → (∀ e ∈ o.after, Region.binds .any e = true → e.on < i) ∧ (∀ d, o.dst = some d → d < a0.tmps.size) := by
    intro i o ho
    have hi : i < l.length := (List.getElem?_eq_some_iff.1 ho).1
    have h1 := List.all_eq_true.1 hE i (by simpa using hi)
    simp only [ho, Bool.and_eq_true] at h1
    refine ⟨fun e he hb => ?_, fun d hd => ?_⟩
    · have := (List.all_eq_true.1 h1.1) e (Array.mem_toList_iff.2 he)
      simpa [hb] using this
    · have := h1.2
      rw [hd] at this
      simpa using this
  have hfin : ∀ D a w, D.size = l.length → Region.ready .any l.toArray D = [] → AtU l R w0 a0 Fs D a w → Q .normal a w := by
    intro D a w hD hr ha
    have hall : ∀ k, k < l.length → D.getD k false = true := by
      intro k
      induction k using Nat.strongRecOn with
      | ind k ih =>
        intro hk
        rcases Bool.eq_false_or_eq_true (D.getD k false) with h | h
        · exact h
        · exfalso
          obtain ⟨o, ho⟩ : ∃ o, l[k]? = some o := ⟨l[k], List.getElem?_eq_getElem hk⟩
          have hm : k ∈ Region.ready .any l.toArray D := by
            simp only [Region.ready, List.mem_filter, List.mem_range, List.size_toArray]
            refine ⟨hk, ?_⟩
            have h2 : D.getD k true = false := by
              simp only [Array.getD_eq_getD_getElem?] at h ⊢
              rw [Array.getElem?_eq_getElem (by omega)] at h ⊢
              exact h
            simp only [h2, List.getElem?_toArray, ho, Option.map_some, Option.getD_some, Bool.not_false, Bool.true_and]
            rw [Array.all_eq_true']
            intro e he
            by_cases hb : Region.binds .any e = true
            · have := (hEi k o ho).1 e he hb
              simp [hb]
              have h3 := ih e.on this (by omega)
              simpa [Array.getD_eq_getD_getElem?] using h3
            · simp [hb]
          rw [hr] at hm
          cases hm
    have hf : a = finU l (fun s => a.tmps.getD s undef) a0 := fin_spec (fun _ => rfl) ha.sz ha.df ha.kp
    rw [hf]
    exact hQ _ _ ha.ww fun k hk => ha.fa k (hall k hk)
  intro fuel
  induction fuel with
  | zero =>
    intro D a w hD hn ha
    have hr : Region.ready .any l.toArray D = [] := by
      simp only [Region.ready, List.filter_eq_nil_iff]
      intro i hi
      simp only [List.mem_range, List.size_toArray] at hi
      have h0 : D.toList.filter (!·) = [] := List.length_eq_zero_iff.1 (by omega)
      rw [List.filter_eq_nil_iff] at h0
      have h1 := h0 (D[i]'(by omega)) (by simp)
      simp only [Bool.not_eq_true', Bool.not_eq_false] at h1
      simp [Array.getD_eq_getD_getElem?, show i < D.size from by omega, h1]
    exact ⟨hr, hfin D a w hD hr ha⟩
  | succ fuel ih =>
    intro D a w hD hn ha
    refine ⟨fun hr => hfin D a w hD hr ha, fun i hi => ?_⟩
    simp only [Region.ready, List.mem_filter, List.mem_range, List.size_toArray, Bool.and_eq_true] at hi
    obtain ⟨hlt, hun, haf⟩ := hi
    obtain ⟨o, ho⟩ : ∃ o, l[i]? = some o := ⟨l[i], List.getElem?_eq_getElem hlt⟩
    simp only [List.getElem?_toArray, ho, Option.map_some, Option.getD_some, Array.all_eq_true'] at haf
    have hDi : D[i]'(by omega) = false := by
      simpa [Array.getD_eq_getD_getElem?, show i < D.size from by omega] using hun
    have hcnt : ((D.setIfInBounds i true).toList.filter (!·)).length ≤ fuel := by
      have h1 : D.toList = D.toList.take i ++ false :: D.toList.drop (i + 1) := by
        have h3 : i < D.toList.length := by simp; omega
        have h2 := List.drop_eq_getElem_cons h3
        rw [Array.getElem_toList, hDi] at h2
        rw [← h2, List.take_append_drop]
      have h2 : (D.setIfInBounds i true).toList = D.toList.take i ++ true :: D.toList.drop (i + 1) := by
        rw [Array.toList_setIfInBounds, List.set_eq_take_append_cons_drop, if_pos (by simp; omega)]
      rw [h1] at hn
      rw [h2]
      simp only [List.filter_append, List.length_append, List.filter_cons, Bool.not_false, if_true, List.length_cons, Bool.not_true, Bool.false_eq_true, if_false] at hn ⊢
      omega
    have hdeps : ∀ k, waitsB o k = true → factsU Fs k (fun s => a.tmps.getD s undef) w := by
      intro k hk
      unfold waitsB at hk
      rw [List.any_eq_true] at hk
      obtain ⟨e, he, hb⟩ := hk
      have he := Array.mem_toList_iff.1 he
      simp only [Bool.and_eq_true, beq_iff_eq] at hb
      obtain ⟨hb1, hb2⟩ := hb
      have := haf e he
      rw [hb1, hb2] at this
      exact ha.fa k (by simpa using this)
    have hst := hsp i o ho (fun s => a.tmps.getD s undef) w ha.ww (fun s hs => ha.un s fun j oj hj hd => by
      cases hDj : D.getD j false with
      | false => rfl
      | true =>
        exfalso
        have hjl : j < l.length := (List.getElem?_eq_some_iff.1 hj).1
        have h1 := List.all_eq_true.1 hs j (by simpa using hjl)
        rw [hj] at h1
        simp only [Bool.or_eq_true] at h1
        rcases h1 with h1 | h1
        · simp [hd] at h1
        · have h2 := reach_done ha.dn _ _ _ h1 hDj
          simp [Array.getD_eq_getD_getElem?, show i < D.size from by omega, hDi] at h2) hdeps
    have hdl : ∀ x, o.dst = some x → x < a.tmps.size := fun x hx => by rw [ha.sz]; exact (hEi i o ho).2 x hx
    have hnext : ∀ v w', R w w' ∧ factsU Fs i (updU (fun s => a.tmps.getD s undef) o.dst v) w' → AtU l R w0 a0 Fs (D.setIfInBounds i true) (a.put o.dst v) w' := by
      intro v w' ⟨hR, hF⟩
      have hg := put_getD (a := a) (u := fun s => a.tmps.getD s undef) (fun _ => rfl) o.dst v hdl
      have hgf : (fun s => (a.put o.dst v).tmps.getD s undef) = updU (fun s => a.tmps.getD s undef) o.dst v := funext hg
      refine ⟨?_, ?_, ?_, ?_, htr _ _ _ ha.ww hR, ?_, ?_⟩
      · rw [← ha.sz]; cases o.dst <;> simp [Act.put]
      · rw [← ha.df]; cases o.dst <;> simp [Act.put]
      · intro s hs'
        rw [hg s, ← ha.kp s hs']
        have := hs' o (List.mem_of_getElem? ho)
        simp [updU, this]
      · intro s hs'
        have hso : o.dst ≠ some s := fun hd => by
          have := hs' i o ho hd
          simp [Array.getD_eq_getD_getElem?, Array.getElem?_setIfInBounds, show i < D.size from by omega] at this
        rw [hg s, ← ha.un s fun j oj hj hd => by
          have h2 := hs' j oj hj hd
          by_cases e' : i = j
          · subst e'; rw [ho] at hj; injection hj with hj; subst hj; exact absurd hd hso
          · simpa [Array.getD_eq_getD_getElem?, Array.getElem?_setIfInBounds, e'] using h2]
        simp [updU, hso]
      · intro k ok j hok hk hw
        by_cases e : i = k
        · subst e
          rw [ho] at hok
          injection hok with hok
          subst hok
          unfold waitsB at hw
          rw [List.any_eq_true] at hw
          obtain ⟨e, he, hb⟩ := hw
          have he := Array.mem_toList_iff.1 he
          simp only [Bool.and_eq_true, beq_iff_eq] at hb
          obtain ⟨hb1, hb2⟩ := hb
          have h1 := haf e he
          rw [hb1, hb2] at h1
          have h2 : D.getD j false = true := by simpa using h1
          by_cases e' : i = j
          · subst e'; simp [Array.getD_eq_getD_getElem?, Array.getElem?_setIfInBounds, show i < D.size from by omega]
          · simpa [Array.getD_eq_getD_getElem?, Array.getElem?_setIfInBounds, e'] using h2
        · have hkD : D.getD k false = true := by
            simpa [Array.getD_eq_getD_getElem?, Array.getElem?_setIfInBounds, e] using hk
          have h2 := ha.dn k ok j hok hkD hw
          by_cases e' : i = j
          · subst e'; simp [Array.getD_eq_getD_getElem?, Array.getElem?_setIfInBounds, show i < D.size from by omega]
          · simpa [Array.getD_eq_getD_getElem?, Array.getElem?_setIfInBounds, e'] using h2
      · intro k hk
        rw [hgf]
        by_cases e : i = k
        · subst e; exact hF
        · have hkD : D.getD k false = true := by
            simpa [Array.getD_eq_getD_getElem?, Array.getElem?_setIfInBounds, e] using hk
          have hkl : k < l.length := by
            rcases Nat.lt_or_ge k l.length with h | h
            · exact h
            · rw [Array.getD_eq_getD_getElem?, Array.getElem?_eq_none (by omega)] at hkD; cases hkD
          refine hloc k _ _ w w' hkl (fun s hs' => ?_) hR (ha.fa k hkD)
          unfold updU
          split
          · rename_i hds
            exfalso
            have h1 := List.all_eq_true.1 hO k (by simpa using hkl)
            have h2 := List.all_eq_true.1 h1 i (by simpa using hlt)
            obtain ⟨ok, hok⟩ : ∃ ok, l[k]? = some ok := ⟨l[k], List.getElem?_eq_getElem hkl⟩
            simp only [ho, hok, hds, Bool.or_eq_true, beq_iff_eq, Bool.not_eq_true'] at h2
            rcases h2 with h2 | h2 | h2
            · exact e h2
            · rw [List.contains_eq_mem] at h2; simp [hs'] at h2
            · -- k waits for i, k has come up, i has not: what a fact needs has come up
              have h3 := ha.dn k ok i hok hkD h2
              simp [Array.getD_eq_getD_getElem?, show i < D.size from by omega, hDi] at h3
          · rfl
    unfold wpOp
    simp only [List.getElem?_toArray, ho]
    rw [yldU_of (u := fun s => a.tmps.getD s undef) (fun _ => rfl)]
    split
    · rename_i hw
      rw [if_pos hw] at hst
      refine .inl ?_
      unfold Oper.wp
      rw [evU_of (u := fun s => a.tmps.getD s undef) (fun _ => rfl)]
      generalize (execOp (evU fun s => a.tmps.getD s undef) o).run P w = r at *
      cases r with
      | ok n w' =>
        cases n <;> simp only [uponU] at hst <;> simp only [Oper.upon]
        case value v => exact ih _ _ _ (by simpa using hD) hcnt (hnext _ _ hst)
        case skip => exact ih _ _ _ (by simpa using hD) hcnt (hnext _ _ hst)
        case enter f args =>
          refine hst.mono ?_
          rintro e w'' ⟨v, rfl, h⟩
          exact ih _ _ _ (by simpa using hD) hcnt (hnext _ _ h)
      | halt x w' => simp only [uponU] at hst
    · rename_i hw
      rw [if_neg hw] at hst
      exact ih _ _ _ (by simpa using hD) hcnt (hnext _ _ ⟨hrf _ ha.ww, hst⟩)
theorem norep (n k : Nat) : ¬ (Array.replicate n false).getD k false = true := by
  rw [Array.getD_eq_getD_getElem?, Array.getElem?_replicate]
  split <;> simp
theorem wp_region_facts {R : World → World → Prop} (Fs : List (FactU R)) {id : Nat} {a0 : Act} {w : World} (hm : P.follows .mixedOrders = true)
    (hE : edgesB l a0.tmps.size = true) (hO : ownB l (Fs.map FactU.sl) = true) (h0 : R w.drew w.drew) (hrf : ∀ w1, R w.drew w1 → R w1 w1) (htr : ∀ w1 w2 w3, R w1 w2 → R w2 w3 → R w1 w3)
    (hs : stepsU P l R w.drew (fun s => a0.tmps.getD s undef) (Fs.map FactU.F) 0 l)
    (hQ : ∀ u w', R w.drew w' → (∀ k, k < l.length → factsU (Fs.map FactU.F) k u w') → Q .normal (finU l u a0) w') :
    (Code.region id l.toArray true).wp P Q a0 w := by
  refine wp_region_any hm ?_
  have := wpAny_facts (P := P) (Q := Q) (R := R) (w0 := w.drew) (a0 := a0) (Fs := Fs.map FactU.F) (sl := Fs.map FactU.sl) hE hO hrf htr (fun k u u' w1 w2 hk hu hR hF => by
    unfold factsU at *
    rw [List.getElem?_map] at *
    cases h : Fs[k]? with
    | none => trivial
    | some f =>
      rw [h] at hF hu
      exact f.loc u u' w1 w2 hu hR hF) hs hQ l.length (Array.replicate l.length false) a0 w.drew (by simp) (by simp) ⟨rfl, rfl, fun _ _ => rfl, fun _ _ => rfl, h0, fun k _ _ _ hk => absurd hk (norep _ k), fun k hk => absurd hk (norep _ k)⟩
  simpa using this
section
variable {R : World → World → Prop} {w0 : World} {u0 : Nat → Value} {Fs : List ((Nat → Value) → World → Prop)} {i : Nat} {o : Oper}
theorem stepsU_cons {rest : List Oper} {j : Nat} (hj : i + 1 = j) (h : stepU P l R w0 u0 Fs i o) (h' : stepsU P l R w0 u0 Fs j rest) : stepsU P l R w0 u0 Fs i (o :: rest) := by
  subst hj; exact ⟨h, h'⟩
theorem stepsU_nil : stepsU P l R w0 u0 Fs i [] := trivial
theorem stepU_plain (hg : o.guard = none) (h : ∀ u w, R w0 w → (∀ s, keepI l i s = true → u s = u0 s) → (∀ k, waitsB o k = true → factsU Fs k u w) →
    uponU (fun v w' => R w w' ∧ factsU Fs i (updU u o.dst v) w') P ((execOp (evU u) o).run P w)) : stepU P l R w0 u0 Fs i o := by
  intro u w h1 h2 h3
  rw [if_pos (by simp [Region.wanted, hg])]
  exact h u w h1 h2 h3
end
end
end Go.Proofs.Ytafcphnafgfgkaa.RV
