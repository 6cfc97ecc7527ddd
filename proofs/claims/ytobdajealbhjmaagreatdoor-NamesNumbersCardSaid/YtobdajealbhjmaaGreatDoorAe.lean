/- What has been run is remembered: a call at a memory that is known, proved in a text of its own. -/
import Derived.Test.YtobdajealbhjmaaGreatDoorAd
namespace Go.Ai
def ttEq : TT Nat → TT Nat → Bool
  | .e, .e => true
  | .n l v r, .n l' v' r' => (match v, v' with
    | none, none => true
    | some x, some y => Nat.beq x y
    | _, _ => false) && (ttEq l l' && ttEq r r')
  | _, _ => false
theorem ttEq_ok : ∀ (x y : TT Nat), ttEq x y = true → x = y
  | .e, y, h => by cases y <;> simp [ttEq] at h; rfl
  | .n l v r, y, h => by
    cases y with
    | e => simp [ttEq] at h
    | n l' v' r' =>
      simp only [ttEq, Bool.and_eq_true] at h
      rw [ttEq_ok l _ h.2.1, ttEq_ok r _ h.2.2]
      cases v <;> cases v' <;> simp at h
      · rfl
      · rw [h.1]
def aoEq : AO → AO → Bool
  | .pm l n t, .pm l' n' t' => Nat.beq l l' && (Nat.beq n n' && ttEq t t')
  | x, y => AO.beq x y
theorem aoEq_ok (x y : AO) (h : aoEq x y = true) : x = y := by
  unfold aoEq at h
  split at h
  · simp only [Bool.and_eq_true] at h
    rw [beq_true h.1, beq_true h.2.1, ttEq_ok _ _ h.2.2]
  · exact AO.beq_ok _ _ h
noncomputable def treeOf : List (Nat × AO) → TT AO
  | [] => .e
  | (a, o) :: l => (treeOf l).set o a
noncomputable def hpOf (l : List (Nat × AO)) (n : Nat) : Heap := ⟨treeOf l, n⟩
noncomputable def sub : List (Nat × AO) → Heap → Bool
  | [], _ => true
  | (a, o) :: l, H => (match H.t.get a with
    | some o' => aoEq o o'
    | none => false) && sub l H
theorem treeOf_get : ∀ (l : List (Nat × AO)) (a : Nat) (o : AO), (treeOf l).get a = some o → (a, o) ∈ l
  | [], a, o, h => by simp [treeOf, TT.get_e] at h
  | (b, p) :: l, a, o, h => by
    simp only [treeOf, TT.get_set] at h
    by_cases e : a = b
    · rw [if_pos e] at h; cases h; subst e; simp
    · rw [if_neg e] at h
      exact List.mem_cons_of_mem _ (treeOf_get l a o h)
theorem sub_ok : ∀ (l : List (Nat × AO)) (H : Heap), sub l H = true → ∀ p ∈ l, H.t.get p.1 = some p.2
  | (b, q) :: l, H, h, p, hp => by
    simp only [sub, Bool.and_eq_true] at h
    rcases List.mem_cons.1 hp with rfl | h1
    · have h2 := h.1
      split at h2
      · rename_i o' ho
        rw [ho, aoEq_ok _ _ h2]
      · cases h2
    · exact sub_ok l H h.2 p h1
theorem sub_get {l : List (Nat × AO)} {n : Nat} {H : Heap} (h : sub l H = true) {a : Nat} {o : AO} (ho : (hpOf l n).t.get a = some o) : H.t.get a = some o := sub_ok l H h _ (treeOf_get l a o ho)
section
variable {P : Program} {env : Nat → Value} {ng ro : Nat} {ρ ρ' : Ren} {w w' : World}
theorem Rel.sub {H : Heap} (r : Rel env ρ H w) {l : List (Nat × AO)} (h : sub l H = true) : Rel env ρ (hpOf l H.nx) w := by
  refine ⟨fun a o c x h1 h2 => r.obj a o c x (sub_get h h1) h2, fun a a' o o' c x x' h1 h2 h3 h4 => r.inj a a' o o' c x x' (sub_get h h1) (sub_get h h2) h3 h4, fun a ha => ⟨(r.new a ha).1, ?_⟩, r.one⟩
  cases hc : (hpOf l H.nx).t.get a with
  | none => rfl
  | some o =>
    have := sub_get h hc
    rw [(r.new a ha).2] at this; cases this
theorem Img.sub {lo : Nat} {H : Heap} {l : List (Nat × AO)} {n : Nat} (h : sub l H = true) {c : Nat} (hi : Img lo ρ (hpOf l n) c) : Img lo ρ H c := by
  obtain ⟨a, o, x, h1, h2, h3⟩ := hi
  exact ⟨a, o, x, h1, sub_get h h2, h3⟩
theorem Step.sub {H H1 : Heap} {l l' : List (Nat × AO)} (h : sub l H = true) (h' : sub l' H1 = true) (s : Step env ro ρ (hpOf l H.nx) w ρ' H1 w') : Step env ro ρ H w ρ' (hpOf l' H1.nx) w' where
  rel := s.rel.sub h'
  old := s.old
  nx := s.nx
  img := fun lo c hl hc => (s.img lo c hl (Img.sub h' hc)).imp (Img.sub h) id
  keep := fun c hc hn => s.keep c hc (fun hi => hn (Img.sub h hi))
  size := s.size
  os := s.os
  tape := s.tape
  output := s.output
noncomputable def chk (r : Option (AV × Heap)) (v : AV) (l : List (Nat × AO)) (n : Nat) : Bool :=
  match r with
  | some (v1, H1) => avEq v1 v && (Nat.beq H1.nx n && sub l H1)
  | none => false
theorem chk_some {r : Option (AV × Heap)} {v : AV} {l : List (Nat × AO)} {n : Nat} (h : chk r v l n = true) : ∃ H1, r = some (v, H1) := by
  cases r with
  | none => cases h
  | some p =>
    obtain ⟨v1, H1⟩ := p
    simp only [chk, Bool.and_eq_true] at h
    exact ⟨H1, by rw [avEq_ok _ _ h.1]⟩
noncomputable def memo (ags : List AV) (l : List (Nat × AO)) (n : Nat) (v : AV) (l' : List (Nat × AO)) (n' : Nat) (args : List AV) (H : Heap) : Option (AV × Heap) :=
  bif avEqs args ags && (Nat.beq H.nx n && sub l H) then some (v, hpOf l' n') else none
def SumIs (P : Program) (env : Nat → Value) (ro ng : Nat) (f : FuncId) (g : List AV → Heap → Option (AV × Heap)) : Prop :=
  ∀ (args : List AV) (us : List Value) (H : Heap) (w : World) (ρ : Ren) (v : AV) (H' : Heap), Rel env ρ H w → GOK ng ρ → VRs ρ env args us → g args H = some (v, H') →
    Calls P f ⟨us⟩ w fun e w' => ∃ u ρ', e = .returned u ∧ VR ρ' env v u ∧ Step env ro ρ H w ρ' H' w'
theorem memo_ok {F : FuncId → List AV → Heap → Option (AV × Heap)} (hF : CallOK P env ro ng F) {f : FuncId} {ags : List AV} {l l' : List (Nat × AO)} {n n' : Nat} {v : AV} (h : chk (F f ags (hpOf l n)) v l' n' = true) : SumIs P env ro ng f (memo ags l n v l' n') := by
  intro args us H w ρ v2 H' r hg ha hm
  unfold memo at hm
  cases hq : avEqs args ags && (Nat.beq H.nx n && sub l H) with
  | false => rw [hq] at hm; cases hm
  | true =>
    rw [hq] at hm; cases hm
    simp only [Bool.and_eq_true] at hq
    obtain ⟨h1, h2, h3⟩ := hq
    have h1 := avEqs_ok _ _ h1
    have h2 := beq_true h2
    subst h1 h2
    unfold chk at h
    split at h
    · rename_i v1 H1 hr
      simp only [Bool.and_eq_true] at h
      obtain ⟨h4, h5, h6⟩ := h
      have h4 := avEq_ok _ _ h4
      have h5 := beq_true h5
      subst h4 h5
      refine (hF f args us (hpOf l H.nx) w ρ v1 H1 (r.sub h3) hg ha hr).mono fun e w' hq => ?_
      obtain ⟨u, ρ', rfl, h7, h8⟩ := hq
      exact ⟨u, ρ', rfl, h7, h8.sub h3 h6⟩
    · cases h
/-- the same where one argument is a number that is not known: it has been run at each -/
theorem memoK_ok {F : FuncId → List AV → Heap → Option (AV × Heap)} (hF : CallOK P env ro ng F) {f : FuncId} {asq bs : List AV} {l l' : List (Nat × AO)} {n n' : Nat} {v : AV} (hc : ∀ (ρ : Ren) (us : List Value), VRs ρ env asq us → VRs ρ env bs us) (h : chk (F f bs (hpOf l n)) v l' n' = true) : SumIs P env ro ng f (memo asq l n v l' n') := by
  intro args us H w ρ v2 H' r hg ha hm
  unfold memo at hm
  cases hq : avEqs args asq && (Nat.beq H.nx n && sub l H) with
  | false => rw [hq] at hm; cases hm
  | true =>
    rw [hq] at hm; cases hm
    simp only [Bool.and_eq_true] at hq
    obtain ⟨h1, h2, h3⟩ := hq
    have h1 := avEqs_ok _ _ h1
    have h2 := beq_true h2
    subst h1 h2
    unfold chk at h
    split at h
    · rename_i v1 H1 hr
      simp only [Bool.and_eq_true] at h
      obtain ⟨h4, h5, h6⟩ := h
      have h4 := avEq_ok _ _ h4
      have h5 := beq_true h5
      subst h4 h5
      refine (hF f bs us (hpOf l H.nx) w ρ v1 H1 (r.sub h3) hg (hc ρ us ha) hr).mono fun e w' hq => ?_
      obtain ⟨u, ρ', rfl, h7, h8⟩ := hq
      exact ⟨u, ρ', rfl, h7, h8.sub h3 h6⟩
    · cases h
def upto (p : Nat → Bool) (n : Nat) : Bool := Nat.rec true (fun k ih => p k && ih) n
theorem upto_ok {p : Nat → Bool} : ∀ {n : Nat}, upto p n = true → ∀ k, k < n → p k = true
  | 0, _, k, hk => absurd hk (Nat.not_lt_zero _)
  | n + 1, h, k, hk => by
    have h' : (p n && upto p n) = true := h
    rw [Bool.and_eq_true] at h'
    by_cases e : k = n
    · subst e; exact h'.1
    · exact upto_ok h'.2 k (by omega)
noncomputable def orS (g1 g2 : List AV → Heap → Option (AV × Heap)) (args : List AV) (H : Heap) : Option (AV × Heap) :=
  match g1 args H with
  | some r => some r
  | none => g2 args H
theorem orS_ok {f : FuncId} {g1 g2 : List AV → Heap → Option (AV × Heap)} (h1 : SumIs P env ro ng f g1) (h2 : SumIs P env ro ng f g2) : SumIs P env ro ng f (orS g1 g2) := by
  intro args us H w ρ v H' r hg ha hm
  unfold orS at hm
  split at hm
  · rename_i x hx
    cases hm
    exact h1 args us H w ρ v H' r hg ha hx
  · exact h2 args us H w ρ v H' r hg ha hm
end
end Go.Ai
/- Closures: what a program's text fixes is laid once, and the kernel remembers it. Quick trees. -/
namespace Go.Ai
/-- a function behind a constructor: the kernel brings the whole to its normal form once, and remembers that -/
structure Cl (α : Type) where
  run : α
section
variable {α : Type}
/-- reading at a place that is fixed -/
noncomputable def getF (f : Nat) : Nat → Cl (TT α → Option α) :=
  Nat.rec (motive := fun _ => Nat → Cl (TT α → Option α)) (fun _ => ⟨fun _ => none⟩)
    (fun _ ih k => Bool.rec (Bool.rec
        ⟨fun t => TT.rec (motive := fun _ => Option α) none (fun l _ _ _ _ => Cl.rec (motive := fun _ => Option α) (fun g => g l) (ih (Nat.div k 2))) t⟩
        ⟨fun t => TT.rec (motive := fun _ => Option α) none (fun _ _ r _ _ => Cl.rec (motive := fun _ => Option α) (fun g => g r) (ih (Nat.div (Nat.pred k) 2))) t⟩ (Nat.beq (Nat.mod k 2) 0))
      ⟨fun t => TT.rec (motive := fun _ => Option α) none (fun _ v _ _ _ => v) t⟩ (Nat.beq k 0)) f
theorem Cl.rec_eq {β : Type} (g : α → β) (c : Cl α) : Cl.rec (motive := fun _ => β) g c = g c.run := rfl
theorem getF_eq : ∀ (f k : Nat) (t : TT α), k < f → (getF f k).run t = t.get k := by
  intro f
  induction f with
  | zero => intro k t h; omega
  | succ f ih =>
    intro k t h
    show (Cl.run (Bool.rec (Bool.rec ⟨fun t => TT.rec (motive := fun _ => Option α) none (fun l _ _ _ _ => (getF f (k / 2)).run l) t⟩ ⟨fun t => TT.rec (motive := fun _ => Option α) none (fun _ _ r _ _ => (getF f ((k - 1) / 2)).run r) t⟩ (Nat.beq (k % 2) 0)) ⟨fun t => TT.rec (motive := fun _ => Option α) none (fun _ v _ _ _ => v) t⟩ (Nat.beq k 0) : Cl (TT α → Option α))) t = _
    cases t with
    | e =>
      rw [TT.get_e]
      cases Nat.beq k 0 <;> cases Nat.beq (k % 2) 0 <;> rfl
    | n l v r =>
      rw [TT.get_n]
      by_cases hk : k = 0
      · subst hk; rfl
      · have h1 : Nat.beq k 0 = false := by cases hb : Nat.beq k 0 with | false => rfl | true => exact absurd (Nat.eq_of_beq_eq_true hb) hk
        rw [h1, if_neg hk]
        by_cases h2 : k % 2 = 0
        · rw [h2, if_pos rfl]
          show (getF f ((k - 1) / 2)).run r = _
          exact ih _ _ (by omega)
        · have h3 : Nat.beq (k % 2) 0 = false := by cases hb : Nat.beq (k % 2) 0 with | false => rfl | true => exact absurd (Nat.eq_of_beq_eq_true hb) h2
          rw [h3, if_neg h2]
          show (getF f (k / 2)).run l = _
          exact ih _ _ (by omega)
noncomputable def setF (f : Nat) : Nat → Cl (α → TT α → TT α) :=
  Nat.rec (motive := fun _ => Nat → Cl (α → TT α → TT α)) (fun _ => ⟨fun _ t => t⟩)
    (fun _ ih k => Bool.rec (Bool.rec
        ⟨fun x t => TT.rec (motive := fun _ => TT α) (TT.single x (Nat.succ k) k) (fun l v r _ _ => .n (Cl.rec (motive := fun _ => TT α) (fun g => g x l) (ih (Nat.div k 2))) v r) t⟩
        ⟨fun x t => TT.rec (motive := fun _ => TT α) (TT.single x (Nat.succ k) k) (fun l v r _ _ => .n l v (Cl.rec (motive := fun _ => TT α) (fun g => g x r) (ih (Nat.div (Nat.pred k) 2)))) t⟩ (Nat.beq (Nat.mod k 2) 0))
      ⟨fun x t => TT.rec (motive := fun _ => TT α) (TT.single x (Nat.succ k) k) (fun l _ r _ _ => .n l (some x) r) t⟩ (Nat.beq k 0)) f
theorem setF_eq : ∀ (f k : Nat) (x : α) (t : TT α), k < f → (setF f k).run x t = t.set x k := by
  intro f
  induction f with
  | zero => intro k x t h; omega
  | succ f ih =>
    intro k x t h
    show (Cl.run (Bool.rec (Bool.rec ⟨fun x t => TT.rec (motive := fun _ => TT α) (TT.single x (k + 1) k) (fun l v r _ _ => .n ((setF f (k / 2)).run x l) v r) t⟩ ⟨fun x t => TT.rec (motive := fun _ => TT α) (TT.single x (k + 1) k) (fun l v r _ _ => .n l v ((setF f ((k - 1) / 2)).run x r)) t⟩ (Nat.beq (k % 2) 0)) ⟨fun x t => TT.rec (motive := fun _ => TT α) (TT.single x (k + 1) k) (fun l _ r _ _ => .n l (some x) r) t⟩ (Nat.beq k 0) : Cl (α → TT α → TT α))) x t = _
    cases t with
    | e =>
      rw [TT.set_e]
      cases Nat.beq k 0 <;> cases Nat.beq (k % 2) 0 <;> rfl
    | n l v r =>
      rw [TT.set_n]
      by_cases hk : k = 0
      · subst hk; rfl
      · have h1 : Nat.beq k 0 = false := by cases hb : Nat.beq k 0 with | false => rfl | true => exact absurd (Nat.eq_of_beq_eq_true hb) hk
        rw [h1, if_neg hk]
        by_cases h2 : k % 2 = 0
        · rw [h2, if_pos rfl]
          show TT.n l v ((setF f ((k - 1) / 2)).run x r) = _
          rw [ih _ _ _ (by omega)]
        · have h3 : Nat.beq (k % 2) 0 = false := by cases hb : Nat.beq (k % 2) 0 with | false => rfl | true => exact absurd (Nat.eq_of_beq_eq_true hb) h2
          rw [h3, if_neg h2]
          show TT.n ((setF f (k / 2)).run x l) v r = _
          rw [ih _ _ _ (by omega)]
/-- at a place that is known only when it runs: closures by number, remembered as long as the number is a literal -/
noncomputable def gL (c : Cl (TT α → Option α)) : Cl (TT α → Option α) := Cl.rec (motive := fun _ => Cl (TT α → Option α)) (fun g => ⟨fun t => TT.rec (motive := fun _ => Option α) none (fun l _ _ _ _ => g l) t⟩) c
noncomputable def gR (c : Cl (TT α → Option α)) : Cl (TT α → Option α) := Cl.rec (motive := fun _ => Cl (TT α → Option α)) (fun g => ⟨fun t => TT.rec (motive := fun _ => Option α) none (fun _ _ r _ _ => g r) t⟩) c
noncomputable def gC (f : Nat) : Nat → Cl (TT α → Option α) :=
  Nat.rec (motive := fun _ => Nat → Cl (TT α → Option α)) (fun _ => ⟨fun _ => none⟩)
    (fun _ ih k => Nat.rec (motive := fun _ => Cl (TT α → Option α)) ⟨fun t => TT.rec (motive := fun _ => Option α) none (fun _ v _ _ _ => v) t⟩
      (fun j _ => Nat.rec (motive := fun _ => Nat → Cl (TT α → Option α)) (fun m => Nat.rec (motive := fun _ => Cl (TT α → Option α)) (gL (ih 0)) (fun q _ => gL (ih (Nat.succ q))) m) (fun _ _ m => Nat.rec (motive := fun _ => Cl (TT α → Option α)) (gR (ih 0)) (fun q _ => gR (ih (Nat.succ q))) m) (Nat.mod j 2) (Nat.div j 2)) k) f
theorem gC_eq : ∀ (f k : Nat) (t : TT α), k < 2 ^ f - 1 → (gC f k).run t = t.get k := by
  intro f
  induction f with
  | zero => intro k t h; simp at h
  | succ f ih =>
    intro k t h
    cases k with
    | zero =>
      cases t with
      | e => rfl
      | n l v r => rfl
    | succ j =>
      have hlt : j / 2 < 2 ^ f - 1 := by rw [Nat.pow_succ] at h; omega
      show (Cl.run (Nat.rec (motive := fun _ => Nat → Cl (TT α → Option α)) (fun m => Nat.rec (motive := fun _ => Cl (TT α → Option α)) (gL (gC f 0)) (fun q _ => gL (gC f (Nat.succ q))) m) (fun _ _ m => Nat.rec (motive := fun _ => Cl (TT α → Option α)) (gR (gC f 0)) (fun q _ => gR (gC f (Nat.succ q))) m) (j % 2) (j / 2))) t = _
      have e1 : ∀ m, (Nat.rec (motive := fun _ => Cl (TT α → Option α)) (gL (gC f 0)) (fun q _ => gL (gC f (Nat.succ q))) m) = gL (gC f m) := fun m => by cases m <;> rfl
      have e2 : ∀ m, (Nat.rec (motive := fun _ => Cl (TT α → Option α)) (gR (gC f 0)) (fun q _ => gR (gC f (Nat.succ q))) m) = gR (gC f m) := fun m => by cases m <;> rfl
      simp only [e1, e2]
      rcases Nat.mod_two_eq_zero_or_one j with h2 | h2
      · rw [h2]
        show (gL (gC f (j / 2))).run t = _
        cases t with
        | e => rfl
        | n l v r =>
          rw [TT.get_n, if_neg (by omega), if_neg (by omega)]
          show (gC f (j / 2)).run l = _
          rw [ih _ _ hlt, show (j + 1) / 2 = j / 2 by omega]
      · rw [h2]
        show (gR (gC f (j / 2))).run t = _
        cases t with
        | e => rfl
        | n l v r =>
          rw [TT.get_n, if_neg (by omega), if_pos (by omega)]
          show (gC f (j / 2)).run r = _
          rw [ih _ _ hlt]; rfl
noncomputable def fget (t : TT α) (k : Nat) : Option α :=
  Nat.rec (motive := fun _ => Option α) ((gC 40 0).run t) (fun j _ => Bool.rec (motive := fun _ => Option α) (t.get (Nat.succ j)) ((gC 40 (Nat.succ j)).run t) (Nat.ble j 1000000000)) k
theorem fget_eq : ∀ (t : TT α) (k : Nat), fget t k = t.get k := by
  intro t k
  cases k with
  | zero => exact gC_eq 40 0 t (by decide)
  | succ j =>
    show Bool.rec (motive := fun _ => Option α) (t.get (Nat.succ j)) ((gC 40 (Nat.succ j)).run t) (Nat.ble j 1000000000) = _
    cases hb : Nat.ble j 1000000000 with
    | false => rfl
    | true =>
      have := Nat.le_of_ble_eq_true hb
      exact gC_eq 40 (j + 1) t (by omega)
noncomputable def sL (c : Cl (α → TT α → TT α)) (k : Nat) : Cl (α → TT α → TT α) := Cl.rec (motive := fun _ => Cl (α → TT α → TT α)) (fun g => ⟨fun x t => TT.rec (motive := fun _ => TT α) (TT.single x (Nat.succ k) k) (fun l v r _ _ => .n (g x l) v r) t⟩) c
noncomputable def sR (c : Cl (α → TT α → TT α)) (k : Nat) : Cl (α → TT α → TT α) := Cl.rec (motive := fun _ => Cl (α → TT α → TT α)) (fun g => ⟨fun x t => TT.rec (motive := fun _ => TT α) (TT.single x (Nat.succ k) k) (fun l v r _ _ => .n l v (g x r)) t⟩) c
noncomputable def sC (f : Nat) : Nat → Cl (α → TT α → TT α) :=
  Nat.rec (motive := fun _ => Nat → Cl (α → TT α → TT α)) (fun _ => ⟨fun _ t => t⟩)
    (fun _ ih k => Nat.rec (motive := fun _ => Cl (α → TT α → TT α)) ⟨fun x t => TT.rec (motive := fun _ => TT α) (.n .e (some x) .e) (fun l _ r _ _ => .n l (some x) r) t⟩
      (fun j _ => Nat.rec (motive := fun _ => Nat → Cl (α → TT α → TT α)) (fun m => Nat.rec (motive := fun _ => Cl (α → TT α → TT α)) (sL (ih 0) (Nat.succ j)) (fun q _ => sL (ih (Nat.succ q)) (Nat.succ j)) m) (fun _ _ m => Nat.rec (motive := fun _ => Cl (α → TT α → TT α)) (sR (ih 0) (Nat.succ j)) (fun q _ => sR (ih (Nat.succ q)) (Nat.succ j)) m) (Nat.mod j 2) (Nat.div j 2)) k) f
theorem sC_eq : ∀ (f k : Nat) (x : α) (t : TT α), k < 2 ^ f - 1 → (sC f k).run x t = t.set x k := by
  intro f
  induction f with
  | zero => intro k x t h; simp at h
  | succ f ih =>
    intro k x t h
    cases k with
    | zero =>
      cases t with
      | e => rfl
      | n l v r => rfl
    | succ j =>
      have hlt : j / 2 < 2 ^ f - 1 := by rw [Nat.pow_succ] at h; omega
      show (Cl.run (Nat.rec (motive := fun _ => Nat → Cl (α → TT α → TT α)) (fun m => Nat.rec (motive := fun _ => Cl (α → TT α → TT α)) (sL (sC f 0) (Nat.succ j)) (fun q _ => sL (sC f (Nat.succ q)) (Nat.succ j)) m) (fun _ _ m => Nat.rec (motive := fun _ => Cl (α → TT α → TT α)) (sR (sC f 0) (Nat.succ j)) (fun q _ => sR (sC f (Nat.succ q)) (Nat.succ j)) m) (j % 2) (j / 2))) x t = _
      have e1 : ∀ m, (Nat.rec (motive := fun _ => Cl (α → TT α → TT α)) (sL (sC f 0) (Nat.succ j)) (fun q _ => sL (sC f (Nat.succ q)) (Nat.succ j)) m) = sL (sC f m) (j + 1) := fun m => by cases m <;> rfl
      have e2 : ∀ m, (Nat.rec (motive := fun _ => Cl (α → TT α → TT α)) (sR (sC f 0) (Nat.succ j)) (fun q _ => sR (sC f (Nat.succ q)) (Nat.succ j)) m) = sR (sC f m) (j + 1) := fun m => by cases m <;> rfl
      simp only [e1, e2]
      rcases Nat.mod_two_eq_zero_or_one j with h2 | h2
      · rw [h2]
        show (sL (sC f (j / 2)) (j + 1)).run x t = _
        cases t with
        | e => rfl
        | n l v r =>
          rw [TT.set_n, if_neg (by omega), if_neg (by omega)]
          show TT.n ((sC f (j / 2)).run x l) v r = _
          rw [ih _ _ _ hlt, show (j + 1) / 2 = j / 2 by omega]
      · rw [h2]
        show (sR (sC f (j / 2)) (j + 1)).run x t = _
        cases t with
        | e => rfl
        | n l v r =>
          rw [TT.set_n, if_neg (by omega), if_pos (by omega)]
          show TT.n l v ((sC f (j / 2)).run x r) = _
          rw [ih _ _ _ hlt]; rfl
noncomputable def fset (t : TT α) (x : α) (k : Nat) : TT α :=
  Nat.rec (motive := fun _ => TT α) ((sC 40 0).run x t) (fun j _ => Bool.rec (motive := fun _ => TT α) (t.set x (Nat.succ j)) ((sC 40 (Nat.succ j)).run x t) (Nat.ble j 1000000000)) k
theorem fset_eq : ∀ (t : TT α) (x : α) (k : Nat), fset t x k = t.set x k := by
  intro t x k
  cases k with
  | zero => exact sC_eq 40 0 x t (by decide)
  | succ j =>
    show Bool.rec (motive := fun _ => TT α) (t.set x (Nat.succ j)) ((sC 40 (Nat.succ j)).run x t) (Nat.ble j 1000000000) = _
    cases hb : Nat.ble j 1000000000 with
    | false => rfl
    | true =>
      have := Nat.le_of_ble_eq_true hb
      exact sC_eq 40 (j + 1) x t (by omega)
end
end Go.Ai
/- Readers and writers of a frame at each place: printed by mkT.py. -/
namespace Go.Ai
namespace Tab
noncomputable def g0 : TT AV → Option AV := @TT.rec AV (fun _ => Option AV) none (fun _ v _ _ _ => v)
noncomputable def g1 : TT AV → Option AV := @TT.rec AV (fun _ => Option AV) none (fun l _ _ _ _ => (@TT.rec AV (fun _ => Option AV) none (fun _ v _ _ _ => v)) l)
noncomputable def g2 : TT AV → Option AV := @TT.rec AV (fun _ => Option AV) none (fun _ _ r _ _ => (@TT.rec AV (fun _ => Option AV) none (fun _ v _ _ _ => v)) r)
noncomputable def g3 : TT AV → Option AV := @TT.rec AV (fun _ => Option AV) none (fun l _ _ _ _ => (@TT.rec AV (fun _ => Option AV) none (fun l _ _ _ _ => g0 l)) l)
noncomputable def g4 : TT AV → Option AV := @TT.rec AV (fun _ => Option AV) none (fun _ _ r _ _ => (@TT.rec AV (fun _ => Option AV) none (fun l _ _ _ _ => g0 l)) r)
noncomputable def g5 : TT AV → Option AV := @TT.rec AV (fun _ => Option AV) none (fun l _ _ _ _ => (@TT.rec AV (fun _ => Option AV) none (fun _ _ r _ _ => g0 r)) l)
noncomputable def g6 : TT AV → Option AV := @TT.rec AV (fun _ => Option AV) none (fun _ _ r _ _ => (@TT.rec AV (fun _ => Option AV) none (fun _ _ r _ _ => g0 r)) r)
noncomputable def g7 : TT AV → Option AV := @TT.rec AV (fun _ => Option AV) none (fun l _ _ _ _ => (@TT.rec AV (fun _ => Option AV) none (fun l _ _ _ _ => g1 l)) l)
noncomputable def g8 : TT AV → Option AV := @TT.rec AV (fun _ => Option AV) none (fun _ _ r _ _ => (@TT.rec AV (fun _ => Option AV) none (fun l _ _ _ _ => g1 l)) r)
noncomputable def g9 : TT AV → Option AV := @TT.rec AV (fun _ => Option AV) none (fun l _ _ _ _ => (@TT.rec AV (fun _ => Option AV) none (fun _ _ r _ _ => g1 r)) l)
noncomputable def g10 : TT AV → Option AV := @TT.rec AV (fun _ => Option AV) none (fun _ _ r _ _ => (@TT.rec AV (fun _ => Option AV) none (fun _ _ r _ _ => g1 r)) r)
noncomputable def g11 : TT AV → Option AV := @TT.rec AV (fun _ => Option AV) none (fun l _ _ _ _ => (@TT.rec AV (fun _ => Option AV) none (fun l _ _ _ _ => g2 l)) l)
noncomputable def g12 : TT AV → Option AV := @TT.rec AV (fun _ => Option AV) none (fun _ _ r _ _ => (@TT.rec AV (fun _ => Option AV) none (fun l _ _ _ _ => g2 l)) r)
noncomputable def g13 : TT AV → Option AV := @TT.rec AV (fun _ => Option AV) none (fun l _ _ _ _ => (@TT.rec AV (fun _ => Option AV) none (fun _ _ r _ _ => g2 r)) l)
noncomputable def g14 : TT AV → Option AV := @TT.rec AV (fun _ => Option AV) none (fun _ _ r _ _ => (@TT.rec AV (fun _ => Option AV) none (fun _ _ r _ _ => g2 r)) r)
noncomputable def g15 : TT AV → Option AV := @TT.rec AV (fun _ => Option AV) none (fun l _ _ _ _ => (@TT.rec AV (fun _ => Option AV) none (fun l _ _ _ _ => g3 l)) l)
noncomputable def g16 : TT AV → Option AV := @TT.rec AV (fun _ => Option AV) none (fun _ _ r _ _ => (@TT.rec AV (fun _ => Option AV) none (fun l _ _ _ _ => g3 l)) r)
noncomputable def g17 : TT AV → Option AV := @TT.rec AV (fun _ => Option AV) none (fun l _ _ _ _ => (@TT.rec AV (fun _ => Option AV) none (fun _ _ r _ _ => g3 r)) l)
noncomputable def g18 : TT AV → Option AV := @TT.rec AV (fun _ => Option AV) none (fun _ _ r _ _ => (@TT.rec AV (fun _ => Option AV) none (fun _ _ r _ _ => g3 r)) r)
noncomputable def g19 : TT AV → Option AV := @TT.rec AV (fun _ => Option AV) none (fun l _ _ _ _ => (@TT.rec AV (fun _ => Option AV) none (fun l _ _ _ _ => g4 l)) l)
noncomputable def g20 : TT AV → Option AV := @TT.rec AV (fun _ => Option AV) none (fun _ _ r _ _ => (@TT.rec AV (fun _ => Option AV) none (fun l _ _ _ _ => g4 l)) r)
noncomputable def g21 : TT AV → Option AV := @TT.rec AV (fun _ => Option AV) none (fun l _ _ _ _ => (@TT.rec AV (fun _ => Option AV) none (fun _ _ r _ _ => g4 r)) l)
noncomputable def g22 : TT AV → Option AV := @TT.rec AV (fun _ => Option AV) none (fun _ _ r _ _ => (@TT.rec AV (fun _ => Option AV) none (fun _ _ r _ _ => g4 r)) r)
noncomputable def g23 : TT AV → Option AV := @TT.rec AV (fun _ => Option AV) none (fun l _ _ _ _ => (@TT.rec AV (fun _ => Option AV) none (fun l _ _ _ _ => g5 l)) l)
noncomputable def g24 : TT AV → Option AV := @TT.rec AV (fun _ => Option AV) none (fun _ _ r _ _ => (@TT.rec AV (fun _ => Option AV) none (fun l _ _ _ _ => g5 l)) r)
noncomputable def g25 : TT AV → Option AV := @TT.rec AV (fun _ => Option AV) none (fun l _ _ _ _ => (@TT.rec AV (fun _ => Option AV) none (fun _ _ r _ _ => g5 r)) l)
noncomputable def g26 : TT AV → Option AV := @TT.rec AV (fun _ => Option AV) none (fun _ _ r _ _ => (@TT.rec AV (fun _ => Option AV) none (fun _ _ r _ _ => g5 r)) r)
noncomputable def g27 : TT AV → Option AV := @TT.rec AV (fun _ => Option AV) none (fun l _ _ _ _ => (@TT.rec AV (fun _ => Option AV) none (fun l _ _ _ _ => g6 l)) l)
noncomputable def g28 : TT AV → Option AV := @TT.rec AV (fun _ => Option AV) none (fun _ _ r _ _ => (@TT.rec AV (fun _ => Option AV) none (fun l _ _ _ _ => g6 l)) r)
noncomputable def g29 : TT AV → Option AV := @TT.rec AV (fun _ => Option AV) none (fun l _ _ _ _ => (@TT.rec AV (fun _ => Option AV) none (fun _ _ r _ _ => g6 r)) l)
noncomputable def g30 : TT AV → Option AV := @TT.rec AV (fun _ => Option AV) none (fun _ _ r _ _ => (@TT.rec AV (fun _ => Option AV) none (fun _ _ r _ _ => g6 r)) r)
noncomputable def g31 : TT AV → Option AV := @TT.rec AV (fun _ => Option AV) none (fun l _ _ _ _ => (@TT.rec AV (fun _ => Option AV) none (fun l _ _ _ _ => g7 l)) l)
noncomputable def g32 : TT AV → Option AV := @TT.rec AV (fun _ => Option AV) none (fun _ _ r _ _ => (@TT.rec AV (fun _ => Option AV) none (fun l _ _ _ _ => g7 l)) r)
noncomputable def g33 : TT AV → Option AV := @TT.rec AV (fun _ => Option AV) none (fun l _ _ _ _ => (@TT.rec AV (fun _ => Option AV) none (fun _ _ r _ _ => g7 r)) l)
noncomputable def g34 : TT AV → Option AV := @TT.rec AV (fun _ => Option AV) none (fun _ _ r _ _ => (@TT.rec AV (fun _ => Option AV) none (fun _ _ r _ _ => g7 r)) r)
noncomputable def g35 : TT AV → Option AV := @TT.rec AV (fun _ => Option AV) none (fun l _ _ _ _ => (@TT.rec AV (fun _ => Option AV) none (fun l _ _ _ _ => g8 l)) l)
noncomputable def g36 : TT AV → Option AV := @TT.rec AV (fun _ => Option AV) none (fun _ _ r _ _ => (@TT.rec AV (fun _ => Option AV) none (fun l _ _ _ _ => g8 l)) r)
noncomputable def g37 : TT AV → Option AV := @TT.rec AV (fun _ => Option AV) none (fun l _ _ _ _ => (@TT.rec AV (fun _ => Option AV) none (fun _ _ r _ _ => g8 r)) l)
noncomputable def g38 : TT AV → Option AV := @TT.rec AV (fun _ => Option AV) none (fun _ _ r _ _ => (@TT.rec AV (fun _ => Option AV) none (fun _ _ r _ _ => g8 r)) r)
noncomputable def g39 : TT AV → Option AV := @TT.rec AV (fun _ => Option AV) none (fun l _ _ _ _ => (@TT.rec AV (fun _ => Option AV) none (fun l _ _ _ _ => g9 l)) l)
noncomputable def g40 : TT AV → Option AV := @TT.rec AV (fun _ => Option AV) none (fun _ _ r _ _ => (@TT.rec AV (fun _ => Option AV) none (fun l _ _ _ _ => g9 l)) r)
noncomputable def g41 : TT AV → Option AV := @TT.rec AV (fun _ => Option AV) none (fun l _ _ _ _ => (@TT.rec AV (fun _ => Option AV) none (fun _ _ r _ _ => g9 r)) l)
noncomputable def g42 : TT AV → Option AV := @TT.rec AV (fun _ => Option AV) none (fun _ _ r _ _ => (@TT.rec AV (fun _ => Option AV) none (fun _ _ r _ _ => g9 r)) r)
noncomputable def g43 : TT AV → Option AV := @TT.rec AV (fun _ => Option AV) none (fun l _ _ _ _ => (@TT.rec AV (fun _ => Option AV) none (fun l _ _ _ _ => g10 l)) l)
noncomputable def g44 : TT AV → Option AV := @TT.rec AV (fun _ => Option AV) none (fun _ _ r _ _ => (@TT.rec AV (fun _ => Option AV) none (fun l _ _ _ _ => g10 l)) r)
noncomputable def g45 : TT AV → Option AV := @TT.rec AV (fun _ => Option AV) none (fun l _ _ _ _ => (@TT.rec AV (fun _ => Option AV) none (fun _ _ r _ _ => g10 r)) l)
noncomputable def g46 : TT AV → Option AV := @TT.rec AV (fun _ => Option AV) none (fun _ _ r _ _ => (@TT.rec AV (fun _ => Option AV) none (fun _ _ r _ _ => g10 r)) r)
noncomputable def g47 : TT AV → Option AV := @TT.rec AV (fun _ => Option AV) none (fun l _ _ _ _ => (@TT.rec AV (fun _ => Option AV) none (fun l _ _ _ _ => g11 l)) l)
noncomputable def g48 : TT AV → Option AV := @TT.rec AV (fun _ => Option AV) none (fun _ _ r _ _ => (@TT.rec AV (fun _ => Option AV) none (fun l _ _ _ _ => g11 l)) r)
noncomputable def g49 : TT AV → Option AV := @TT.rec AV (fun _ => Option AV) none (fun l _ _ _ _ => (@TT.rec AV (fun _ => Option AV) none (fun _ _ r _ _ => g11 r)) l)
noncomputable def g50 : TT AV → Option AV := @TT.rec AV (fun _ => Option AV) none (fun _ _ r _ _ => (@TT.rec AV (fun _ => Option AV) none (fun _ _ r _ _ => g11 r)) r)
noncomputable def g51 : TT AV → Option AV := @TT.rec AV (fun _ => Option AV) none (fun l _ _ _ _ => (@TT.rec AV (fun _ => Option AV) none (fun l _ _ _ _ => g12 l)) l)
noncomputable def g52 : TT AV → Option AV := @TT.rec AV (fun _ => Option AV) none (fun _ _ r _ _ => (@TT.rec AV (fun _ => Option AV) none (fun l _ _ _ _ => g12 l)) r)
noncomputable def g53 : TT AV → Option AV := @TT.rec AV (fun _ => Option AV) none (fun l _ _ _ _ => (@TT.rec AV (fun _ => Option AV) none (fun _ _ r _ _ => g12 r)) l)
noncomputable def g54 : TT AV → Option AV := @TT.rec AV (fun _ => Option AV) none (fun _ _ r _ _ => (@TT.rec AV (fun _ => Option AV) none (fun _ _ r _ _ => g12 r)) r)
noncomputable def g55 : TT AV → Option AV := @TT.rec AV (fun _ => Option AV) none (fun l _ _ _ _ => (@TT.rec AV (fun _ => Option AV) none (fun l _ _ _ _ => g13 l)) l)
noncomputable def g56 : TT AV → Option AV := @TT.rec AV (fun _ => Option AV) none (fun _ _ r _ _ => (@TT.rec AV (fun _ => Option AV) none (fun l _ _ _ _ => g13 l)) r)
noncomputable def g57 : TT AV → Option AV := @TT.rec AV (fun _ => Option AV) none (fun l _ _ _ _ => (@TT.rec AV (fun _ => Option AV) none (fun _ _ r _ _ => g13 r)) l)
noncomputable def g58 : TT AV → Option AV := @TT.rec AV (fun _ => Option AV) none (fun _ _ r _ _ => (@TT.rec AV (fun _ => Option AV) none (fun _ _ r _ _ => g13 r)) r)
noncomputable def g59 : TT AV → Option AV := @TT.rec AV (fun _ => Option AV) none (fun l _ _ _ _ => (@TT.rec AV (fun _ => Option AV) none (fun l _ _ _ _ => g14 l)) l)
noncomputable def g60 : TT AV → Option AV := @TT.rec AV (fun _ => Option AV) none (fun _ _ r _ _ => (@TT.rec AV (fun _ => Option AV) none (fun l _ _ _ _ => g14 l)) r)
noncomputable def g61 : TT AV → Option AV := @TT.rec AV (fun _ => Option AV) none (fun l _ _ _ _ => (@TT.rec AV (fun _ => Option AV) none (fun _ _ r _ _ => g14 r)) l)
noncomputable def g62 : TT AV → Option AV := @TT.rec AV (fun _ => Option AV) none (fun _ _ r _ _ => (@TT.rec AV (fun _ => Option AV) none (fun _ _ r _ _ => g14 r)) r)
noncomputable def g63 : TT AV → Option AV := @TT.rec AV (fun _ => Option AV) none (fun l _ _ _ _ => (@TT.rec AV (fun _ => Option AV) none (fun l _ _ _ _ => g15 l)) l)
noncomputable def s0 : TT AV → AV → TT AV := @TT.rec AV (fun _ => AV → TT AV) (fun v => .n .e (some v) .e) (fun l _ r _ _ v => .n l (some v) r)
noncomputable def s1 : TT AV → AV → TT AV := @TT.rec AV (fun _ => AV → TT AV) (fun v => .n (.n .e (some v) .e) none .e) (fun l o r _ _ v => .n ((@TT.rec AV (fun _ => AV → TT AV) (fun v => .n .e (some v) .e) (fun l _ r _ _ v => .n l (some v) r)) l v) o r)
noncomputable def s2 : TT AV → AV → TT AV := @TT.rec AV (fun _ => AV → TT AV) (fun v => .n .e none (.n .e (some v) .e)) (fun l o r _ _ v => .n l o ((@TT.rec AV (fun _ => AV → TT AV) (fun v => .n .e (some v) .e) (fun l _ r _ _ v => .n l (some v) r)) r v))
noncomputable def s3 : TT AV → AV → TT AV := @TT.rec AV (fun _ => AV → TT AV) (fun v => .n (.n (.n .e (some v) .e) none .e) none .e) (fun l o r _ _ v => .n ((@TT.rec AV (fun _ => AV → TT AV) (fun v => .n (.n .e (some v) .e) none .e) (fun l o r _ _ v => .n (s0 l v) o r)) l v) o r)
noncomputable def s4 : TT AV → AV → TT AV := @TT.rec AV (fun _ => AV → TT AV) (fun v => .n .e none (.n (.n .e (some v) .e) none .e)) (fun l o r _ _ v => .n l o ((@TT.rec AV (fun _ => AV → TT AV) (fun v => .n (.n .e (some v) .e) none .e) (fun l o r _ _ v => .n (s0 l v) o r)) r v))
noncomputable def s5 : TT AV → AV → TT AV := @TT.rec AV (fun _ => AV → TT AV) (fun v => .n (.n .e none (.n .e (some v) .e)) none .e) (fun l o r _ _ v => .n ((@TT.rec AV (fun _ => AV → TT AV) (fun v => .n .e none (.n .e (some v) .e)) (fun l o r _ _ v => .n l o (s0 r v))) l v) o r)
noncomputable def s6 : TT AV → AV → TT AV := @TT.rec AV (fun _ => AV → TT AV) (fun v => .n .e none (.n .e none (.n .e (some v) .e))) (fun l o r _ _ v => .n l o ((@TT.rec AV (fun _ => AV → TT AV) (fun v => .n .e none (.n .e (some v) .e)) (fun l o r _ _ v => .n l o (s0 r v))) r v))
noncomputable def s7 : TT AV → AV → TT AV := @TT.rec AV (fun _ => AV → TT AV) (fun v => .n (.n (.n (.n .e (some v) .e) none .e) none .e) none .e) (fun l o r _ _ v => .n ((@TT.rec AV (fun _ => AV → TT AV) (fun v => .n (.n (.n .e (some v) .e) none .e) none .e) (fun l o r _ _ v => .n (s1 l v) o r)) l v) o r)
noncomputable def s8 : TT AV → AV → TT AV := @TT.rec AV (fun _ => AV → TT AV) (fun v => .n .e none (.n (.n (.n .e (some v) .e) none .e) none .e)) (fun l o r _ _ v => .n l o ((@TT.rec AV (fun _ => AV → TT AV) (fun v => .n (.n (.n .e (some v) .e) none .e) none .e) (fun l o r _ _ v => .n (s1 l v) o r)) r v))
noncomputable def s9 : TT AV → AV → TT AV := @TT.rec AV (fun _ => AV → TT AV) (fun v => .n (.n .e none (.n (.n .e (some v) .e) none .e)) none .e) (fun l o r _ _ v => .n ((@TT.rec AV (fun _ => AV → TT AV) (fun v => .n .e none (.n (.n .e (some v) .e) none .e)) (fun l o r _ _ v => .n l o (s1 r v))) l v) o r)
noncomputable def s10 : TT AV → AV → TT AV := @TT.rec AV (fun _ => AV → TT AV) (fun v => .n .e none (.n .e none (.n (.n .e (some v) .e) none .e))) (fun l o r _ _ v => .n l o ((@TT.rec AV (fun _ => AV → TT AV) (fun v => .n .e none (.n (.n .e (some v) .e) none .e)) (fun l o r _ _ v => .n l o (s1 r v))) r v))
noncomputable def s11 : TT AV → AV → TT AV := @TT.rec AV (fun _ => AV → TT AV) (fun v => .n (.n (.n .e none (.n .e (some v) .e)) none .e) none .e) (fun l o r _ _ v => .n ((@TT.rec AV (fun _ => AV → TT AV) (fun v => .n (.n .e none (.n .e (some v) .e)) none .e) (fun l o r _ _ v => .n (s2 l v) o r)) l v) o r)
noncomputable def s12 : TT AV → AV → TT AV := @TT.rec AV (fun _ => AV → TT AV) (fun v => .n .e none (.n (.n .e none (.n .e (some v) .e)) none .e)) (fun l o r _ _ v => .n l o ((@TT.rec AV (fun _ => AV → TT AV) (fun v => .n (.n .e none (.n .e (some v) .e)) none .e) (fun l o r _ _ v => .n (s2 l v) o r)) r v))
noncomputable def s13 : TT AV → AV → TT AV := @TT.rec AV (fun _ => AV → TT AV) (fun v => .n (.n .e none (.n .e none (.n .e (some v) .e))) none .e) (fun l o r _ _ v => .n ((@TT.rec AV (fun _ => AV → TT AV) (fun v => .n .e none (.n .e none (.n .e (some v) .e))) (fun l o r _ _ v => .n l o (s2 r v))) l v) o r)
noncomputable def s14 : TT AV → AV → TT AV := @TT.rec AV (fun _ => AV → TT AV) (fun v => .n .e none (.n .e none (.n .e none (.n .e (some v) .e)))) (fun l o r _ _ v => .n l o ((@TT.rec AV (fun _ => AV → TT AV) (fun v => .n .e none (.n .e none (.n .e (some v) .e))) (fun l o r _ _ v => .n l o (s2 r v))) r v))
noncomputable def s15 : TT AV → AV → TT AV := @TT.rec AV (fun _ => AV → TT AV) (fun v => .n (.n (.n (.n (.n .e (some v) .e) none .e) none .e) none .e) none .e) (fun l o r _ _ v => .n ((@TT.rec AV (fun _ => AV → TT AV) (fun v => .n (.n (.n (.n .e (some v) .e) none .e) none .e) none .e) (fun l o r _ _ v => .n (s3 l v) o r)) l v) o r)
noncomputable def s16 : TT AV → AV → TT AV := @TT.rec AV (fun _ => AV → TT AV) (fun v => .n .e none (.n (.n (.n (.n .e (some v) .e) none .e) none .e) none .e)) (fun l o r _ _ v => .n l o ((@TT.rec AV (fun _ => AV → TT AV) (fun v => .n (.n (.n (.n .e (some v) .e) none .e) none .e) none .e) (fun l o r _ _ v => .n (s3 l v) o r)) r v))
noncomputable def s17 : TT AV → AV → TT AV := @TT.rec AV (fun _ => AV → TT AV) (fun v => .n (.n .e none (.n (.n (.n .e (some v) .e) none .e) none .e)) none .e) (fun l o r _ _ v => .n ((@TT.rec AV (fun _ => AV → TT AV) (fun v => .n .e none (.n (.n (.n .e (some v) .e) none .e) none .e)) (fun l o r _ _ v => .n l o (s3 r v))) l v) o r)
noncomputable def s18 : TT AV → AV → TT AV := @TT.rec AV (fun _ => AV → TT AV) (fun v => .n .e none (.n .e none (.n (.n (.n .e (some v) .e) none .e) none .e))) (fun l o r _ _ v => .n l o ((@TT.rec AV (fun _ => AV → TT AV) (fun v => .n .e none (.n (.n (.n .e (some v) .e) none .e) none .e)) (fun l o r _ _ v => .n l o (s3 r v))) r v))
noncomputable def s19 : TT AV → AV → TT AV := @TT.rec AV (fun _ => AV → TT AV) (fun v => .n (.n (.n .e none (.n (.n .e (some v) .e) none .e)) none .e) none .e) (fun l o r _ _ v => .n ((@TT.rec AV (fun _ => AV → TT AV) (fun v => .n (.n .e none (.n (.n .e (some v) .e) none .e)) none .e) (fun l o r _ _ v => .n (s4 l v) o r)) l v) o r)
noncomputable def s20 : TT AV → AV → TT AV := @TT.rec AV (fun _ => AV → TT AV) (fun v => .n .e none (.n (.n .e none (.n (.n .e (some v) .e) none .e)) none .e)) (fun l o r _ _ v => .n l o ((@TT.rec AV (fun _ => AV → TT AV) (fun v => .n (.n .e none (.n (.n .e (some v) .e) none .e)) none .e) (fun l o r _ _ v => .n (s4 l v) o r)) r v))
noncomputable def s21 : TT AV → AV → TT AV := @TT.rec AV (fun _ => AV → TT AV) (fun v => .n (.n .e none (.n .e none (.n (.n .e (some v) .e) none .e))) none .e) (fun l o r _ _ v => .n ((@TT.rec AV (fun _ => AV → TT AV) (fun v => .n .e none (.n .e none (.n (.n .e (some v) .e) none .e))) (fun l o r _ _ v => .n l o (s4 r v))) l v) o r)
noncomputable def s22 : TT AV → AV → TT AV := @TT.rec AV (fun _ => AV → TT AV) (fun v => .n .e none (.n .e none (.n .e none (.n (.n .e (some v) .e) none .e)))) (fun l o r _ _ v => .n l o ((@TT.rec AV (fun _ => AV → TT AV) (fun v => .n .e none (.n .e none (.n (.n .e (some v) .e) none .e))) (fun l o r _ _ v => .n l o (s4 r v))) r v))
noncomputable def s23 : TT AV → AV → TT AV := @TT.rec AV (fun _ => AV → TT AV) (fun v => .n (.n (.n (.n .e none (.n .e (some v) .e)) none .e) none .e) none .e) (fun l o r _ _ v => .n ((@TT.rec AV (fun _ => AV → TT AV) (fun v => .n (.n (.n .e none (.n .e (some v) .e)) none .e) none .e) (fun l o r _ _ v => .n (s5 l v) o r)) l v) o r)
noncomputable def s24 : TT AV → AV → TT AV := @TT.rec AV (fun _ => AV → TT AV) (fun v => .n .e none (.n (.n (.n .e none (.n .e (some v) .e)) none .e) none .e)) (fun l o r _ _ v => .n l o ((@TT.rec AV (fun _ => AV → TT AV) (fun v => .n (.n (.n .e none (.n .e (some v) .e)) none .e) none .e) (fun l o r _ _ v => .n (s5 l v) o r)) r v))
noncomputable def s25 : TT AV → AV → TT AV := @TT.rec AV (fun _ => AV → TT AV) (fun v => .n (.n .e none (.n (.n .e none (.n .e (some v) .e)) none .e)) none .e) (fun l o r _ _ v => .n ((@TT.rec AV (fun _ => AV → TT AV) (fun v => .n .e none (.n (.n .e none (.n .e (some v) .e)) none .e)) (fun l o r _ _ v => .n l o (s5 r v))) l v) o r)
noncomputable def s26 : TT AV → AV → TT AV := @TT.rec AV (fun _ => AV → TT AV) (fun v => .n .e none (.n .e none (.n (.n .e none (.n .e (some v) .e)) none .e))) (fun l o r _ _ v => .n l o ((@TT.rec AV (fun _ => AV → TT AV) (fun v => .n .e none (.n (.n .e none (.n .e (some v) .e)) none .e)) (fun l o r _ _ v => .n l o (s5 r v))) r v))
noncomputable def s27 : TT AV → AV → TT AV := @TT.rec AV (fun _ => AV → TT AV) (fun v => .n (.n (.n .e none (.n .e none (.n .e (some v) .e))) none .e) none .e) (fun l o r _ _ v => .n ((@TT.rec AV (fun _ => AV → TT AV) (fun v => .n (.n .e none (.n .e none (.n .e (some v) .e))) none .e) (fun l o r _ _ v => .n (s6 l v) o r)) l v) o r)
noncomputable def s28 : TT AV → AV → TT AV := @TT.rec AV (fun _ => AV → TT AV) (fun v => .n .e none (.n (.n .e none (.n .e none (.n .e (some v) .e))) none .e)) (fun l o r _ _ v => .n l o ((@TT.rec AV (fun _ => AV → TT AV) (fun v => .n (.n .e none (.n .e none (.n .e (some v) .e))) none .e) (fun l o r _ _ v => .n (s6 l v) o r)) r v))
noncomputable def s29 : TT AV → AV → TT AV := @TT.rec AV (fun _ => AV → TT AV) (fun v => .n (.n .e none (.n .e none (.n .e none (.n .e (some v) .e)))) none .e) (fun l o r _ _ v => .n ((@TT.rec AV (fun _ => AV → TT AV) (fun v => .n .e none (.n .e none (.n .e none (.n .e (some v) .e)))) (fun l o r _ _ v => .n l o (s6 r v))) l v) o r)
noncomputable def s30 : TT AV → AV → TT AV := @TT.rec AV (fun _ => AV → TT AV) (fun v => .n .e none (.n .e none (.n .e none (.n .e none (.n .e (some v) .e))))) (fun l o r _ _ v => .n l o ((@TT.rec AV (fun _ => AV → TT AV) (fun v => .n .e none (.n .e none (.n .e none (.n .e (some v) .e)))) (fun l o r _ _ v => .n l o (s6 r v))) r v))
noncomputable def s31 : TT AV → AV → TT AV := @TT.rec AV (fun _ => AV → TT AV) (fun v => .n (.n (.n (.n (.n (.n .e (some v) .e) none .e) none .e) none .e) none .e) none .e) (fun l o r _ _ v => .n ((@TT.rec AV (fun _ => AV → TT AV) (fun v => .n (.n (.n (.n (.n .e (some v) .e) none .e) none .e) none .e) none .e) (fun l o r _ _ v => .n (s7 l v) o r)) l v) o r)
noncomputable def s32 : TT AV → AV → TT AV := @TT.rec AV (fun _ => AV → TT AV) (fun v => .n .e none (.n (.n (.n (.n (.n .e (some v) .e) none .e) none .e) none .e) none .e)) (fun l o r _ _ v => .n l o ((@TT.rec AV (fun _ => AV → TT AV) (fun v => .n (.n (.n (.n (.n .e (some v) .e) none .e) none .e) none .e) none .e) (fun l o r _ _ v => .n (s7 l v) o r)) r v))
noncomputable def s33 : TT AV → AV → TT AV := @TT.rec AV (fun _ => AV → TT AV) (fun v => .n (.n .e none (.n (.n (.n (.n .e (some v) .e) none .e) none .e) none .e)) none .e) (fun l o r _ _ v => .n ((@TT.rec AV (fun _ => AV → TT AV) (fun v => .n .e none (.n (.n (.n (.n .e (some v) .e) none .e) none .e) none .e)) (fun l o r _ _ v => .n l o (s7 r v))) l v) o r)
noncomputable def s34 : TT AV → AV → TT AV := @TT.rec AV (fun _ => AV → TT AV) (fun v => .n .e none (.n .e none (.n (.n (.n (.n .e (some v) .e) none .e) none .e) none .e))) (fun l o r _ _ v => .n l o ((@TT.rec AV (fun _ => AV → TT AV) (fun v => .n .e none (.n (.n (.n (.n .e (some v) .e) none .e) none .e) none .e)) (fun l o r _ _ v => .n l o (s7 r v))) r v))
noncomputable def s35 : TT AV → AV → TT AV := @TT.rec AV (fun _ => AV → TT AV) (fun v => .n (.n (.n .e none (.n (.n (.n .e (some v) .e) none .e) none .e)) none .e) none .e) (fun l o r _ _ v => .n ((@TT.rec AV (fun _ => AV → TT AV) (fun v => .n (.n .e none (.n (.n (.n .e (some v) .e) none .e) none .e)) none .e) (fun l o r _ _ v => .n (s8 l v) o r)) l v) o r)
noncomputable def s36 : TT AV → AV → TT AV := @TT.rec AV (fun _ => AV → TT AV) (fun v => .n .e none (.n (.n .e none (.n (.n (.n .e (some v) .e) none .e) none .e)) none .e)) (fun l o r _ _ v => .n l o ((@TT.rec AV (fun _ => AV → TT AV) (fun v => .n (.n .e none (.n (.n (.n .e (some v) .e) none .e) none .e)) none .e) (fun l o r _ _ v => .n (s8 l v) o r)) r v))
noncomputable def s37 : TT AV → AV → TT AV := @TT.rec AV (fun _ => AV → TT AV) (fun v => .n (.n .e none (.n .e none (.n (.n (.n .e (some v) .e) none .e) none .e))) none .e) (fun l o r _ _ v => .n ((@TT.rec AV (fun _ => AV → TT AV) (fun v => .n .e none (.n .e none (.n (.n (.n .e (some v) .e) none .e) none .e))) (fun l o r _ _ v => .n l o (s8 r v))) l v) o r)
noncomputable def s38 : TT AV → AV → TT AV := @TT.rec AV (fun _ => AV → TT AV) (fun v => .n .e none (.n .e none (.n .e none (.n (.n (.n .e (some v) .e) none .e) none .e)))) (fun l o r _ _ v => .n l o ((@TT.rec AV (fun _ => AV → TT AV) (fun v => .n .e none (.n .e none (.n (.n (.n .e (some v) .e) none .e) none .e))) (fun l o r _ _ v => .n l o (s8 r v))) r v))
noncomputable def s39 : TT AV → AV → TT AV := @TT.rec AV (fun _ => AV → TT AV) (fun v => .n (.n (.n (.n .e none (.n (.n .e (some v) .e) none .e)) none .e) none .e) none .e) (fun l o r _ _ v => .n ((@TT.rec AV (fun _ => AV → TT AV) (fun v => .n (.n (.n .e none (.n (.n .e (some v) .e) none .e)) none .e) none .e) (fun l o r _ _ v => .n (s9 l v) o r)) l v) o r)
noncomputable def s40 : TT AV → AV → TT AV := @TT.rec AV (fun _ => AV → TT AV) (fun v => .n .e none (.n (.n (.n .e none (.n (.n .e (some v) .e) none .e)) none .e) none .e)) (fun l o r _ _ v => .n l o ((@TT.rec AV (fun _ => AV → TT AV) (fun v => .n (.n (.n .e none (.n (.n .e (some v) .e) none .e)) none .e) none .e) (fun l o r _ _ v => .n (s9 l v) o r)) r v))
noncomputable def s41 : TT AV → AV → TT AV := @TT.rec AV (fun _ => AV → TT AV) (fun v => .n (.n .e none (.n (.n .e none (.n (.n .e (some v) .e) none .e)) none .e)) none .e) (fun l o r _ _ v => .n ((@TT.rec AV (fun _ => AV → TT AV) (fun v => .n .e none (.n (.n .e none (.n (.n .e (some v) .e) none .e)) none .e)) (fun l o r _ _ v => .n l o (s9 r v))) l v) o r)
noncomputable def s42 : TT AV → AV → TT AV := @TT.rec AV (fun _ => AV → TT AV) (fun v => .n .e none (.n .e none (.n (.n .e none (.n (.n .e (some v) .e) none .e)) none .e))) (fun l o r _ _ v => .n l o ((@TT.rec AV (fun _ => AV → TT AV) (fun v => .n .e none (.n (.n .e none (.n (.n .e (some v) .e) none .e)) none .e)) (fun l o r _ _ v => .n l o (s9 r v))) r v))
noncomputable def s43 : TT AV → AV → TT AV := @TT.rec AV (fun _ => AV → TT AV) (fun v => .n (.n (.n .e none (.n .e none (.n (.n .e (some v) .e) none .e))) none .e) none .e) (fun l o r _ _ v => .n ((@TT.rec AV (fun _ => AV → TT AV) (fun v => .n (.n .e none (.n .e none (.n (.n .e (some v) .e) none .e))) none .e) (fun l o r _ _ v => .n (s10 l v) o r)) l v) o r)
noncomputable def s44 : TT AV → AV → TT AV := @TT.rec AV (fun _ => AV → TT AV) (fun v => .n .e none (.n (.n .e none (.n .e none (.n (.n .e (some v) .e) none .e))) none .e)) (fun l o r _ _ v => .n l o ((@TT.rec AV (fun _ => AV → TT AV) (fun v => .n (.n .e none (.n .e none (.n (.n .e (some v) .e) none .e))) none .e) (fun l o r _ _ v => .n (s10 l v) o r)) r v))
noncomputable def s45 : TT AV → AV → TT AV := @TT.rec AV (fun _ => AV → TT AV) (fun v => .n (.n .e none (.n .e none (.n .e none (.n (.n .e (some v) .e) none .e)))) none .e) (fun l o r _ _ v => .n ((@TT.rec AV (fun _ => AV → TT AV) (fun v => .n .e none (.n .e none (.n .e none (.n (.n .e (some v) .e) none .e)))) (fun l o r _ _ v => .n l o (s10 r v))) l v) o r)
noncomputable def s46 : TT AV → AV → TT AV := @TT.rec AV (fun _ => AV → TT AV) (fun v => .n .e none (.n .e none (.n .e none (.n .e none (.n (.n .e (some v) .e) none .e))))) (fun l o r _ _ v => .n l o ((@TT.rec AV (fun _ => AV → TT AV) (fun v => .n .e none (.n .e none (.n .e none (.n (.n .e (some v) .e) none .e)))) (fun l o r _ _ v => .n l o (s10 r v))) r v))
noncomputable def s47 : TT AV → AV → TT AV := @TT.rec AV (fun _ => AV → TT AV) (fun v => .n (.n (.n (.n (.n .e none (.n .e (some v) .e)) none .e) none .e) none .e) none .e) (fun l o r _ _ v => .n ((@TT.rec AV (fun _ => AV → TT AV) (fun v => .n (.n (.n (.n .e none (.n .e (some v) .e)) none .e) none .e) none .e) (fun l o r _ _ v => .n (s11 l v) o r)) l v) o r)
noncomputable def s48 : TT AV → AV → TT AV := @TT.rec AV (fun _ => AV → TT AV) (fun v => .n .e none (.n (.n (.n (.n .e none (.n .e (some v) .e)) none .e) none .e) none .e)) (fun l o r _ _ v => .n l o ((@TT.rec AV (fun _ => AV → TT AV) (fun v => .n (.n (.n (.n .e none (.n .e (some v) .e)) none .e) none .e) none .e) (fun l o r _ _ v => .n (s11 l v) o r)) r v))
noncomputable def s49 : TT AV → AV → TT AV := @TT.rec AV (fun _ => AV → TT AV) (fun v => .n (.n .e none (.n (.n (.n .e none (.n .e (some v) .e)) none .e) none .e)) none .e) (fun l o r _ _ v => .n ((@TT.rec AV (fun _ => AV → TT AV) (fun v => .n .e none (.n (.n (.n .e none (.n .e (some v) .e)) none .e) none .e)) (fun l o r _ _ v => .n l o (s11 r v))) l v) o r)
noncomputable def s50 : TT AV → AV → TT AV := @TT.rec AV (fun _ => AV → TT AV) (fun v => .n .e none (.n .e none (.n (.n (.n .e none (.n .e (some v) .e)) none .e) none .e))) (fun l o r _ _ v => .n l o ((@TT.rec AV (fun _ => AV → TT AV) (fun v => .n .e none (.n (.n (.n .e none (.n .e (some v) .e)) none .e) none .e)) (fun l o r _ _ v => .n l o (s11 r v))) r v))
noncomputable def s51 : TT AV → AV → TT AV := @TT.rec AV (fun _ => AV → TT AV) (fun v => .n (.n (.n .e none (.n (.n .e none (.n .e (some v) .e)) none .e)) none .e) none .e) (fun l o r _ _ v => .n ((@TT.rec AV (fun _ => AV → TT AV) (fun v => .n (.n .e none (.n (.n .e none (.n .e (some v) .e)) none .e)) none .e) (fun l o r _ _ v => .n (s12 l v) o r)) l v) o r)
noncomputable def s52 : TT AV → AV → TT AV := @TT.rec AV (fun _ => AV → TT AV) (fun v => .n .e none (.n (.n .e none (.n (.n .e none (.n .e (some v) .e)) none .e)) none .e)) (fun l o r _ _ v => .n l o ((@TT.rec AV (fun _ => AV → TT AV) (fun v => .n (.n .e none (.n (.n .e none (.n .e (some v) .e)) none .e)) none .e) (fun l o r _ _ v => .n (s12 l v) o r)) r v))
noncomputable def s53 : TT AV → AV → TT AV := @TT.rec AV (fun _ => AV → TT AV) (fun v => .n (.n .e none (.n .e none (.n (.n .e none (.n .e (some v) .e)) none .e))) none .e) (fun l o r _ _ v => .n ((@TT.rec AV (fun _ => AV → TT AV) (fun v => .n .e none (.n .e none (.n (.n .e none (.n .e (some v) .e)) none .e))) (fun l o r _ _ v => .n l o (s12 r v))) l v) o r)
noncomputable def s54 : TT AV → AV → TT AV := @TT.rec AV (fun _ => AV → TT AV) (fun v => .n .e none (.n .e none (.n .e none (.n (.n .e none (.n .e (some v) .e)) none .e)))) (fun l o r _ _ v => .n l o ((@TT.rec AV (fun _ => AV → TT AV) (fun v => .n .e none (.n .e none (.n (.n .e none (.n .e (some v) .e)) none .e))) (fun l o r _ _ v => .n l o (s12 r v))) r v))
noncomputable def s55 : TT AV → AV → TT AV := @TT.rec AV (fun _ => AV → TT AV) (fun v => .n (.n (.n (.n .e none (.n .e none (.n .e (some v) .e))) none .e) none .e) none .e) (fun l o r _ _ v => .n ((@TT.rec AV (fun _ => AV → TT AV) (fun v => .n (.n (.n .e none (.n .e none (.n .e (some v) .e))) none .e) none .e) (fun l o r _ _ v => .n (s13 l v) o r)) l v) o r)
noncomputable def s56 : TT AV → AV → TT AV := @TT.rec AV (fun _ => AV → TT AV) (fun v => .n .e none (.n (.n (.n .e none (.n .e none (.n .e (some v) .e))) none .e) none .e)) (fun l o r _ _ v => .n l o ((@TT.rec AV (fun _ => AV → TT AV) (fun v => .n (.n (.n .e none (.n .e none (.n .e (some v) .e))) none .e) none .e) (fun l o r _ _ v => .n (s13 l v) o r)) r v))
noncomputable def s57 : TT AV → AV → TT AV := @TT.rec AV (fun _ => AV → TT AV) (fun v => .n (.n .e none (.n (.n .e none (.n .e none (.n .e (some v) .e))) none .e)) none .e) (fun l o r _ _ v => .n ((@TT.rec AV (fun _ => AV → TT AV) (fun v => .n .e none (.n (.n .e none (.n .e none (.n .e (some v) .e))) none .e)) (fun l o r _ _ v => .n l o (s13 r v))) l v) o r)
noncomputable def s58 : TT AV → AV → TT AV := @TT.rec AV (fun _ => AV → TT AV) (fun v => .n .e none (.n .e none (.n (.n .e none (.n .e none (.n .e (some v) .e))) none .e))) (fun l o r _ _ v => .n l o ((@TT.rec AV (fun _ => AV → TT AV) (fun v => .n .e none (.n (.n .e none (.n .e none (.n .e (some v) .e))) none .e)) (fun l o r _ _ v => .n l o (s13 r v))) r v))
noncomputable def s59 : TT AV → AV → TT AV := @TT.rec AV (fun _ => AV → TT AV) (fun v => .n (.n (.n .e none (.n .e none (.n .e none (.n .e (some v) .e)))) none .e) none .e) (fun l o r _ _ v => .n ((@TT.rec AV (fun _ => AV → TT AV) (fun v => .n (.n .e none (.n .e none (.n .e none (.n .e (some v) .e)))) none .e) (fun l o r _ _ v => .n (s14 l v) o r)) l v) o r)
noncomputable def s60 : TT AV → AV → TT AV := @TT.rec AV (fun _ => AV → TT AV) (fun v => .n .e none (.n (.n .e none (.n .e none (.n .e none (.n .e (some v) .e)))) none .e)) (fun l o r _ _ v => .n l o ((@TT.rec AV (fun _ => AV → TT AV) (fun v => .n (.n .e none (.n .e none (.n .e none (.n .e (some v) .e)))) none .e) (fun l o r _ _ v => .n (s14 l v) o r)) r v))
noncomputable def s61 : TT AV → AV → TT AV := @TT.rec AV (fun _ => AV → TT AV) (fun v => .n (.n .e none (.n .e none (.n .e none (.n .e none (.n .e (some v) .e))))) none .e) (fun l o r _ _ v => .n ((@TT.rec AV (fun _ => AV → TT AV) (fun v => .n .e none (.n .e none (.n .e none (.n .e none (.n .e (some v) .e))))) (fun l o r _ _ v => .n l o (s14 r v))) l v) o r)
noncomputable def s62 : TT AV → AV → TT AV := @TT.rec AV (fun _ => AV → TT AV) (fun v => .n .e none (.n .e none (.n .e none (.n .e none (.n .e none (.n .e (some v) .e)))))) (fun l o r _ _ v => .n l o ((@TT.rec AV (fun _ => AV → TT AV) (fun v => .n .e none (.n .e none (.n .e none (.n .e none (.n .e (some v) .e))))) (fun l o r _ _ v => .n l o (s14 r v))) r v))
noncomputable def s63 : TT AV → AV → TT AV := @TT.rec AV (fun _ => AV → TT AV) (fun v => .n (.n (.n (.n (.n (.n (.n .e (some v) .e) none .e) none .e) none .e) none .e) none .e) none .e) (fun l o r _ _ v => .n ((@TT.rec AV (fun _ => AV → TT AV) (fun v => .n (.n (.n (.n (.n (.n .e (some v) .e) none .e) none .e) none .e) none .e) none .e) (fun l o r _ _ v => .n (s15 l v) o r)) l v) o r)
noncomputable def gs : List (Cl (TT AV → Option AV)) := [⟨g0⟩, ⟨g1⟩, ⟨g2⟩, ⟨g3⟩, ⟨g4⟩, ⟨g5⟩, ⟨g6⟩, ⟨g7⟩, ⟨g8⟩, ⟨g9⟩, ⟨g10⟩, ⟨g11⟩, ⟨g12⟩, ⟨g13⟩, ⟨g14⟩, ⟨g15⟩, ⟨g16⟩, ⟨g17⟩, ⟨g18⟩, ⟨g19⟩, ⟨g20⟩, ⟨g21⟩, ⟨g22⟩, ⟨g23⟩, ⟨g24⟩, ⟨g25⟩, ⟨g26⟩, ⟨g27⟩, ⟨g28⟩, ⟨g29⟩, ⟨g30⟩, ⟨g31⟩, ⟨g32⟩, ⟨g33⟩, ⟨g34⟩, ⟨g35⟩, ⟨g36⟩, ⟨g37⟩, ⟨g38⟩, ⟨g39⟩, ⟨g40⟩, ⟨g41⟩, ⟨g42⟩, ⟨g43⟩, ⟨g44⟩, ⟨g45⟩, ⟨g46⟩, ⟨g47⟩, ⟨g48⟩, ⟨g49⟩, ⟨g50⟩, ⟨g51⟩, ⟨g52⟩, ⟨g53⟩, ⟨g54⟩, ⟨g55⟩, ⟨g56⟩, ⟨g57⟩, ⟨g58⟩, ⟨g59⟩, ⟨g60⟩, ⟨g61⟩, ⟨g62⟩, ⟨g63⟩]
noncomputable def ss : List (Cl (TT AV → AV → TT AV)) := [⟨s0⟩, ⟨s1⟩, ⟨s2⟩, ⟨s3⟩, ⟨s4⟩, ⟨s5⟩, ⟨s6⟩, ⟨s7⟩, ⟨s8⟩, ⟨s9⟩, ⟨s10⟩, ⟨s11⟩, ⟨s12⟩, ⟨s13⟩, ⟨s14⟩, ⟨s15⟩, ⟨s16⟩, ⟨s17⟩, ⟨s18⟩, ⟨s19⟩, ⟨s20⟩, ⟨s21⟩, ⟨s22⟩, ⟨s23⟩, ⟨s24⟩, ⟨s25⟩, ⟨s26⟩, ⟨s27⟩, ⟨s28⟩, ⟨s29⟩, ⟨s30⟩, ⟨s31⟩, ⟨s32⟩, ⟨s33⟩, ⟨s34⟩, ⟨s35⟩, ⟨s36⟩, ⟨s37⟩, ⟨s38⟩, ⟨s39⟩, ⟨s40⟩, ⟨s41⟩, ⟨s42⟩, ⟨s43⟩, ⟨s44⟩, ⟨s45⟩, ⟨s46⟩, ⟨s47⟩, ⟨s48⟩, ⟨s49⟩, ⟨s50⟩, ⟨s51⟩, ⟨s52⟩, ⟨s53⟩, ⟨s54⟩, ⟨s55⟩, ⟨s56⟩, ⟨s57⟩, ⟨s58⟩, ⟨s59⟩, ⟨s60⟩, ⟨s61⟩, ⟨s62⟩, ⟨s63⟩]
end Tab
/-- writing at a place that is fixed -/
noncomputable def setG (f : Nat) : Nat → Cl (TT AV → AV → TT AV) :=
  Nat.rec (motive := fun _ => Nat → Cl (TT AV → AV → TT AV)) (fun _ => ⟨fun t _ => t⟩)
    (fun _ ih k => Bool.rec (Bool.rec
        ⟨@TT.rec AV (fun _ => AV → TT AV) (fun v => TT.single v (Nat.succ k) k) (fun l o r _ _ v => .n (Cl.rec (motive := fun _ => TT AV) (fun g => g l v) (ih (Nat.div k 2))) o r)⟩
        ⟨@TT.rec AV (fun _ => AV → TT AV) (fun v => TT.single v (Nat.succ k) k) (fun l o r _ _ v => .n l o (Cl.rec (motive := fun _ => TT AV) (fun g => g r v) (ih (Nat.div (Nat.pred k) 2))))⟩ (Nat.beq (Nat.mod k 2) 0))
      ⟨@TT.rec AV (fun _ => AV → TT AV) (fun v => TT.single v (Nat.succ k) k) (fun l _ r _ _ v => .n l (some v) r)⟩ (Nat.beq k 0)) f
theorem setG_eq : ∀ (f k : Nat) (x : AV) (t : TT AV), k < f → (setG f k).run t x = t.set x k := by
  intro f
  induction f with
  | zero => intro k x t h; omega
  | succ f ih =>
    intro k x t h
    show (Cl.run (Bool.rec (Bool.rec ⟨@TT.rec AV (fun _ => AV → TT AV) (fun v => TT.single v (k + 1) k) (fun l o r _ _ v => .n ((setG f (k / 2)).run l v) o r)⟩ ⟨@TT.rec AV (fun _ => AV → TT AV) (fun v => TT.single v (k + 1) k) (fun l o r _ _ v => .n l o ((setG f ((k - 1) / 2)).run r v))⟩ (Nat.beq (k % 2) 0)) ⟨@TT.rec AV (fun _ => AV → TT AV) (fun v => TT.single v (k + 1) k) (fun l _ r _ _ v => .n l (some v) r)⟩ (Nat.beq k 0) : Cl (TT AV → AV → TT AV))) t x = _
    cases t with
    | e =>
      rw [TT.set_e]
      cases Nat.beq k 0 <;> cases Nat.beq (k % 2) 0 <;> rfl
    | n l v r =>
      rw [TT.set_n]
      by_cases hk : k = 0
      · subst hk; rfl
      · have h1 : Nat.beq k 0 = false := by cases hb : Nat.beq k 0 with | false => rfl | true => exact absurd (Nat.eq_of_beq_eq_true hb) hk
        rw [h1, if_neg hk]
        by_cases h2 : k % 2 = 0
        · rw [h2, if_pos rfl]
          show TT.n l v ((setG f ((k - 1) / 2)).run r x) = _
          rw [ih _ _ _ (by omega)]
        · have h3 : Nat.beq (k % 2) 0 = false := by cases hb : Nat.beq (k % 2) 0 with | false => rfl | true => exact absurd (Nat.eq_of_beq_eq_true hb) h2
          rw [h3, if_neg h2]
          show TT.n ((setG f (k / 2)).run l x) v r = _
          rw [ih _ _ _ (by omega)]
theorem gs_eq : Tab.gs = (List.range 64).map fun k => (⟨fun t => (getF (Nat.succ k) k).run t⟩ : Cl (TT AV → Option AV)) := by kernel_rfl
theorem ss_eq : Tab.ss = (List.range 64).map fun k => (⟨fun t v => (setG (Nat.succ k) k).run t v⟩ : Cl (TT AV → AV → TT AV)) := by kernel_rfl
noncomputable def getT (k : Nat) : Cl (TT AV → Option AV) := match Tab.gs[k]? with
  | some c => c
  | none => getF (Nat.succ k) k
theorem getT_eq (k : Nat) (t : TT AV) : (getT k).run t = t.get k := by
  unfold getT
  rw [gs_eq, List.getElem?_map]
  by_cases h : k < 64
  · rw [List.getElem?_range h]
    exact getF_eq _ _ _ (Nat.lt_succ_self k)
  · rw [List.getElem?_eq_none (by simp; omega)]
    exact getF_eq _ _ _ (Nat.lt_succ_self k)
noncomputable def setT (k : Nat) : Cl (TT AV → AV → TT AV) := match Tab.ss[k]? with
  | some c => c
  | none => setG (Nat.succ k) k
theorem setT_eq (k : Nat) (x : AV) (t : TT AV) : (setT k).run t x = t.set x k := by
  unfold setT
  rw [ss_eq, List.getElem?_map]
  by_cases h : k < 64
  · rw [List.getElem?_range h]
    exact setG_eq _ _ _ _ (Nat.lt_succ_self k)
  · rw [List.getElem?_eq_none (by simp; omega)]
    exact setG_eq _ _ _ _ (Nat.lt_succ_self k)
end Go.Ai
/- Operations as closures: readers. -/
namespace Go.Ai
section
variable {P : Program} {ng : Nat} {H : Heap} {T : TT AV}
noncomputable def onI : AV → (IntKind → Int → Option AV) → Option AV := (@AV.rec (fun _ => (IntKind → Int → Option AV) → Option AV) (fun _ => PUnit) (fun _ => fun _ => none) (fun k n f => f k n) (fun _ _ => fun _ => none) (fun _ => none) (fun _ _ => fun _ => none) (fun _ => none) (fun _ _ _ _ _ => fun _ => none) (fun _ => none) (fun _ => none) (fun _ => fun _ => none) (fun _ _ _ _ _ => fun _ => none) (fun _ => none) (fun _ _ _ => fun _ => none) (fun _ => none) (fun _ _ => fun _ => none) (fun _ _ => fun _ => none) (fun _ => fun _ => none) (fun _ _ => fun _ => none) (fun _ _ => fun _ => none) ⟨⟩ (fun _ _ _ _ => ⟨⟩))
noncomputable def onP : AV → (Nat → Nat → Option AV) → Option AV := (@AV.rec (fun _ => (Nat → Nat → Option AV) → Option AV) (fun _ => PUnit) (fun _ => fun _ => none) (fun _ _ => fun _ => none) (fun _ _ => fun _ => none) (fun _ => none) (fun b o f => f b o) (fun _ => none) (fun _ _ _ _ _ => fun _ => none) (fun _ => none) (fun _ => none) (fun _ => fun _ => none) (fun _ _ _ _ _ => fun _ => none) (fun _ => none) (fun _ _ _ => fun _ => none) (fun _ => none) (fun _ _ => fun _ => none) (fun _ _ => fun _ => none) (fun _ => fun _ => none) (fun _ _ => fun _ => none) (fun _ _ => fun _ => none) ⟨⟩ (fun _ _ _ _ => ⟨⟩))
noncomputable def onB : AV → (Bool → Option AV) → Option AV := (@AV.rec (fun _ => (Bool → Option AV) → Option AV) (fun _ => PUnit) (fun x f => f x) (fun _ _ => fun _ => none) (fun _ _ => fun _ => none) (fun _ => none) (fun _ _ => fun _ => none) (fun _ => none) (fun _ _ _ _ _ => fun _ => none) (fun _ => none) (fun _ => none) (fun _ => fun _ => none) (fun _ _ _ _ _ => fun _ => none) (fun _ => none) (fun _ _ _ => fun _ => none) (fun _ => none) (fun _ _ => fun _ => none) (fun _ _ => fun _ => none) (fun _ => fun _ => none) (fun _ _ => fun _ => none) (fun _ _ => fun _ => none) ⟨⟩ (fun _ _ _ _ => ⟨⟩))
theorem onI_some {v : AV} {f : IntKind → Int → Option AV} {r : AV} (h : onI v f = some r) : ∃ k n, v = .i k n ∧ f k n = some r := by
  cases v <;> first | (cases h; done) | exact ⟨_, _, rfl, h⟩
theorem onP_some {v : AV} {f : Nat → Nat → Option AV} {r : AV} (h : onP v f = some r) : ∃ b o, v = .p b o ∧ f b o = some r := by
  cases v <;> first | (cases h; done) | exact ⟨_, _, rfl, h⟩
theorem onB_some {v : AV} {f : Bool → Option AV} {r : AV} (h : onB v f = some r) : ∃ x, v = .b x ∧ f x = some r := by
  cases v <;> first | (cases h; done) | exact ⟨_, rfl, h⟩
noncomputable def bO {α β : Type} (x : Option α) (f : α → Option β) : Option β := Option.rec (motive := fun _ => Option β) none f x
theorem bO_some {α β : Type} {x : Option α} {f : α → Option β} {r : β} (h : bO x f = some r) : ∃ v, x = some v ∧ f v = some r := by
  cases x with
  | none => cases h
  | some v => exact ⟨v, rfl, h⟩
theorem brec_some {α : Type} {b : Bool} {x : Option α} {r : α} (h : (Bool.rec (motive := fun _ => Option α) none x b) = some r) : b = true ∧ x = some r := by
  cases b with
  | false => cases h
  | true => exact ⟨rfl, h⟩

/-! operands -/
noncomputable def evC (ng : Nat) (x : Operand) : Cl (TT AV → Option AV) :=
  match x with
  | .tmp t => getT t
  | .const v => ⟨fun _ => ofV v⟩
  | .global g => bif Nat.blt g ng then ⟨fun _ => some (.p g 0)⟩ else ⟨fun _ => none⟩
  | .func f => ⟨fun _ => some (.fn (.func f) [] [])⟩
theorem evC_eq (x : Operand) : (evC ng x).run T = ev ng T x := by
  cases x with
  | tmp t => exact getT_eq _ _
  | const v => rfl
  | global g => simp only [evC, ev]; cases Nat.blt g ng <;> rfl
  | func f => rfl
noncomputable def evsK (a : Cl (TT AV → Option AV)) (b : Cl (TT AV → Option (List AV))) : Cl (TT AV → Option (List AV)) :=
  ⟨fun T => Option.rec (motive := fun _ => Option (List AV)) none (fun v => Option.rec (motive := fun _ => Option (List AV)) none (fun vs => some (v :: vs)) (b.run T)) (a.run T)⟩
noncomputable def evsC (ng : Nat) : List Operand → Cl (TT AV → Option (List AV))
  | [] => ⟨fun _ => some []⟩
  | x :: l => evsK (evC ng x) (evsC ng l)
theorem evsC_eq : ∀ (l : List Operand), (evsC ng l).run T = evs ng T l
  | [] => rfl
  | x :: l => by
    show Option.rec (motive := fun _ => Option (List AV)) none (fun v => Option.rec (motive := fun _ => Option (List AV)) none (fun vs => some (v :: vs)) ((evsC ng l).run T)) ((evC ng x).run T) = _
    rw [evC_eq, evsC_eq l, evs]
    cases ev ng T x with
    | none => rfl
    | some v => cases evs ng T l <;> rfl

/-! numbers -/
noncomputable def kIs (a : IntKind) : IntKind → Bool :=
  @IntKind.rec (fun _ => IntKind → Bool)
    (@IntKind.rec (fun _ => Bool) true false false false false false false false) (@IntKind.rec (fun _ => Bool) false true false false false false false false)
    (@IntKind.rec (fun _ => Bool) false false true false false false false false) (@IntKind.rec (fun _ => Bool) false false false true false false false false)
    (@IntKind.rec (fun _ => Bool) false false false false true false false false) (@IntKind.rec (fun _ => Bool) false false false false false true false false)
    (@IntKind.rec (fun _ => Bool) false false false false false false true false) (@IntKind.rec (fun _ => Bool) false false false false false false false true) a
theorem kIs_eq (a b : IntKind) : kIs a b = decide (a = b) := by cases a <;> cases b <;> rfl
noncomputable def limR (k : IntKind) : Nat := @IntKind.rec (fun _ => Nat) (lim .i8) (lim .i16) (lim .i32) (lim .i64) (lim .u8) (lim .u16) (lim .u32) (lim .u64) k
theorem limR_eq (k : IntKind) : limR k = lim k := by cases k <;> rfl
noncomputable def fitN (k : IntKind) (r : Nat) : AV := Bool.rec (motive := fun _ => AV) (wr k (.ofNat r)) (.i k (.ofNat r)) (Nat.ble (Nat.succ r) (limR k))
theorem fitN_eq (k : IntKind) (r : Nat) : fitN k r = wr k (.ofNat r) := by
  unfold fitN
  rw [limR_eq]
  cases h : Nat.ble (Nat.succ r) (lim k) with
  | false => rfl
  | true => simp only [wr, show Nat.blt r (lim k) = true from h, cond_true]
noncomputable def addF (k : IntKind) (a b : Int) : AV :=
  @Int.rec (fun _ => Int → AV) (fun m b => @Int.rec (fun _ => AV) (fun n => fitN k (Nat.add m n)) (fun n => wr k (Int.add (.ofNat m) (.negSucc n))) b) (fun m b => wr k (Int.add (.negSucc m) b)) a b
theorem addF_eq (k : IntKind) (a b : Int) : addF k a b = wr k (Int.add a b) := by
  cases a with
  | ofNat m => cases b with
    | ofNat n => show fitN k (Nat.add m n) = _; rw [fitN_eq]; rfl
    | negSucc n => rfl
  | negSucc m => rfl
noncomputable def subF (k : IntKind) (a b : Int) : AV :=
  @Int.rec (fun _ => Int → AV) (fun m b => @Int.rec (fun _ => AV) (fun n => Bool.rec (motive := fun _ => AV) (wr k (Int.sub (.ofNat m) (.ofNat n))) (fitN k (Nat.sub m n)) (Nat.ble n m)) (fun n => wr k (Int.sub (.ofNat m) (.negSucc n))) b) (fun m b => wr k (Int.sub (.negSucc m) b)) a b
theorem subF_eq (k : IntKind) (a b : Int) : subF k a b = wr k (Int.sub a b) := by
  cases a with
  | ofNat m => cases b with
    | ofNat n =>
      show Bool.rec (motive := fun _ => AV) (wr k (Int.sub (.ofNat m) (.ofNat n))) (fitN k (Nat.sub m n)) (Nat.ble n m) = _
      cases h : Nat.ble n m with
      | false => rfl
      | true =>
        show fitN k (m - n) = _
        have h := ble_true h
        rw [fitN_eq]
        congr 1
        show Int.ofNat (m - n) = (m : Int) - (n : Int)
        simp only [Int.ofNat_eq_natCast]
        omega
    | negSucc n => rfl
  | negSucc m => rfl
noncomputable def ltF (a b : Int) : Bool :=
  @Int.rec (fun _ => Int → Bool) (fun m b => @Int.rec (fun _ => Bool) (fun n => Nat.ble (Nat.succ m) n) (fun _ => false) b) (fun m b => ilt (.negSucc m) b) a b
theorem ltF_eq (a b : Int) : ltF a b = ilt a b := by cases a <;> cases b <;> rfl
noncomputable def eqF (a b : Int) : Bool :=
  @Int.rec (fun _ => Int → Bool) (fun m b => @Int.rec (fun _ => Bool) (fun n => Nat.beq m n) (fun _ => false) b) (fun m b => ieq (.negSucc m) b) a b
theorem eqF_eq (a b : Int) : eqF a b = ieq a b := by cases a <;> cases b <;> rfl
noncomputable def notF (b : Bool) : Bool := Bool.rec (motive := fun _ => Bool) true false b
theorem notF_eq (b : Bool) : notF b = Bool.not b := by cases b <;> rfl
noncomputable def binI (op : BinOp) : Cl (IntKind → Int → Int → Option AV) :=
  match op with
  | .add => ⟨fun k a b => some (addF k a b)⟩
  | .sub => ⟨fun k a b => some (subF k a b)⟩
  | .eql => ⟨fun _ a b => some (.b (eqF a b))⟩
  | .neq => ⟨fun _ a b => some (.b (notF (eqF a b)))⟩
  | .lss => ⟨fun _ a b => some (.b (ltF a b))⟩
  | .leq => ⟨fun _ a b => some (.b (notF (ltF b a)))⟩
  | .gtr => ⟨fun _ a b => some (.b (ltF b a))⟩
  | .geq => ⟨fun _ a b => some (.b (notF (ltF a b)))⟩
  | op => ⟨fun k a b => aInt op k a b⟩
theorem binI_eq (op : BinOp) (k : IntKind) (a b : Int) : (binI op).run k a b = aInt op k a b := by
  cases op <;> simp only [binI, aInt, addF_eq, subF_eq, eqF_eq, ltF_eq, notF_eq]
noncomputable def isK (k : IntKind) : Cl (IntKind → Bool) := match k with
  | .i8 => ⟨@IntKind.rec (fun _ => Bool) true false false false false false false false⟩
  | .i16 => ⟨@IntKind.rec (fun _ => Bool) false true false false false false false false⟩
  | .i32 => ⟨@IntKind.rec (fun _ => Bool) false false true false false false false false⟩
  | .i64 => ⟨@IntKind.rec (fun _ => Bool) false false false true false false false false⟩
  | .u8 => ⟨@IntKind.rec (fun _ => Bool) false false false false true false false false⟩
  | .u16 => ⟨@IntKind.rec (fun _ => Bool) false false false false false true false false⟩
  | .u32 => ⟨@IntKind.rec (fun _ => Bool) false false false false false false true false⟩
  | .u64 => ⟨@IntKind.rec (fun _ => Bool) false false false false false false false true⟩
theorem isK_true {k k' : IntKind} (h : (isK k).run k' = true) : k = k' := by cases k <;> cases k' <;> first | rfl | cases h
noncomputable def fitS (k : IntKind) : Nat → Nat → AV := fun L r => Bool.rec (motive := fun _ => AV) (wr k (.ofNat r)) (.i k (.ofNat r)) (Nat.ble (Nat.succ r) L)
theorem fitS_eq (k : IntKind) (r : Nat) : fitS k (limR k) r = wr k (.ofNat r) := fitN_eq k r
noncomputable def limL : IntKind → Nat
  | .i8 => 128 | .u8 => 256 | .i16 => 32768 | .u16 => 65536 | .i32 => 2147483648 | .u32 => 4294967296 | .i64 => 9223372036854775808 | .u64 => 18446744073709551616
theorem limL_eq (k : IntKind) : limL k = limR k := by cases k <;> rfl
/-- at numbers that are not negative -/
noncomputable def natS (op : BinOp) (k : IntKind) : Cl (Nat → Nat → Option AV) :=
  match op with
  | .add => ⟨fun m n => some (fitS k (limL k) (Nat.add m n))⟩
  | .sub => ⟨fun m n => Bool.rec (motive := fun _ => Option AV) none (some (fitS k (limL k) (Nat.sub m n))) (Nat.ble n m)⟩
  | .mul => ⟨fun m n => some (fitS k (limL k) (Nat.mul m n))⟩
  | .eql => ⟨fun m n => some (.b (Nat.beq m n))⟩
  | .neq => ⟨fun m n => some (.b (notF (Nat.beq m n)))⟩
  | .lss => ⟨fun m n => some (.b (Nat.ble (Nat.succ m) n))⟩
  | .leq => ⟨fun m n => some (.b (notF (Nat.ble (Nat.succ n) m)))⟩
  | .gtr => ⟨fun m n => some (.b (Nat.ble (Nat.succ n) m))⟩
  | .geq => ⟨fun m n => some (.b (notF (Nat.ble (Nat.succ m) n)))⟩
  | _ => ⟨fun _ _ => none⟩
theorem natS_some {op : BinOp} {k : IntKind} {m n : Nat} {r : AV} (h : (natS op k).run m n = some r) : aInt op k (.ofNat m) (.ofNat n) = some r := by
  cases op <;> simp only [natS] at h <;> try (cases h; done)
  · rw [limL_eq, fitS_eq] at h; exact h
  · obtain ⟨h1, h2⟩ := brec_some h
    rw [limL_eq, fitS_eq] at h2
    rw [← h2]
    have h1 := ble_true h1
    simp only [aInt, Option.some.injEq]
    congr 1
    show (m : Int) - (n : Int) = Int.ofNat (m - n)
    simp only [Int.ofNat_eq_natCast]
    omega
  · rw [limL_eq, fitS_eq] at h; exact h
  · exact h
  · rw [notF_eq] at h; exact h
  · exact h
  · rw [notF_eq] at h; exact h
  · exact h
  · rw [notF_eq] at h; exact h
noncomputable def onK : AV → (IntKind → Bool) → (Nat → Option AV) → Option AV → Option AV :=
  (@AV.rec (fun _ => (IntKind → Bool) → (Nat → Option AV) → Option AV → Option AV) (fun _ => PUnit) (fun _ => fun _ _ d => d) (fun k n q f d => Bool.rec (motive := fun _ => Option AV) d (@Int.rec (fun _ => Option AV) (fun m => f m) (fun _ => d) n) (q k)) (fun _ _ => fun _ _ d => d) (fun _ _ d => d) (fun _ _ => fun _ _ d => d) (fun _ _ d => d) (fun _ _ _ _ _ => fun _ _ d => d) (fun _ _ d => d) (fun _ _ d => d) (fun _ => fun _ _ d => d) (fun _ _ _ _ _ => fun _ _ d => d) (fun _ _ d => d) (fun _ _ _ => fun _ _ d => d) (fun _ _ d => d) (fun _ _ => fun _ _ d => d) (fun _ _ => fun _ _ d => d) (fun _ => fun _ _ d => d) (fun _ _ => fun _ _ d => d) (fun _ _ => fun _ _ d => d) ⟨⟩ (fun _ _ _ _ => ⟨⟩))
theorem onK_some {v : AV} {q : IntKind → Bool} {f : Nat → Option AV} {d : Option AV} {r : AV} (h : onK v q f d = some r) : (∃ k m, v = .i k (.ofNat m) ∧ q k = true ∧ f m = some r) ∨ d = some r := by
  cases v <;> try exact .inr h
  rename_i k n
  have h : Bool.rec (motive := fun _ => Option AV) d (@Int.rec (fun _ => Option AV) (fun m => f m) (fun _ => d) n) (q k) = some r := h
  cases hq : q k with
  | false => rw [hq] at h; exact .inr h
  | true =>
    rw [hq] at h
    cases n with
    | ofNat m => exact .inl ⟨k, m, rfl, hq, h⟩
    | negSucc m => exact .inr h
noncomputable def binC (P : Program) (op : BinOp) (t : TypeId) : Cl (AV → AV → Option AV) :=
  match P.underlying t with
  | some (.int k) => ⟨fun x y => onK x (isK k).run (fun m => onK y (isK k).run (fun n => (natS op k).run m n) (aBin P op t x y)) (aBin P op t x y)⟩
  | _ => ⟨fun x y => aBin P op t x y⟩
theorem binC_some {op : BinOp} {t : TypeId} {x y r : AV} (h : (binC P op t).run x y = some r) : aBin P op t x y = some r := by
  unfold binC at h
  split at h
  · rename_i k _
    rcases onK_some h with ⟨k1, m, e1, h1, h⟩ | h
    · rcases onK_some h with ⟨k2, n, e2, h2, h⟩ | h
      · have := isK_true h1; subst this
        have := isK_true h2; subst this
        rw [e1, e2]
        simp only [aBin, decide_true, cond_true]
        exact natS_some h
      · exact h
    · exact h
  · exact h
noncomputable def orP (x y : Option AV) : Option AV := Option.rec (motive := fun _ => Option AV) y some x
theorem orP_some {x y : Option AV} {r : AV} (h : orP x y = some r) : x = some r ∨ x = none ∧ y = some r := by
  cases x with
  | none => exact .inr ⟨rfl, h⟩
  | some v => exact .inl h

/-! memory -/
noncomputable def nth : List AV → Nat → Option AV := @List.rec AV (fun _ => Nat → Option AV) (fun _ => none) (fun a _ ih n => @Nat.rec (fun _ => Option AV) (some a) (fun m _ => ih m) n)
theorem nth_eq : ∀ (l : List AV) (n : Nat), nth l n = l[n]?
  | [], n => by simp; rfl
  | a :: l, 0 => by simp; rfl
  | a :: l, n + 1 => by
    show nth l n = _
    rw [nth_eq l n]; simp
noncomputable def cellF : AO → Nat → Option AV :=
  @AO.rec (fun _ => Nat → Option AV) (fun _ cs off => nth cs off) (fun len x off => Bool.rec (motive := fun _ => Option AV) none (some (.i .u8 (.ofNat (Nat.mod (Nat.div x (Nat.pow 256 off)) 256)))) (Nat.ble (Nat.succ off) len)) (fun _ _ _ => none) (fun _ _ _ _ => none) (fun _ _ _ _ => none) (fun _ _ _ _ _ _ _ _ => none)
theorem cellF_some {o : AO} {off : Nat} {r : AV} (h : cellF o off = some r) : o.cell off = some r := by
  cases o with
  | cells sz cs => simp only [AO.cell]; rw [← nth_eq]; exact h
  | bytes len x =>
    obtain ⟨h1, h2⟩ := brec_some h
    simp only [AO.cell]
    rw [show Nat.blt off len = true from h1]
    exact h2
  | _ => cases h
noncomputable def andF (a b : Bool) : Bool := Bool.rec (motive := fun _ => Bool) false b a
theorem andF_eq (a b : Bool) : andF a b = (a && b) := by cases a <;> rfl
noncomputable def lnF {α : Type} (l : List α) : Nat := @List.rec α (fun _ => Nat) 0 (fun _ _ n => Nat.succ n) l
theorem lnF_eq {α : Type} : ∀ l : List α, lnF l = l.length
  | [] => rfl
  | _ :: l => by
    show lnF l + 1 = _
    rw [lnF_eq l]; rfl
noncomputable def dropF {α : Type} (l : List α) : Nat → List α := @List.rec α (fun _ => Nat → List α) (fun _ => []) (fun a l ih n => @Nat.rec (fun _ => List α) (a :: l) (fun m _ => ih m) n) l
theorem dropF_eq {α : Type} : ∀ (l : List α) (n : Nat), dropF l n = l.drop n
  | [], n => by simp; rfl
  | a :: l, 0 => by simp; rfl
  | a :: l, n + 1 => by
    show dropF l n = _
    rw [dropF_eq l n]; simp
noncomputable def takeF {α : Type} (l : List α) : Nat → List α := @List.rec α (fun _ => Nat → List α) (fun _ => []) (fun a _ ih n => @Nat.rec (fun _ => List α) [] (fun m _ => a :: ih m) n) l
theorem takeF_eq {α : Type} : ∀ (l : List α) (n : Nat), takeF l n = l.take n
  | [], n => by simp; rfl
  | a :: l, 0 => by simp; rfl
  | a :: l, n + 1 => by
    show a :: takeF l n = _
    rw [takeF_eq l n]; simp
noncomputable def appL {α : Type} (l k : List α) : List α := @List.rec α (fun _ => List α) k (fun a _ ih => a :: ih) l
theorem appL_eq {α : Type} : ∀ (l k : List α), appL l k = l ++ k
  | [], k => rfl
  | a :: l, k => by
    show a :: appL l k = _
    rw [appL_eq l k]; rfl
noncomputable def splF {α : Type} (cs : List α) (off : Nat) (vs : List α) : List α := appL (takeF cs off) (appL vs (dropF cs (Nat.add off (lnF vs))))
theorem splF_eq {α : Type} (cs : List α) (off : Nat) (vs : List α) : splF cs off vs = spl cs off vs := by
  unfold splF spl
  rw [appL_eq, appL_eq, takeF_eq, dropF_eq, lnF_eq]
  rfl
noncomputable def aggF (o : AO) (off n : Nat) : Option AV :=
  @AO.rec (fun _ => Option AV) (fun _ cs => (fun l => Bool.rec (motive := fun _ => Option AV) none (some (.ag l)) (Nat.beq (lnF l) n)) (takeF (dropF cs off) n))
    (fun len x => Bool.rec (motive := fun _ => Option AV) none (some (.by_ n (cut x off n))) (Nat.ble (Nat.add off n) len)) (fun _ _ => none) (fun _ _ _ => none) (fun _ _ _ => none) (fun _ _ _ _ _ _ _ => none) o
theorem aggF_some {o : AO} {off n : Nat} {r : AV} (h : aggF o off n = some r) : o.agg off n = some r := by
  cases o with
  | cells sz cs =>
    have h : Bool.rec (motive := fun _ => Option AV) none (some (AV.ag (takeF (dropF cs off) n))) (Nat.beq (lnF (takeF (dropF cs off) n)) n) = some r := h
    rw [takeF_eq, dropF_eq, lnF_eq] at h
    simp only [AO.agg, AO.read]
    cases hb : Nat.beq ((cs.drop off).take n).length n with
    | false => rw [hb] at h; cases h
    | true => rw [hb] at h; exact h
  | bytes len x =>
    have h : Bool.rec (motive := fun _ => Option AV) none (some (AV.by_ n (cut x off n))) (Nat.ble (Nat.add off n) len) = some r := h
    simp only [AO.agg]
    cases hb : Nat.ble (Nat.add off n) len with
    | false => rw [hb] at h; cases h
    | true => rw [hb] at h; exact h
  | _ => cases h
noncomputable def loadC (P : Program) (t : TypeId) : Cl (Heap → AV → Option AV) :=
  match tyAgg P t with
  | some (false, _) => ⟨fun H v => onP v fun b off => bO (fget H.t b) fun o => cellF o off⟩
  | some (true, n) => ⟨fun H v => onP v fun b off => bO (fget H.t b) fun o => aggF o off n⟩
  | none => ⟨fun _ _ => none⟩
theorem loadC_some {t : TypeId} {v r : AV} (h : (loadC P t).run H v = some r) : aLoad P H t v = some r := by
  unfold loadC at h
  split at h
  · rename_i n ht
    obtain ⟨b, off, rfl, h⟩ := onP_some h
    obtain ⟨o, h1, h2⟩ := bO_some h
    rw [fget_eq] at h1
    simp only [aLoad, h1, ht, cellF_some h2]
  · rename_i n ht
    obtain ⟨b, off, rfl, h⟩ := onP_some h
    obtain ⟨o, h1, h2⟩ := bO_some h
    rw [fget_eq] at h1
    simp only [aLoad, h1, ht]
    exact aggF_some h2
  · cases h
noncomputable def fieldAddrC (P : Program) (s : TypeId) (f : Nat) : Cl (AV → Option AV) :=
  match fieldOf P s f with
  | some (o, n) => bif Nat.beq n 0 then ⟨fun _ => none⟩ else ⟨fun v => onP v fun b off => some (.p b (Nat.add off o))⟩
  | none => ⟨fun _ => none⟩
theorem fieldAddrC_some {s : TypeId} {f : Nat} {v r : AV} (h : (fieldAddrC P s f).run v = some r) : aFieldAddr P s f v = some r := by
  unfold fieldAddrC at h
  split at h
  · rename_i o n hf
    cases hb : Nat.beq n 0 with
    | true => rw [hb] at h; cases h
    | false =>
      rw [hb] at h
      obtain ⟨b, off, rfl, h⟩ := onP_some h
      simp only [aFieldAddr, hf, hb]
      exact h
  · cases h
noncomputable def onSl : AV → (Nat → Nat → Nat → Nat → Bool → Option AV) → Option AV := (@AV.rec (fun _ => (Nat → Nat → Nat → Nat → Bool → Option AV) → Option AV) (fun _ => PUnit) (fun _ => fun _ => none) (fun _ _ => fun _ => none) (fun _ _ => fun _ => none) (fun _ => none) (fun _ _ => fun _ => none) (fun _ => none) (fun b o l c p f => f b o l c p) (fun _ => none) (fun _ => none) (fun _ => fun _ => none) (fun _ _ _ _ _ => fun _ => none) (fun _ => none) (fun _ _ _ => fun _ => none) (fun _ => none) (fun _ _ => fun _ => none) (fun _ _ => fun _ => none) (fun _ => fun _ => none) (fun _ _ => fun _ => none) (fun _ _ => fun _ => none) ⟨⟩ (fun _ _ _ _ => ⟨⟩))
theorem onSl_some {v : AV} {f : Nat → Nat → Nat → Nat → Bool → Option AV} {r : AV} (h : onSl v f = some r) : ∃ b o l c p, v = .sl b o l c p ∧ f b o l c p = some r := by
  cases v <;> first | (cases h; done) | exact ⟨_, _, _, _, _, rfl, h⟩
noncomputable def onN : Int → (Nat → Option AV) → Option AV := @Int.rec (fun _ => (Nat → Option AV) → Option AV) (fun n f => f n) (fun _ _ => none)
theorem onN_some {n : Int} {f : Nat → Option AV} {r : AV} (h : onN n f = some r) : ∃ m, n = .ofNat m ∧ f m = some r := by
  cases n <;> first | (cases h; done) | exact ⟨_, rfl, h⟩
noncomputable def indexAddrC (P : Program) (t : TypeId) : Cl (AV → AV → Option AV) :=
  match P.underlying t with
  | some (.slice e) => match P.info? e with
    | some i => ⟨fun x y => onSl x fun b off len _ _ => onI y fun _ z => onN z fun n => Bool.rec (motive := fun _ => Option AV) none (some (.p b (Nat.add off (Nat.mul n i.size)))) (Nat.ble (Nat.succ n) len)⟩
    | none => ⟨fun _ _ => none⟩
  | some (.array len e) => match P.info? e with
    | some i => ⟨fun x y => onP x fun b off => onI y fun _ z => onN z fun n => Bool.rec (motive := fun _ => Option AV) none (some (.p b (Nat.add off (Nat.mul n i.size)))) (Nat.ble (Nat.succ n) len)⟩
    | none => ⟨fun _ _ => none⟩
  | _ => ⟨fun _ _ => none⟩
theorem indexAddrC_some {t : TypeId} {x y r : AV} (h : (indexAddrC P t).run x y = some r) : aIndexAddr P t x y = some r := by
  unfold indexAddrC at h
  split at h
  · rename_i e ht
    split at h
    · rename_i i hi
      obtain ⟨b, off, len, c, p, rfl, h⟩ := onSl_some h
      obtain ⟨k, z, rfl, h⟩ := onI_some h
      obtain ⟨n, rfl, h⟩ := onN_some h
      obtain ⟨h1, h2⟩ := brec_some h
      simp only [aIndexAddr, ht, hi, show Nat.blt n len = true from h1]
      exact h2
    · cases h
  · rename_i len e ht
    split at h
    · rename_i i hi
      obtain ⟨b, off, rfl, h⟩ := onP_some h
      obtain ⟨k, z, rfl, h⟩ := onI_some h
      obtain ⟨n, rfl, h⟩ := onN_some h
      obtain ⟨h1, h2⟩ := brec_some h
      simp only [aIndexAddr, ht, hi, show Nat.blt n len = true from h1]
      exact h2
    · cases h
  · cases h
noncomputable def onAg : AV → (List AV → Option AV) → Option AV := (@AV.rec (fun _ => (List AV → Option AV) → Option AV) (fun _ => PUnit) (fun _ => fun _ => none) (fun _ _ => fun _ => none) (fun _ _ => fun _ => none) (fun _ => none) (fun _ _ => fun _ => none) (fun _ => none) (fun _ _ _ _ _ => fun _ => none) (fun _ => none) (fun _ => none) (fun _ => fun _ => none) (fun _ _ _ _ _ => fun _ => none) (fun _ => none) (fun _ _ _ => fun _ => none) (fun _ => none) (fun l _ f => f l) (fun _ _ => fun _ => none) (fun _ => fun _ => none) (fun _ _ => fun _ => none) (fun _ _ => fun _ => none) ⟨⟩ (fun _ _ _ _ => ⟨⟩))
theorem onAg_some {v : AV} {f : List AV → Option AV} {r : AV} (h : onAg v f = some r) : ∃ l, v = .ag l ∧ f l = some r := by
  cases v <;> first | (cases h; done) | exact ⟨_, rfl, h⟩
noncomputable def onTu : AV → (List AV → Option AV) → Option AV := (@AV.rec (fun _ => (List AV → Option AV) → Option AV) (fun _ => PUnit) (fun _ => fun _ => none) (fun _ _ => fun _ => none) (fun _ _ => fun _ => none) (fun _ => none) (fun _ _ => fun _ => none) (fun _ => none) (fun _ _ _ _ _ => fun _ => none) (fun _ => none) (fun _ => none) (fun _ => fun _ => none) (fun _ _ _ _ _ => fun _ => none) (fun _ => none) (fun _ _ _ => fun _ => none) (fun _ => none) (fun _ _ => fun _ => none) (fun l _ f => f l) (fun _ => fun _ => none) (fun _ _ => fun _ => none) (fun _ _ => fun _ => none) ⟨⟩ (fun _ _ _ _ => ⟨⟩))
theorem onTu_some {v : AV} {f : List AV → Option AV} {r : AV} (h : onTu v f = some r) : ∃ l, v = .tu l ∧ f l = some r := by
  cases v <;> first | (cases h; done) | exact ⟨_, rfl, h⟩
noncomputable def fieldC (P : Program) (t : TypeId) (f : Nat) : Cl (AV → Option AV) :=
  match fieldPart P t f with
  | some (off, true, n) => ⟨fun v => onAg v fun cs => some (.ag ((cs.drop off).take n))⟩
  | some (off, false, _) => ⟨fun v => onAg v fun cs => nth cs off⟩
  | none => ⟨fun _ => none⟩
theorem fieldC_some {t : TypeId} {f : Nat} {v r : AV} (h : (fieldC P t f).run v = some r) : aField P t f v = some r := by
  unfold fieldC at h
  split at h
  · rename_i off n hf
    obtain ⟨l, rfl, h⟩ := onAg_some h
    simp only [aField, hf]; exact h
  · rename_i off n hf
    obtain ⟨l, rfl, h⟩ := onAg_some h
    have h : nth l off = some r := h
    rw [nth_eq] at h
    simp only [aField, hf]; exact h
  · cases h
noncomputable def lenF : AV → Option AV := (@AV.rec (fun _ => Option AV) (fun _ => PUnit) (fun _ => none) (fun _ _ => none) (fun l _ => some (.i .i64 (.ofNat l))) (none) (fun _ _ => none) (some (.i .i64 (.ofNat 0))) (fun _ _ l _ _ => some (.i .i64 (.ofNat l))) (some (.i .i64 (.ofNat 0))) (none) (fun _ => none) (fun _ _ _ _ _ => none) (none) (fun _ _ _ => none) (none) (fun _ _ => none) (fun _ _ => none) (fun _ => none) (fun _ _ => none) (fun _ _ => some (.i .i64 (.ofNat 0))) ⟨⟩ (fun _ _ _ _ => ⟨⟩))
noncomputable def lenS : AV → Option AV := (@AV.rec (fun _ => Option AV) (fun _ => PUnit) (fun _ => none) (fun _ _ => none) (fun l _ => some (.i .i64 (.ofNat l))) (none) (fun _ _ => none) (none) (fun _ _ _ _ _ => none) (none) (none) (fun _ => none) (fun _ _ _ _ _ => none) (none) (fun _ _ _ => none) (none) (fun _ _ => none) (fun _ _ => none) (fun _ => none) (fun _ _ => none) (fun _ _ => none) ⟨⟩ (fun _ _ _ _ => ⟨⟩))
noncomputable def lenL : AV → Option AV := (@AV.rec (fun _ => Option AV) (fun _ => PUnit) (fun _ => none) (fun _ _ => none) (fun _ _ => none) (none) (fun _ _ => none) (some (.i .i64 (.ofNat 0))) (fun _ _ l _ _ => some (.i .i64 (.ofNat l))) (some (.i .i64 (.ofNat 0))) (none) (fun _ => none) (fun _ _ _ _ _ => none) (none) (fun _ _ _ => none) (none) (fun _ _ => none) (fun _ _ => none) (fun _ => none) (fun _ _ => none) (fun _ _ => some (.i .i64 (.ofNat 0))) ⟨⟩ (fun _ _ _ _ => ⟨⟩))
noncomputable def lenC (P : Program) (t : TypeId) : Cl (Heap → AV → Option AV) :=
  match P.underlying t with
  | some .string => ⟨fun _ v => lenS v⟩
  | some (.slice _) => ⟨fun _ v => lenL v⟩
  | _ => ⟨fun H v => aLen P H t v⟩
theorem lenC_some {t : TypeId} {v r : AV} (h : (lenC P t).run H v = some r) : aLen P H t v = some r := by
  unfold lenC at h
  split at h
  · rename_i ht
    cases v <;> first | (cases h; done) | (simp only [aLen, ht]; exact h)
  · rename_i ht
    cases v <;> first | (cases h; done) | (simp only [aLen, ht]; exact h)
  · exact h

/-! further operations on numbers that are not negative -/
def bitsOf : IntKind → Nat
  | .i8 | .u8 => 8 | .i16 | .u16 => 16 | .i32 | .u32 => 32 | .i64 | .u64 => 64
noncomputable def bitsR (k : IntKind) : Nat := @IntKind.rec (fun _ => Nat) 8 16 32 64 8 16 32 64 k
theorem bitsR_eq (k : IntKind) : bitsR k = k.bits := by cases k <;> rfl
theorem limR_le (k : IntKind) : limR k ≤ 2 ^ k.bits := by rw [limR_eq]; cases k <;> decide
noncomputable def bitN (op : BinOp) : Cl (IntKind → IntKind → Nat → Nat → Option AV) :=
  match op with
  | .quo => ⟨fun k k' m n => Bool.rec (motive := fun _ => Option AV) none (Bool.rec (motive := fun _ => Option AV) (some (fitN k (Nat.div m n))) none (Nat.beq n 0)) (kIs k k')⟩
  | .rem => ⟨fun k k' m n => Bool.rec (motive := fun _ => Option AV) none (Bool.rec (motive := fun _ => Option AV) (some (.i k (.ofNat (Nat.mod m n)))) none (Nat.beq n 0)) (kIs k k')⟩
  | .and => ⟨fun k k' m n => Bool.rec (motive := fun _ => Option AV) none (Bool.rec (motive := fun _ => Option AV) none (Bool.rec (motive := fun _ => Option AV) none (some (fitN k (Nat.land m n))) (Nat.ble (Nat.succ n) (limR k))) (Nat.ble (Nat.succ m) (limR k))) (kIs k k')⟩
  | .or => ⟨fun k k' m n => Bool.rec (motive := fun _ => Option AV) none (Bool.rec (motive := fun _ => Option AV) none (Bool.rec (motive := fun _ => Option AV) none (some (fitN k (Nat.lor m n))) (Nat.ble (Nat.succ n) (limR k))) (Nat.ble (Nat.succ m) (limR k))) (kIs k k')⟩
  | .xor => ⟨fun k k' m n => Bool.rec (motive := fun _ => Option AV) none (Bool.rec (motive := fun _ => Option AV) none (Bool.rec (motive := fun _ => Option AV) none (some (fitN k (Nat.xor m n))) (Nat.ble (Nat.succ n) (limR k))) (Nat.ble (Nat.succ m) (limR k))) (kIs k k')⟩
  | .shl => ⟨fun k _ m n => Bool.rec (motive := fun _ => Option AV) none (some (fitN k (Nat.mul m (Nat.pow 2 n)))) (Nat.ble n (bitsR k))⟩
  | .shr => ⟨fun k _ m n => Bool.rec (motive := fun _ => Option AV) none (some (.i k (.ofNat (Nat.div m (Nat.pow 2 n))))) (Nat.ble n (bitsR k))⟩
  | _ => ⟨fun _ _ _ _ => none⟩
theorem fitN_wrap (k : IntKind) (r : Nat) : fitN k r = .i k (k.wrap (r : Int)) := by rw [fitN_eq, wr_eq]; rfl
theorem back_and {k : IntKind} {m n : Nat} (hm : m < limR k) (hn : n < limR k) : ((BitVec.ofInt k.bits (m : Int)) &&& (BitVec.ofInt k.bits (n : Int))).toNat = m &&& n := by
  have h1 := Nat.lt_of_lt_of_le hm (limR_le k)
  have h2 := Nat.lt_of_lt_of_le hn (limR_le k)
  rw [BitVec.toNat_and, BitVec.ofInt_natCast, BitVec.ofInt_natCast, BitVec.toNat_ofNat, BitVec.toNat_ofNat, Nat.mod_eq_of_lt h1, Nat.mod_eq_of_lt h2]
theorem back_or {k : IntKind} {m n : Nat} (hm : m < limR k) (hn : n < limR k) : ((BitVec.ofInt k.bits (m : Int)) ||| (BitVec.ofInt k.bits (n : Int))).toNat = m ||| n := by
  have h1 := Nat.lt_of_lt_of_le hm (limR_le k)
  have h2 := Nat.lt_of_lt_of_le hn (limR_le k)
  rw [BitVec.toNat_or, BitVec.ofInt_natCast, BitVec.ofInt_natCast, BitVec.toNat_ofNat, BitVec.toNat_ofNat, Nat.mod_eq_of_lt h1, Nat.mod_eq_of_lt h2]
theorem back_xor {k : IntKind} {m n : Nat} (hm : m < limR k) (hn : n < limR k) : ((BitVec.ofInt k.bits (m : Int)) ^^^ (BitVec.ofInt k.bits (n : Int))).toNat = m ^^^ n := by
  have h1 := Nat.lt_of_lt_of_le hm (limR_le k)
  have h2 := Nat.lt_of_lt_of_le hn (limR_le k)
  rw [BitVec.toNat_xor, BitVec.ofInt_natCast, BitVec.ofInt_natCast, BitVec.toNat_ofNat, BitVec.toNat_ofNat, Nat.mod_eq_of_lt h1, Nat.mod_eq_of_lt h2]
theorem kIs_true {a b : IntKind} (h : kIs a b = true) : a = b := by rw [kIs_eq] at h; exact of_decide_eq_true h
theorem beq0_some {α : Type} {n : Nat} {x : Option α} {r : α} (h : (Bool.rec (motive := fun _ => Option α) x none (Nat.beq n 0)) = some r) : n ≠ 0 ∧ x = some r := by
  cases hb : Nat.beq n 0 with
  | true => rw [hb] at h; cases h
  | false => rw [hb] at h; exact ⟨beq_false hb, h⟩
theorem bitN_some {op : BinOp} {t : TypeId} {k k' : IntKind} {m n : Nat} {r : AV} (h : (bitN op).run k k' m n = some r) :
    ∃ z, r = .i k z ∧ runPure P (binOp op t (.int k (m : Int)) (.int k' (n : Int))) = some (.int k z) ∧ aInt op k (.ofNat m) (.ofNat n) = none ∧ ∀ cx cy, eqGuard op t cx cy (.int k (m : Int)) (.int k' (n : Int)) = pure () := by
  cases op <;> simp only [bitN] at h <;> try (cases h; done)
  · obtain ⟨h1, g1⟩ := brec_some h
    obtain ⟨h2, g⟩ := beq0_some g1
    clear h g1
    have := kIs_true h1; subst this
    simp only [Option.some.injEq] at g; subst g
    refine ⟨_, fitN_wrap _ _, ?_, rfl, fun _ _ => rfl⟩
    have h3 : ¬ (n : Int) = 0 := by omega
    simp only [binOp, ne_eq, not_true, if_false, Op.intDiv, if_neg h3]
    rfl
  · obtain ⟨h1, g1⟩ := brec_some h
    obtain ⟨h2, g⟩ := beq0_some g1
    clear h g1
    have := kIs_true h1; subst this
    simp only [Option.some.injEq] at g; subst g
    refine ⟨_, rfl, ?_, rfl, fun _ _ => rfl⟩
    have h3 : ¬ (n : Int) = 0 := by omega
    simp only [binOp, ne_eq, not_true, if_false, Op.intDiv, if_neg h3]
    rfl
  · obtain ⟨h1, g1⟩ := brec_some h
    obtain ⟨h2, g2⟩ := brec_some g1
    obtain ⟨h3, g⟩ := brec_some g2
    clear h g1 g2
    have := kIs_true h1; subst this
    simp only [Option.some.injEq] at g; subst g
    refine ⟨_, fitN_wrap _ _, ?_, rfl, fun _ _ => rfl⟩
    simp only [binOp, ne_eq, not_true, if_false, Op.intBits, back_and (ble_true h2) (ble_true h3)]
    rfl
  · obtain ⟨h1, g1⟩ := brec_some h
    obtain ⟨h2, g2⟩ := brec_some g1
    obtain ⟨h3, g⟩ := brec_some g2
    clear h g1 g2
    have := kIs_true h1; subst this
    simp only [Option.some.injEq] at g; subst g
    refine ⟨_, fitN_wrap _ _, ?_, rfl, fun _ _ => rfl⟩
    simp only [binOp, ne_eq, not_true, if_false, Op.intBits, back_or (ble_true h2) (ble_true h3)]
    rfl
  · obtain ⟨h1, g1⟩ := brec_some h
    obtain ⟨h2, g2⟩ := brec_some g1
    obtain ⟨h3, g⟩ := brec_some g2
    clear h g1 g2
    have := kIs_true h1; subst this
    simp only [Option.some.injEq] at g; subst g
    refine ⟨_, fitN_wrap _ _, ?_, rfl, fun _ _ => rfl⟩
    simp only [binOp, ne_eq, not_true, if_false, Op.intBits, back_xor (ble_true h2) (ble_true h3)]
    rfl
  · obtain ⟨h0, g⟩ := brec_some h
    have h1 := ble_true h0
    rw [bitsR_eq] at h1
    clear h h0
    simp only [Option.some.injEq] at g; subst g
    refine ⟨_, fitN_wrap _ _, ?_, rfl, fun _ _ => rfl⟩
    have h3 : ¬ (n : Int) < 0 := by omega
    simp only [binOp, Op.shift, if_neg h3, Int.toNat_natCast, Nat.min_eq_left h1]
    rfl
  · obtain ⟨h0, g⟩ := brec_some h
    have h1 := ble_true h0
    rw [bitsR_eq] at h1
    clear h h0
    simp only [Option.some.injEq] at g; subst g
    refine ⟨_, rfl, ?_, rfl, fun _ _ => rfl⟩
    have h3 : ¬ (n : Int) < 0 := by omega
    simp only [binOp, Op.shift, if_neg h3, Int.toNat_natCast, Nat.min_eq_left h1]
    have e1 : (m : Int).fdiv (2 ^ n) = (Int.ofNat (m.div (Nat.pow 2 n))) := by
      rw [Int.fdiv_eq_ediv_of_nonneg _ (by exact Int.le_of_lt (Int.pow_pos (by decide)))]
      show (m : Int) / (2 ^ n) = ((m / 2 ^ n : Nat) : Int)
      rw [Int.natCast_ediv, Int.natCast_pow]; rfl
    rw [e1]
    rfl
theorem runPure_map {α β : Type} {f : α → Sem β} : ∀ (s : Sem α) {a : α}, runPure P s = some a → runPure P (s.bind f) = runPure P (f a)
  | .pure a, b, h => by simp only [runPure, Option.some.injEq] at h; subst h; rfl
  | .program k, b, h => by simp only [runPure] at h; simp only [Sem.bind, runPure]; exact runPure_map (k P) h
  | .mark _ k, b, h => by simp only [runPure] at h; simp only [Sem.bind, runPure]; exact runPure_map k h
  | .load .., _, h | .store .., _, h | .new .., _, h | .shape .., _, h | .freeze .., _, h | .frozen .., _, h | .getObj .., _, h | .setObj .., _, h | .choose .., _, h | .sys .., _, h | .halt .., _, h => by simp [runPure] at h
noncomputable def bitC (op : BinOp) : Cl (AV → AV → Option AV) := ⟨fun x y => onI x fun k a => onN a fun m => onI y fun k' b => onN b fun n => (bitN op).run k k' m n⟩
theorem bitC_some {op : BinOp} {t : TypeId} {x y : Operand} {o : Oper} {yt : TypeId} {u v r : AV} (ho : o.op = .binOp op t x y yt) (hx : ev ng T x = some u) (hy : ev ng T y = some v) (h : (bitC op).run u v = some r) : rBin P ng T o op t x y = some r := by
  obtain ⟨k, a, rfl, h⟩ := onI_some h
  obtain ⟨m, rfl, h⟩ := onN_some h
  obtain ⟨k', b, rfl, h⟩ := onI_some h
  obtain ⟨n, rfl, h⟩ := onN_some h
  obtain ⟨z, rfl, h1, h2, h3⟩ := bitN_some (P := P) (t := t) h
  have e1 : aBin P op t (.i k (.ofNat m)) (.i k' (.ofNat n)) = none := by
    simp only [aBin]
    cases hd : decide (k = k') with
    | false => rfl
    | true => exact h2
  simp only [rBin, hx, hy, e1]
  have r1 : rhoP ng T x = some (.int k (.ofNat m)) := by simp only [rhoP, hx, Option.bind_some, toV]
  have r2 : rhoP ng T y = some (.int k' (.ofNat n)) := by simp only [rhoP, hy, Option.bind_some, toV]
  unfold pureOp
  rw [show isSel o.op = false by rw [ho]; rfl]
  have r3 : (o.op.operands.toList.all fun x => (rhoP ng T x).isSome) = true := by rw [ho]; simp [Op.operands, r1, r2]
  rw [r3]
  have r4 : execOp (fun x => (rhoP ng T x).getD undef) o = (do let v ← (do eqGuard op t x y (.int k (.ofNat m)) (.int k' (.ofNat n)); binOp op t (.int k (.ofNat m)) (.int k' (.ofNat n))); pure (.value v) : Sem Next) := by
    unfold execOp
    rw [ho]
    simp only [r1, r2, Option.getD_some]
  have e3 : eqGuard op t x y (.int k (.ofNat m)) (.int k' (.ofNat n)) = pure () := h3 x y
  have r5 : runPure P (execOp (fun x => (rhoP ng T x).getD undef) o) = some (.value (.int k z)) := by
    rw [r4, e3]
    have h1' : runPure P (binOp op t (.int k (.ofNat m)) (.int k' (.ofNat n))) = some (.int k z) := h1
    exact (runPure_map (f := fun q => .pure (Next.value q)) _ h1')
  rw [r5]
  rfl
noncomputable def nilF : AV → Option AV := (@AV.rec (fun _ => Option AV) (fun _ => PUnit) (fun _ => none) (fun _ _ => none) (fun _ _ => none) (none) (fun a o => some (.p a o)) (none) (fun a o l c p => some (.sl a o l c p)) (none) (none) (fun b => some (.m b)) (fun f l k _ _ => bif isFuncFn f then some (.fn f l k) else none) (none) (fun t v _ => some (.ifc t v)) (none) (fun _ _ => none) (fun _ _ => none) (fun _ => none) (fun _ _ => none) (fun _ _ => none) ⟨⟩ (fun _ _ _ _ => ⟨⟩))
theorem nilF_eq (v : AV) : nilF v = aNilCheck v := by cases v <;> rfl
noncomputable def wrF (k : IntKind) (n : Int) : AV := @Int.rec (fun _ => AV) (fun m => fitN k m) (fun m => wr k (.negSucc m)) n
theorem wrF_eq (k : IntKind) (n : Int) : wrF k n = wr k n := by
  cases n with
  | ofNat m => exact fitN_eq k m
  | negSucc m => rfl
noncomputable def convC (P : Program) (src dst : TypeId) : Cl (Heap → AV → Option AV) :=
  match P.underlying src, P.underlying dst with
  | some (.int _), some (.int k) => ⟨fun _ v => onI v fun _ n => some (wrF k n)⟩
  | _, _ => ⟨fun H v => aConvert P H src dst v⟩
theorem convC_some {src dst : TypeId} {v r : AV} (h : (convC P src dst).run H v = some r) : aConvert P H src dst v = some r := by
  unfold convC at h
  split at h
  · rename_i k0 k h1 h2
    obtain ⟨k', n, rfl, g⟩ := onI_some h
    clear h
    rw [wrF_eq] at g
    simp only [aConvert, h1, h2]
    exact g
  · exact h
end
end Go.Ai
