/- Closures: what a program's text fixes is laid once, and the kernel remembers it. Quick trees. -/
import Derived.Test.YtfmngaligboglaaGreatDoorAd
namespace Go.Ai
/-- a function behind a constructor: the kernel brings the whole to its normal form once, and remembers that -/
structure Cl (α : Type) where
  run : α
section
variable {α : Type}
/-- reading at a place that is fixed -/
noncomputable def getF (f : Nat) : Nat → Cl (TT α → Option α) :=
  Nat.rec (motive := fun _ => Nat → Cl (TT α → Option α)) (fun _ => ⟨fun _ => none⟩)
    (fun _ ih k => Bool.rec (Bool.rec
        ⟨fun t => TT.rec (motive := fun _ => Option α) none (fun l _ _ _ _ => Cl.rec (motive := fun _ => Option α) (fun g => g l) (ih (Nat.div k 2))) t⟩
        ⟨fun t => TT.rec (motive := fun _ => Option α) none (fun _ _ r _ _ => Cl.rec (motive := fun _ => Option α) (fun g => g r) (ih (Nat.div (Nat.pred k) 2))) t⟩ (Nat.beq (Nat.mod k 2) 0))
      ⟨fun t => TT.rec (motive := fun _ => Option α) none (fun _ v _ _ _ => v) t⟩ (Nat.beq k 0)) f
theorem Cl.rec_eq {β : Type} (g : α → β) (c : Cl α) : Cl.rec (motive := fun _ => β) g c = g c.run := rfl
theorem getF_eq : ∀ (f k : Nat) (t : TT α), k < f → (getF f k).run t = t.get k := by
  intro f
  induction f with
  | zero => intro k t h; omega
  | succ f ih =>
    intro k t h
    show (Cl.run (Bool.rec (Bool.rec ⟨fun t => TT.rec (motive := fun _ => Option α) none (fun l _ _ _ _ => (getF f (k / 2)).run l) t⟩ ⟨fun t => TT.rec (motive := fun _ => Option α) none (fun _ _ r _ _ => (getF f ((k - 1) / 2)).run r) t⟩ (Nat.beq (k % 2) 0)) ⟨fun t => TT.rec (motive := fun _ => Option α) none (fun _ v _ _ _ => v) t⟩ (Nat.beq k 0) : Cl (TT α → Option α))) t = _
    cases t with
    | e =>
      rw [TT.get_e]
      cases Nat.beq k 0 <;> cases Nat.beq (k % 2) 0 <;> rfl
    | n l v r =>
      rw [TT.get_n]
      by_cases hk : k = 0
      · subst hk; rfl
      · have h1 : Nat.beq k 0 = false := by cases hb : Nat.beq k 0 with | false => rfl | true => exact absurd (Nat.eq_of_beq_eq_true hb) hk
        rw [h1, if_neg hk]
        by_cases h2 : k % 2 = 0
        · rw [h2, if_pos rfl]
          show (getF f ((k - 1) / 2)).run r = _
          exact ih _ _ (by omega)
        · have h3 : Nat.beq (k % 2) 0 = false := by cases hb : Nat.beq (k % 2) 0 with | false => rfl | true => exact absurd (Nat.eq_of_beq_eq_true hb) h2
          rw [h3, if_neg h2]
          show (getF f (k / 2)).run l = _
          exact ih _ _ (by omega)
noncomputable def setF (f : Nat) : Nat → Cl (α → TT α → TT α) :=
  Nat.rec (motive := fun _ => Nat → Cl (α → TT α → TT α)) (fun _ => ⟨fun _ t => t⟩)
    (fun _ ih k => Bool.rec (Bool.rec
        ⟨fun x t => TT.rec (motive := fun _ => TT α) (TT.single x (Nat.succ k) k) (fun l v r _ _ => .n (Cl.rec (motive := fun _ => TT α) (fun g => g x l) (ih (Nat.div k 2))) v r) t⟩
        ⟨fun x t => TT.rec (motive := fun _ => TT α) (TT.single x (Nat.succ k) k) (fun l v r _ _ => .n l v (Cl.rec (motive := fun _ => TT α) (fun g => g x r) (ih (Nat.div (Nat.pred k) 2)))) t⟩ (Nat.beq (Nat.mod k 2) 0))
      ⟨fun x t => TT.rec (motive := fun _ => TT α) (TT.single x (Nat.succ k) k) (fun l _ r _ _ => .n l (some x) r) t⟩ (Nat.beq k 0)) f
theorem setF_eq : ∀ (f k : Nat) (x : α) (t : TT α), k < f → (setF f k).run x t = t.set x k := by
  intro f
  induction f with
  | zero => intro k x t h; omega
  | succ f ih =>
    intro k x t h
    show (Cl.run (Bool.rec (Bool.rec ⟨fun x t => TT.rec (motive := fun _ => TT α) (TT.single x (k + 1) k) (fun l v r _ _ => .n ((setF f (k / 2)).run x l) v r) t⟩ ⟨fun x t => TT.rec (motive := fun _ => TT α) (TT.single x (k + 1) k) (fun l v r _ _ => .n l v ((setF f ((k - 1) / 2)).run x r)) t⟩ (Nat.beq (k % 2) 0)) ⟨fun x t => TT.rec (motive := fun _ => TT α) (TT.single x (k + 1) k) (fun l _ r _ _ => .n l (some x) r) t⟩ (Nat.beq k 0) : Cl (α → TT α → TT α))) x t = _
    cases t with
    | e =>
      rw [TT.set_e]
      cases Nat.beq k 0 <;> cases Nat.beq (k % 2) 0 <;> rfl
    | n l v r =>
      rw [TT.set_n]
      by_cases hk : k = 0
      · subst hk; rfl
      · have h1 : Nat.beq k 0 = false := by cases hb : Nat.beq k 0 with | false => rfl | true => exact absurd (Nat.eq_of_beq_eq_true hb) hk
        rw [h1, if_neg hk]
        by_cases h2 : k % 2 = 0
        · rw [h2, if_pos rfl]
          show TT.n l v ((setF f ((k - 1) / 2)).run x r) = _
          rw [ih _ _ _ (by omega)]
        · have h3 : Nat.beq (k % 2) 0 = false := by cases hb : Nat.beq (k % 2) 0 with | false => rfl | true => exact absurd (Nat.eq_of_beq_eq_true hb) h2
          rw [h3, if_neg h2]
          show TT.n ((setF f (k / 2)).run x l) v r = _
          rw [ih _ _ _ (by omega)]
/-- at a place that is known only when it runs -/
noncomputable def fget (t : TT α) : Nat → Option α :=
  TT.rec (motive := fun _ => Nat → Option α) (fun _ => none)
    (fun _ v _ gl gr k => Nat.rec (motive := fun _ => Option α) v (fun j _ => Nat.rec (motive := fun _ => Nat → Option α) gl (fun _ _ => gr) (Nat.mod j 2) (Nat.div j 2)) k) t
theorem fget_eq : ∀ (t : TT α) (k : Nat), fget t k = t.get k := by
  intro t
  induction t with
  | e => intro k; rfl
  | n l v r ihl ihr =>
    intro k
    rw [TT.get_n]
    cases k with
    | zero => rfl
    | succ j =>
      show (Nat.rec (motive := fun _ => Nat → Option α) (fget l) (fun _ _ => fget r) (j % 2) (j / 2)) = _
      rw [if_neg (by omega)]
      rcases Nat.mod_two_eq_zero_or_one j with h | h
      · rw [h, if_neg (by omega)]
        show fget l (j / 2) = _
        rw [ihl, show (j + 1) / 2 = j / 2 by omega]
      · rw [h, if_pos (by omega)]
        show fget r (j / 2) = _
        rw [ihr]; rfl
noncomputable def fset (t : TT α) (x : α) : Nat → TT α :=
  TT.rec (motive := fun _ => Nat → TT α) (fun k => TT.single x (Nat.succ k) k)
    (fun l v r gl gr k => Nat.rec (motive := fun _ => TT α) (.n l (some x) r) (fun j _ => Nat.rec (motive := fun _ => Nat → TT α) (fun j' => .n (gl j') v r) (fun _ _ j' => .n l v (gr j')) (Nat.mod j 2) (Nat.div j 2)) k) t
theorem fset_eq : ∀ (t : TT α) (x : α) (k : Nat), fset t x k = t.set x k := by
  intro t
  induction t with
  | e => intro x k; rfl
  | n l v r ihl ihr =>
    intro x k
    rw [TT.set_n]
    cases k with
    | zero => rfl
    | succ j =>
      show (Nat.rec (motive := fun _ => Nat → TT α) (fun j' => .n (fset l x j') v r) (fun _ _ j' => .n l v (fset r x j')) (j % 2) (j / 2)) = _
      rw [if_neg (by omega)]
      rcases Nat.mod_two_eq_zero_or_one j with h | h
      · rw [h, if_neg (by omega)]
        show TT.n (fset l x (j / 2)) v r = _
        rw [ihl, show (j + 1) / 2 = j / 2 by omega]
      · rw [h, if_pos (by omega)]
        show TT.n l v (fset r x (j / 2)) = _
        rw [ihr]; rfl
end
end Go.Ai
/- Operations as closures: readers. -/
namespace Go.Ai
section
variable {P : Program} {ng : Nat} {H : Heap} {T : TT AV}
noncomputable def onI : AV → (IntKind → Int → Option AV) → Option AV := (@AV.rec (fun _ => (IntKind → Int → Option AV) → Option AV) (fun _ => PUnit) (fun _ => fun _ => none) (fun k n f => f k n) (fun _ _ => fun _ => none) (fun _ => none) (fun _ _ => fun _ => none) (fun _ => none) (fun _ _ _ _ _ => fun _ => none) (fun _ => none) (fun _ => none) (fun _ => fun _ => none) (fun _ _ _ _ _ => fun _ => none) (fun _ => none) (fun _ _ _ => fun _ => none) (fun _ => none) (fun _ _ => fun _ => none) (fun _ _ => fun _ => none) (fun _ => fun _ => none) (fun _ _ => fun _ => none) ⟨⟩ (fun _ _ _ _ => ⟨⟩))
noncomputable def onP : AV → (Nat → Nat → Option AV) → Option AV := (@AV.rec (fun _ => (Nat → Nat → Option AV) → Option AV) (fun _ => PUnit) (fun _ => fun _ => none) (fun _ _ => fun _ => none) (fun _ _ => fun _ => none) (fun _ => none) (fun b o f => f b o) (fun _ => none) (fun _ _ _ _ _ => fun _ => none) (fun _ => none) (fun _ => none) (fun _ => fun _ => none) (fun _ _ _ _ _ => fun _ => none) (fun _ => none) (fun _ _ _ => fun _ => none) (fun _ => none) (fun _ _ => fun _ => none) (fun _ _ => fun _ => none) (fun _ => fun _ => none) (fun _ _ => fun _ => none) ⟨⟩ (fun _ _ _ _ => ⟨⟩))
noncomputable def onB : AV → (Bool → Option AV) → Option AV := (@AV.rec (fun _ => (Bool → Option AV) → Option AV) (fun _ => PUnit) (fun x f => f x) (fun _ _ => fun _ => none) (fun _ _ => fun _ => none) (fun _ => none) (fun _ _ => fun _ => none) (fun _ => none) (fun _ _ _ _ _ => fun _ => none) (fun _ => none) (fun _ => none) (fun _ => fun _ => none) (fun _ _ _ _ _ => fun _ => none) (fun _ => none) (fun _ _ _ => fun _ => none) (fun _ => none) (fun _ _ => fun _ => none) (fun _ _ => fun _ => none) (fun _ => fun _ => none) (fun _ _ => fun _ => none) ⟨⟩ (fun _ _ _ _ => ⟨⟩))
theorem onI_some {v : AV} {f : IntKind → Int → Option AV} {r : AV} (h : onI v f = some r) : ∃ k n, v = .i k n ∧ f k n = some r := by
  cases v <;> first | (cases h; done) | exact ⟨_, _, rfl, h⟩
theorem onP_some {v : AV} {f : Nat → Nat → Option AV} {r : AV} (h : onP v f = some r) : ∃ b o, v = .p b o ∧ f b o = some r := by
  cases v <;> first | (cases h; done) | exact ⟨_, _, rfl, h⟩
theorem onB_some {v : AV} {f : Bool → Option AV} {r : AV} (h : onB v f = some r) : ∃ x, v = .b x ∧ f x = some r := by
  cases v <;> first | (cases h; done) | exact ⟨_, rfl, h⟩
noncomputable def bO {α β : Type} (x : Option α) (f : α → Option β) : Option β := Option.rec (motive := fun _ => Option β) none f x
theorem bO_some {α β : Type} {x : Option α} {f : α → Option β} {r : β} (h : bO x f = some r) : ∃ v, x = some v ∧ f v = some r := by
  cases x with
  | none => cases h
  | some v => exact ⟨v, rfl, h⟩
theorem brec_some {α : Type} {b : Bool} {x : Option α} {r : α} (h : (Bool.rec (motive := fun _ => Option α) none x b) = some r) : b = true ∧ x = some r := by
  cases b with
  | false => cases h
  | true => exact ⟨rfl, h⟩

/-! operands -/
noncomputable def evC (ng : Nat) (x : Operand) : Cl (TT AV → Option AV) :=
  match x with
  | .tmp t => getF (Nat.succ t) t
  | .const v => ⟨fun _ => ofV v⟩
  | .global g => bif Nat.blt g ng then ⟨fun _ => some (.p g 0)⟩ else ⟨fun _ => none⟩
  | .func f => ⟨fun _ => some (.fn (.func f) [] [])⟩
theorem evC_eq (x : Operand) : (evC ng x).run T = ev ng T x := by
  cases x with
  | tmp t => exact getF_eq _ _ _ (Nat.lt_succ_self t)
  | const v => rfl
  | global g => simp only [evC, ev]; cases Nat.blt g ng <;> rfl
  | func f => rfl
noncomputable def evsK (a : Cl (TT AV → Option AV)) (b : Cl (TT AV → Option (List AV))) : Cl (TT AV → Option (List AV)) :=
  ⟨fun T => Option.rec (motive := fun _ => Option (List AV)) none (fun v => Option.rec (motive := fun _ => Option (List AV)) none (fun vs => some (v :: vs)) (b.run T)) (a.run T)⟩
noncomputable def evsC (ng : Nat) : List Operand → Cl (TT AV → Option (List AV))
  | [] => ⟨fun _ => some []⟩
  | x :: l => evsK (evC ng x) (evsC ng l)
theorem evsC_eq : ∀ (l : List Operand), (evsC ng l).run T = evs ng T l
  | [] => rfl
  | x :: l => by
    show Option.rec (motive := fun _ => Option (List AV)) none (fun v => Option.rec (motive := fun _ => Option (List AV)) none (fun vs => some (v :: vs)) ((evsC ng l).run T)) ((evC ng x).run T) = _
    rw [evC_eq, evsC_eq l, evs]
    cases ev ng T x with
    | none => rfl
    | some v => cases evs ng T l <;> rfl

/-! numbers -/
noncomputable def kIs (a : IntKind) : IntKind → Bool :=
  @IntKind.rec (fun _ => IntKind → Bool)
    (@IntKind.rec (fun _ => Bool) true false false false false false false false) (@IntKind.rec (fun _ => Bool) false true false false false false false false)
    (@IntKind.rec (fun _ => Bool) false false true false false false false false) (@IntKind.rec (fun _ => Bool) false false false true false false false false)
    (@IntKind.rec (fun _ => Bool) false false false false true false false false) (@IntKind.rec (fun _ => Bool) false false false false false true false false)
    (@IntKind.rec (fun _ => Bool) false false false false false false true false) (@IntKind.rec (fun _ => Bool) false false false false false false false true) a
theorem kIs_eq (a b : IntKind) : kIs a b = decide (a = b) := by cases a <;> cases b <;> rfl
noncomputable def limR (k : IntKind) : Nat := @IntKind.rec (fun _ => Nat) (lim .i8) (lim .i16) (lim .i32) (lim .i64) (lim .u8) (lim .u16) (lim .u32) (lim .u64) k
theorem limR_eq (k : IntKind) : limR k = lim k := by cases k <;> rfl
noncomputable def fitN (k : IntKind) (r : Nat) : AV := Bool.rec (motive := fun _ => AV) (wr k (.ofNat r)) (.i k (.ofNat r)) (Nat.ble (Nat.succ r) (limR k))
theorem fitN_eq (k : IntKind) (r : Nat) : fitN k r = wr k (.ofNat r) := by
  unfold fitN
  rw [limR_eq]
  cases h : Nat.ble (Nat.succ r) (lim k) with
  | false => rfl
  | true => simp only [wr, show Nat.blt r (lim k) = true from h, cond_true]
noncomputable def addF (k : IntKind) (a b : Int) : AV :=
  @Int.rec (fun _ => Int → AV) (fun m b => @Int.rec (fun _ => AV) (fun n => fitN k (Nat.add m n)) (fun n => wr k (Int.add (.ofNat m) (.negSucc n))) b) (fun m b => wr k (Int.add (.negSucc m) b)) a b
theorem addF_eq (k : IntKind) (a b : Int) : addF k a b = wr k (Int.add a b) := by
  cases a with
  | ofNat m => cases b with
    | ofNat n => show fitN k (Nat.add m n) = _; rw [fitN_eq]; rfl
    | negSucc n => rfl
  | negSucc m => rfl
noncomputable def subF (k : IntKind) (a b : Int) : AV :=
  @Int.rec (fun _ => Int → AV) (fun m b => @Int.rec (fun _ => AV) (fun n => Bool.rec (motive := fun _ => AV) (wr k (Int.sub (.ofNat m) (.ofNat n))) (fitN k (Nat.sub m n)) (Nat.ble n m)) (fun n => wr k (Int.sub (.ofNat m) (.negSucc n))) b) (fun m b => wr k (Int.sub (.negSucc m) b)) a b
theorem subF_eq (k : IntKind) (a b : Int) : subF k a b = wr k (Int.sub a b) := by
  cases a with
  | ofNat m => cases b with
    | ofNat n =>
      show Bool.rec (motive := fun _ => AV) (wr k (Int.sub (.ofNat m) (.ofNat n))) (fitN k (Nat.sub m n)) (Nat.ble n m) = _
      cases h : Nat.ble n m with
      | false => rfl
      | true =>
        show fitN k (m - n) = _
        have h := ble_true h
        rw [fitN_eq]
        congr 1
        show Int.ofNat (m - n) = (m : Int) - (n : Int)
        simp only [Int.ofNat_eq_natCast]
        omega
    | negSucc n => rfl
  | negSucc m => rfl
noncomputable def ltF (a b : Int) : Bool :=
  @Int.rec (fun _ => Int → Bool) (fun m b => @Int.rec (fun _ => Bool) (fun n => Nat.ble (Nat.succ m) n) (fun _ => false) b) (fun m b => ilt (.negSucc m) b) a b
theorem ltF_eq (a b : Int) : ltF a b = ilt a b := by cases a <;> cases b <;> rfl
noncomputable def eqF (a b : Int) : Bool :=
  @Int.rec (fun _ => Int → Bool) (fun m b => @Int.rec (fun _ => Bool) (fun n => Nat.beq m n) (fun _ => false) b) (fun m b => ieq (.negSucc m) b) a b
theorem eqF_eq (a b : Int) : eqF a b = ieq a b := by cases a <;> cases b <;> rfl
noncomputable def notF (b : Bool) : Bool := Bool.rec (motive := fun _ => Bool) true false b
theorem notF_eq (b : Bool) : notF b = Bool.not b := by cases b <;> rfl
noncomputable def binI (op : BinOp) : Cl (IntKind → Int → Int → Option AV) :=
  match op with
  | .add => ⟨fun k a b => some (addF k a b)⟩
  | .sub => ⟨fun k a b => some (subF k a b)⟩
  | .eql => ⟨fun _ a b => some (.b (eqF a b))⟩
  | .neq => ⟨fun _ a b => some (.b (notF (eqF a b)))⟩
  | .lss => ⟨fun _ a b => some (.b (ltF a b))⟩
  | .leq => ⟨fun _ a b => some (.b (notF (ltF b a)))⟩
  | .gtr => ⟨fun _ a b => some (.b (ltF b a))⟩
  | .geq => ⟨fun _ a b => some (.b (notF (ltF a b)))⟩
  | op => ⟨fun k a b => aInt op k a b⟩
theorem binI_eq (op : BinOp) (k : IntKind) (a b : Int) : (binI op).run k a b = aInt op k a b := by
  cases op <;> simp only [binI, aInt, addF_eq, subF_eq, eqF_eq, ltF_eq, notF_eq]
noncomputable def binC (P : Program) (op : BinOp) (t : TypeId) : Cl (AV → AV → Option AV) :=
  match P.underlying t with
  | some (.int _) => ⟨fun x y => onI x fun k a => onI y fun k' b => Bool.rec (motive := fun _ => Option AV) none ((binI op).run k a b) (kIs k k')⟩
  | _ => ⟨fun x y => aBin P op t x y⟩
theorem binC_some {op : BinOp} {t : TypeId} {x y r : AV} (h : (binC P op t).run x y = some r) : aBin P op t x y = some r := by
  unfold binC at h
  split at h
  · obtain ⟨k, a, rfl, h⟩ := onI_some h
    obtain ⟨k', b, rfl, h⟩ := onI_some h
    obtain ⟨h1, h2⟩ := brec_some h
    rw [kIs_eq] at h1
    simp only [aBin, h1, cond_true]
    rwa [binI_eq] at h2
  · exact h
noncomputable def orP (x y : Option AV) : Option AV := Option.rec (motive := fun _ => Option AV) y some x
theorem orP_some {x y : Option AV} {r : AV} (h : orP x y = some r) : x = some r ∨ x = none ∧ y = some r := by
  cases x with
  | none => exact .inr ⟨rfl, h⟩
  | some v => exact .inl h

/-! memory -/
noncomputable def nth : List AV → Nat → Option AV := @List.rec AV (fun _ => Nat → Option AV) (fun _ => none) (fun a _ ih n => @Nat.rec (fun _ => Option AV) (some a) (fun m _ => ih m) n)
theorem nth_eq : ∀ (l : List AV) (n : Nat), nth l n = l[n]?
  | [], n => by simp; rfl
  | a :: l, 0 => by simp; rfl
  | a :: l, n + 1 => by
    show nth l n = _
    rw [nth_eq l n]; simp
noncomputable def cellF : AO → Nat → Option AV :=
  @AO.rec (fun _ => Nat → Option AV) (fun _ cs off => nth cs off) (fun len x off => Bool.rec (motive := fun _ => Option AV) none (some (.i .u8 (.ofNat (Nat.mod (Nat.div x (Nat.pow 256 off)) 256)))) (Nat.ble (Nat.succ off) len)) (fun _ _ _ => none) (fun _ _ _ _ => none) (fun _ _ _ _ => none) (fun _ _ _ _ _ _ _ _ => none)
theorem cellF_some {o : AO} {off : Nat} {r : AV} (h : cellF o off = some r) : o.cell off = some r := by
  cases o with
  | cells sz cs => simp only [AO.cell]; rw [← nth_eq]; exact h
  | bytes len x =>
    obtain ⟨h1, h2⟩ := brec_some h
    simp only [AO.cell]
    rw [show Nat.blt off len = true from h1]
    exact h2
  | _ => cases h
noncomputable def loadC (P : Program) (t : TypeId) : Cl (Heap → AV → Option AV) :=
  match tyAgg P t with
  | some (false, _) => ⟨fun H v => onP v fun b off => bO (fget H.t b) fun o => cellF o off⟩
  | some (true, n) => ⟨fun H v => onP v fun b off => bO (fget H.t b) fun o => o.agg off n⟩
  | none => ⟨fun _ _ => none⟩
theorem loadC_some {t : TypeId} {v r : AV} (h : (loadC P t).run H v = some r) : aLoad P H t v = some r := by
  unfold loadC at h
  split at h
  · rename_i n ht
    obtain ⟨b, off, rfl, h⟩ := onP_some h
    obtain ⟨o, h1, h2⟩ := bO_some h
    rw [fget_eq] at h1
    simp only [aLoad, h1, ht, cellF_some h2]
  · rename_i n ht
    obtain ⟨b, off, rfl, h⟩ := onP_some h
    obtain ⟨o, h1, h2⟩ := bO_some h
    rw [fget_eq] at h1
    simp only [aLoad, h1, ht]
    exact h2
  · cases h
noncomputable def fieldAddrC (P : Program) (s : TypeId) (f : Nat) : Cl (AV → Option AV) :=
  match fieldOf P s f with
  | some (o, n) => bif Nat.beq n 0 then ⟨fun _ => none⟩ else ⟨fun v => onP v fun b off => some (.p b (Nat.add off o))⟩
  | none => ⟨fun _ => none⟩
theorem fieldAddrC_some {s : TypeId} {f : Nat} {v r : AV} (h : (fieldAddrC P s f).run v = some r) : aFieldAddr P s f v = some r := by
  unfold fieldAddrC at h
  split at h
  · rename_i o n hf
    cases hb : Nat.beq n 0 with
    | true => rw [hb] at h; cases h
    | false =>
      rw [hb] at h
      obtain ⟨b, off, rfl, h⟩ := onP_some h
      simp only [aFieldAddr, hf, hb]
      exact h
  · cases h
noncomputable def onSl : AV → (Nat → Nat → Nat → Nat → Bool → Option AV) → Option AV := (@AV.rec (fun _ => (Nat → Nat → Nat → Nat → Bool → Option AV) → Option AV) (fun _ => PUnit) (fun _ => fun _ => none) (fun _ _ => fun _ => none) (fun _ _ => fun _ => none) (fun _ => none) (fun _ _ => fun _ => none) (fun _ => none) (fun b o l c p f => f b o l c p) (fun _ => none) (fun _ => none) (fun _ => fun _ => none) (fun _ _ _ _ _ => fun _ => none) (fun _ => none) (fun _ _ _ => fun _ => none) (fun _ => none) (fun _ _ => fun _ => none) (fun _ _ => fun _ => none) (fun _ => fun _ => none) (fun _ _ => fun _ => none) ⟨⟩ (fun _ _ _ _ => ⟨⟩))
theorem onSl_some {v : AV} {f : Nat → Nat → Nat → Nat → Bool → Option AV} {r : AV} (h : onSl v f = some r) : ∃ b o l c p, v = .sl b o l c p ∧ f b o l c p = some r := by
  cases v <;> first | (cases h; done) | exact ⟨_, _, _, _, _, rfl, h⟩
noncomputable def onN : Int → (Nat → Option AV) → Option AV := @Int.rec (fun _ => (Nat → Option AV) → Option AV) (fun n f => f n) (fun _ _ => none)
theorem onN_some {n : Int} {f : Nat → Option AV} {r : AV} (h : onN n f = some r) : ∃ m, n = .ofNat m ∧ f m = some r := by
  cases n <;> first | (cases h; done) | exact ⟨_, rfl, h⟩
noncomputable def indexAddrC (P : Program) (t : TypeId) : Cl (AV → AV → Option AV) :=
  match P.underlying t with
  | some (.slice e) => match P.info? e with
    | some i => ⟨fun x y => onSl x fun b off len _ _ => onI y fun _ z => onN z fun n => Bool.rec (motive := fun _ => Option AV) none (some (.p b (Nat.add off (Nat.mul n i.size)))) (Nat.ble (Nat.succ n) len)⟩
    | none => ⟨fun _ _ => none⟩
  | some (.array len e) => match P.info? e with
    | some i => ⟨fun x y => onP x fun b off => onI y fun _ z => onN z fun n => Bool.rec (motive := fun _ => Option AV) none (some (.p b (Nat.add off (Nat.mul n i.size)))) (Nat.ble (Nat.succ n) len)⟩
    | none => ⟨fun _ _ => none⟩
  | _ => ⟨fun _ _ => none⟩
theorem indexAddrC_some {t : TypeId} {x y r : AV} (h : (indexAddrC P t).run x y = some r) : aIndexAddr P t x y = some r := by
  unfold indexAddrC at h
  split at h
  · rename_i e ht
    split at h
    · rename_i i hi
      obtain ⟨b, off, len, c, p, rfl, h⟩ := onSl_some h
      obtain ⟨k, z, rfl, h⟩ := onI_some h
      obtain ⟨n, rfl, h⟩ := onN_some h
      obtain ⟨h1, h2⟩ := brec_some h
      simp only [aIndexAddr, ht, hi, show Nat.blt n len = true from h1]
      exact h2
    · cases h
  · rename_i len e ht
    split at h
    · rename_i i hi
      obtain ⟨b, off, rfl, h⟩ := onP_some h
      obtain ⟨k, z, rfl, h⟩ := onI_some h
      obtain ⟨n, rfl, h⟩ := onN_some h
      obtain ⟨h1, h2⟩ := brec_some h
      simp only [aIndexAddr, ht, hi, show Nat.blt n len = true from h1]
      exact h2
    · cases h
  · cases h
noncomputable def onAg : AV → (List AV → Option AV) → Option AV := (@AV.rec (fun _ => (List AV → Option AV) → Option AV) (fun _ => PUnit) (fun _ => fun _ => none) (fun _ _ => fun _ => none) (fun _ _ => fun _ => none) (fun _ => none) (fun _ _ => fun _ => none) (fun _ => none) (fun _ _ _ _ _ => fun _ => none) (fun _ => none) (fun _ => none) (fun _ => fun _ => none) (fun _ _ _ _ _ => fun _ => none) (fun _ => none) (fun _ _ _ => fun _ => none) (fun _ => none) (fun l _ f => f l) (fun _ _ => fun _ => none) (fun _ => fun _ => none) (fun _ _ => fun _ => none) ⟨⟩ (fun _ _ _ _ => ⟨⟩))
theorem onAg_some {v : AV} {f : List AV → Option AV} {r : AV} (h : onAg v f = some r) : ∃ l, v = .ag l ∧ f l = some r := by
  cases v <;> first | (cases h; done) | exact ⟨_, rfl, h⟩
noncomputable def onTu : AV → (List AV → Option AV) → Option AV := (@AV.rec (fun _ => (List AV → Option AV) → Option AV) (fun _ => PUnit) (fun _ => fun _ => none) (fun _ _ => fun _ => none) (fun _ _ => fun _ => none) (fun _ => none) (fun _ _ => fun _ => none) (fun _ => none) (fun _ _ _ _ _ => fun _ => none) (fun _ => none) (fun _ => none) (fun _ => fun _ => none) (fun _ _ _ _ _ => fun _ => none) (fun _ => none) (fun _ _ _ => fun _ => none) (fun _ => none) (fun _ _ => fun _ => none) (fun l _ f => f l) (fun _ => fun _ => none) (fun _ _ => fun _ => none) ⟨⟩ (fun _ _ _ _ => ⟨⟩))
theorem onTu_some {v : AV} {f : List AV → Option AV} {r : AV} (h : onTu v f = some r) : ∃ l, v = .tu l ∧ f l = some r := by
  cases v <;> first | (cases h; done) | exact ⟨_, rfl, h⟩
noncomputable def fieldC (P : Program) (t : TypeId) (f : Nat) : Cl (AV → Option AV) :=
  match fieldPart P t f with
  | some (off, true, n) => ⟨fun v => onAg v fun cs => some (.ag ((cs.drop off).take n))⟩
  | some (off, false, _) => ⟨fun v => onAg v fun cs => nth cs off⟩
  | none => ⟨fun _ => none⟩
theorem fieldC_some {t : TypeId} {f : Nat} {v r : AV} (h : (fieldC P t f).run v = some r) : aField P t f v = some r := by
  unfold fieldC at h
  split at h
  · rename_i off n hf
    obtain ⟨l, rfl, h⟩ := onAg_some h
    simp only [aField, hf]; exact h
  · rename_i off n hf
    obtain ⟨l, rfl, h⟩ := onAg_some h
    have h : nth l off = some r := h
    rw [nth_eq] at h
    simp only [aField, hf]; exact h
  · cases h
noncomputable def lenF : AV → Option AV := (@AV.rec (fun _ => Option AV) (fun _ => PUnit) (fun _ => none) (fun _ _ => none) (fun l _ => some (.i .i64 (.ofNat l))) (none) (fun _ _ => none) (some (.i .i64 (.ofNat 0))) (fun _ _ l _ _ => some (.i .i64 (.ofNat l))) (some (.i .i64 (.ofNat 0))) (none) (fun _ => none) (fun _ _ _ _ _ => none) (none) (fun _ _ _ => none) (none) (fun _ _ => none) (fun _ _ => none) (fun _ => none) (fun _ _ => none) ⟨⟩ (fun _ _ _ _ => ⟨⟩))
noncomputable def lenS : AV → Option AV := (@AV.rec (fun _ => Option AV) (fun _ => PUnit) (fun _ => none) (fun _ _ => none) (fun l _ => some (.i .i64 (.ofNat l))) (none) (fun _ _ => none) (none) (fun _ _ _ _ _ => none) (none) (none) (fun _ => none) (fun _ _ _ _ _ => none) (none) (fun _ _ _ => none) (none) (fun _ _ => none) (fun _ _ => none) (fun _ => none) (fun _ _ => none) ⟨⟩ (fun _ _ _ _ => ⟨⟩))
noncomputable def lenL : AV → Option AV := (@AV.rec (fun _ => Option AV) (fun _ => PUnit) (fun _ => none) (fun _ _ => none) (fun _ _ => none) (none) (fun _ _ => none) (some (.i .i64 (.ofNat 0))) (fun _ _ l _ _ => some (.i .i64 (.ofNat l))) (some (.i .i64 (.ofNat 0))) (none) (fun _ => none) (fun _ _ _ _ _ => none) (none) (fun _ _ _ => none) (none) (fun _ _ => none) (fun _ _ => none) (fun _ => none) (fun _ _ => none) ⟨⟩ (fun _ _ _ _ => ⟨⟩))
noncomputable def lenC (P : Program) (t : TypeId) : Cl (Heap → AV → Option AV) :=
  match P.underlying t with
  | some .string => ⟨fun _ v => lenS v⟩
  | some (.slice _) => ⟨fun _ v => lenL v⟩
  | _ => ⟨fun H v => aLen P H t v⟩
theorem lenC_some {t : TypeId} {v r : AV} (h : (lenC P t).run H v = some r) : aLen P H t v = some r := by
  unfold lenC at h
  split at h
  · rename_i ht
    cases v <;> first | (cases h; done) | (simp only [aLen, ht]; exact h)
  · rename_i ht
    cases v <;> first | (cases h; done) | (simp only [aLen, ht]; exact h)
  · exact h

/-! further operations on numbers that are not negative -/
def bitsOf : IntKind → Nat
  | .i8 | .u8 => 8 | .i16 | .u16 => 16 | .i32 | .u32 => 32 | .i64 | .u64 => 64
noncomputable def bitsR (k : IntKind) : Nat := @IntKind.rec (fun _ => Nat) 8 16 32 64 8 16 32 64 k
theorem bitsR_eq (k : IntKind) : bitsR k = k.bits := by cases k <;> rfl
theorem limR_le (k : IntKind) : limR k ≤ 2 ^ k.bits := by rw [limR_eq]; cases k <;> decide
noncomputable def bitN (op : BinOp) : Cl (IntKind → IntKind → Nat → Nat → Option AV) :=
  match op with
  | .quo => ⟨fun k k' m n => Bool.rec (motive := fun _ => Option AV) none (Bool.rec (motive := fun _ => Option AV) (some (fitN k (Nat.div m n))) none (Nat.beq n 0)) (kIs k k')⟩
  | .rem => ⟨fun k k' m n => Bool.rec (motive := fun _ => Option AV) none (Bool.rec (motive := fun _ => Option AV) (some (.i k (.ofNat (Nat.mod m n)))) none (Nat.beq n 0)) (kIs k k')⟩
  | .and => ⟨fun k k' m n => Bool.rec (motive := fun _ => Option AV) none (Bool.rec (motive := fun _ => Option AV) none (Bool.rec (motive := fun _ => Option AV) none (some (fitN k (Nat.land m n))) (Nat.ble (Nat.succ n) (limR k))) (Nat.ble (Nat.succ m) (limR k))) (kIs k k')⟩
  | .or => ⟨fun k k' m n => Bool.rec (motive := fun _ => Option AV) none (Bool.rec (motive := fun _ => Option AV) none (Bool.rec (motive := fun _ => Option AV) none (some (fitN k (Nat.lor m n))) (Nat.ble (Nat.succ n) (limR k))) (Nat.ble (Nat.succ m) (limR k))) (kIs k k')⟩
  | .xor => ⟨fun k k' m n => Bool.rec (motive := fun _ => Option AV) none (Bool.rec (motive := fun _ => Option AV) none (Bool.rec (motive := fun _ => Option AV) none (some (fitN k (Nat.xor m n))) (Nat.ble (Nat.succ n) (limR k))) (Nat.ble (Nat.succ m) (limR k))) (kIs k k')⟩
  | .shl => ⟨fun k _ m n => Bool.rec (motive := fun _ => Option AV) none (some (fitN k (Nat.mul m (Nat.pow 2 n)))) (Nat.ble n (bitsR k))⟩
  | .shr => ⟨fun k _ m n => Bool.rec (motive := fun _ => Option AV) none (some (.i k (.ofNat (Nat.div m (Nat.pow 2 n))))) (Nat.ble n (bitsR k))⟩
  | _ => ⟨fun _ _ _ _ => none⟩
theorem fitN_wrap (k : IntKind) (r : Nat) : fitN k r = .i k (k.wrap (r : Int)) := by rw [fitN_eq, wr_eq]; rfl
theorem back_and {k : IntKind} {m n : Nat} (hm : m < limR k) (hn : n < limR k) : ((BitVec.ofInt k.bits (m : Int)) &&& (BitVec.ofInt k.bits (n : Int))).toNat = m &&& n := by
  have h1 := Nat.lt_of_lt_of_le hm (limR_le k)
  have h2 := Nat.lt_of_lt_of_le hn (limR_le k)
  rw [BitVec.toNat_and, BitVec.ofInt_natCast, BitVec.ofInt_natCast, BitVec.toNat_ofNat, BitVec.toNat_ofNat, Nat.mod_eq_of_lt h1, Nat.mod_eq_of_lt h2]
theorem back_or {k : IntKind} {m n : Nat} (hm : m < limR k) (hn : n < limR k) : ((BitVec.ofInt k.bits (m : Int)) ||| (BitVec.ofInt k.bits (n : Int))).toNat = m ||| n := by
  have h1 := Nat.lt_of_lt_of_le hm (limR_le k)
  have h2 := Nat.lt_of_lt_of_le hn (limR_le k)
  rw [BitVec.toNat_or, BitVec.ofInt_natCast, BitVec.ofInt_natCast, BitVec.toNat_ofNat, BitVec.toNat_ofNat, Nat.mod_eq_of_lt h1, Nat.mod_eq_of_lt h2]
theorem back_xor {k : IntKind} {m n : Nat} (hm : m < limR k) (hn : n < limR k) : ((BitVec.ofInt k.bits (m : Int)) ^^^ (BitVec.ofInt k.bits (n : Int))).toNat = m ^^^ n := by
  have h1 := Nat.lt_of_lt_of_le hm (limR_le k)
  have h2 := Nat.lt_of_lt_of_le hn (limR_le k)
  rw [BitVec.toNat_xor, BitVec.ofInt_natCast, BitVec.ofInt_natCast, BitVec.toNat_ofNat, BitVec.toNat_ofNat, Nat.mod_eq_of_lt h1, Nat.mod_eq_of_lt h2]
theorem kIs_true {a b : IntKind} (h : kIs a b = true) : a = b := by rw [kIs_eq] at h; exact of_decide_eq_true h
theorem beq0_some {α : Type} {n : Nat} {x : Option α} {r : α} (h : (Bool.rec (motive := fun _ => Option α) x none (Nat.beq n 0)) = some r) : n ≠ 0 ∧ x = some r := by
  cases hb : Nat.beq n 0 with
  | true => rw [hb] at h; cases h
  | false => rw [hb] at h; exact ⟨beq_false hb, h⟩
theorem bitN_some {op : BinOp} {t : TypeId} {k k' : IntKind} {m n : Nat} {r : AV} (h : (bitN op).run k k' m n = some r) :
    ∃ z, r = .i k z ∧ runPure P (binOp op t (.int k (m : Int)) (.int k' (n : Int))) = some (.int k z) ∧ aInt op k (.ofNat m) (.ofNat n) = none ∧ ∀ cx cy, eqGuard op t cx cy (.int k (m : Int)) (.int k' (n : Int)) = pure () := by
  cases op <;> simp only [bitN] at h <;> try (cases h; done)
  · obtain ⟨h1, g1⟩ := brec_some h
    obtain ⟨h2, g⟩ := beq0_some g1
    clear h g1
    have := kIs_true h1; subst this
    simp only [Option.some.injEq] at g; subst g
    refine ⟨_, fitN_wrap _ _, ?_, rfl, fun _ _ => rfl⟩
    have h3 : ¬ (n : Int) = 0 := by omega
    simp only [binOp, ne_eq, not_true, if_false, Op.intDiv, if_neg h3]
    rfl
  · obtain ⟨h1, g1⟩ := brec_some h
    obtain ⟨h2, g⟩ := beq0_some g1
    clear h g1
    have := kIs_true h1; subst this
    simp only [Option.some.injEq] at g; subst g
    refine ⟨_, rfl, ?_, rfl, fun _ _ => rfl⟩
    have h3 : ¬ (n : Int) = 0 := by omega
    simp only [binOp, ne_eq, not_true, if_false, Op.intDiv, if_neg h3]
    rfl
  · obtain ⟨h1, g1⟩ := brec_some h
    obtain ⟨h2, g2⟩ := brec_some g1
    obtain ⟨h3, g⟩ := brec_some g2
    clear h g1 g2
    have := kIs_true h1; subst this
    simp only [Option.some.injEq] at g; subst g
    refine ⟨_, fitN_wrap _ _, ?_, rfl, fun _ _ => rfl⟩
    simp only [binOp, ne_eq, not_true, if_false, Op.intBits, back_and (ble_true h2) (ble_true h3)]
    rfl
  · obtain ⟨h1, g1⟩ := brec_some h
    obtain ⟨h2, g2⟩ := brec_some g1
    obtain ⟨h3, g⟩ := brec_some g2
    clear h g1 g2
    have := kIs_true h1; subst this
    simp only [Option.some.injEq] at g; subst g
    refine ⟨_, fitN_wrap _ _, ?_, rfl, fun _ _ => rfl⟩
    simp only [binOp, ne_eq, not_true, if_false, Op.intBits, back_or (ble_true h2) (ble_true h3)]
    rfl
  · obtain ⟨h1, g1⟩ := brec_some h
    obtain ⟨h2, g2⟩ := brec_some g1
    obtain ⟨h3, g⟩ := brec_some g2
    clear h g1 g2
    have := kIs_true h1; subst this
    simp only [Option.some.injEq] at g; subst g
    refine ⟨_, fitN_wrap _ _, ?_, rfl, fun _ _ => rfl⟩
    simp only [binOp, ne_eq, not_true, if_false, Op.intBits, back_xor (ble_true h2) (ble_true h3)]
    rfl
  · obtain ⟨h0, g⟩ := brec_some h
    have h1 := ble_true h0
    rw [bitsR_eq] at h1
    clear h h0
    simp only [Option.some.injEq] at g; subst g
    refine ⟨_, fitN_wrap _ _, ?_, rfl, fun _ _ => rfl⟩
    have h3 : ¬ (n : Int) < 0 := by omega
    simp only [binOp, Op.shift, if_neg h3, Int.toNat_natCast, Nat.min_eq_left h1]
    rfl
  · obtain ⟨h0, g⟩ := brec_some h
    have h1 := ble_true h0
    rw [bitsR_eq] at h1
    clear h h0
    simp only [Option.some.injEq] at g; subst g
    refine ⟨_, rfl, ?_, rfl, fun _ _ => rfl⟩
    have h3 : ¬ (n : Int) < 0 := by omega
    simp only [binOp, Op.shift, if_neg h3, Int.toNat_natCast, Nat.min_eq_left h1]
    have e1 : (m : Int).fdiv (2 ^ n) = (Int.ofNat (m.div (Nat.pow 2 n))) := by
      rw [Int.fdiv_eq_ediv_of_nonneg _ (by exact Int.le_of_lt (Int.pow_pos (by decide)))]
      show (m : Int) / (2 ^ n) = ((m / 2 ^ n : Nat) : Int)
      rw [Int.natCast_ediv, Int.natCast_pow]; rfl
    rw [e1]
    rfl
theorem runPure_map {α β : Type} {f : α → Sem β} : ∀ (s : Sem α) {a : α}, runPure P s = some a → runPure P (s.bind f) = runPure P (f a)
  | .pure a, b, h => by simp only [runPure, Option.some.injEq] at h; subst h; rfl
  | .program k, b, h => by simp only [runPure] at h; simp only [Sem.bind, runPure]; exact runPure_map (k P) h
  | .mark _ k, b, h => by simp only [runPure] at h; simp only [Sem.bind, runPure]; exact runPure_map k h
  | .load .., _, h | .store .., _, h | .new .., _, h | .shape .., _, h | .freeze .., _, h | .frozen .., _, h | .getObj .., _, h | .setObj .., _, h | .choose .., _, h | .sys .., _, h | .halt .., _, h => by simp [runPure] at h
noncomputable def bitC (op : BinOp) : Cl (AV → AV → Option AV) := ⟨fun x y => onI x fun k a => onN a fun m => onI y fun k' b => onN b fun n => (bitN op).run k k' m n⟩
theorem bitC_some {op : BinOp} {t : TypeId} {x y : Operand} {o : Oper} {yt : TypeId} {u v r : AV} (ho : o.op = .binOp op t x y yt) (hx : ev ng T x = some u) (hy : ev ng T y = some v) (h : (bitC op).run u v = some r) : rBin P ng T o op t x y = some r := by
  obtain ⟨k, a, rfl, h⟩ := onI_some h
  obtain ⟨m, rfl, h⟩ := onN_some h
  obtain ⟨k', b, rfl, h⟩ := onI_some h
  obtain ⟨n, rfl, h⟩ := onN_some h
  obtain ⟨z, rfl, h1, h2, h3⟩ := bitN_some (P := P) (t := t) h
  have e1 : aBin P op t (.i k (.ofNat m)) (.i k' (.ofNat n)) = none := by
    simp only [aBin]
    cases hd : decide (k = k') with
    | false => rfl
    | true => exact h2
  simp only [rBin, hx, hy, e1]
  have r1 : rhoP ng T x = some (.int k (.ofNat m)) := by simp only [rhoP, hx, Option.bind_some, toV]
  have r2 : rhoP ng T y = some (.int k' (.ofNat n)) := by simp only [rhoP, hy, Option.bind_some, toV]
  unfold pureOp
  rw [show isSel o.op = false by rw [ho]; rfl]
  have r3 : (o.op.operands.toList.all fun x => (rhoP ng T x).isSome) = true := by rw [ho]; simp [Op.operands, r1, r2]
  rw [r3]
  have r4 : execOp (fun x => (rhoP ng T x).getD undef) o = (do let v ← (do eqGuard op t x y (.int k (.ofNat m)) (.int k' (.ofNat n)); binOp op t (.int k (.ofNat m)) (.int k' (.ofNat n))); pure (.value v) : Sem Next) := by
    unfold execOp
    rw [ho]
    simp only [r1, r2, Option.getD_some]
  have e3 : eqGuard op t x y (.int k (.ofNat m)) (.int k' (.ofNat n)) = pure () := h3 x y
  have r5 : runPure P (execOp (fun x => (rhoP ng T x).getD undef) o) = some (.value (.int k z)) := by
    rw [r4, e3]
    have h1' : runPure P (binOp op t (.int k (.ofNat m)) (.int k' (.ofNat n))) = some (.int k z) := h1
    exact (runPure_map (f := fun q => .pure (Next.value q)) _ h1')
  rw [r5]
  rfl
noncomputable def nilF : AV → Option AV := (@AV.rec (fun _ => Option AV) (fun _ => PUnit) (fun _ => none) (fun _ _ => none) (fun _ _ => none) (none) (fun a o => some (.p a o)) (none) (fun a o l c p => some (.sl a o l c p)) (none) (none) (fun b => some (.m b)) (fun f l k _ _ => bif isFuncFn f then some (.fn f l k) else none) (none) (fun t v _ => some (.ifc t v)) (none) (fun _ _ => none) (fun _ _ => none) (fun _ => none) (fun _ _ => none) ⟨⟩ (fun _ _ _ _ => ⟨⟩))
theorem nilF_eq (v : AV) : nilF v = aNilCheck v := by cases v <;> rfl
noncomputable def wrF (k : IntKind) (n : Int) : AV := @Int.rec (fun _ => AV) (fun m => fitN k m) (fun m => wr k (.negSucc m)) n
theorem wrF_eq (k : IntKind) (n : Int) : wrF k n = wr k n := by
  cases n with
  | ofNat m => exact fitN_eq k m
  | negSucc m => rfl
noncomputable def convC (P : Program) (src dst : TypeId) : Cl (Heap → AV → Option AV) :=
  match P.underlying src, P.underlying dst with
  | some (.int _), some (.int k) => ⟨fun _ v => onI v fun _ n => some (wrF k n)⟩
  | _, _ => ⟨fun H v => aConvert P H src dst v⟩
theorem convC_some {src dst : TypeId} {v r : AV} (h : (convC P src dst).run H v = some r) : aConvert P H src dst v = some r := by
  unfold convC at h
  split at h
  · rename_i k0 k h1 h2
    obtain ⟨k', n, rfl, g⟩ := onI_some h
    clear h
    rw [wrF_eq] at g
    simp only [aConvert, h1, h2]
    exact g
  · exact h
end
end Go.Ai
/- Operations as closures: all; regions, code, calls. -/
namespace Go.Ai
section
variable {P : Program} {ng ro : Nat} {H : Heap} {T : TT AV}
/-! writers -/
noncomputable def onPh : AV → (Nat → Nat → Option Heap) → Option Heap := (@AV.rec (fun _ => (Nat → Nat → Option Heap) → Option Heap) (fun _ => PUnit) (fun _ => fun _ => none) (fun _ _ => fun _ => none) (fun _ _ => fun _ => none) (fun _ => none) (fun b o f => f b o) (fun _ => none) (fun _ _ _ _ _ => fun _ => none) (fun _ => none) (fun _ => none) (fun _ => fun _ => none) (fun _ _ _ _ _ => fun _ => none) (fun _ => none) (fun _ _ _ => fun _ => none) (fun _ => none) (fun _ _ => fun _ => none) (fun _ _ => fun _ => none) (fun _ => fun _ => none) (fun _ _ => fun _ => none) ⟨⟩ (fun _ _ _ _ => ⟨⟩))
theorem onPh_some {v : AV} {f : Nat → Nat → Option Heap} {r : Heap} (h : onPh v f = some r) : ∃ b o, v = .p b o ∧ f b o = some r := by
  cases v <;> first | (cases h; done) | exact ⟨_, _, rfl, h⟩
noncomputable def onU8 : AV → (Nat → Option AO) → Option AO := (@AV.rec (fun _ => (Nat → Option AO) → Option AO) (fun _ => PUnit) (fun _ => fun _ => none) (fun k n f => Bool.rec (motive := fun _ => Option AO) none (@Int.rec (fun _ => Option AO) (fun m => Bool.rec (motive := fun _ => Option AO) none (f m) (Nat.ble (Nat.succ m) 256)) (fun _ => none) n) (kIs .u8 k)) (fun _ _ => fun _ => none) (fun _ => none) (fun _ _ => fun _ => none) (fun _ => none) (fun _ _ _ _ _ => fun _ => none) (fun _ => none) (fun _ => none) (fun _ => fun _ => none) (fun _ _ _ _ _ => fun _ => none) (fun _ => none) (fun _ _ _ => fun _ => none) (fun _ => none) (fun _ _ => fun _ => none) (fun _ _ => fun _ => none) (fun _ => fun _ => none) (fun _ _ => fun _ => none) ⟨⟩ (fun _ _ _ _ => ⟨⟩))
theorem onU8_some {v : AV} {f : Nat → Option AO} {r : AO} (h : onU8 v f = some r) : ∃ n, n < 256 ∧ v = .i .u8 (.ofNat n) ∧ f n = some r := by
  cases v with
  | i k n =>
    obtain ⟨h1, h2⟩ := brec_some (x := @Int.rec (fun _ => Option AO) (fun m => Bool.rec (motive := fun _ => Option AO) none (f m) (Nat.ble (Nat.succ m) 256)) (fun _ => none) n) h
    rw [kIs_eq] at h1
    have h1 := of_decide_eq_true h1
    subst h1
    cases n with
    | negSucc n => cases h2
    | ofNat n =>
      obtain ⟨h3, h4⟩ := brec_some (x := f n) h2
      exact ⟨n, ble_true h3, rfl, h4⟩
  | _ => cases h
noncomputable def setL : List AV → Nat → AV → List AV := @List.rec AV (fun _ => Nat → AV → List AV) (fun _ _ => []) (fun a l ih n v => @Nat.rec (fun _ => List AV) (v :: l) (fun m _ => a :: ih m v) n)
theorem setL_eq : ∀ (l : List AV) (n : Nat) (v : AV), setL l n v = l.set n v
  | [], n, v => by simp; rfl
  | a :: l, 0, v => by simp; rfl
  | a :: l, n + 1, v => by
    show a :: setL l n v = _
    rw [setL_eq l n v]; simp
noncomputable def write1 : AO → Nat → AV → Option AO :=
  @AO.rec (fun _ => Nat → AV → Option AO) (fun sz cs off v => Option.rec (motive := fun _ => Option AO) none (fun _ => some (.cells sz (setL cs off v))) (nth cs off))
    (fun len x off v => onU8 v fun m => Bool.rec (motive := fun _ => Option AO) none (some (.bytes len (over x off 1 m))) (Nat.ble (Nat.succ off) len)) (fun _ _ _ _ => none) (fun _ _ _ _ _ => none) (fun _ _ _ _ _ => none) (fun _ _ _ _ _ _ _ _ _ => none)
theorem write1_some {o o' : AO} {off : Nat} {v : AV} (h : write1 o off v = some o') : o.writeC off (.cs [v]) = some o' := by
  cases o with
  | cells sz cs =>
    have h : Option.rec (motive := fun _ => Option AO) none (fun _ => some (.cells sz (setL cs off v))) (nth cs off) = some o' := h
    rw [nth_eq, setL_eq] at h
    cases hg : cs[off]? with
    | none => rw [hg] at h; cases h
    | some x =>
      rw [hg] at h
      have hlt := (List.getElem?_eq_some_iff.1 hg).1
      cases h
      simp only [AO.writeC, AO.write, Ch.l]
      have : Nat.ble (Nat.add off [v].length) cs.length = true := by rw [Nat.ble_eq]; exact hlt
      rw [this]
      simp only [cond_true, Option.some.injEq, AO.cells.injEq, true_and]
      unfold spl
      rw [List.set_eq_take_append_cons_drop, if_pos hlt]
      simp
  | bytes len x =>
    obtain ⟨n, hn, hv, h'⟩ := onU8_some (f := fun m => Bool.rec (motive := fun _ => Option AO) none (some (.bytes len (over x off 1 m))) (Nat.ble (Nat.succ off) len)) h
    clear h
    have h5 : Bool.rec (motive := fun _ => Option AO) none (some (.bytes len (over x off 1 n))) (Nat.ble (Nat.succ off) len) = some o' := h'
    clear h'
    subst hv
    obtain ⟨h1, h2⟩ := brec_some h5
    have h2 : some (AO.bytes len (over x off 1 n)) = some o' := h2
    cases h2
    simp only [AO.writeC, AO.write, Ch.l, toB, show Nat.blt n 256 = true from blt_iff.2 hn, cond_true]
    have : Nat.ble (Nat.add off (Nat.succ 0)) len = true := h1
    rw [this]
    simp
  | _ => cases h
noncomputable def oneF : AV → Bool := (@AV.rec (fun _ => Bool) (fun _ => PUnit) (fun _ => true) (fun _ _ => true) (fun _ _ => true) (true) (fun _ _ => true) (true) (fun _ _ _ _ _ => true) (true) (true) (fun _ => true) (fun _ _ _ _ _ => true) (true) (fun _ _ _ => true) (true) (fun _ _ => false) (fun _ _ => false) (fun _ => true) (fun _ _ => false) ⟨⟩ (fun _ _ _ _ => ⟨⟩))
theorem oneF_ch {v : AV} (h : oneF v = true) : valCh v = .cs [v] ∧ avOne v = true := by
  cases v <;> first | (cases h; done) | exact ⟨rfl, rfl⟩
noncomputable def storeC (P : Program) (ng ro : Nat) (t : TypeId) (x y : Operand) : Cl (Heap → TT AV → Option Heap) :=
  match P.info? t with
  | some i => bif Nat.beq i.size 1 then
      ⟨fun H T => bO ((evC ng x).run T) fun p => onPh p fun b off => Bool.rec (motive := fun _ => Option Heap) none (bO ((evC ng y).run T) fun v => Bool.rec (motive := fun _ => Option Heap) none (bO (fget H.t b) fun o => bO (write1 o off v) fun o' => some ⟨fset H.t o' b, H.nx⟩) (oneF v)) (Nat.ble ro b)⟩
    else ⟨fun H T => bO ((evC ng x).run T) fun p => onPh p fun b off => Bool.rec (motive := fun _ => Option Heap) none (bO ((evC ng y).run T) fun v => bO (fget H.t b) fun o => Bool.rec (motive := fun _ => Option Heap) none (bO (o.writeC off (valCh v)) fun o' => some ⟨fset H.t o' b, H.nx⟩) (Nat.beq (valCh v).len i.size && (valCh v).one)) (Nat.ble ro b)⟩
  | none => ⟨fun _ _ => none⟩
theorem storeC_some {t : TypeId} {x y : Operand} {H' : Heap} (h : (storeC P ng ro t x y).run H T = some H') : wStore P ng ro H T t x y = some (.tu [], H') := by
  unfold storeC at h
  split at h
  · rename_i i hi
    cases hs : Nat.beq i.size 1 with
    | true =>
      rw [hs] at h
      obtain ⟨p, hp, h⟩ := bO_some h
      obtain ⟨b, off, rfl, h⟩ := onPh_some h
      obtain ⟨hro, h⟩ := brec_some h
      obtain ⟨v, hv, h⟩ := bO_some h
      obtain ⟨h1, h⟩ := brec_some h
      obtain ⟨o, ho, h⟩ := bO_some h
      obtain ⟨o', ho', h⟩ := bO_some h
      rw [evC_eq] at hp hv
      rw [fget_eq] at ho
      rw [fset_eq] at h
      cases h
      obtain ⟨h2, h3⟩ := oneF_ch h1
      have h4 := write1_some ho'
      simp only [wStore, hp, hv, ho, hi, h2, hro, beq_true hs, Ch.len, Ch.one, List.length_cons, List.length_nil, List.all_cons, List.all_nil, h3]
      show (bif Nat.beq 1 1 && true then _ else _) = _
      simp only [show (Nat.beq 1 1 && true) = true from rfl, cond_true, h4]
      rfl
    | false =>
      rw [hs] at h
      obtain ⟨p, hp, h⟩ := bO_some h
      obtain ⟨b, off, rfl, h⟩ := onPh_some h
      obtain ⟨hro, h⟩ := brec_some h
      obtain ⟨v, hv, h⟩ := bO_some h
      obtain ⟨o, ho, h⟩ := bO_some h
      obtain ⟨h1, h⟩ := brec_some h
      obtain ⟨o', ho', h⟩ := bO_some h
      rw [evC_eq] at hp hv
      rw [fget_eq] at ho
      rw [fset_eq] at h
      cases h
      simp only [wStore, hp, hv, ho, hi, hro, h1, Bool.true_and, cond_true, ho']
      rfl
  · cases h

/-! what kind of operation -/
inductive OpK where
  | rd (c : Cl (Heap → TT AV → Option AV))
  | wr (c : Cl (Heap → TT AV → Option Heap))
  | gen (c : Cl (Fns → TT AV → Heap → Option (AV × Heap)))
noncomputable def bv (x : Option AV) (f : AV → Option AV) : Option AV := Option.rec (motive := fun _ => Option AV) none f x
theorem bv_some {x : Option AV} {f : AV → Option AV} {r : AV} (h : bv x f = some r) : ∃ v, x = some v ∧ f v = some r := by
  cases x with
  | none => cases h
  | some v => exact ⟨v, rfl, h⟩
noncomputable def pickF : AV → Option AV → Option AV → Option AV := (@AV.rec (fun _ => Option AV → Option AV → Option AV) (fun _ => PUnit) (fun x p q => Bool.rec (motive := fun _ => Option AV) q p x) (fun _ _ => fun _ _ => none) (fun _ _ => fun _ _ => none) (fun _ _ => none) (fun _ _ => fun _ _ => none) (fun _ _ => none) (fun _ _ _ _ _ => fun _ _ => none) (fun _ _ => none) (fun _ _ => none) (fun _ => fun _ _ => none) (fun _ _ _ _ _ => fun _ _ => none) (fun _ _ => none) (fun _ _ _ => fun _ _ => none) (fun _ _ => none) (fun _ _ => fun _ _ => none) (fun _ _ => fun _ _ => none) (fun _ => fun _ _ => none) (fun _ _ => fun _ _ => none) ⟨⟩ (fun _ _ _ _ => ⟨⟩))
theorem pickF_some {v r : AV} {p q : Option AV} (h : pickF v p q = some r) : v = .b true ∧ p = some r ∨ v = .b false ∧ q = some r := by
  cases v <;> try (cases h; done)
  rename_i x
  cases x with
  | true => exact .inl ⟨rfl, h⟩
  | false => exact .inr ⟨rfl, h⟩
noncomputable def genX (P : Program) (ng ro : Nat) (o : Oper) : OpK := .gen ⟨fun ih T H => opX P ng ro ih.ca ih.yi o T H⟩
noncomputable def kindC (P : Program) (ng ro : Nat) (o : Oper) : OpK :=
  match o.op with
  | .move x => .rd ⟨fun _ T => (evC ng x).run T⟩
  | .assign x => .rd ⟨fun _ T => (evC ng x).run T⟩
  | .pick c x y => .rd ⟨fun _ T => bv ((evC ng c).run T) fun v => pickF v ((evC ng x).run T) ((evC ng y).run T)⟩
  | .load t x => .rd ⟨fun H T => bv ((evC ng x).run T) fun v => (loadC P t).run H v⟩
  | .binOp op t x y _ => match op with
    | .quo | .rem | .and | .or | .xor | .shl | .shr => .rd ⟨fun _ T => bv ((evC ng x).run T) fun u => bv ((evC ng y).run T) fun v => (bitC op).run u v⟩
    | _ => .rd ⟨fun _ T => bv ((evC ng x).run T) fun u => bv ((evC ng y).run T) fun v => (binC P op t).run u v⟩
  | .unOp .not _ x => .rd ⟨fun _ T => bv ((evC ng x).run T) fun v => onB v fun p => some (.b (notF p))⟩
  | .fieldAddr s x f => .rd ⟨fun _ T => bv ((evC ng x).run T) fun v => (fieldAddrC P s f).run v⟩
  | .field t x f => .rd ⟨fun _ T => bv ((evC ng x).run T) fun v => (fieldC P t f).run v⟩
  | .indexAddr t x y => .rd ⟨fun _ T => bv ((evC ng x).run T) fun u => bv ((evC ng y).run T) fun v => (indexAddrC P t).run u v⟩
  | .extract x i => .rd ⟨fun _ T => bv ((evC ng x).run T) fun v => onTu v fun l => nth l i⟩
  | .nilCheck x => .rd ⟨fun _ T => bv ((evC ng x).run T) fun v => nilF v⟩
  | .convert s d x => .rd ⟨fun H T => bv ((evC ng x).run T) fun v => (convC P s d).run H v⟩
  | .alloc _ | .box .. | .buildSlice .. | .makeSlice .. => .gen ⟨fun _ T H => Option.rec (motive := fun _ => Option (AV × Heap)) none (fun p => Prod.rec (motive := fun _ => Option (AV × Heap)) (fun ob mk => some (Mk.val mk H.nx, ⟨fset H.t ob H.nx, Nat.succ H.nx⟩)) p) (aal P ng T o)⟩
  | .store t x y => .wr (storeC P ng ro t x y)
  | .call c => match c.callee with
    | .builtin .len => match c.args.toList, c.argTypes.toList with
      | [x], [t] => .rd ⟨fun H T => bv ((evC ng x).run T) fun v => (lenC P t).run H v⟩
      | _, _ => genX P ng ro o
    | .builtin .append | .builtin .copy => .gen ⟨fun _ T H => wCall P ng ro H T c⟩
    | .value (.func g) => bif hasBody P g then .gen ⟨fun ih T H => bO ((evsC ng c.args.toList).run T) fun args => ih.ca g args H⟩ else genX P ng ro o
    | _ => genX P ng ro o
  | _ => genX P ng ro o
def KindOK (P : Program) (ng ro : Nat) (o : Oper) : OpK → Prop
  | .rd c => ∀ H T v, c.run H T = some v → ard P ng H T o = some v
  | .wr c => ∀ ih T H H', c.run H T = some H' → opX P ng ro (Fns.ca ih) (Fns.yi ih) o T H = some (.tu [], H')
  | .gen c => ∀ ih T H r, c.run ih T H = some r → opX P ng ro (Fns.ca ih) (Fns.yi ih) o T H = some r
theorem genX_ok (o : Oper) : KindOK P ng ro o (genX P ng ro o) := fun _ _ _ _ h => h
theorem opX_of_ard {ca : FuncId → List AV → Heap → Option (AV × Heap)} {yi : Nat → List AV → Heap → Option (AV × Heap)} {o : Oper} {v : AV} (h : ard P ng H T o = some v) : opX P ng ro ca yi o T H = some (v, H) := by
  unfold opX
  split
  · rename_i c hop
    split
    · simp only [basic, h]
    · rename_i f hcal; simp only [ard, hop, rCall, hcal] at h; cases h
    · rename_i f hcal; simp only [ard, hop, rCall, hcal] at h; cases h
  · simp only [basic, h]
def isCallOp : Op → Bool
  | .call _ => true
  | _ => false
theorem kindC_ok (o : Oper) : KindOK P ng ro o (kindC P ng ro o) := by
  have hr : ∀ {f : Heap → TT AV → Option AV}, (∀ c, o.op ≠ .call c) → (∀ H T v, f H T = some v → ard P ng H T o = some v) → KindOK P ng ro o (.rd ⟨f⟩) := fun _ hf => hf
  have hal : isCallOp o.op = false → (∀ H T, ard P ng H T o = none) → KindOK P ng ro o (.gen ⟨fun _ T H => Option.rec (motive := fun _ => Option (AV × Heap)) none (fun p => Prod.rec (motive := fun _ => Option (AV × Heap)) (fun ob mk => some (Mk.val mk H.nx, ⟨fset H.t ob H.nx, Nat.succ H.nx⟩)) p) (aal P ng T o)⟩) := fun hc hn ih T H r h => by
    have h : Option.rec (motive := fun _ => Option (AV × Heap)) none (fun p => Prod.rec (motive := fun _ => Option (AV × Heap)) (fun ob mk => some (Mk.val mk H.nx, ⟨fset H.t ob H.nx, Nat.succ H.nx⟩)) p) (aal P ng T o) = some r := h
    cases ha : aal P ng T o with
    | none => rw [ha] at h; cases h
    | some p =>
      obtain ⟨ob, mk⟩ := p
      rw [ha] at h
      have h : some (Mk.val mk H.nx, (⟨fset H.t ob H.nx, Nat.succ H.nx⟩ : Heap)) = some r := h
      rw [fset_eq] at h
      unfold opX
      split
      · rename_i c hop; rw [hop] at hc; cases hc
      · simp only [basic, hn, ha]; exact h
  unfold kindC
  split
  · rename_i x ho
    exact hr (fun c e => by rw [ho] at e; cases e) fun H T v h => by rw [evC_eq] at h; simpa only [ard, ho] using h
  · rename_i x ho
    exact hr (fun c e => by rw [ho] at e; cases e) fun H T v h => by rw [evC_eq] at h; simpa only [ard, ho] using h
  · rename_i c x y ho
    refine hr (fun c e => by rw [ho] at e; cases e) fun H T v h => ?_
    obtain ⟨u, h1, h⟩ := bv_some h
    rw [evC_eq] at h1
    simp only [evC_eq] at h
    simp only [ard, ho, rPick, h1]
    rcases pickF_some h with ⟨rfl, h⟩ | ⟨rfl, h⟩ <;> exact h
  · rename_i t x ho
    refine hr (fun c e => by rw [ho] at e; cases e) fun H T v h => ?_
    obtain ⟨u, h1, h⟩ := bv_some h
    rw [evC_eq] at h1
    simp only [ard, ho, rLoad, h1]
    exact loadC_some h
  · rename_i op t x y yt ho
    have hbit : KindOK P ng ro o (.rd ⟨fun _ T => bv ((evC ng x).run T) fun u => bv ((evC ng y).run T) fun v => (bitC op).run u v⟩) := by
      refine hr (fun c e => by rw [ho] at e; cases e) fun H T v h => ?_
      obtain ⟨u, h1, g⟩ := bv_some h
      obtain ⟨u', h2, g'⟩ := bv_some g
      clear h g
      rw [evC_eq] at h1 h2
      simp only [ard, ho]
      exact bitC_some ho h1 h2 g'
    have hbin : KindOK P ng ro o (.rd ⟨fun _ T => bv ((evC ng x).run T) fun u => bv ((evC ng y).run T) fun v => (binC P op t).run u v⟩) := by
      refine hr (fun c e => by rw [ho] at e; cases e) fun H T v h => ?_
      obtain ⟨u, h1, h⟩ := bv_some h
      obtain ⟨u', h2, h⟩ := bv_some h
      rw [evC_eq] at h1 h2
      simp only [ard, ho, rBin, h1, h2, binC_some h]
    split <;> first | exact hbit | exact hbin
  · rename_i t x ho
    refine hr (fun c e => by rw [ho] at e; cases e) fun H T v h => ?_
    obtain ⟨u, h1, h⟩ := bv_some h
    obtain ⟨p, rfl, h⟩ := onB_some h
    rw [evC_eq] at h1
    have h : some (AV.b (notF p)) = some v := h
    rw [notF_eq] at h
    simp only [ard, ho, rUn, h1]
    exact h
  · rename_i s x f ho
    refine hr (fun c e => by rw [ho] at e; cases e) fun H T v h => ?_
    obtain ⟨u, h1, h⟩ := bv_some h
    rw [evC_eq] at h1
    simp only [ard, ho, rFieldAddr, h1]
    exact fieldAddrC_some h
  · rename_i t x f ho
    refine hr (fun c e => by rw [ho] at e; cases e) fun H T v h => ?_
    obtain ⟨u, h1, h⟩ := bv_some h
    rw [evC_eq] at h1
    simp only [ard, ho, rField, h1]
    exact fieldC_some h
  · rename_i t x y ho
    refine hr (fun c e => by rw [ho] at e; cases e) fun H T v h => ?_
    obtain ⟨u, h1, h⟩ := bv_some h
    obtain ⟨u', h2, h⟩ := bv_some h
    rw [evC_eq] at h1 h2
    simp only [ard, ho, rIndexAddr, h1, h2]
    exact indexAddrC_some h
  · rename_i x i ho
    refine hr (fun c e => by rw [ho] at e; cases e) fun H T v h => ?_
    obtain ⟨u, h1, h⟩ := bv_some h
    obtain ⟨l, rfl, h⟩ := onTu_some h
    rw [evC_eq] at h1
    have h : nth l i = some v := h
    rw [nth_eq] at h
    simp only [ard, ho, rExtract, h1]
    exact h
  · rename_i x ho
    refine hr (fun c e => by rw [ho] at e; cases e) fun H T v h => ?_
    obtain ⟨u, h1, g⟩ := bv_some h
    clear h
    rw [evC_eq] at h1
    rw [nilF_eq] at g
    simp only [ard, ho, rNil, h1]
    exact g
  · rename_i s d x ho
    refine hr (fun c e => by rw [ho] at e; cases e) fun H T v h => ?_
    obtain ⟨u, h1, g⟩ := bv_some h
    clear h
    rw [evC_eq] at h1
    simp only [ard, ho, rConv, h1]
    exact convC_some g
  · rename_i ho; exact hal (by rw [ho]; rfl) (fun H T => by simp only [ard, ho])
  · rename_i ho; exact hal (by rw [ho]; rfl) (fun H T => by simp only [ard, ho])
  · rename_i ho; exact hal (by rw [ho]; rfl) (fun H T => by simp only [ard, ho])
  · rename_i ho; exact hal (by rw [ho]; rfl) (fun H T => by simp only [ard, ho])
  · rename_i t x y ho
    intro ih T H H' h
    have h1 := storeC_some h
    unfold opX
    simp only [ho, basic]
    have e1 : ard P ng H T o = none := by simp only [ard, ho]
    have e2 : aal P ng T o = none := by simp only [aal, ho]
    have e3 : awr P ng ro H T o = some (.tu [], H') := by simp only [awr, ho, h1]
    simp only [e1, e2, e3]
  · rename_i c ho
    split
    · rename_i hcal
      split
      · rename_i x t hx ht
        intro H T v h
        obtain ⟨u, h1, h⟩ := bv_some h
        rw [evC_eq] at h1
        simp only [ard, ho, rCall, hcal, hx, ht, h1, lenC_some h]
      · exact genX_ok o
    · rename_i hcal
      intro ih T H r h
      have h : wCall P ng ro H T c = some r := h
      unfold opX
      simp only [ho, hcal, basic]
      have e1 : ard P ng H T o = none := by simp only [ard, ho, rCall, hcal]
      have e2 : aal P ng T o = none := by simp only [aal, ho]
      have e3 : awr P ng ro H T o = some r := by simp only [awr, ho, h]
      simp only [e1, e2, e3]
    · rename_i hcal
      intro ih T H r h
      have h : wCall P ng ro H T c = some r := h
      unfold opX
      simp only [ho, hcal, basic]
      have e1 : ard P ng H T o = none := by simp only [ard, ho, rCall, hcal]
      have e2 : aal P ng T o = none := by simp only [aal, ho]
      have e3 : awr P ng ro H T o = some r := by simp only [awr, ho, h]
      simp only [e1, e2, e3]
    · rename_i g hcal
      cases hb : hasBody P g with
      | false => exact genX_ok o
      | true =>
        intro ih T H r h
        obtain ⟨args, h1, h⟩ := bO_some h
        rw [evsC_eq] at h1
        unfold opX
        simp only [ho, hcal, ev, h1, hb, cond_true, List.append_nil, List.nil_append]
        exact h
    · exact genX_ok o
  · exact genX_ok o
end
end Go.Ai
/- Regions that draw their order, as closures. -/
namespace Go.Ai
section
variable {P : Program} {ng ro nt : Nat} {ops : Array Oper}
noncomputable def stC (nt : Nat) (d : Option Tmp) : Option (Cl (AV → TT AV → TT AV)) :=
  match d with
  | none => some ⟨fun _ T => T⟩
  | some t => bif Nat.blt t nt then some (setF (Nat.succ t) t) else none
theorem stC_ok {d : Option Tmp} {st : Cl (AV → TT AV → TT AV)} {T : TT AV} {v : AV} (h : stC nt d = some st) : putT nt T d v = some (st.run v T) := by
  unfold stC at h
  split at h
  · cases h; rfl
  · rename_i t
    cases hb : Nat.blt t nt with
    | false => rw [hb] at h; cases h
    | true =>
      rw [hb] at h
      cases h
      simp only [putT, hb, cond_true]
      rw [setF_eq _ _ _ _ (Nat.lt_succ_self t)]
noncomputable def gdV : AV → Bool → Option Bool := (@AV.rec (fun _ => Bool → Option Bool) (fun _ => PUnit) (fun p want => some (Bool.rec (motive := fun _ => Bool) (notF want) want p)) (fun _ _ => fun _ => none) (fun _ _ => fun _ => none) (fun _ => none) (fun _ _ => fun _ => none) (fun _ => none) (fun _ _ _ _ _ => fun _ => none) (fun _ => none) (fun _ => none) (fun _ => fun _ => none) (fun _ _ _ _ _ => fun _ => none) (fun _ => none) (fun _ _ _ => fun _ => none) (fun _ => none) (fun _ _ => fun _ => none) (fun l _ _ => @List.rec AV (fun _ => Option Bool) (some false) (fun _ _ _ => none) l) (fun _ => fun _ => none) (fun _ _ => fun _ => none) ⟨⟩ (fun _ _ _ _ => ⟨⟩))
noncomputable def gdC (ops : Array Oper) (o : Oper) : Cl (TT AV → Option Bool) :=
  match o.guard with
  | none => ⟨fun _ => some true⟩
  | some (j, want) => match (ops[j]?).bind (·.dst) with
    | some t => ⟨fun T => Option.rec (motive := fun _ => Option Bool) none (fun v => gdV v want) ((getF (Nat.succ t) t).run T)⟩
    | none => ⟨fun _ => none⟩
theorem gdC_eq {o : Oper} {T : TT AV} : (gdC ops o).run T = gd ops T o := by
  unfold gdC gd
  cases o.guard with
  | none => rfl
  | some jw =>
    obtain ⟨j, want⟩ := jw
    simp only
    cases (ops[j]?).bind (·.dst) with
    | none => rfl
    | some t =>
      show Option.rec (motive := fun _ => Option Bool) none (fun v => gdV v want) ((getF (Nat.succ t) t).run T) = _
      rw [getF_eq _ _ _ (Nat.lt_succ_self t)]
      simp only
      cases T.get t with
      | none => rfl
      | some v =>
        cases v <;> try rfl
        · rename_i p; cases p <;> cases want <;> rfl
        · rename_i l; cases l <;> rfl
noncomputable def restrC : List Tmp → Cl (TT AV → TT AV)
  | [] => ⟨fun _ => .e⟩
  | t :: l => ⟨fun T => Option.rec (motive := fun _ => TT AV) ((restrC l).run T) (fun v => (setF (Nat.succ t) t).run v ((restrC l).run T)) ((getF (Nat.succ t) t).run T)⟩
theorem restrC_eq (T : TT AV) : ∀ l : List Tmp, (restrC l).run T = restr T l
  | [] => rfl
  | t :: l => by
    show Option.rec (motive := fun _ => TT AV) ((restrC l).run T) (fun v => (setF (Nat.succ t) t).run v ((restrC l).run T)) ((getF (Nat.succ t) t).run T) = _
    rw [getF_eq _ _ _ (Nat.lt_succ_self t), restr, restrC_eq T l]
    cases T.get t with
    | none => rfl
    | some v => exact setF_eq _ _ _ _ (Nat.lt_succ_self t)
theorem restr_same {T : TT AV} : ∀ {l : List Tmp} {t : Tmp}, t ∈ l → (restr T l).get t = T.get t
  | s :: l, t, h => by
    simp only [restr]
    by_cases e : t = s
    · subst e
      cases hx : T.get t with
      | some v => simp only [TT.get_set_eq]
      | none =>
        simp only
        cases hg : (restr T l).get t with
        | none => rfl
        | some v => rw [(restr_get hg).1] at hx; cases hx
    · have ht : t ∈ l := by rcases List.mem_cons.1 h with h | h; exact absurd h e; exact h
      cases T.get s with
      | some v => simp only [TT.get_set_ne _ _ e]; exact restr_same ht
      | none => exact restr_same ht
theorem ev_restr {T : TT AV} {o : Oper} {x : Operand} (hx : x ∈ o.op.operands.toList) : ev ng (restr T (o.looksAt ops)) x = ev ng T x := by
  cases x with
  | tmp t =>
    refine restr_same ?_
    unfold Oper.looksAt
    rw [List.mem_append]
    exact .inl (List.mem_filterMap.2 ⟨_, hx, rfl⟩)
  | _ => rfl
theorem gd_restr {T : TT AV} {o : Oper} : gd ops (restr T (o.looksAt ops)) o = gd ops T o := by
  unfold gd
  cases hg : o.guard with
  | none => rfl
  | some jw =>
    obtain ⟨j, want⟩ := jw
    simp only
    cases ht : (ops[j]?).bind (·.dst) with
    | none => rfl
    | some t =>
      simp only
      rw [restr_same]
      unfold Oper.looksAt
      rw [List.mem_append, hg]
      exact .inr (by simp only [ht]; simp)
/-- what a closure reads of the frame -/
def SlotOK (ng : Nat) (o : Oper) : OpK → Prop
  | .rd c => ∀ H T T', (∀ x ∈ o.op.operands.toList, ev ng T x = ev ng T' x) → c.run H T = c.run H T'
  | .wr c => ∀ H T T', (∀ x ∈ o.op.operands.toList, ev ng T x = ev ng T' x) → c.run H T = c.run H T'
  | .gen c => ∀ ih H T T', (∀ x ∈ o.op.operands.toList, ev ng T x = ev ng T' x) → c.run ih T H = c.run ih T' H
def direct (P : Program) : Op → Bool
  | .move _ | .assign _ | .pick .. | .load .. | .binOp .. | .unOp .not .. | .fieldAddr .. | .field .. | .indexAddr .. | .extract .. | .nilCheck _ | .convert .. | .store .. => true
  | .call c => match c.callee with
    | .builtin .len => match c.args.toList, c.argTypes.toList with
      | [_], [_] => true
      | _, _ => false
    | .value (.func g) => hasBody P g
    | _ => false
  | _ => false
theorem evs_congr {T T' : TT AV} : ∀ (l : List Operand), (∀ x ∈ l, ev ng T x = ev ng T' x) → evs ng T l = evs ng T' l
  | [], _ => rfl
  | x :: l, h => by
    rw [evs, evs, h x (by simp), evs_congr l fun y hy => h y (by simp [hy])]
theorem kindC_slot (o : Oper) (hd : direct P o.op = true) : SlotOK ng o (kindC P ng ro o) := by
  unfold kindC
  split
  · rename_i x ho; intro H T T' h; simp only [evC_eq]; exact h x (by rw [ho]; simp [Op.operands])
  · rename_i x ho; intro H T T' h; simp only [evC_eq]; exact h x (by rw [ho]; simp [Op.operands])
  · rename_i c x y ho; intro H T T' h; simp only [evC_eq]; rw [h c (by rw [ho]; simp [Op.operands]), h x (by rw [ho]; simp [Op.operands]), h y (by rw [ho]; simp [Op.operands])]
  · rename_i t x ho; intro H T T' h; simp only [evC_eq]; rw [h x (by rw [ho]; simp [Op.operands])]
  · rename_i op t x y yt ho
    split <;> (intro H T T' h; simp only [evC_eq]; rw [h x (by rw [ho]; simp [Op.operands]), h y (by rw [ho]; simp [Op.operands])])
  · rename_i t x ho; intro H T T' h; simp only [evC_eq]; rw [h x (by rw [ho]; simp [Op.operands])]
  · rename_i s x f ho; intro H T T' h; simp only [evC_eq]; rw [h x (by rw [ho]; simp [Op.operands])]
  · rename_i t x f ho; intro H T T' h; simp only [evC_eq]; rw [h x (by rw [ho]; simp [Op.operands])]
  · rename_i t x y ho; intro H T T' h; simp only [evC_eq]; rw [h x (by rw [ho]; simp [Op.operands]), h y (by rw [ho]; simp [Op.operands])]
  · rename_i x i ho; intro H T T' h; simp only [evC_eq]; rw [h x (by rw [ho]; simp [Op.operands])]
  · rename_i x ho; intro H T T' h; simp only [evC_eq]; rw [h x (by rw [ho]; simp [Op.operands])]
  · rename_i s d x ho; intro H T T' h; simp only [evC_eq]; rw [h x (by rw [ho]; simp [Op.operands])]
  · rename_i ho; rw [ho] at hd; cases hd
  · rename_i ho; rw [ho] at hd; cases hd
  · rename_i ho; rw [ho] at hd; cases hd
  · rename_i ho; rw [ho] at hd; cases hd
  · rename_i t x y ho
    intro H T T' h
    unfold storeC
    split
    · rename_i i hi
      cases Nat.beq i.size 1 <;> (simp only [cond_true, cond_false, evC_eq]; rw [h x (by rw [ho]; simp [Op.operands]), h y (by rw [ho]; simp [Op.operands])])
    · rfl
  · rename_i c ho
    rw [ho] at hd
    simp only [direct] at hd
    split
    · rename_i hcal
      rw [hcal] at hd
      split
      · rename_i x t hx ht
        intro H T T' h
        simp only [evC_eq]
        rw [h x (by
          rw [ho]
          have : x ∈ c.args.toList := by rw [hx]; simp
          simp only [Op.operands, Call.operands, hcal]
          simpa using this)]
      · rename_i hne
        simp only at hd
        cases hd
    · rename_i hcal; rw [hcal] at hd; cases hd
    · rename_i hcal; rw [hcal] at hd; cases hd
    · rename_i g hcal
      rw [hcal] at hd
      simp only at hd
      rw [hd]
      intro ih H T T' h
      simp only [evsC_eq]
      rw [evs_congr (T := T) (T' := T') c.args.toList fun x hx => h x (by
        rw [ho]
        simp only [Op.operands, Call.operands, hcal]
        have : x ∈ c.args := by simpa using hx
        simp [this])]
    · rename_i h1 h2 h3 h4
      split at hd
      · rename_i hcal; exact absurd hcal (by assumption)
      · rename_i g hcal; exact absurd hcal (by apply_assumption)
      · cases hd
  · unfold direct at hd
    split at hd <;> first | (cases hd; done) | (exfalso; solve_by_elim)

/-! what has been read ahead -/
structure ME where
  i : Nat
  chk : Heap → Bool
def MEOK (P : Program) (ng ro : Nat) (m : ME) (e : PE) : Prop := m.i = e.i ∧ ∀ H, m.chk H = true → PE.again P ng ro H e = true
inductive Red (P : Program) (ng ro : Nat) : List ME → List PE → Prop
  | nil : Red P ng ro [] []
  | both {m e M Q} : MEOK P ng ro m e → Red P ng ro M Q → Red P ng ro (m :: M) (e :: Q)
  | skip {e M Q} : (∀ H, PE.again P ng ro H e = true) → Red P ng ro M Q → Red P ng ro M (e :: Q)
noncomputable def keepM (k : Nat) (M : List ME) : List ME :=
  @List.rec ME (fun _ => List ME) [] (fun m _ ih => Bool.rec (motive := fun _ => List ME) (m :: ih) ih (Nat.beq (Nat.mod (Nat.shiftRight k m.i) 2) 1)) M
theorem keepM_cons (k : Nat) (m : ME) (M : List ME) : keepM k (m :: M) = bif tb k m.i then keepM k M else m :: keepM k M := by
  show Bool.rec (motive := fun _ => List ME) (m :: keepM k M) (keepM k M) (tb k m.i) = _
  cases tb k m.i <;> rfl
theorem keepM_red {k : Nat} {M : List ME} {Q : List PE} (h : Red P ng ro M Q) : Red P ng ro (keepM k M) (keepQ k Q) := by
  induction h with
  | nil => exact .nil
  | @both m e M Q h1 _ ih =>
    rw [keepM_cons, keepQ, h1.1]
    cases tb k e.i with
    | true => exact ih
    | false => exact .both h1 ih
  | @skip e M Q h1 _ ih =>
    rw [keepQ]
    cases tb k e.i with
    | true => exact ih
    | false => exact .skip h1 ih
noncomputable def allM (H : Heap) (M : List ME) : Bool := @List.rec ME (fun _ => Bool) true (fun m _ ih => Bool.rec (motive := fun _ => Bool) false ih (m.chk H)) M
theorem allM_red {H : Heap} {M : List ME} {Q : List PE} (h : Red P ng ro M Q) : allM H M = true → Q.all (PE.again P ng ro H) = true := by
  induction h with
  | nil => exact fun _ => rfl
  | @both m e M Q h1 _ ih =>
    intro h
    have h : Bool.rec (motive := fun _ => Bool) false (allM H M) (m.chk H) = true := h
    cases hc : m.chk H with
    | false => rw [hc] at h; cases h
    | true =>
      rw [hc] at h
      rw [List.all_cons, h1.2 H hc, ih h]; rfl
  | @skip e M Q h1 _ ih =>
    intro h
    rw [List.all_cons, h1 H, ih h]; rfl
def depOf : Op → Bool
  | .move _ | .assign _ | .pick .. | .binOp .. | .unOp .. | .fieldAddr .. | .field .. | .indexAddr .. | .extract .. | .nilCheck _ => false
  | _ => true
theorem ard_nodep {o : Oper} {T : TT AV} (h : depOf o.op = false) (H H' : Heap) : ard P ng H T o = ard P ng H' T o := by
  unfold ard
  cases ho : o.op <;> first | rfl | (rw [ho] at h; cases h)
mutual
theorem avEq_self : ∀ x : AV, avEq x x = true
  | .b x => by simp [avEq]
  | .i k n => by simp [avEq, ieq_eq]
  | .s l x | .p l x | .by_ l x => by simp [avEq]
  | .pn | .sn | .se | .mn | .fz | .inil => by simp [avEq]
  | .sl a o l c p => by simp [avEq]
  | .m a | .q a => by simp [avEq]
  | .fn f l k => by simp [avEq, avEqs_self l, avEqs_self k]
  | .ifc t v => by simp [avEq, avEq_self v]
  | .ag l | .tu l => by simp [avEq, avEqs_self l]
theorem avEqs_self : ∀ x : List AV, avEqs x x = true
  | [] => by simp [avEqs]
  | x :: l => by simp [avEqs, avEq_self x, avEqs_self l]
end
noncomputable def eqO (x : Option AV) (v : AV) : Bool := Option.rec (motive := fun _ => Bool) false (fun v' => avEq v' v) x
theorem eqO_ok {x : Option AV} {v : AV} (h : eqO x v = true) : x = some v := by
  cases x with
  | none => cases h
  | some v' => rw [avEq_ok _ _ h]
abbrev DG := Cl (Fns → TT AV → Heap → List ME → Option (TT AV × Heap))
noncomputable def drdK (c : Nat) (rd : Cl (Heap → TT AV → Option AV)) (dep : Bool) (st : Cl (AV → TT AV → TT AV)) (slow k : DG) : DG :=
  bif dep then ⟨fun ih T H M => Option.rec (motive := fun _ => Option (TT AV × Heap)) (slow.run ih T H M) (fun v => k.run ih (st.run v T) H (⟨c, fun H' => eqO (rd.run H' T) v⟩ :: M)) (rd.run H T)⟩
  else ⟨fun ih T H M => Option.rec (motive := fun _ => Option (TT AV × Heap)) (slow.run ih T H M) (fun v => k.run ih (st.run v T) H M) (rd.run H T)⟩
noncomputable def dslow (P : Program) (ng ro c : Nat) (o : Oper) (rs : Cl (TT AV → TT AV)) (st : Cl (AV → TT AV → TT AV)) (k : DG) : DG :=
  ⟨fun ih T H M => match ard P ng H (rs.run T) o with
    | some v => k.run ih (st.run v T) H (⟨c, fun H' => eqO (ard P ng H' (rs.run T) o) v⟩ :: M)
    | none => match aal P ng (rs.run T) o with
      | some (ob, mk) => k.run ih (st.run (mk.val H.nx) T) (H.push ob) (⟨c, fun H' => match H'.t.get H.nx with | some o => AO.beq o ob | none => false⟩ :: M)
      | none => match cvW P ng ro H (rs.run T) o with
        | some v => k.run ih (st.run v T) H (⟨c, fun H' => eqO (cvW P ng ro H' (rs.run T) o) v⟩ :: M)
        | none => none⟩
noncomputable def wrD (op : Cl (Fns → TT AV → Heap → Option (AV × Heap))) (pmc : Nat) (st : Cl (AV → TT AV → TT AV)) (k : DG) : DG :=
  ⟨fun ih T H M => Option.rec (motive := fun _ => Option (TT AV × Heap)) none (fun p => Prod.rec (motive := fun _ => Option (TT AV × Heap)) (fun v H' => Bool.rec (motive := fun _ => Option (TT AV × Heap)) none (k.run ih (st.run v T) H' (keepM pmc M)) (allM H' (keepM pmc M))) p) (op.run ih T H)⟩
/-- a writer: as a closure of the frame where it is one, else at what the operation looks at -/
noncomputable def opD (P : Program) (ng ro : Nat) (o : Oper) (rs : Cl (TT AV → TT AV)) : Cl (Fns → TT AV → Heap → Option (AV × Heap)) :=
  bif direct P o.op then
    match kindC P ng ro o with
    | .rd _ => ⟨fun ih T H => opX P ng ro ih.ca ih.yi o (rs.run T) H⟩
    | .wr c => ⟨fun ih T H => Option.rec (motive := fun _ => Option (AV × Heap)) (opX P ng ro ih.ca ih.yi o (rs.run T) H) (fun H' => some (.tu [], H')) (c.run H T)⟩
    | .gen c => ⟨fun ih T H => Option.rec (motive := fun _ => Option (AV × Heap)) (opX P ng ro ih.ca ih.yi o (rs.run T) H) some (c.run ih T H)⟩
  else match kindC P ng ro o with
    | .gen c => ⟨fun ih T H => Option.rec (motive := fun _ => Option (AV × Heap)) (opX P ng ro ih.ca ih.yi o (rs.run T) H) some (c.run ih (rs.run T) H)⟩
    | _ => ⟨fun ih T H => opX P ng ro ih.ca ih.yi o (rs.run T) H⟩
theorem opD_some {o : Oper} {rs : Cl (TT AV → TT AV)} (hrs : ∀ T, rs.run T = restr T (o.looksAt ops)) {ih : Fns} {T : TT AV} {H : Heap} {r : AV × Heap} (h : (opD P ng ro o rs).run ih T H = some r) : opX P ng ro ih.ca ih.yi o (restr T (o.looksAt ops)) H = some r := by
  have hk := kindC_ok (P := P) (ng := ng) (ro := ro) o
  unfold opD at h
  cases hd : direct P o.op with
  | true =>
    have hs := kindC_slot (P := P) (ng := ng) (ro := ro) o hd
    rw [hd] at h
    cases hq : kindC P ng ro o with
    | rd c => rw [hq] at h; rw [← hrs]; exact h
    | wr c =>
      rw [hq] at h hk hs
      have h : Option.rec (motive := fun _ => Option (AV × Heap)) (opX P ng ro ih.ca ih.yi o (rs.run T) H) (fun H' => some (.tu [], H')) (c.run H T) = some r := h
      cases hc : c.run H T with
      | none => rw [hc] at h; rw [← hrs]; exact h
      | some H1 =>
        rw [hc] at h
        have h2 := hs H (restr T (o.looksAt ops)) T fun x hx => ev_restr hx
        rw [hc] at h2
        cases h
        exact hk ih _ _ _ h2
    | gen c =>
      rw [hq] at h hk hs
      have h : Option.rec (motive := fun _ => Option (AV × Heap)) (opX P ng ro ih.ca ih.yi o (rs.run T) H) some (c.run ih T H) = some r := h
      cases hc : c.run ih T H with
      | none => rw [hc] at h; rw [← hrs]; exact h
      | some q =>
        rw [hc] at h
        have h2 := hs ih H (restr T (o.looksAt ops)) T fun x hx => ev_restr hx
        rw [hc] at h2
        cases h
        exact hk ih _ _ _ h2
  | false =>
    rw [hd] at h
    cases hq : kindC P ng ro o with
    | rd c => rw [hq] at h; rw [← hrs]; exact h
    | wr c => rw [hq] at h; rw [← hrs]; exact h
    | gen c =>
      rw [hq] at h hk
      have h : Option.rec (motive := fun _ => Option (AV × Heap)) (opX P ng ro ih.ca ih.yi o (rs.run T) H) some (c.run ih (rs.run T) H) = some r := h
      rw [hrs] at h
      cases hc : c.run ih (restr T (o.looksAt ops)) H with
      | none => rw [hc] at h; exact h
      | some q => rw [hc] at h; cases h; exact hk ih _ _ _ hc
noncomputable def dstep (P : Program) (ng ro c pmc : Nat) (o : Oper) (rs : Cl (TT AV → TT AV)) (st : Cl (AV → TT AV → TT AV)) (k : DG) : DG :=
  bif isR o.op then
    bif direct P o.op then
      match kindC P ng ro o with
      | .rd rd => drdK c rd (depOf o.op) st (dslow P ng ro c o rs st k) k
      | _ => dslow P ng ro c o rs st k
    else dslow P ng ro c o rs st k
  else wrD (opD P ng ro o rs) pmc st k
noncomputable def guardD (g : Cl (TT AV → Option Bool)) (st : Cl (AV → TT AV → TT AV)) (x k : DG) : DG :=
  ⟨fun ih T H M => Option.rec (motive := fun _ => Option (TT AV × Heap)) none (fun b => Bool.rec (motive := fun _ => Option (TT AV × Heap)) (k.run ih (st.run (.tu []) T) H M) (x.run ih T H M) b) (g.run T)⟩
noncomputable def dgoC (P : Program) (ng ro nt : Nat) (ops : Array Oper) (pm : List Nat) : List Nat → DG
  | [] => ⟨fun _ T H _ => some (T, H)⟩
  | c :: L => match ops[c]? with
    | none => ⟨fun _ _ _ _ => none⟩
    | some o => match stC nt o.dst with
      | none => ⟨fun _ _ _ _ => none⟩
      | some st => match o.guard with
        | none => dstep P ng ro c (pm.getD c 0) o (restrC (o.looksAt ops)) st (dgoC P ng ro nt ops pm L)
        | some _ => guardD (gdC ops o) st (dstep P ng ro c (pm.getD c 0) o (restrC (o.looksAt ops)) st (dgoC P ng ro nt ops pm L)) (dgoC P ng ro nt ops pm L)
theorem dgoC_ok {pm : List Nat} {ih : Fns} {T' : TT AV} {H' : Heap} : ∀ (L : List Nat) (T : TT AV) (H : Heap) (M : List ME) (Q : List PE), Red P ng ro M Q → (dgoC P ng ro nt ops pm L).run ih T H M = some (T', H') →
    dgo P ng ro nt (opX P ng ro ih.ca ih.yi) ops pm L T H Q = some (T', H')
  | [], T, H, M, Q, _, h => h
  | c :: L, T, H, M, Q, hr, h => by
    simp only [dgoC] at h
    simp only [dgo]
    cases ho : ops[c]? with
    | none => rw [ho] at h; cases h
    | some o =>
      rw [ho] at h
      simp only at h ⊢
      cases hst : stC nt o.dst with
      | none => rw [hst] at h; cases h
      | some st =>
        rw [hst] at h
        simp only at h
        have hput : ∀ v, putT nt T o.dst v = some (st.run v T) := fun v => stC_ok hst
        rw [gd_restr]
        have hskip : (dgoC P ng ro nt ops pm L).run ih (st.run (.tu []) T) H M = some (T', H') → gd ops T o = some false → dgo P ng ro nt (opX P ng ro ih.ca ih.yi) ops pm L (st.run (.tu []) T) H (⟨c, o, restr T (o.looksAt ops), .tu [], .skip⟩ :: Q) = some (T', H') := fun h _ =>
          dgoC_ok L _ _ M _ (.skip (fun _ => rfl) hr) h
        have hslow : (dslow P ng ro c o (restrC (o.looksAt ops)) st (dgoC P ng ro nt ops pm L)).run ih T H M = some (T', H') → (match ard P ng H (restr T (o.looksAt ops)) o with
            | some v => match putT nt T o.dst v with
              | some T' => dgo P ng ro nt (opX P ng ro ih.ca ih.yi) ops pm L T' H (⟨c, o, restr T (o.looksAt ops), v, .rd⟩ :: Q)
              | none => none
            | none => match aal P ng (restr T (o.looksAt ops)) o with
              | some (ob, mk) => match putT nt T o.dst (mk.val H.nx) with
                | some T' => dgo P ng ro nt (opX P ng ro ih.ca ih.yi) ops pm L T' (H.push ob) (⟨c, o, restr T (o.looksAt ops), mk.val H.nx, .al H.nx ob mk⟩ :: Q)
                | none => none
              | none => match cvW P ng ro H (restr T (o.looksAt ops)) o with
                | some v => match putT nt T o.dst v with
                  | some T' => dgo P ng ro nt (opX P ng ro ih.ca ih.yi) ops pm L T' H (⟨c, o, restr T (o.looksAt ops), v, .cv⟩ :: Q)
                  | none => none
                | none => none) = some (T', H') := fun h => by
          simp only [dslow, restrC_eq] at h
          simp only [hput]
          cases ha : ard P ng H (restr T (o.looksAt ops)) o with
          | some v =>
            rw [ha] at h
            refine dgoC_ok L _ _ _ _ (.both ⟨rfl, fun H' hc => ?_⟩ hr) h
            have := eqO_ok hc
            simp only [PE.again, this]
            exact avEq_self v
          | none =>
            rw [ha] at h
            simp only at h ⊢
            cases hl : aal P ng (restr T (o.looksAt ops)) o with
            | some p =>
              obtain ⟨ob, mk⟩ := p
              rw [hl] at h
              exact dgoC_ok L _ _ _ _ (.both ⟨rfl, fun H' hc => hc⟩ hr) h
            | none =>
              rw [hl] at h
              simp only at h ⊢
              cases hv : cvW P ng ro H (restr T (o.looksAt ops)) o with
              | some v =>
                rw [hv] at h
                refine dgoC_ok L _ _ _ _ (.both ⟨rfl, fun H' hc => ?_⟩ hr) h
                have := eqO_ok hc
                simp only [PE.again, this]
                exact avEq_self v
              | none => rw [hv] at h; cases h
        have hstep : (dstep P ng ro c (pm.getD c 0) o (restrC (o.looksAt ops)) st (dgoC P ng ro nt ops pm L)).run ih T H M = some (T', H') → (bif isR o.op then
            match ard P ng H (restr T (o.looksAt ops)) o with
            | some v => match putT nt T o.dst v with
              | some T' => dgo P ng ro nt (opX P ng ro ih.ca ih.yi) ops pm L T' H (⟨c, o, restr T (o.looksAt ops), v, .rd⟩ :: Q)
              | none => none
            | none => match aal P ng (restr T (o.looksAt ops)) o with
              | some (ob, mk) => match putT nt T o.dst (mk.val H.nx) with
                | some T' => dgo P ng ro nt (opX P ng ro ih.ca ih.yi) ops pm L T' (H.push ob) (⟨c, o, restr T (o.looksAt ops), mk.val H.nx, .al H.nx ob mk⟩ :: Q)
                | none => none
              | none => match cvW P ng ro H (restr T (o.looksAt ops)) o with
                | some v => match putT nt T o.dst v with
                  | some T' => dgo P ng ro nt (opX P ng ro ih.ca ih.yi) ops pm L T' H (⟨c, o, restr T (o.looksAt ops), v, .cv⟩ :: Q)
                  | none => none
                | none => none
          else match opX P ng ro ih.ca ih.yi o (restr T (o.looksAt ops)) H with
            | some (v, H') =>
              bif (keepQ (pm.getD c 0) Q).all (PE.again P ng ro H') then
                match putT nt T o.dst v with
                | some T' => dgo P ng ro nt (opX P ng ro ih.ca ih.yi) ops pm L T' H' (keepQ (pm.getD c 0) Q)
                | none => none
              else none
            | none => none) = some (T', H') := fun h => by
          unfold dstep at h
          cases hR : isR o.op with
          | true =>
            rw [hR] at h
            simp only [cond_true] at h ⊢
            cases hd : direct P o.op with
            | false => rw [hd] at h; exact hslow h
            | true =>
              rw [hd] at h
              simp only [cond_true] at h
              have hk := kindC_ok (P := P) (ng := ng) (ro := ro) o
              have hs := kindC_slot (P := P) (ng := ng) (ro := ro) o hd
              cases hq : kindC P ng ro o with
              | wr c1 => rw [hq] at h; exact hslow h
              | gen c1 => rw [hq] at h; exact hslow h
              | rd rd =>
                rw [hq] at h hk hs
                simp only at h
                have hrd : ∀ H v, rd.run H T = some v → ard P ng H (restr T (o.looksAt ops)) o = some v := fun H v hv => by
                  refine hk H _ v ?_
                  rw [hs H (restr T (o.looksAt ops)) T fun x hx => ev_restr hx]; exact hv
                unfold drdK at h
                cases hdep : depOf o.op with
                | true =>
                  rw [hdep] at h
                  have h : Option.rec (motive := fun _ => Option (TT AV × Heap)) ((dslow P ng ro c o (restrC (o.looksAt ops)) st (dgoC P ng ro nt ops pm L)).run ih T H M) (fun v => (dgoC P ng ro nt ops pm L).run ih (st.run v T) H (⟨c, fun H' => eqO (rd.run H' T) v⟩ :: M)) (rd.run H T) = some (T', H') := h
                  cases hv : rd.run H T with
                  | none => rw [hv] at h; exact hslow h
                  | some v =>
                    rw [hv] at h
                    simp only [hrd H v hv, hput]
                    refine dgoC_ok L _ _ _ _ (.both ⟨rfl, fun H' hc => ?_⟩ hr) h
                    simp only [PE.again, hrd H' v (eqO_ok hc)]
                    exact avEq_self v
                | false =>
                  rw [hdep] at h
                  have h : Option.rec (motive := fun _ => Option (TT AV × Heap)) ((dslow P ng ro c o (restrC (o.looksAt ops)) st (dgoC P ng ro nt ops pm L)).run ih T H M) (fun v => (dgoC P ng ro nt ops pm L).run ih (st.run v T) H M) (rd.run H T) = some (T', H') := h
                  cases hv : rd.run H T with
                  | none => rw [hv] at h; exact hslow h
                  | some v =>
                    rw [hv] at h
                    simp only [hrd H v hv, hput]
                    refine dgoC_ok L _ _ _ _ (.skip (fun H' => ?_) hr) h
                    simp only [PE.again, ard_nodep hdep H' H, hrd H v hv]
                    exact avEq_self v
          | false =>
            rw [hR] at h
            simp only [cond_false] at h ⊢
            have h : Option.rec (motive := fun _ => Option (TT AV × Heap)) none (fun p => Prod.rec (motive := fun _ => Option (TT AV × Heap)) (fun v H' => Bool.rec (motive := fun _ => Option (TT AV × Heap)) none ((dgoC P ng ro nt ops pm L).run ih (st.run v T) H' (keepM (pm.getD c 0) M)) (allM H' (keepM (pm.getD c 0) M))) p) ((opD P ng ro o (restrC (o.looksAt ops))).run ih T H) = some (T', H') := h
            cases hv : (opD P ng ro o (restrC (o.looksAt ops))).run ih T H with
            | none => rw [hv] at h; cases h
            | some p =>
              obtain ⟨v, H1⟩ := p
              rw [hv] at h
              have h2 := opD_some (fun T => restrC_eq T _) hv
              simp only [h2]
              obtain ⟨h3, h4⟩ := brec_some h
              rw [allM_red (keepM_red hr) h3]
              simp only [cond_true, hput]
              exact dgoC_ok L _ _ _ _ (keepM_red hr) h4
        cases hg : o.guard with
        | none =>
          rw [hg] at h
          have e1 : gd ops T o = some true := by unfold gd; rw [hg]
          rw [e1]
          exact hstep h
        | some jw =>
          rw [hg] at h
          have h : Option.rec (motive := fun _ => Option (TT AV × Heap)) none (fun b => Bool.rec (motive := fun _ => Option (TT AV × Heap)) ((dgoC P ng ro nt ops pm L).run ih (st.run (.tu []) T) H M) ((dstep P ng ro c (pm.getD c 0) o (restrC (o.looksAt ops)) st (dgoC P ng ro nt ops pm L)).run ih T H M) b) ((gdC ops o).run T) = some (T', H') := h
          rw [gdC_eq] at h
          cases hb : gd ops T o with
          | none => rw [hb] at h; cases h
          | some b =>
            rw [hb] at h
            cases b with
            | true => exact hstep h
            | false => simp only [hput]; exact hskip h hb
end
end Go.Ai
/- Regions, code, calls as closures; the quick interpreter is right. -/
namespace Go.Ai
section
variable {P : Program} {env : Nat → Value} {ng ro nt N : Nat} {S : Sums}
abbrev GoC := Cl (Fns → TT AV → Heap → R0)
noncomputable def bR {α : Type} (x : Option α) (f : α → R0) : R0 := Option.rec (motive := fun _ => R0) .no f x
noncomputable def slowR (slow : Cl (Fns → TT AV → Heap → Option (AV × Heap))) (st : Cl (AV → TT AV → TT AV)) (k : GoC) (ih : Fns) (T : TT AV) (H : Heap) : R0 :=
  bR (slow.run ih T H) fun p => Prod.rec (motive := fun _ => R0) (fun v H' => k.run ih (st.run v T) H') p
noncomputable def kStep (o : OpK) (st : Cl (AV → TT AV → TT AV)) (slow : Cl (Fns → TT AV → Heap → Option (AV × Heap))) (k : GoC) : GoC :=
  match o with
  | .rd c => ⟨fun ih T H => Option.rec (motive := fun _ => R0) (slowR slow st k ih T H) (fun v => k.run ih (st.run v T) H) (c.run H T)⟩
  | .wr c => ⟨fun ih T H => Option.rec (motive := fun _ => R0) (slowR slow st k ih T H) (fun H' => k.run ih (st.run (.tu []) T) H') (c.run H T)⟩
  | .gen c => ⟨fun ih T H => Option.rec (motive := fun _ => R0) (slowR slow st k ih T H) (fun p => Prod.rec (motive := fun _ => R0) (fun v H' => k.run ih (st.run v T) H') p) (c.run ih T H)⟩
theorem kStep_ok {o : Oper} {q : OpK} {st : Cl (AV → TT AV → TT AV)} {k : GoC} {ih : Fns} {T T' : TT AV} {H H' : Heap} {e : Ex} (hq : KindOK P ng ro o q)
    (h : (kStep q st ⟨fun ih T H => opX P ng ro ih.ca ih.yi o T H⟩ k).run ih T H = .ok e T' H') : ∃ v H1, opX P ng ro ih.ca ih.yi o T H = some (v, H1) ∧ k.run ih (st.run v T) H1 = .ok e T' H' := by
  have hs : slowR ⟨fun ih T H => opX P ng ro ih.ca ih.yi o T H⟩ st k ih T H = .ok e T' H' → ∃ v H1, opX P ng ro ih.ca ih.yi o T H = some (v, H1) ∧ k.run ih (st.run v T) H1 = .ok e T' H' := fun h => by
    have h : bR (opX P ng ro ih.ca ih.yi o T H) (fun p => Prod.rec (motive := fun _ => R0) (fun v H' => k.run ih (st.run v T) H') p) = .ok e T' H' := h
    cases hx : opX P ng ro ih.ca ih.yi o T H with
    | none => rw [hx] at h; cases h
    | some p => rw [hx] at h; obtain ⟨v, H1⟩ := p; exact ⟨v, H1, rfl, h⟩
  cases q with
  | rd c =>
    have h : Option.rec (motive := fun _ => R0) (slowR ⟨fun ih T H => opX P ng ro ih.ca ih.yi o T H⟩ st k ih T H) (fun v => k.run ih (st.run v T) H) (c.run H T) = .ok e T' H' := h
    cases hx : c.run H T with
    | none => rw [hx] at h; exact hs h
    | some v => rw [hx] at h; exact ⟨v, H, opX_of_ard (hq H T v hx), h⟩
  | wr c =>
    have h : Option.rec (motive := fun _ => R0) (slowR ⟨fun ih T H => opX P ng ro ih.ca ih.yi o T H⟩ st k ih T H) (fun H' => k.run ih (st.run (.tu []) T) H') (c.run H T) = .ok e T' H' := h
    cases hx : c.run H T with
    | none => rw [hx] at h; exact hs h
    | some H1 => rw [hx] at h; exact ⟨_, H1, hq ih T H H1 hx, h⟩
  | gen c =>
    have h : Option.rec (motive := fun _ => R0) (slowR ⟨fun ih T H => opX P ng ro ih.ca ih.yi o T H⟩ st k ih T H) (fun p => Prod.rec (motive := fun _ => R0) (fun v H' => k.run ih (st.run v T) H') p) (c.run ih T H) = .ok e T' H' := h
    cases hx : c.run ih T H with
    | none => rw [hx] at h; exact hs h
    | some p => rw [hx] at h; obtain ⟨v, H1⟩ := p; exact ⟨v, H1, hq ih T H _ hx, h⟩
noncomputable def guardC (g : Cl (TT AV → Option Bool)) (st : Cl (AV → TT AV → TT AV)) (x k : GoC) : GoC :=
  ⟨fun ih T H => bR (g.run T) fun b => Bool.rec (motive := fun _ => R0) (k.run ih (st.run (.tu []) T) H) (x.run ih T H) b⟩
noncomputable def stepO (P : Program) (ng ro nt : Nat) (ops : Array Oper) (o : Oper) (k : GoC) : GoC :=
  match stC nt o.dst with
  | none => ⟨fun _ _ _ => .no⟩
  | some st => match o.guard with
    | none => kStep (kindC P ng ro o) st ⟨fun ih T H => opX P ng ro ih.ca ih.yi o T H⟩ k
    | some _ => guardC (gdC ops o) st (kStep (kindC P ng ro o) st ⟨fun ih T H => opX P ng ro ih.ca ih.yi o T H⟩ k) k
noncomputable def sgoC (P : Program) (ng ro nt : Nat) (ops : Array Oper) : List Oper → GoC
  | [] => ⟨fun _ T H => .ok .normal T H⟩
  | o :: l => stepO P ng ro nt ops o (sgoC P ng ro nt ops l)
theorem sgoC_ok {ops : Array Oper} {ih : Fns} {e : Ex} {T' : TT AV} {H' : Heap} : ∀ (l : List Oper) (T : TT AV) (H : Heap), (sgoC P ng ro nt ops l).run ih T H = .ok e T' H' → sgo nt (opX P ng ro ih.ca ih.yi) ops l T H = .ok e T' H'
  | [], T, H, h => h
  | o :: l, T, H, h => by
    simp only [sgoC] at h
    unfold stepO at h
    simp only [sgo]
    cases hst : stC nt o.dst with
    | none => rw [hst] at h; cases h
    | some st =>
      rw [hst] at h
      simp only at h
      have key : (kStep (kindC P ng ro o) st ⟨fun ih T H => opX P ng ro ih.ca ih.yi o T H⟩ (sgoC P ng ro nt ops l)).run ih T H = .ok e T' H' → (match opX P ng ro ih.ca ih.yi o T H with
          | some (v, H') => match putT nt T o.dst v with
            | some T' => sgo nt (opX P ng ro ih.ca ih.yi) ops l T' H'
            | none => .no
          | none => .no) = .ok e T' H' := fun h => by
        obtain ⟨v, H1, h1, h2⟩ := kStep_ok (kindC_ok o) h
        simp only [h1, stC_ok hst]
        exact sgoC_ok l _ _ h2
      cases hg : o.guard with
      | none =>
        rw [hg] at h
        have e1 : gd ops T o = some true := by unfold gd; rw [hg]
        simp only [e1]
        exact key h
      | some jw =>
        rw [hg] at h
        have h : bR ((gdC ops o).run T) (fun b => Bool.rec (motive := fun _ => R0) ((sgoC P ng ro nt ops l).run ih (st.run (.tu []) T) H) ((kStep (kindC P ng ro o) st ⟨fun ih T H => opX P ng ro ih.ca ih.yi o T H⟩ (sgoC P ng ro nt ops l)).run ih T H) b) = .ok e T' H' := h
        rw [gdC_eq] at h
        cases hb : gd ops T o with
        | none => rw [hb] at h; cases h
        | some b =>
          rw [hb] at h
          cases b with
          | true => exact key h
          | false =>
            simp only [stC_ok hst]
            exact sgoC_ok l _ _ h

/-! code -/
noncomputable def seqC (A B : GoC) : GoC :=
  ⟨fun ih T H => @R0.rec (fun _ => R0) (fun e T' H' => @Ex.rec (fun _ => R0) (B.run ih T' H') (fun id => .ok (.exit id) T' H') (fun l => .ok (.goto l) T' H') (.ok .ret T' H') e) .no (A.run ih T H)⟩
noncomputable def boolR : AV → R0 → R0 → R0 := (@AV.rec (fun _ => R0 → R0 → R0) (fun _ => PUnit) (fun x p q => Bool.rec (motive := fun _ => R0) q p x) (fun _ _ => fun _ _ => .no) (fun _ _ => fun _ _ => .no) (fun _ _ => .no) (fun _ _ => fun _ _ => .no) (fun _ _ => .no) (fun _ _ _ _ _ => fun _ _ => .no) (fun _ _ => .no) (fun _ _ => .no) (fun _ => fun _ _ => .no) (fun _ _ _ _ _ => fun _ _ => .no) (fun _ _ => .no) (fun _ _ _ => fun _ _ => .no) (fun _ _ => .no) (fun _ _ => fun _ _ => .no) (fun _ _ => fun _ _ => .no) (fun _ => fun _ _ => .no) (fun _ _ => fun _ _ => .no) ⟨⟩ (fun _ _ _ _ => ⟨⟩))
noncomputable def condC (c : Cl (TT AV → Option AV)) (A B : GoC) : GoC :=
  ⟨fun ih T H => bR (c.run T) fun v => boolR v (A.run ih T H) (B.run ih T H)⟩
noncomputable def blockC (id : Nat) (A : GoC) : GoC :=
  ⟨fun ih T H => @R0.rec (fun _ => R0) (fun e T' H' => @Ex.rec (fun _ => R0) (.ok .normal T' H') (fun id' => Bool.rec (motive := fun _ => R0) (.ok (.exit id') T' H') (.ok .normal T' H') (Nat.beq id' id)) (fun l => .ok (.goto l) T' H') (.ok .ret T' H') e) .no (A.run ih T H)⟩
noncomputable def scopeC (A : GoC) : GoC :=
  ⟨fun ih T H => @R0.rec (fun _ => R0) (fun e T' H' => @Ex.rec (fun _ => R0) (.ok .normal T' H') (fun id => .ok (.exit id) T' H') (fun _ => .no) (.ok .ret T' H') e) .no (A.run ih T H)⟩
noncomputable def loopB (A : GoC) (again : TT AV → Heap → R0) (ih : Fns) (T : TT AV) (H : Heap) : R0 :=
  @R0.rec (fun _ => R0) (fun e T' H' => @Ex.rec (fun _ => R0) (again T' H') (fun id => .ok (.exit id) T' H') (fun l => .ok (.goto l) T' H') (.ok .ret T' H') e) .no (A.run ih T H)
noncomputable def loopN (A : GoC) (ih : Fns) (n : Nat) : TT AV → Heap → R0 :=
  @Nat.rec (fun _ => TT AV → Heap → R0) (fun _ _ => .no) (fun _ again T H => loopB A again ih T H) n
noncomputable def loopC (N : Nat) (A : GoC) : GoC := ⟨fun ih T H => loopN A ih N T H⟩
noncomputable def regC (P : Program) (ng ro nt : Nat) (ops : Array Oper) : GoC :=
  bif planOk P ops (planOf P ops) then ⟨fun ih T H => Option.rec (motive := fun _ => R0) .no (fun p => Prod.rec (motive := fun _ => R0) (fun T' H' => .ok .normal T' H') p) ((dgoC P ng ro nt ops (planOf P ops).pm (planOf P ops).L).run ih T H [])⟩
  else ⟨fun _ _ _ => .no⟩
theorem regC_ok {ops : Array Oper} {ih : Fns} {T T' : TT AV} {H H' : Heap} {e : Ex} (h : (regC P ng ro nt ops).run ih T H = .ok e T' H') : regX P ng ro nt (opX P ng ro ih.ca ih.yi) ops T H = .ok e T' H' := by
  unfold regC at h
  unfold regX
  cases hp : planOk P ops (planOf P ops) with
  | false => rw [hp] at h; cases h
  | true =>
    rw [hp] at h
    have h : Option.rec (motive := fun _ => R0) .no (fun p => Prod.rec (motive := fun _ => R0) (fun T' H' => .ok .normal T' H') p) ((dgoC P ng ro nt ops (planOf P ops).pm (planOf P ops).L).run ih T H []) = .ok e T' H' := h
    simp only [cond_true]
    cases hd : (dgoC P ng ro nt ops (planOf P ops).pm (planOf P ops).L).run ih T H [] with
    | none => rw [hd] at h; cases h
    | some p =>
      obtain ⟨T1, H1⟩ := p
      rw [hd] at h
      rw [dgoC_ok _ _ _ _ [] .nil hd]
      exact h
noncomputable def cdC (P : Program) (ng ro N nt : Nat) (c : Code) : GoC :=
  @Code.rec (fun _ => GoC) ⟨fun _ T H => .ok .normal T H⟩
    (fun _ ops d => bif d then regC P ng ro nt ops else sgoC P ng ro nt ops ops.toList)
    (fun _ _ a b => seqC a b) (fun c _ _ a b => condC (evC ng c) a b) (fun id _ a => blockC id a) (fun _ a => loopC N a)
    (fun g ps as bd _ _ => ⟨fun ih T H => rfX P ng ro ih nt g ps as bd T H⟩) (fun id => ⟨fun _ T H => .ok (.exit id) T H⟩) (fun _ a => scopeC a)
    (fun _ => ⟨fun _ T H => .ok .normal T H⟩) (fun l => ⟨fun _ T H => .ok (.goto l) T H⟩) ⟨fun _ T H => .ok .ret T H⟩ (fun _ => ⟨fun _ _ _ => .no⟩) c

/-! it is right -/
def CodeOK (P : Program) (env : Nat → Value) (ro ng nt : Nat) (code : Code) (f : TT AV → Heap → R0) : Prop :=
  ∀ (rd : Option Nat) (n0 : MK) (T : TT AV) (H : Heap) (ρ : Ren) (a : Act) (w : World) (e : Ex) (T' : TT AV) (H' : Heap), Rel env ρ H w → GOK ng ρ → FR ρ env T a.tmps → a.tmps.size = nt → Marks n0 ρ H w a.defers →
    ((rd.isSome = true ∨ n0.2.isSome = true) → noRF code = true) → f T H = .ok e T' H' →
    code.wpIn (Fc rd) 0 P (Post env ro ng nt n0 ρ H w e T' H') a w ∧ ∀ c, code = .loop c → LoopWp rd P c (Post env ro ng nt n0 ρ H w e T' H') a w
theorem ExOK.code {ex : Nat → Code → TT AV → Heap → R0} (h : ExOK P env ro ng ex) (nt : Nat) (c : Code) : CodeOK P env ro ng nt c (ex nt c) := fun rd n0 T H ρ a w e T' H' => h rd nt n0 c T H ρ a w e T' H'
theorem ExOK.of_code {ex : Nat → Code → TT AV → Heap → R0} (h : ∀ nt c, CodeOK P env ro ng nt c (ex nt c)) : ExOK P env ro ng ex := fun rd nt n0 c T H ρ a w e T' H' => h nt c rd n0 T H ρ a w e T' H'
theorem CodeOK.imp {c : Code} {f g : TT AV → Heap → R0} (h : CodeOK P env ro ng nt c f) (hi : ∀ T H e T' H', g T H = .ok e T' H' → f T H = .ok e T' H') : CodeOK P env ro ng nt c g := fun rd n0 T H ρ a w e T' H' h1 h2 h3 h4 h5 h6 h7 => h rd n0 T H ρ a w e T' H' h1 h2 h3 h4 h5 h6 (hi _ _ _ _ _ h7)
theorem CodeOK.no {c : Code} : CodeOK P env ro ng nt c (fun _ _ => .no) := fun _ _ _ _ _ _ _ _ _ _ _ _ _ _ _ _ h => by cases h
open Classical in
/-- one piece of code, at pieces that are right -/
theorem code_step (hN : NamesOK P) (hm : P.follows .mixedOrders = true) {ih : Fns} (hc : CallOK P env ro ng ih.ca) (hy : YieldOK P env ro ng ih.yi) (c : Code) (g : Code → TT AV → Heap → R0) (hg : ∀ c', CodeOK P env ro ng nt c' (g c')) :
    CodeOK P env ro ng nt c (exX P ng ro ⟨fun nt' c' T H => if nt' = nt then g c' T H else .no, ih.ca, ih.yi⟩ nt c) := by
  refine ExOK.code (ex := exX P ng ro ⟨fun nt' c' T H => if nt' = nt then g c' T H else .no, ih.ca, ih.yi⟩) (exX_ok hN hm ⟨hc, hy, ExOK.of_code fun nt' c' => ?_⟩) nt c
  by_cases e : nt' = nt
  · subst e
    simp only [if_true]
    exact hg c'
  · simp only [if_neg e]
    exact CodeOK.no
open Classical in
theorem cdC_ok (hN : NamesOK P) (hm : P.follows .mixedOrders = true) {ih : Fns} (hc : CallOK P env ro ng ih.ca) (hy : YieldOK P env ro ng ih.yi) : ∀ c : Code, CodeOK P env ro ng nt c ((cdC P ng ro N nt c).run ih) := by
  have st := fun c g hg => code_step (nt := nt) hN hm hc hy c g hg
  have st0 := fun c => st c (fun _ _ _ => .no) fun _ => CodeOK.no
  intro c
  induction c with
  | skip => exact (st0 .skip).imp fun T H e T' H' h => h
  | label l => exact (st0 (.label l)).imp fun T H e T' H' h => h
  | exit id => exact (st0 (.exit id)).imp fun T H e T' H' h => h
  | goto l => exact (st0 (.goto l)).imp fun T H e T' H' h => h
  | ret => exact (st0 .ret).imp fun T H e T' H' h => h
  | refuse why => exact (st0 (.refuse why)).imp fun T H e T' H' h => h
  | rangeFunc g ps as bd _ _ => exact (st0 (.rangeFunc g ps as bd)).imp fun T H e T' H' h => h
  | region id ops d =>
    cases d with
    | true => exact (st0 (.region id ops true)).imp fun T H e T' H' h => (regC_ok (ih := ih) h :)
    | false => exact (st0 (.region id ops false)).imp fun T H e T' H' h => (sgoC_ok (ih := ih) (e := e) (T' := T') (H' := H') ops.toList T H h :)
  | seq a b iha ihb =>
    refine (st (.seq a b) (fun c' => if c' = a then (cdC P ng ro N nt a).run ih else if c' = b then (cdC P ng ro N nt b).run ih else fun _ _ => .no) fun c' => ?_).imp fun T H e T' H' h => ?_
    · by_cases e1 : c' = a
      · subst e1; simp only [if_true]; exact iha
      · by_cases e2 : c' = b
        · subst e2; simp only [if_neg e1, if_true]; exact ihb
        · simp only [if_neg e1, if_neg e2]; exact CodeOK.no
    · have hB : (if b = a then (cdC P ng ro N nt a).run ih else (cdC P ng ro N nt b).run ih) = (cdC P ng ro N nt b).run ih := by
        by_cases e1 : b = a
        · rw [if_pos e1, e1]
        · rw [if_neg e1]
      have h : @R0.rec (fun _ => R0) (fun e T' H' => @Ex.rec (fun _ => R0) ((cdC P ng ro N nt b).run ih T' H') (fun id => .ok (.exit id) T' H') (fun l => .ok (.goto l) T' H') (.ok .ret T' H') e) .no ((cdC P ng ro N nt a).run ih T H) = .ok e T' H' := h
      simp only [exX, if_true]
      cases hx : (cdC P ng ro N nt a).run ih T H with
      | no => rw [hx] at h; cases h
      | ok e1 T1 H1 =>
        rw [hx] at h
        cases e1 with
        | normal => simp only [hB]; exact h
        | _ => exact h
  | cond c a b iha ihb =>
    refine (st (.cond c a b) (fun c' => if c' = a then (cdC P ng ro N nt a).run ih else if c' = b then (cdC P ng ro N nt b).run ih else fun _ _ => .no) fun c' => ?_).imp fun T H e T' H' h => ?_
    · by_cases e1 : c' = a
      · subst e1; simp only [if_true]; exact iha
      · by_cases e2 : c' = b
        · subst e2; simp only [if_neg e1, if_true]; exact ihb
        · simp only [if_neg e1, if_neg e2]; exact CodeOK.no
    · have hB : (if b = a then (cdC P ng ro N nt a).run ih else (cdC P ng ro N nt b).run ih) = (cdC P ng ro N nt b).run ih := by
        by_cases e1 : b = a
        · rw [if_pos e1, e1]
        · rw [if_neg e1]
      have h : bR ((evC ng c).run T) (fun v => boolR v ((cdC P ng ro N nt a).run ih T H) ((cdC P ng ro N nt b).run ih T H)) = .ok e T' H' := h
      rw [evC_eq] at h
      simp only [exX, if_true]
      cases hx : ev ng T c with
      | none => rw [hx] at h; cases h
      | some v =>
        rw [hx] at h
        cases v with
        | b x => cases x with
          | true => exact h
          | false => simp only [hB]; exact h
        | _ => cases h
  | block id a iha =>
    refine (st (.block id a) (fun c' => if c' = a then (cdC P ng ro N nt a).run ih else fun _ _ => .no) fun c' => ?_).imp fun T H e T' H' h => ?_
    · by_cases e1 : c' = a
      · subst e1; simp only [if_true]; exact iha
      · simp only [if_neg e1]; exact CodeOK.no
    · have h : @R0.rec (fun _ => R0) (fun e T' H' => @Ex.rec (fun _ => R0) (.ok .normal T' H') (fun id' => Bool.rec (motive := fun _ => R0) (.ok (.exit id') T' H') (.ok .normal T' H') (Nat.beq id' id)) (fun l => .ok (.goto l) T' H') (.ok .ret T' H') e) .no ((cdC P ng ro N nt a).run ih T H) = .ok e T' H' := h
      simp only [exX, if_true]
      cases hx : (cdC P ng ro N nt a).run ih T H with
      | no => rw [hx] at h; cases h
      | ok e1 T1 H1 =>
        rw [hx] at h
        cases e1 with
        | exit id' =>
          simp only []
          cases hb : Nat.beq id' id with
          | true => simp only [hb] at h; exact h
          | false => simp only [hb] at h; exact h
        | _ => exact h
  | scope a iha =>
    refine (st (.scope a) (fun c' => if c' = a then (cdC P ng ro N nt a).run ih else fun _ _ => .no) fun c' => ?_).imp fun T H e T' H' h => ?_
    · by_cases e1 : c' = a
      · subst e1; simp only [if_true]; exact iha
      · simp only [if_neg e1]; exact CodeOK.no
    · have h : @R0.rec (fun _ => R0) (fun e T' H' => @Ex.rec (fun _ => R0) (.ok .normal T' H') (fun id => .ok (.exit id) T' H') (fun _ => .no) (.ok .ret T' H') e) .no ((cdC P ng ro N nt a).run ih T H) = .ok e T' H' := h
      simp only [exX, if_true]
      cases hx : (cdC P ng ro N nt a).run ih T H with
      | no => rw [hx] at h; cases h
      | ok e1 T1 H1 =>
        rw [hx] at h
        cases e1 with
        | goto l => cases h
        | _ => exact h
  | loop a iha =>
    have key : ∀ n, CodeOK P env ro ng nt (.loop a) (loopN (cdC P ng ro N nt a) ih n) := fun n => by
      induction n with
      | zero => exact CodeOK.no
      | succ n ihn =>
        refine (st (.loop a) (fun c' => if c' = a then (cdC P ng ro N nt a).run ih else if c' = .loop a then loopN (cdC P ng ro N nt a) ih n else fun _ _ => .no) fun c' => ?_).imp fun T H e T' H' h => ?_
        · by_cases e1 : c' = a
          · subst e1; simp only [if_true]; exact iha
          · by_cases e2 : c' = .loop a
            · subst e2; simp only [if_neg e1, if_true]; exact ihn
            · simp only [if_neg e1, if_neg e2]; exact CodeOK.no
        · have hne : (if Code.loop a = a then (cdC P ng ro N nt a).run ih else loopN (cdC P ng ro N nt a) ih n) = loopN (cdC P ng ro N nt a) ih n := by
            have e1 : Code.loop a ≠ a := fun e => by
              have h1 : SizeOf.sizeOf (Code.loop a) = SizeOf.sizeOf a := by rw [e]
              simp at h1
            rw [if_neg e1]
          have h : @R0.rec (fun _ => R0) (fun e T' H' => @Ex.rec (fun _ => R0) (loopN (cdC P ng ro N nt a) ih n T' H') (fun id => .ok (.exit id) T' H') (fun l => .ok (.goto l) T' H') (.ok .ret T' H') e) .no ((cdC P ng ro N nt a).run ih T H) = .ok e T' H' := h
          simp only [exX, if_true]
          cases hx : (cdC P ng ro N nt a).run ih T H with
          | no => rw [hx] at h; cases h
          | ok e1 T1 H1 =>
            rw [hx] at h
            cases e1 with
            | normal => simp only [hne]; exact h
            | _ => exact h
    exact key N

/-! calls -/
noncomputable def resC (P : Program) : List ResultVar → Cl (TT AV → Heap → Option (List AV))
  | [] => ⟨fun _ _ => some []⟩
  | .tmp t :: l => ⟨fun T H => bO ((getF (Nat.succ t) t).run T) fun v => bO ((resC P l).run T H) fun vs => some (v :: vs)⟩
  | .cell a t :: l => ⟨fun T H => bO ((getF (Nat.succ a) a).run T) fun x => bO ((loadC P t).run H x) fun v => bO ((resC P l).run T H) fun vs => some (v :: vs)⟩
theorem resC_some {T : TT AV} {H : Heap} : ∀ {l : List ResultVar} {vs : List AV}, (resC P l).run T H = some vs → resA P T H l = some vs
  | [], vs, h => h
  | .tmp t :: l, vs, h => by
    simp only [resC] at h
    obtain ⟨v, h1, h⟩ := bO_some h
    obtain ⟨us, h2, h⟩ := bO_some h
    rw [getF_eq _ _ _ (Nat.lt_succ_self t)] at h1
    simp only [resA, h1, resC_some h2]
    exact h
  | .cell a t :: l, vs, h => by
    simp only [resC] at h
    obtain ⟨x, h1, h⟩ := bO_some h
    obtain ⟨v, h2, h⟩ := bO_some h
    obtain ⟨us, h3, h⟩ := bO_some h
    rw [getF_eq _ _ _ (Nat.lt_succ_self a)] at h1
    simp only [resA, h1, loadC_some h2, resC_some h3]
    exact h
noncomputable def oneL : List AV → AV := fun l => @List.rec AV (fun _ => AV) (.tu []) (fun v r _ => @List.rec AV (fun _ => AV) v (fun _ _ _ => .tu l) r) l
theorem oneL_eq (l : List AV) : oneL l = oneOf l := by
  cases l with
  | nil => rfl
  | cons v r => cases r <;> rfl
noncomputable def finC (rs : Cl (TT AV → Heap → Option (List AV))) (r : R0) : Option (AV × Heap) :=
  @R0.rec (fun _ => Option (AV × Heap)) (fun e T H => @Ex.rec (fun _ => Option (AV × Heap)) (bO (rs.run T H) fun vs => some (oneL vs, H)) (fun _ => none) (fun _ => none) (bO (rs.run T H) fun vs => some (oneL vs, H)) e) none r
noncomputable def bodyC (P : Program) (ng ro N : Nat) (fn : Func) (c : Code) : Cl (Fns → List AV → Heap → Option (AV × Heap)) :=
  ⟨fun ih args H => Bool.rec (motive := fun _ => Option (AV × Heap)) none (finC (resC P fn.results.toList) ((cdC P ng ro N fn.ntmps c).run ih (argT 0 args .e) H)) (Nat.ble args.length fn.ntmps)⟩
noncomputable def funC (P : Program) (ng ro N : Nat) (f : FuncId) : Cl (Fns → List AV → Heap → Option (AV × Heap)) :=
  match P.funcs[f]? with
  | some fn => match fn.body with
    | some c => bodyC P ng ro N fn c
    | none => ⟨fun _ _ _ => none⟩
  | none => ⟨fun _ _ _ => none⟩
noncomputable def caC (P : Program) (ng ro N : Nat) (S : Sums) (f : FuncId) : Cl (Fns → List AV → Heap → Option (AV × Heap)) :=
  match S f with
  | some g => ⟨fun ih args H => Option.rec (motive := fun _ => Option (AV × Heap)) ((funC P ng ro N f).run ih args H) some (g args H)⟩
  | none => funC P ng ro N f
noncomputable def exF (P : Program) (ng ro N : Nat) (ih : Fns) : Fns := ⟨fun nt c T H => (cdC P ng ro N nt c).run ih T H, ih.ca, ih.yi⟩
theorem funC_some {ih : Fns} {f : FuncId} {args : List AV} {H : Heap} {r : AV × Heap} (h : (funC P ng ro N f).run ih args H = some r) : caB P (exF P ng ro N ih) f args H = some r := by
  unfold funC at h
  unfold caB
  split at h
  · rename_i fn hfn
    split at h
    · rename_i c hc
      have h : Bool.rec (motive := fun _ => Option (AV × Heap)) none (finC (resC P fn.results.toList) ((cdC P ng ro N fn.ntmps c).run ih (argT 0 args .e) H)) (Nat.ble args.length fn.ntmps) = some r := h
      obtain ⟨h1, h⟩ := brec_some h
      have h1 := ble_true h1
      have hnt : args.length + (fn.ntmps - args.length) = fn.ntmps := by omega
      simp only [hfn, hc, hnt]
      show finX P fn ((cdC P ng ro N fn.ntmps c).run ih (argT 0 args .e) H) = some r
      generalize (cdC P ng ro N fn.ntmps c).run ih (argT 0 args .e) H = R at h ⊢
      cases R with
      | no => cases h
      | ok e T1 H1 =>
        have fin : bO ((resC P fn.results.toList).run T1 H1) (fun vs => some (oneL vs, H1)) = some r → (match resA P T1 H1 fn.results.toList with | some vs => some (oneOf vs, H1) | none => none) = some r := fun h => by
          obtain ⟨vs, h2, h⟩ := bO_some h
          rw [oneL_eq] at h
          simp only [resC_some h2]
          exact h
        cases e with
        | normal => exact fin h
        | ret => exact fin h
        | _ => cases h
    · cases h
  · cases h
theorem caC_some {ih : Fns} {f : FuncId} {args : List AV} {H : Heap} {r : AV × Heap} (h : (caC P ng ro N S f).run ih args H = some r) : caX P S (exF P ng ro N ih) f args H = some r := by
  unfold caC at h
  unfold caX
  cases hs : S f with
  | none => rw [hs] at h; exact funC_some h
  | some g =>
    rw [hs] at h
    have h : Option.rec (motive := fun _ => Option (AV × Heap)) ((funC P ng ro N f).run ih args H) some (g args H) = some r := h
    simp only
    cases hg : g args H with
    | none => rw [hg] at h; exact funC_some h
    | some q => rw [hg] at h; exact h
/-- the quick interpreter, with so much fuel for calls within calls -/
noncomputable def fnsC (P : Program) (ng ro N : Nat) (S : Sums) (n : Nat) : Fns :=
  Nat.rec ⟨fun _ _ _ _ => .no, fun _ _ _ => none, fun _ _ _ => none⟩ (fun _ ih => ⟨fun nt c T H => (cdC P ng ro N nt c).run ih T H, fun f args H => (caC P ng ro N S f).run ih args H, yiX ro (exF P ng ro N ih)⟩) n
/-- ████ THE QUICK INTERPRETER IS RIGHT ████ -/
theorem fnsC_ok (hN : NamesOK P) (hm : P.follows .mixedOrders = true) (hS : SumsOK P env ro ng S) : ∀ n, FnsOK P env ro ng (fnsC P ng ro N S n)
  | 0 => by
    refine ⟨fun f args us H w ρ v H' _ _ _ h => ?_, fun l args us H w ρ v H' _ _ _ h => ?_, fun rd nt n0 code T H ρ a w e T' H' _ _ _ _ _ _ h => ?_⟩
    · have h' : (none : Option (AV × Heap)) = some (v, H') := h
      cases h'
    · have h' : (none : Option (AV × Heap)) = some (v, H') := h
      cases h'
    · have h' : R0.no = R0.ok e T' H' := h
      cases h'
  | n + 1 => by
    have ih := fnsC_ok hN hm hS n
    have hex : ExOK P env ro ng (exF P ng ro N (fnsC P ng ro N S n)).ex := ExOK.of_code fun nt c => cdC_ok hN hm ih.ca ih.yi c
    have hF : FnsOK P env ro ng (exF P ng ro N (fnsC P ng ro N S n)) := ⟨ih.ca, ih.yi, hex⟩
    exact ⟨fun f args us H w ρ v H' h1 h2 h3 h4 => caX_ok hS hF f args us H w ρ v H' h1 h2 h3 (caC_some h4), yiX_ok hF, hex⟩
end
end Go.Ai
