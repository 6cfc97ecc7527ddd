/- Frames as nested rows of three: read and written by projections. -/
import Derived.Test.YtobdajealbhjmaaGreatDoorAf
import Derived.Test.YtobdajealbhjmaaGreatDoorAe
namespace Go.Ai
noncomputable def inl {α β : Type} (c : Cl α) (f : α → Cl β) : Cl β := Cl.rec (motive := fun _ => Cl β) f c
theorem inl_eq {α β : Type} (c : Cl α) (f : α → Cl β) : inl c f = f c.run := rfl
structure Nd (α : Type) where
  l : α
  v : Option AV
  r : α
def LT : Nat → Type := fun d => Nat.rec Unit (fun _ α => Nd α) d
noncomputable def mtQ : (d : Nat) → LT d := fun d => Nat.rec (motive := LT) () (fun _ m => (⟨m, none, m⟩ : Nd _)) d
noncomputable def ttQ : (d : Nat) → LT d → TT AV := fun d => Nat.rec (motive := fun d => LT d → TT AV) (fun _ => .e) (fun _ ih t => .n (ih (Nd.l t)) (Nd.v t) (ih (Nd.r t))) d
noncomputable def ofQ : (d : Nat) → TT AV → LT d := fun d => Nat.rec (motive := fun d => TT AV → LT d) (fun _ => ()) (fun d ih T => TT.rec (motive := fun _ => LT (Nat.succ d)) (mtQ (Nat.succ d)) (fun l v r _ _ => (⟨ih l, v, ih r⟩ : Nd _)) T) d
theorem ofQ_tt : ∀ (d : Nat) (f : LT d), ofQ d (ttQ d f) = f
  | 0, () => rfl
  | d + 1, ⟨l, v, r⟩ => by
    show (⟨ofQ d (ttQ d l), v, ofQ d (ttQ d r)⟩ : Nd (LT d)) = ⟨l, v, r⟩
    rw [ofQ_tt d l, ofQ_tt d r]
theorem tt_mt : ∀ (d k : Nat), (ttQ d (mtQ d)).get k = none
  | 0, k => TT.get_e k
  | d + 1, k => by
    show (TT.n (ttQ d (mtQ d)) none (ttQ d (mtQ d))).get k = none
    rw [TT.get_n]
    split
    · rfl
    · split <;> exact tt_mt d _
theorem tt_of : ∀ (d : Nat) (T : TT AV) (k : Nat) (v : AV), (ttQ d (ofQ d T)).get k = some v → T.get k = some v
  | 0, T, k, v, h => by
    have h : (TT.e : TT AV).get k = some v := h
    rw [TT.get_e] at h; cases h
  | d + 1, .e, k, v, h => by
    have h : (ttQ (d + 1) (mtQ (d + 1))).get k = some v := h
    rw [tt_mt] at h; cases h
  | d + 1, .n l o r, k, v, h => by
    have h : (TT.n (ttQ d (ofQ d l)) o (ttQ d (ofQ d r))).get k = some v := h
    rw [TT.get_n] at h ⊢
    split
    · rename_i e; rw [if_pos e] at h; exact h
    · rename_i e
      rw [if_neg e] at h
      split
      · rename_i e2; rw [if_pos e2] at h; exact tt_of d _ _ _ h
      · rename_i e2; rw [if_neg e2] at h; exact tt_of d _ _ _ h
noncomputable def gqv {α : Type} : Cl (Nd α → Option AV) := ⟨fun t => @Nd.rec α (fun _ => Option AV) (fun _ v _ => v) t⟩
noncomputable def gql {α : Type} (c : Cl (α → Option AV)) : Cl (Nd α → Option AV) := Cl.rec (motive := fun _ => Cl (Nd α → Option AV)) (fun g => ⟨fun t => @Nd.rec α (fun _ => Option AV) (fun l _ _ => g l) t⟩) c
noncomputable def gqr {α : Type} (c : Cl (α → Option AV)) : Cl (Nd α → Option AV) := Cl.rec (motive := fun _ => Cl (Nd α → Option AV)) (fun g => ⟨fun t => @Nd.rec α (fun _ => Option AV) (fun _ _ r => g r) t⟩) c
noncomputable def sqv {α : Type} : Cl (Nd α → AV → Nd α) := ⟨fun t x => @Nd.rec α (fun _ => Nd α) (fun l _ r => ⟨l, some x, r⟩) t⟩
noncomputable def sql {α : Type} (c : Cl (α → AV → α)) : Cl (Nd α → AV → Nd α) := Cl.rec (motive := fun _ => Cl (Nd α → AV → Nd α)) (fun g => ⟨fun t x => @Nd.rec α (fun _ => Nd α) (fun l v r => ⟨g l x, v, r⟩) t⟩) c
noncomputable def sqr {α : Type} (c : Cl (α → AV → α)) : Cl (Nd α → AV → Nd α) := Cl.rec (motive := fun _ => Cl (Nd α → AV → Nd α)) (fun g => ⟨fun t x => @Nd.rec α (fun _ => Nd α) (fun l v r => ⟨l, v, g r x⟩) t⟩) c
noncomputable def getQ : (d : Nat) → Nat → Cl (LT d → Option AV) := fun d =>
  Nat.rec (motive := fun d => Nat → Cl (LT d → Option AV)) (fun _ => ⟨fun _ => none⟩)
    (fun d ih k => Nat.rec (motive := fun _ => Cl (LT (Nat.succ d) → Option AV)) gqv
      (fun j _ => Nat.rec (motive := fun _ => Nat → Cl (LT (Nat.succ d) → Option AV)) (fun m => gql (ih m)) (fun _ _ m => gqr (ih m)) (Nat.mod j 2) (Nat.div j 2)) k) d
theorem getQ_eq : ∀ (d k : Nat) (f : LT d), (getQ d k).run f = (ttQ d f).get k
  | 0, k, f => (TT.get_e k).symm
  | d + 1, 0, ⟨l, v, r⟩ => rfl
  | d + 1, j + 1, ⟨l, v, r⟩ => by
    show (Cl.run (Nat.rec (motive := fun _ => Nat → Cl (LT (Nat.succ d) → Option AV)) (fun m => gql (getQ d m)) (fun _ _ m => gqr (getQ d m)) (j % 2) (j / 2))) (⟨l, v, r⟩ : Nd (LT d)) = (TT.n (ttQ d l) v (ttQ d r)).get (j + 1)
    rw [TT.get_n, if_neg (by omega)]
    rcases Nat.mod_two_eq_zero_or_one j with h | h
    · rw [h, if_neg (by omega)]
      rw [show (j + 1) / 2 = j / 2 by omega]
      exact getQ_eq d (j / 2) l
    · rw [h, if_pos (by omega)]
      exact getQ_eq d (j / 2) r
noncomputable def setQ : (d : Nat) → Nat → Cl (LT d → AV → LT d) := fun d =>
  Nat.rec (motive := fun d => Nat → Cl (LT d → AV → LT d)) (fun _ => ⟨fun t _ => t⟩)
    (fun d ih k => Nat.rec (motive := fun _ => Cl (LT (Nat.succ d) → AV → LT (Nat.succ d))) sqv
      (fun j _ => Nat.rec (motive := fun _ => Nat → Cl (LT (Nat.succ d) → AV → LT (Nat.succ d))) (fun m => sql (ih m)) (fun _ _ m => sqr (ih m)) (Nat.mod j 2) (Nat.div j 2)) k) d
theorem setQ_eq : ∀ (d k : Nat) (f : LT d) (x : AV), k < 2 ^ d - 1 → ttQ d ((setQ d k).run f x) = (ttQ d f).set x k
  | 0, k, f, x, h => by simp at h
  | d + 1, 0, ⟨l, v, r⟩, x, h => rfl
  | d + 1, j + 1, ⟨l, v, r⟩, x, h => by
    have hlt : j / 2 < 2 ^ d - 1 := by rw [Nat.pow_succ] at h; omega
    show ttQ (d + 1) ((Cl.run (Nat.rec (motive := fun _ => Nat → Cl (LT (Nat.succ d) → AV → LT (Nat.succ d))) (fun m => sql (setQ d m)) (fun _ _ m => sqr (setQ d m)) (j % 2) (j / 2))) (⟨l, v, r⟩ : Nd (LT d)) x) = (TT.n (ttQ d l) v (ttQ d r)).set x (j + 1)
    rw [TT.set_n, if_neg (by omega)]
    rcases Nat.mod_two_eq_zero_or_one j with h2 | h2
    · rw [h2, if_neg (by omega)]
      rw [show (j + 1) / 2 = j / 2 by omega]
      exact congrArg (fun z => TT.n z v (ttQ d r)) (setQ_eq d (j / 2) l x hlt)
    · rw [h2, if_pos (by omega)]
      exact congrArg (fun z => TT.n (ttQ d l) v z) (setQ_eq d (j / 2) r x hlt)
theorem ofQ_single : ∀ (d k g : Nat) (x : AV), k < g → k < 2 ^ d - 1 → ofQ d (TT.single x g k) = (setQ d k).run (mtQ d) x
  | 0, k, g, x, _, h => by simp at h
  | d + 1, k, 0, x, hg, h => by omega
  | d + 1, 0, g + 1, x, _, h => by
    rw [TT.single_succ, if_pos rfl]
    have e : ∀ d, ofQ d TT.e = mtQ d := fun d => by cases d <;> rfl
    show (⟨ofQ d .e, some x, ofQ d .e⟩ : Nd (LT d)) = ⟨mtQ d, some x, mtQ d⟩
    rw [e]
  | d + 1, j + 1, g + 1, x, hg, h => by
    have hlt : j / 2 < 2 ^ d - 1 := by rw [Nat.pow_succ] at h; omega
    have e : ∀ d, ofQ d TT.e = mtQ d := fun d => by cases d <;> rfl
    rw [TT.single_succ, if_neg (by omega)]
    show _ = (Cl.run (Nat.rec (motive := fun _ => Nat → Cl (LT (Nat.succ d) → AV → LT (Nat.succ d))) (fun m => sql (setQ d m)) (fun _ _ m => sqr (setQ d m)) (j % 2) (j / 2))) (⟨mtQ d, none, mtQ d⟩ : Nd (LT d)) x
    rcases Nat.mod_two_eq_zero_or_one j with h2 | h2
    · rw [h2, if_neg (by omega)]
      show (⟨ofQ d (TT.single x g ((j + 1) / 2)), none, ofQ d .e⟩ : Nd (LT d)) = ⟨(setQ d (j / 2)).run (mtQ d) x, none, mtQ d⟩
      rw [show (j + 1) / 2 = j / 2 by omega, ofQ_single d _ _ _ (by omega) hlt, e]
    · rw [h2, if_pos (by omega)]
      show (⟨ofQ d .e, none, ofQ d (TT.single x g ((j + 1 - 1) / 2))⟩ : Nd (LT d)) = ⟨mtQ d, none, (setQ d (j / 2)).run (mtQ d) x⟩
      rw [show (j + 1 - 1) / 2 = j / 2 by omega, ofQ_single d _ _ _ (by omega) hlt, e]
theorem ofQ_set : ∀ (d k : Nat) (T : TT AV) (x : AV), k < 2 ^ d - 1 → ofQ d (T.set x k) = (setQ d k).run (ofQ d T) x
  | 0, k, T, x, h => by simp at h
  | d + 1, k, .e, x, h => by rw [TT.set_e]; exact ofQ_single (d + 1) k (k + 1) x (Nat.lt_succ_self _) h
  | d + 1, 0, .n l v r, x, h => rfl
  | d + 1, j + 1, .n l v r, x, h => by
    have hlt : j / 2 < 2 ^ d - 1 := by rw [Nat.pow_succ] at h; omega
    rw [TT.set_n, if_neg (by omega)]
    show _ = (Cl.run (Nat.rec (motive := fun _ => Nat → Cl (LT (Nat.succ d) → AV → LT (Nat.succ d))) (fun m => sql (setQ d m)) (fun _ _ m => sqr (setQ d m)) (j % 2) (j / 2))) (⟨ofQ d l, v, ofQ d r⟩ : Nd (LT d)) x
    rcases Nat.mod_two_eq_zero_or_one j with h2 | h2
    · rw [h2, if_neg (by omega)]
      show (⟨ofQ d (l.set x ((j + 1) / 2)), v, ofQ d r⟩ : Nd (LT d)) = ⟨(setQ d (j / 2)).run (ofQ d l) x, v, ofQ d r⟩
      rw [show (j + 1) / 2 = j / 2 by omega, ofQ_set d _ _ _ hlt]
    · rw [h2, if_pos (by omega)]
      show (⟨ofQ d l, v, ofQ d (r.set x ((j + 1 - 1) / 2))⟩ : Nd (LT d)) = ⟨ofQ d l, v, (setQ d (j / 2)).run (ofQ d r) x⟩
      rw [show (j + 1 - 1) / 2 = j / 2 by omega, ofQ_set d _ _ _ hlt]
abbrev FT := LT 9
noncomputable def tt : FT → TT AV := ttQ 9
noncomputable def gQ (k : Nat) : Cl (FT → Option AV) := getQ 9 k
noncomputable def sQ (k : Nat) : Cl (FT → AV → FT) := setQ 9 k
theorem gQ_eq (k : Nat) (T : FT) : (gQ k).run T = (tt T).get k := getQ_eq 9 k T
theorem sQ_eq {k : Nat} (T : FT) (x : AV) (h : k < 511) : tt ((sQ k).run T x) = (tt T).set x k := setQ_eq 9 k T x (by omega)
theorem FR.of_tt {ρ : Ren} {env : Nat → Value} {T : TT AV} {tmps : Array Value} (h : FR ρ env T tmps) : FR ρ env (tt (ofQ 9 T)) tmps := fun t v e => h t v (tt_of 9 T t v e)
end Go.Ai
/- The quick interpreter over frames as nested rows. -/
namespace Go.Ai
inductive RQ where
  | ok (e : Ex) (T : FT) (H : Heap)
  | no
noncomputable def toR (r : RQ) : R0 := match r with
  | .ok e T H => .ok e (tt T) H
  | .no => .no
section
variable {P : Program} {env : Nat → Value} {ng ro nt N : Nat} {S : Sums} {H : Heap} {T : FT} {ops : Array Oper}
noncomputable def evCQ (ng : Nat) (x : Operand) : Cl (FT → Option AV) :=
  match x with
  | .tmp t => gQ t
  | .const v => ⟨fun _ => ofV v⟩
  | .global g => bif Nat.blt g ng then ⟨fun _ => some (.p g 0)⟩ else ⟨fun _ => none⟩
  | .func f => ⟨fun _ => some (.fn (.func f) [] [])⟩
theorem evCQ_eq (x : Operand) : (evCQ ng x).run T = ev ng (tt T) x := by
  cases x with
  | tmp t => exact gQ_eq _ _
  | const v => rfl
  | global g => simp only [evCQ, ev]; cases Nat.blt g ng <;> rfl
  | func f => rfl
noncomputable def evsKQ (a : Cl (FT → Option AV)) (b : Cl (FT → Option (List AV))) : Cl (FT → Option (List AV)) :=
  (inl (b) fun z0 => inl (a) fun z1 => ⟨fun T => Option.rec (motive := fun _ => Option (List AV)) none (fun v => Option.rec (motive := fun _ => Option (List AV)) none (fun vs => some (v :: vs)) (z0 T)) (z1 T)⟩)
noncomputable def evsCQ (ng : Nat) : List Operand → Cl (FT → Option (List AV))
  | [] => ⟨fun _ => some []⟩
  | x :: l => evsKQ (evCQ ng x) (evsCQ ng l)
theorem evsCQ_eq : ∀ (l : List Operand), (evsCQ ng l).run T = evs ng (tt T) l
  | [] => rfl
  | x :: l => by
    show Option.rec (motive := fun _ => Option (List AV)) none (fun v => Option.rec (motive := fun _ => Option (List AV)) none (fun vs => some (v :: vs)) ((evsCQ ng l).run T)) ((evCQ ng x).run T) = _
    rw [evCQ_eq, evsCQ_eq l, evs]
    cases ev ng (tt T) x with
    | none => rfl
    | some v => cases evs ng (tt T) l <;> rfl

noncomputable def storeCQ (P : Program) (ng ro : Nat) (t : TypeId) (x y : Operand) : Cl (Heap → FT → Option Heap) :=
  match P.info? t with
  | some i => bif Nat.beq i.size 1 then
      (inl (evCQ ng x) fun z0 => inl (evCQ ng y) fun z1 => ⟨fun H T => bO (z0 T) fun p => onPh p fun b off => Bool.rec (motive := fun _ => Option Heap) none (bO (z1 T) fun v => Bool.rec (motive := fun _ => Option Heap) none (bO (fget H.t b) fun o => bO (write1 o off v) fun o' => some ⟨fset H.t o' b, H.nx⟩) (oneF v)) (Nat.ble ro b)⟩)
    else (inl (evCQ ng x) fun z0 => inl (evCQ ng y) fun z1 => ⟨fun H T => bO (z0 T) fun p => onPh p fun b off => Bool.rec (motive := fun _ => Option Heap) none (bO (z1 T) fun v => bO (fget H.t b) fun o => (fun ch => Bool.rec (motive := fun _ => Option Heap) none (bO (writeF o off ch) fun o' => some ⟨fset H.t o' b, H.nx⟩) (andF (Nat.beq (chLen ch) i.size) (oneC ch))) (vlF v [v])) (Nat.ble ro b)⟩)
  | none => ⟨fun _ _ => none⟩
noncomputable def appCQ (P : Program) (ng ro : Nat) (st xt : TypeId) (s x : Operand) : Cl (FT → Heap → Option (AV × Heap)) :=
  match sliceElem P st with
  | some e => match elemZ P e with
    | some (z, bz) => bif rowLike P xt then (inl (evCQ ng s) fun z0 => inl (evCQ ng x) fun z1 => ⟨fun T H => bO (z0 T) fun sv => bO (z1 T) fun xv => bO (srcLenF xv) fun n => appD sv ro z.length bz n (srcChF xv H z.length n) H⟩) else ⟨fun _ _ => none⟩
    | none => ⟨fun _ _ => none⟩
  | none => ⟨fun _ _ => none⟩
noncomputable def partsKQ (i : Nat) (a : Cl (FT → Option AV)) (b : Cl (FT → Option (List (Nat × AV)))) : Cl (FT → Option (List (Nat × AV))) := (inl (a) fun z0 => inl (b) fun z1 => ⟨fun T => bO (z0 T) fun v => bO (z1 T) fun vs => some ((i, v) :: vs)⟩)
noncomputable def partsCQ (ng : Nat) : List (Nat × Operand) → Cl (FT → Option (List (Nat × AV)))
  | [] => ⟨fun _ => some []⟩
  | (i, x) :: l => partsKQ i (evCQ ng x) (partsCQ ng l)
theorem partsCQ_eq : ∀ (l : List (Nat × Operand)), (partsCQ ng l).run T = partsA ng (tt T) l
  | [] => rfl
  | (i, x) :: l => by
    show bO ((evCQ ng x).run T) (fun v => bO ((partsCQ ng l).run T) fun vs => some ((i, v) :: vs)) = _
    rw [evCQ_eq, partsCQ_eq l, partsA]
    cases ev ng (tt T) x with
    | none => rfl
    | some v => cases partsA ng (tt T) l <;> rfl
noncomputable def bsCQ (P : Program) (ng : Nat) (t : TypeId) (len : Nat) (ps : Array (Nat × Operand)) : Cl (FT → Heap → Option (AV × Heap)) :=
  match sliceElem P t with
  | some e => match elemZ P e with
    | some (z, _) => match isU8 P e with
      | some u => bif Nat.ble (Nat.mul len z.length) 16777216 && oneB P e z.length then
          (inl (partsCQ ng ps.toList) fun z0 => ⟨fun T H => bO (z0 T) fun l => bO (fillF (plF z.length) l (flat z len)) fun cs => bO (rowF u z.length cs) fun o => some (.sl H.nx 0 len len false, ⟨fset H.t o H.nx, Nat.succ H.nx⟩)⟩)
        else ⟨fun _ _ => none⟩
      | none => ⟨fun _ _ => none⟩
    | none => ⟨fun _ _ => none⟩
  | none => ⟨fun _ _ => none⟩
noncomputable def bxCQ (ng : Nat) (x : Operand) : Cl (FT → Heap → Option (AV × Heap)) := (inl (evCQ ng x) fun z0 => ⟨fun T H => bO (z0 T) fun v => some (.p H.nx 0, ⟨fset H.t (boxF v [v]) H.nx, Nat.succ H.nx⟩)⟩)
noncomputable def bdCQ (ng : Nat) : Option Operand → Cl (FT → Option (Option Nat))
  | none => ⟨fun _ => some none⟩
  | some y => (inl (evCQ ng y) fun z0 => ⟨fun T => bO (z0 T) natV⟩)
noncomputable def sliceCQ (P : Program) (ng : Nat) (t : TypeId) (x : Operand) (lo hi mx : Option Operand) : Cl (Heap → FT → Option AV) :=
  match P.underlying t with
  | some (.slice e) => match P.info? e with
    | some i => (inl (evCQ ng x) fun z0 => inl (bdCQ ng lo) fun z1 => inl (bdCQ ng hi) fun z2 => inl (bdCQ ng mx) fun z3 => ⟨fun _ T => bO (z0 T) fun v => bO (z1 T) fun l => bO (z2 T) fun h => bO (z3 T) fun m => slF v i.size l h m⟩)
    | none => ⟨fun _ _ => none⟩
  | _ => ⟨fun _ _ => none⟩
noncomputable def buildCQ (P : Program) (ng : Nat) (t : TypeId) (ps : Array (Nat × Operand)) : Cl (Heap → FT → Option AV) :=
  match shapeOf P t with
  | some (z, p, none) => (inl (partsCQ ng ps.toList) fun z0 => ⟨fun _ T => bO (z0 T) fun l => bO (fillF (fun i => p[i]?) l z) fun cs => some (.ag cs)⟩)
  | some (z, _, some n) => (inl (partsCQ ng ps.toList) fun z0 => ⟨fun _ T => bO (z0 T) fun l => bO (fillF (fun i => some (i * n, n)) l z) fun cs => some (.ag cs)⟩)
  | none => ⟨fun _ _ => none⟩
noncomputable def lookCQ (P : Program) (ng : Nat) (t : TypeId) (x y : Operand) (ok : Bool) : Cl (Heap → FT → Option AV) :=
  match P.underlying t with
  | some (.map kt et) => match keyKind P kt with
    | some (.int _) => (inl (evCQ ng x) fun z0 => inl (evCQ ng y) fun z1 => ⟨fun H T => bO (z0 T) fun m => bO (z1 T) fun k => onM m fun b => onI k fun kk a => bO (fget H.t b) fun o => onMp o fun es => bO (findF kk a es) fun r =>
        Option.rec (motive := fun _ => Option AV) (bO (zeroV P et) fun z => some (finV ok z false)) (fun v => some (finV ok v true)) r⟩)
    | _ => ⟨fun _ _ => none⟩
  | _ => ⟨fun _ _ => none⟩
inductive OpKQ where
  | mv (c : Cl (FT → Option AV))
  | rd (c : Cl (Heap → FT → Option AV))
  | wr (c : Cl (Heap → FT → Option Heap))
  | gen (c : Cl (Fns → FT → Heap → Option (AV × Heap)))
noncomputable def genXQ (P : Program) (ng ro : Nat) (o : Oper) : OpKQ := .gen ⟨fun ih T H => opX P ng ro ih.ca ih.yi o (tt T) H⟩
noncomputable def genMQ (c : Cl (FT → Heap → Option (AV × Heap))) : OpKQ := .gen (inl (c) fun z0 => ⟨fun _ T H => z0 T H⟩)
noncomputable def alCQ (P : Program) (t : TypeId) : Cl (FT → Heap → Option (AV × Heap)) := (inl (alC P t) fun z0 => ⟨fun _ H => z0 .e H⟩)
noncomputable def kindCQ (P : Program) (ng ro : Nat) (o : Oper) : OpKQ :=
  match o.op with
  | .move x => .mv (evCQ ng x)
  | .assign x => .mv (evCQ ng x)
  | .pick c x y => .rd (inl (evCQ ng x) fun z0 => inl (evCQ ng y) fun z1 => inl (evCQ ng c) fun z2 => ⟨fun _ T => Option.rec (motive := fun _ => Option AV) none (fun v => pickF v (z0 T) (z1 T)) (z2 T)⟩)
  | .load t x => .rd (inl (loadC P t) fun z0 => inl (evCQ ng x) fun z1 => ⟨fun H T => Option.rec (motive := fun _ => Option AV) none (fun v => z0 H v) (z1 T)⟩)
  | .binOp op t x y _ => match op with
    | .quo | .rem | .and | .or | .xor | .shl | .shr => .rd (inl (bitC op) fun z0 => inl (evCQ ng y) fun z1 => inl (evCQ ng x) fun z2 => ⟨fun _ T => Option.rec (motive := fun _ => Option AV) none (fun u => Option.rec (motive := fun _ => Option AV) none (fun v => z0 u v) (z1 T)) (z2 T)⟩)
    | _ => .rd (inl (binC P op t) fun z0 => inl (evCQ ng y) fun z1 => inl (evCQ ng x) fun z2 => ⟨fun _ T => Option.rec (motive := fun _ => Option AV) none (fun u => Option.rec (motive := fun _ => Option AV) none (fun v => z0 u v) (z1 T)) (z2 T)⟩)
  | .unOp .not _ x => .rd (inl (evCQ ng x) fun z0 => ⟨fun _ T => Option.rec (motive := fun _ => Option AV) none (fun v => onB v fun p => some (.b (notF p))) (z0 T)⟩)
  | .fieldAddr s x f => .rd (inl (fieldAddrC P s f) fun z0 => inl (evCQ ng x) fun z1 => ⟨fun _ T => Option.rec (motive := fun _ => Option AV) none (fun v => z0 v) (z1 T)⟩)
  | .field t x f => .rd (inl (fieldC P t f) fun z0 => inl (evCQ ng x) fun z1 => ⟨fun _ T => Option.rec (motive := fun _ => Option AV) none (fun v => z0 v) (z1 T)⟩)
  | .indexAddr t x y => .rd (inl (indexAddrC P t) fun z0 => inl (evCQ ng y) fun z1 => inl (evCQ ng x) fun z2 => ⟨fun _ T => Option.rec (motive := fun _ => Option AV) none (fun u => Option.rec (motive := fun _ => Option AV) none (fun v => z0 u v) (z1 T)) (z2 T)⟩)
  | .extract x i => .rd (inl (evCQ ng x) fun z0 => ⟨fun _ T => Option.rec (motive := fun _ => Option AV) none (fun v => onTu v fun l => nth l i) (z0 T)⟩)
  | .nilCheck x => .rd (inl (evCQ ng x) fun z0 => ⟨fun _ T => Option.rec (motive := fun _ => Option AV) none (fun v => nilF v) (z0 T)⟩)
  | .convert s d x => .rd (inl (convC P s d) fun z0 => inl (evCQ ng x) fun z1 => ⟨fun H T => Option.rec (motive := fun _ => Option AV) none (fun v => z0 H v) (z1 T)⟩)
  | .alloc t => genMQ (alCQ P t)
  | .box _ x => genMQ (bxCQ ng x)
  | .buildSlice t len ps => genMQ (bsCQ P ng t len ps)
  | .makeSlice .. => .gen ⟨fun _ T H => Option.rec (motive := fun _ => Option (AV × Heap)) none (fun p => Prod.rec (motive := fun _ => Option (AV × Heap)) (fun ob mk => some (Mk.val mk H.nx, ⟨fset H.t ob H.nx, Nat.succ H.nx⟩)) p) (aal P ng (tt T) o)⟩
  | .store t x y => .wr (storeCQ P ng ro t x y)
  | .call c => match c.callee with
    | .builtin .len => match c.args.toList, c.argTypes.toList with
      | [x], [t] => .rd (inl (lenC P t) fun z0 => inl (evCQ ng x) fun z1 => ⟨fun H T => Option.rec (motive := fun _ => Option AV) none (fun v => z0 H v) (z1 T)⟩)
      | _, _ => genXQ P ng ro o
    | .builtin .append => match c.args.toList, c.argTypes.toList with
      | [s, x], [st, xt] => genMQ (appCQ P ng ro st xt s x)
      | _, _ => genXQ P ng ro o
    | .builtin .copy => .gen ⟨fun _ T H => wCall P ng ro H (tt T) c⟩
    | .value (.func g) => bif hasBody P g then .gen (inl (evsCQ ng c.args.toList) fun z0 => ⟨fun ih T H => bO (z0 T) fun args => ih.ca g args H⟩) else genXQ P ng ro o
    | _ => genXQ P ng ro o
  | .slice t x lo hi mx => .rd (sliceCQ P ng t x lo hi mx)
  | .build t ps => .rd (buildCQ P ng t ps)
  | .lookup t x y ok => .rd (lookCQ P ng t x y ok)
  | _ => genXQ P ng ro o

theorem ev_same (x : Operand) (T : FT) : (evCQ ng x).run T = (evC ng x).run (tt T) := by rw [evCQ_eq, evC_eq]
theorem evs_same (l : List Operand) (T : FT) : (evsCQ ng l).run T = (evsC ng l).run (tt T) := by rw [evsCQ_eq, evsC_eq]
theorem parts_same (l : List (Nat × Operand)) (T : FT) : (partsCQ ng l).run T = (partsC ng l).run (tt T) := by rw [partsCQ_eq, partsC_eq]
theorem bd_same (x : Option Operand) (T : FT) : (bdCQ ng x).run T = (bdC ng x).run (tt T) := by
  cases x with
  | none => rfl
  | some y =>
    show bO ((evCQ ng y).run T) natV = bO ((evC ng y).run (tt T)) natV
    rw [ev_same]
def SameK : OpKQ → OpK → Prop
  | .mv c, .mv c' => ∀ T, c.run T = c'.run (tt T)
  | .rd c, .rd c' => ∀ H T, c.run H T = c'.run H (tt T)
  | .wr c, .wr c' => ∀ H T, c.run H T = c'.run H (tt T)
  | .gen c, .gen c' => ∀ ih T H, c.run ih T H = c'.run ih (tt T) H
  | _, _ => False
theorem store_same (t : TypeId) (x y : Operand) (H : Heap) (T : FT) : (storeCQ P ng ro t x y).run H T = (storeC P ng ro t x y).run H (tt T) := by
  unfold storeCQ storeC
  cases hi : P.info? t with
  | none => rfl
  | some i =>
    simp only []
    generalize Nat.beq i.size 1 = b
    cases b <;> simp only [cond_true, cond_false, inl_eq, ev_same]
theorem app_same (st xt : TypeId) (s x : Operand) (T : FT) (H : Heap) : (appCQ P ng ro st xt s x).run T H = (appC P ng ro st xt s x).run (tt T) H := by
  unfold appCQ appC
  generalize sliceElem P st = a
  cases a with
  | none => rfl
  | some e =>
    simp only []
    generalize elemZ P e = b
    cases b with
    | none => rfl
    | some z =>
      simp only []
      generalize rowLike P xt = c
      cases c <;> simp only [cond_true, cond_false, inl_eq, ev_same]
theorem bs_same (t : TypeId) (len : Nat) (ps : Array (Nat × Operand)) (T : FT) (H : Heap) : (bsCQ P ng t len ps).run T H = (bsC P ng t len ps).run (tt T) H := by
  unfold bsCQ bsC
  generalize sliceElem P t = a
  cases a with
  | none => rfl
  | some e =>
    simp only []
    generalize elemZ P e = b
    cases b with
    | none => rfl
    | some z =>
      simp only []
      generalize isU8 P e = c
      cases c with
      | none => rfl
      | some u =>
        simp only []
        generalize (Nat.ble (Nat.mul len z.1.length) 16777216 && oneB P e z.1.length) = d
        cases d <;> simp only [cond_true, cond_false, inl_eq, parts_same]
theorem slice_same (t : TypeId) (x : Operand) (lo hi mx : Option Operand) (H : Heap) (T : FT) : (sliceCQ P ng t x lo hi mx).run H T = (sliceC P ng t x lo hi mx).run H (tt T) := by
  unfold sliceCQ sliceC
  generalize P.underlying t = a
  cases a with
  | none => rfl
  | some d =>
    cases d with
    | slice e =>
      simp only []
      generalize P.info? e = b
      cases b with
      | none => rfl
      | some i => simp only [inl_eq, ev_same, bd_same]
    | _ => rfl
theorem build_same (t : TypeId) (ps : Array (Nat × Operand)) (H : Heap) (T : FT) : (buildCQ P ng t ps).run H T = (buildC P ng t ps).run H (tt T) := by
  unfold buildCQ buildC
  generalize shapeOf P t = a
  cases a with
  | none => rfl
  | some q =>
    obtain ⟨z, p, n⟩ := q
    cases n <;> simp only [inl_eq, parts_same]
theorem look_same (t : TypeId) (x y : Operand) (ok : Bool) (H : Heap) (T : FT) : (lookCQ P ng t x y ok).run H T = (lookC P ng t x y ok).run H (tt T) := by
  unfold lookCQ lookC
  generalize P.underlying t = a
  cases a with
  | none => rfl
  | some d =>
    cases d with
    | map kt et =>
      simp only []
      generalize keyKind P kt = b
      cases b with
      | none => rfl
      | some d => cases d <;> first | rfl | simp only [inl_eq, ev_same]
    | _ => rfl
theorem al_same (t : TypeId) (T : FT) (H : Heap) : (alCQ P t).run T H = (alC P t).run (tt T) H := by
  show (alC P t).run .e H = _
  unfold alC
  split <;> rfl
theorem kind_same (o : Oper) : SameK (kindCQ P ng ro o) (kindC P ng ro o) := by
  unfold kindCQ kindC
  generalize o.op = op
  cases op with
  | move x => exact fun T => ev_same _ T
  | assign x => exact fun T => ev_same _ T
  | pick c x y => intro H T; simp only [inl_eq, ev_same]
  | load t x => intro H T; simp only [inl_eq, ev_same]
  | binOp op t x y yt => cases op <;> (intro H T; simp only [inl_eq, ev_same])
  | unOp op t x => cases op <;> first | exact fun _ _ _ => rfl | (intro H T; simp only [inl_eq, ev_same])
  | fieldAddr s x f => intro H T; simp only [inl_eq, ev_same]
  | field s x f => intro H T; simp only [inl_eq, ev_same]
  | indexAddr t x y => intro H T; simp only [inl_eq, ev_same]
  | extract x i => intro H T; simp only [inl_eq, ev_same]
  | nilCheck x => intro H T; simp only [inl_eq, ev_same]
  | convert s d x => intro H T; simp only [inl_eq, ev_same]
  | alloc t => exact fun _ T H => al_same _ T H
  | box t x => intro _ T H; show bO ((evCQ ng x).run T) _ = bO ((evC ng x).run (tt T)) _; rw [ev_same]
  | buildSlice t len ps => exact fun _ T H => bs_same _ _ _ T H
  | makeSlice t x y => exact fun _ _ _ => rfl
  | store t x y => exact fun H T => store_same _ _ _ H T
  | slice t x lo hi mx => exact fun H T => slice_same _ _ _ _ _ H T
  | build t ps => exact fun H T => build_same _ _ H T
  | lookup t x y ok => exact fun H T => look_same _ _ _ _ H T
  | call c =>
    simp only []
    generalize c.callee = cal
    generalize c.args.toList = as'
    generalize c.argTypes.toList = ts
    cases cal with
    | builtin b =>
      cases b <;> first
        | exact fun _ _ _ => rfl
        | (rcases as' with _ | ⟨x, _ | ⟨y, _ | ⟨z, r⟩⟩⟩ <;> rcases ts with _ | ⟨u, _ | ⟨v, _ | ⟨w, r'⟩⟩⟩ <;> first | exact fun _ _ _ => rfl | exact fun _ T H => app_same _ _ _ _ T H | (intro H T; simp only [inl_eq, ev_same]))
    | value x =>
      cases x with
      | func g =>
        simp only []
        generalize hasBody P g = b
        cases b with
        | false => exact fun _ _ _ => rfl
        | true => intro ih T H; simp only [inl_eq, evs_same]
      | _ => exact fun _ _ _ => rfl
    | _ => exact fun _ _ _ => rfl
  | _ => exact fun _ _ _ => rfl

end
end Go.Ai
/- Regions that draw their order, over nested rows. -/
namespace Go.Ai
section
variable {P : Program} {env : Nat → Value} {ng ro nt N : Nat} {S : Sums} {H : Heap} {T : FT} {ops : Array Oper}
noncomputable def stCQ (nt : Nat) (d : Option Tmp) : Option (Cl (FT → AV → FT)) :=
  match d with
  | none => some ⟨fun T _ => T⟩
  | some t => bif Nat.blt t nt && Nat.blt t 511 then some (sQ t) else none
theorem stCQ_ok {d : Option Tmp} {st : Cl (FT → AV → FT)} {T : FT} {v : AV} (h : stCQ nt d = some st) : putT nt (tt T) d v = some (tt (st.run T v)) := by
  unfold stCQ at h
  split at h
  · cases h; rfl
  · rename_i t
    cases hb : (Nat.blt t nt && Nat.blt t 511) with
    | false => rw [hb] at h; cases h
    | true =>
      rw [hb] at h
      cases h
      rw [Bool.and_eq_true] at hb
      simp only [putT, hb.1, cond_true]
      rw [sQ_eq _ _ (blt_iff.1 hb.2)]
noncomputable def rsQ (l : List Tmp) : Cl (FT → TT AV) := ⟨fun T => restr (tt T) l⟩
theorem rsQ_eq (l : List Tmp) (T : FT) : (rsQ l).run T = restr (tt T) l := rfl
theorem kq_mv {o : Oper} {c : Cl (FT → Option AV)} (h : kindCQ P ng ro o = .mv c) : ∃ c', kindC P ng ro o = .mv c' ∧ ∀ T, c.run T = c'.run (tt T) := by
  have := kind_same (P := P) (ng := ng) (ro := ro) o
  rw [h] at this
  cases hk : kindC P ng ro o <;> rw [hk] at this <;> first | exact this.elim | exact ⟨_, rfl, this⟩
theorem kq_rd {o : Oper} {c : Cl (Heap → FT → Option AV)} (h : kindCQ P ng ro o = .rd c) : ∃ c', kindC P ng ro o = .rd c' ∧ ∀ H T, c.run H T = c'.run H (tt T) := by
  have := kind_same (P := P) (ng := ng) (ro := ro) o
  rw [h] at this
  cases hk : kindC P ng ro o <;> rw [hk] at this <;> first | exact this.elim | exact ⟨_, rfl, this⟩
theorem kq_wr {o : Oper} {c : Cl (Heap → FT → Option Heap)} (h : kindCQ P ng ro o = .wr c) : ∃ c', kindC P ng ro o = .wr c' ∧ ∀ H T, c.run H T = c'.run H (tt T) := by
  have := kind_same (P := P) (ng := ng) (ro := ro) o
  rw [h] at this
  cases hk : kindC P ng ro o <;> rw [hk] at this <;> first | exact this.elim | exact ⟨_, rfl, this⟩
theorem kq_gen {o : Oper} {c : Cl (Fns → FT → Heap → Option (AV × Heap))} (h : kindCQ P ng ro o = .gen c) : ∃ c', kindC P ng ro o = .gen c' ∧ ∀ ih T H, c.run ih T H = c'.run ih (tt T) H := by
  have := kind_same (P := P) (ng := ng) (ro := ro) o
  rw [h] at this
  cases hk : kindC P ng ro o <;> rw [hk] at this <;> first | exact this.elim | exact ⟨_, rfl, this⟩
noncomputable def gdCQ (ops : Array Oper) (o : Oper) : Cl (FT → Option Bool) :=
  match o.guard with
  | none => ⟨fun _ => some true⟩
  | some (j, want) => match (ops[j]?).bind (·.dst) with
    | some t => (inl (gQ t) fun z0 => ⟨fun T => Option.rec (motive := fun _ => Option Bool) none (fun v => gdV v want) (z0 T)⟩)
    | none => ⟨fun _ => none⟩
theorem gdCQ_eq {o : Oper} {T : FT} : (gdCQ ops o).run T = gd ops (tt T) o := by
  unfold gdCQ gd
  cases o.guard with
  | none => rfl
  | some jw =>
    obtain ⟨j, want⟩ := jw
    simp only
    cases (ops[j]?).bind (·.dst) with
    | none => rfl
    | some t =>
      show Option.rec (motive := fun _ => Option Bool) none (fun v => gdV v want) ((gQ t).run T) = _
      rw [gQ_eq]
      simp only
      cases (tt T).get t with
      | none => rfl
      | some v =>
        cases v <;> try rfl
        · rename_i p; cases p <;> cases want <;> rfl
        · rename_i l; cases l <;> rfl
abbrev DGQ := Cl (Fns → FT → Heap → List ME → Option (FT × Heap))
noncomputable def drdKQ (c : Nat) (rd : Cl (Heap → FT → Option AV)) (dep : Bool) (st : Cl (FT → AV → FT)) (slow k : DGQ) : DGQ :=
  bif dep then (inl (slow) fun z0 => inl (k) fun z1 => inl (st) fun z2 => inl (rd) fun z3 => ⟨fun ih T H M => Option.rec (motive := fun _ => Option (FT × Heap)) (z0 ih T H M) (fun v => z1 ih (z2 T v) H (⟨c, fun H' => eqO (z3 H' T) v⟩ :: M)) (z3 H T)⟩)
  else (inl (slow) fun z0 => inl (k) fun z1 => inl (st) fun z2 => inl (rd) fun z3 => ⟨fun ih T H M => Option.rec (motive := fun _ => Option (FT × Heap)) (z0 ih T H M) (fun v => z1 ih (z2 T v) H M) (z3 H T)⟩)
noncomputable def dmvKQ (c1 : Cl (FT → Option AV)) (dep : Bool) (st : Cl (FT → AV → FT)) (slow k : DGQ) : DGQ :=
  bif dep then slow
  else (inl (slow) fun z0 => inl (k) fun z1 => inl (st) fun z2 => inl (c1) fun z3 => ⟨fun ih T H M => Option.rec (motive := fun _ => Option (FT × Heap)) (z0 ih T H M) (fun v => z1 ih (z2 T v) H M) (z3 T)⟩)
noncomputable def dslowQ (P : Program) (ng ro c : Nat) (o : Oper) (rs : Cl (FT → TT AV)) (st : Cl (FT → AV → FT)) (k : DGQ) : DGQ :=
  ⟨fun ih T H M => match ard P ng H (rs.run T) o with
    | some v => k.run ih (st.run T v) H (⟨c, fun H' => eqO (ard P ng H' (rs.run T) o) v⟩ :: M)
    | none => match aal P ng (rs.run T) o with
      | some (ob, mk) => k.run ih (st.run T (mk.val H.nx)) (H.push ob) (⟨c, fun H' => match H'.t.get H.nx with | some o => AO.beq o ob | none => false⟩ :: M)
      | none => match cvW P ng ro H (rs.run T) o with
        | some v => k.run ih (st.run T v) H (⟨c, fun H' => eqO (cvW P ng ro H' (rs.run T) o) v⟩ :: M)
        | none => none⟩
noncomputable def wrDQ (op : Cl (Fns → FT → Heap → Option (AV × Heap))) (pmc : Nat) (st : Cl (FT → AV → FT)) (k : DGQ) : DGQ :=
  (inl (k) fun z0 => inl (st) fun z1 => inl (op) fun z2 => ⟨fun ih T H M => Option.rec (motive := fun _ => Option (FT × Heap)) none (fun p => Prod.rec (motive := fun _ => Option (FT × Heap)) (fun v H' => Bool.rec (motive := fun _ => Option (FT × Heap)) none (z0 ih (z1 T v) H' (keepM pmc M)) (allM H' (keepM pmc M))) p) (z2 ih T H)⟩)
noncomputable def opDQ (P : Program) (ng ro : Nat) (o : Oper) (rs : Cl (FT → TT AV)) : Cl (Fns → FT → Heap → Option (AV × Heap)) :=
  bif direct P o.op then
    match kindCQ P ng ro o with
    | .mv _ => ⟨fun ih T H => opX P ng ro ih.ca ih.yi o (rs.run T) H⟩
    | .rd _ => ⟨fun ih T H => opX P ng ro ih.ca ih.yi o (rs.run T) H⟩
    | .wr c => (inl (c) fun z0 => ⟨fun ih T H => Option.rec (motive := fun _ => Option (AV × Heap)) (opX P ng ro ih.ca ih.yi o (rs.run T) H) (fun H' => some (.tu [], H')) (z0 H T)⟩)
    | .gen c => (inl (c) fun z0 => ⟨fun ih T H => Option.rec (motive := fun _ => Option (AV × Heap)) (opX P ng ro ih.ca ih.yi o (rs.run T) H) some (z0 ih T H)⟩)
  else match kindC P ng ro o with
    | .gen c => (inl (c) fun z0 => ⟨fun ih T H => Option.rec (motive := fun _ => Option (AV × Heap)) (opX P ng ro ih.ca ih.yi o (rs.run T) H) some (z0 ih (rs.run T) H)⟩)
    | _ => ⟨fun ih T H => opX P ng ro ih.ca ih.yi o (rs.run T) H⟩
theorem opDQ_some {o : Oper} {rs : Cl (FT → TT AV)} (hrs : ∀ T, rs.run T = restr (tt T) (o.looksAt ops)) {ih : Fns} {T : FT} {H : Heap} {r : AV × Heap} (h : (opDQ P ng ro o rs).run ih T H = some r) : opX P ng ro ih.ca ih.yi o (restr (tt T) (o.looksAt ops)) H = some r := by
  have hk := kindC_ok (P := P) (ng := ng) (ro := ro) o
  unfold opDQ at h
  cases hd : direct P o.op with
  | true =>
    have hs := kindC_slot (P := P) (ng := ng) (ro := ro) o hd
    rw [hd] at h
    cases hq : kindCQ P ng ro o with
    | mv c => rw [hq] at h; rw [← hrs]; exact h
    | rd c => rw [hq] at h; rw [← hrs]; exact h
    | wr c =>
      obtain ⟨c', hq', hc'⟩ := kq_wr hq
      rw [hq] at h
      rw [hq'] at hk hs
      have g : Option.rec (motive := fun _ => Option (AV × Heap)) (opX P ng ro ih.ca ih.yi o (rs.run T) H) (fun H' => some (.tu [], H')) (c.run H T) = some r := h
      clear h
      cases hc : c.run H T with
      | none => rw [hc] at g; rw [← hrs]; exact g
      | some H1 =>
        rw [hc] at g
        have h2 := hs H (restr (tt T) (o.looksAt ops)) (tt T) fun x hx => ev_restr hx
        rw [← hc', hc] at h2
        cases g
        exact hk ih _ _ _ h2
    | gen c =>
      obtain ⟨c', hq', hc'⟩ := kq_gen hq
      rw [hq] at h
      rw [hq'] at hk hs
      have g : Option.rec (motive := fun _ => Option (AV × Heap)) (opX P ng ro ih.ca ih.yi o (rs.run T) H) some (c.run ih T H) = some r := h
      clear h
      cases hc : c.run ih T H with
      | none => rw [hc] at g; rw [← hrs]; exact g
      | some q =>
        rw [hc] at g
        have h2 := hs ih H (restr (tt T) (o.looksAt ops)) (tt T) fun x hx => ev_restr hx
        rw [← hc', hc] at h2
        cases g
        exact hk ih _ _ _ h2
  | false =>
    rw [hd] at h
    cases hq : kindC P ng ro o with
    | mv c => rw [hq] at h; rw [← hrs]; exact h
    | rd c => rw [hq] at h; rw [← hrs]; exact h
    | wr c => rw [hq] at h; rw [← hrs]; exact h
    | gen c =>
      rw [hq] at h hk
      have g : Option.rec (motive := fun _ => Option (AV × Heap)) (opX P ng ro ih.ca ih.yi o (rs.run T) H) some (c.run ih (rs.run T) H) = some r := h
      clear h
      rw [hrs] at g
      cases hc : c.run ih (restr (tt T) (o.looksAt ops)) H with
      | none => rw [hc] at g; exact g
      | some q => rw [hc] at g; cases g; exact hk ih _ _ _ hc
noncomputable def dstepQ (P : Program) (ng ro c pmc : Nat) (o : Oper) (rs : Cl (FT → TT AV)) (st : Cl (FT → AV → FT)) (k : DGQ) : DGQ :=
  bif isR o.op then
    bif direct P o.op then
      match kindCQ P ng ro o with
      | .mv c1 => dmvKQ c1 (depOf o.op) st (dslowQ P ng ro c o rs st k) k
      | .rd rd => drdKQ c rd (depOf o.op) st (dslowQ P ng ro c o rs st k) k
      | _ => dslowQ P ng ro c o rs st k
    else dslowQ P ng ro c o rs st k
  else wrDQ (opDQ P ng ro o rs) pmc st k
noncomputable def guardDQ (g : Cl (FT → Option Bool)) (st : Cl (FT → AV → FT)) (x k : DGQ) : DGQ :=
  (inl (k) fun z0 => inl (st) fun z1 => inl (x) fun z2 => inl (g) fun z3 => ⟨fun ih T H M => Option.rec (motive := fun _ => Option (FT × Heap)) none (fun b => Bool.rec (motive := fun _ => Option (FT × Heap)) (z0 ih (z1 T (.tu [])) H M) (z2 ih T H M) b) (z3 T)⟩)
noncomputable def dgoCQ (P : Program) (ng ro nt : Nat) (ops : Array Oper) (pm : List Nat) : List Nat → DGQ
  | [] => ⟨fun _ T H _ => some (T, H)⟩
  | c :: L => match ops[c]? with
    | none => ⟨fun _ _ _ _ => none⟩
    | some o => match stCQ nt o.dst with
      | none => ⟨fun _ _ _ _ => none⟩
      | some st => match o.guard with
        | none => dstepQ P ng ro c (pm.getD c 0) o (rsQ (o.looksAt ops)) st (dgoCQ P ng ro nt ops pm L)
        | some _ => guardDQ (gdCQ ops o) st (dstepQ P ng ro c (pm.getD c 0) o (rsQ (o.looksAt ops)) st (dgoCQ P ng ro nt ops pm L)) (dgoCQ P ng ro nt ops pm L)
theorem dgoCQ_ok {pm : List Nat} {ih : Fns} {T' : FT} {H' : Heap} : ∀ (L : List Nat) (T : FT) (H : Heap) (M : List ME) (Q : List PE), Red P ng ro M Q → (dgoCQ P ng ro nt ops pm L).run ih T H M = some (T', H') →
    dgo P ng ro nt (opX P ng ro ih.ca ih.yi) ops pm L (tt T) H Q = some (tt T', H')
  | [], T, H, M, Q, _, h => by cases h; rfl
  | c :: L, T, H, M, Q, hr, h => by
    simp only [dgoCQ] at h
    simp only [dgo]
    cases ho : ops[c]? with
    | none => rw [ho] at h; cases h
    | some o =>
      rw [ho] at h
      simp only at h ⊢
      cases hst : stCQ nt o.dst with
      | none => rw [hst] at h; cases h
      | some st =>
        rw [hst] at h
        simp only at h
        have hput : ∀ v, putT nt (tt T) o.dst v = some (tt (st.run T v)) := fun v => stCQ_ok hst
        rw [gd_restr]
        have hskip : (dgoCQ P ng ro nt ops pm L).run ih (st.run T (.tu [])) H M = some (T', H') → gd ops (tt T) o = some false → dgo P ng ro nt (opX P ng ro ih.ca ih.yi) ops pm L (tt (st.run T (.tu []))) H (⟨c, o, restr (tt T) (o.looksAt ops), .tu [], .skip⟩ :: Q) = some (tt T', H') := fun h _ =>
          dgoCQ_ok L _ _ M _ (.skip (fun _ => rfl) hr) h
        have hslow : (dslowQ P ng ro c o (rsQ (o.looksAt ops)) st (dgoCQ P ng ro nt ops pm L)).run ih T H M = some (T', H') → (match ard P ng H (restr (tt T) (o.looksAt ops)) o with
            | some v => match putT nt (tt T) o.dst v with
              | some T' => dgo P ng ro nt (opX P ng ro ih.ca ih.yi) ops pm L T' H (⟨c, o, restr (tt T) (o.looksAt ops), v, .rd⟩ :: Q)
              | none => none
            | none => match aal P ng (restr (tt T) (o.looksAt ops)) o with
              | some (ob, mk) => match putT nt (tt T) o.dst (mk.val H.nx) with
                | some T' => dgo P ng ro nt (opX P ng ro ih.ca ih.yi) ops pm L T' (H.push ob) (⟨c, o, restr (tt T) (o.looksAt ops), mk.val H.nx, .al H.nx ob mk⟩ :: Q)
                | none => none
              | none => match cvW P ng ro H (restr (tt T) (o.looksAt ops)) o with
                | some v => match putT nt (tt T) o.dst v with
                  | some T' => dgo P ng ro nt (opX P ng ro ih.ca ih.yi) ops pm L T' H (⟨c, o, restr (tt T) (o.looksAt ops), v, .cv⟩ :: Q)
                  | none => none
                | none => none) = some (tt T', H') := fun h => by
          simp only [dslowQ, rsQ_eq] at h
          simp only [hput]
          cases ha : ard P ng H (restr (tt T) (o.looksAt ops)) o with
          | some v =>
            rw [ha] at h
            refine dgoCQ_ok L _ _ _ _ (.both ⟨rfl, fun H' hc => ?_⟩ hr) h
            have := eqO_ok hc
            simp only [PE.again, this]
            exact avEq_self v
          | none =>
            rw [ha] at h
            simp only at h ⊢
            cases hl : aal P ng (restr (tt T) (o.looksAt ops)) o with
            | some p =>
              obtain ⟨ob, mk⟩ := p
              rw [hl] at h
              exact dgoCQ_ok L _ _ _ _ (.both ⟨rfl, fun H' hc => hc⟩ hr) h
            | none =>
              rw [hl] at h
              simp only at h ⊢
              cases hv : cvW P ng ro H (restr (tt T) (o.looksAt ops)) o with
              | some v =>
                rw [hv] at h
                refine dgoCQ_ok L _ _ _ _ (.both ⟨rfl, fun H' hc => ?_⟩ hr) h
                have := eqO_ok hc
                simp only [PE.again, this]
                exact avEq_self v
              | none => rw [hv] at h; cases h
        have hstep : (dstepQ P ng ro c (pm.getD c 0) o (rsQ (o.looksAt ops)) st (dgoCQ P ng ro nt ops pm L)).run ih T H M = some (T', H') → (bif isR o.op then
            match ard P ng H (restr (tt T) (o.looksAt ops)) o with
            | some v => match putT nt (tt T) o.dst v with
              | some T' => dgo P ng ro nt (opX P ng ro ih.ca ih.yi) ops pm L T' H (⟨c, o, restr (tt T) (o.looksAt ops), v, .rd⟩ :: Q)
              | none => none
            | none => match aal P ng (restr (tt T) (o.looksAt ops)) o with
              | some (ob, mk) => match putT nt (tt T) o.dst (mk.val H.nx) with
                | some T' => dgo P ng ro nt (opX P ng ro ih.ca ih.yi) ops pm L T' (H.push ob) (⟨c, o, restr (tt T) (o.looksAt ops), mk.val H.nx, .al H.nx ob mk⟩ :: Q)
                | none => none
              | none => match cvW P ng ro H (restr (tt T) (o.looksAt ops)) o with
                | some v => match putT nt (tt T) o.dst v with
                  | some T' => dgo P ng ro nt (opX P ng ro ih.ca ih.yi) ops pm L T' H (⟨c, o, restr (tt T) (o.looksAt ops), v, .cv⟩ :: Q)
                  | none => none
                | none => none
          else match opX P ng ro ih.ca ih.yi o (restr (tt T) (o.looksAt ops)) H with
            | some (v, H') =>
              bif (keepQ (pm.getD c 0) Q).all (PE.again P ng ro H') then
                match putT nt (tt T) o.dst v with
                | some T' => dgo P ng ro nt (opX P ng ro ih.ca ih.yi) ops pm L T' H' (keepQ (pm.getD c 0) Q)
                | none => none
              else none
            | none => none) = some (tt T', H') := fun h => by
          unfold dstepQ at h
          cases hR : isR o.op with
          | true =>
            rw [hR] at h
            simp only [cond_true] at h ⊢
            cases hd : direct P o.op with
            | false => rw [hd] at h; exact hslow h
            | true =>
              rw [hd] at h
              simp only [cond_true] at h
              have hk := kindC_ok (P := P) (ng := ng) (ro := ro) o
              have hs := kindC_slot (P := P) (ng := ng) (ro := ro) o hd
              cases hq : kindCQ P ng ro o with
              | wr c1 => rw [hq] at h; exact hslow h
              | mv c1 =>
                obtain ⟨c', hq', hc'⟩ := kq_mv hq
                rw [hq] at h
                rw [hq'] at hk hs
                simp only at h
                unfold dmvKQ at h
                cases hdep : depOf o.op with
                | true => rw [hdep] at h; exact hslow h
                | false =>
                  rw [hdep] at h
                  have h : Option.rec (motive := fun _ => Option (FT × Heap)) ((dslowQ P ng ro c o (rsQ (o.looksAt ops)) st (dgoCQ P ng ro nt ops pm L)).run ih T H M) (fun v => (dgoCQ P ng ro nt ops pm L).run ih (st.run T v) H M) (c1.run T) = some (T', H') := h
                  cases hv : c1.run T with
                  | none => rw [hv] at h; exact hslow h
                  | some v =>
                    rw [hv] at h
                    have hrd : ∀ H, ard P ng H (restr (tt T) (o.looksAt ops)) o = some v := fun H => by
                      refine hk H _ v ?_
                      rw [hs (restr (tt T) (o.looksAt ops)) (tt T) fun x hx => ev_restr hx, ← hc']; exact hv
                    simp only [hrd H, hput]
                    refine dgoCQ_ok L _ _ _ _ (.skip (fun H' => ?_) hr) h
                    simp only [PE.again, hrd H']
                    exact avEq_self v
              | gen c1 => rw [hq] at h; exact hslow h
              | rd rd =>
                obtain ⟨c', hq', hc'⟩ := kq_rd hq
                rw [hq] at h
                rw [hq'] at hk hs
                simp only at h
                have hrd : ∀ H v, rd.run H T = some v → ard P ng H (restr (tt T) (o.looksAt ops)) o = some v := fun H v hv => by
                  refine hk H _ v ?_
                  rw [hs H (restr (tt T) (o.looksAt ops)) (tt T) fun x hx => ev_restr hx, ← hc']; exact hv
                unfold drdKQ at h
                cases hdep : depOf o.op with
                | true =>
                  rw [hdep] at h
                  have h : Option.rec (motive := fun _ => Option (FT × Heap)) ((dslowQ P ng ro c o (rsQ (o.looksAt ops)) st (dgoCQ P ng ro nt ops pm L)).run ih T H M) (fun v => (dgoCQ P ng ro nt ops pm L).run ih (st.run T v) H (⟨c, fun H' => eqO (rd.run H' T) v⟩ :: M)) (rd.run H T) = some (T', H') := h
                  cases hv : rd.run H T with
                  | none => rw [hv] at h; exact hslow h
                  | some v =>
                    rw [hv] at h
                    simp only [hrd H v hv, hput]
                    refine dgoCQ_ok L _ _ _ _ (.both ⟨rfl, fun H' hc => ?_⟩ hr) h
                    simp only [PE.again, hrd H' v (eqO_ok hc)]
                    exact avEq_self v
                | false =>
                  rw [hdep] at h
                  have h : Option.rec (motive := fun _ => Option (FT × Heap)) ((dslowQ P ng ro c o (rsQ (o.looksAt ops)) st (dgoCQ P ng ro nt ops pm L)).run ih T H M) (fun v => (dgoCQ P ng ro nt ops pm L).run ih (st.run T v) H M) (rd.run H T) = some (T', H') := h
                  cases hv : rd.run H T with
                  | none => rw [hv] at h; exact hslow h
                  | some v =>
                    rw [hv] at h
                    simp only [hrd H v hv, hput]
                    refine dgoCQ_ok L _ _ _ _ (.skip (fun H' => ?_) hr) h
                    simp only [PE.again, ard_nodep hdep H' H, hrd H v hv]
                    exact avEq_self v
          | false =>
            rw [hR] at h
            simp only [cond_false] at h ⊢
            have h : Option.rec (motive := fun _ => Option (FT × Heap)) none (fun p => Prod.rec (motive := fun _ => Option (FT × Heap)) (fun v H' => Bool.rec (motive := fun _ => Option (FT × Heap)) none ((dgoCQ P ng ro nt ops pm L).run ih (st.run T v) H' (keepM (pm.getD c 0) M)) (allM H' (keepM (pm.getD c 0) M))) p) ((opDQ P ng ro o (rsQ (o.looksAt ops))).run ih T H) = some (T', H') := h
            cases hv : (opDQ P ng ro o (rsQ (o.looksAt ops))).run ih T H with
            | none => rw [hv] at h; cases h
            | some p =>
              obtain ⟨v, H1⟩ := p
              rw [hv] at h
              have h2 := opDQ_some (fun T => rsQ_eq _ T) hv
              simp only [h2]
              obtain ⟨h3, h4⟩ := brec_some h
              rw [allM_red (keepM_red hr) h3]
              simp only [cond_true, hput]
              exact dgoCQ_ok L _ _ _ _ (keepM_red hr) h4
        cases hg : o.guard with
        | none =>
          rw [hg] at h
          have e1 : gd ops (tt T) o = some true := by unfold gd; rw [hg]
          rw [e1]
          exact hstep h
        | some jw =>
          rw [hg] at h
          have h : Option.rec (motive := fun _ => Option (FT × Heap)) none (fun b => Bool.rec (motive := fun _ => Option (FT × Heap)) ((dgoCQ P ng ro nt ops pm L).run ih (st.run T (.tu [])) H M) ((dstepQ P ng ro c (pm.getD c 0) o (rsQ (o.looksAt ops)) st (dgoCQ P ng ro nt ops pm L)).run ih T H M) b) ((gdCQ ops o).run T) = some (T', H') := h
          rw [gdCQ_eq] at h
          cases hb : gd ops (tt T) o with
          | none => rw [hb] at h; cases h
          | some b =>
            rw [hb] at h
            cases b with
            | true => exact hstep h
            | false => simp only [hput]; exact hskip h hb

end
end Go.Ai
/- Code and calls over nested rows. -/
namespace Go.Ai
section
variable {P : Program} {env : Nat → Value} {ng ro nt N : Nat} {S : Sums} {H : Heap} {T : FT} {ops : Array Oper}
abbrev GoCQ := Cl (Fns → FT → Heap → RQ)
noncomputable def bRQ {α : Type} (x : Option α) (f : α → RQ) : RQ := Option.rec (motive := fun _ => RQ) .no f x
noncomputable def slowRQ (slow : Cl (Fns → FT → Heap → Option (AV × Heap))) (st : Cl (FT → AV → FT)) (k : GoCQ) (ih : Fns) (T : FT) (H : Heap) : RQ :=
  bRQ (slow.run ih T H) fun p => Prod.rec (motive := fun _ => RQ) (fun v H' => k.run ih (st.run T v) H') p
noncomputable def kStepQ (o : OpKQ) (st : Cl (FT → AV → FT)) (slow : Cl (Fns → FT → Heap → Option (AV × Heap))) (k : GoCQ) : GoCQ :=
  match o with
  | .mv c => (inl (k) fun z0 => inl (st) fun z1 => inl (c) fun z2 => ⟨fun ih T H => Option.rec (motive := fun _ => RQ) .no (fun v => z0 ih (z1 T v) H) (z2 T)⟩)
  | .rd c => (inl (k) fun z0 => inl (st) fun z1 => inl (c) fun z2 => ⟨fun ih T H => Option.rec (motive := fun _ => RQ) (slowRQ slow st k ih T H) (fun v => z0 ih (z1 T v) H) (z2 H T)⟩)
  | .wr c => (inl (k) fun z0 => inl (st) fun z1 => inl (c) fun z2 => ⟨fun ih T H => Option.rec (motive := fun _ => RQ) (slowRQ slow st k ih T H) (fun H' => z0 ih (z1 T (.tu [])) H') (z2 H T)⟩)
  | .gen c => (inl (k) fun z0 => inl (st) fun z1 => inl (c) fun z2 => ⟨fun ih T H => Option.rec (motive := fun _ => RQ) (slowRQ slow st k ih T H) (fun p => Prod.rec (motive := fun _ => RQ) (fun v H' => z0 ih (z1 T v) H') p) (z2 ih T H)⟩)
def KindOQ (P : Program) (ng ro : Nat) (o : Oper) : OpKQ → Prop
  | .mv c => ∀ H T v, c.run T = some v → ard P ng H (tt T) o = some v
  | .rd c => ∀ H T v, c.run H T = some v → ard P ng H (tt T) o = some v
  | .wr c => ∀ ih T H H', c.run H T = some H' → opX P ng ro (Fns.ca ih) (Fns.yi ih) o (tt T) H = some (.tu [], H')
  | .gen c => ∀ ih T H r, c.run ih T H = some r → opX P ng ro (Fns.ca ih) (Fns.yi ih) o (tt T) H = some r
theorem kindQ_ok (o : Oper) : KindOQ P ng ro o (kindCQ P ng ro o) := by
  have hk := kindC_ok (P := P) (ng := ng) (ro := ro) o
  cases hq : kindCQ P ng ro o with
  | mv c => obtain ⟨c', hq', hc'⟩ := kq_mv hq; rw [hq'] at hk; intro H T v h; rw [hc'] at h; exact hk H _ v h
  | rd c => obtain ⟨c', hq', hc'⟩ := kq_rd hq; rw [hq'] at hk; intro H T v h; rw [hc'] at h; exact hk H _ v h
  | wr c => obtain ⟨c', hq', hc'⟩ := kq_wr hq; rw [hq'] at hk; intro ih T H H' h; rw [hc'] at h; exact hk ih _ H _ h
  | gen c => obtain ⟨c', hq', hc'⟩ := kq_gen hq; rw [hq'] at hk; intro ih T H r h; rw [hc'] at h; exact hk ih _ H _ h
theorem kStepQ_ok {o : Oper} {q : OpKQ} {st : Cl (FT → AV → FT)} {k : GoCQ} {ih : Fns} {T T' : FT} {H H' : Heap} {e : Ex} (hq : KindOQ P ng ro o q)
    (h : (kStepQ q st ⟨fun ih T H => opX P ng ro ih.ca ih.yi o (tt T) H⟩ k).run ih T H = .ok e T' H') : ∃ v H1, opX P ng ro ih.ca ih.yi o (tt T) H = some (v, H1) ∧ k.run ih (st.run T v) H1 = .ok e T' H' := by
  have hs : slowRQ ⟨fun ih T H => opX P ng ro ih.ca ih.yi o (tt T) H⟩ st k ih T H = .ok e T' H' → ∃ v H1, opX P ng ro ih.ca ih.yi o (tt T) H = some (v, H1) ∧ k.run ih (st.run T v) H1 = .ok e T' H' := fun h => by
    have h : bRQ (opX P ng ro ih.ca ih.yi o (tt T) H) (fun p => Prod.rec (motive := fun _ => RQ) (fun v H' => k.run ih (st.run T v) H') p) = .ok e T' H' := h
    cases hx : opX P ng ro ih.ca ih.yi o (tt T) H with
    | none => rw [hx] at h; cases h
    | some p => rw [hx] at h; obtain ⟨v, H1⟩ := p; exact ⟨v, H1, rfl, h⟩
  cases q with
  | mv c =>
    have h : Option.rec (motive := fun _ => RQ) .no (fun v => k.run ih (st.run T v) H) (c.run T) = .ok e T' H' := h
    cases hx : c.run T with
    | none => rw [hx] at h; cases h
    | some v => rw [hx] at h; exact ⟨v, H, opX_of_ard (hq H T v hx), h⟩
  | rd c =>
    have h : Option.rec (motive := fun _ => RQ) (slowRQ ⟨fun ih T H => opX P ng ro ih.ca ih.yi o (tt T) H⟩ st k ih T H) (fun v => k.run ih (st.run T v) H) (c.run H T) = .ok e T' H' := h
    cases hx : c.run H T with
    | none => rw [hx] at h; exact hs h
    | some v => rw [hx] at h; exact ⟨v, H, opX_of_ard (hq H T v hx), h⟩
  | wr c =>
    have h : Option.rec (motive := fun _ => RQ) (slowRQ ⟨fun ih T H => opX P ng ro ih.ca ih.yi o (tt T) H⟩ st k ih T H) (fun H' => k.run ih (st.run T (.tu [])) H') (c.run H T) = .ok e T' H' := h
    cases hx : c.run H T with
    | none => rw [hx] at h; exact hs h
    | some H1 => rw [hx] at h; exact ⟨_, H1, hq ih T H H1 hx, h⟩
  | gen c =>
    have h : Option.rec (motive := fun _ => RQ) (slowRQ ⟨fun ih T H => opX P ng ro ih.ca ih.yi o (tt T) H⟩ st k ih T H) (fun p => Prod.rec (motive := fun _ => RQ) (fun v H' => k.run ih (st.run T v) H') p) (c.run ih T H) = .ok e T' H' := h
    cases hx : c.run ih T H with
    | none => rw [hx] at h; exact hs h
    | some p => rw [hx] at h; obtain ⟨v, H1⟩ := p; exact ⟨v, H1, hq ih T H _ hx, h⟩
noncomputable def guardCQ (g : Cl (FT → Option Bool)) (st : Cl (FT → AV → FT)) (x k : GoCQ) : GoCQ :=
  (inl (g) fun z0 => inl (k) fun z1 => inl (st) fun z2 => inl (x) fun z3 => ⟨fun ih T H => bRQ (z0 T) fun b => Bool.rec (motive := fun _ => RQ) (z1 ih (z2 T (.tu [])) H) (z3 ih T H) b⟩)
noncomputable def stepOQ (P : Program) (ng ro nt : Nat) (ops : Array Oper) (o : Oper) (k : GoCQ) : GoCQ :=
  match stCQ nt o.dst with
  | none => ⟨fun _ _ _ => .no⟩
  | some st => match o.guard with
    | none => kStepQ (kindCQ P ng ro o) st ⟨fun ih T H => opX P ng ro ih.ca ih.yi o (tt T) H⟩ k
    | some _ => guardCQ (gdCQ ops o) st (kStepQ (kindCQ P ng ro o) st ⟨fun ih T H => opX P ng ro ih.ca ih.yi o (tt T) H⟩ k) k
noncomputable def sgoCQ (P : Program) (ng ro nt : Nat) (ops : Array Oper) : List Oper → GoCQ
  | [] => ⟨fun _ T H => .ok .normal T H⟩
  | o :: l => stepOQ P ng ro nt ops o (sgoCQ P ng ro nt ops l)
theorem sgoCQ_ok {ops : Array Oper} {ih : Fns} {e : Ex} {T' : FT} {H' : Heap} : ∀ (l : List Oper) (T : FT) (H : Heap), (sgoCQ P ng ro nt ops l).run ih T H = .ok e T' H' → sgo nt (opX P ng ro ih.ca ih.yi) ops l (tt T) H = .ok e (tt T') H'
  | [], T, H, h => by cases h; rfl
  | o :: l, T, H, h => by
    simp only [sgoCQ] at h
    unfold stepOQ at h
    simp only [sgo]
    cases hst : stCQ nt o.dst with
    | none => rw [hst] at h; cases h
    | some st =>
      rw [hst] at h
      simp only at h
      have key : (kStepQ (kindCQ P ng ro o) st ⟨fun ih T H => opX P ng ro ih.ca ih.yi o (tt T) H⟩ (sgoCQ P ng ro nt ops l)).run ih T H = .ok e T' H' → (match opX P ng ro ih.ca ih.yi o (tt T) H with
          | some (v, H') => match putT nt (tt T) o.dst v with
            | some T' => sgo nt (opX P ng ro ih.ca ih.yi) ops l T' H'
            | none => .no
          | none => .no) = .ok e (tt T') H' := fun h => by
        obtain ⟨v, H1, h1, h2⟩ := kStepQ_ok (kindQ_ok o) h
        simp only [h1, stCQ_ok hst]
        exact sgoCQ_ok l _ _ h2
      cases hg : o.guard with
      | none =>
        rw [hg] at h
        have e1 : gd ops (tt T) o = some true := by unfold gd; rw [hg]
        simp only [e1]
        exact key h
      | some jw =>
        rw [hg] at h
        have h : bRQ ((gdCQ ops o).run T) (fun b => Bool.rec (motive := fun _ => RQ) ((sgoCQ P ng ro nt ops l).run ih (st.run T (.tu [])) H) ((kStepQ (kindCQ P ng ro o) st ⟨fun ih T H => opX P ng ro ih.ca ih.yi o (tt T) H⟩ (sgoCQ P ng ro nt ops l)).run ih T H) b) = .ok e T' H' := h
        rw [gdCQ_eq] at h
        cases hb : gd ops (tt T) o with
        | none => rw [hb] at h; cases h
        | some b =>
          rw [hb] at h
          cases b with
          | true => exact key h
          | false =>
            simp only [stCQ_ok hst]
            exact sgoCQ_ok l _ _ h

noncomputable def seqCQ (A B : GoCQ) : GoCQ :=
  (inl (B) fun z0 => inl (A) fun z1 => ⟨fun ih T H => @RQ.rec (fun _ => RQ) (fun e T' H' => @Ex.rec (fun _ => RQ) (z0 ih T' H') (fun id => .ok (.exit id) T' H') (fun l => .ok (.goto l) T' H') (.ok .ret T' H') e) .no (z1 ih T H)⟩)
noncomputable def boolRQ : AV → RQ → RQ → RQ := (@AV.rec (fun _ => RQ → RQ → RQ) (fun _ => PUnit) (fun x p q => Bool.rec (motive := fun _ => RQ) q p x) (fun _ _ => fun _ _ => .no) (fun _ _ => fun _ _ => .no) (fun _ _ => .no) (fun _ _ => fun _ _ => .no) (fun _ _ => .no) (fun _ _ _ _ _ => fun _ _ => .no) (fun _ _ => .no) (fun _ _ => .no) (fun _ => fun _ _ => .no) (fun _ _ _ _ _ => fun _ _ => .no) (fun _ _ => .no) (fun _ _ _ => fun _ _ => .no) (fun _ _ => .no) (fun _ _ => fun _ _ => .no) (fun _ _ => fun _ _ => .no) (fun _ => fun _ _ => .no) (fun _ _ => fun _ _ => .no) (fun _ _ => fun _ _ => .no) ⟨⟩ (fun _ _ _ _ => ⟨⟩))
noncomputable def condCQ (c : Cl (FT → Option AV)) (A B : GoCQ) : GoCQ :=
  (inl (c) fun z0 => inl (A) fun z1 => inl (B) fun z2 => ⟨fun ih T H => bRQ (z0 T) fun v => boolRQ v (z1 ih T H) (z2 ih T H)⟩)
noncomputable def blockCQ (id : Nat) (A : GoCQ) : GoCQ :=
  (inl (A) fun z0 => ⟨fun ih T H => @RQ.rec (fun _ => RQ) (fun e T' H' => @Ex.rec (fun _ => RQ) (.ok .normal T' H') (fun id' => Bool.rec (motive := fun _ => RQ) (.ok (.exit id') T' H') (.ok .normal T' H') (Nat.beq id' id)) (fun l => .ok (.goto l) T' H') (.ok .ret T' H') e) .no (z0 ih T H)⟩)
noncomputable def scopeCQ (A : GoCQ) : GoCQ :=
  (inl (A) fun z0 => ⟨fun ih T H => @RQ.rec (fun _ => RQ) (fun e T' H' => @Ex.rec (fun _ => RQ) (.ok .normal T' H') (fun id => .ok (.exit id) T' H') (fun _ => .no) (.ok .ret T' H') e) .no (z0 ih T H)⟩)
noncomputable def loopBQ (A : GoCQ) (again : FT → Heap → RQ) (ih : Fns) (T : FT) (H : Heap) : RQ :=
  @RQ.rec (fun _ => RQ) (fun e T' H' => @Ex.rec (fun _ => RQ) (again T' H') (fun id => .ok (.exit id) T' H') (fun l => .ok (.goto l) T' H') (.ok .ret T' H') e) .no (A.run ih T H)
noncomputable def loopNQ (A : GoCQ) (ih : Fns) (n : Nat) : FT → Heap → RQ :=
  @Nat.rec (fun _ => FT → Heap → RQ) (fun _ _ => .no) (fun _ again T H => loopBQ A again ih T H) n
noncomputable def loopCQ (N : Nat) (A : GoCQ) : GoCQ := inl A fun z => ⟨fun ih T H => loopNQ ⟨z⟩ ih N T H⟩
noncomputable def regCQ (P : Program) (ng ro nt : Nat) (ops : Array Oper) : GoCQ :=
  bif planOk P ops (planOf P ops) then inl (dgoCQ P ng ro nt ops (planOf P ops).pm (planOf P ops).L) fun z => ⟨fun ih T H => Option.rec (motive := fun _ => RQ) .no (fun p => Prod.rec (motive := fun _ => RQ) (fun T' H' => .ok .normal T' H') p) (z ih T H [])⟩
  else ⟨fun _ _ _ => .no⟩
theorem regCQ_ok {ops : Array Oper} {ih : Fns} {T T' : FT} {H H' : Heap} {e : Ex} (h : (regCQ P ng ro nt ops).run ih T H = .ok e T' H') : regX P ng ro nt (opX P ng ro ih.ca ih.yi) ops (tt T) H = .ok e (tt T') H' := by
  unfold regCQ at h
  unfold regX
  cases hp : planOk P ops (planOf P ops) with
  | false => rw [hp] at h; cases h
  | true =>
    rw [hp] at h
    have h : Option.rec (motive := fun _ => RQ) .no (fun p => Prod.rec (motive := fun _ => RQ) (fun T' H' => .ok .normal T' H') p) ((dgoCQ P ng ro nt ops (planOf P ops).pm (planOf P ops).L).run ih T H []) = .ok e T' H' := h
    simp only [cond_true]
    cases hd : (dgoCQ P ng ro nt ops (planOf P ops).pm (planOf P ops).L).run ih T H [] with
    | none => rw [hd] at h; cases h
    | some p =>
      obtain ⟨T1, H1⟩ := p
      rw [hd] at h
      rw [dgoCQ_ok _ _ _ _ [] .nil hd]
      cases h; rfl
noncomputable def cdCQ (P : Program) (ng ro N nt : Nat) (c : Code) : GoCQ :=
  @Code.rec (fun _ => GoCQ) ⟨fun _ T H => .ok .normal T H⟩
    (fun _ ops d => bif d then regCQ P ng ro nt ops else sgoCQ P ng ro nt ops ops.toList)
    (fun _ _ a b => seqCQ a b) (fun c _ _ a b => condCQ (evCQ ng c) a b) (fun id _ a => blockCQ id a) (fun _ a => loopCQ N a)
    (fun _ _ _ _ _ _ => ⟨fun _ _ _ => .no⟩) (fun id => ⟨fun _ T H => .ok (.exit id) T H⟩) (fun _ a => scopeCQ a)
    (fun _ => ⟨fun _ T H => .ok .normal T H⟩) (fun l => ⟨fun _ T H => .ok (.goto l) T H⟩) ⟨fun _ T H => .ok .ret T H⟩ (fun _ => ⟨fun _ _ _ => .no⟩) c

/-! it is right -/
theorem toR_ok {r : RQ} {e : Ex} {T' : TT AV} {H' : Heap} (h : toR r = .ok e T' H') : ∃ F', r = .ok e F' H' ∧ T' = tt F' := by
  cases r with
  | no => cases h
  | ok e1 F1 H1 => cases h; exact ⟨_, rfl, rfl⟩
noncomputable def GQ (P : Program) (ng ro N nt : Nat) (ih : Fns) (c : Code) : TT AV → Heap → R0 := fun T H => toR ((cdCQ P ng ro N nt c).run ih (ofQ 9 T) H)
theorem GQ_tt {ih : Fns} {c : Code} (F : FT) (H : Heap) : GQ P ng ro N nt ih c (tt F) H = toR ((cdCQ P ng ro N nt c).run ih F H) := by
  unfold GQ
  rw [show ofQ 9 (tt F) = F from ofQ_tt 9 F]
theorem CodeOK.ofQ {c : Code} {f g : TT AV → Heap → R0} (h : CodeOK P env ro ng nt c f) (hi : ∀ T H e T' H', g T H = .ok e T' H' → f (tt (Go.Ai.ofQ 9 T)) H = .ok e T' H') : CodeOK P env ro ng nt c g := fun rd n0 T H ρ a w e T' H' h1 h2 h3 h4 h5 h6 h7 => h rd n0 (tt (Go.Ai.ofQ 9 T)) H ρ a w e T' H' h1 h2 h3.of_tt h4 h5 h6 (hi _ _ _ _ _ h7)
open Classical in
theorem cdCQ_ok (hN : NamesOK P) (hm : P.follows .mixedOrders = true) {ih : Fns} (hc : CallOK P env ro ng ih.ca) (hy : YieldOK P env ro ng ih.yi) : ∀ c : Code, CodeOK P env ro ng nt c (GQ P ng ro N nt ih c) := by
  have st := fun c g hg => code_step (nt := nt) hN hm hc hy c g hg
  have st0 := fun c => st c (fun _ _ _ => .no) fun _ => CodeOK.no
  intro c
  induction c with
  | skip => exact (st0 .skip).ofQ fun T H e T' H' h => h
  | label l => exact (st0 (.label l)).ofQ fun T H e T' H' h => h
  | exit id => exact (st0 (.exit id)).ofQ fun T H e T' H' h => h
  | goto l => exact (st0 (.goto l)).ofQ fun T H e T' H' h => h
  | ret => exact (st0 .ret).ofQ fun T H e T' H' h => h
  | refuse why => exact (st0 (.refuse why)).ofQ fun T H e T' H' h => by cases h
  | rangeFunc g ps as bd _ _ => exact (st0 (.rangeFunc g ps as bd)).ofQ fun T H e T' H' h => by cases h
  | region id ops d =>
    cases d with
    | true =>
      refine (st0 (.region id ops true)).ofQ fun T H e T' H' h => ?_
      obtain ⟨F', h1, rfl⟩ := toR_ok h
      exact (regCQ_ok (ih := ih) h1 :)
    | false =>
      refine (st0 (.region id ops false)).ofQ fun T H e T' H' h => ?_
      obtain ⟨F', h1, rfl⟩ := toR_ok h
      exact (sgoCQ_ok (ih := ih) (e := e) (T' := F') (H' := H') ops.toList _ H h1 :)
  | seq a b iha ihb =>
    refine (st (.seq a b) (fun c' => if c' = a then GQ P ng ro N nt ih a else if c' = b then GQ P ng ro N nt ih b else fun _ _ => .no) fun c' => ?_).ofQ fun T H e T' H' h => ?_
    · by_cases e1 : c' = a
      · subst e1; simp only [if_true]; exact iha
      · by_cases e2 : c' = b
        · subst e2; simp only [if_neg e1, if_true]; exact ihb
        · simp only [if_neg e1, if_neg e2]; exact CodeOK.no
    · have hB : (if b = a then GQ P ng ro N nt ih a else GQ P ng ro N nt ih b) = GQ P ng ro N nt ih b := by
        by_cases e1 : b = a
        · rw [if_pos e1, e1]
        · rw [if_neg e1]
      have h : toR (@RQ.rec (fun _ => RQ) (fun e T' H' => @Ex.rec (fun _ => RQ) ((cdCQ P ng ro N nt b).run ih T' H') (fun id => .ok (.exit id) T' H') (fun l => .ok (.goto l) T' H') (.ok .ret T' H') e) .no ((cdCQ P ng ro N nt a).run ih (ofQ 9 T) H)) = .ok e T' H' := h
      simp only [exX, if_true, GQ_tt]
      cases hx : (cdCQ P ng ro N nt a).run ih (ofQ 9 T) H with
      | no => rw [hx] at h; cases h
      | ok e1 T1 H1 =>
        rw [hx] at h
        cases e1 with
        | normal => simp only [toR, hB, GQ_tt]; exact h
        | _ => exact h
  | cond c a b iha ihb =>
    refine (st (.cond c a b) (fun c' => if c' = a then GQ P ng ro N nt ih a else if c' = b then GQ P ng ro N nt ih b else fun _ _ => .no) fun c' => ?_).ofQ fun T H e T' H' h => ?_
    · by_cases e1 : c' = a
      · subst e1; simp only [if_true]; exact iha
      · by_cases e2 : c' = b
        · subst e2; simp only [if_neg e1, if_true]; exact ihb
        · simp only [if_neg e1, if_neg e2]; exact CodeOK.no
    · have hB : (if b = a then GQ P ng ro N nt ih a else GQ P ng ro N nt ih b) = GQ P ng ro N nt ih b := by
        by_cases e1 : b = a
        · rw [if_pos e1, e1]
        · rw [if_neg e1]
      have h : toR (bRQ ((evCQ ng c).run (ofQ 9 T)) (fun v => boolRQ v ((cdCQ P ng ro N nt a).run ih (ofQ 9 T) H) ((cdCQ P ng ro N nt b).run ih (ofQ 9 T) H))) = .ok e T' H' := h
      rw [evCQ_eq] at h
      simp only [exX, if_true]
      cases hx : ev ng (tt (ofQ 9 T)) c with
      | none => rw [hx] at h; cases h
      | some v =>
        rw [hx] at h
        cases v with
        | b x => cases x with
          | true => simp only [GQ_tt]; exact h
          | false => simp only [hB, GQ_tt]; exact h
        | _ => cases h
  | block id a iha =>
    refine (st (.block id a) (fun c' => if c' = a then GQ P ng ro N nt ih a else fun _ _ => .no) fun c' => ?_).ofQ fun T H e T' H' h => ?_
    · by_cases e1 : c' = a
      · subst e1; simp only [if_true]; exact iha
      · simp only [if_neg e1]; exact CodeOK.no
    · have h : toR (@RQ.rec (fun _ => RQ) (fun e T' H' => @Ex.rec (fun _ => RQ) (.ok .normal T' H') (fun id' => Bool.rec (motive := fun _ => RQ) (.ok (.exit id') T' H') (.ok .normal T' H') (Nat.beq id' id)) (fun l => .ok (.goto l) T' H') (.ok .ret T' H') e) .no ((cdCQ P ng ro N nt a).run ih (ofQ 9 T) H)) = .ok e T' H' := h
      simp only [exX, if_true, GQ_tt]
      cases hx : (cdCQ P ng ro N nt a).run ih (ofQ 9 T) H with
      | no => rw [hx] at h; cases h
      | ok e1 T1 H1 =>
        rw [hx] at h
        cases e1 with
        | exit id' =>
          simp only [toR] at h ⊢
          cases hb : Nat.beq id' id with
          | true => simp only [hb] at h; exact h
          | false => simp only [hb] at h; exact h
        | _ => exact h
  | scope a iha =>
    refine (st (.scope a) (fun c' => if c' = a then GQ P ng ro N nt ih a else fun _ _ => .no) fun c' => ?_).ofQ fun T H e T' H' h => ?_
    · by_cases e1 : c' = a
      · subst e1; simp only [if_true]; exact iha
      · simp only [if_neg e1]; exact CodeOK.no
    · have h : toR (@RQ.rec (fun _ => RQ) (fun e T' H' => @Ex.rec (fun _ => RQ) (.ok .normal T' H') (fun id => .ok (.exit id) T' H') (fun _ => .no) (.ok .ret T' H') e) .no ((cdCQ P ng ro N nt a).run ih (ofQ 9 T) H)) = .ok e T' H' := h
      simp only [exX, if_true, GQ_tt]
      cases hx : (cdCQ P ng ro N nt a).run ih (ofQ 9 T) H with
      | no => rw [hx] at h; cases h
      | ok e1 T1 H1 =>
        rw [hx] at h
        cases e1 with
        | goto l => cases h
        | _ => exact h
  | loop a iha =>
    have key : ∀ n, CodeOK P env ro ng nt (.loop a) (fun T H => toR (loopNQ (cdCQ P ng ro N nt a) ih n (ofQ 9 T) H)) := fun n => by
      induction n with
      | zero => exact fun _ _ _ _ _ _ _ _ _ _ _ _ _ _ _ _ h => by cases h
      | succ n ihn =>
        refine (st (.loop a) (fun c' => if c' = a then GQ P ng ro N nt ih a else if c' = .loop a then (fun T H => toR (loopNQ (cdCQ P ng ro N nt a) ih n (ofQ 9 T) H)) else fun _ _ => .no) fun c' => ?_).ofQ fun T H e T' H' h => ?_
        · by_cases e1 : c' = a
          · subst e1; simp only [if_true]; exact iha
          · by_cases e2 : c' = .loop a
            · subst e2; simp only [if_neg e1, if_true]; exact ihn
            · simp only [if_neg e1, if_neg e2]; exact CodeOK.no
        · have hne : (if Code.loop a = a then GQ P ng ro N nt ih a else (fun T H => toR (loopNQ (cdCQ P ng ro N nt a) ih n (ofQ 9 T) H))) = (fun T H => toR (loopNQ (cdCQ P ng ro N nt a) ih n (ofQ 9 T) H)) := by
            have e1 : Code.loop a ≠ a := fun e => by
              have h1 : SizeOf.sizeOf (Code.loop a) = SizeOf.sizeOf a := by rw [e]
              simp at h1
            rw [if_neg e1]
          have h : toR (@RQ.rec (fun _ => RQ) (fun e T' H' => @Ex.rec (fun _ => RQ) (loopNQ (cdCQ P ng ro N nt a) ih n T' H') (fun id => .ok (.exit id) T' H') (fun l => .ok (.goto l) T' H') (.ok .ret T' H') e) .no ((cdCQ P ng ro N nt a).run ih (ofQ 9 T) H)) = .ok e T' H' := h
          simp only [exX, if_true, GQ_tt]
          cases hx : (cdCQ P ng ro N nt a).run ih (ofQ 9 T) H with
          | no => rw [hx] at h; cases h
          | ok e1 T1 H1 =>
            rw [hx] at h
            cases e1 with
            | normal =>
              refine Eq.trans (congrFun (congrFun hne (tt T1)) H1) ?_
              show toR (loopNQ (cdCQ P ng ro N nt a) ih n (ofQ 9 (tt T1)) H1) = _
              rw [show ofQ 9 (tt T1) = T1 from ofQ_tt 9 T1]
              exact h
            | _ => exact h
    exact key N

/-! calls -/
noncomputable def resQ (P : Program) : List ResultVar → Cl (FT → Heap → Option (List AV))
  | [] => ⟨fun _ _ => some []⟩
  | .tmp t :: l => (inl (gQ t) fun z0 => inl (resQ P l) fun z1 => ⟨fun T H => bO (z0 T) fun v => bO (z1 T H) fun vs => some (v :: vs)⟩)
  | .cell a t :: l => (inl (gQ a) fun z0 => inl (loadC P t) fun z1 => inl (resQ P l) fun z2 => ⟨fun T H => bO (z0 T) fun x => bO (z1 H x) fun v => bO (z2 T H) fun vs => some (v :: vs)⟩)
theorem resQ_some {T : FT} {H : Heap} : ∀ {l : List ResultVar} {vs : List AV}, (resQ P l).run T H = some vs → resA P (tt T) H l = some vs
  | [], vs, h => h
  | .tmp t :: l, vs, h => by
    simp only [resQ, inl_eq] at h
    obtain ⟨v, h1, h⟩ := bO_some h
    obtain ⟨us, h2, h⟩ := bO_some h
    rw [gQ_eq] at h1
    simp only [resA, h1, resQ_some h2]
    exact h
  | .cell a t :: l, vs, h => by
    simp only [resQ, inl_eq] at h
    obtain ⟨x, h1, h⟩ := bO_some h
    obtain ⟨v, h2, h⟩ := bO_some h
    obtain ⟨us, h3, h⟩ := bO_some h
    rw [gQ_eq] at h1
    simp only [resA, h1, loadC_some h2, resQ_some h3]
    exact h
noncomputable def finQ (rs : Cl (FT → Heap → Option (List AV))) (r : RQ) : Option (AV × Heap) :=
  @RQ.rec (fun _ => Option (AV × Heap)) (fun e T H => @Ex.rec (fun _ => Option (AV × Heap)) (bO (rs.run T H) fun vs => some (oneL vs, H)) (fun _ => none) (fun _ => none) (bO (rs.run T H) fun vs => some (oneL vs, H)) e) none r
noncomputable def argQ : List AV → Nat → FT → FT := @List.rec AV (fun _ => Nat → FT → FT) (fun _ T => T) (fun v _ ih i T => ih (Nat.succ i) ((sQ i).run T v))
theorem argQ_eq : ∀ (l : List AV) (i : Nat) (T : TT AV), i + l.length ≤ 511 → argQ l i (ofQ 9 T) = ofQ 9 (argT i l T)
  | [], i, T, _ => rfl
  | v :: l, i, T, h => by
    simp only [List.length_cons] at h
    show argQ l (i + 1) ((setQ 9 i).run (ofQ 9 T) v) = ofQ 9 (argT (i + 1) l (T.set v i))
    rw [← ofQ_set 9 i T v (by omega)]
    exact argQ_eq l (i + 1) _ (by omega)
noncomputable def bodyQ (P : Program) (ng ro N : Nat) (fn : Func) (c : Code) : Cl (Fns → List AV → Heap → Option (AV × Heap)) :=
  bif Nat.ble fn.ntmps 511 then
    (inl (cdCQ P ng ro N fn.ntmps c) fun z0 => ⟨fun ih args H => Bool.rec (motive := fun _ => Option (AV × Heap)) none (finQ (resQ P fn.results.toList) (z0 ih (argQ args 0 (mtQ 9)) H)) (Nat.ble (lenF' args) fn.ntmps)⟩)
  else ⟨fun _ _ _ => none⟩
noncomputable def funQ (P : Program) (ng ro N : Nat) (f : FuncId) : Cl (Fns → List AV → Heap → Option (AV × Heap)) :=
  match P.funcs[f]? with
  | some fn => match fn.body with
    | some c => bodyQ P ng ro N fn c
    | none => ⟨fun _ _ _ => none⟩
  | none => ⟨fun _ _ _ => none⟩
noncomputable def exQ (P : Program) (ng ro N : Nat) (ih : Fns) : Fns := ⟨fun nt c T H => GQ P ng ro N nt ih c T H, ih.ca, ih.yi⟩
theorem funQ_some {ih : Fns} {f : FuncId} {args : List AV} {H : Heap} {r : AV × Heap} (h : (funQ P ng ro N f).run ih args H = some r) : caB P (exQ P ng ro N ih) f args H = some r := by
  unfold funQ at h
  unfold caB
  split at h
  · rename_i fn hfn
    split at h
    · rename_i c hc
      unfold bodyQ at h
      cases hb : Nat.ble fn.ntmps 511 with
      | false => rw [hb] at h; cases h
      | true =>
        rw [hb] at h
        have hb := ble_true hb
        have h : Bool.rec (motive := fun _ => Option (AV × Heap)) none (finQ (resQ P fn.results.toList) ((cdCQ P ng ro N fn.ntmps c).run ih (argQ args 0 (ofQ 9 .e)) H)) (Nat.ble (lenF' args) fn.ntmps) = some r := h
        rw [lenF'_eq] at h
        obtain ⟨h1, h⟩ := brec_some h
        have h1 := ble_true h1
        rw [argQ_eq args 0 .e (by omega)] at h
        have hnt : args.length + (fn.ntmps - args.length) = fn.ntmps := by omega
        simp only [hfn, hc, hnt]
        show finX P fn (toR ((cdCQ P ng ro N fn.ntmps c).run ih (ofQ 9 (argT 0 args .e)) H)) = some r
        generalize (cdCQ P ng ro N fn.ntmps c).run ih (ofQ 9 (argT 0 args .e)) H = R at h ⊢
        cases R with
        | no => cases h
        | ok e T1 H1 =>
          have fin : bO ((resQ P fn.results.toList).run T1 H1) (fun vs => some (oneL vs, H1)) = some r → (match resA P (tt T1) H1 fn.results.toList with | some vs => some (oneOf vs, H1) | none => none) = some r := fun h => by
            obtain ⟨vs, h2, h⟩ := bO_some h
            rw [oneL_eq] at h
            simp only [resQ_some h2]
            exact h
          cases e with
          | normal => exact fin h
          | ret => exact fin h
          | _ => cases h
    · cases h
  · cases h
/-- a call: by nested rows, and where that does not do, as before -/
noncomputable def fun2 (P : Program) (ng ro N : Nat) (f : FuncId) : Cl (Fns → List AV → Heap → Option (AV × Heap)) :=
  (inl (funC P ng ro N f) fun z0 => inl (funQ P ng ro N f) fun z1 => ⟨fun ih args H => Option.rec (motive := fun _ => Option (AV × Heap)) (z0 ih args H) some (z1 ih args H)⟩)
noncomputable def caQ (P : Program) (ng ro N : Nat) (S : Sums) (f : FuncId) : Cl (Fns → List AV → Heap → Option (AV × Heap)) :=
  match S f with
  | some g => ⟨fun ih args H => Option.rec (motive := fun _ => Option (AV × Heap)) ((fun2 P ng ro N f).run ih args H) some (g args H)⟩
  | none => fun2 P ng ro N f
noncomputable def fnsQ (P : Program) (ng ro N : Nat) (S : Sums) (n : Nat) : Fns :=
  Nat.rec ⟨fun _ _ _ _ => .no, fun _ _ _ => none, fun _ _ _ => none⟩ (fun _ ih => ⟨fun nt c T H => (cdC P ng ro N nt c).run ih T H, fun f args H => (caQ P ng ro N S f).run ih args H, yiX ro (exF P ng ro N ih)⟩) n
theorem caQ_some {ih : Fns} {f : FuncId} {args : List AV} {H : Heap} {r : AV × Heap} (h : (caQ P ng ro N S f).run ih args H = some r) : caX P S (exQ P ng ro N ih) f args H = some r ∨ caX P S (exF P ng ro N ih) f args H = some r := by
  have h2 : ∀ {r}, (fun2 P ng ro N f).run ih args H = some r → caB P (exQ P ng ro N ih) f args H = some r ∨ caB P (exF P ng ro N ih) f args H = some r := fun {r} h => by
    have h : Option.rec (motive := fun _ => Option (AV × Heap)) ((funC P ng ro N f).run ih args H) some ((funQ P ng ro N f).run ih args H) = some r := h
    cases hq : (funQ P ng ro N f).run ih args H with
    | none => rw [hq] at h; exact .inr (funC_some h)
    | some q => rw [hq] at h; cases h; exact .inl (funQ_some hq)
  unfold caQ at h
  unfold caX
  cases hs : S f with
  | none => rw [hs] at h; exact h2 h
  | some g =>
    rw [hs] at h
    have h : Option.rec (motive := fun _ => Option (AV × Heap)) ((fun2 P ng ro N f).run ih args H) some (g args H) = some r := h
    simp only
    cases hg : g args H with
    | none => rw [hg] at h; exact h2 h
    | some q => rw [hg] at h; exact .inl h
theorem fnsQ_ok (hN : NamesOK P) (hm : P.follows .mixedOrders = true) (hS : SumsOK P env ro ng S) : ∀ n, FnsOK P env ro ng (fnsQ P ng ro N S n)
  | 0 => by
    refine ⟨fun f args us H w ρ v H' _ _ _ h => ?_, fun l args us H w ρ v H' _ _ _ h => ?_, fun rd nt n0 code T H ρ a w e T' H' _ _ _ _ _ _ h => ?_⟩
    · have h' : (none : Option (AV × Heap)) = some (v, H') := h
      cases h'
    · have h' : (none : Option (AV × Heap)) = some (v, H') := h
      cases h'
    · have h' : R0.no = R0.ok e T' H' := h
      cases h'
  | n + 1 => by
    have ih := fnsQ_ok hN hm hS n
    have hex : ExOK P env ro ng (exF P ng ro N (fnsQ P ng ro N S n)).ex := ExOK.of_code fun nt c => cdC_ok hN hm ih.ca ih.yi c
    have hF : FnsOK P env ro ng (exF P ng ro N (fnsQ P ng ro N S n)) := ⟨ih.ca, ih.yi, hex⟩
    have hex2 : ExOK P env ro ng (exQ P ng ro N (fnsQ P ng ro N S n)).ex := ExOK.of_code fun nt c => cdCQ_ok hN hm ih.ca ih.yi c
    have hF2 : FnsOK P env ro ng (exQ P ng ro N (fnsQ P ng ro N S n)) := ⟨ih.ca, ih.yi, hex2⟩
    exact ⟨fun f args us H w ρ v H' h1 h2 h3 h4 => (caQ_some h4).elim (caX_ok hS hF2 f args us H w ρ v H' h1 h2 h3) (caX_ok hS hF f args us H w ρ v H' h1 h2 h3), yiX_ok hF, hex⟩

end
end Go.Ai
/- A function's own code run from place to place: the run may be cut between any two of its steps. -/
namespace Go.Ai
open Go.RowKit
/-- a part of a code -/
def kid (c : Code) (i : Nat) : Option Code :=
  match c with
  | .seq a b => match i with
    | 0 => some a
    | _ => some b
  | .cond _ a b => match i with
    | 0 => some a
    | _ => some b
  | .block _ c => some c
  | .loop c => some c
  | _ => none
/-- a place: the last step first -/
def subC (c : Code) : List Nat → Option Code
  | [] => some c
  | i :: p => match subC c p with
    | some d => kid d i
    | none => none
/-- what is still to be done -/
inductive KF where
  | code (p : List Nat)
  | bend (id : Nat)
  | lend (p : List Nat)
/-- where a run stands -/
inductive KR where
  | no
  | at (K : List KF) (T : TT AV) (H : Heap)
  | done (T : TT AV) (H : Heap)
def wpK (P : Program) (c0 : Code) (Q : Exit → Act → World → Prop) : List KF → Exit → Act → World → Prop
  | [] => Q
  | .code p :: K => Exit.then (fun a w => ∃ c, subC c0 p = some c ∧ c.wpIn (Fc none) 0 P (wpK P c0 Q K) a w) (wpK P c0 Q K)
  | .bend id :: K => Exit.inBlock id (wpK P c0 Q K)
  | .lend p :: K => Exit.then (fun a w => ∃ c, subC c0 p = some (.loop c) ∧ LoopWp none P c (wpK P c0 Q K) a w) (wpK P c0 Q K)
section
variable {P : Program} {env : Nat → Value} {ng ro nt : Nat} {c0 : Code}
theorem LoopWp.mono {rd : Option Nat} {c : Code} {Q Q' : Exit → Act → World → Prop} {a : Act} {w : World} (h : LoopWp rd P c Q a w) (hq : ∀ e a w, Q e a w → Q' e a w) : LoopWp rd P c Q' a w := fun b k cs hro hb hr =>
  let ⟨e, a', w', q, r⟩ := h b k cs hro hb hr
  ⟨e, a', w', hq _ _ _ q, r⟩
theorem wpK_mono {Q Q' : Exit → Act → World → Prop} (hq : ∀ e a w, Q e a w → Q' e a w) : ∀ (K : List KF) (e : Exit) (a : Act) (w : World), wpK P c0 Q K e a w → wpK P c0 Q' K e a w
  | [], e, a, w, h => hq e a w h
  | .code p :: K, e, a, w, h => by
    cases e with
    | normal =>
      obtain ⟨c, h1, h2⟩ := h
      exact ⟨c, h1, wpIn_mono h2 (wpK_mono hq K)⟩
    | _ => exact wpK_mono hq K _ a w h
  | .bend id :: K, e, a, w, h => by
    cases e with
    | exit id' =>
      simp only [wpK, Exit.inBlock] at h ⊢
      split at h
      · rename_i e1
        rw [if_pos e1]
        exact wpK_mono hq K _ a w h
      · rename_i e1
        rw [if_neg e1]
        exact wpK_mono hq K _ a w h
    | _ => exact wpK_mono hq K _ a w h
  | .lend p :: K, e, a, w, h => by
    cases e with
    | normal =>
      obtain ⟨c, h1, h2⟩ := h
      exact ⟨c, h1, LoopWp.mono h2 (wpK_mono hq K)⟩
    | _ => exact wpK_mono hq K _ a w h
theorem wpK_ret {Q : Exit → Act → World → Prop} {a : Act} {w : World} (h : Q .ret a w) : ∀ K : List KF, wpK P c0 Q K .ret a w
  | [] => h
  | .code _ :: K => wpK_ret h K
  | .bend _ :: K => wpK_ret h K
  | .lend _ :: K => wpK_ret h K
noncomputable def outK (id : Nat) : List KF → Option (List KF)
  | [] => none
  | .bend i :: K => bif Nat.beq id i then some K else outK id K
  | .code _ :: K => outK id K
  | .lend _ :: K => outK id K
theorem outK_ok {id : Nat} {Q : Exit → Act → World → Prop} {a : Act} {w : World} : ∀ {K K' : List KF}, outK id K = some K' → wpK P c0 Q K' .normal a w → wpK P c0 Q K (.exit id) a w
  | [], K', h, _ => by cases h
  | .bend i :: K, K', h, hk => by
    unfold outK at h
    simp only [wpK, Exit.inBlock]
    cases hb : Nat.beq id i with
    | true =>
      rw [hb] at h; cases h
      rw [if_pos (beq_true hb)]
      exact hk
    | false =>
      rw [hb] at h
      rw [if_neg (beq_false hb)]
      exact outK_ok h hk
  | .code _ :: K, K', h, hk => outK_ok (K := K) h hk
  | .lend _ :: K, K', h, hk => outK_ok (K := K) h hk
noncomputable def runC (ng : Nat) (F : Fns) (nt : Nat) (p : List Nat) (K : List KF) (T : TT AV) (H : Heap) (c : Code) : KR :=
  match c with
  | .seq _ _ => .at (.code (0 :: p) :: .code (1 :: p) :: K) T H
  | .cond x _ _ => match ev ng T x with
    | some (.b true) => .at (.code (0 :: p) :: K) T H
    | some (.b false) => .at (.code (1 :: p) :: K) T H
    | _ => .no
  | .block id _ => .at (.code (0 :: p) :: .bend id :: K) T H
  | .loop _ => .at (.code (0 :: p) :: .lend p :: K) T H
  | c => bif noRF c then (match F.ex nt c T H with
    | .ok .normal T' H' => .at K T' H'
    | .ok .ret T' H' => .done T' H'
    | .ok (.exit id) T' H' => match outK id K with
      | some K' => .at K' T' H'
      | none => .no
    | _ => .no) else .no
noncomputable def stK (ng : Nat) (F : Fns) (nt : Nat) (c0 : Code) (K : List KF) (T : TT AV) (H : Heap) : KR :=
  match K with
  | [] => .done T H
  | .bend _ :: K => .at K T H
  | .lend p :: K => match subC c0 p with
    | some (.loop _) => .at (.code (0 :: p) :: .lend p :: K) T H
    | _ => .no
  | .code p :: K => match subC c0 p with
    | some c => runC ng F nt p K T H c
    | none => .no
/-- what is known where a run stands -/
structure At (env : Nat → Value) (ng nt : Nat) (n0 : MK) (ρ : Ren) (T : TT AV) (H : Heap) (a : Act) (w : World) : Prop where
  rel : Rel env ρ H w
  g : GOK ng ρ
  fr : FR ρ env T a.tmps
  size : a.tmps.size = nt
  marks : Marks n0 ρ H w a.defers
def Fin (env : Nat → Value) (ro ng nt : Nat) (n0 : MK) (R : TT AV → Heap → Prop) (ρ : Ren) (H : Heap) (w : World) : Exit → Act → World → Prop :=
  fun e a' w' => ∃ ρ' T' H', (e = .normal ∨ e = .ret) ∧ R T' H' ∧ At env ng nt n0 ρ' T' H' a' w' ∧ Step env ro ρ H w ρ' H' w'
/-- from here the run ends as is wanted -/
def CfgOK (P : Program) (env : Nat → Value) (ro ng nt : Nat) (c0 : Code) (R : TT AV → Heap → Prop) (K : List KF) (T : TT AV) (H : Heap) : Prop :=
  ∀ (n0 : MK) (ρ : Ren) (a : Act) (w : World), n0.2 = some [] → At env ng nt n0 ρ T H a w → wpK P c0 (Fin env ro ng nt n0 R ρ H w) K .normal a w
def KR.OK (P : Program) (env : Nat → Value) (ro ng nt : Nat) (c0 : Code) (R : TT AV → Heap → Prop) : KR → Prop
  | .no => False
  | .at K T H => CfgOK P env ro ng nt c0 R K T H
  | .done T H => R T H
theorem CfgOK.exit {R : TT AV → Heap → Prop} {n0 : MK} {ρ ρ' : Ren} {H H' : Heap} {a : Act} {w w' : World} {T : TT AV} {K : List KF} (h : CfgOK P env ro ng nt c0 R K T H') (hn : n0.2 = some []) (hA : At env ng nt n0 ρ' T H' a w') (s : Step env ro ρ H w ρ' H' w') :
    wpK P c0 (Fin env ro ng nt n0 R ρ H w) K .normal a w' :=
  wpK_mono (fun e a1 w1 hq => by
    obtain ⟨ρ1, T1, H1, h1, h2, h3, h4⟩ := hq
    exact ⟨ρ1, T1, H1, h1, h2, h3, s.trans h4⟩) K _ _ _ (h n0 ρ' a w' hn hA)
theorem runC_other {F : Fns} (hF : FnsOK P env ro ng F) {R : TT AV → Heap → Prop} {n0 : MK} {ρ : Ren} {H : Heap} {a : Act} {w : World} {T : TT AV} {K : List KF} {c : Code} (hn : n0.2 = some []) (hA : At env ng nt n0 ρ T H a w) (hc : noRF c = true)
    (h : (match F.ex nt c T H with
    | .ok .normal T' H' => KR.at K T' H'
    | .ok .ret T' H' => .done T' H'
    | .ok (.exit id) T' H' => match outK id K with
      | some K' => .at K' T' H'
      | none => .no
    | _ => .no).OK P env ro ng nt c0 R) : c.wpIn (Fc none) 0 P (wpK P c0 (Fin env ro ng nt n0 R ρ H w) K) a w := by
  cases hx : F.ex nt c T H with
  | no => rw [hx] at h; exact h.elim
  | ok e T' H' =>
    rw [hx] at h
    refine wpIn_mono (hF.ex none nt n0 c T H ρ a w e T' H' hA.rel hA.g hA.fr hA.size hA.marks (fun _ => hc) hx).1 fun e' a' w' hq => ?_
    obtain ⟨ρ', rfl, h2, h3, h4, h5, h6⟩ := hq
    have hA' : At env ng nt n0 ρ' T' H' a' w' := ⟨h6.rel, h5, h2, h3, h4⟩
    cases e with
    | normal => exact CfgOK.exit h hn hA' h6
    | ret => exact wpK_ret (show Fin env ro ng nt n0 R ρ H w .ret a' w' from ⟨ρ', T', H', .inr rfl, h, hA', h6⟩) K
    | goto l => exact h.elim
    | exit id =>
      simp only at h
      cases ho : outK id K with
      | none => rw [ho] at h; exact h.elim
      | some K' =>
        rw [ho] at h
        exact outK_ok ho (CfgOK.exit h hn hA' h6)
theorem runC_ok {F : Fns} (hF : FnsOK P env ro ng F) {R : TT AV → Heap → Prop} {n0 : MK} {ρ : Ren} {H : Heap} {a : Act} {w : World} {T : TT AV} {p : List Nat} {K : List KF} {c : Code} (hp : subC c0 p = some c) (hn : n0.2 = some []) (hA : At env ng nt n0 ρ T H a w)
    (h : (runC ng F nt p K T H c).OK P env ro ng nt c0 R) : c.wpIn (Fc none) 0 P (wpK P c0 (Fin env ro ng nt n0 R ρ H w) K) a w := by
  have kid0 : ∀ (i : Nat) (d : Code), kid c i = some d → subC c0 (i :: p) = some d := fun i d hk => by simp only [subC, hp]; exact hk
  cases c with
  | seq x y =>
    obtain ⟨c1, h1, h2⟩ := CfgOK.exit h hn hA (Step.refl hA.rel)
    rw [kid0 0 x rfl] at h1; cases h1
    refine wpIn_seq (wpIn_mono h2 fun e a w hq => ?_)
    cases e with
    | normal =>
      obtain ⟨c2, h3, h4⟩ := hq
      rw [kid0 1 y rfl] at h3; cases h3
      exact h4
    | _ => exact hq
  | cond x y z =>
    unfold runC at h
    simp only at h
    split at h
    · rename_i hc
      have := ev_ok (a := a) (env := env) hA.g hA.fr hc
      simp only [VR] at this
      obtain ⟨c1, h1, h2⟩ := CfgOK.exit h hn hA (Step.refl hA.rel)
      rw [kid0 0 y rfl] at h1; cases h1
      exact wpIn_cond_true this h2
    · rename_i hc
      have := ev_ok (a := a) (env := env) hA.g hA.fr hc
      simp only [VR] at this
      obtain ⟨c1, h1, h2⟩ := CfgOK.exit h hn hA (Step.refl hA.rel)
      rw [kid0 1 z rfl] at h1; cases h1
      exact wpIn_cond_false this h2
    · exact h.elim
  | block id x =>
    obtain ⟨c1, h1, h2⟩ := CfgOK.exit h hn hA (Step.refl hA.rel)
    rw [kid0 0 x rfl] at h1; cases h1
    exact wpIn_block h2
  | loop x =>
    obtain ⟨c1, h1, h2⟩ := CfgOK.exit h hn hA (Step.refl hA.rel)
    rw [kid0 0 x rfl] at h1; cases h1
    refine loop_of (loop_step (wpIn_mono h2 fun e a w hq => ?_))
    cases e with
    | normal =>
      obtain ⟨c2, h3, h4⟩ := hq
      rw [hp] at h3; cases h3
      exact h4
    | _ => exact hq
  | _ =>
    unfold runC at h
    simp only at h
    cases hr : noRF _ with
    | true => rw [hr] at h; exact runC_other hF hn hA hr h
    | false => rw [hr] at h; exact h.elim
theorem stK_ok {F : Fns} (hF : FnsOK P env ro ng F) {R : TT AV → Heap → Prop} {K : List KF} {T : TT AV} {H : Heap} (h : (stK ng F nt c0 K T H).OK P env ro ng nt c0 R) : CfgOK P env ro ng nt c0 R K T H := by
  intro n0 ρ a w hn hA
  unfold stK at h
  split at h
  · exact ⟨ρ, T, H, .inl rfl, h, hA, Step.refl hA.rel⟩
  · exact CfgOK.exit h hn hA (Step.refl hA.rel)
  · rename_i p K
    split at h
    · rename_i c hp
      obtain ⟨c1, h1, h2⟩ := CfgOK.exit h hn hA (Step.refl hA.rel)
      simp only [subC, hp, kid, Option.some.injEq] at h1
      subst h1
      refine ⟨c, hp, loop_step (wpIn_mono h2 fun e a w hq => ?_)⟩
      cases e with
      | normal =>
        obtain ⟨c2, h3, h4⟩ := hq
        rw [hp] at h3; cases h3
        exact h4
      | _ => exact hq
    · exact h.elim
  · rename_i p K
    cases hp : subC c0 p with
    | none => rw [hp] at h; exact h.elim
    | some c =>
      rw [hp] at h
      exact ⟨c, hp, runC_ok hF hp hn hA h⟩
/-- on, until so many blocks are known -/
noncomputable def runK (ng : Nat) (F : Fns) (nt : Nat) (c0 : Code) (lim : Nat) (n : Nat) : List KF → TT AV → Heap → KR :=
  @Nat.rec (fun _ => List KF → TT AV → Heap → KR) (fun K T H => .at K T H) (fun _ ih K T H => bif Nat.ble lim H.nx then .at K T H else match stK ng F nt c0 K T H with
    | .at K' T' H' => ih K' T' H'
    | r => r) n
theorem runK_ok {F : Fns} (hF : FnsOK P env ro ng F) {R : TT AV → Heap → Prop} {lim : Nat} : ∀ (n : Nat) {K : List KF} {T : TT AV} {H : Heap}, (runK ng F nt c0 lim n K T H).OK P env ro ng nt c0 R → CfgOK P env ro ng nt c0 R K T H
  | 0, K, T, H, h => h
  | n + 1, K, T, H, h => by
    have h : (bif Nat.ble lim H.nx then KR.at K T H else match stK ng F nt c0 K T H with
      | .at K' T' H' => runK ng F nt c0 lim n K' T' H'
      | r => r).OK P env ro ng nt c0 R := h
    cases hb : Nat.ble lim H.nx with
    | true => rw [hb] at h; exact h
    | false =>
      rw [hb] at h
      refine stK_ok hF ?_
      simp only [cond_false] at h
      cases hs : stK ng F nt c0 K T H with
      | no => rw [hs] at h; exact h
      | done T' H' => rw [hs] at h; exact h
      | «at» K' T' H' => rw [hs] at h; exact runK_ok hF n h
/-! a state that is told, and what is forgotten -/
def nlEq : List Nat → List Nat → Bool
  | [], [] => true
  | a :: x, b :: y => Nat.beq a b && nlEq x y
  | _, _ => false
theorem nlEq_ok : ∀ (x y : List Nat), nlEq x y = true → x = y
  | [], [], _ => rfl
  | [], b :: y, h => by cases h
  | a :: x, [], h => by cases h
  | a :: x, b :: y, h => by
    simp only [nlEq, Bool.and_eq_true] at h
    rw [beq_true h.1, nlEq_ok x y h.2]
def kfEq : List KF → List KF → Bool
  | [], [] => true
  | .code p :: x, .code q :: y => nlEq p q && kfEq x y
  | .bend p :: x, .bend q :: y => Nat.beq p q && kfEq x y
  | .lend p :: x, .lend q :: y => nlEq p q && kfEq x y
  | _, _ => false
theorem kfEq_ok (x y : List KF) (h : kfEq x y = true) : x = y := by
  induction x generalizing y with
  | nil => cases y with
    | nil => rfl
    | cons b y => cases b <;> cases h
  | cons a x ih =>
    cases y with
    | nil => cases a <;> cases h
    | cons b y =>
      cases a <;> cases b <;> simp only [kfEq, Bool.and_eq_true] at h <;> first | (cases h; done) | rw [nlEq_ok _ _ h.1, ih y h.2] | rw [beq_true h.1, ih y h.2]
noncomputable def frOf : List (Nat × AV) → TT AV
  | [] => .e
  | (t, v) :: l => (frOf l).set v t
noncomputable def frSub : List (Nat × AV) → TT AV → Bool
  | [], _ => true
  | (t, v) :: l, T => (match T.get t with
    | some u => avEq u v
    | none => false) && frSub l T
theorem frSub_get {T : TT AV} : ∀ {l : List (Nat × AV)}, frSub l T = true → ∀ {t : Nat} {v : AV}, (frOf l).get t = some v → T.get t = some v
  | [], _, t, v, h => by simp [frOf, TT.get_e] at h
  | (s, u) :: l, hs, t, v, h => by
    simp only [frSub, Bool.and_eq_true] at hs
    simp only [frOf, TT.get_set] at h
    by_cases e : t = s
    · rw [if_pos e] at h; cases h; subst e
      have h2 := hs.1
      split at h2
      · rename_i x hx
        rw [hx, avEq_ok _ _ h2]
      · cases h2
    · rw [if_neg e] at h
      exact frSub_get hs.2 h
/-- a tree within another -/
noncomputable def optLe (v v' : Option AO) : Bool :=
  match v with
  | none => true
  | some a => match v' with
    | some b => aoEq a b
    | none => false
noncomputable def subT (s : TT AO) : TT AO → Bool :=
  @TT.rec AO (fun _ => TT AO → Bool) (fun _ => true) (fun _ v _ il ir t => @TT.rec AO (fun _ => Bool) (optLe v none && (il .e && ir .e)) (fun l' v' r' _ _ => optLe v v' && (il l' && ir r')) t) s
theorem subT_get : ∀ (s t : TT AO), subT s t = true → ∀ {k : Nat} {o : AO}, s.get k = some o → t.get k = some o
  | .e, t, _, k, o, h => by rw [TT.get_e] at h; cases h
  | .n l v r, .e, hs, k, o, h => by
    have hs : (optLe v none && (subT l .e && subT r .e)) = true := hs
    simp only [Bool.and_eq_true] at hs
    rw [TT.get_n] at h
    split at h
    · rw [h] at hs; cases hs.1
    · split at h
      · have := subT_get r .e hs.2.2 h; rw [TT.get_e] at this; cases this
      · have := subT_get l .e hs.2.1 h; rw [TT.get_e] at this; cases this
  | .n l v r, .n l' v' r', hs, k, o, h => by
    have hs : (optLe v v' && (subT l l' && subT r r')) = true := hs
    simp only [Bool.and_eq_true] at hs
    rw [TT.get_n] at h ⊢
    split at h
    · rename_i hk
      rw [if_pos hk]
      rw [h] at hs
      have h1 := hs.1
      unfold optLe at h1
      simp only at h1
      split at h1
      · rename_i b hb; rw [aoEq_ok _ _ h1]
      · cases h1
    · rename_i hk
      rw [if_neg hk]
      split at h
      · rename_i h2; rw [if_pos h2]; exact subT_get r r' hs.2.2 h
      · rename_i h2; rw [if_neg h2]; exact subT_get l l' hs.2.1 h
/-- a state: where, the frame, the memory, how many blocks -/
structure St where
  K : List KF
  T : List (Nat × AV)
  H : TT AO
  nx : Nat
def St.OK (P : Program) (env : Nat → Value) (ro ng nt : Nat) (c0 : Code) (R : TT AV → Heap → Prop) (s : St) : Prop := CfgOK P env ro ng nt c0 R s.K (frOf s.T) ⟨s.H, s.nx⟩
/-- one tree told by what is unlike another -/
noncomputable def chg : List (Nat × AO) → TT AO → TT AO
  | [], t => t
  | (a, o) :: l, t => (chg l t).set o a
noncomputable def off : List Nat → TT AO → TT AO
  | [], t => t
  | a :: l, t => (off l t).del a
theorem Rel.less {ρ : Ren} {H : Heap} {w : World} (r : Rel env ρ H w) {b : TT AO} (h : subT b H.t = true) : Rel env ρ ⟨b, H.nx⟩ w := by
  have hg := fun {k o} => subT_get b H.t h (k := k) (o := o)
  refine ⟨fun a o c x h1 h2 => r.obj a o c x (hg h1) h2, fun a a' o o' c x x' h1 h2 h3 h4 => r.inj a a' o o' c x x' (hg h1) (hg h2) h3 h4, fun a ha => ⟨(r.new a ha).1, ?_⟩, r.one⟩
  cases hc : b.get a with
  | none => rfl
  | some o =>
    have := hg hc
    rw [(r.new a ha).2] at this; cases this
theorem Img.less {lo : Nat} {ρ : Ren} {H : Heap} {b : TT AO} {n : Nat} (h : subT b H.t = true) {c : Nat} (hi : Img lo ρ ⟨b, n⟩ c) : Img lo ρ H c := by
  obtain ⟨a, o, x, h1, h2, h3⟩ := hi
  exact ⟨a, o, x, h1, subT_get b H.t h h2, h3⟩
theorem At.less {n0 : MK} {ρ : Ren} {T : TT AV} {H : Heap} {a : Act} {w : World} (h : At env ng nt n0 ρ T H a w) {l : List (Nat × AV)} {b : TT AO} (h1 : frSub l T = true) (h2 : subT b H.t = true) : At env ng nt n0 ρ (frOf l) ⟨b, H.nx⟩ a w where
  rel := h.rel.less h2
  g := h.g
  fr := fun t v e => h.fr t v (frSub_get h1 e)
  size := h.size
  marks := by
    obtain ⟨m1, m2, l1, m3, m4, m5⟩ := h.marks
    refine ⟨m1, m2, l1, m3, m4, fun D hD => ?_⟩
    obtain ⟨m6, m7, m8⟩ := m5 D hD
    exact ⟨m6, m7, fun hi => m8 (Img.less h2 hi)⟩
theorem Step.forget {ρ : Ren} {H : Heap} {w : World} (r : Rel env ρ H w) {b : TT AO} (h : subT b H.t = true) : Step env ro ρ H w ρ ⟨b, H.nx⟩ w :=
  ⟨r.less h, fun _ _ => rfl, Nat.le_refl _, fun _ _ _ hi => .inl (Img.less h hi), fun _ _ _ => rfl, Nat.le_refl _, rfl, rfl, rfl⟩
noncomputable def chkK (r : KR) (s : St) : Bool :=
  match r with
  | .at K T H => kfEq K s.K && (Nat.beq H.nx s.nx && (frSub s.T T && subT s.H H.t))
  | _ => false
theorem chkK_ok {r : KR} {s : St} {R : TT AV → Heap → Prop} (h : chkK r s = true) (hs : s.OK P env ro ng nt c0 R) : r.OK P env ro ng nt c0 R := by
  unfold chkK at h
  split at h
  · rename_i K T H
    simp only [Bool.and_eq_true] at h
    obtain ⟨h1, h2, h3, h4⟩ := h
    have h1 := kfEq_ok _ _ h1
    have h2 := beq_true h2
    subst h1
    intro n0 ρ a w hn hA
    unfold St.OK at hs
    rw [← h2] at hs
    exact CfgOK.exit hs hn (hA.less h3 h4) (Step.forget hA.rel h4)
  · cases h
/-- from a state that is told to the next -/
theorem piece {F : Fns} (hF : FnsOK P env ro ng F) {R : TT AV → Heap → Prop} {lim n : Nat} {s s' : St} (h : chkK (runK ng F nt c0 lim n s.K (frOf s.T) ⟨s.H, s.nx⟩) s' = true) (hs : s'.OK P env ro ng nt c0 R) : s.OK P env ro ng nt c0 R := runK_ok hF n (chkK_ok h hs)
/-- the last -/
noncomputable def endK (P : Program) (rs : List ResultVar) (v : AV) (r : KR) : Bool :=
  match r with
  | .done T H => match resA P T H rs with
    | some [u] => avEq u v
    | _ => false
  | _ => false
theorem lastPiece {F : Fns} (hF : FnsOK P env ro ng F) {rs : List ResultVar} {v : AV} {lim n : Nat} {s : St} (h : endK P rs v (runK ng F nt c0 lim n s.K (frOf s.T) ⟨s.H, s.nx⟩) = true) : s.OK P env ro ng nt c0 (fun T' H' => resA P T' H' rs = some [v]) := by
  refine runK_ok (lim := lim) hF n ?_
  unfold endK at h
  split at h
  · rename_i T H hr
    rw [hr]
    split at h
    · rename_i u hu
      show resA P T H rs = some [v]
      rw [hu, avEq_ok _ _ h]
    · cases h
  · cases h
/-- a call, from its first place -/
theorem calls_of_cfg {f : FuncId} {fn : Func} (hfn : P.funcs[f]? = some fn) (hc : fn.body = some c0) {args : List AV} (hnt : args.length + (fn.ntmps - args.length) = nt) {us : List Value} {H : Heap} {w : World} {ρ : Ren} {v : AV} (r : Rel env ρ H w) (hg : GOK ng ρ) (ha : VRs ρ env args us)
    (h : CfgOK P env ro ng nt c0 (fun T' H' => resA P T' H' fn.results.toList = some [v]) [.code []] (argT 0 args .e) H) :
    Calls P f ⟨us⟩ w fun e w' => ∃ u ρ' H', e = .returned u ∧ VR ρ' env v u ∧ Step env ro ρ H w ρ' H' w' := by
  have hlen := ha.length
  have hsz : ((⟨us⟩ : Array Value) ++ Array.replicate (fn.ntmps - (⟨us⟩ : Array Value).size) undef).size = nt := by subst hnt; simp [hlen]
  have hfr : FR ρ env (argT 0 args .e) ((⟨us⟩ : Array Value) ++ Array.replicate (fn.ntmps - (⟨us⟩ : Array Value).size) undef) := fun t x ht => by
    rw [argT_get] at ht
    split at ht
    · rename_i hlt
      rw [Nat.sub_zero] at ht
      obtain ⟨u, h1, h2⟩ := ha.get ht
      refine ⟨u, ?_, h2⟩
      rw [Array.getElem?_append_left (by simp; omega)]
      simpa using h1
    · simp [TT.get_e] at ht
  obtain ⟨c, h1, hwp⟩ := h (w.heap.size, some []) ρ { tmps := (⟨us⟩ : Array Value) ++ Array.replicate (fn.ntmps - (⟨us⟩ : Array Value).size) undef, defers := [] } w rfl ⟨r, hg, hfr, hsz, ⟨Nat.le_refl _, fun d0 h => (by cases h; rfl), [], rfl, .nil, fun D hD => by cases hD⟩⟩
  cases h1
  refine (callsIn_wide (n := 0)).1 (callsIn_of_wp_marks (F := Fence.wide) hfn hc trivial (wpIn_mono hwp fun e' a' w' hq => ?_))
  obtain ⟨ρ', T', H', he, hres, hA, h6⟩ := hq
  have h4' : Marks (w.heap.size, none) ρ' H' w' a'.defers := ⟨hA.marks.le, fun _ h => (by cases h), hA.marks.row⟩
  suffices hle : LeavesInM Fence.wide 0 P fn a'.tmps (fun e w' => ∃ u ρ' H', e = .returned u ∧ VR ρ' env v u ∧ Step env ro ρ H w ρ' H' w') a'.defers .returning w' by
    rcases he with rfl | rfl <;> exact hle
  refine leaves_marks (ρ' := ρ') (H' := H') (fun w' h6 => ?_) h4' h6
  obtain ⟨xs, h7, h8⟩ := resA_ok (P := P) h6.rel hA.fr fn.results.toList [v] hres
  have hrun : (results fn a'.tmps).run P w' = .ok (if h : xs.length = 1 then xs[0] else .tuple ⟨xs⟩) w' := by
    unfold results
    rw [Sem.run_bind, Array.mapM_eq_mapM_toList, Sem.run_map]
    have h7' := h7
    refine Eq.trans (congrArg (fun z : Result (List Value) => (z.andThen fun a w' => Result.ok a.toArray w').andThen _) h7') ?_
    simp only [Result.andThen_ok, Sem.run_pure]
    congr 1
  match xs, h8, hrun with
  | [x], h8, hrun =>
    simp only [VRs] at h8
    obtain ⟨u, us', h9, h10, _⟩ := h8
    cases h9
    exact ⟨_, hrun, _, ρ', H', rfl, by simpa using h10, h6⟩
  | [], h8, _ => exact absurd h8.length (by simp)
  | _ :: _ :: _, h8, _ => exact absurd h8.length (by simp)
end
end Go.Ai
/- A call that is remembered, its memory told by trees. -/
namespace Go.Ai
section
variable {P : Program} {env : Nat → Value} {ng ro : Nat} {ρ ρ' : Ren} {w w' : World}
noncomputable def chkT (r : Option (AV × Heap)) (v : AV) (h' : TT AO) (n : Nat) : Bool :=
  match r with
  | some (v1, H1) => avEq v1 v && (Nat.beq H1.nx n && subT h' H1.t)
  | none => false
noncomputable def memoT (ags : List AV) (h : TT AO) (n : Nat) (v : AV) (h' : TT AO) (n' : Nat) (args : List AV) (H : Heap) : Option (AV × Heap) :=
  bif avEqs args ags && (Nat.beq H.nx n && subT h H.t) then some (v, ⟨h', n'⟩) else none
theorem Step.subT {H H1 : Heap} {h h' : TT AO} (hs : Go.Ai.subT h H.t = true) (hs' : Go.Ai.subT h' H1.t = true) (s : Step env ro ρ ⟨h, H.nx⟩ w ρ' H1 w') : Step env ro ρ H w ρ' ⟨h', H1.nx⟩ w' where
  rel := s.rel.less hs'
  old := s.old
  nx := s.nx
  img := fun lo c hl hc => (s.img lo c hl (Img.less hs' hc)).imp (Img.less hs) id
  keep := fun c hc hn => s.keep c hc (fun hi => hn (Img.less hs hi))
  size := s.size
  os := s.os
  tape := s.tape
  output := s.output
theorem memoT_ok {F : FuncId → List AV → Heap → Option (AV × Heap)} (hF : CallOK P env ro ng F) {f : FuncId} {ags : List AV} {h h' : TT AO} {n n' : Nat} {v : AV} (hc : chkT (F f ags ⟨h, n⟩) v h' n' = true) : SumIs P env ro ng f (memoT ags h n v h' n') := by
  intro args us H w ρ v2 H' r hg ha hm
  unfold memoT at hm
  cases hq : avEqs args ags && (Nat.beq H.nx n && subT h H.t) with
  | false => rw [hq] at hm; cases hm
  | true =>
    rw [hq] at hm; cases hm
    simp only [Bool.and_eq_true] at hq
    obtain ⟨h1, h2, h3⟩ := hq
    have h1 := avEqs_ok _ _ h1
    have h2 := beq_true h2
    subst h1 h2
    unfold chkT at hc
    split at hc
    · rename_i v1 H1 hr
      simp only [Bool.and_eq_true] at hc
      obtain ⟨h4, h5, h6⟩ := hc
      have h4 := avEq_ok _ _ h4
      have h5 := beq_true h5
      subst h4 h5
      refine (hF f args us ⟨h, H.nx⟩ w ρ v1 H1 (r.less h3) hg ha hr).mono fun e w' hq => ?_
      obtain ⟨u, ρ', rfl, h7, h8⟩ := hq
      exact ⟨u, ρ', rfl, h7, h8.subT h3 h6⟩
    · cases hc
end
end Go.Ai
