/- Regions that draw their order: one order is run, and what may come later is looked at again. -/
import Derived.Test.YtobdajealbhjmaaGreatDoorAc
import Derived.OrdersIn
import Derived.TacticsIn
import Derived.Tactics
import Derived.Scope
import Derived.RangeFuncRecord
namespace Go.Ai

/-! values alike -/
mutual
def avEq : AV → AV → Bool
  | .b x, .b y => x == y
  | .i k n, .i k' n' => decide (k = k') && ieq n n'
  | .s l x, .s l' y => Nat.beq l l' && Nat.beq x y
  | .pn, .pn | .sn, .sn | .se, .se | .mn, .mn | .fz, .fz | .inil, .inil => true
  | .p a o, .p a' o' => Nat.beq a a' && Nat.beq o o'
  | .sl a o l c p, .sl a' o' l' c' p' => Nat.beq a a' && (Nat.beq o o' && (Nat.beq l l' && (Nat.beq c c' && (p == p'))))
  | .m a, .m a' => Nat.beq a a'
  | .fn f l k, .fn f' l' k' => decide (f = f') && (avEqs l l' && avEqs k k')
  | .ifc t v, .ifc t' v' => Nat.beq t t' && avEq v v'
  | .ag l, .ag l' => avEqs l l'
  | .tu l, .tu l' => avEqs l l'
  | .q n, .q n' => Nat.beq n n'
  | .by_ l x, .by_ l' y => Nat.beq l l' && Nat.beq x y
  | .sr l x, .sr l' y => Nat.beq l l' && Nat.beq x y
  | _, _ => false
def avEqs : List AV → List AV → Bool
  | [], [] => true
  | x :: l, y :: k => avEq x y && avEqs l k
  | _, _ => false
end
mutual
theorem avEq_ok : ∀ (x y : AV), avEq x y = true → x = y
  | .b x, y, h => by cases y <;> simp [avEq] at h; rw [h]
  | .i k n, y, h => by cases y <;> simp [avEq, ieq_eq] at h; rw [h.1, h.2]
  | .s l x, y, h => by cases y <;> simp [avEq] at h; rw [h.1, h.2]
  | .pn, y, h | .sn, y, h | .se, y, h | .mn, y, h | .fz, y, h | .inil, y, h => by cases y <;> simp [avEq] at h <;> rfl
  | .p a o, y, h => by cases y <;> simp [avEq] at h; rw [h.1, h.2]
  | .sl a o l c p, y, h => by cases y <;> simp [avEq] at h; rw [h.1, h.2.1, h.2.2.1, h.2.2.2.1, h.2.2.2.2]
  | .m a, y, h => by cases y <;> simp [avEq] at h; rw [h]
  | .fn f l k, y, h => by
    cases y <;> simp [avEq] at h
    rw [h.1, avEqs_ok l _ h.2.1, avEqs_ok k _ h.2.2]
  | .ifc t v, y, h => by
    cases y <;> simp [avEq] at h
    rw [h.1, avEq_ok v _ h.2]
  | .ag l, y, h => by
    cases y <;> simp [avEq] at h
    rw [avEqs_ok l _ h]
  | .tu l, y, h => by
    cases y <;> simp [avEq] at h
    rw [avEqs_ok l _ h]
  | .q n, y, h => by cases y <;> simp [avEq] at h; rw [h]
  | .by_ l x, y, h => by cases y <;> simp [avEq] at h; rw [h.1, h.2]
  | .sr l x, y, h => by cases y <;> simp [avEq] at h; rw [h.1, h.2]
theorem avEqs_ok : ∀ (x y : List AV), avEqs x y = true → x = y
  | [], y, h => by cases y <;> simp [avEqs] at h; rfl
  | x :: l, y, h => by
    cases y <;> simp [avEqs] at h
    rw [avEq_ok x _ h.1, avEqs_ok l _ h.2]
end
def ebeq : List (AV × AV × Nat) → List (AV × AV × Nat) → Bool
  | [], [] => true
  | (k, v, b) :: l, (k', v', b') :: l' => avEq k k' && (avEq v v' && (Nat.beq b b' && ebeq l l'))
  | _, _ => false
theorem ebeq_ok : ∀ (x y : List (AV × AV × Nat)), ebeq x y = true → x = y
  | [], y, h => by cases y <;> simp [ebeq] at h; rfl
  | (k, v, b) :: l, y, h => by
    cases y with
    | nil => simp [ebeq] at h
    | cons z l' =>
      obtain ⟨k', v', b'⟩ := z
      simp [ebeq] at h
      rw [avEq_ok _ _ h.1, avEq_ok _ _ h.2.1, h.2.2.1, ebeq_ok _ _ h.2.2.2]
def isE {α : Type} : TT α → Bool
  | .e => true
  | _ => false
theorem isE_ok {α : Type} {t : TT α} (h : isE t = true) : t = .e := by
  cases t with
  | e => rfl
  | n l v r => cases h
def AO.beq : AO → AO → Bool
  | .cells sz cs, .cells sz' cs' => Nat.beq sz sz' && avEqs cs cs'
  | .bytes l x, .bytes l' x' => Nat.beq l l' && Nat.beq x x'
  | .mp es c, .mp es' c' => ebeq es es' && Nat.beq c c'
  | .sit l x p, .sit l' x' p' => Nat.beq l l' && (Nat.beq x x' && Nat.beq p p')
  | .pm l n t, .pm l' n' t' => Nat.beq l l' && (Nat.beq n n' && (isE t && isE t'))
  | _, _ => false
theorem AO.beq_ok (x y : AO) (h : AO.beq x y = true) : x = y := by
  cases x <;> cases y <;> simp [AO.beq] at h
  · rw [h.1, avEqs_ok _ _ h.2]
  · rw [h.1, h.2]
  · rw [ebeq_ok _ _ h.1, h.2]
  · rw [h.1, h.2.1, h.2.2]
  · rw [h.1, h.2.1, isE_ok h.2.2.1, isE_ok h.2.2.2]

/-! is an operation asked for? -/
noncomputable def gd (ops : Array Oper) (T : TT AV) (o : Oper) : Option Bool :=
  match o.guard with
  | none => some true
  | some (j, want) => match (ops[j]?).bind (·.dst) with
    | some t => match T.get t with
      | some (.b p) => some (p == want)
      | some (.tu []) => some false
      | _ => none
    | none => none
theorem gd_ok {ρ : Ren} {env : Nat → Value} {ops : Array Oper} {T : TT AV} {tmps : Array Value} {o : Oper} {b : Bool} (hF : FR ρ env T tmps) (h : gd ops T o = some b) : Region.wanted o (yielded ops tmps) = b := by
  unfold gd at h
  unfold Region.wanted
  cases hg : o.guard with
  | none => rw [hg] at h; cases h; rfl
  | some jw =>
    obtain ⟨j, want⟩ := jw
    rw [hg] at h
    simp only at h ⊢
    split at h
    · rename_i t ht
      split at h
      · rename_i p hp
        cases h
        obtain ⟨u, h1, h2⟩ := hF t _ hp
        simp only [VR] at h2
        subst h2
        simp [yielded, ht, h1]
      · rename_i hp
        cases h
        obtain ⟨u, h1, h2⟩ := hF t _ hp
        simp only [VR, VRs] at h2
        obtain ⟨l, rfl, rfl⟩ := h2
        simp [yielded, ht, h1]
      · cases h
    · cases h

/-- only what an operation looks at -/
noncomputable def restr (T : TT AV) : List Tmp → TT AV
  | [] => .e
  | t :: l => match T.get t with
    | some v => (restr T l).set v t
    | none => restr T l
theorem restr_get {T : TT AV} : ∀ {l : List Tmp} {t : Tmp} {v : AV}, (restr T l).get t = some v → T.get t = some v ∧ t ∈ l
  | [], t, v, h => by simp [restr, TT.get_e] at h
  | s :: l, t, v, h => by
    simp only [restr] at h
    split at h
    · rename_i x hx
      rw [TT.get_set] at h
      split at h
      · rename_i he; subst he; cases h; exact ⟨hx, by simp⟩
      · have := restr_get h; exact ⟨this.1, by simp [this.2]⟩
    · have := restr_get h; exact ⟨this.1, by simp [this.2]⟩

/-! the order -/
def tb (m i : Nat) : Bool := Nat.beq (Nat.mod (Nat.shiftRight m i) 2) 1
theorem tb_eq (m i : Nat) : tb m i = m.testBit i := by
  rw [Nat.testBit_eq_decide_div_mod_eq]
  unfold tb
  show Nat.beq (m >>> i % 2) 1 = _
  rw [Nat.shiftRight_eq_div_pow]
  by_cases h : m / 2 ^ i % 2 = 1
  · simp [h]
  · cases hb : Nat.beq (m / 2 ^ i % 2) 1 with
    | false => simp [h]
    | true => exact absurd (beq_true hb) h
def isR : Op → Bool
  | .convert .. => true
  | .move _ | .assign _ | .pick .. | .alloc _ | .box .. | .build .. | .buildSlice .. | .load .. | .nilCheck _ | .binOp .. | .unOp .. | .sliceToArrayPointer .. | .makeInterface .. | .makeFunc .. | .makeMap .. | .makeSlice .. | .slice ..
  | .fieldAddr .. | .field .. | .indexAddr .. | .index .. | .lookup .. | .range .. | .extract .. => true
  | .call { callee := .builtin b, .. } => match b with | .len | .cap | .min | .max => true | _ => false
  | _ => false
/-- masks of all that an operation waits for -/
def maskOf (pm : List Nat) : List Edge → Nat
  | [] => 0
  | e :: l => bif Region.binds .any e then Nat.lor (Nat.lor (Nat.shiftLeft 1 e.on) (pm.getD e.on 0)) (maskOf pm l) else maskOf pm l
def masks : List Oper → List Nat → List Nat
  | [], pm => pm
  | o :: l, pm => masks l (pm ++ [maskOf pm o.after.toList])
/-- next: the first reader that waits for nothing, else the first writer -/
def pickR (P : Program) (pm : List Nat) (done : Nat) : List (Nat × Oper) → Bool → Option Nat
  | [], _ => none
  | (i, o) :: l, w => bif Bool.not (tb done i) && (Nat.beq (Nat.land (pm.getD i 0) done) (pm.getD i 0) && (w || isR o.op)) then some i else pickR P pm done l w
def orderR (P : Program) (pm : List Nat) (ops : List (Nat × Oper)) : Nat → Nat → List Nat
  | 0, _ => []
  | f + 1, done => match pickR P pm done ops false with
    | some i => i :: orderR P pm ops f (Nat.lor done (Nat.shiftLeft 1 i))
    | none => match pickR P pm done ops true with
      | some i => i :: orderR P pm ops f (Nat.lor done (Nat.shiftLeft 1 i))
      | none => []
def numbered : Nat → List Oper → List (Nat × Oper)
  | _, [] => []
  | i, o :: l => (i, o) :: numbered (Nat.succ i) l
structure Plan where
  pm : List Nat
  L : List Nat
def planOf (P : Program) (ops : Array Oper) : Plan :=
  let pm := masks ops.toList []
  ⟨pm, orderR P pm (numbered 0 ops.toList) ops.size 0⟩

/-! is it right? -/
def edgesOk (pm : List Nat) : Nat → List Oper → Bool
  | _, [] => true
  | i, o :: l => o.after.toList.all (fun e => Bool.not (Region.binds .any e) || Nat.blt e.on i) && (Nat.beq (pm.getD i 0) (maskOf pm o.after.toList) && edgesOk pm (Nat.succ i) l)
def orderOk (P : Program) (ops : Array Oper) (pm : List Nat) : List Nat → Nat → Bool
  | [], _ => true
  | c :: L, done => (match ops[c]? with
      | some o => Bool.not (tb done c) && (Nat.beq (Nat.land (pm.getD c 0) done) (pm.getD c 0) && (isR o.op || L.all fun j => tb (pm.getD j 0) c))
      | none => false) && orderOk P ops pm L (Nat.lor done (Nat.shiftLeft 1 c))
def dstOk : List Oper → Bool
  | [] => true
  | o :: l => (match o.dst with
      | some d => l.all fun x => match x.dst with | some e => Bool.not (Nat.beq d e) | none => true
      | none => true) && dstOk l
def looksOk (ops : Array Oper) (pm : List Nat) (N : List (Nat × Oper)) : Bool :=
  N.all fun (y, oy) => (oy.looksAt ops).all fun t => N.all fun (x, ox) => Nat.beq x y || ((match ox.dst with | some d => Bool.not (Nat.beq d t) | none => true) || (tb (pm.getD y 0) x || tb (pm.getD x 0) y))
def planOk (P : Program) (ops : Array Oper) (p : Plan) : Bool :=
  edgesOk p.pm 0 ops.toList && (orderOk P ops p.pm p.L 0 && ((numbered 0 ops.toList).all (fun x => p.L.any (Nat.beq x.1)) && (dstOk ops.toList && looksOk ops p.pm (numbered 0 ops.toList))))

inductive PK where
  | skip
  | rd
  | cv
  | al (b : Nat) (ob : AO) (mk : Mk)
structure PE where
  i : Nat
  o : Oper
  T : TT AV
  v : AV
  k : PK
noncomputable def PE.again (P : Program) (ng ro : Nat) (H : Heap) (e : PE) : Bool :=
  match e.k with
  | .skip => true
  | .rd => match ard P ng H e.T e.o with
    | some v => avEq v e.v
    | none => false
  | .cv => match cvW P ng ro H e.T e.o with
    | some v => avEq v e.v
    | none => false
  | .al b ob _ => match H.t.get b with
    | some o => AO.beq o ob
    | none => false
noncomputable def putT (nt : Nat) (T : TT AV) (d : Option Tmp) (v : AV) : Option (TT AV) :=
  match d with
  | none => some T
  | some t => bif Nat.blt t nt then some (T.set v t) else none
def keepQ (m : Nat) : List PE → List PE
  | [] => []
  | e :: l => bif tb m e.i then keepQ m l else e :: keepQ m l
noncomputable def dgo (P : Program) (ng ro nt : Nat) (opW : Oper → TT AV → Heap → Option (AV × Heap)) (ops : Array Oper) (pm : List Nat) : List Nat → TT AV → Heap → List PE → Option (TT AV × Heap)
  | [], T, H, _ => some (T, H)
  | c :: L, T, H, Q => match ops[c]? with
    | none => none
    | some o =>
      let Ty := restr T (o.looksAt ops)
      match gd ops Ty o with
      | none => none
      | some false => match putT nt T o.dst (.tu []) with
        | some T' => dgo P ng ro nt opW ops pm L T' H (⟨c, o, Ty, .tu [], .skip⟩ :: Q)
        | none => none
      | some true => bif isR o.op then
          match ard P ng H Ty o with
          | some v => match putT nt T o.dst v with
            | some T' => dgo P ng ro nt opW ops pm L T' H (⟨c, o, Ty, v, .rd⟩ :: Q)
            | none => none
          | none => match aal P ng Ty o with
            | some (ob, mk) => match putT nt T o.dst (mk.val H.nx) with
              | some T' => dgo P ng ro nt opW ops pm L T' (H.push ob) (⟨c, o, Ty, mk.val H.nx, .al H.nx ob mk⟩ :: Q)
              | none => none
            | none => match cvW P ng ro H Ty o with
              | some v => match putT nt T o.dst v with
                | some T' => dgo P ng ro nt opW ops pm L T' H (⟨c, o, Ty, v, .cv⟩ :: Q)
                | none => none
              | none => none
        else match opW o Ty H with
          | some (v, H') =>
            let Q' := keepQ (pm.getD c 0) Q
            bif Q'.all (PE.again P ng ro H') then
              match putT nt T o.dst v with
              | some T' => dgo P ng ro nt opW ops pm L T' H' Q'
              | none => none
            else none
          | none => none
end Go.Ai
/- Regions that draw: what holds while they run. -/
namespace Go.Ai
section
variable {P : Program} {env : Nat → Value} {ρ ρ' ρ0 : Ren} {H H' H0 : Heap} {w w' w0 : World} {ng ro nt : Nat} {T : TT AV} {a : Act}

def Ext (H H' : Heap) : Prop := ∀ b o, H.t.get b = some o → H'.t.get b = some o
theorem aLoad_ext (hx : Ext H H') {t : TypeId} {x v : AV} (h : aLoad P H t x = some v) : aLoad P H' t x = some v := by
  unfold aLoad at h ⊢
  split at h
  · split at h
    · rename_i o ho
      simp only [hx _ _ ho]
      exact h
    · cases h
  · cases h
theorem aConvert_ext (hx : Ext H H') {s d : TypeId} {x v : AV} (h : aConvert P H s d x = some v) : aConvert P H' s d x = some v := by
  unfold aConvert at h ⊢
  cases x <;> simp only at h ⊢ <;> try exact h
  split at h
  · rename_i hs hd
    split at h
    · rename_i he
      split at h
      · rename_i n y ho
        simp only [hx _ _ ho]
        exact h
      · cases h
    · cases h
  · cases h
theorem aLen_ext (hx : Ext H H') {t : TypeId} {x v : AV} (h : aLen P H t x = some v) : aLen P H' t x = some v := by
  unfold aLen at h ⊢
  cases x <;> simp only at h ⊢ <;> try exact h
  split at h
  · rename_i ht
    split at h
    · rename_i es ck ho
      simp only [hx _ _ ho]
      exact h
    · cases h
  · cases h
theorem aLookup_ext (hx : Ext H H') {t : TypeId} {m k v : AV} {ok : Bool} (h : aLookup P H t m k ok = some v) : aLookup P H' t m k ok = some v := by
  unfold aLookup at h ⊢
  split at h
  · rename_i kt et ht
    split at h
    · rename_i d hd
      dsimp only at h ⊢
      split at h
      · split at h
        · rename_i es ck ho
          simp only [hx _ _ ho]
          exact h
        · rename_i len n0 t ho
          simp only [hx _ _ ho]
          exact h
        · cases h
      · exact h
      · cases h
    · cases h
  · cases h
theorem ard_ext (hx : Ext H H') {o : Oper} {v : AV} (h : ard P ng H T o = some v) : ard P ng H' T o = some v := by
  unfold ard at h ⊢
  cases ho : o.op <;> rw [ho] at h <;> simp only at h ⊢ <;> try exact h
  case load t x =>
    unfold rLoad at h ⊢
    split at h
    · exact aLoad_ext hx h
    · cases h
  case convert s d x =>
    unfold rConv at h ⊢
    split at h
    · exact aConvert_ext hx h
    · cases h
  case lookup t x y ok =>
    unfold rLookup at h ⊢
    split at h
    · split at h
      · exact aLookup_ext hx h
      · cases h
    · cases h
  case call c =>
    unfold rCall at h ⊢
    split at h
    · split at h
      · split at h
        · exact aLen_ext hx h
        · cases h
      · cases h
    · exact h
    · exact h
    · exact h
    · cases h
theorem cvW_ext (hx : Ext H H') {o : Oper} {v : AV} (h : cvW P ng ro H T o = some v) : cvW P ng ro H' T o = some v := by
  unfold cvW at h ⊢
  cases ho : o.op <;> rw [ho] at h <;> simp only at h ⊢ <;> try exact h
  rename_i s d x
  unfold wConv at h ⊢
  cases he : sliceElem P s with
  | none => rw [he] at h; cases h
  | some e =>
    rw [he] at h
    simp only at h ⊢
    cases hu : isU8 P e with
    | none => rw [hu] at h; cases h
    | some q =>
      rw [hu] at h
      cases q with
      | false => cases h
      | true =>
        simp only at h ⊢
        cases hb : Nat.beq s d with
        | false => rw [hb] at h; cases h
        | true =>
          rw [hb] at h
          simp only [cond_true] at h ⊢
          cases hv : ev ng T x with
          | none => rw [hv] at h; cases h
          | some y =>
            rw [hv] at h
            cases y <;> simp only at h ⊢ <;> try exact h
            rename_i b off len cap op
            cases hob : H.t.get b with
            | none => rw [hob] at h; cases h
            | some o =>
              rw [hob] at h
              rw [hx _ _ hob]
              simp only at h ⊢
              cases hz : o.sz? with
              | none => rw [hz] at h; cases h
              | some z =>
                obtain ⟨z1, z2⟩ := z
                rw [hz] at h
                simp only at h ⊢
                cases hr : Nat.ble ro b && Nat.beq z1 1 with
                | false => rw [hr] at h; cases h
                | true => rw [hr] at h; exact h
theorem ext_push (r : Rel env ρ H w) (o : AO) : Ext H (H.push o) := fun b o' h => by
  have hb : b ≠ H.nx := fun e => by rw [e, (r.new _ (Nat.le_refl _)).2] at h; cases h
  simp only [Heap.push, TT.get_set_ne _ _ hb]
  exact h

theorem Step.pushed (h : Step env ro ρ0 H0 w0 ρ H w) (o : AO) : Step env ro ρ0 H0 w0 ρ (H.push o) w where
  rel := h.rel.push o
  old := h.old
  nx := Nat.le_trans h.nx (Nat.le_succ _)
  img := fun lo c hl ⟨b, o', x, h0, h1, h2⟩ => by
    have hb : b ≠ H.nx := fun e => by rw [e, (h.rel.new _ (Nat.le_refl _)).1] at h2; cases h2
    simp only [Heap.push, TT.get_set_ne _ _ hb] at h1
    exact h.img lo c hl ⟨b, o', x, h0, h1, h2⟩
  keep := h.keep
  size := h.size
  os := h.os
  tape := h.tape
  output := h.output
theorem Step.come (h : Step env ro ρ0 H0 w0 ρ H w) {b : Nat} {o : AO} {ob : Obj} {x : Nat × Nat} {d : Nat} (hb : H.t.get b = some o) (hn : ρ b = none) (h0 : H0.nx ≤ b) (ho : ObjR (ρ.put b (w.heap.size, x)) env x o ob) :
    Step env ro ρ0 H0 w0 (ρ.put b (w.heap.size, x)) H { w with heap := w.heap.push ob, drawn := d } where
  rel := (h.rel.come hb hn ho).drew d
  old := fun a ha => by rw [Ren.put_ne _ _ (by omega)]; exact h.old a ha
  nx := h.nx
  img := fun lo c hl ⟨b', o', y, h1, h2, h3⟩ => by
    by_cases e : b' = b
    · subst e; rw [Ren.put_self] at h3; cases h3; exact .inr h.size
    · rw [Ren.put_ne _ _ e] at h3; exact h.img lo c hl ⟨b', o', y, h1, h2, h3⟩
  keep := fun c hc hni => by
    have := h.size
    show (w.heap.push ob)[c]? = _
    rw [Array.getElem?_push, if_neg (by omega)]
    exact h.keep c hc hni
  size := by have := h.size; simp; omega
  os := h.os
  tape := h.tape
  output := h.output

/-! the order that is run -/
theorem tb_lor (m k i : Nat) : tb (Nat.lor m k) i = (tb m i || tb k i) := by
  rw [tb_eq, tb_eq, tb_eq]; exact Nat.testBit_or m k i
theorem tb_one (j i : Nat) : tb (Nat.shiftLeft 1 j) i = decide (j = i) := by
  rw [tb_eq]
  show (1 <<< j).testBit i = _
  rw [Nat.one_shiftLeft, Nat.testBit_two_pow]
theorem tb_land {m k i : Nat} (h : Nat.beq (Nat.land m k) m = true) (hi : tb m i = true) : tb k i = true := by
  have := beq_true h
  rw [tb_eq] at hi ⊢
  rw [← this] at hi
  have e : (m &&& k).testBit i = (m.testBit i && k.testBit i) := Nat.testBit_and m k i
  have hi' : (m &&& k).testBit i = true := hi
  rw [e, Bool.and_eq_true] at hi'
  exact hi'.2
theorem orderOk_not {ops : Array Oper} {pm : List Nat} : ∀ {L : List Nat} {done : Nat}, orderOk P ops pm L done = true → ∀ i ∈ L, tb done i = false
  | [], done, h, i, hi => by cases hi
  | c :: L, done, h, i, hi => by
    simp only [orderOk, Bool.and_eq_true] at h
    obtain ⟨h1, h2⟩ := h
    have ih := orderOk_not h2
    simp only [List.mem_cons] at hi
    rcases hi with rfl | hi
    · split at h1
      · simp only [Bool.and_eq_true] at h1
        have := h1.1
        cases hb : tb done i with
        | false => rfl
        | true => rw [hb] at this; cases this
      · cases h1
    · have := ih i hi
      rw [tb_lor, Bool.or_eq_false_iff] at this
      exact this.1
theorem orderOk_nodup {ops : Array Oper} {pm : List Nat} {c : Nat} {L : List Nat} {done : Nat} (h : orderOk P ops pm (c :: L) done = true) : c ∉ L := fun hc => by
  simp only [orderOk, Bool.and_eq_true] at h
  have := orderOk_not h.2 c hc
  rw [tb_lor, tb_one] at this
  simp at this
end
end Go.Ai
/- Regions that draw: whatever order is drawn, what was run is what comes. -/
namespace Go.Ai
section
variable {P : Program} {env : Nat → Value} {ng ro nt : Nat} {ops : Array Oper} {pm : List Nat} {ρ0 : Ren} {H0 : Heap} {w0 : World} {ds : List Deferred}

/-- no bounds; in a round of a range over a function, or not -/
def Fc (rd : Option Nat) : Fence := { Fence.wide with round := rd }
theorem wp_run {rd : Option Nat} {o : Oper} {a : Act} {w : World} {next : Act → World → Prop} {Q : Exit → Act → World → Prop} {n : Next} {w' : World} (hd : ∀ c, o.op ≠ .defer c)
    (h1 : (execOp a.eval o).run P w = .ok n w') (h : o.uponIn (Fc rd) 0 P a next Q (.ok n w')) : o.wpIn (Fc rd) 0 P a w next Q :=
  ⟨fun _ _ => trivial, by rw [Oper.semAt_eq _ _ _ hd, h1]; exact h⟩
theorem ard_nd {H : Heap} {T : TT AV} {o : Oper} {v : AV} (h : ard P ng H T o = some v) : ∀ c, o.op ≠ .defer c := by
  obtain ⟨dst, op, type, pos, after, guard⟩ := o
  rintro c rfl
  simp [ard] at h
theorem aal_nd {T : TT AV} {o : Oper} {v : AO × Mk} (h : aal P ng T o = some v) : ∀ c, o.op ≠ .defer c := by
  obtain ⟨dst, op, type, pos, after, guard⟩ := o
  rintro c rfl
  simp [aal] at h
theorem cvW_nd {H : Heap} {T : TT AV} {o : Oper} {v : AV} (h : cvW P ng ro H T o = some v) : ∀ c, o.op ≠ .defer c := by
  obtain ⟨dst, op, type, pos, after, guard⟩ := o
  rintro c rfl
  simp [cvW] at h
theorem awr_nd {H : Heap} {T : TT AV} {o : Oper} {v : AV × Heap} (h : awr P ng ro H T o = some v) : ∀ c, o.op ≠ .defer c := by
  obtain ⟨dst, op, type, pos, after, guard⟩ := o
  rintro c rfl
  simp [awr] at h

/-- what is asked of how a writer is carried out -/
def OpOK (P : Program) (env : Nat → Value) (ro ng : Nat) (opW : Oper → TT AV → Heap → Option (AV × Heap)) : Prop :=
  ∀ (rd : Option Nat) (o : Oper) (T : TT AV) (H : Heap) (v : AV) (H' : Heap) (ρ : Ren) (a : Act) (w : World), Rel env ρ H w → GOK ng ρ → FR ρ env T a.tmps → opW o T H = some (v, H') →
    ∀ (next : Act → World → Prop) (Q : Exit → Act → World → Prop), (∀ u w' ρ', VR ρ' env v u → Step env ro ρ H w ρ' H' w' → next (a.put o.dst u) w') → o.wpIn (Fc rd) 0 P a w next Q

/-- an operation that has been run ahead can be carried out now -/
def PEok (P : Program) (ng ro nt : Nat) (ops : Array Oper) (H0 H : Heap) (ρ : Ren) (z : PE) : Prop :=
  ops[z.i]? = some z.o ∧ (∀ d, z.o.dst = some d → d < nt) ∧
  match z.k with
  | .skip => gd ops z.T z.o = some false ∧ z.v = .tu []
  | .rd => gd ops z.T z.o = some true ∧ ard P ng H z.T z.o = some z.v
  | .cv => gd ops z.T z.o = some true ∧ cvW P ng ro H z.T z.o = some z.v
  | .al b ob mk => gd ops z.T z.o = some true ∧ aal P ng z.T z.o = some (ob, mk) ∧ z.v = mk.val b ∧ H.t.get b = some ob ∧ ρ b = none ∧ H0.nx ≤ b

structure J (P : Program) (env : Nat → Value) (ro ng nt : Nat) (ops : Array Oper) (pm : List Nat) (ρ0 : Ren) (H0 : Heap) (w0 : World) (ds : List Deferred)
    (D : Array Bool) (L : List Nat) (T : TT AV) (H : Heap) (Q pend : List PE) (a : Act) (w : World) (ρ : Ren) : Prop where
  dsz : D.size = ops.size
  stp : Step env ro ρ0 H0 w0 ρ H w
  gok : GOK ng ρ
  tsz : a.tmps.size = nt
  dfs : a.defers = ds
  cl : ∀ i o, D.getD i false = true → ops[i]? = some o → ∀ e ∈ o.after, Region.binds .any e = true → D.getD e.on false = true
  part : ∀ i, i < ops.size → D.getD i false = true ∨ (∃ x ∈ pend, x.i = i) ∨ i ∈ L
  dis1 : ∀ x ∈ pend, D.getD x.i false = false
  dis2 : ∀ i ∈ L, D.getD i false = false ∧ ∀ x ∈ pend, x.i ≠ i
  sub : ∀ x ∈ pend, x ∈ Q
  uni : ∀ x ∈ pend, ∀ y ∈ pend, x.i = y.i → x = y
  val : ∀ x ∈ pend, ∀ y ∈ L, tb (pm.getD x.i 0) y = false
  ord : ∃ done, orderOk P ops pm L done = true ∧ ∀ i, tb done i = true → D.getD i false = true ∨ ∃ x ∈ pend, x.i = i
  tinv : ∀ t v, T.get t = some v → (∃ x ∈ pend, x.o.dst = some t ∧ x.v = v) ∨ ((∃ u, a.tmps[t]? = some u ∧ VR ρ env v u) ∧ ∀ x ∈ pend, x.o.dst ≠ some t)
  einv : ∀ z ∈ pend, ∀ t v, z.T.get t = some v → t ∈ z.o.looksAt ops ∧ ((∃ x ∈ pend, x.o.dst = some t ∧ x.v = v ∧ tb (pm.getD z.i 0) x.i = true) ∨ ((∃ u, a.tmps[t]? = some u ∧ VR ρ env v u) ∧ ∀ x ∈ pend, x.o.dst = some t → tb (pm.getD x.i 0) z.i = true ∨ x.i = z.i))
  egood : ∀ z ∈ pend, PEok P ng ro nt ops H0 H ρ z
  als : ∀ z ∈ pend, ∀ y ∈ pend, ∀ b ob mk ob' mk', z.k = .al b ob mk → y.k = .al b ob' mk' → z = y

/-- the region's order is right -/
structure Good (ops : Array Oper) (pm : List Nat) : Prop where
  edge : ∀ (i : Nat) (o : Oper), ops[i]? = some o → ∀ e ∈ o.after, Region.binds .any e = true → e.on < i
  mask : ∀ (i : Nat) (o : Oper), ops[i]? = some o → pm.getD i 0 = maskOf pm o.after.toList
  dst : ∀ (i j : Nat) (x y : Oper), ops[i]? = some x → ops[j]? = some y → ∀ d, x.dst = some d → y.dst = some d → i = j
  looks : ∀ (i j : Nat) (x y : Oper), ops[i]? = some x → ops[j]? = some y → ∀ t ∈ y.looksAt ops, x.dst = some t → i = j ∨ tb (pm.getD j 0) i = true ∨ tb (pm.getD i 0) j = true

theorem maskOf_tb {pm : List Nat} {j : Nat} : ∀ {l : List Edge}, tb (maskOf pm l) j = true → ∃ e ∈ l, Region.binds .any e = true ∧ (e.on = j ∨ tb (pm.getD e.on 0) j = true)
  | [], h => by simp [maskOf, tb_eq] at h
  | e :: l, h => by
    simp only [maskOf] at h
    cases hb : Region.binds .any e with
    | false =>
      rw [hb] at h
      obtain ⟨x, h1, h2⟩ := maskOf_tb h
      exact ⟨x, by simp [h1], h2⟩
    | true =>
      rw [hb] at h
      simp only [cond_true, tb_lor, tb_one, Bool.or_eq_true, decide_eq_true_eq] at h
      rcases h with (h | h) | h
      · exact ⟨e, by simp, hb, .inl h⟩
      · exact ⟨e, by simp, hb, .inr h⟩
      · obtain ⟨x, h1, h2⟩ := maskOf_tb h
        exact ⟨x, by simp [h1], h2⟩
/-- all that a done operation waits for is done -/
theorem Good.closed (g : Good ops pm) {D : Array Bool} (hsz : D.size = ops.size) (cl : ∀ i o, D.getD i false = true → ops[i]? = some o → ∀ e ∈ o.after, Region.binds .any e = true → D.getD e.on false = true) :
    ∀ (i : Nat), D.getD i false = true → ∀ j, tb (pm.getD i 0) j = true → D.getD j false = true := by
  intro i
  induction i using Nat.strongRecOn with
  | _ i ih =>
    intro hi j hj
    have hlt : i < ops.size := by
      rcases Nat.lt_or_ge i ops.size with h | h
      · exact h
      · rw [← hsz] at h; simp [h] at hi
    have ho : ops[i]? = some ops[i] := by simp [hlt]
    rw [g.mask i _ ho] at hj
    obtain ⟨e, h1, h2, h3⟩ := maskOf_tb hj
    have h4 := cl i _ hi ho e (by simpa using h1) h2
    rcases h3 with h3 | h3
    · rw [← h3]; exact h4
    · exact ih _ (g.edge i _ ho e (by simpa using h1) h2) h4 j h3
theorem Good.preds (g : Good ops pm) {D : Array Bool} (hsz : D.size = ops.size) (cl : ∀ i o, D.getD i false = true → ops[i]? = some o → ∀ e ∈ o.after, Region.binds .any e = true → D.getD e.on false = true)
    {j : Nat} (hr : j ∈ Region.ready .any ops D) {i : Nat} (hi : tb (pm.getD j 0) i = true) : D.getD i false = true := by
  obtain ⟨_, o, ho, hall⟩ := mem_ready.1 hr
  rw [g.mask j _ ho] at hi
  obtain ⟨e, h1, h2, h3⟩ := maskOf_tb hi
  have h4 := hall e (by simpa using h1) h2
  rcases h3 with h3 | h3
  · rw [← h3]; exact h4
  · exact g.closed hsz cl _ h4 _ h3

theorem getD_set {D : Array Bool} {j i : Nat} (hj : j < D.size) : (D.setIfInBounds j true).getD i false = if i = j then true else D.getD i false := by
  by_cases h : i = j
  · subst h; simp [hj]
  · rw [getD_set_ne false (Ne.symm h)]; simp [h]
theorem putT_ok {nt : Nat} {T T' : TT AV} {d : Option Tmp} {v : AV} (h : putT nt T d v = some T') : (∀ t, d = some t → t < nt) ∧ ∀ t, T'.get t = if d = some t then some v else T.get t := by
  unfold putT at h
  split at h
  · cases h; exact ⟨fun t e => (by cases e), fun t => (by simp)⟩
  · rename_i s
    cases hb : Nat.blt s nt with
    | false => rw [hb] at h; cases h
    | true =>
      rw [hb] at h; cases h
      refine ⟨fun t e => (by cases e; exact blt_iff.1 hb), fun t => ?_⟩
      rw [TT.get_set]
      by_cases e : t = s
      · subst e; simp
      · have : ¬ some s = some t := fun e' => e (Option.some.inj e').symm
        simp [e, this]
theorem put_get {a : Act} {d : Option Tmp} {u : Value} {t : Nat} (hd : ∀ s, d = some s → s < a.tmps.size) : (a.put d u).tmps[t]? = if d = some t then some u else a.tmps[t]? := by
  cases d with
  | none => simp [Act.put]
  | some s =>
    by_cases e : s = t
    · subst e; simp [Act.put, hd s rfl]
    · simp [Act.put, e]

/-- one of those that were run ahead is carried out -/
theorem J.did (g : Good ops pm) {D L T H Q pend a w ρ} (h : J P env ro ng nt ops pm ρ0 H0 w0 ds D L T H Q pend a w ρ) {z : PE} (hz : z ∈ pend) (hr : z.i ∈ Region.ready .any ops D)
    {ρ' : Ren} {w' : World} {u : Value} (hle : ρ.le ρ') (hs : Step env ro ρ0 H0 w0 ρ' H w') (hu : VR ρ' env z.v u) (hfresh : ∀ y ∈ pend, y.i ≠ z.i → ∀ b ob mk, y.k = .al b ob mk → ρ' b = none) :
    J P env ro ng nt ops pm ρ0 H0 w0 ds (D.setIfInBounds z.i true) L T H Q (pend.filter fun x => !Nat.beq x.i z.i) (a.put z.o.dst u) w' ρ' := by
  have hzo := (h.egood z hz).1
  have hzd := (h.egood z hz).2.1
  have hzi : z.i < D.size := by rw [h.dsz]; exact (Array.getElem?_eq_some_iff.1 hzo).1
  have hmem : ∀ x, x ∈ pend.filter (fun x => !Nat.beq x.i z.i) ↔ x ∈ pend ∧ x.i ≠ z.i := fun x => by
    rw [List.mem_filter]
    constructor
    · rintro ⟨h1, h2⟩; exact ⟨h1, fun e => by rw [e] at h2; simp at h2⟩
    · rintro ⟨h1, h2⟩; exact ⟨h1, by cases hb : Nat.beq x.i z.i with | false => rfl | true => exact absurd (beq_true hb) h2⟩
  have hpg := fun t => put_get (a := a) (u := u) (t := t) (fun s e => by rw [h.tsz]; exact hzd s e)
  have hpred : ∀ i, tb (pm.getD z.i 0) i = true → D.getD i false = true := fun i hi => g.preds h.dsz h.cl hr hi
  refine ⟨by simp [h.dsz], hs, h.gok.mono hle, ?_, ?_, ?_, ?_, ?_, ?_, ?_, ?_, ?_, ?_, ?_, ?_, ?_, ?_⟩
  · cases hd : z.o.dst <;> simp [Act.put, h.tsz]
  · cases hd : z.o.dst <;> simp [Act.put, h.dfs]
  · intro i o hi ho e he hb
    rw [getD_set hzi] at hi ⊢
    by_cases hiz : i = z.i
    · subst hiz
      obtain ⟨_, o', ho', hall⟩ := mem_ready.1 hr
      rw [ho] at ho'; cases ho'
      rw [hall e he hb]; simp
    · rw [if_neg hiz] at hi
      rw [h.cl i o hi ho e he hb]; simp
  · intro i hi
    rw [getD_set hzi]
    rcases h.part i hi with h1 | ⟨x, h1, h2⟩ | h1
    · left; rw [h1]; simp
    · by_cases e : i = z.i
      · left; simp [e]
      · right; left; exact ⟨x, (hmem x).2 ⟨h1, by rw [h2]; exact e⟩, h2⟩
    · right; right; exact h1
  · intro x hx
    obtain ⟨h1, h2⟩ := (hmem x).1 hx
    rw [getD_set hzi, if_neg h2]
    exact h.dis1 x h1
  · intro i hi
    obtain ⟨h1, h2⟩ := h.dis2 i hi
    refine ⟨?_, fun x hx => h2 x ((hmem x).1 hx).1⟩
    rw [getD_set hzi, if_neg (fun e => h2 z hz e.symm)]
    exact h1
  · intro x hx; exact h.sub x ((hmem x).1 hx).1
  · intro x hx y hy; exact h.uni x ((hmem x).1 hx).1 y ((hmem y).1 hy).1
  · intro x hx; exact h.val x ((hmem x).1 hx).1
  · obtain ⟨done, h1, h2⟩ := h.ord
    refine ⟨done, h1, fun i hi => ?_⟩
    rw [getD_set hzi]
    rcases h2 i hi with h3 | ⟨x, h3, h4⟩
    · left; rw [h3]; simp
    · by_cases e : i = z.i
      · left; simp [e]
      · right; exact ⟨x, (hmem x).2 ⟨h3, by rw [h4]; exact e⟩, h4⟩
  · intro t v ht
    rw [hpg t]
    by_cases hd : z.o.dst = some t
    · rw [if_pos hd]
      right
      rcases h.tinv t v ht with ⟨x, h1, h2, h3⟩ | ⟨_, h2⟩
      · have hxz : x.i = z.i := g.dst x.i z.i x.o z.o (h.egood x h1).1 hzo t h2 hd
        have := h.uni x h1 z hz hxz
        subst this
        refine ⟨⟨u, rfl, h3 ▸ hu⟩, fun y hy e => ?_⟩
        obtain ⟨h4, h5⟩ := (hmem y).1 hy
        exact h5 (g.dst y.i x.i y.o x.o (h.egood y h4).1 hzo t e hd)
      · exact absurd hd (h2 z hz)
    · rw [if_neg hd]
      rcases h.tinv t v ht with ⟨x, h1, h2, h3⟩ | ⟨⟨q, h1, h2⟩, h3⟩
      · left
        refine ⟨x, (hmem x).2 ⟨h1, fun e => hd ?_⟩, h2, h3⟩
        rw [← h.uni x h1 z hz e]; exact h2
      · right
        exact ⟨⟨q, h1, h2.mono hle⟩, fun y hy => h3 y ((hmem y).1 hy).1⟩
  · intro y hy t v ht
    obtain ⟨hy1, hy2⟩ := (hmem y).1 hy
    obtain ⟨hl, hor⟩ := h.einv y hy1 t v ht
    refine ⟨hl, ?_⟩
    rw [hpg t]
    by_cases hd : z.o.dst = some t
    · rw [if_pos hd]
      right
      have huniq : ∀ x ∈ pend.filter (fun x => !Nat.beq x.i z.i), x.o.dst = some t → tb (pm.getD x.i 0) y.i = true ∨ x.i = y.i := fun x hx e => by
        obtain ⟨h4, h5⟩ := (hmem x).1 hx
        exact absurd (g.dst x.i z.i x.o z.o (h.egood x h4).1 hzo t e hd) h5
      rcases hor with ⟨x, h1, h2, h3, h4⟩ | ⟨_, h3⟩
      · have hxz : x.i = z.i := g.dst x.i z.i x.o z.o (h.egood x h1).1 hzo t h2 hd
        have := h.uni x h1 z hz hxz
        subst this
        exact ⟨⟨u, rfl, h3 ▸ hu⟩, huniq⟩
      · rcases h3 z hz hd with h4 | h4
        · have := hpred _ h4
          rw [h.dis1 y hy1] at this
          cases this
        · exact absurd h4.symm hy2
    · rw [if_neg hd]
      rcases hor with ⟨x, h1, h2, h3, h4⟩ | ⟨⟨q, h1, h2⟩, h3⟩
      · left
        refine ⟨x, (hmem x).2 ⟨h1, fun e => hd ?_⟩, h2, h3, h4⟩
        rw [← h.uni x h1 z hz e]; exact h2
      · right
        exact ⟨⟨q, h1, h2.mono hle⟩, fun x hx => h3 x ((hmem x).1 hx).1⟩
  · intro y hy
    obtain ⟨hy1, hy2⟩ := (hmem y).1 hy
    obtain ⟨e1, e2, e3⟩ := h.egood y hy1
    refine ⟨e1, e2, ?_⟩
    cases hk : y.k with
    | skip => rw [hk] at e3; exact e3
    | rd => rw [hk] at e3; exact e3
    | cv => rw [hk] at e3; exact e3
    | al b ob mk =>
      rw [hk] at e3
      exact ⟨e3.1, e3.2.1, e3.2.2.1, e3.2.2.2.1, hfresh y hy1 hy2 b ob mk hk, e3.2.2.2.2.2⟩
  · intro x hx y hy; exact h.als x ((hmem x).1 hx).1 y ((hmem y).1 hy).1
end
end Go.Ai
/- Regions that draw: the theorem. -/
namespace Go.Ai
section
variable {P : Program} {env : Nat → Value} {ng ro nt : Nat} {ops : Array Oper} {pm : List Nat} {ρ0 : Ren} {H0 : Heap} {w0 : World} {ds : List Deferred}

theorem tb_false_of {m i : Nat} (h : ¬ tb m i = true) : tb m i = false := by cases hb : tb m i with | false => rfl | true => exact absurd hb h
/-- the run goes on by an operation that is carried out later -/
theorem J.ahead (g : Good ops pm) {D c L T H Q pend a w ρ} (h : J P env ro ng nt ops pm ρ0 H0 w0 ds D (c :: L) T H Q pend a w ρ) {o : Oper} (ho : ops[c]? = some o) {v : AV} {k : PK} {T' : TT AV} {H' : Heap}
    (hT : putT nt T o.dst v = some T') (hs : Step env ro ρ0 H0 w0 ρ H' w) (hx : Ext H H') (hz : PEok P ng ro nt ops H0 H' ρ ⟨c, o, restr T (o.looksAt ops), v, k⟩) (hal : ∀ b ob mk, k = .al b ob mk → b = H.nx) :
    J P env ro ng nt ops pm ρ0 H0 w0 ds D L T' H' (⟨c, o, restr T (o.looksAt ops), v, k⟩ :: Q) (⟨c, o, restr T (o.looksAt ops), v, k⟩ :: pend) a w ρ := by
  obtain ⟨hTd, hTg⟩ := putT_ok hT
  obtain ⟨done, hord, hdone⟩ := h.ord
  have hnd := orderOk_nodup hord
  have hnot := orderOk_not hord
  have hord' := hord
  simp only [orderOk, Bool.and_eq_true, ho] at hord'
  obtain ⟨⟨hc1, hc2, hc3⟩, hord2⟩ := hord'
  have hcD := (h.dis2 c (by simp)).1
  have hcp := (h.dis2 c (by simp)).2
  have hpre : ∀ i, tb (pm.getD c 0) i = true → tb done i = true := fun i hi => tb_land hc2 hi
  refine ⟨h.dsz, hs, h.gok, h.tsz, h.dfs, h.cl, ?_, ?_, ?_, ?_, ?_, ?_, ?_, ?_, ?_, ?_, ?_⟩
  · intro i hi
    rcases h.part i hi with h1 | ⟨x, h1, h2⟩ | h1
    · exact .inl h1
    · exact .inr (.inl ⟨x, by simp [h1], h2⟩)
    · rcases List.mem_cons.1 h1 with h1 | h1
      · exact .inr (.inl ⟨_, List.mem_cons_self .., h1.symm⟩)
      · exact .inr (.inr h1)
  · intro x hx
    rcases List.mem_cons.1 hx with rfl | hx
    · exact hcD
    · exact h.dis1 x hx
  · intro i hi
    refine ⟨(h.dis2 i (by simp [hi])).1, fun x hx => ?_⟩
    rcases List.mem_cons.1 hx with rfl | hx
    · intro e
      have e' : c = i := e
      rw [← e'] at hi
      exact hnd hi
    · exact (h.dis2 i (by simp [hi])).2 x hx
  · intro x hx
    rcases List.mem_cons.1 hx with rfl | hx
    · simp
    · exact List.mem_cons_of_mem _ (h.sub x hx)
  · intro x hx y hy e
    rcases List.mem_cons.1 hx with rfl | hx <;> rcases List.mem_cons.1 hy with rfl | hy
    · rfl
    · exact absurd e.symm (hcp y hy)
    · exact absurd e (hcp x hx)
    · exact h.uni x hx y hy e
  · intro x hx y hy
    rcases List.mem_cons.1 hx with rfl | hx
    · exact tb_false_of fun ht => by have := hnot y (by simp [hy]); rw [hpre y ht] at this; cases this
    · exact h.val x hx y (by simp [hy])
  · refine ⟨_, hord2, fun i hi => ?_⟩
    rw [tb_lor, tb_one, Bool.or_eq_true, decide_eq_true_eq] at hi
    rcases hi with hi | hi
    · rcases hdone i hi with h1 | ⟨x, h1, h2⟩
      · exact .inl h1
      · exact .inr ⟨x, by simp [h1], h2⟩
    · exact .inr ⟨_, List.mem_cons_self .., hi⟩
  · intro t v' ht
    rw [hTg t] at ht
    by_cases hd : o.dst = some t
    · rw [if_pos hd] at ht
      cases ht
      exact .inl ⟨_, List.mem_cons_self .., hd, rfl⟩
    · rw [if_neg hd] at ht
      rcases h.tinv t v' ht with ⟨x, h1, h2⟩ | ⟨h1, h2⟩
      · exact .inl ⟨x, by simp [h1], h2⟩
      · refine .inr ⟨h1, fun x hx => ?_⟩
        rcases List.mem_cons.1 hx with rfl | hx
        · exact hd
        · exact h2 x hx
  · intro z hz' t v' ht
    rcases List.mem_cons.1 hz' with rfl | hz'
    · obtain ⟨h1, h2⟩ := restr_get ht
      refine ⟨h2, ?_⟩
      rcases h.tinv t v' h1 with ⟨x, h3, h4, h5⟩ | ⟨h3, h4⟩
      · left
        refine ⟨x, by simp [h3], h4, h5, ?_⟩
        rcases g.looks x.i c x.o o (h.egood x h3).1 ho t h2 h4 with h6 | h6 | h6
        · exact absurd h6 (hcp x h3)
        · exact h6
        · rw [h.val x h3 c (by simp)] at h6; cases h6
      · right
        refine ⟨h3, fun x hx e => ?_⟩
        rcases List.mem_cons.1 hx with rfl | hx
        · exact .inr rfl
        · exact absurd e (h4 x hx)
    · obtain ⟨h2, h3⟩ := h.einv z hz' t v' ht
      refine ⟨h2, ?_⟩
      rcases h3 with ⟨x, h4, h5⟩ | ⟨h4, h5⟩
      · exact .inl ⟨x, by simp [h4], h5⟩
      · refine .inr ⟨h4, fun x hx e => ?_⟩
        rcases List.mem_cons.1 hx with rfl | hx
        · rcases g.looks c z.i o z.o ho (h.egood z hz').1 t h2 e with h6 | h6 | h6
          · exact absurd h6.symm (hcp z hz')
          · rw [h.val z hz' c (by simp)] at h6; cases h6
          · exact .inl h6
        · exact h5 x hx e
  · intro z hz'
    rcases List.mem_cons.1 hz' with rfl | hz'
    · exact hz
    · obtain ⟨e1, e2, e3⟩ := h.egood z hz'
      refine ⟨e1, e2, ?_⟩
      cases hk : z.k with
      | skip => rw [hk] at e3; exact e3
      | rd => rw [hk] at e3; exact ⟨e3.1, ard_ext hx e3.2⟩
      | cv => rw [hk] at e3; exact ⟨e3.1, cvW_ext hx e3.2⟩
      | al b ob mk => rw [hk] at e3; exact ⟨e3.1, e3.2.1, e3.2.2.1, hx _ _ e3.2.2.2.1, e3.2.2.2.2⟩
  · intro z hz' y hy b ob mk ob' mk' h1 h2
    have old : ∀ y ∈ pend, ∀ ob mk, y.k = .al b ob mk → b < H.nx := fun y hy ob mk hk => by
      have e3 := (h.egood y hy).2.2
      rw [hk] at e3
      rcases Nat.lt_or_ge b H.nx with h3 | h3
      · exact h3
      · have := (h.stp.rel.new b h3).2
        rw [e3.2.2.2.1] at this; cases this
    rcases List.mem_cons.1 hz' with rfl | hz' <;> rcases List.mem_cons.1 hy with rfl | hy
    · rfl
    · have e1 := hal b ob mk h1
      have e2 := old y hy ob' mk' h2
      omega
    · have e1 := hal b ob' mk' h2
      have e2 := old z hz' ob mk h1
      omega
    · exact h.als z hz' y hy b ob mk ob' mk' h1 h2

theorem keepQ_mem {m : Nat} {x : PE} : ∀ {Q : List PE}, x ∈ Q → tb m x.i = false → x ∈ keepQ m Q
  | e :: Q, h, hm => by
    simp only [keepQ]
    rcases List.mem_cons.1 h with rfl | h
    · rw [hm]; simp
    · cases hb : tb m e.i with
      | true => simpa using keepQ_mem h hm
      | false => simpa using Or.inr (keepQ_mem h hm)

/-- the run goes on by a writer, which is carried out now -/
theorem J.wrote (g : Good ops pm) {D c L T H Q pend a w ρ} (h : J P env ro ng nt ops pm ρ0 H0 w0 ds D (c :: L) T H Q pend a w ρ) {o : Oper} (ho : ops[c]? = some o) (hr : c ∈ Region.ready .any ops D) {v : AV} {T' : TT AV} {H' : Heap} {ρ' : Ren} {w' : World} {u : Value}
    (hT : putT nt T o.dst v = some T') (hs : Step env ro ρ H w ρ' H' w') (hu : VR ρ' env v u) (hq : (keepQ (pm.getD c 0) Q).all (PE.again P ng ro H') = true) :
    J P env ro ng nt ops pm ρ0 H0 w0 ds (D.setIfInBounds c true) L T' H' (keepQ (pm.getD c 0) Q) pend (a.put o.dst u) w' ρ' := by
  obtain ⟨hTd, hTg⟩ := putT_ok hT
  obtain ⟨done, hord, hdone⟩ := h.ord
  have hnd := orderOk_nodup hord
  have hord' := hord
  simp only [orderOk, Bool.and_eq_true, ho] at hord'
  obtain ⟨⟨hc1, hc2, hc3⟩, hord2⟩ := hord'
  have hcD := (h.dis2 c (by simp)).1
  have hcp := (h.dis2 c (by simp)).2
  have hci : c < D.size := by rw [h.dsz]; exact (Array.getElem?_eq_some_iff.1 ho).1
  have hle := hs.le h.stp.rel
  have hpg := fun t => put_get (a := a) (u := u) (t := t) (fun s e => by rw [h.tsz]; exact hTd s e)
  have hpred : ∀ i, tb (pm.getD c 0) i = true → D.getD i false = true := fun i hi => g.preds h.dsz h.cl hr hi
  have hkeep : ∀ x ∈ pend, x ∈ keepQ (pm.getD c 0) Q := fun x hx => keepQ_mem (h.sub x hx) (tb_false_of fun ht => by have := hpred _ ht; rw [h.dis1 x hx] at this; cases this)
  have hagain : ∀ x ∈ pend, x.again P ng ro H' = true := fun x hx => List.all_eq_true.1 hq x (hkeep x hx)
  refine ⟨by simp [h.dsz], h.stp.trans hs, h.gok.mono hle, ?_, ?_, ?_, ?_, ?_, ?_, hkeep, h.uni, ?_, ?_, ?_, ?_, ?_, h.als⟩
  · cases hd : o.dst <;> simp [Act.put, h.tsz]
  · cases hd : o.dst <;> simp [Act.put, h.dfs]
  · intro i o' hi ho' e he hb
    rw [getD_set hci] at hi ⊢
    by_cases hiz : i = c
    · subst hiz
      obtain ⟨_, o2, ho2, hall⟩ := mem_ready.1 hr
      rw [ho'] at ho2; cases ho2
      rw [hall e he hb]; simp
    · rw [if_neg hiz] at hi
      rw [h.cl i o' hi ho' e he hb]; simp
  · intro i hi
    rw [getD_set hci]
    rcases h.part i hi with h1 | h1 | h1
    · left; rw [h1]; simp
    · exact .inr (.inl h1)
    · rcases List.mem_cons.1 h1 with h1 | h1
      · left; simp [h1]
      · exact .inr (.inr h1)
  · intro x hx
    rw [getD_set hci, if_neg (hcp x hx)]
    exact h.dis1 x hx
  · intro i hi
    obtain ⟨h1, h2⟩ := h.dis2 i (by simp [hi])
    refine ⟨?_, h2⟩
    rw [getD_set hci, if_neg (fun e : i = c => hnd (e ▸ hi))]
    exact h1
  · intro x hx y hy; exact h.val x hx y (by simp [hy])
  · refine ⟨_, hord2, fun i hi => ?_⟩
    rw [tb_lor, tb_one, Bool.or_eq_true, decide_eq_true_eq] at hi
    rw [getD_set hci]
    rcases hi with hi | hi
    · rcases hdone i hi with h1 | h1
      · left; rw [h1]; simp
      · exact .inr h1
    · left; simp [hi]
  · intro t v' ht
    rw [hTg t] at ht
    rw [hpg t]
    by_cases hd : o.dst = some t
    · rw [if_pos hd] at ht ⊢
      cases ht
      exact .inr ⟨⟨u, rfl, hu⟩, fun x hx e => hcp x hx (g.dst x.i c x.o o (h.egood x hx).1 ho t e hd)⟩
    · rw [if_neg hd] at ht ⊢
      rcases h.tinv t v' ht with h1 | ⟨⟨q, h1, h2⟩, h3⟩
      · exact .inl h1
      · exact .inr ⟨⟨q, h1, h2.mono hle⟩, h3⟩
  · intro z hz t v' ht
    obtain ⟨h1, h2⟩ := h.einv z hz t v' ht
    refine ⟨h1, ?_⟩
    rw [hpg t]
    by_cases hd : o.dst = some t
    · exfalso
      rcases g.looks c z.i o z.o ho (h.egood z hz).1 t h1 hd with h3 | h3 | h3
      · exact hcp z hz h3.symm
      · rw [h.val z hz c (by simp)] at h3; cases h3
      · have := hpred _ h3; rw [h.dis1 z hz] at this; cases this
    · rw [if_neg hd]
      rcases h2 with h3 | ⟨⟨q, h3, h4⟩, h5⟩
      · exact .inl h3
      · exact .inr ⟨⟨q, h3, h4.mono hle⟩, h5⟩
  · intro z hz
    obtain ⟨e1, e2, e3⟩ := h.egood z hz
    have ha := hagain z hz
    refine ⟨e1, e2, ?_⟩
    unfold PE.again at ha
    cases hk : z.k with
    | skip => rw [hk] at e3; exact e3
    | rd =>
      rw [hk] at e3 ha
      refine ⟨e3.1, ?_⟩
      simp only at ha
      split at ha
      · rename_i v' hv; rw [hv, avEq_ok _ _ ha]
      · cases ha
    | cv =>
      rw [hk] at e3 ha
      refine ⟨e3.1, ?_⟩
      simp only at ha
      split at ha
      · rename_i v' hv; rw [hv, avEq_ok _ _ ha]
      · cases ha
    | al b ob mk =>
      rw [hk] at e3 ha
      simp only at ha
      have hb : b < H.nx := by
        rcases Nat.lt_or_ge b H.nx with h3 | h3
        · exact h3
        · have := (h.stp.rel.new b h3).2
          rw [e3.2.2.2.1] at this; cases this
      refine ⟨e3.1, e3.2.1, e3.2.2.1, ?_, by rw [hs.old b hb]; exact e3.2.2.2.2.1, e3.2.2.2.2.2⟩
      split at ha
      · rename_i o' ho'; rw [ho', AO.beq_ok _ _ ha]
      · cases ha
end
end Go.Ai
/- Regions that draw: all together. -/
namespace Go.Ai
section
variable {P : Program} {env : Nat → Value} {ng ro nt : Nat} {ops : Array Oper} {pm : List Nat} {ρ0 : Ren} {H0 : Heap} {w0 : World} {ds : List Deferred} {rd : Option Nat} {opW : Oper → TT AV → Heap → Option (AV × Heap)}

def unl (D : Array Bool) : Nat := D.toList.count false
theorem unl_set {D : Array Bool} {j : Nat} (hj : j < D.size) (h : D.getD j false = false) : unl (D.setIfInBounds j true) + 1 = unl D := by
  unfold unl
  have hj' : j < D.toList.length := by simpa using hj
  have hv : D.toList[j] = false := by
    have : D.getD j false = D[j] := by simp [hj]
    rw [this] at h; simpa using h
  have hc : 0 < D.toList.count false := List.count_pos_iff.2 (by rw [← hv]; exact List.getElem_mem hj')
  have hs := List.count_set (a := true) (b := false) hj'
  rw [hv] at hs
  rw [Array.toList_setIfInBounds, hs]
  simp only [beq_self_eq_true, if_true]
  have : (true == false) = false := rfl
  rw [this]
  simp only [Bool.false_eq_true, if_false]
  omega

theorem Good.all_done (g : Good ops pm) {D : Array Bool} (hsz : D.size = ops.size) (hr : Region.ready .any ops D = []) : ∀ (i : Nat), i < ops.size → D.getD i false = true := by
  intro i
  induction i using Nat.strongRecOn with
  | _ i ih =>
    intro hi
    cases hd : D.getD i false with
    | true => rfl
    | false =>
      have ho : ops[i]? = some ops[i] := by simp [hi]
      have h2 : i < D.size := by rw [hsz]; exact hi
      have h3 : D.getD i true = false := by simp [h2] at hd ⊢; exact hd
      have : i ∈ Region.ready .any ops D := mem_ready.2 ⟨h3, ops[i], ho, fun e he hb => ih e.on (g.edge i _ ho e he hb) (by have := g.edge i _ ho e he hb; omega)⟩
      rw [hr] at this
      cases this

theorem J.fr (g : Good ops pm) {D L T H Q pend a w ρ} (h : J P env ro ng nt ops pm ρ0 H0 w0 ds D L T H Q pend a w ρ) {z : PE} (hz : z ∈ pend) (hr : z.i ∈ Region.ready .any ops D) : FR ρ env z.T a.tmps := fun t v ht => by
  obtain ⟨_, h1⟩ := h.einv z hz t v ht
  rcases h1 with ⟨x, h2, _, _, h3⟩ | ⟨h2, _⟩
  · have := g.preds h.dsz h.cl hr h3
    rw [h.dis1 x h2] at this
    cases this
  · exact h2

theorem vr_undef {ρ : Ren} : VR ρ env (.tu []) undef := by simp [VR, VRs, undef]

/-- one that was run ahead -/
theorem J.exec (g : Good ops pm) {Qp : Exit → Act → World → Prop} {D L T H Q pend a w ρ} (h : J P env ro ng nt ops pm ρ0 H0 w0 ds D L T H Q pend a w ρ) {z : PE} (hz : z ∈ pend) (hr : z.i ∈ Region.ready .any ops D) {K : Act → World → Prop}
    (hK : ∀ pend' a' w' ρ', J P env ro ng nt ops pm ρ0 H0 w0 ds (D.setIfInBounds z.i true) L T H Q pend' a' w' ρ' → K a' w') : wpOpIn (Fc rd) 0 P ops Qp z.i K a w := by
  obtain ⟨hzo, hzd, hk⟩ := h.egood z hz
  have hF := h.fr g hz hr
  unfold wpOpIn
  rw [hzo]
  simp only
  have hno : ∀ y ∈ pend, y.i ≠ z.i → ∀ b ob mk, y.k = .al b ob mk → ρ b = none := fun y hy _ b ob mk hyk => by
    have e3 := (h.egood y hy).2.2
    rw [hyk] at e3
    exact e3.2.2.2.2.1
  cases hzk : z.k with
  | skip =>
    rw [hzk] at hk
    rw [gd_ok hF hk.1]
    simp only [Bool.false_eq_true, if_false]
    exact ⟨fun _ _ => trivial, hK _ _ _ _ (h.did g hz hr (Ren.le_refl _) h.stp (by rw [hk.2]; exact vr_undef) hno)⟩
  | rd =>
    rw [hzk] at hk
    rw [gd_ok hF hk.1]
    simp only [if_true]
    obtain ⟨u, h1, h2⟩ := ard_ok (a := a) h.stp.rel h.gok hF hk.2
    refine wp_run (ard_nd hk.2) h1 ?_
    exact hK _ _ _ _ (h.did g hz hr (Ren.le_refl _) h.stp h2 hno)
  | cv =>
    rw [hzk] at hk
    rw [gd_ok hF hk.1]
    simp only [if_true]
    obtain ⟨n, u, w', ρ', h1, h2, h3, h4⟩ := cvW_ok (a := a) h.stp.rel h.gok hF hk.2
    have hle := h4.le h.stp.rel
    have hno' : ∀ y ∈ pend, y.i ≠ z.i → ∀ b ob mk, y.k = .al b ob mk → ρ' b = none := fun y hy hyi b ob mk hyk => by
      have e3 := (h.egood y hy).2.2
      rw [hyk] at e3
      have hb : b < H.nx := by
        rcases Nat.lt_or_ge b H.nx with h5 | h5
        · exact h5
        · have := (h.stp.rel.new b h5).2
          rw [e3.2.2.2.1] at this; cases this
      rw [h4.old b hb]
      exact hno y hy hyi b ob mk hyk
    rcases h2 with rfl | ⟨rfl, rfl⟩
    · exact wp_run (cvW_nd hk.2) h1 (hK _ _ _ _ (h.did g hz hr hle (h.stp.trans h4) h3 hno'))
    · exact wp_run (cvW_nd hk.2) h1 (hK _ _ _ _ (h.did g hz hr hle (h.stp.trans h4) h3 hno'))
  | al b ob mk =>
    rw [hzk] at hk
    obtain ⟨k1, k2, k3, k4, k5, k6⟩ := hk
    rw [gd_ok hF k1]
    simp only [if_true]
    obtain ⟨cob, x, u, d, h1, h2⟩ := aal_ok (w := w) (a := a) h.stp.rel.one h.gok hF k2
    obtain ⟨h3, h4⟩ := h2 b k5
    refine wp_run (aal_nd k2) h1 ?_
    refine hK _ _ _ _ (h.did g hz hr (Ren.le_put _ k5) (h.stp.come k4 k5 k6 h3 (d := d)) (by rw [k3]; exact h4) (fun y hy hyi b' ob' mk' hyk => ?_))
    have hne : b' ≠ b := fun e => by
      subst e
      exact hyi (by rw [h.als y hy z hz b' ob' mk' ob mk hyk hzk])
    rw [Ren.put_ne _ _ hne]
    exact hno y hy hyi b' ob' mk' hyk

theorem draw_step (g : Good ops pm) (hW : OpOK P env ro ng opW) {Qp : Exit → Act → World → Prop} {T' : TT AV} {H' : Heap} {D : Array Bool} {a : Act} {w : World} {K : Act → World → Prop} {j : Nat} (hj : j ∈ Region.ready .any ops D)
    (hK : ∀ L T H Q pend a' w' ρ', J P env ro ng nt ops pm ρ0 H0 w0 ds (D.setIfInBounds j true) L T H Q pend a' w' ρ' → dgo P ng ro nt opW ops pm L T H Q = some (T', H') → K a' w') :
    ∀ L T H Q pend ρ, J P env ro ng nt ops pm ρ0 H0 w0 ds D L T H Q pend a w ρ → dgo P ng ro nt opW ops pm L T H Q = some (T', H') → wpOpIn (Fc rd) 0 P ops Qp j K a w := by
  intro L
  induction L with
  | nil =>
    intro T H Q pend ρ h hrun
    obtain ⟨hjD, o, ho, _⟩ := mem_ready.1 hj
    have hjlt : j < ops.size := (Array.getElem?_eq_some_iff.1 ho).1
    rcases h.part j hjlt with h1 | ⟨z, hz, rfl⟩ | h1
    · have : j < D.size := by rw [h.dsz]; exact hjlt
      simp [this] at hjD h1; rw [hjD] at h1; cases h1
    · exact h.exec g hz hj (fun pend' a' w' ρ' hJ => hK _ _ _ _ _ _ _ _ hJ hrun)
    · cases h1
  | cons c L ih =>
    intro T H Q pend ρ h hrun
    obtain ⟨hjD, oj, hoj, _⟩ := mem_ready.1 hj
    have hjlt : j < ops.size := (Array.getElem?_eq_some_iff.1 hoj).1
    by_cases hp : ∃ z ∈ pend, z.i = j
    · obtain ⟨z, hz, rfl⟩ := hp
      exact h.exec g hz hj (fun pend' a' w' ρ' hJ => hK _ _ _ _ _ _ _ _ hJ hrun)
    · simp only [dgo] at hrun
      cases ho : ops[c]? with
      | none => rw [ho] at hrun; cases hrun
      | some o =>
        rw [ho] at hrun
        simp only at hrun
        split at hrun
        · cases hrun
        · rename_i hgd
          split at hrun
          · rename_i T1 hT1
            exact ih _ _ _ _ _ (h.ahead (k := .skip) g ho hT1 h.stp (fun _ _ e => e) ⟨ho, (putT_ok hT1).1, hgd, rfl⟩ (fun b ob mk e => by cases e)) hrun
          · cases hrun
        · rename_i hgd
          cases hR : isR o.op with
          | true =>
            rw [hR] at hrun
            simp only [cond_true] at hrun
            split at hrun
            · rename_i v hv
              split at hrun
              · rename_i T1 hT1
                exact ih _ _ _ _ _ (h.ahead (k := .rd) g ho hT1 h.stp (fun _ _ e => e) ⟨ho, (putT_ok hT1).1, hgd, hv⟩ (fun b ob mk e => by cases e)) hrun
              · cases hrun
            · split at hrun
              · rename_i ob mk hal
                split at hrun
                · rename_i T1 hT1
                  refine ih _ _ _ _ _ (h.ahead (k := .al H.nx ob mk) g ho hT1 (h.stp.pushed ob) (ext_push h.stp.rel ob) ⟨ho, (putT_ok hT1).1, hgd, hal, rfl, ?_, (h.stp.rel.new _ (Nat.le_refl _)).1, h.stp.nx⟩ (fun b ob mk e => by cases e; rfl)) hrun
                  simp [Heap.push, TT.get_set_eq]
                · cases hrun
              · split at hrun
                · rename_i v hv
                  split at hrun
                  · rename_i T1 hT1
                    exact ih _ _ _ _ _ (h.ahead (k := .cv) g ho hT1 h.stp (fun _ _ e => e) ⟨ho, (putT_ok hT1).1, hgd, hv⟩ (fun b ob mk e => by cases e)) hrun
                  · cases hrun
                · cases hrun
          | false =>
            rw [hR] at hrun
            simp only [cond_false] at hrun
            split at hrun
            · rename_i v H1 hop
              cases hq : (keepQ (pm.getD c 0) Q).all (PE.again P ng ro H1) with
              | false => rw [hq] at hrun; cases hrun
              | true =>
                rw [hq] at hrun
                simp only [cond_true] at hrun
                split at hrun
                · rename_i T1 hT1
                  -- it must be this one
                  have hjc : j = c := by
                    rcases h.part j hjlt with h1 | h1 | h1
                    · have : j < D.size := by rw [h.dsz]; exact hjlt
                      simp [this] at hjD h1; rw [hjD] at h1; cases h1
                    · exact absurd h1 hp
                    · rcases List.mem_cons.1 h1 with h1 | h1
                      · exact h1
                      · exfalso
                        obtain ⟨done, hord, _⟩ := h.ord
                        simp only [orderOk, Bool.and_eq_true, ho, hR, Bool.false_or] at hord
                        have h2 := List.all_eq_true.1 hord.1.2.2 j h1
                        have h3 := g.preds h.dsz h.cl hj h2
                        rw [(h.dis2 c (by simp)).1] at h3
                        cases h3
                  subst hjc
                  have hF : FR ρ env (restr T (o.looksAt ops)) a.tmps := fun t v' ht => by
                    obtain ⟨h1, h2⟩ := restr_get ht
                    rcases h.tinv t v' h1 with ⟨x, h3, h4, _⟩ | ⟨h3, _⟩
                    · exfalso
                      rcases g.looks x.i j x.o o (h.egood x h3).1 ho t h2 h4 with h6 | h6 | h6
                      · exact (h.dis2 j (by simp)).2 x h3 h6
                      · have := g.preds h.dsz h.cl hj h6; rw [h.dis1 x h3] at this; cases this
                      · rw [h.val x h3 j (by simp)] at h6; cases h6
                    · exact h3
                  unfold wpOpIn
                  rw [ho]
                  simp only
                  rw [gd_ok hF hgd]
                  simp only [if_true]
                  exact hW rd o _ H v H1 ρ a w h.stp.rel h.gok hF hop K Qp (fun u w' ρ' h1 h2 => hK _ _ _ _ _ _ _ _ (h.wrote g ho hj hT1 h2 h1 hq) hrun)
                · cases hrun
            · cases hrun

theorem draw_all (g : Good ops pm) (hW : OpOK P env ro ng opW) {Qp : Exit → Act → World → Prop} {T' : TT AV} {H' : Heap}
    (hfin : ∀ a w ρ, FR ρ env T' a.tmps → a.tmps.size = nt → a.defers = ds → GOK ng ρ → Step env ro ρ0 H0 w0 ρ H' w → Qp .normal a w) :
    ∀ (fuel : Nat) D L T H Q pend a w ρ, J P env ro ng nt ops pm ρ0 H0 w0 ds D L T H Q pend a w ρ → dgo P ng ro nt opW ops pm L T H Q = some (T', H') → unl D ≤ fuel → wpAnyIn (Fc rd) 0 P .any ops Qp fuel D a w := by
  have hend : ∀ D L T H Q pend a w ρ, J P env ro ng nt ops pm ρ0 H0 w0 ds D L T H Q pend a w ρ → dgo P ng ro nt opW ops pm L T H Q = some (T', H') → Region.ready .any ops D = [] → Qp .normal a w := fun D L T H Q pend a w ρ h hrun hr => by
    have hall := g.all_done h.dsz hr
    have hp : pend = [] := by
      cases pend with
      | nil => rfl
      | cons z l =>
        have h1 := h.dis1 z (by simp)
        rw [hall z.i (Array.getElem?_eq_some_iff.1 (h.egood z (by simp)).1).1] at h1
        cases h1
    have hL : L = [] := by
      cases L with
      | nil => rfl
      | cons c l =>
        obtain ⟨done, hord, _⟩ := h.ord
        simp only [orderOk, Bool.and_eq_true] at hord
        have h1 := (h.dis2 c (by simp)).1
        cases ho : ops[c]? with
        | none => rw [ho] at hord; simp at hord
        | some o =>
          rw [hall c (Array.getElem?_eq_some_iff.1 ho).1] at h1
          cases h1
    subst hp hL
    simp only [dgo, Option.some.injEq, Prod.mk.injEq] at hrun
    obtain ⟨rfl, rfl⟩ := hrun
    refine hfin a w ρ (fun t v ht => ?_) h.tsz h.dfs h.gok h.stp
    rcases h.tinv t v ht with ⟨x, h1, _⟩ | ⟨h1, _⟩
    · cases h1
    · exact h1
  intro fuel
  induction fuel with
  | zero =>
    intro D L T H Q pend a w ρ h hrun hu
    have hr : Region.ready .any ops D = [] := by
      cases hr : Region.ready .any ops D with
      | nil => rfl
      | cons j l =>
        obtain ⟨h1, o, ho, _⟩ := mem_ready.1 (by rw [hr]; simp : j ∈ Region.ready .any ops D)
        have hj : j < D.size := by rw [h.dsz]; exact (Array.getElem?_eq_some_iff.1 ho).1
        have h2 : D.getD j false = false := by simp [hj] at h1 ⊢; exact h1
        have := unl_set hj h2
        omega
    exact ⟨hr, hend _ _ _ _ _ _ _ _ _ h hrun hr⟩
  | succ fuel ih =>
    intro D L T H Q pend a w ρ h hrun hu
    refine ⟨fun hr => hend _ _ _ _ _ _ _ _ _ h hrun hr, fun j hj => ?_⟩
    obtain ⟨h1, o, ho, _⟩ := mem_ready.1 hj
    have hjs : j < D.size := by rw [h.dsz]; exact (Array.getElem?_eq_some_iff.1 ho).1
    have h2 : D.getD j false = false := by simp [hjs] at h1 ⊢; exact h1
    have h3 := unl_set hjs h2
    exact draw_step g hW hj (fun L T H Q pend a' w' ρ' hJ hr => ih _ _ _ _ _ _ _ _ _ hJ hr (by omega)) L T H Q pend ρ h hrun
end
end Go.Ai
/- The interpreter. -/
namespace Go.Ai

inductive Ex where
  | normal
  | exit (id : Nat)
  | goto (l : Nat)
  | ret
inductive R0 where
  | ok (e : Ex) (T : TT AV) (H : Heap)
  | no
abbrev Sums := FuncId → Option (List AV → Heap → Option (AV × Heap))
structure Fns where
  ex : Nat → Code → TT AV → Heap → R0
  ca : FuncId → List AV → Heap → Option (AV × Heap)
  yi : Nat → List AV → Heap → Option (AV × Heap)

def hasBody (P : Program) (f : FuncId) : Bool :=
  match P.funcs[f]? with
  | some fn => fn.body.isSome
  | none => false
noncomputable def basic (P : Program) (ng ro : Nat) (o : Oper) (T : TT AV) (H : Heap) : Option (AV × Heap) :=
  match ard P ng H T o with
  | some v => some (v, H)
  | none => match aal P ng T o with
    | some (ob, mk) => some (mk.val H.nx, H.push ob)
    | none => awr P ng ro H T o
noncomputable def opX (P : Program) (ng ro : Nat) (ca : FuncId → List AV → Heap → Option (AV × Heap)) (yi : Nat → List AV → Heap → Option (AV × Heap)) (o : Oper) (T : TT AV) (H : Heap) : Option (AV × Heap) :=
  match o.op with
  | .call c => match c.callee with
    | .builtin _ => basic P ng ro o T H
    | .value f => match ev ng T f with
      | some (.fn (.func g) first caps) => match evs ng T c.args.toList with
        | some args => bif hasBody P g then ca g (first ++ (args ++ caps)) H else none
        | none => none
      | some (.fn (.yield l) [] []) => match evs ng T c.args.toList with
        | some args => yi l args H
        | none => none
      | _ => none
    | .invoke .. => none
  | _ => basic P ng ro o T H
noncomputable def sgo (nt : Nat) (op : Oper → TT AV → Heap → Option (AV × Heap)) (ops : Array Oper) : List Oper → TT AV → Heap → R0
  | [], T, H => .ok .normal T H
  | o :: l, T, H => match gd ops T o with
    | some true => match op o T H with
      | some (v, H') => match putT nt T o.dst v with
        | some T' => sgo nt op ops l T' H'
        | none => .no
      | none => .no
    | some false => match putT nt T o.dst (.tu []) with
      | some T' => sgo nt op ops l T' H
      | none => .no
    | none => .no
noncomputable def regX (P : Program) (ng ro nt : Nat) (op : Oper → TT AV → Heap → Option (AV × Heap)) (ops : Array Oper) (T : TT AV) (H : Heap) : R0 :=
  bif planOk P ops (planOf P ops) then
    match dgo P ng ro nt op ops (planOf P ops).pm (planOf P ops).L T H [] with
    | some (T', H') => .ok .normal T' H'
    | none => .no
  else .no
def isRdy : LoopState → Bool
  | .ready => true
  | _ => false
def isBusy : LoopState → Bool
  | .busy => true
  | _ => false
/-- no range over a function in it -/
def noRF : Code → Bool
  | .seq a b => noRF a && noRF b
  | .cond _ a b => noRF a && noRF b
  | .block _ c => noRF c
  | .loop c => noRF c
  | .scope c => noRF c
  | .rangeFunc .. => false
  | _ => true
noncomputable def putL (nt : Nat) : List Tmp → List AV → TT AV → Option (TT AV)
  | [], [], T => some T
  | t :: ts, v :: vs, T => bif Nat.blt t nt then putL nt ts vs (T.set v t) else none
  | _, _, _ => none
def exC : Ex → Code
  | .normal => .skip
  | .exit id => .exit id
  | .goto l => .goto l
  | .ret => .ret
noncomputable def yiEnd (l : Nat) (r : R0) : Option (AV × Heap) :=
  match r with
  | .ok .normal _ H => match H.t.get l with
    | some (.lp _ _ nt T ps as bd) => some (.b true, H.put l (.lp .ready none nt T ps as bd))
    | _ => none
  | .ok e _ H => match H.t.get l with
    | some (.lp _ _ nt T ps as bd) => some (.b false, H.put l (.lp .done (some (exC e)) nt T ps as bd))
    | _ => none
  | .no => none
/-- yield is called: a round -/
noncomputable def yiX (ro : Nat) (ih : Fns) (l : Nat) (args : List AV) (H : Heap) : Option (AV × Heap) :=
  match H.t.get l with
  | some (.lp _ _ nt T ps as bd) =>
    bif Nat.ble ro l && (noRF as && noRF bd) then
      match putL nt ps args T with
      | some T1 => match ih.ex nt as T1 H with
        | .ok .normal T2 H2 => match H2.t.get l with
          | some (.lp st2 pe2 nt2 T02 ps2 as2 bd2) => bif isRdy st2 then yiEnd l (ih.ex nt bd T2 (H2.put l (.lp .busy pe2 nt2 T02 ps2 as2 bd2))) else none
          | _ => none
        | _ => none
      | none => none
    else none
  | _ => none
def rfEnd (pe : Option Code) (T : TT AV) (H : Heap) : R0 :=
  match pe with
  | none => .ok .normal T H
  | some .ret => .ok .ret T H
  | some (.exit id) => .ok (.exit id) T H
  | some (.goto l) => .ok (.goto l) T H
  | some _ => .no
noncomputable def rfX (P : Program) (ng ro : Nat) (ih : Fns) (nt : Nat) (g : Operand) (ps : Array Tmp) (as bd : Code) (T : TT AV) (H : Heap) : R0 :=
  match ev ng T g with
  | some (.fn (.func gf) first caps) => bif hasBody P gf && Nat.ble ro H.nx then
      match ih.ca gf (first ++ ([.fn (.yield H.nx) [] []] ++ caps)) (H.push (.lp .ready none nt T ps.toList as bd)) with
      | some (_, H1) => match H1.t.get H.nx with
        | some (.lp st pe nt1 T1 ps1 as1 bd1) => bif isBusy st then .no else rfEnd pe T (H1.put H.nx (.lp .exhausted pe nt1 T1 ps1 as1 bd1))
        | _ => .no
      | none => .no
    else .no
  | _ => .no
noncomputable def exX (P : Program) (ng ro : Nat) (ih : Fns) (nt : Nat) (code : Code) (T : TT AV) (H : Heap) : R0 :=
  match code with
  | .skip => .ok .normal T H
  | .label _ => .ok .normal T H
  | .exit id => .ok (.exit id) T H
  | .goto l => .ok (.goto l) T H
  | .ret => .ok .ret T H
  | .region _ ops true => regX P ng ro nt (opX P ng ro ih.ca ih.yi) ops T H
  | .region _ ops false => sgo nt (opX P ng ro ih.ca ih.yi) ops ops.toList T H
  | .seq a b => match ih.ex nt a T H with
    | .ok .normal T' H' => ih.ex nt b T' H'
    | r => r
  | .cond c a b => match ev ng T c with
    | some (.b true) => ih.ex nt a T H
    | some (.b false) => ih.ex nt b T H
    | _ => .no
  | .block id c => match ih.ex nt c T H with
    | .ok (.exit id') T' H' => bif Nat.beq id' id then .ok .normal T' H' else .ok (.exit id') T' H'
    | r => r
  | .loop c => match ih.ex nt c T H with
    | .ok .normal T' H' => ih.ex nt (.loop c) T' H'
    | r => r
  | .scope c => match ih.ex nt c T H with
    | .ok (.goto _) _ _ => .no
    | r => r
  | .rangeFunc g ps as bd => rfX P ng ro ih nt g ps as bd T H
  | _ => .no
noncomputable def argT : Nat → List AV → TT AV → TT AV
  | _, [], T => T
  | i, v :: l, T => argT (Nat.succ i) l (T.set v i)
noncomputable def resA (P : Program) (T : TT AV) (H : Heap) : List ResultVar → Option (List AV)
  | [] => some []
  | .tmp t :: l => match T.get t with
    | some v => match resA P T H l with
      | some vs => some (v :: vs)
      | none => none
    | none => none
  | .cell a t :: l => match T.get a with
    | some x => match aLoad P H t x with
      | some v => match resA P T H l with
        | some vs => some (v :: vs)
        | none => none
      | none => none
    | none => none
def oneOf : List AV → AV
  | [v] => v
  | vs => .tu vs
noncomputable def finX (P : Program) (fn : Func) (r : R0) : Option (AV × Heap) :=
  match r with
  | .ok .normal T H => match resA P T H fn.results.toList with
    | some vs => some (oneOf vs, H)
    | none => none
  | .ok .ret T H => match resA P T H fn.results.toList with
    | some vs => some (oneOf vs, H)
    | none => none
  | _ => none
noncomputable def caB (P : Program) (ih : Fns) (f : FuncId) (args : List AV) (H : Heap) : Option (AV × Heap) :=
  match P.funcs[f]? with
  | some fn => match fn.body with
    | some c => finX P fn (ih.ex (args.length + (fn.ntmps - args.length)) c (argT 0 args .e) H)
    | none => none
  | none => none
noncomputable def caX (P : Program) (S : Sums) (ih : Fns) (f : FuncId) (args : List AV) (H : Heap) : Option (AV × Heap) :=
  match S f with
  | some g => match g args H with
    | some r => some r
    | none => caB P ih f args H
  | none => caB P ih f args H
/-- the interpreter, with so much fuel -/
noncomputable def fns (P : Program) (ng ro : Nat) (S : Sums) (n : Nat) : Fns :=
  Nat.rec ⟨fun _ _ _ _ => .no, fun _ _ _ => none, fun _ _ _ => none⟩ (fun _ ih => ⟨exX P ng ro ih, caX P S ih, yiX ro ih⟩) n
end Go.Ai
/- The interpreter is right. -/
namespace Go.Ai
section
variable {P : Program} {env : Nat → Value} {ng ro nt : Nat} {ops : Array Oper} {pm : List Nat} {S : Sums}

theorem numbered_mem (l : List Oper) : ∀ (k i : Nat) (o : Oper), l[i]? = some o → (k + i, o) ∈ numbered k l := by
  induction l with
  | nil => intro k i o h; simp at h
  | cons x l ih =>
    intro k i o h
    cases i with
    | zero => simp at h; subst h; simp [numbered]
    | succ i =>
      simp only [List.getElem?_cons_succ] at h
      have := ih (k + 1) i o h
      simp only [numbered, List.mem_cons]
      right
      rw [show k + (i + 1) = k + 1 + i by omega]
      exact this
theorem edgesOk_ok (l : List Oper) : ∀ (k : Nat), edgesOk pm k l = true → ∀ (i : Nat) (o : Oper), l[i]? = some o → (∀ e ∈ o.after, Region.binds .any e = true → e.on < k + i) ∧ pm.getD (k + i) 0 = maskOf pm o.after.toList := by
  induction l with
  | nil => intro k _ i o h; simp at h
  | cons x l ih =>
    intro k h i o ho
    rw [edgesOk, Bool.and_eq_true, Bool.and_eq_true] at h
    obtain ⟨h1, h2, h3⟩ := h
    cases i with
    | zero =>
      simp only [List.getElem?_cons_zero, Option.some.injEq] at ho
      subst ho
      refine ⟨fun e he hb => ?_, beq_true h2⟩
      have := List.all_eq_true.1 h1 e (by simpa using he)
      rw [hb] at this
      exact blt_iff.1 (by simpa using this)
    | succ i =>
      simp only [List.getElem?_cons_succ] at ho
      have := ih (k + 1) h3 i o ho
      rw [show k + (i + 1) = k + 1 + i by omega]
      exact this
theorem dstOk_ok (l : List Oper) : dstOk l = true → ∀ (i j : Nat) (x y : Oper), l[i]? = some x → l[j]? = some y → ∀ d, x.dst = some d → y.dst = some d → i = j := by
  induction l with
  | nil => intro _ i j x y h; simp at h
  | cons z l ih =>
    intro h i j x y hx hy d h1 h2
    rw [dstOk, Bool.and_eq_true] at h
    obtain ⟨h3, h4⟩ := h
    cases i with
    | zero =>
      cases j with
      | zero => rfl
      | succ j =>
        simp only [List.getElem?_cons_zero, Option.some.injEq, List.getElem?_cons_succ] at hx hy
        subst hx
        rw [h1] at h3
        have := List.all_eq_true.1 h3 y (List.mem_of_getElem? hy)
        rw [h2] at this
        simp at this
    | succ i =>
      cases j with
      | zero =>
        simp only [List.getElem?_cons_zero, Option.some.injEq, List.getElem?_cons_succ] at hx hy
        subst hy
        rw [h2] at h3
        have := List.all_eq_true.1 h3 x (List.mem_of_getElem? hx)
        rw [h1] at this
        simp at this
      | succ j =>
        simp only [List.getElem?_cons_succ] at hx hy
        rw [ih h4 i j x y hx hy d h1 h2]
theorem planOk_good {p : Plan} (h : planOk P ops p = true) : Good ops p.pm ∧ orderOk P ops p.pm p.L 0 = true ∧ ∀ i, i < ops.size → i ∈ p.L := by
  simp only [planOk, Bool.and_eq_true] at h
  obtain ⟨h1, h2, h3, h4, h5⟩ := h
  have hl : ∀ (i : Nat) (o : Oper), ops[i]? = some o → ops.toList[i]? = some o := fun i o e => by simpa using e
  refine ⟨⟨fun i o ho e he hb => ?_, fun i o ho => ?_, fun i j x y hx hy d => dstOk_ok _ h4 i j x y (hl i x hx) (hl j y hy) d, fun i j x y hx hy t ht hd => ?_⟩, h2, fun i hi => ?_⟩
  · have := (edgesOk_ok _ _ h1 i o (hl i o ho)).1 e he hb; omega
  · have := (edgesOk_ok _ _ h1 i o (hl i o ho)).2; simpa using this
  · have a1 := List.all_eq_true.1 h5 _ (numbered_mem _ 0 _ _ (hl j y hy))
    have a2 := List.all_eq_true.1 a1 t ht
    have a3 := List.all_eq_true.1 a2 _ (numbered_mem _ 0 _ _ (hl i x hx))
    simp only [hd, Bool.or_eq_true, Nat.zero_add] at a3
    rcases a3 with a3 | a3 | a3 | a3
    · exact .inl (beq_true a3)
    · simp at a3
    · exact .inr (.inl a3)
    · exact .inr (.inr a3)
  · have a1 := List.all_eq_true.1 h3 _ (numbered_mem _ 0 _ _ (hl i ops[i] (by simp [hi])))
    obtain ⟨z, hz, hb⟩ := List.any_eq_true.1 a1
    have := beq_true hb
    simp at this
    rw [this]; exact hz

/-! operations -/
def CallOK (P : Program) (env : Nat → Value) (ro ng : Nat) (ca : FuncId → List AV → Heap → Option (AV × Heap)) : Prop :=
  ∀ (f : FuncId) (args : List AV) (us : List Value) (H : Heap) (w : World) (ρ : Ren) (v : AV) (H' : Heap), Rel env ρ H w → GOK ng ρ → VRs ρ env args us → ca f args H = some (v, H') →
    Calls P f ⟨us⟩ w fun e w' => ∃ u ρ', e = .returned u ∧ VR ρ' env v u ∧ Step env ro ρ H w ρ' H' w'
def YieldOK (P : Program) (env : Nat → Value) (ro ng : Nat) (yi : Nat → List AV → Heap → Option (AV × Heap)) : Prop :=
  ∀ (l : Nat) (args : List AV) (us : List Value) (H : Heap) (w : World) (ρ : Ren) (v : AV) (H' : Heap), Rel env ρ H w → GOK ng ρ → VRs ρ env args us → yi l args H = some (v, H') → ∀ c x, ρ l = some (c, x) →
    ∃ fn tmps as bd, (Instr.yield c ⟨us⟩).run P w = .ok (.round c fn tmps as bd) w ∧
      RoundIn Fence.wide 0 P c fn tmps as bd w fun e w' => ∃ u ρ', e = .returned u ∧ VR ρ' env v u ∧ Step env ro ρ H w ρ' H' w'
theorem callsIn_any {rd : Option Nat} {f : FuncId} {args : Array Value} {w : World} {R : Ending → World → Prop} (h : Calls P f args w R) : CallsIn (Fc rd) 0 P f args w R := (callsIn_wide (n := 0)).2 h
theorem roundIn_any {rd : Option Nat} {l : Nat} {f : FuncId} {tmps : Array Value} {as bd : Code} {w : World} {R : Ending → World → Prop} (h : RoundIn Fence.wide 0 P l f tmps as bd w R) : RoundIn (Fc rd) 0 P l f tmps as bd w R := h
def NamesOK (P : Program) : Prop := ∀ (f : FuncId) (fn : Func), P.funcs[f]? = some fn → (fn.name == "runtime.NumGoroutine") = false
theorem run_callFunc (hN : NamesOK P) {f : FuncId} (h : hasBody P f = true) (args : Array Value) (w : World) : (callFunc f args).run P w = .ok (.enter f args) w := by
  unfold hasBody at h
  split at h
  · rename_i fn hf
    have h1 := hN f fn hf
    have h2 : fn.body.isNone = false := by cases hb : fn.body <;> simp [hb] at h ⊢
    simp only [callFunc, Sem.run_bind, run_program, Result.andThen_ok, hf, h1, h2, Bool.false_eq_true, if_false, Sem.run_pure]
  · cases h
theorem basic_ok {o : Oper} {T : TT AV} {H : Heap} {v : AV} {H' : Heap} {ρ : Ren} {a : Act} {w : World} (r : Rel env ρ H w) (hg : GOK ng ρ) (hF : FR ρ env T a.tmps) (h : basic P ng ro o T H = some (v, H'))
    {rd : Option Nat} {next : Act → World → Prop} {Q : Exit → Act → World → Prop} (hn : ∀ u w' ρ', VR ρ' env v u → Step env ro ρ H w ρ' H' w' → next (a.put o.dst u) w') : o.wpIn (Fc rd) 0 P a w next Q := by
  unfold basic at h
  split at h
  · rename_i x hx
    cases h
    obtain ⟨u, h1, h2⟩ := ard_ok (a := a) r hg hF hx
    exact wp_run (ard_nd hx) h1 (hn u w ρ h2 (Step.refl r))
  · split at h
    · rename_i ob mk hal
      cases h
      obtain ⟨cob, x, u, d, h1, h2⟩ := aal_ok (w := w) (a := a) r.one hg hF hal
      obtain ⟨h3, h4⟩ := h2 H.nx (r.new _ (Nat.le_refl _)).1
      refine wp_run (aal_nd hal) h1 ?_
      exact hn u _ _ h4 ((Step.alloc r h3).trans (Step.drew (Step.alloc (ro := ro) r h3).rel d))
    · obtain ⟨n, u, w', ρ', h1, h2, h3, h4⟩ := awr_ok (a := a) r hg hF h
      refine wp_run (awr_nd h) h1 ?_
      rcases h2 with rfl | ⟨rfl, rfl⟩
      · exact hn u w' ρ' h3 h4
      · exact hn undef w' ρ' h3 h4
theorem opX_ok (hN : NamesOK P) {ca : FuncId → List AV → Heap → Option (AV × Heap)} {yi : Nat → List AV → Heap → Option (AV × Heap)} (hc : CallOK P env ro ng ca) (hy : YieldOK P env ro ng yi) : OpOK P env ro ng (opX P ng ro ca yi) := by
  intro rd o T H v H' ρ a w r hg hF h next Q hn
  unfold opX at h
  split at h
  · rename_i c hop
    split at h
    · exact basic_ok r hg hF h hn
    · rename_i f hcal
      split at h
      · rename_i g first caps hf
        split at h
        · rename_i args hargs
          cases hb : hasBody P g with
          | false => rw [hb] at h; cases h
          | true =>
            rw [hb] at h
            simp only [cond_true] at h
            have hf' := ev_ok (a := a) (env := env) hg hF hf
            simp only [VR] at hf'
            obtain ⟨gg, l, k, hgg, h1, h2, h3⟩ := hf'
            simp only [FnR] at hgg
            subst hgg
            have hargs' := evs_ok (a := a) (env := env) hg hF hargs
            have hcall := hc g _ _ H w ρ v H' r hg (h2.append (hargs'.append h3)) h
            have hrun : (execOp a.eval o).run P w = .ok (.enter g ⟨l ++ (c.args.toList.map a.eval ++ k)⟩) w := by
              have e : (#[] : Array Value) ++ (⟨l⟩ ++ c.args.map a.eval) ++ ⟨k⟩ = ⟨l ++ (c.args.toList.map a.eval ++ k)⟩ := by apply Array.toList_inj.1; simp
              have e2 : (⟨l⟩ ++ c.args.map a.eval : Array Value) ++ ⟨k⟩ = ⟨l ++ (c.args.toList.map a.eval ++ k)⟩ := by apply Array.toList_inj.1; simp
              have : execOp a.eval o = (do let d ← resolve a.eval c o.type; invoke d.target d.args) := by unfold execOp; rw [hop]
              rw [this]
              unfold resolve
              rw [hcal]
              simp only [h1, Deferred.ofValue, Sem.run_bind, Sem.run_pure, Result.andThen_ok, invoke]
              rw [e2]
              exact run_callFunc hN hb _ _
            refine wp_run (fun c' e => by rw [hop] at e; cases e) hrun ⟨(fun h => by cases h), callsIn_any ?_⟩
            refine hcall.mono fun e w' ⟨u, ρ', he, h4, h5⟩ => ?_
            subst he
            exact hn u w' ρ' h4 h5
        · cases h
      · rename_i l hf
        split at h
        · rename_i args hargs
          have hf' := ev_ok (a := a) (env := env) hg hF hf
          simp only [VR, VRs] at hf'
          obtain ⟨gg, l1, k1, ⟨b, x, hb, rfl⟩, h1, rfl, rfl⟩ := hf'
          have hargs' := evs_ok (a := a) (env := env) hg hF hargs
          obtain ⟨fn, tmps, as, bd, h2, h3⟩ := hy l _ _ H w ρ v H' r hg hargs' h b x hb
          have hrun : (execOp a.eval o).run P w = .ok (.round b fn tmps as bd) w := by
            have : execOp a.eval o = (do let d ← resolve a.eval c o.type; invoke d.target d.args) := by unfold execOp; rw [hop]
            rw [this]
            unfold resolve
            rw [hcal]
            have e : (#[] : Array Value) ++ c.args.map a.eval = ⟨c.args.toList.map a.eval⟩ := by apply Array.toList_inj.1; simp
            simp only [h1, Deferred.ofValue, Sem.run_bind, Sem.run_pure, Result.andThen_ok, invoke]
            rw [show ((⟨[]⟩ : Array Value) ++ c.args.map a.eval) = ⟨c.args.toList.map a.eval⟩ from e]
            exact h2
          refine wp_run (fun c' e => by rw [hop] at e; cases e) hrun ⟨(fun h => by cases h), roundIn_any ?_⟩
          refine h3.mono fun e w' ⟨u, ρ', he, h4, h5⟩ => ?_
          subst he
          exact hn u w' ρ' h4 h5
        · cases h
      · cases h
    · cases h
  · exact basic_ok r hg hF h hn

/-! code -/
def toExit : Ex → Exit
  | .normal => .normal
  | .exit id => .exit id
  | .goto l => .goto l
  | .ret => .ret
/-- the blocks for deferred calls that the activation's ranges over functions have laid: no block that is known is one -/
abbrev MK := Nat × Option (List Deferred)
structure Marks (n0 : MK) (ρ : Ren) (H : Heap) (w : World) (ds : List Deferred) : Prop where
  le : n0.1 ≤ w.heap.size
  keep : ∀ d0, n0.2 = some d0 → ds = d0
  row : ∃ l : List Nat, ds = l.map (fun D => { target := .collected D, args := #[] }) ∧ l.Nodup ∧ ∀ D ∈ l, n0.1 ≤ D ∧ w.heap[D]? = some (.deferred (some [])) ∧ ¬ Img 0 ρ H D
theorem Marks.none {n0 : Nat} {ρ : Ren} {H : Heap} {w : World} (h : n0 ≤ w.heap.size) : Marks (n0, Option.none) ρ H w [] := ⟨h, fun _ h => (by cases h), [], rfl, .nil, fun D hD => by cases hD⟩
theorem Marks.step {n0 : MK} {ρ ρ' : Ren} {H H' : Heap} {w w' : World} {ds : List Deferred} (m : Marks n0 ρ H w ds) (h : Step env ro ρ H w ρ' H' w') : Marks n0 ρ' H' w' ds := by
  obtain ⟨h1, hk, l, h2, h3, h4⟩ := m
  refine ⟨Nat.le_trans h1 h.size, hk, l, h2, h3, fun D hD => ?_⟩
  obtain ⟨h5, h6, h7⟩ := h4 D hD
  have hlt := (Array.getElem?_eq_some_iff.1 h6).1
  refine ⟨h5, (h.keep D hlt (fun ⟨a, o, x, _, h8⟩ => h7 ⟨a, o, x, Nat.zero_le _, h8⟩)).trans h6, fun hi => ?_⟩
  rcases h.img 0 D (Nat.zero_le _) hi with h8 | h8
  · exact h7 h8
  · omega
def Post (env : Nat → Value) (ro ng nt : Nat) (n0 : MK) (ρ : Ren) (H : Heap) (w : World) (e : Ex) (T' : TT AV) (H' : Heap) : Exit → Act → World → Prop :=
  fun e' a' w' => ∃ ρ', e' = toExit e ∧ FR ρ' env T' a'.tmps ∧ a'.tmps.size = nt ∧ Marks n0 ρ' H' w' a'.defers ∧ GOK ng ρ' ∧ Step env ro ρ H w ρ' H' w'
theorem Post.trans {n0 : MK} {ρ ρ1 : Ren} {H H1 : Heap} {w w1 : World} (hs : Step env ro ρ H w ρ1 H1 w1) {e : Ex} {T' : TT AV} {H' : Heap} {e' : Exit} {a' : Act} {w' : World} (h : Post env ro ng nt n0 ρ1 H1 w1 e T' H' e' a' w') : Post env ro ng nt n0 ρ H w e T' H' e' a' w' := by
  obtain ⟨ρ', h1, h2, h3, h4, h5, h6⟩ := h
  exact ⟨ρ', h1, h2, h3, h4, h5, hs.trans h6⟩

/-- a loop whose body begins -/
def LoopWp (rd : Option Nat) (P : Program) (c : Code) (Q : Exit → Act → World → Prop) (a : Act) (w : World) : Prop :=
  ∀ (b : Frame) (k : List Item) (cs : List Frame), b.roundOf = (Fc rd).round → (Fc rd).fn b.fn → (Fc rd).room (cs.length + 1 + 0) →
    ∃ e a' w', Q e a' w' ∧ ArrivesIn (Machine.fenced P (Fc rd)) P (lone (b.atR a (.code c :: .inLoop c :: k)) cs w) b k cs e a' w'
theorem loop_of {rd : Option Nat} {c : Code} {Q : Exit → Act → World → Prop} {a : Act} {w : World} (h : LoopWp rd P c Q a w) : (Code.loop c).wpIn (Fc rd) 0 P Q a w := fun b k cs hro hb hr =>
  let ⟨e, a', w', q, r⟩ := h b k cs hro hb hr
  ⟨e, a', w', q, .of_steps (.one (fenced_calm hb hr rfl) stepR_loop) r⟩
theorem loop_step {rd : Option Nat} {c : Code} {Q : Exit → Act → World → Prop} {a : Act} {w : World} (h : c.wpIn (Fc rd) 0 P (Exit.then (LoopWp rd P c Q) Q) a w) : LoopWp rd P c Q a w := by
  intro b k cs hro hb hr
  obtain ⟨e, a₁, w₁, hq, harr⟩ := h b (.inLoop c :: k) cs hro hb hr
  cases e with
  | normal =>
    obtain ⟨e₂, a₂, w₂, hq₂, harr₂⟩ := hq b k cs hro hb hr
    exact ⟨e₂, a₂, w₂, hq₂, .of_steps (StepsIn.trans harr (.one (fenced_calm hb hr rfl) stepR_inLoop)) harr₂⟩
  | exit id => exact ⟨_, a₁, w₁, hq, .pass (x := .inLoop c) rfl (fun _ _ => .inl (by simp)) harr⟩
  | goto l => exact ⟨_, a₁, w₁, hq, .pass (x := .inLoop c) rfl (fun _ _ => .inl (by simp)) harr⟩
  | ret => exact ⟨_, a₁, w₁, hq, .pass (x := .inLoop c) rfl (fun _ _ => .inl (by simp)) harr⟩
  | panic ch => exact ⟨_, a₁, w₁, hq, .pass (x := .inLoop c) rfl (fun _ _ => .inl (by simp)) harr⟩
  | outgrown => exact ⟨_, a₁, w₁, hq, .pass (x := .inLoop c) rfl (fun _ _ => .inl (by simp)) harr⟩
theorem stepR_scope {b : Frame} {a : Act} {k : List Item} {cs : List Frame} {w : World} {c : Code} : step P (lone (b.atR a (.code (.scope c) :: k)) cs w) = .next (lone (b.atR a (.code c :: .inScope c :: k)) cs w) :=
  step_lone_go (by simp [stepG, stepG.exec, Frame.atR])
theorem stepR_inScope {b : Frame} {a : Act} {k : List Item} {cs : List Frame} {w : World} {c : Code} : step P (lone (b.atR a (.inScope c :: k)) cs w) = .next (lone (b.atR a k) cs w) :=
  step_lone_go (by simp [stepG, stepG.exec, Frame.atR])
theorem scope_straight {rd : Option Nat} {c : Code} {Q : Exit → Act → World → Prop} {a : Act} {w : World} (h : c.wpIn (Fc rd) 0 P (Exit.noGoto Q) a w) : (Code.scope c).wpIn (Fc rd) 0 P Q a w := by
  intro b k cs hro hb hr
  have h0 : (lone (b.atR a (.code (.scope c) :: k)) cs w).fenced P (Fc rd) := fenced_calm hb hr rfl
  obtain ⟨e, a₁, w₁, hq, harr⟩ := h b (.inScope c :: k) cs hro hb hr
  cases e with
  | normal => exact ⟨.normal, a₁, w₁, hq, .head h0 stepR_scope (StepsIn.trans harr (.one (fenced_calm hb hr rfl) stepR_inScope))⟩
  | exit id =>
    have hx : exitTo id (.inScope c :: k) = exitTo id k := by simp [exitTo]
    exact ⟨.exit id, a₁, w₁, hq, fun k' hk => .head h0 stepR_scope (harr.1 k' (by rw [hx]; exact hk)),
      fun hr' hk => let ⟨k₁, h1, h2⟩ := harr.2 hr' (by rw [hx]; exact hk); ⟨k₁, h1, .head h0 stepR_scope h2⟩⟩
  | goto l => exact hq.elim
  | ret => exact ⟨_, a₁, w₁, hq, .of_steps (.one h0 stepR_scope) harr⟩
  | panic ch => exact ⟨_, a₁, w₁, hq, .of_steps (.one h0 stepR_scope) harr⟩
  | outgrown => exact ⟨_, a₁, w₁, hq, .of_steps (.one h0 stepR_scope) harr⟩

theorem wp_mono2 {F : Fence} {n : Nat} {o : Oper} {a : Act} {w : World} {K K' : Act → World → Prop} {Q Q' : Exit → Act → World → Prop} (hn : ∀ a w, K a w → K' a w) (hq : ∀ e a w, Q e a w → Q' e a w) (h : o.wpIn F n P a w K Q) : o.wpIn F n P a w K' Q' := by
  unfold Oper.wpIn at *
  refine ⟨h.1, ?_⟩
  have h := h.2
  generalize (o.semAt F.round a.eval).run P w = r at *
  cases r with
  | ok n w' =>
    cases n <;> simp only [Oper.uponIn] at h ⊢ <;>
      first
        | exact hn _ _ h
        | exact ⟨h.1, CallsIn.mono h.2 (fun e w'' he => by cases e <;> first | exact hn _ _ he | exact hq _ _ _ he | exact he.elim fun a h => h.elim fun w h => ⟨a, w, hq _ _ _ h⟩)⟩
        | exact ⟨h.1, RowsIn.mono h.2 (fun _ _ he => hn _ _ he)⟩
        | exact ⟨h.1, RoundIn.mono h.2 (fun e w'' he => by cases e <;> first | exact hn _ _ he | exact hq _ _ _ he | exact he.elim fun a h => h.elim fun w h => ⟨a, w, hq _ _ _ h⟩)⟩
  | halt x w' => cases x <;> simp only [Oper.uponIn] at h ⊢ <;> exact hq _ _ _ h
theorem wpList_post {F : Fence} {n : Nat} {Q Q' : Exit → Act → World → Prop} (hq : ∀ e a w, Q e a w → Q' e a w) : ∀ {l : List Oper} {a : Act} {w : World}, wpListIn F n P ops Q l a w → wpListIn F n P ops Q' l a w
  | [], _, _, h => hq _ _ _ h
  | o :: l, a, w, h => by
    unfold wpListIn at h ⊢
    split
    · rename_i hw
      rw [if_pos hw] at h
      exact wp_mono2 (fun _ _ h => wpList_post hq h) hq h
    · rename_i hw
      rw [if_neg hw] at h
      exact ⟨h.1, wpList_post hq h.2⟩
theorem sgo_ok {n0 : MK} {rd : Option Nat} {op : Oper → TT AV → Heap → Option (AV × Heap)} (hop : OpOK P env ro ng op) : ∀ (l : List Oper) (T : TT AV) (H : Heap) (ρ : Ren) (a : Act) (w : World) (e : Ex) (T' : TT AV) (H' : Heap), Rel env ρ H w → GOK ng ρ → FR ρ env T a.tmps → a.tmps.size = nt → Marks n0 ρ H w a.defers →
    sgo nt op ops l T H = .ok e T' H' → wpListIn (Fc rd) 0 P ops (Post env ro ng nt n0 ρ H w e T' H') l a w
  | [], T, H, ρ, a, w, e, T', H', r, hg, hF, hs, hd, h => by
    simp only [sgo, R0.ok.injEq] at h
    obtain ⟨rfl, rfl, rfl⟩ := h
    exact ⟨ρ, rfl, hF, hs, hd, hg, Step.refl r⟩
  | o :: l, T, H, ρ, a, w, e, T', H', r, hg, hF, hs, hd, h => by
    simp only [sgo] at h
    split at h
    · rename_i hgd
      split at h
      · rename_i v H1 hv
        split at h
        · rename_i T1 hT
          obtain ⟨hT1, hT2⟩ := putT_ok hT
          refine wpListIn_step fun K hK => ?_
          rw [gd_ok hF hgd]
          simp only [if_true]
          refine hop rd o T H v H1 ρ a w r hg hF hv K _ fun u w' ρ' h1 h2 => hK _ _ ?_
          have hle := h2.le r
          have hF' : FR ρ' env T1 (a.put o.dst u).tmps := fun t x ht => by
            rw [hT2 t] at ht
            rw [put_get (fun s e => by rw [hs]; exact hT1 s e)]
            by_cases hd : o.dst = some t
            · rw [if_pos hd] at ht ⊢; cases ht; exact ⟨u, rfl, h1⟩
            · rw [if_neg hd] at ht ⊢; exact hF.mono hle t x ht
          have := sgo_ok (rd := rd) hop l T1 H1 ρ' (a.put o.dst u) w' e T' H' h2.rel (hg.mono hle) hF' (by cases hd : o.dst <;> simp [Act.put, hs]) (by cases hd' : o.dst <;> exact hd.step h2) h
          exact wpList_post (fun e a w h => h.trans h2) this
        · cases h
      · cases h
    · rename_i hgd
      split at h
      · rename_i T1 hT
        obtain ⟨hT1, hT2⟩ := putT_ok hT
        refine wpListIn_step fun K hK => ?_
        rw [gd_ok hF hgd]
        simp only [Bool.false_eq_true, if_false]
        refine ⟨fun _ _ => trivial, hK _ _ ?_⟩
        have hF' : FR ρ env T1 (a.put o.dst undef).tmps := fun t x ht => by
          rw [hT2 t] at ht
          rw [put_get (fun s e => by rw [hs]; exact hT1 s e)]
          by_cases hd : o.dst = some t
          · rw [if_pos hd] at ht ⊢; cases ht; exact ⟨undef, rfl, vr_undef⟩
          · rw [if_neg hd] at ht ⊢; exact hF t x ht
        exact sgo_ok hop l T1 H ρ (a.put o.dst undef) w e T' H' r hg hF' (by cases hd : o.dst <;> simp [Act.put, hs]) (by cases hd' : o.dst <;> exact hd) h
      · cases h
    · cases h
end
end Go.Ai
/- Rounds of a range over a function; its statement. -/
namespace Go.Ai
section
variable {P : Program} {env : Nat → Value} {ng ro : Nat} {S : Sums}

def ExOK (P : Program) (env : Nat → Value) (ro ng : Nat) (ex : Nat → Code → TT AV → Heap → R0) : Prop :=
  ∀ (rd : Option Nat) (nt : Nat) (n0 : MK) (code : Code) (T : TT AV) (H : Heap) (ρ : Ren) (a : Act) (w : World) (e : Ex) (T' : TT AV) (H' : Heap), Rel env ρ H w → GOK ng ρ → FR ρ env T a.tmps → a.tmps.size = nt → Marks n0 ρ H w a.defers →
    ((rd.isSome = true ∨ n0.2.isSome = true) → noRF code = true) → ex nt code T H = .ok e T' H' →
    code.wpIn (Fc rd) 0 P (Post env ro ng nt n0 ρ H w e T' H') a w ∧ ∀ c, code = .loop c → LoopWp rd P c (Post env ro ng nt n0 ρ H w e T' H') a w
structure FnsOK (P : Program) (env : Nat → Value) (ro ng : Nat) (F : Fns) : Prop where
  ca : CallOK P env ro ng F.ca
  yi : YieldOK P env ro ng F.yi
  ex : ExOK P env ro ng F.ex

theorem putL_ok {nt : Nat} {ρ : Ren} : ∀ {ps : List Tmp} {args : List AV} {us : List Value} {T T1 : TT AV} {l : Array Value}, putL nt ps args T = some T1 → l.size = nt → FR ρ env T l → VRs ρ env args us →
    ps.length = us.length ∧ ((ps.zip us).foldl (fun t (p, v) => t.setIfInBounds p v) l).size = nt ∧ FR ρ env T1 ((ps.zip us).foldl (fun t (p, v) => t.setIfInBounds p v) l)
  | [], [], us, T, T1, l, h, hs, hF, ha => by
    simp only [VRs] at ha; subst ha
    simp only [putL, Option.some.injEq] at h; subst h
    exact ⟨rfl, hs, hF⟩
  | p :: ps, v :: vs, us, T, T1, l, h, hs, hF, ha => by
    simp only [VRs] at ha
    obtain ⟨u, us, rfl, h1, h2⟩ := ha
    simp only [putL] at h
    cases hb : Nat.blt p nt with
    | false => rw [hb] at h; cases h
    | true =>
      rw [hb] at h
      simp only [cond_true] at h
      have hp := blt_iff.1 hb
      obtain ⟨h3, h4, h5⟩ := putL_ok (l := l.setIfInBounds p u) h (by simpa using hs) (fun t x ht => by
        rw [TT.get_set] at ht
        by_cases e : t = p
        · subst e
          rw [if_pos rfl] at ht; cases ht
          exact ⟨u, by simp [hs, hp], h1⟩
        · rw [if_neg e] at ht
          obtain ⟨y, h6, h7⟩ := hF t x ht
          exact ⟨y, by rw [Array.getElem?_setIfInBounds_ne (Ne.symm e)]; exact h6, h7⟩) h2
      exact ⟨by simp [h3], h4, h5⟩
  | [], _ :: _, _, _, _, _, h, _, _, _ => by cases h
  | _ :: _, [], _, _, _, _, h, _, _, _ => by cases h

theorem Step.putObj {ρ : Ren} {H : Heap} {w : World} (r : Rel env ρ H w) {a c : Nat} {x : Nat × Nat} {o o' : AO} {ob : Obj} (hro : ro ≤ a) (ha : H.t.get a = some o) (hc : ρ a = some (c, x)) (ho : ObjR ρ env x o' ob) :
    Step env ro ρ H w ρ (H.put a o') (w.putObj c ob) := Step.write r hro ha hc ho

theorem isRdy_ok {s : LoopState} (h : isRdy s = true) : s = .ready := by cases s <;> first | rfl | cases h

theorem yiX_ok {F : Fns} (hF : FnsOK P env ro ng F) : YieldOK P env ro ng (yiX ro F) := by
  intro l args us H w ρ v H' r hg ha h c x hc
  unfold yiX at h
  split at h
  · rename_i st pe nt T ps as bd hl
    cases hb : Nat.ble ro l && (noRF as && noRF bd) with
    | false => rw [hb] at h; cases h
    | true =>
      rw [hb] at h
      simp only [cond_true] at h
      simp only [Bool.and_eq_true] at hb
      obtain ⟨hb1, hb2, hb3⟩ := hb
      have hrl := ble_true hb1
      split at h
      · rename_i T1 hT1
        obtain ⟨ob, h1, tm, fn, d, rfl, h2, h3⟩ := r.obj _ _ _ _ hl hc
        obtain ⟨p1, p2, p3⟩ := putL_ok (ρ := ρ) (env := env) hT1 h2 h3 ha
        refine ⟨fn, _, as, bd, run_yield h1 (by simpa using p1.symm), ?_⟩
        have hz : ((⟨ps⟩ : Array Tmp).zip (⟨us⟩ : Array Value)).foldl (fun tmps (t, a) => tmps.setIfInBounds t a) tm = (ps.zip us).foldl (fun t (p, v) => t.setIfInBounds p v) tm := by simp
        show RoundIn Fence.wide 0 P c fn (((⟨ps⟩ : Array Tmp).zip (⟨us⟩ : Array Value)).foldl (fun tmps (t, a) => tmps.setIfInBounds t a) tm) as bd w _
        rw [hz]
        generalize (ps.zip us).foldl (fun t (p, v) => t.setIfInBounds p v) tm = tm1 at p2 p3 ⊢
        refine roundIn_of_wpIn (F := Fence.wide) trivial ?_
        split at h
        · rename_i T2 H2 h4
          split at h
          · rename_i st2 pe2 nt2 T02 ps2 as2 bd2 hl2
            cases hr2 : isRdy st2 with
            | false => rw [hr2] at h; cases h
            | true =>
              rw [hr2] at h
              simp only [cond_true] at h
              have := isRdy_ok hr2
              subst this
              refine wpIn_mono (hF.ex (some c) nt (0, none) as T1 H ρ { tmps := tm1, defers := [] } w .normal T2 H2 r hg p3 p2 (Marks.none (Nat.zero_le _)) (fun _ => hb2) h4).1 fun e' a' w' hq => ?_
              obtain ⟨ρ', rfl, h5, h6, h7, h8, h9⟩ := hq
              have hc2 := h9.le r _ _ hc
              obtain ⟨ob2, k1, tm2, fn2, d2, rfl, k2, k3⟩ := h9.rel.obj _ _ _ _ hl2 hc2
              refine ⟨_, run_beginRound k1 rfl, ?_⟩
              have hw2 := Step.putObj h9.rel (ro := ro) (o' := .lp .busy pe2 nt2 T02 ps2 as2 bd2) (ob := .loop { state := .busy, pending := pe2, fn := fn2, tmps := tm2, params := ⟨ps2⟩, assign := as2, body := bd2, defers := d2 }) hrl hl2 hc2 ⟨tm2, fn2, d2, rfl, k2, k3⟩
              have hall := h9.trans hw2
              cases h10 : F.ex nt bd T2 (H2.put l (.lp .busy pe2 nt2 T02 ps2 as2 bd2)) with
              | no => rw [h10] at h; cases h
              | ok e T3 H3 =>
                rw [h10] at h
                refine wpIn_mono (hF.ex (some c) nt (0, none) bd T2 _ ρ' a' _ e T3 H3 hw2.rel h8 h5 h6 (h7.step hw2) (fun _ => hb3) h10).1 fun e2 a2 w3 hq => ?_
                obtain ⟨ρ3, rfl, q1, q2, q3, q4, q5⟩ := hq
                have hc3 := q5.le hw2.rel _ _ hc2
                have fin : ∀ (b : Bool) (st3 : LoopState) (j : Option Code) (H4 : Heap), (∃ st pe nt3 T03 ps3 as3 bd3, H3.t.get l = some (.lp st pe nt3 T03 ps3 as3 bd3) ∧ H4 = H3.put l (.lp st3 j nt3 T03 ps3 as3 bd3)) → st3 = (if j.isNone then .ready else .done) → b = j.isNone →
                    ∃ v' w', (Instr.endRound c j).run P w3 = .ok v' w' ∧ ∃ u ρ', Ending.returned v' = .returned u ∧ VR ρ' env (.b b) u ∧ Step env ro ρ H w ρ' H4 w' := fun b st3 j H4 ⟨st, pe, nt3, T03, ps3, as3, bd3, hl3, hH4⟩ hst hbj => by
                  obtain ⟨ob3, m1, tm3, fn3, d3, rfl, m2, m3⟩ := q5.rel.obj _ _ _ _ hl3 hc3
                  refine ⟨_, _, run_endRound j m1, _, ρ3, rfl, by rw [hbj]; simp [VR], ?_⟩
                  rw [hH4]
                  exact (hall.trans q5).trans (Step.putObj q5.rel hrl hl3 hc3 ⟨tm3, fn3, d3, by rw [hst], m2, m3⟩)
                unfold yiEnd at h
                cases e with
                | normal =>
                  simp only at h
                  split at h
                  · rename_i hl3; cases h
                    exact fin true .ready none _ ⟨_, _, _, _, _, _, _, hl3, rfl⟩ rfl rfl
                  · cases h
                | ret =>
                  simp only at h
                  split at h
                  · rename_i hl3; cases h
                    exact fin false .done (some .ret) _ ⟨_, _, _, _, _, _, _, hl3, rfl⟩ rfl rfl
                  · cases h
                | exit id =>
                  simp only at h
                  split at h
                  · rename_i hl3; cases h
                    exact fin false .done (some (.exit id)) _ ⟨_, _, _, _, _, _, _, hl3, rfl⟩ rfl rfl
                  · cases h
                | goto id =>
                  simp only at h
                  split at h
                  · rename_i hl3; cases h
                    exact fin false .done (some (.goto id)) _ ⟨_, _, _, _, _, _, _, hl3, rfl⟩ rfl rfl
                  · cases h
          · cases h
        · cases h
      · cases h
  · cases h

/-- a block that nobody knows comes to be -/
theorem Step.junk {ρ : Ren} {H : Heap} {w : World} (r : Rel env ρ H w) (o : Obj) : Step env ro ρ H w ρ H (w.alloc o) := by
  have hk : ∀ c, c < w.heap.size → (w.alloc o).heap[c]? = w.heap[c]? := fun c hc => by
    show (w.heap.push o)[c]? = _
    rw [Array.getElem?_push, if_neg (by omega)]
  refine ⟨⟨fun b o' c y h1 h2 => ?_, r.inj, r.new, r.one⟩, fun _ _ => rfl, Nat.le_refl _, fun _ _ _ h => .inl h, fun c hc _ => hk c hc, by simp, rfl, rfl, rfl⟩
  obtain ⟨ob', h3, h4⟩ := r.obj b o' c y h1 h2
  exact ⟨ob', (hk c (Array.getElem?_eq_some_iff.1 h3).1).trans h3, h4⟩

theorem rfX_ok (hN : NamesOK P) {F : Fns} (hF : FnsOK P env ro ng F) {nt : Nat} {n0 : MK} (hk : n0.2 = none) {g : Operand} {ps : Array Tmp} {as bd : Code} {T : TT AV} {H : Heap} {ρ : Ren} {a : Act} {w : World} {e : Ex} {T' : TT AV} {H' : Heap}
    (r : Rel env ρ H w) (hg : GOK ng ρ) (hT : FR ρ env T a.tmps) (hs : a.tmps.size = nt) (hd : Marks n0 ρ H w a.defers) (h : rfX P ng ro F nt g ps as bd T H = .ok e T' H') :
    (Code.rangeFunc g ps as bd).wpIn (Fc none) 0 P (Post env ro ng nt n0 ρ H w e T' H') a w := by
  unfold rfX at h
  split at h
  · rename_i gf first caps hev
    cases hb : hasBody P gf && Nat.ble ro H.nx with
    | false => rw [hb] at h; cases h
    | true =>
      rw [hb] at h
      simp only [cond_true] at h
      rw [Bool.and_eq_true] at hb
      obtain ⟨hbody, hb2⟩ := hb
      have hro := ble_true hb2
      split at h
      · rename_i vv H2 hca
        split at h
        · rename_i st pe nt1 T1 ps1 as1 bd1 hl2
          cases hst : isBusy st with
          | true => rw [hst] at h; cases h
          | false =>
            rw [hst] at h
            simp only [cond_false] at h
            have hnb : st ≠ .busy := fun e => by rw [e] at hst; cases hst
            have hev' := ev_ok (a := a) (env := env) hg hT hev
            simp only [VR] at hev'
            obtain ⟨gg, l1, k1, hgg, hv, hf1, hf2⟩ := hev'
            simp only [FnR] at hgg
            subst hgg
            refine wpIn_rangeFunc fun fn _ => ?_
            -- the blocks
            have s1 : Step env ro ρ H w ρ H (w.alloc (.deferred (some []))) := Step.junk r _
            have hlen : (w.alloc (.deferred (some []))).heap.size = w.heap.size + 1 := by simp
            have s2 := Step.alloc (ro := ro) (x := (0, 0)) s1.rel (o := .lp .ready none nt T ps.toList as bd) (ob := .loop { state := .ready, pending := none, fn, tmps := a.tmps, params := ps, assign := as, body := bd, defers := w.heap.size })
              ⟨a.tmps, fn, w.heap.size, rfl, hs, fun t v ht => by
                obtain ⟨u, h1, h2⟩ := hT t v ht
                exact ⟨u, h1, h2.mono (Ren.le_put _ (r.new _ (Nat.le_refl _)).1)⟩⟩
            rw [hlen] at s2
            have hle1 := (s1.trans s2).le r
            have hx : (ρ.put H.nx (w.heap.size + 1, 0, 0)) H.nx = some (w.heap.size + 1, 0, 0) := Ren.put_self _ _ _
            have harg : VRs (ρ.put H.nx (w.heap.size + 1, 0, 0)) env (first ++ ([AV.fn (.yield H.nx) [] []] ++ caps)) (l1 ++ ([Value.func (.yield (w.heap.size + 1)) #[] #[]] ++ k1)) := by
              refine (hf1.mono hle1).append (VRs.append ?_ (hf2.mono hle1))
              simp only [VRs, VR]
              exact ⟨_, [], rfl, ⟨.yield (w.heap.size + 1), [], [], ⟨_, _, hx, rfl⟩, rfl, rfl, rfl⟩, rfl⟩
            have hcall := hF.ca gf _ _ _ _ _ _ _ s2.rel (hg.mono hle1) harg hca
            have hargs : ∀ (w' : World), (invoke (.fn (.func gf) ⟨k1⟩) (⟨l1⟩ ++ #[Value.func (.yield (w.heap.size + 1)) #[] #[]])).run P w' = .ok (.enter gf ⟨l1 ++ ([Value.func (.yield (w.heap.size + 1)) #[] #[]] ++ k1)⟩) w' := fun w' => by
              have e2 : ((⟨l1⟩ ++ #[Value.func (.yield (w.heap.size + 1)) #[] #[]]) ++ ⟨k1⟩ : Array Value) = ⟨l1 ++ ([Value.func (.yield (w.heap.size + 1)) #[] #[]] ++ k1)⟩ := by apply Array.toList_inj.1; simp
              simp only [invoke, e2]
              exact run_callFunc hN hbody _ _
            refine ⟨w.heap.size + 1, [{ target := .collected w.heap.size, args := #[] }], _, { target := .fn (.func gf) ⟨k1⟩, args := ⟨l1⟩ ++ #[Value.func (.yield (w.heap.size + 1)) #[] #[]] }, _, gf, ⟨l1 ++ ([Value.func (.yield (w.heap.size + 1)) #[] #[]] ++ k1)⟩, _, run_enterLoop_outer _ _ _ _ _, ?_, fun _ _ => trivial, hargs _, (fun h => by cases h), callsIn_any (hcall.mono fun e' w3 hq => ?_)⟩
            · simp only [resolve, hv, Deferred.ofValue, Sem.run_pure]
              simp [Act.eval]
              rfl
            · obtain ⟨u, ρ3, rfl, _, s3⟩ := hq
              have hc3 : ρ3 H.nx = some (w.heap.size + 1, 0, 0) := by
                rw [s3.old _ (Nat.lt_succ_self _)]; exact hx
              obtain ⟨ob3, m1, tm3, fn3, d3, rfl, m2, m3⟩ := s3.rel.obj _ _ _ _ hl2 hc3
              refine ⟨pe, _, run_endLoop m1 hnb, ?_⟩
              have s4 := Step.putObj s3.rel (ro := ro) (o' := .lp .exhausted pe nt1 T1 ps1 as1 bd1) (ob := .loop { state := .exhausted, pending := pe, fn := fn3, tmps := tm3, params := ⟨ps1⟩, assign := as1, body := bd1, defers := d3 }) hro hl2 hc3 ⟨tm3, fn3, d3, rfl, m2, m3⟩
              have sall := ((s1.trans s2).trans s3).trans s4
              have hlow : ∀ b o c y, H.t.get b = some o → ρ b = some (c, y) → c < w.heap.size := fun b o c y h1 h2 => by
                obtain ⟨ob', h3, _⟩ := r.obj b o c y h1 h2
                exact (Array.getElem?_eq_some_iff.1 h3).1
              have hm : Marks n0 (ρ.put H.nx (w.heap.size + 1, 0, 0)) (H.push (.lp .ready none nt T ps.toList as bd)) { (w.alloc (.deferred (some []))) with heap := (w.alloc (.deferred (some []))).heap.push (.loop { state := .ready, pending := none, fn, tmps := a.tmps, params := ps, assign := as, body := bd, defers := w.heap.size }) } ([{ target := .collected w.heap.size, args := #[] }] ++ a.defers) := by
                have hm0 := hd.step (s1.trans s2)
                obtain ⟨_, _, l0, e0, n1, q1⟩ := hd
                obtain ⟨q2, _⟩ := hm0
                refine ⟨q2, fun _ h => (by rw [hk] at h; cases h), w.heap.size :: l0, by rw [e0]; rfl, ?_, fun D hD => ?_⟩
                · rw [List.nodup_cons]
                  refine ⟨fun hi => ?_, n1⟩
                  have := (Array.getElem?_eq_some_iff.1 (q1 _ hi).2.1).1
                  omega
                · rcases List.mem_cons.1 hD with rfl | hD
                  · refine ⟨by assumption, ?_, fun ⟨b, o, y, _, h1, h2⟩ => ?_⟩
                    · show ((w.heap.push _).push _)[w.heap.size]? = _
                      rw [Array.getElem?_push, if_neg (by simp)]
                      simp
                    · by_cases hb : b = H.nx
                      · subst hb; rw [hx] at h2
                        have := congrArg Prod.fst (Option.some.inj h2)
                        simp only at this
                        omega
                      · rw [Ren.put_ne _ _ hb] at h2
                        have h1' : ((H.t.set (AO.lp .ready none nt T ps.toList as bd) H.nx).get b) = some o := h1
                        rw [TT.get_set_ne _ _ hb] at h1'
                        have := hlow _ _ _ _ h1' h2
                        omega
                  · exact (Marks.step (ds := a.defers) ⟨by assumption, by assumption, l0, e0, n1, q1⟩ (s1.trans s2)).row.elim fun l' ⟨e', n', q'⟩ => by
                      have : l' = l0 := by
                        rw [e0] at e'
                        have := List.map_inj_right (f := fun D => ({ target := .collected D, args := #[] } : Deferred)) (fun x y h => by simpa using h) |>.1 e'
                        exact this.symm
                      subst this
                      exact q' D hD
              have hm' := (hm.step s3).step s4
              have hle := sall.le r
              have hFR : FR ρ3 env T a.tmps := hT.mono hle
              have hgok := hg.mono hle
              cases pe with
              | none =>
                simp only [rfEnd, R0.ok.injEq] at h
                obtain ⟨rfl, rfl, rfl⟩ := h
                exact ⟨ρ3, rfl, hFR, hs, hm', hgok, sall⟩
              | some c =>
                cases c with
                | ret =>
                  simp only [rfEnd, R0.ok.injEq] at h
                  obtain ⟨rfl, rfl, rfl⟩ := h
                  exact wpIn_ret ⟨ρ3, rfl, hFR, hs, hm', hgok, sall⟩
                | exit id =>
                  simp only [rfEnd, R0.ok.injEq] at h
                  obtain ⟨rfl, rfl, rfl⟩ := h
                  exact wpIn_exit ⟨ρ3, rfl, hFR, hs, hm', hgok, sall⟩
                | goto id =>
                  simp only [rfEnd, R0.ok.injEq] at h
                  obtain ⟨rfl, rfl, rfl⟩ := h
                  exact wpIn_goto ⟨ρ3, rfl, hFR, hs, hm', hgok, sall⟩
                | _ => simp [rfEnd] at h
        · cases h
      · cases h
  · cases h
end
end Go.Ai
/- The interpreter is right: the theorem. -/
namespace Go.Ai
section
variable {P : Program} {env : Nat → Value} {ng ro : Nat} {S : Sums}

theorem J.start {nt : Nat} {ops : Array Oper} {p : Plan} (hp : planOk P ops p = true) {ρ : Ren} {H : Heap} {T : TT AV} {a : Act} {w : World} (r : Rel env ρ H w) (hg : GOK ng ρ) (hF : FR ρ env T a.tmps) (hs : a.tmps.size = nt) :
    J P env ro ng nt ops p.pm ρ H w a.defers (Array.replicate ops.size false) p.L T H [] [] a { w with drawn := w.drawn + 1 } ρ := by
  obtain ⟨_, h1, h2⟩ := planOk_good hp
  have hf : ∀ i, (Array.replicate ops.size false).getD i false = false := fun i => by
    by_cases h : i < ops.size <;> simp [h]
  refine ⟨by simp, Step.drew r _, hg, hs, rfl, fun i o hi => ?_, fun i hi => .inr (.inr (h2 i hi)), fun x hx => ?_, fun i hi => ⟨hf i, fun x hx => ?_⟩, fun x hx => ?_, fun x hx => ?_, fun x hx => ?_, ⟨0, h1, fun i hi => ?_⟩, fun t v ht => .inr ⟨hF t v ht, fun x hx => ?_⟩, fun z hz => ?_, fun z hz => ?_, fun z hz => ?_⟩
  · rw [hf] at hi; cases hi
  all_goals first
    | (cases hx; done)
    | (cases hz; done)
    | (simp [tb_eq] at hi)

theorem exX_ok (hN : NamesOK P) (hm : P.follows .mixedOrders = true) {F : Fns} (hF : FnsOK P env ro ng F) : ExOK P env ro ng (exX P ng ro F) := by
  intro rd nt n0 code T H ρ a w e T' H' r hg hT hs hd hrf h
  have hop := opX_ok (env := env) (ro := ro) (ng := ng) hN hF.ca hF.yi
  have here : ∀ (e : Ex), Post env ro ng nt n0 ρ H w e T H (toExit e) a w := fun e => ⟨ρ, rfl, hT, hs, hd, hg, Step.refl r⟩
  have ihc : ∀ (code : Code) (T : TT AV) (H : Heap) (ρ : Ren) (a : Act) (w : World) (e : Ex) (T' : TT AV) (H' : Heap), Rel env ρ H w → GOK ng ρ → FR ρ env T a.tmps → a.tmps.size = nt → Marks n0 ρ H w a.defers → ((rd.isSome = true ∨ n0.2.isSome = true) → noRF code = true) → F.ex nt code T H = .ok e T' H' → code.wpIn (Fc rd) 0 P (Post env ro ng nt n0 ρ H w e T' H') a w := fun code T H ρ a w e T' H' h1 h2 h3 h4 h5 h6 h7 => (hF.ex rd nt n0 code T H ρ a w e T' H' h1 h2 h3 h4 h5 h6 h7).1
  unfold exX at h
  split at h
  · cases h; exact ⟨wpIn_skip (here .normal), fun c e => by cases e⟩
  · cases h; exact ⟨wpIn_label (here .normal), fun c e => by cases e⟩
  · cases h; exact ⟨wpIn_exit (here (.exit _)), fun c e => by cases e⟩
  · cases h; exact ⟨wpIn_goto (here (.goto _)), fun c e => by cases e⟩
  · cases h; exact ⟨wpIn_ret (here .ret), fun c e => by cases e⟩
  · rename_i ops
    refine ⟨?_, fun c e => by cases e⟩
    unfold regX at h
    cases hp : planOk P ops (planOf P ops) with
    | false => rw [hp] at h; cases h
    | true =>
      rw [hp] at h
      simp only [cond_true] at h
      split at h
      · rename_i T1 H1 hrun
        cases h
        obtain ⟨hgood, _, _⟩ := planOk_good hp
        refine wpIn_region_any hm ?_
        refine draw_all (ρ0 := ρ) (H0 := H) (w0 := w) (ds := a.defers) hgood hop (fun a' w' ρ' h1 h2 h3 h4 h5 => ⟨ρ', rfl, h1, h2, by rw [h3]; exact hd.step h5, h4, h5⟩) ops.size _ _ T H [] [] a _ ρ (J.start hp r hg hT hs) hrun ?_
        show (Array.replicate ops.size false).toList.count false ≤ ops.size
        simp
      · cases h
  · rename_i ops
    exact ⟨wpIn_region_list (sgo_ok hop ops.toList T H ρ a w e T' H' r hg hT hs hd h), fun c e => by cases e⟩
  · rename_i x y
    have hrx : (rd.isSome = true ∨ n0.2.isSome = true) → noRF x = true ∧ noRF y = true := fun h => by have := hrf h; simpa [noRF] using this
    refine ⟨wpIn_seq ?_, fun c e => by cases e⟩
    split at h
    · rename_i T1 H1 h1
      refine wpIn_mono (ihc x T H ρ a w .normal T1 H1 r hg hT hs hd (fun h => (hrx h).1) h1) fun e' a' w' hq => ?_
      obtain ⟨ρ', rfl, h2, h3, h4, h5, h6⟩ := hq
      exact wpIn_mono (ihc y T1 H1 ρ' a' w' e T' H' h6.rel h5 h2 h3 h4 (fun h => (hrx h).2) h) fun _ _ _ hq => hq.trans h6
    · rename_i hne
      refine wpIn_mono (ihc x T H ρ a w e T' H' r hg hT hs hd (fun h => (hrx h).1) h) fun e' a' w' hq => ?_
      obtain ⟨ρ', rfl, h2⟩ := hq
      cases e with
      | normal => exact absurd h (hne T' H')
      | exit id => exact ⟨ρ', rfl, h2⟩
      | goto l => exact ⟨ρ', rfl, h2⟩
      | ret => exact ⟨ρ', rfl, h2⟩
  · rename_i c x y
    have hrx : (rd.isSome = true ∨ n0.2.isSome = true) → noRF x = true ∧ noRF y = true := fun h => by have := hrf h; simpa [noRF] using this
    refine ⟨?_, fun c e => by cases e⟩
    split at h
    · rename_i hc
      have := ev_ok (a := a) (env := env) hg hT hc
      simp only [VR] at this
      exact wpIn_cond_true this (ihc x T H ρ a w e T' H' r hg hT hs hd (fun h => (hrx h).1) h)
    · rename_i hc
      have := ev_ok (a := a) (env := env) hg hT hc
      simp only [VR] at this
      exact wpIn_cond_false this (ihc y T H ρ a w e T' H' r hg hT hs hd (fun h => (hrx h).2) h)
    · cases h
  · rename_i id c
    have hrc : (rd.isSome = true ∨ n0.2.isSome = true) → noRF c = true := fun h => by have := hrf h; simpa [noRF] using this
    refine ⟨wpIn_block ?_, fun c e => by cases e⟩
    split at h
    · rename_i id' T1 H1 h1
      refine wpIn_mono (ihc c T H ρ a w (.exit id') T1 H1 r hg hT hs hd hrc h1) fun e' a' w' hq => ?_
      obtain ⟨ρ', rfl, h2⟩ := hq
      cases hb : Nat.beq id' id with
      | true =>
        rw [hb] at h; cases h
        have := beq_true hb
        subst this
        simp only [toExit, Exit.inBlock, if_true]
        exact ⟨ρ', rfl, h2⟩
      | false =>
        rw [hb] at h; cases h
        simp only [toExit, Exit.inBlock, if_neg (beq_false hb)]
        exact ⟨ρ', rfl, h2⟩
    · rename_i hne
      refine wpIn_mono (ihc c T H ρ a w e T' H' r hg hT hs hd hrc h) fun e' a' w' hq => ?_
      obtain ⟨ρ', rfl, h2⟩ := hq
      cases e with
      | normal => exact ⟨ρ', rfl, h2⟩
      | exit id' => exact absurd h (hne id' T' H')
      | goto l => exact ⟨ρ', rfl, h2⟩
      | ret => exact ⟨ρ', rfl, h2⟩
  · rename_i c
    have hrc : (rd.isSome = true ∨ n0.2.isSome = true) → noRF c = true := fun h => by have := hrf h; simpa [noRF] using this
    have key : LoopWp rd P c (Post env ro ng nt n0 ρ H w e T' H') a w := by
      refine loop_step ?_
      split at h
      · rename_i T1 H1 h1
        refine wpIn_mono (ihc c T H ρ a w .normal T1 H1 r hg hT hs hd hrc h1) fun e' a' w' hq => ?_
        obtain ⟨ρ', rfl, h2, h3, h4, h5, h6⟩ := hq
        have := (hF.ex rd nt n0 (.loop c) T1 H1 ρ' a' w' e T' H' h6.rel h5 h2 h3 h4 hrf h).2 c rfl
        intro b k cs hro hb hr
        obtain ⟨e2, a2, w2, h7, h8⟩ := this b k cs hro hb hr
        exact ⟨e2, a2, w2, h7.trans h6, h8⟩
      · rename_i hne
        refine wpIn_mono (ihc c T H ρ a w e T' H' r hg hT hs hd hrc h) fun e' a' w' hq => ?_
        obtain ⟨ρ', rfl, h2⟩ := hq
        cases e with
        | normal => exact absurd h (hne T' H')
        | exit id => exact ⟨ρ', rfl, h2⟩
        | goto l => exact ⟨ρ', rfl, h2⟩
        | ret => exact ⟨ρ', rfl, h2⟩
    exact ⟨loop_of key, fun d e => by cases e; exact key⟩
  · rename_i c
    have hrc : (rd.isSome = true ∨ n0.2.isSome = true) → noRF c = true := fun h => by have := hrf h; simpa [noRF] using this
    refine ⟨scope_straight ?_, fun c e => by cases e⟩
    split at h
    · cases h
    · rename_i hne
      refine wpIn_mono (ihc c T H ρ a w e T' H' r hg hT hs hd hrc h) fun e' a' w' hq => ?_
      obtain ⟨ρ', rfl, h2⟩ := hq
      cases e with
      | normal => exact ⟨ρ', rfl, h2⟩
      | exit id' => exact ⟨ρ', rfl, h2⟩
      | goto l => exact absurd h (hne l T' H')
      | ret => exact ⟨ρ', rfl, h2⟩
  · rename_i g ps as bd
    refine ⟨?_, fun c e => by cases e⟩
    cases rd with
    | some l => have := hrf (.inl rfl); simp [noRF] at this
    | none => exact rfX_ok hN hF (by cases hn : n0.2 with | none => rfl | some d => (have := hrf (.inr (by rw [hn]; rfl)); simp [noRF] at this)) r hg hT hs hd h
  · cases h

/-! calls -/
theorem argT_get : ∀ (l : List AV) (i : Nat) (T : TT AV) (t : Nat), (argT i l T).get t = if i ≤ t ∧ t < i + l.length then l[t - i]? else T.get t
  | [], i, T, t => by
    rw [if_neg (by simp)]
    rfl
  | v :: l, i, T, t => by
    rw [argT, argT_get l (i + 1) (T.set v i) t, TT.get_set]
    simp only [List.length_cons]
    by_cases h : t = i
    · subst h
      have h1 : ¬ (t + 1 ≤ t ∧ t < t + 1 + l.length) := by omega
      rw [if_neg h1]
      simp
    · by_cases h2 : i + 1 ≤ t ∧ t < i + 1 + l.length
      · have h3 : i ≤ t ∧ t < i + (l.length + 1) := by omega
        have h4 : t - i = (t - (i + 1)) + 1 := by omega
        rw [if_pos h2, if_pos h3, h4, List.getElem?_cons_succ]
      · have h3 : ¬ (i ≤ t ∧ t < i + (l.length + 1)) := by omega
        rw [if_neg h2, if_neg h3, if_neg h]
theorem resA_ok {ρ : Ren} {H : Heap} {w : World} {T : TT AV} {tmps : Array Value} (r : Rel env ρ H w) (hF : FR ρ env T tmps) : ∀ (l : List ResultVar) (vs : List AV), resA P T H l = some vs →
    ∃ us, (l.mapM fun | .tmp t => pure (tmps.getD t undef) | .cell a t => do loadVar t (← asAddr (tmps.getD a undef)) : Sem (List Value)).run P w = .ok us w ∧ VRs ρ env vs us
  | [], vs, h => by simp only [resA, Option.some.injEq] at h; subst h; exact ⟨[], by simp, by simp [VRs]⟩
  | .tmp t :: l, vs, h => by
    simp only [resA] at h
    split at h
    · rename_i v hv
      split at h
      · rename_i vs' hvs
        cases h
        obtain ⟨us, h1, h2⟩ := resA_ok r hF l vs' hvs
        obtain ⟨u, h3, h4⟩ := hF t v hv
        refine ⟨u :: us, ?_, by simp only [VRs]; exact ⟨u, us, rfl, h4, h2⟩⟩
        have : tmps.getD t undef = u := by simp [Array.getD_eq_getD_getElem?, h3]
        simp only [List.mapM_cons, Sem.run_bind, Sem.run_pure, Result.andThen_ok, h1, this]
      · cases h
    · cases h
  | .cell a t :: l, vs, h => by
    simp only [resA] at h
    split at h
    · rename_i x hx
      split at h
      · rename_i v hv
        split at h
        · rename_i vs' hvs
          cases h
          obtain ⟨us, h1, h2⟩ := resA_ok r hF l vs' hvs
          obtain ⟨u, h3, h4⟩ := hF a x hx
          obtain ⟨y, h5, h6⟩ := aLoad_ok (P := P) r h4 hv
          refine ⟨y :: us, ?_, by simp only [VRs]; exact ⟨y, us, rfl, h6, h2⟩⟩
          have hta : tmps.getD a undef = u := by simp [Array.getD_eq_getD_getElem?, h3]
          have hx' : ∃ b o, x = .p b o := by
            unfold aLoad at hv
            split at hv
            · exact ⟨_, _, rfl⟩
            · cases hv
          obtain ⟨b, o, rfl⟩ := hx'
          simp only [VR] at h4
          obtain ⟨c, z, _, rfl⟩ := h4
          have h7 : (loadVar t ⟨c, o + z.2, none⟩).run P w = .ok y w := by simpa [Instr.loadAt, Instr.sureAddr] using h5
          have h8 : (asAddr (tmps.getD a undef)).run P w = .ok ⟨c, o + z.2, none⟩ w := by rw [hta]; rfl
          simp only [List.mapM_cons, Sem.run_bind, h8, Sem.run_pure, Result.andThen_ok, h7, h1]
        · cases h
      · cases h
    · cases h

def SumsOK (P : Program) (env : Nat → Value) (ro ng : Nat) (S : Sums) : Prop :=
  ∀ f g, S f = some g → ∀ (args : List AV) (us : List Value) (H : Heap) (w : World) (ρ : Ren) (v : AV) (H' : Heap), Rel env ρ H w → GOK ng ρ → VRs ρ env args us → g args H = some (v, H') →
    Calls P f ⟨us⟩ w fun e w' => ∃ u ρ', e = .returned u ∧ VR ρ' env v u ∧ Step env ro ρ H w ρ' H' w'

/-- the marks are taken, one by one -/
theorem Step.shut {ρ ρ' : Ren} {H H' : Heap} {w w' : World} (h : Step env ro ρ H w ρ' H' w') {D : Nat} {o : Obj} (hD : w.heap.size ≤ D) (hi : ¬ Img 0 ρ' H' D) : Step env ro ρ H w ρ' H' (w'.putObj D o) := by
  have hk : ∀ c, c ≠ D → (w'.putObj D o).heap[c]? = w'.heap[c]? := fun c hc => World.putObj_heap_other hc
  refine ⟨⟨fun b o' c y h1 h2 => ?_, h.rel.inj, h.rel.new, h.rel.one⟩, h.old, h.nx, h.img, fun c hc hn => (hk c (by omega)).trans (h.keep c hc hn), by simpa using h.size, h.os, h.tape, h.output⟩
  obtain ⟨ob', h3, h4⟩ := h.rel.obj b o' c y h1 h2
  exact ⟨ob', (hk c (fun e => hi ⟨b, o', y, Nat.zero_le _, h1, e ▸ h2⟩)).trans h3, h4⟩
theorem leaves_marks {fn : Func} {tmps : Array Value} {R : Ending → World → Prop} {ρ ρ' : Ren} {H H' : Heap} {w : World} (hfin : ∀ w', Step env ro ρ H w ρ' H' w' → ∃ v, (results fn tmps).run P w' = .ok v w' ∧ R (.returned v) w') :
    ∀ {ds : List Deferred} {w' : World}, Marks (w.heap.size, none) ρ' H' w' ds → Step env ro ρ H w ρ' H' w' → LeavesInM Fence.wide 0 P fn tmps R ds .returning w' := by
  intro ds w' hm hs
  obtain ⟨_, _, l, rfl, h2, h3⟩ := hm
  induction l generalizing w' with
  | nil => exact hfin w' hs
  | cons D l ih =>
    rw [List.nodup_cons] at h2
    obtain ⟨h4, h5, h6⟩ := h3 D (by simp)
    refine ⟨by simp, .inl ⟨D, _, rfl, run_takeDeferred h5, ih (hs.shut h4 h6) (by simp; omega) (fun _ h => (by cases h)) h2.2 fun D' hD' => ?_⟩⟩
    obtain ⟨h7, h8, h9⟩ := h3 D' (by simp [hD'])
    exact ⟨h7, (World.putObj_heap_other (fun e : D' = D => h2.1 (e ▸ hD'))).trans h8, h9⟩

theorem caX_ok (hS : SumsOK P env ro ng S) {F : Fns} (hF : FnsOK P env ro ng F) : CallOK P env ro ng (caX P S F) := by
  intro f args us H w ρ v H' r hg ha h
  unfold caX at h
  have hB : caB P F f args H = some (v, H') → Calls P f ⟨us⟩ w fun e w' => ∃ u ρ', e = .returned u ∧ VR ρ' env v u ∧ Step env ro ρ H w ρ' H' w' := ?_
  · split at h
    · rename_i g hg'
      split at h
      · rename_i hr
        cases h
        exact hS f g hg' args us H w ρ v H' r hg ha hr
      · exact hB h
    · exact hB h
  · clear h
    intro h
    unfold caB at h
    split at h
    · rename_i fn hfn
      split at h
      · rename_i c hc
        have hlen := ha.length
        have hnt : ((⟨us⟩ : Array Value) ++ Array.replicate (fn.ntmps - (⟨us⟩ : Array Value).size) undef).size = args.length + (fn.ntmps - args.length) := by simp [hlen]
        have hfr : FR ρ env (argT 0 args .e) ((⟨us⟩ : Array Value) ++ Array.replicate (fn.ntmps - (⟨us⟩ : Array Value).size) undef) := fun t x ht => by
          rw [argT_get] at ht
          split at ht
          · rename_i hlt
            rw [Nat.sub_zero] at ht
            obtain ⟨u, h1, h2⟩ := ha.get ht
            refine ⟨u, ?_, h2⟩
            rw [Array.getElem?_append_left (by simp; omega)]
            simpa using h1
          · simp [TT.get_e] at ht
        have key : ∀ e T1 H1, (e = .normal ∨ e = .ret) → F.ex (args.length + (fn.ntmps - args.length)) c (argT 0 args .e) H = .ok e T1 H1 → ∀ vs, resA P T1 H1 fn.results.toList = some vs → v = oneOf vs → H' = H1 → Calls P f ⟨us⟩ w fun e w' => ∃ u ρ', e = .returned u ∧ VR ρ' env v u ∧ Step env ro ρ H w ρ' H' w' := fun e T1 H1 he hex vs hres hv hH => by
          subst hv hH
          have hwp := (hF.ex none _ (w.heap.size, none) c (argT 0 args .e) H ρ { tmps := (⟨us⟩ : Array Value) ++ Array.replicate (fn.ntmps - (⟨us⟩ : Array Value).size) undef, defers := [] } w e T1 H' r hg hfr hnt (Marks.none (Nat.le_refl _)) (fun h => by rcases h with h | h <;> cases h) hex).1
          refine (callsIn_wide (n := 0)).1 (callsIn_of_wp_marks (F := Fence.wide) hfn hc trivial (wpIn_mono hwp fun e' a' w' hq => ?_))
          obtain ⟨ρ', rfl, h2, h3, h4, h5, h6⟩ := hq
          suffices hle : LeavesInM Fence.wide 0 P fn a'.tmps (fun e w' => ∃ u ρ', e = .returned u ∧ VR ρ' env (oneOf vs) u ∧ Step env ro ρ H w ρ' H' w') a'.defers .returning w' by
            rcases he with rfl | rfl <;> exact hle
          refine leaves_marks (ρ' := ρ') (H' := H') (fun w' h6 => ?_) h4 h6
          obtain ⟨xs, h7, h8⟩ := resA_ok (P := P) h6.rel h2 fn.results.toList vs hres
          have hrun : (results fn a'.tmps).run P w' = .ok (if h : xs.length = 1 then xs[0] else .tuple ⟨xs⟩) w' := by
            unfold results
            rw [Sem.run_bind, Array.mapM_eq_mapM_toList, Sem.run_map]
            have h7' := h7
            refine Eq.trans (congrArg (fun z : Result (List Value) => (z.andThen fun a w' => Result.ok a.toArray w').andThen _) h7') ?_
            simp only [Result.andThen_ok, Sem.run_pure]
            congr 1
          have hval : VR ρ' env (oneOf vs) (if h : xs.length = 1 then xs[0] else .tuple ⟨xs⟩) := by
            have hl := h8.length
            match vs, xs, h8, hl with
            | [], [], _, _ => simp [oneOf, VR, VRs]
            | [v], [x], h8, _ =>
              simp only [VRs] at h8
              obtain ⟨u, us, h9, h10, _⟩ := h8
              cases h9
              simpa [oneOf] using h10
            | v1 :: v2 :: vs, x1 :: x2 :: xs, h8, _ =>
              have : ¬ (x1 :: x2 :: xs).length = 1 := by simp
              rw [dif_neg this]
              simp only [oneOf, VR]
              exact ⟨_, rfl, h8⟩
          exact ⟨_, hrun, _, ρ', rfl, hval, h6⟩
        unfold finX at h
        split at h
        · rename_i T1 H1 hex
          split at h
          · rename_i vs hvs
            cases h
            exact key .normal T1 _ (.inl rfl) hex vs hvs rfl rfl
          · cases h
        · rename_i T1 H1 hex
          split at h
          · rename_i vs hvs
            cases h
            exact key .ret T1 _ (.inr rfl) hex vs hvs rfl rfl
          · cases h
        · cases h
      · cases h
    · cases h

/-- ████ THE INTERPRETER IS RIGHT ████ -/
theorem fns_ok (hN : NamesOK P) (hm : P.follows .mixedOrders = true) (hS : SumsOK P env ro ng S) : ∀ n, FnsOK P env ro ng (fns P ng ro S n)
  | 0 => by
    refine ⟨fun f args us H w ρ v H' _ _ _ h => ?_, fun l args us H w ρ v H' _ _ _ h => ?_, fun rd nt n0 code T H ρ a w e T' H' _ _ _ _ _ _ h => ?_⟩
    · have h' : (none : Option (AV × Heap)) = some (v, H') := h
      cases h'
    · have h' : (none : Option (AV × Heap)) = some (v, H') := h
      cases h'
    · have h' : R0.no = R0.ok e T' H' := h
      cases h'
  | n + 1 => ⟨caX_ok hS (fns_ok hN hm hS n), yiX_ok (fns_ok hN hm hS n), exX_ok hN hm (fns_ok hN hm hS n)⟩
end
end Go.Ai
