/- Operations as closures: new blocks, slices, append. -/
import Derived.Test.YtobdajealbhjmaaGreatDoorAe
namespace Go.Ai
section
variable {P : Program} {ng ro : Nat} {H : Heap} {T : TT AV}
noncomputable def dL {α : Type} (c : Cl (TT α → TT α)) : Cl (TT α → TT α) := Cl.rec (motive := fun _ => Cl (TT α → TT α)) (fun g => ⟨fun t => TT.rec (motive := fun _ => TT α) .e (fun l v r _ _ => .n (g l) v r) t⟩) c
noncomputable def dR {α : Type} (c : Cl (TT α → TT α)) : Cl (TT α → TT α) := Cl.rec (motive := fun _ => Cl (TT α → TT α)) (fun g => ⟨fun t => TT.rec (motive := fun _ => TT α) .e (fun l v r _ _ => .n l v (g r)) t⟩) c
noncomputable def dC {α : Type} (f : Nat) : Nat → Cl (TT α → TT α) :=
  Nat.rec (motive := fun _ => Nat → Cl (TT α → TT α)) (fun _ => ⟨fun t => t⟩)
    (fun _ ih k => Nat.rec (motive := fun _ => Cl (TT α → TT α)) ⟨fun t => TT.rec (motive := fun _ => TT α) .e (fun l _ r _ _ => .n l none r) t⟩
      (fun j _ => Nat.rec (motive := fun _ => Nat → Cl (TT α → TT α)) (fun m => Nat.rec (motive := fun _ => Cl (TT α → TT α)) (dL (ih 0)) (fun q _ => dL (ih (Nat.succ q))) m) (fun _ _ m => Nat.rec (motive := fun _ => Cl (TT α → TT α)) (dR (ih 0)) (fun q _ => dR (ih (Nat.succ q))) m) (Nat.mod j 2) (Nat.div j 2)) k) f
theorem dC_eq {α : Type} : ∀ (f k : Nat) (t : TT α), k < 2 ^ f - 1 → (dC f k).run t = t.del k := by
  intro f
  induction f with
  | zero => intro k t h; simp at h
  | succ f ih =>
    intro k t h
    cases k with
    | zero =>
      cases t with
      | e => rfl
      | n l v r => rfl
    | succ j =>
      have hlt : j / 2 < 2 ^ f - 1 := by rw [Nat.pow_succ] at h; omega
      show (Cl.run (Nat.rec (motive := fun _ => Nat → Cl (TT α → TT α)) (fun m => Nat.rec (motive := fun _ => Cl (TT α → TT α)) (dL (dC f 0)) (fun q _ => dL (dC f (Nat.succ q))) m) (fun _ _ m => Nat.rec (motive := fun _ => Cl (TT α → TT α)) (dR (dC f 0)) (fun q _ => dR (dC f (Nat.succ q))) m) (j % 2) (j / 2))) t = _
      have e1 : ∀ m, (Nat.rec (motive := fun _ => Cl (TT α → TT α)) (dL (dC f 0)) (fun q _ => dL (dC f (Nat.succ q))) m) = dL (dC f m) := fun m => by cases m <;> rfl
      have e2 : ∀ m, (Nat.rec (motive := fun _ => Cl (TT α → TT α)) (dR (dC f 0)) (fun q _ => dR (dC f (Nat.succ q))) m) = dR (dC f m) := fun m => by cases m <;> rfl
      simp only [e1, e2]
      rcases Nat.mod_two_eq_zero_or_one j with h2 | h2
      · rw [h2]
        show (dL (dC f (j / 2))).run t = _
        cases t with
        | e => rfl
        | n l v r =>
          rw [TT.del_n, if_neg (by omega), if_neg (by omega)]
          show TT.n ((dC f (j / 2)).run l) v r = _
          rw [ih _ _ hlt, show (j + 1) / 2 = j / 2 by omega]
      · rw [h2]
        show (dR (dC f (j / 2))).run t = _
        cases t with
        | e => rfl
        | n l v r =>
          rw [TT.del_n, if_neg (by omega), if_pos (by omega)]
          show TT.n l v ((dC f (j / 2)).run r) = _
          rw [ih _ _ hlt]; rfl
noncomputable def fdel {α : Type} (t : TT α) (k : Nat) : TT α :=
  Nat.rec (motive := fun _ => TT α) ((dC 40 0).run t) (fun j _ => Bool.rec (motive := fun _ => TT α) (t.del (Nat.succ j)) ((dC 40 (Nat.succ j)).run t) (Nat.ble j 1000000000)) k
theorem fdel_eq {α : Type} : ∀ (t : TT α) (k : Nat), fdel t k = t.del k := by
  intro t k
  cases k with
  | zero => exact dC_eq 40 0 t (by decide)
  | succ j =>
    show Bool.rec (motive := fun _ => TT α) (t.del (Nat.succ j)) ((dC 40 (Nat.succ j)).run t) (Nat.ble j 1000000000) = _
    cases hb : Nat.ble j 1000000000 with
    | false => rfl
    | true =>
      have := Nat.le_of_ble_eq_true hb
      exact dC_eq 40 (j + 1) t (by omega)

/-! stretches -/
noncomputable def chunkF (o : AO) (off n : Nat) : Option Ch :=
  @AO.rec (fun _ => Option Ch) (fun _ cs => (fun l => Bool.rec (motive := fun _ => Option Ch) none (some (.cs l)) (Nat.beq (lnF l) n)) (takeF (dropF cs off) n))
    (fun len x => Bool.rec (motive := fun _ => Option Ch) none (some (.bs n (cut x off n))) (Nat.ble (Nat.add off n) len)) (fun _ _ => none) (fun _ _ _ => none) (fun _ _ _ => none) (fun _ _ _ _ _ _ _ => none) o
theorem chunkF_eq (o : AO) (off n : Nat) : chunkF o off n = o.chunk off n := by
  cases o with
  | cells sz cs =>
    show (Bool.rec (motive := fun _ => Option Ch) none (some (.cs (takeF (dropF cs off) n))) (Nat.beq (lnF (takeF (dropF cs off) n)) n)) = _
    rw [takeF_eq, dropF_eq, lnF_eq]
    simp only [AO.chunk]
    cases Nat.beq ((cs.drop off).take n).length n <;> rfl
  | bytes len x =>
    show (Bool.rec (motive := fun _ => Option Ch) none (some (.bs n (cut x off n))) (Nat.ble (Nat.add off n) len)) = _
    simp only [AO.chunk]
    cases Nat.ble (Nat.add off n) len <;> rfl
  | _ => rfl
noncomputable def chAppF (a b : Ch) : Ch :=
  @Ch.rec (fun _ => Ch) (fun l => @Ch.rec (fun _ => Ch) (fun k => .cs (appL l k)) (fun m y => (Ch.cs l).app (.bs m y)) b)
    (fun n x => @Ch.rec (fun _ => Ch) (fun k => (Ch.bs n x).app (.cs k)) (fun m y => .bs (Nat.add n m) (Nat.add (Nat.mod x (Nat.pow 256 n)) (Nat.mul (Nat.pow 256 n) y))) b) a
theorem chAppF_eq (a b : Ch) : chAppF a b = a.app b := by
  cases a <;> cases b <;> try rfl
  rename_i l k
  show Ch.cs (appL l k) = _
  rw [appL_eq]; rfl
noncomputable def objF (c : Ch) (sz : Nat) : Option AO := @Ch.rec (fun _ => Option AO) (fun l => some (.cells sz l)) (fun n x => Bool.rec (motive := fun _ => Option AO) none (some (.bytes n x)) (Nat.beq sz 1)) c
theorem objF_eq (c : Ch) (sz : Nat) : objF c sz = c.obj sz := by
  cases c with
  | cs l => rfl
  | bs n x =>
    show (Bool.rec (motive := fun _ => Option AO) none (some (.bytes n x)) (Nat.beq sz 1)) = _
    simp only [Ch.obj]
    cases Nat.beq sz 1 <;> rfl
noncomputable def on1 : AV → Bool := (@AV.rec (fun _ => Bool) (fun _ => PUnit) (fun _ => true) (fun _ _ => true) (fun _ _ => true) (true) (fun _ _ => true) (true) (fun _ _ _ _ _ => true) (true) (true) (fun _ => true) (fun _ _ _ _ _ => true) (true) (fun _ _ _ => true) (true) (fun _ _ => false) (fun _ _ => false) (fun _ => true) (fun _ _ => false) (fun _ _ => true) ⟨⟩ (fun _ _ _ _ => ⟨⟩))
theorem on1_eq (v : AV) : on1 v = avOne v := by cases v <;> rfl
noncomputable def all1 (l : List AV) : Bool := @List.rec AV (fun _ => Bool) true (fun a _ ih => Bool.rec (motive := fun _ => Bool) false ih (on1 a)) l
theorem all1_eq : ∀ l : List AV, all1 l = l.all avOne
  | [] => rfl
  | a :: l => by
    show Bool.rec (motive := fun _ => Bool) false (all1 l) (on1 a) = _
    rw [all1_eq l, on1_eq, List.all_cons]
    cases avOne a <;> rfl
noncomputable def oneC (c : Ch) : Bool := @Ch.rec (fun _ => Bool) (fun l => all1 l) (fun _ _ => true) c
theorem oneC_eq (c : Ch) : oneC c = c.one := by
  cases c with
  | cs l => exact all1_eq l
  | bs n x => rfl
noncomputable def writeF (o : AO) (off : Nat) (c : Ch) : Option AO :=
  @Ch.rec (fun _ => Option AO)
    (fun l => @AO.rec (fun _ => Option AO) (fun sz cs => Bool.rec (motive := fun _ => Option AO) none (some (.cells sz (splF cs off l))) (Nat.ble (Nat.add off (lnF l)) (lnF cs))) (fun len x => (AO.bytes len x).writeC off (.cs l))
      (fun _ _ => none) (fun _ _ _ => none) (fun _ _ _ => none) (fun _ _ _ _ _ _ _ => none) o)
    (fun n y => @AO.rec (fun _ => Option AO) (fun sz cs => (AO.cells sz cs).writeC off (.bs n y)) (fun len x => Bool.rec (motive := fun _ => Option AO) none (some (.bytes len (over x off n y))) (Nat.ble (Nat.add off n) len))
      (fun _ _ => none) (fun _ _ _ => none) (fun _ _ _ => none) (fun _ _ _ _ _ _ _ => none) o) c
theorem writeF_eq (o : AO) (off : Nat) (c : Ch) : writeF o off c = o.writeC off c := by
  cases c with
  | cs l =>
    cases o with
    | cells sz cs =>
      show Bool.rec (motive := fun _ => Option AO) none (some (.cells sz (splF cs off l))) (Nat.ble (Nat.add off (lnF l)) (lnF cs)) = _
      rw [splF_eq, lnF_eq, lnF_eq]
      simp only [AO.writeC, AO.write, Ch.l]
      cases Nat.ble (Nat.add off l.length) cs.length <;> rfl
    | _ => rfl
  | bs n y =>
    cases o with
    | bytes len x =>
      show Bool.rec (motive := fun _ => Option AO) none (some (.bytes len (over x off n y))) (Nat.ble (Nat.add off n) len) = _
      simp only [AO.writeC]
      cases Nat.ble (Nat.add off n) len <;> rfl
    | _ => rfl
noncomputable def szF (o : AO) : Option (Nat × Nat) := @AO.rec (fun _ => Option (Nat × Nat)) (fun sz cs => some (sz, lnF cs)) (fun len _ => some (1, len)) (fun _ _ => none) (fun _ _ _ => none) (fun _ _ _ => none) (fun _ _ _ _ _ _ _ => none) o
theorem szF_eq (o : AO) : szF o = o.sz? := by
  cases o with
  | cells sz cs => show some (sz, lnF cs) = _; rw [lnF_eq]; rfl
  | _ => rfl
noncomputable def pkF (o : AO) : Nat := @AO.rec (fun _ => Nat) (fun sz _ => sz) (fun _ _ => 0) (fun _ _ => 0) (fun _ _ _ => 0) (fun _ _ _ => 0) (fun _ _ _ _ _ _ _ => 0) o
theorem pkF_eq (o : AO) : pkF o = o.pk := by cases o <;> rfl
noncomputable def shF (off : Nat) (o : AO) (C : Ch) (sz : Nat) : Bool :=
  Option.rec (motive := fun _ => Bool) false (fun o' => Bool.rec (motive := fun _ => Bool) (andF (Nat.beq off 0) (notF (Nat.beq (pkF o) 1))) true (Nat.beq (pkF o') 1)) (objF C sz)
theorem shF_eq (off : Nat) (o : AO) (C : Ch) (sz : Nat) : shF off o C sz = shOK off o C sz := by
  unfold shF shOK
  rw [objF_eq]
  cases C.obj sz with
  | none => rfl
  | some o' =>
    show Bool.rec (motive := fun _ => Bool) (andF (Nat.beq off 0) (notF (Nat.beq (pkF o) 1))) true (Nat.beq (pkF o') 1) = _
    rw [pkF_eq, pkF_eq, andF_eq, notF_eq]
    simp only
    cases Nat.beq o'.pk 1 <;> rfl
noncomputable def fitsF (need bz : Nat) : Bool := andF (Nat.ble (Nat.mul (Nat.add (Nat.mul 2 need) 1000) bz) 281474976710656) (Nat.ble (Nat.succ need) 4294967296)
theorem fitsF_eq (need bz : Nat) : fitsF need bz = fits need bz := by unfold fitsF; rw [andF_eq]; rfl
noncomputable def newF (t : TT AO) (nx sz need : Nat) (c : Ch) : Option (AV × Heap) := bO (objF c sz) fun o => some (.sl nx 0 need need true, ⟨fset t o nx, Nat.succ nx⟩)
theorem newF_eq (H : Heap) (sz need : Nat) (c : Ch) : newF H.t H.nx sz need c = appNew H sz need c := by
  unfold newF appNew
  rw [objF_eq]
  cases c.obj sz with
  | none => rfl
  | some o =>
    show some (AV.sl H.nx 0 need need true, (⟨fset H.t o H.nx, Nat.succ H.nx⟩ : Heap)) = _
    rw [fset_eq]; rfl
noncomputable def bP {α β γ : Type} (x : Option (α × β)) (f : α → β → Option γ) : Option γ := Option.rec (motive := fun _ => Option γ) none (fun p => Prod.rec (motive := fun _ => Option γ) f p) x
theorem bP_some {α β γ : Type} {x : Option (α × β)} {f : α → β → Option γ} {r : γ} (h : bP x f = some r) : ∃ a b, x = some (a, b) ∧ f a b = some r := by
  cases x with
  | none => cases h
  | some p => obtain ⟨a, b⟩ := p; exact ⟨a, b, rfl, h⟩
noncomputable def iteF {α : Type} (c : Bool) (t e : α) : α := Bool.rec (motive := fun _ => α) e t c
theorem iteF_eq {α : Type} (c : Bool) (t e : α) : iteF c t e = bif c then t else e := by cases c <;> rfl
/-- bytes behind bytes that stand in a row of their own, with no room -/
noncomputable def appBy (b off len cap ro sz n m y L x nx : Nat) (t : TT AO) : Option (AV × Heap) :=
  Bool.rec (motive := fun _ => Option (AV × Heap)) none (some (.sl nx 0 (Nat.add len n) (Nat.add len n) true, ⟨fset (fdel t b) (.bytes (Nat.add len m) (Nat.add (Nat.mod x (Nat.pow 256 len)) (Nat.mul (Nat.pow 256 len) y))) nx, Nat.succ nx⟩))
    (Bool.rec (motive := fun _ => Bool) false (Bool.rec (motive := fun _ => Bool) false (Bool.rec (motive := fun _ => Bool) false (Bool.rec (motive := fun _ => Bool) false (Nat.ble len cap) (Nat.beq L cap)) (Nat.beq off 0)) (Nat.beq sz 1)) (Nat.ble ro b))
noncomputable def appG5 (b off len cap ro sz n : Nat) (c : Ch) (o : AO) (d : Ch) (H : Heap) : Option (AV × Heap) :=
  bP (szF o) fun sz' m => iteF (andF (Nat.ble ro b) (andF (Nat.beq sz' sz) (andF (Nat.beq m (Nat.add off (Nat.mul cap sz))) (andF (oneC c) (andF (Nat.ble len cap) (shF off o (chAppF d c) sz)))))) (newF (fdel H.t b) H.nx sz (Nat.add len n) (chAppF d c)) none
noncomputable def appG4 (b off len cap : Nat) (op : Bool) (ro sz n : Nat) (c : Ch) (o : AO) (H : Heap) : Option (AV × Heap) :=
  Option.rec (motive := fun _ => Option (AV × Heap)) none (fun d => Bool.rec (motive := fun _ => Option (AV × Heap)) (newF H.t H.nx sz (Nat.add len n) (chAppF d c)) (appG5 b off len cap ro sz n c o d H) op) (chunkF o off (Nat.mul len sz))
noncomputable def appG3 (b off len cap : Nat) (op : Bool) (ro sz n : Nat) (c : Ch) (H : Heap) (o : AO) : Option (AV × Heap) :=
  Bool.rec (motive := fun _ => Option (AV × Heap)) (appG4 b off len cap op ro sz n c o H)
    (@AO.rec (fun _ => Option (AV × Heap)) (fun sz' cs => appG4 b off len cap true ro sz n c (.cells sz' cs) H)
      (fun L x => Option.rec (motive := fun _ => Option (AV × Heap)) (appG4 b off len cap true ro sz n c (.bytes L x) H) some (@Ch.rec (fun _ => Option (AV × Heap)) (fun _ => none) (fun m y => appBy b off len cap ro sz n m y L x H.nx H.t) c))
      (fun _ _ => none) (fun _ _ _ => none) (fun _ _ _ => none) (fun _ _ _ _ _ _ _ => none) o) op
noncomputable def appG2 (b off len cap : Nat) (op : Bool) (ro sz n : Nat) (H : Heap) (c : Ch) : Option (AV × Heap) := Option.rec (motive := fun _ => Option (AV × Heap)) none (appG3 b off len cap op ro sz n c H) (fget H.t b)
noncomputable def appI3 (b off len cap : Nat) (op : Bool) (ro sz n : Nat) (H : Heap) (c : Ch) : Option (AV × Heap) :=
  bO (fget H.t b) fun o => iteF (andF (Nat.ble ro b) (oneC c)) (bO (writeF o (Nat.add off (Nat.mul len sz)) c) fun o' => some (.sl b off (Nat.add len n) cap op, ⟨fset H.t o' b, H.nx⟩)) none
noncomputable def appSl (b off len cap : Nat) (op : Bool) (ro sz bz n : Nat) (ch : Option Ch) (H : Heap) : Option (AV × Heap) :=
  Bool.rec (motive := fun _ => Option (AV × Heap))
    (Bool.rec (motive := fun _ => Option (AV × Heap)) none (Option.rec (motive := fun _ => Option (AV × Heap)) none (appG2 b off len cap op ro sz n H) ch) (fitsF (Nat.add len n) bz))
    (Bool.rec (motive := fun _ => Option (AV × Heap)) (Option.rec (motive := fun _ => Option (AV × Heap)) none (appI3 b off len cap op ro sz n H) ch) (some (.sl b off len cap op, H)) (Nat.beq n 0))
    (Nat.ble (Nat.add len n) cap)
theorem iteF_some {α : Type} {c : Bool} {t : Option α} {r : α} (h : iteF c t none = some r) : c = true ∧ t = some r := by
  cases c with
  | false => cases h
  | true => exact ⟨rfl, h⟩
/-- what the growing of a row comes to -/
noncomputable def grown (ro : Nat) (H : Heap) (sz need len cap off b : Nat) (op : Bool) (c : Ch) (o : AO) : Option (AV × Heap) :=
  match o.chunk off (Nat.mul len sz) with
  | some d => bif op then
      match o.sz? with
      | some (sz', m) => bif Nat.ble ro b && (Nat.beq sz' sz && (Nat.beq m (Nat.add off (Nat.mul cap sz)) && (c.one && (Nat.ble len cap && shOK off o (d.app c) sz)))) then appNew (H.del b) sz need (d.app c) else none
      | none => none
    else appNew H sz need (d.app c)
  | none => none
theorem appG4_some {b off len cap : Nat} {op : Bool} {sz n : Nat} {c : Ch} {o : AO} {r : AV × Heap} (h : appG4 b off len cap op ro sz n c o H = some r) : grown ro H sz (Nat.add len n) len cap off b op c o = some r := by
  obtain ⟨d, h4, h⟩ := bO_some (x := chunkF o off (Nat.mul len sz)) (f := fun d => Bool.rec (motive := fun _ => Option (AV × Heap)) (newF H.t H.nx sz (Nat.add len n) (chAppF d c)) (appG5 b off len cap ro sz n c o d H) op) h
  rw [chunkF_eq] at h4
  simp only [grown, h4]
  cases op with
  | true =>
    have h : appG5 b off len cap ro sz n c o d H = some r := h
    unfold appG5 at h
    simp only [cond_true]
    obtain ⟨sz', m, h5, h⟩ := bP_some h
    obtain ⟨h6, h⟩ := iteF_some h
    rw [szF_eq] at h5
    rw [chAppF_eq, shF_eq, oneC_eq] at h6
    simp only [andF_eq] at h6
    rw [chAppF_eq, fdel_eq] at h
    simp only [h5, h6, cond_true]
    rw [← newF_eq]
    exact h
  | false =>
    simp only [cond_false]
    rw [← newF_eq, ← chAppF_eq]
    exact h
theorem appBy_some {b off len cap sz n m y L x : Nat} {r : AV × Heap} (hmn : m = n) (h : appBy b off len cap ro sz n m y L x H.nx H.t = some r) : grown ro H sz (Nat.add len n) len cap off b true (.bs m y) (.bytes L x) = some r := by
  unfold appBy at h
  have hq := brec_some h
  clear h
  have h0 := hq.1
  have g := Option.some.inj hq.2
  clear hq
  have key : ∀ {p q : Bool}, (Bool.rec (motive := fun _ => Bool) false p q) = true → q = true ∧ p = true := fun {p q} h => by
    cases q with
    | false => cases h
    | true => exact ⟨rfl, h⟩
  have k1 := key h0
  have k2 := key k1.2
  have k3 := key k2.2
  have k4 := key k3.2
  have h1 := k1.1
  have h2 := k2.1
  have h3 := k3.1
  have h4 := k4.1
  have h5 := k4.2
  clear k1 k2 k3 k4 h0
  have e1 := beq_true h2
  have e2 := beq_true h3
  have e3 := beq_true h4
  subst e1 e2 e3 hmn
  have hc : (AO.bytes L x).chunk 0 (Nat.mul len 1) = some (.bs len (cut x 0 len)) := by
    have : Nat.mul len 1 = len := Nat.mul_one len
    rw [this]
    simp only [AO.chunk]
    have : Nat.ble (Nat.add 0 len) L = true := by rw [show Nat.add 0 len = len from Nat.zero_add len]; exact h5
    rw [this]; rfl
  simp only [grown, hc, cond_true, AO.sz?]
  have e4 : Nat.beq L (Nat.add 0 (Nat.mul L 1)) = true := by
    rw [show Nat.add 0 (Nat.mul L 1) = L by show 0 + L * 1 = L; omega]
    exact Nat.beq_refl L
  have e5 : shOK 0 (.bytes L x) ((Ch.bs len (cut x 0 len)).app (.bs m y)) 1 = true := rfl
  rw [h1, show Nat.beq 1 1 = true from rfl, e4, show (Ch.bs m y).one = true from rfl, h5, e5]
  simp only [Bool.and_true, cond_true]
  rw [← g, fdel_eq, fset_eq]
  have e6 : Nat.mod (cut x 0 len) (Nat.pow 256 len) = Nat.mod x (Nat.pow 256 len) := by
    show cut x 0 len % 256 ^ len = x % 256 ^ len
    rw [cut_eq, Nat.pow_zero, Nat.div_one, Nat.mod_mod]
  simp only [appNew, Ch.app, Ch.obj, show Nat.beq 1 1 = true from rfl, cond_true, e6]
  rfl
theorem appSl_some {b off len cap : Nat} {op : Bool} {sz bz n : Nat} {ch : Option Ch} {r : AV × Heap} (hn : ∀ m y, ch = some (.bs m y) → sz = 1 → m = n) (h : appSl b off len cap op ro sz bz n ch H = some r) : appTo ro H sz bz n (.sl b off len cap op) ch = some r := by
  unfold appSl at h
  unfold appTo
  simp only
  cases hc : Nat.ble (Nat.add len n) cap with
  | true =>
    rw [hc] at h
    have h : Bool.rec (motive := fun _ => Option (AV × Heap)) (Option.rec (motive := fun _ => Option (AV × Heap)) none (appI3 b off len cap op ro sz n H) ch) (some (.sl b off len cap op, H)) (Nat.beq n 0) = some r := h
    simp only [cond_true]
    cases h0 : Nat.beq n 0 with
    | true => rw [h0] at h; exact h
    | false =>
      rw [h0] at h
      simp only [cond_false]
      obtain ⟨c, h1, h⟩ := bO_some (x := ch) (f := appI3 b off len cap op ro sz n H) h
      unfold appI3 at h
      obtain ⟨o, h2, h⟩ := bO_some h
      obtain ⟨h3, h⟩ := iteF_some h
      obtain ⟨o', h4, h⟩ := bO_some h
      rw [fget_eq] at h2
      rw [andF_eq, oneC_eq] at h3
      rw [writeF_eq] at h4
      rw [fset_eq] at h
      simp only [h1, h2, h3, h4, cond_true]
      exact h
  | false =>
    rw [hc] at h
    simp only [cond_false]
    obtain ⟨h1, h⟩ := brec_some (x := Option.rec (motive := fun _ => Option (AV × Heap)) none (appG2 b off len cap op ro sz n H) ch) h
    rw [fitsF_eq] at h1
    obtain ⟨c, h2, h⟩ := bO_some (x := ch) (f := appG2 b off len cap op ro sz n H) h
    obtain ⟨o, h3, h⟩ := bO_some (x := fget H.t b) (f := appG3 b off len cap op ro sz n c H) h
    rw [fget_eq] at h3
    have hg : grown ro H sz (Nat.add len n) len cap off b op c o = some r := by
      unfold appG3 at h
      cases op with
      | false => exact appG4_some h
      | true =>
        cases o with
        | cells sz' cs => exact appG4_some h
        | bytes L x =>
          have h : Option.rec (motive := fun _ => Option (AV × Heap)) (appG4 b off len cap true ro sz n c (.bytes L x) H) some (@Ch.rec (fun _ => Option (AV × Heap)) (fun _ => none) (fun m y => appBy b off len cap ro sz n m y L x H.nx H.t) c) = some r := h
          cases c with
          | cs l => exact appG4_some h
          | bs m y =>
            cases hb : appBy b off len cap ro sz n m y L x H.nx H.t with
            | none => simp only [hb] at h; exact appG4_some h
            | some q =>
              simp only [hb] at h
              have e : sz = 1 := by
                unfold appBy at hb
                obtain ⟨h0, _⟩ := brec_some hb
                cases hs : Nat.beq sz 1 with
                | true => exact beq_true hs
                | false => rw [hs] at h0; cases hr : Nat.ble ro b <;> rw [hr] at h0 <;> cases h0
              cases h
              exact appBy_some (hn m y h2 e) hb
        | _ => cases h
    simp only [h1, h2, h3, cond_true]
    exact hg
noncomputable def appD : AV → (Nat → Nat → Nat → Nat → Option Ch → Heap → Option (AV × Heap)) := (@AV.rec (fun _ => Nat → Nat → Nat → Nat → Option Ch → Heap → Option (AV × Heap)) (fun _ => PUnit) (fun _ => fun _ _ _ _ _ _ => none) (fun _ _ => fun _ _ _ _ _ _ => none) (fun _ _ => fun _ _ _ _ _ _ => none) (fun _ _ _ _ _ _ => none) (fun _ _ => fun _ _ _ _ _ _ => none) (fun _ sz bz n ch H => iteF (Nat.beq n 0) (some (.sn, H)) (bO ch fun c => iteF (fitsF n bz) (newF H.t H.nx sz n c) none)) (appSl) (fun _ _ _ _ _ _ => none) (fun _ _ _ _ _ _ => none) (fun _ => fun _ _ _ _ _ _ => none) (fun _ _ _ _ _ => fun _ _ _ _ _ _ => none) (fun _ _ _ _ _ _ => none) (fun _ _ _ => fun _ _ _ _ _ _ => none) (fun _ _ _ _ _ _ => none) (fun _ _ => fun _ _ _ _ _ _ => none) (fun _ _ => fun _ _ _ _ _ _ => none) (fun _ => fun _ _ _ _ _ _ => none) (fun _ _ => fun _ _ _ _ _ _ => none) (fun _ _ => fun _ _ _ _ _ _ => none) ⟨⟩ (fun _ _ _ _ => ⟨⟩))
theorem appD_some {sv : AV} {sz bz n : Nat} {ch : Option Ch} {r : AV × Heap} (hn : ∀ m y, ch = some (.bs m y) → sz = 1 → m = n) (h : appD sv ro sz bz n ch H = some r) : appTo ro H sz bz n sv ch = some r := by
  cases sv <;> try (cases h; done)
  · have h : iteF (Nat.beq n 0) (some (AV.sn, H)) (bO ch fun c => iteF (fitsF n bz) (newF H.t H.nx sz n c) none) = some r := h
    rw [iteF_eq] at h
    unfold appTo
    simp only
    cases h0 : Nat.beq n 0 with
    | true => rw [h0] at h; exact h
    | false =>
      rw [h0] at h
      simp only [cond_false] at h ⊢
      obtain ⟨c, h1, h⟩ := bO_some h
      obtain ⟨h2, h⟩ := iteF_some h
      rw [fitsF_eq] at h2
      rw [newF_eq] at h
      simp only [h1, h2, cond_true]
      exact h
  · exact appSl_some hn h
noncomputable def srcLenF : AV → Option Nat := (@AV.rec (fun _ => Option Nat) (fun _ => PUnit) (fun _ => none) (fun _ _ => none) (fun len _ => some len) (none) (fun _ _ => none) (some 0) (fun _ _ len _ _ => some len) (some 0) (none) (fun _ => none) (fun _ _ _ _ _ => none) (none) (fun _ _ _ => none) (none) (fun _ _ => none) (fun _ _ => none) (fun _ => none) (fun _ _ => none) (fun _ _ => some 0) ⟨⟩ (fun _ _ _ _ => ⟨⟩))
theorem srcLenF_eq (v : AV) : srcLenF v = srcLen v := by cases v <;> rfl
noncomputable def srcChF : AV → (Heap → Nat → Nat → Option Ch) := (@AV.rec (fun _ => Heap → Nat → Nat → Option Ch) (fun _ => PUnit) (fun _ => fun _ _ _ => none) (fun _ _ => fun _ _ _ => none) (fun len y _ sz n => iteF (andF (Nat.ble n len) (Nat.beq sz 1)) (some (.bs n y)) none) (fun _ _ _ => none) (fun _ _ => fun _ _ _ => none) (fun _ _ n => iteF (Nat.beq n 0) (some (.bs 0 0)) none) (fun b off _ _ _ H sz n => bO (fget H.t b) fun o => chunkF o off (Nat.mul n sz)) (fun _ _ n => iteF (Nat.beq n 0) (some (.bs 0 0)) none) (fun _ _ _ => none) (fun _ => fun _ _ _ => none) (fun _ _ _ _ _ => fun _ _ _ => none) (fun _ _ _ => none) (fun _ _ _ => fun _ _ _ => none) (fun _ _ _ => none) (fun _ _ => fun _ _ _ => none) (fun _ _ => fun _ _ _ => none) (fun _ => fun _ _ _ => none) (fun _ _ => fun _ _ _ => none) (fun _ _ _ _ n => iteF (Nat.beq n 0) (some (.bs 0 0)) none) ⟨⟩ (fun _ _ _ _ => ⟨⟩))
theorem srcChF_eq (v : AV) (H : Heap) (sz n : Nat) : srcChF v H sz n = srcCh H sz n v := by
  cases v <;> try rfl
  · rename_i len y
    show iteF (andF (Nat.ble n len) (Nat.beq sz 1)) (some (Ch.bs n y)) none = _
    rw [iteF_eq, andF_eq]; rfl
  · show iteF (Nat.beq n 0) (some (Ch.bs 0 0)) none = _
    rw [iteF_eq]; rfl
  · rename_i b off len cap op
    show bO (fget H.t b) (fun o => chunkF o off (Nat.mul n sz)) = _
    rw [fget_eq]
    simp only [srcCh]
    cases H.t.get b with
    | none => rfl
    | some o => show chunkF o off (Nat.mul n sz) = _; rw [chunkF_eq]
  · show iteF (Nat.beq n 0) (some (Ch.bs 0 0)) none = _
    rw [iteF_eq]; rfl
  · show iteF (Nat.beq n 0) (some (Ch.bs 0 0)) none = _
    rw [iteF_eq]; rfl
theorem srcCh_n {H : Heap} {v : AV} {sz n : Nat} (h3 : srcLen v = some n) : ∀ m y, srcCh H sz n v = some (.bs m y) → sz = 1 → m = n := by
  intro m y h e
  subst e
  cases v <;> simp only [srcCh, srcLen] at h h3 <;> try (cases h; done)
  · rename_i len z
    cases hb : (Nat.ble n len && Nat.beq 1 1) with
    | false => rw [hb] at h; cases h
    | true => rw [hb] at h; cases h; rfl
  · cases hb : Nat.beq n 0 with
    | false => rw [hb] at h; cases h
    | true => rw [hb] at h; cases h; exact (beq_true hb).symm
  · split at h
    · rename_i o ho
      have e : Nat.mul n 1 = n := Nat.mul_one n
      rw [e] at h
      cases o with
      | bytes len x =>
        simp only [AO.chunk] at h
        generalize Nat.ble _ len = q at h
        cases q <;> cases h; rfl
      | cells sz cs =>
        simp only [AO.chunk] at h
        generalize Nat.beq _ n = q at h
        cases q <;> cases h
      | _ => cases h
    · cases h
  · cases hb : Nat.beq n 0 with
    | false => rw [hb] at h; cases h
    | true => rw [hb] at h; cases h; exact (beq_true hb).symm
  · cases hb : Nat.beq n 0 with
    | false => rw [hb] at h; cases h
    | true => rw [hb] at h; cases h; exact (beq_true hb).symm
noncomputable def appC (P : Program) (ng ro : Nat) (st xt : TypeId) (s x : Operand) : Cl (TT AV → Heap → Option (AV × Heap)) :=
  match sliceElem P st with
  | some e => match elemZ P e with
    | some (z, bz) => bif rowLike P xt then ⟨fun T H => bO ((evC ng s).run T) fun sv => bO ((evC ng x).run T) fun xv => bO (srcLenF xv) fun n => appD sv ro z.length bz n (srcChF xv H z.length n) H⟩ else ⟨fun _ _ => none⟩
    | none => ⟨fun _ _ => none⟩
  | none => ⟨fun _ _ => none⟩
theorem appC_some {st xt : TypeId} {s x : Operand} {c : Call} {r : AV × Heap} (hc : c.callee = .builtin .append) (ha : c.args.toList = [s, x]) (ht : c.argTypes.toList = [st, xt]) (h : (appC P ng ro st xt s x).run T H = some r) : wCall P ng ro H T c = some r := by
  unfold appC at h
  unfold wCall
  simp only [hc, wAppend, ha, ht]
  split at h
  · rename_i e he
    split at h
    · rename_i z bz hz
      cases hr : rowLike P xt with
      | false => rw [hr] at h; cases h
      | true =>
        rw [hr] at h
        obtain ⟨sv, h1, h⟩ := bO_some h
        obtain ⟨xv, h2, h⟩ := bO_some h
        obtain ⟨n, h3, h⟩ := bO_some h
        rw [evC_eq] at h1 h2
        rw [srcLenF_eq] at h3
        rw [srcChF_eq] at h
        simp only [h1, h2, he, hz, cond_true, h3]
        exact appD_some (srcCh_n h3) h
    · cases h
  · cases h

/-! new blocks -/
noncomputable def partsK (i : Nat) (a : Cl (TT AV → Option AV)) (b : Cl (TT AV → Option (List (Nat × AV)))) : Cl (TT AV → Option (List (Nat × AV))) := ⟨fun T => bO (a.run T) fun v => bO (b.run T) fun vs => some ((i, v) :: vs)⟩
noncomputable def partsC (ng : Nat) : List (Nat × Operand) → Cl (TT AV → Option (List (Nat × AV)))
  | [] => ⟨fun _ => some []⟩
  | (i, x) :: l => partsK i (evC ng x) (partsC ng l)
theorem partsC_eq : ∀ (l : List (Nat × Operand)), (partsC ng l).run T = partsA ng T l
  | [] => rfl
  | (i, x) :: l => by
    show bO ((evC ng x).run T) (fun v => bO ((partsC ng l).run T) fun vs => some ((i, v) :: vs)) = _
    rw [evC_eq, partsC_eq l, partsA]
    cases ev ng T x with
    | none => rfl
    | some v => cases partsA ng T l <;> rfl
noncomputable def avCF : AV → List AV → List AV := (@AV.rec (fun _ => List AV → List AV) (fun _ => PUnit) (fun _ => fun l => l) (fun _ _ => fun l => l) (fun _ _ => fun l => l) (fun l => l) (fun _ _ => fun l => l) (fun l => l) (fun _ _ _ _ _ => fun l => l) (fun l => l) (fun l => l) (fun _ => fun l => l) (fun _ _ _ _ _ => fun l => l) (fun l => l) (fun _ _ _ => fun l => l) (fun l => l) (fun cs _ _ => cs) (fun _ _ => fun l => l) (fun _ => fun l => l) (fun len x _ => (bytesOf len x).map fun b => .i .u8 (Int.ofNat b)) (fun _ _ => fun l => l) ⟨⟩ (fun _ _ _ _ => ⟨⟩))
theorem avCF_eq (v : AV) : avCF v [v] = avCells v := by cases v <;> rfl
noncomputable def fillF (place : Nat → Option (Nat × Nat)) (l : List (Nat × AV)) : List AV → Option (List AV) :=
  @List.rec (Nat × AV) (fun _ => List AV → Option (List AV)) (fun cells => some cells)
    (fun p _ ih cells => Prod.rec (motive := fun _ => Option (List AV)) (fun i v => bP (place i) fun off size => (fun c => iteF (andF (Nat.beq (lnF c) size) (Nat.ble (Nat.add off size) (lnF cells))) (ih (splF cells off c)) none) (avCF v [v])) p) l
theorem fillF_some {place : Nat → Option (Nat × Nat)} : ∀ (l : List (Nat × AV)) (cells r : List AV), fillF place l cells = some r → fillA place cells l = some r
  | [], cells, r, h => by unfold fillA; exact h
  | (i, v) :: l, cells, r, h => by
    have h : bP (place i) (fun off size => (fun c => iteF (andF (Nat.beq (lnF c) size) (Nat.ble (Nat.add off size) (lnF cells))) (fillF place l (splF cells off c)) none) (avCF v [v])) = some r := h
    obtain ⟨off, size, h1, h⟩ := bP_some h
    obtain ⟨h2, h⟩ := iteF_some h
    rw [avCF_eq, andF_eq, lnF_eq, lnF_eq] at h2
    rw [avCF_eq, splF_eq] at h
    unfold fillA
    simp only [h1, h2, cond_true]
    exact fillF_some l _ _ h
noncomputable def onU8p : AV → (Nat → Option (Nat × Nat)) → Option (Nat × Nat) := (@AV.rec (fun _ => (Nat → Option (Nat × Nat)) → Option (Nat × Nat)) (fun _ => PUnit) (fun _ => fun _ => none) (fun k n f => Bool.rec (motive := fun _ => Option (Nat × Nat)) none (@Int.rec (fun _ => Option (Nat × Nat)) (fun m => Bool.rec (motive := fun _ => Option (Nat × Nat)) none (f m) (Nat.ble (Nat.succ m) 256)) (fun _ => none) n) (kIs .u8 k)) (fun _ _ => fun _ => none) (fun _ => none) (fun _ _ => fun _ => none) (fun _ => none) (fun _ _ _ _ _ => fun _ => none) (fun _ => none) (fun _ => none) (fun _ => fun _ => none) (fun _ _ _ _ _ => fun _ => none) (fun _ => none) (fun _ _ _ => fun _ => none) (fun _ => none) (fun _ _ => fun _ => none) (fun _ _ => fun _ => none) (fun _ => fun _ => none) (fun _ _ => fun _ => none) (fun _ _ => fun _ => none) ⟨⟩ (fun _ _ _ _ => ⟨⟩))
theorem onU8p_some {v : AV} {f : Nat → Option (Nat × Nat)} {r : Nat × Nat} (h : onU8p v f = some r) : ∃ n, n < 256 ∧ v = .i .u8 (.ofNat n) ∧ f n = some r := by
  cases v with
  | i k n =>
    obtain ⟨h1, h2⟩ := brec_some (x := @Int.rec (fun _ => Option (Nat × Nat)) (fun m => Bool.rec (motive := fun _ => Option (Nat × Nat)) none (f m) (Nat.ble (Nat.succ m) 256)) (fun _ => none) n) h
    rw [kIs_eq] at h1
    have h1 := of_decide_eq_true h1
    subst h1
    cases n with
    | negSucc n => cases h2
    | ofNat n =>
      obtain ⟨h3, h4⟩ := brec_some (x := f n) h2
      exact ⟨n, ble_true h3, rfl, h4⟩
  | _ => cases h
noncomputable def toBF (l : List AV) : Option (Nat × Nat) := @List.rec AV (fun _ => Option (Nat × Nat)) (some (0, 0)) (fun a _ ih => onU8p a fun n => bP ih fun len x => some (Nat.succ len, Nat.add n (Nat.mul 256 x))) l
theorem toBF_some : ∀ (l : List AV) (r : Nat × Nat), toBF l = some r → toB l = some r
  | [], r, h => h
  | a :: l, r, h => by
    have g0 : onU8p a (fun n => bP (toBF l) fun len x => some (Nat.succ len, Nat.add n (Nat.mul 256 x))) = some r := h
    clear h
    obtain ⟨n, h1, e1, g1⟩ := onU8p_some g0
    obtain ⟨len, x, h2, g2⟩ := bP_some g1
    clear g0 g1
    subst e1
    simp only [toB, toBF_some l _ h2, show Nat.blt n 256 = true from blt_iff.2 h1, cond_true]
    exact g2
noncomputable def rowF (u : Bool) (sz : Nat) (cs : List AV) : Option AO := Bool.rec (motive := fun _ => Option AO) (some (.cells sz cs)) (bP (toBF cs) fun len x => some (.bytes len x)) u
theorem rowF_some {e : TypeId} {u : Bool} {sz : Nat} {cs : List AV} {o : AO} (hu : isU8 P e = some u) (h : rowF u sz cs = some o) : mkRow P e sz cs = some o := by
  unfold mkRow
  cases u with
  | false => simp only [hu]; exact h
  | true =>
    obtain ⟨len, x, h1, h⟩ := bP_some (x := toBF cs) (f := fun len x => some (AO.bytes len x)) h
    simp only [hu, toBF_some _ _ h1]
    exact h
def plF (n : Nat) : Nat → Option (Nat × Nat) := fun i => some (Nat.mul i n, n)
noncomputable def bsC (P : Program) (ng : Nat) (t : TypeId) (len : Nat) (ps : Array (Nat × Operand)) : Cl (TT AV → Heap → Option (AV × Heap)) :=
  match sliceElem P t with
  | some e => match elemZ P e with
    | some (z, _) => match isU8 P e with
      | some u => bif Nat.ble (Nat.mul len z.length) 16777216 && oneB P e z.length then
          ⟨fun T H => bO ((partsC ng ps.toList).run T) fun l => bO (fillF (plF z.length) l (flat z len)) fun cs => bO (rowF u z.length cs) fun o => some (.sl H.nx 0 len len false, ⟨fset H.t o H.nx, Nat.succ H.nx⟩)⟩
        else ⟨fun _ _ => none⟩
      | none => ⟨fun _ _ => none⟩
    | none => ⟨fun _ _ => none⟩
  | none => ⟨fun _ _ => none⟩
theorem bsC_some {t : TypeId} {len : Nat} {ps : Array (Nat × Operand)} {r : AV × Heap} (h : (bsC P ng t len ps).run T H = some r) : ∃ ob mk, lBuildSlice P ng T t len ps = some (ob, mk) ∧ r = (Mk.val mk H.nx, H.push ob) := by
  unfold bsC at h
  unfold lBuildSlice
  split at h
  · rename_i e he
    split at h
    · rename_i z bz hz
      split at h
      · rename_i u hu
        cases hb : Nat.ble (Nat.mul len z.length) 16777216 && oneB P e z.length with
        | false => rw [hb] at h; cases h
        | true =>
          rw [hb] at h
          obtain ⟨l, h1, h⟩ := bO_some h
          obtain ⟨cs, h2, h⟩ := bO_some h
          obtain ⟨o, h3, h⟩ := bO_some h
          rw [partsC_eq] at h1
          have h2 := fillF_some _ _ _ h2
          have h3 := rowF_some hu h3
          rw [Bool.and_eq_true] at hb
          unfold plF at h2
          refine ⟨o, .sl len len false, ?_, ?_⟩
          · simp only [he, hz, h1, hb.1, cond_true, h2, h3, hb.2]
          · rw [fset_eq] at h
            exact (Option.some.inj h).symm
      · cases h
    · cases h
  · cases h
noncomputable def alC (P : Program) (t : TypeId) : Cl (TT AV → Heap → Option (AV × Heap)) :=
  match lAlloc P t with
  | some (ob, _) => ⟨fun _ H => some (.p H.nx 0, ⟨fset H.t ob H.nx, Nat.succ H.nx⟩)⟩
  | none => ⟨fun _ _ => none⟩
theorem lAlloc_p {t : TypeId} {ob : AO} {mk : Mk} (h : lAlloc P t = some (ob, mk)) : mk = .p := by
  unfold lAlloc at h
  split at h
  · rename_i n hn
    cases hz : zeroPage P t n with
    | false => rw [hz] at h; cases h
    | true => rw [hz] at h; cases h; rfl
  · cases hz : zeroOf P t with
    | none => rw [hz] at h; cases h
    | some z => rw [hz] at h; cases h; rfl
theorem alC_some {t : TypeId} {r : AV × Heap} (h : (alC P t).run T H = some r) : ∃ ob mk, lAlloc P t = some (ob, mk) ∧ r = (Mk.val mk H.nx, H.push ob) := by
  unfold alC at h
  split at h
  · rename_i ob mk hl
    obtain rfl := lAlloc_p hl
    have h : some (AV.p H.nx 0, (⟨fset H.t ob H.nx, Nat.succ H.nx⟩ : Heap)) = some r := h
    rw [fset_eq] at h
    exact ⟨ob, .p, hl, (Option.some.inj h).symm⟩
  · cases h
noncomputable def boxF : AV → List AV → AO := (@AV.rec (fun _ => List AV → AO) (fun _ => PUnit) (fun _ => fun l => .cells 0 l) (fun _ _ => fun l => .cells 0 l) (fun _ _ => fun l => .cells 0 l) (fun l => .cells 0 l) (fun _ _ => fun l => .cells 0 l) (fun l => .cells 0 l) (fun _ _ _ _ _ => fun l => .cells 0 l) (fun l => .cells 0 l) (fun l => .cells 0 l) (fun _ => fun l => .cells 0 l) (fun _ _ _ _ _ => fun l => .cells 0 l) (fun l => .cells 0 l) (fun _ _ _ => fun l => .cells 0 l) (fun l => .cells 0 l) (fun cs _ _ => .cells 0 cs) (fun _ _ => fun l => .cells 0 l) (fun _ => fun l => .cells 0 l) (fun n x _ => .bytes n x) (fun _ _ => fun l => .cells 0 l) ⟨⟩ (fun _ _ _ _ => ⟨⟩))
noncomputable def bxC (ng : Nat) (x : Operand) : Cl (TT AV → Heap → Option (AV × Heap)) := ⟨fun T H => bO ((evC ng x).run T) fun v => some (.p H.nx 0, ⟨fset H.t (boxF v [v]) H.nx, Nat.succ H.nx⟩)⟩
theorem bxC_some {x : Operand} {r : AV × Heap} (h : (bxC ng x).run T H = some r) : ∃ ob mk, lBox ng T x = some (ob, mk) ∧ r = (Mk.val mk H.nx, H.push ob) := by
  obtain ⟨v, h1, h⟩ := bO_some h
  rw [evC_eq] at h1
  rw [fset_eq] at h
  refine ⟨boxF v [v], .p, ?_, (Option.some.inj h).symm⟩
  unfold lBox
  rw [h1]
  cases v <;> rfl

/-! slices, structs -/
noncomputable def natV : AV → Option (Option Nat) := (@AV.rec (fun _ => Option (Option Nat)) (fun _ => PUnit) (fun _ => none) (fun _ n => @Int.rec (fun _ => Option (Option Nat)) (fun m => some (some m)) (fun _ => none) n) (fun _ _ => none) (none) (fun _ _ => none) (none) (fun _ _ _ _ _ => none) (none) (none) (fun _ => none) (fun _ _ _ _ _ => none) (none) (fun _ _ _ => none) (none) (fun _ _ => none) (fun _ _ => none) (fun _ => none) (fun _ _ => none) (fun _ _ => none) ⟨⟩ (fun _ _ _ _ => ⟨⟩))
noncomputable def bdC (ng : Nat) : Option Operand → Cl (TT AV → Option (Option Nat))
  | none => ⟨fun _ => some none⟩
  | some y => ⟨fun T => bO ((evC ng y).run T) natV⟩
theorem bdC_some {x : Option Operand} {r : Option Nat} (h : (bdC ng x).run T = some r) : bd ng T x = some r := by
  cases x with
  | none => exact h
  | some y =>
    obtain ⟨v, h1, h⟩ := bO_some h
    rw [evC_eq] at h1
    simp only [bd, h1]
    cases v <;> try (cases h; done)
    rename_i k n
    cases n with
    | ofNat m => exact h
    | negSucc m => cases h
noncomputable def gdN (x : Option Nat) (d : Nat) : Nat := Option.rec (motive := fun _ => Nat) d (fun n => n) x
theorem gdN_eq (x : Option Nat) (d : Nat) : gdN x d = x.getD d := by cases x <;> rfl
noncomputable def subF2 (b off sz : Nat) (op : Bool) (l h m : Nat) : AV :=
  iteF (Nat.beq m l) (iteF op (.sr b (Nat.add off (Nat.mul l sz))) (.sl b off (Nat.sub h l) (Nat.sub m l) false)) (.sl b (Nat.add off (Nat.mul l sz)) (Nat.sub h l) (Nat.sub m l) op)
theorem subF2_eq (b off sz : Nat) (op : Bool) (l h m : Nat) : subF2 b off sz op l h m = subSl b off sz op l h m := by unfold subF2; rw [iteF_eq, iteF_eq]; rfl
noncomputable def slF : AV → (Nat → Option Nat → Option Nat → Option Nat → Option AV) :=
  (@AV.rec (fun _ => Nat → Option Nat → Option Nat → Option Nat → Option AV) (fun _ => PUnit) (fun _ => fun _ _ _ _ => none) (fun _ _ => fun _ _ _ _ => none) (fun _ _ => fun _ _ _ _ => none) (fun _ _ _ _ => none) (fun _ _ => fun _ _ _ _ => none) (fun _ _ _ _ => none) (fun b off len cap op sz lo hi mx => Option.rec (motive := fun _ => Option AV)
    (iteF (andF (Nat.ble (gdN hi len) cap) (andF (Nat.ble (gdN lo 0) (gdN hi len)) (Nat.ble (gdN hi len) (gdN hi cap)))) (some (subF2 b off sz op (gdN lo 0) (gdN hi len) cap)) none)
    (fun m => bO hi fun h => iteF (andF (Nat.ble m cap) (andF (Nat.ble h m) (Nat.ble (gdN lo 0) h))) (some (subF2 b off sz false (gdN lo 0) h m)) none) mx) (fun _ _ _ _ => none) (fun _ _ _ _ => none) (fun _ => fun _ _ _ _ => none) (fun _ _ _ _ _ => fun _ _ _ _ => none) (fun _ _ _ _ => none) (fun _ _ _ => fun _ _ _ _ => none) (fun _ _ _ _ => none) (fun _ _ => fun _ _ _ _ => none) (fun _ _ => fun _ _ _ _ => none) (fun _ => fun _ _ _ _ => none) (fun _ _ => fun _ _ _ _ => none) (fun _ _ => fun _ _ _ _ => none) ⟨⟩ (fun _ _ _ _ => ⟨⟩))
theorem slF_some {t e : TypeId} {i : TypeInfo} {v r : AV} {lo hi mx : Option Nat} (ht : P.underlying t = some (.slice e)) (hi' : P.info? e = some i) (h : slF v i.size lo hi mx = some r) : aSlice P t v lo hi mx = some r := by
  cases v <;> try (cases h; done)
  rename_i b off len cap op
  cases mx with
  | none =>
    have h : iteF (andF (Nat.ble (gdN hi len) cap) (andF (Nat.ble (gdN lo 0) (gdN hi len)) (Nat.ble (gdN hi len) (gdN hi cap)))) (some (subF2 b off i.size op (gdN lo 0) (gdN hi len) cap)) none = some r := h
    rw [iteF_eq] at h
    simp only [andF_eq, gdN_eq, subF2_eq] at h
    simp only [aSlice, ht, hi']
    exact h
  | some m =>
    have h : bO hi (fun h => iteF (andF (Nat.ble m cap) (andF (Nat.ble h m) (Nat.ble (gdN lo 0) h))) (some (subF2 b off i.size false (gdN lo 0) h m)) none) = some r := h
    obtain ⟨hh, e1, g⟩ := bO_some h
    clear h
    subst e1
    rw [iteF_eq] at g
    simp only [andF_eq, gdN_eq, subF2_eq] at g
    simp only [aSlice, ht, hi']
    exact g
noncomputable def sliceC (P : Program) (ng : Nat) (t : TypeId) (x : Operand) (lo hi mx : Option Operand) : Cl (Heap → TT AV → Option AV) :=
  match P.underlying t with
  | some (.slice e) => match P.info? e with
    | some i => ⟨fun _ T => bO ((evC ng x).run T) fun v => bO ((bdC ng lo).run T) fun l => bO ((bdC ng hi).run T) fun h => bO ((bdC ng mx).run T) fun m => slF v i.size l h m⟩
    | none => ⟨fun _ _ => none⟩
  | _ => ⟨fun _ _ => none⟩
theorem sliceC_some {t : TypeId} {x : Operand} {lo hi mx : Option Operand} {r : AV} (h : (sliceC P ng t x lo hi mx).run H T = some r) : rSlice P ng T t x lo hi mx = some r := by
  unfold sliceC at h
  split at h
  · rename_i e ht
    split at h
    · rename_i i hi'
      obtain ⟨v, h1, h⟩ := bO_some h
      obtain ⟨l, h2, h⟩ := bO_some h
      obtain ⟨hh, h3, h⟩ := bO_some h
      obtain ⟨m, h4, h⟩ := bO_some h
      rw [evC_eq] at h1
      simp only [rSlice, h1, bdC_some h2, bdC_some h3, bdC_some h4]
      exact slF_some ht hi' h
    · cases h
  · cases h
noncomputable def buildC (P : Program) (ng : Nat) (t : TypeId) (ps : Array (Nat × Operand)) : Cl (Heap → TT AV → Option AV) :=
  match shapeOf P t with
  | some (z, p, none) => ⟨fun _ T => bO ((partsC ng ps.toList).run T) fun l => bO (fillF (fun i => p[i]?) l z) fun cs => some (.ag cs)⟩
  | some (z, _, some n) => ⟨fun _ T => bO ((partsC ng ps.toList).run T) fun l => bO (fillF (fun i => some (i * n, n)) l z) fun cs => some (.ag cs)⟩
  | none => ⟨fun _ _ => none⟩
theorem buildC_some {t : TypeId} {ps : Array (Nat × Operand)} {r : AV} (h : (buildC P ng t ps).run H T = some r) : rBuild P ng T t ps = some r := by
  unfold buildC at h
  unfold rBuild aBuild
  split at h
  · rename_i z p hs
    obtain ⟨l, h1, h⟩ := bO_some h
    obtain ⟨cs, h2, h⟩ := bO_some h
    rw [partsC_eq] at h1
    simp only [h1, hs, fillF_some _ _ _ h2]
    exact h
  · rename_i z p n hs
    obtain ⟨l, h1, h⟩ := bO_some h
    obtain ⟨cs, h2, h⟩ := bO_some h
    rw [partsC_eq] at h1
    simp only [h1, hs, fillF_some _ _ _ h2]
    exact h
  · cases h
/-! maps -/
noncomputable def onM : AV → (Nat → Option AV) → Option AV := (@AV.rec (fun _ => (Nat → Option AV) → Option AV) (fun _ => PUnit) (fun _ => fun _ => none) (fun _ _ => fun _ => none) (fun _ _ => fun _ => none) (fun _ => none) (fun _ _ => fun _ => none) (fun _ => none) (fun _ _ _ _ _ => fun _ => none) (fun _ => none) (fun _ => none) (fun b f => f b) (fun _ _ _ _ _ => fun _ => none) (fun _ => none) (fun _ _ _ => fun _ => none) (fun _ => none) (fun _ _ => fun _ => none) (fun _ _ => fun _ => none) (fun _ => fun _ => none) (fun _ _ => fun _ => none) (fun _ _ => fun _ => none) ⟨⟩ (fun _ _ _ _ => ⟨⟩))
theorem onM_some {v : AV} {f : Nat → Option AV} {r : AV} (h : onM v f = some r) : ∃ b, v = .m b ∧ f b = some r := by
  cases v <;> first | (cases h; done) | exact ⟨_, rfl, h⟩
noncomputable def onIx : AV → (IntKind → Int → Option (Option AV)) → Option (Option AV) := (@AV.rec (fun _ => (IntKind → Int → Option (Option AV)) → Option (Option AV)) (fun _ => PUnit) (fun _ => fun _ => none) (fun k n f => f k n) (fun _ _ => fun _ => none) (fun _ => none) (fun _ _ => fun _ => none) (fun _ => none) (fun _ _ _ _ _ => fun _ => none) (fun _ => none) (fun _ => none) (fun _ => fun _ => none) (fun _ _ _ _ _ => fun _ => none) (fun _ => none) (fun _ _ _ => fun _ => none) (fun _ => none) (fun _ _ => fun _ => none) (fun _ _ => fun _ => none) (fun _ => fun _ => none) (fun _ _ => fun _ => none) (fun _ _ => fun _ => none) ⟨⟩ (fun _ _ _ _ => ⟨⟩))
theorem onIx_some {v : AV} {f : IntKind → Int → Option (Option AV)} {r : Option AV} (h : onIx v f = some r) : ∃ k n, v = .i k n ∧ f k n = some r := by
  cases v <;> first | (cases h; done) | exact ⟨_, _, rfl, h⟩
noncomputable def onMp (o : AO) (f : List (AV × AV × Nat) → Option AV) : Option AV := @AO.rec (fun _ => Option AV) (fun _ _ => none) (fun _ _ => none) (fun es _ => f es) (fun _ _ _ => none) (fun _ _ _ => none) (fun _ _ _ _ _ _ _ => none) o
theorem onMp_some {o : AO} {f : List (AV × AV × Nat) → Option AV} {r : AV} (h : onMp o f = some r) : ∃ es c, o = .mp es c ∧ f es = some r := by
  cases o <;> first | (cases h; done) | exact ⟨_, _, rfl, h⟩
noncomputable def findF (k : IntKind) (a : Int) (es : List (AV × AV × Nat)) : Option (Option AV) :=
  @List.rec (AV × AV × Nat) (fun _ => Option (Option AV)) (some none) (fun p _ ih => Prod.rec (motive := fun _ => Option (Option AV)) (fun key q => onIx key fun k' a' => iteF (kIs k k') (iteF (eqF a a') (Prod.rec (motive := fun _ => Option (Option AV)) (fun v _ => some (some v)) q) ih) none) p) es
theorem findF_some {k : IntKind} {a : Int} : ∀ (es : List (AV × AV × Nat)) (n : Nat) (r : Option AV), findF k a es = some r → ∃ r', findK (.i k a) es n = some r' ∧ r'.map (fun q => q.2.1) = r
  | [], n, r, h => ⟨none, rfl, by have h : some none = some r := h; cases h; rfl⟩
  | (key, v, b) :: es, n, r, h => by
    have h : onIx key (fun k' a' => iteF (kIs k k') (iteF (eqF a a') (some (some v)) (findF k a es)) none) = some r := h
    obtain ⟨k', a', rfl, h⟩ := onIx_some h
    obtain ⟨h1, h⟩ := iteF_some h
    rw [kIs_eq] at h1
    rw [iteF_eq, eqF_eq] at h
    simp only [findK, keyEq, h1, cond_true]
    cases he : ieq a a' with
    | true => rw [he] at h; simp only [cond_true] at h; exact ⟨_, rfl, by cases h; rfl⟩
    | false =>
      rw [he] at h
      exact findF_some es (Nat.succ n) r h
noncomputable def finV (ok : Bool) (v : AV) (b : Bool) : AV := iteF ok (.tu [v, .b b]) v
noncomputable def lookC (P : Program) (ng : Nat) (t : TypeId) (x y : Operand) (ok : Bool) : Cl (Heap → TT AV → Option AV) :=
  match P.underlying t with
  | some (.map kt et) => match keyKind P kt with
    | some (.int _) => ⟨fun H T => bO ((evC ng x).run T) fun m => bO ((evC ng y).run T) fun k => onM m fun b => onI k fun kk a => bO (fget H.t b) fun o => onMp o fun es => bO (findF kk a es) fun r =>
        Option.rec (motive := fun _ => Option AV) (bO (zeroV P et) fun z => some (finV ok z false)) (fun v => some (finV ok v true)) r⟩
    | _ => ⟨fun _ _ => none⟩
  | _ => ⟨fun _ _ => none⟩
theorem lookC_some {t : TypeId} {x y : Operand} {ok : Bool} {r : AV} (h : (lookC P ng t x y ok).run H T = some r) : rLookup P ng H T t x y ok = some r := by
  unfold lookC at h
  split at h
  · rename_i kt et ht
    split at h
    · rename_i q hq
      obtain ⟨m, h1, h⟩ := bO_some h
      obtain ⟨k, h2, h⟩ := bO_some h
      obtain ⟨b, rfl, h⟩ := onM_some h
      obtain ⟨kk, a, rfl, h⟩ := onI_some h
      obtain ⟨o, h3, h⟩ := bO_some h
      obtain ⟨es, c, rfl, h⟩ := onMp_some h
      obtain ⟨s, h4, h⟩ := bO_some h
      rw [evC_eq] at h1 h2
      rw [fget_eq] at h3
      obtain ⟨s', h5, h6⟩ := findF_some es 0 s h4
      have hm : mapKey P kt (.i kk a) = some (.int q) := by simp only [mapKey, hq]
      simp only [rLookup, h1, h2, aLookup, ht, hm, h3, h5]
      cases s' with
      | none =>
        simp only [Option.map_none] at h6
        subst h6
        have h : bO (zeroV P et) (fun z => some (finV ok z false)) = some r := h
        obtain ⟨z, h7, h⟩ := bO_some h
        simp only [h7, Option.map_some]
        unfold finV at h
        rw [iteF_eq] at h
        exact h
      | some p =>
        obtain ⟨i, v, b⟩ := p
        simp only [Option.map_some] at h6
        subst h6
        have h : some (finV ok v true) = some r := h
        unfold finV at h
        rw [iteF_eq] at h
        exact h
    · cases h
  · cases h
noncomputable def vlF : AV → List AV → Ch := (@AV.rec (fun _ => List AV → Ch) (fun _ => PUnit) (fun _ => fun l => .cs l) (fun _ _ => fun l => .cs l) (fun _ _ => fun l => .cs l) (fun l => .cs l) (fun _ _ => fun l => .cs l) (fun l => .cs l) (fun _ _ _ _ _ => fun l => .cs l) (fun l => .cs l) (fun l => .cs l) (fun _ => fun l => .cs l) (fun _ _ _ _ _ => fun l => .cs l) (fun l => .cs l) (fun _ _ _ => fun l => .cs l) (fun l => .cs l) (fun cs _ _ => .cs cs) (fun _ _ => fun l => .cs l) (fun _ => fun l => .cs l) (fun n x _ => .bs n x) (fun _ _ => fun l => .cs l) ⟨⟩ (fun _ _ _ _ => ⟨⟩))
theorem vlF_eq (v : AV) : vlF v [v] = valCh v := by cases v <;> rfl
noncomputable def chLen (c : Ch) : Nat := @Ch.rec (fun _ => Nat) (fun l => lnF l) (fun n _ => n) c
theorem chLen_eq (c : Ch) : chLen c = c.len := by
  cases c with
  | cs l => exact lnF_eq l
  | bs n x => rfl
end
end Go.Ai
/- Operations as closures: all; regions, code, calls. -/
namespace Go.Ai
section
variable {P : Program} {ng ro : Nat} {H : Heap} {T : TT AV}
/-! writers -/
noncomputable def onPh : AV → (Nat → Nat → Option Heap) → Option Heap := (@AV.rec (fun _ => (Nat → Nat → Option Heap) → Option Heap) (fun _ => PUnit) (fun _ => fun _ => none) (fun _ _ => fun _ => none) (fun _ _ => fun _ => none) (fun _ => none) (fun b o f => f b o) (fun _ => none) (fun _ _ _ _ _ => fun _ => none) (fun _ => none) (fun _ => none) (fun _ => fun _ => none) (fun _ _ _ _ _ => fun _ => none) (fun _ => none) (fun _ _ _ => fun _ => none) (fun _ => none) (fun _ _ => fun _ => none) (fun _ _ => fun _ => none) (fun _ => fun _ => none) (fun _ _ => fun _ => none) (fun _ _ => fun _ => none) ⟨⟩ (fun _ _ _ _ => ⟨⟩))
theorem onPh_some {v : AV} {f : Nat → Nat → Option Heap} {r : Heap} (h : onPh v f = some r) : ∃ b o, v = .p b o ∧ f b o = some r := by
  cases v <;> first | (cases h; done) | exact ⟨_, _, rfl, h⟩
noncomputable def onU8 : AV → (Nat → Option AO) → Option AO := (@AV.rec (fun _ => (Nat → Option AO) → Option AO) (fun _ => PUnit) (fun _ => fun _ => none) (fun k n f => Bool.rec (motive := fun _ => Option AO) none (@Int.rec (fun _ => Option AO) (fun m => Bool.rec (motive := fun _ => Option AO) none (f m) (Nat.ble (Nat.succ m) 256)) (fun _ => none) n) (kIs .u8 k)) (fun _ _ => fun _ => none) (fun _ => none) (fun _ _ => fun _ => none) (fun _ => none) (fun _ _ _ _ _ => fun _ => none) (fun _ => none) (fun _ => none) (fun _ => fun _ => none) (fun _ _ _ _ _ => fun _ => none) (fun _ => none) (fun _ _ _ => fun _ => none) (fun _ => none) (fun _ _ => fun _ => none) (fun _ _ => fun _ => none) (fun _ => fun _ => none) (fun _ _ => fun _ => none) (fun _ _ => fun _ => none) ⟨⟩ (fun _ _ _ _ => ⟨⟩))
theorem onU8_some {v : AV} {f : Nat → Option AO} {r : AO} (h : onU8 v f = some r) : ∃ n, n < 256 ∧ v = .i .u8 (.ofNat n) ∧ f n = some r := by
  cases v with
  | i k n =>
    obtain ⟨h1, h2⟩ := brec_some (x := @Int.rec (fun _ => Option AO) (fun m => Bool.rec (motive := fun _ => Option AO) none (f m) (Nat.ble (Nat.succ m) 256)) (fun _ => none) n) h
    rw [kIs_eq] at h1
    have h1 := of_decide_eq_true h1
    subst h1
    cases n with
    | negSucc n => cases h2
    | ofNat n =>
      obtain ⟨h3, h4⟩ := brec_some (x := f n) h2
      exact ⟨n, ble_true h3, rfl, h4⟩
  | _ => cases h
noncomputable def setL : List AV → Nat → AV → List AV := @List.rec AV (fun _ => Nat → AV → List AV) (fun _ _ => []) (fun a l ih n v => @Nat.rec (fun _ => List AV) (v :: l) (fun m _ => a :: ih m v) n)
theorem setL_eq : ∀ (l : List AV) (n : Nat) (v : AV), setL l n v = l.set n v
  | [], n, v => by simp; rfl
  | a :: l, 0, v => by simp; rfl
  | a :: l, n + 1, v => by
    show a :: setL l n v = _
    rw [setL_eq l n v]; simp
noncomputable def write1 : AO → Nat → AV → Option AO :=
  @AO.rec (fun _ => Nat → AV → Option AO) (fun sz cs off v => Option.rec (motive := fun _ => Option AO) none (fun _ => some (.cells sz (setL cs off v))) (nth cs off))
    (fun len x off v => onU8 v fun m => Bool.rec (motive := fun _ => Option AO) none (some (.bytes len (over x off 1 m))) (Nat.ble (Nat.succ off) len)) (fun _ _ _ _ => none) (fun _ _ _ _ _ => none) (fun _ _ _ _ _ => none) (fun _ _ _ _ _ _ _ _ _ => none)
theorem write1_some {o o' : AO} {off : Nat} {v : AV} (h : write1 o off v = some o') : o.writeC off (.cs [v]) = some o' := by
  cases o with
  | cells sz cs =>
    have h : Option.rec (motive := fun _ => Option AO) none (fun _ => some (.cells sz (setL cs off v))) (nth cs off) = some o' := h
    rw [nth_eq, setL_eq] at h
    cases hg : cs[off]? with
    | none => rw [hg] at h; cases h
    | some x =>
      rw [hg] at h
      have hlt := (List.getElem?_eq_some_iff.1 hg).1
      cases h
      simp only [AO.writeC, AO.write, Ch.l]
      have : Nat.ble (Nat.add off [v].length) cs.length = true := by rw [Nat.ble_eq]; exact hlt
      rw [this]
      simp only [cond_true, Option.some.injEq, AO.cells.injEq, true_and]
      unfold spl
      rw [List.set_eq_take_append_cons_drop, if_pos hlt]
      simp
  | bytes len x =>
    obtain ⟨n, hn, hv, h'⟩ := onU8_some (f := fun m => Bool.rec (motive := fun _ => Option AO) none (some (.bytes len (over x off 1 m))) (Nat.ble (Nat.succ off) len)) h
    clear h
    have h5 : Bool.rec (motive := fun _ => Option AO) none (some (.bytes len (over x off 1 n))) (Nat.ble (Nat.succ off) len) = some o' := h'
    clear h'
    subst hv
    obtain ⟨h1, h2⟩ := brec_some h5
    have h2 : some (AO.bytes len (over x off 1 n)) = some o' := h2
    cases h2
    simp only [AO.writeC, AO.write, Ch.l, toB, show Nat.blt n 256 = true from blt_iff.2 hn, cond_true]
    have : Nat.ble (Nat.add off (Nat.succ 0)) len = true := h1
    rw [this]
    simp
  | _ => cases h
noncomputable def oneF : AV → Bool := (@AV.rec (fun _ => Bool) (fun _ => PUnit) (fun _ => true) (fun _ _ => true) (fun _ _ => true) (true) (fun _ _ => true) (true) (fun _ _ _ _ _ => true) (true) (true) (fun _ => true) (fun _ _ _ _ _ => true) (true) (fun _ _ _ => true) (true) (fun _ _ => false) (fun _ _ => false) (fun _ => true) (fun _ _ => false) (fun _ _ => true) ⟨⟩ (fun _ _ _ _ => ⟨⟩))
theorem oneF_ch {v : AV} (h : oneF v = true) : valCh v = .cs [v] ∧ avOne v = true := by
  cases v <;> first | (cases h; done) | exact ⟨rfl, rfl⟩
noncomputable def storeC (P : Program) (ng ro : Nat) (t : TypeId) (x y : Operand) : Cl (Heap → TT AV → Option Heap) :=
  match P.info? t with
  | some i => bif Nat.beq i.size 1 then
      ⟨fun H T => bO ((evC ng x).run T) fun p => onPh p fun b off => Bool.rec (motive := fun _ => Option Heap) none (bO ((evC ng y).run T) fun v => Bool.rec (motive := fun _ => Option Heap) none (bO (fget H.t b) fun o => bO (write1 o off v) fun o' => some ⟨fset H.t o' b, H.nx⟩) (oneF v)) (Nat.ble ro b)⟩
    else ⟨fun H T => bO ((evC ng x).run T) fun p => onPh p fun b off => Bool.rec (motive := fun _ => Option Heap) none (bO ((evC ng y).run T) fun v => bO (fget H.t b) fun o => (fun ch => Bool.rec (motive := fun _ => Option Heap) none (bO (writeF o off ch) fun o' => some ⟨fset H.t o' b, H.nx⟩) (andF (Nat.beq (chLen ch) i.size) (oneC ch))) (vlF v [v])) (Nat.ble ro b)⟩
  | none => ⟨fun _ _ => none⟩
theorem storeC_some {t : TypeId} {x y : Operand} {H' : Heap} (h : (storeC P ng ro t x y).run H T = some H') : wStore P ng ro H T t x y = some (.tu [], H') := by
  unfold storeC at h
  split at h
  · rename_i i hi
    cases hs : Nat.beq i.size 1 with
    | true =>
      rw [hs] at h
      obtain ⟨p, hp, h⟩ := bO_some h
      obtain ⟨b, off, rfl, h⟩ := onPh_some h
      obtain ⟨hro, h⟩ := brec_some h
      obtain ⟨v, hv, h⟩ := bO_some h
      obtain ⟨h1, h⟩ := brec_some h
      obtain ⟨o, ho, h⟩ := bO_some h
      obtain ⟨o', ho', h⟩ := bO_some h
      rw [evC_eq] at hp hv
      rw [fget_eq] at ho
      rw [fset_eq] at h
      cases h
      obtain ⟨h2, h3⟩ := oneF_ch h1
      have h4 := write1_some ho'
      simp only [wStore, hp, hv, ho, hi, h2, hro, beq_true hs, Ch.len, Ch.one, List.length_cons, List.length_nil, List.all_cons, List.all_nil, h3]
      show (bif Nat.beq 1 1 && true then _ else _) = _
      simp only [show (Nat.beq 1 1 && true) = true from rfl, cond_true, h4]
      rfl
    | false =>
      rw [hs] at h
      obtain ⟨p, hp, h⟩ := bO_some h
      obtain ⟨b, off, rfl, h⟩ := onPh_some h
      obtain ⟨hro, h⟩ := brec_some h
      obtain ⟨v, hv, h⟩ := bO_some h
      obtain ⟨o, ho, h⟩ := bO_some h
      obtain ⟨h1, h⟩ := brec_some h
      obtain ⟨o', ho', h⟩ := bO_some h
      rw [evC_eq] at hp hv
      rw [fget_eq] at ho
      rw [fset_eq] at h
      rw [vlF_eq, andF_eq, chLen_eq, oneC_eq] at h1
      rw [vlF_eq, writeF_eq] at ho'
      cases h
      simp only [wStore, hp, hv, ho, hi, hro, h1, Bool.true_and, cond_true, ho']
      rfl
  · cases h

/-! what kind of operation -/
inductive OpK where
  | mv (c : Cl (TT AV → Option AV))
  | rd (c : Cl (Heap → TT AV → Option AV))
  | wr (c : Cl (Heap → TT AV → Option Heap))
  | gen (c : Cl (Fns → TT AV → Heap → Option (AV × Heap)))
noncomputable def bv (x : Option AV) (f : AV → Option AV) : Option AV := Option.rec (motive := fun _ => Option AV) none f x
theorem bv_def (x : Option AV) (f : AV → Option AV) : bv x f = Option.rec (motive := fun _ => Option AV) none f x := rfl
theorem bv_some {x : Option AV} {f : AV → Option AV} {r : AV} (h : bv x f = some r) : ∃ v, x = some v ∧ f v = some r := by
  cases x with
  | none => cases h
  | some v => exact ⟨v, rfl, h⟩
noncomputable def pickF : AV → Option AV → Option AV → Option AV := (@AV.rec (fun _ => Option AV → Option AV → Option AV) (fun _ => PUnit) (fun x p q => Bool.rec (motive := fun _ => Option AV) q p x) (fun _ _ => fun _ _ => none) (fun _ _ => fun _ _ => none) (fun _ _ => none) (fun _ _ => fun _ _ => none) (fun _ _ => none) (fun _ _ _ _ _ => fun _ _ => none) (fun _ _ => none) (fun _ _ => none) (fun _ => fun _ _ => none) (fun _ _ _ _ _ => fun _ _ => none) (fun _ _ => none) (fun _ _ _ => fun _ _ => none) (fun _ _ => none) (fun _ _ => fun _ _ => none) (fun _ _ => fun _ _ => none) (fun _ => fun _ _ => none) (fun _ _ => fun _ _ => none) (fun _ _ => fun _ _ => none) ⟨⟩ (fun _ _ _ _ => ⟨⟩))
theorem pickF_some {v r : AV} {p q : Option AV} (h : pickF v p q = some r) : v = .b true ∧ p = some r ∨ v = .b false ∧ q = some r := by
  cases v <;> try (cases h; done)
  rename_i x
  cases x with
  | true => exact .inl ⟨rfl, h⟩
  | false => exact .inr ⟨rfl, h⟩
noncomputable def genX (P : Program) (ng ro : Nat) (o : Oper) : OpK := .gen ⟨fun ih T H => opX P ng ro ih.ca ih.yi o T H⟩
noncomputable def genM (c : Cl (TT AV → Heap → Option (AV × Heap))) : OpK := .gen ⟨fun _ T H => c.run T H⟩
noncomputable def kindC (P : Program) (ng ro : Nat) (o : Oper) : OpK :=
  match o.op with
  | .move x => .mv (evC ng x)
  | .assign x => .mv (evC ng x)
  | .pick c x y => .rd ⟨fun _ T => Option.rec (motive := fun _ => Option AV) none (fun v => pickF v ((evC ng x).run T) ((evC ng y).run T)) ((evC ng c).run T)⟩
  | .load t x => .rd ⟨fun H T => Option.rec (motive := fun _ => Option AV) none (fun v => (loadC P t).run H v) ((evC ng x).run T)⟩
  | .binOp op t x y _ => match op with
    | .quo | .rem | .and | .or | .xor | .shl | .shr => .rd ⟨fun _ T => Option.rec (motive := fun _ => Option AV) none (fun u => Option.rec (motive := fun _ => Option AV) none (fun v => (bitC op).run u v) ((evC ng y).run T)) ((evC ng x).run T)⟩
    | _ => .rd ⟨fun _ T => Option.rec (motive := fun _ => Option AV) none (fun u => Option.rec (motive := fun _ => Option AV) none (fun v => (binC P op t).run u v) ((evC ng y).run T)) ((evC ng x).run T)⟩
  | .unOp .not _ x => .rd ⟨fun _ T => Option.rec (motive := fun _ => Option AV) none (fun v => onB v fun p => some (.b (notF p))) ((evC ng x).run T)⟩
  | .fieldAddr s x f => .rd ⟨fun _ T => Option.rec (motive := fun _ => Option AV) none (fun v => (fieldAddrC P s f).run v) ((evC ng x).run T)⟩
  | .field t x f => .rd ⟨fun _ T => Option.rec (motive := fun _ => Option AV) none (fun v => (fieldC P t f).run v) ((evC ng x).run T)⟩
  | .indexAddr t x y => .rd ⟨fun _ T => Option.rec (motive := fun _ => Option AV) none (fun u => Option.rec (motive := fun _ => Option AV) none (fun v => (indexAddrC P t).run u v) ((evC ng y).run T)) ((evC ng x).run T)⟩
  | .extract x i => .rd ⟨fun _ T => Option.rec (motive := fun _ => Option AV) none (fun v => onTu v fun l => nth l i) ((evC ng x).run T)⟩
  | .nilCheck x => .rd ⟨fun _ T => Option.rec (motive := fun _ => Option AV) none (fun v => nilF v) ((evC ng x).run T)⟩
  | .convert s d x => .rd ⟨fun H T => Option.rec (motive := fun _ => Option AV) none (fun v => (convC P s d).run H v) ((evC ng x).run T)⟩
  | .alloc t => genM (alC P t)
  | .box _ x => genM (bxC ng x)
  | .buildSlice t len ps => genM (bsC P ng t len ps)
  | .makeSlice .. => .gen ⟨fun _ T H => Option.rec (motive := fun _ => Option (AV × Heap)) none (fun p => Prod.rec (motive := fun _ => Option (AV × Heap)) (fun ob mk => some (Mk.val mk H.nx, ⟨fset H.t ob H.nx, Nat.succ H.nx⟩)) p) (aal P ng T o)⟩
  | .store t x y => .wr (storeC P ng ro t x y)
  | .call c => match c.callee with
    | .builtin .len => match c.args.toList, c.argTypes.toList with
      | [x], [t] => .rd ⟨fun H T => Option.rec (motive := fun _ => Option AV) none (fun v => (lenC P t).run H v) ((evC ng x).run T)⟩
      | _, _ => genX P ng ro o
    | .builtin .append => match c.args.toList, c.argTypes.toList with
      | [s, x], [st, xt] => genM (appC P ng ro st xt s x)
      | _, _ => genX P ng ro o
    | .builtin .copy => .gen ⟨fun _ T H => wCall P ng ro H T c⟩
    | .value (.func g) => bif hasBody P g then .gen ⟨fun ih T H => bO ((evsC ng c.args.toList).run T) fun args => ih.ca g args H⟩ else genX P ng ro o
    | _ => genX P ng ro o
  | .slice t x lo hi mx => .rd (sliceC P ng t x lo hi mx)
  | .build t ps => .rd (buildC P ng t ps)
  | .lookup t x y ok => .rd (lookC P ng t x y ok)
  | _ => genX P ng ro o
def KindOK (P : Program) (ng ro : Nat) (o : Oper) : OpK → Prop
  | .mv c => ∀ H T v, c.run T = some v → ard P ng H T o = some v
  | .rd c => ∀ H T v, c.run H T = some v → ard P ng H T o = some v
  | .wr c => ∀ ih T H H', c.run H T = some H' → opX P ng ro (Fns.ca ih) (Fns.yi ih) o T H = some (.tu [], H')
  | .gen c => ∀ ih T H r, c.run ih T H = some r → opX P ng ro (Fns.ca ih) (Fns.yi ih) o T H = some r
theorem genX_ok (o : Oper) : KindOK P ng ro o (genX P ng ro o) := fun _ _ _ _ h => h
theorem opX_of_ard {ca : FuncId → List AV → Heap → Option (AV × Heap)} {yi : Nat → List AV → Heap → Option (AV × Heap)} {o : Oper} {v : AV} (h : ard P ng H T o = some v) : opX P ng ro ca yi o T H = some (v, H) := by
  unfold opX
  split
  · rename_i c hop
    split
    · simp only [basic, h]
    · rename_i f hcal; simp only [ard, hop, rCall, hcal] at h; cases h
    · rename_i f hcal; simp only [ard, hop, rCall, hcal] at h; cases h
  · simp only [basic, h]
def isCallOp : Op → Bool
  | .call _ => true
  | _ => false
theorem kindC_ok (o : Oper) : KindOK P ng ro o (kindC P ng ro o) := by
  have hr : ∀ {f : Heap → TT AV → Option AV}, (∀ c, o.op ≠ .call c) → (∀ H T v, f H T = some v → ard P ng H T o = some v) → KindOK P ng ro o (.rd ⟨f⟩) := fun _ hf => hf
  have hal : isCallOp o.op = false → (∀ H T, ard P ng H T o = none) → KindOK P ng ro o (.gen ⟨fun _ T H => Option.rec (motive := fun _ => Option (AV × Heap)) none (fun p => Prod.rec (motive := fun _ => Option (AV × Heap)) (fun ob mk => some (Mk.val mk H.nx, ⟨fset H.t ob H.nx, Nat.succ H.nx⟩)) p) (aal P ng T o)⟩) := fun hc hn ih T H r h => by
    have h : Option.rec (motive := fun _ => Option (AV × Heap)) none (fun p => Prod.rec (motive := fun _ => Option (AV × Heap)) (fun ob mk => some (Mk.val mk H.nx, ⟨fset H.t ob H.nx, Nat.succ H.nx⟩)) p) (aal P ng T o) = some r := h
    cases ha : aal P ng T o with
    | none => rw [ha] at h; cases h
    | some p =>
      obtain ⟨ob, mk⟩ := p
      rw [ha] at h
      have h : some (Mk.val mk H.nx, (⟨fset H.t ob H.nx, Nat.succ H.nx⟩ : Heap)) = some r := h
      rw [fset_eq] at h
      unfold opX
      split
      · rename_i c hop; rw [hop] at hc; cases hc
      · simp only [basic, hn, ha]; exact h
  have hmk : ∀ {ca : FuncId → List AV → Heap → Option (AV × Heap)} {yi : Nat → List AV → Heap → Option (AV × Heap)} {T : TT AV} {H : Heap} {ob : AO} {mk : Mk}, isCallOp o.op = false → ard P ng H T o = none → aal P ng T o = some (ob, mk) → opX P ng ro ca yi o T H = some (Mk.val mk H.nx, H.push ob) := fun {ca yi T H ob mk} hc hn ha => by
    unfold opX
    split
    · rename_i c hop; rw [hop] at hc; cases hc
    · simp only [basic, hn, ha]
  unfold kindC
  split
  · rename_i x ho
    intro H T v h
    rw [evC_eq] at h
    simpa only [ard, ho] using h
  · rename_i x ho
    intro H T v h
    rw [evC_eq] at h
    simpa only [ard, ho] using h
  · rename_i c x y ho
    refine hr (fun c e => by rw [ho] at e; cases e) fun H T v h => ?_
    obtain ⟨u, h1, h⟩ := bv_some h
    rw [evC_eq] at h1
    simp only [evC_eq] at h
    simp only [ard, ho, rPick, h1]
    rcases pickF_some h with ⟨rfl, h⟩ | ⟨rfl, h⟩ <;> exact h
  · rename_i t x ho
    refine hr (fun c e => by rw [ho] at e; cases e) fun H T v h => ?_
    obtain ⟨u, h1, h⟩ := bv_some h
    rw [evC_eq] at h1
    simp only [ard, ho, rLoad, h1]
    exact loadC_some h
  · rename_i op t x y yt ho
    have hbit : KindOK P ng ro o (.rd ⟨fun _ T => bv ((evC ng x).run T) fun u => bv ((evC ng y).run T) fun v => (bitC op).run u v⟩) := by
      refine hr (fun c e => by rw [ho] at e; cases e) fun H T v h => ?_
      obtain ⟨u, h1, g⟩ := bv_some h
      obtain ⟨u', h2, g'⟩ := bv_some g
      clear h g
      rw [evC_eq] at h1 h2
      simp only [ard, ho]
      exact bitC_some ho h1 h2 g'
    have hbin : KindOK P ng ro o (.rd ⟨fun _ T => bv ((evC ng x).run T) fun u => bv ((evC ng y).run T) fun v => (binC P op t).run u v⟩) := by
      refine hr (fun c e => by rw [ho] at e; cases e) fun H T v h => ?_
      obtain ⟨u, h1, h⟩ := bv_some h
      obtain ⟨u', h2, h⟩ := bv_some h
      rw [evC_eq] at h1 h2
      simp only [ard, ho, rBin, h1, h2, binC_some h]
    split <;> first | exact hbit | exact hbin
  · rename_i t x ho
    refine hr (fun c e => by rw [ho] at e; cases e) fun H T v h => ?_
    obtain ⟨u, h1, h⟩ := bv_some h
    obtain ⟨p, rfl, h⟩ := onB_some h
    rw [evC_eq] at h1
    have h : some (AV.b (notF p)) = some v := h
    rw [notF_eq] at h
    simp only [ard, ho, rUn, h1]
    exact h
  · rename_i s x f ho
    refine hr (fun c e => by rw [ho] at e; cases e) fun H T v h => ?_
    obtain ⟨u, h1, h⟩ := bv_some h
    rw [evC_eq] at h1
    simp only [ard, ho, rFieldAddr, h1]
    exact fieldAddrC_some h
  · rename_i t x f ho
    refine hr (fun c e => by rw [ho] at e; cases e) fun H T v h => ?_
    obtain ⟨u, h1, h⟩ := bv_some h
    rw [evC_eq] at h1
    simp only [ard, ho, rField, h1]
    exact fieldC_some h
  · rename_i t x y ho
    refine hr (fun c e => by rw [ho] at e; cases e) fun H T v h => ?_
    obtain ⟨u, h1, h⟩ := bv_some h
    obtain ⟨u', h2, h⟩ := bv_some h
    rw [evC_eq] at h1 h2
    simp only [ard, ho, rIndexAddr, h1, h2]
    exact indexAddrC_some h
  · rename_i x i ho
    refine hr (fun c e => by rw [ho] at e; cases e) fun H T v h => ?_
    obtain ⟨u, h1, h⟩ := bv_some h
    obtain ⟨l, rfl, h⟩ := onTu_some h
    rw [evC_eq] at h1
    have h : nth l i = some v := h
    rw [nth_eq] at h
    simp only [ard, ho, rExtract, h1]
    exact h
  · rename_i x ho
    refine hr (fun c e => by rw [ho] at e; cases e) fun H T v h => ?_
    obtain ⟨u, h1, g⟩ := bv_some h
    clear h
    rw [evC_eq] at h1
    rw [nilF_eq] at g
    simp only [ard, ho, rNil, h1]
    exact g
  · rename_i s d x ho
    refine hr (fun c e => by rw [ho] at e; cases e) fun H T v h => ?_
    obtain ⟨u, h1, g⟩ := bv_some h
    clear h
    rw [evC_eq] at h1
    simp only [ard, ho, rConv, h1]
    exact convC_some g
  · rename_i t ho
    intro ih T H r h
    obtain ⟨ob, mk, h1, rfl⟩ := alC_some h
    exact hmk (by rw [ho]; rfl) (by simp only [ard, ho]) (by simp only [aal, ho, h1])
  · rename_i t x ho
    intro ih T H r h
    obtain ⟨ob, mk, h1, rfl⟩ := bxC_some h
    exact hmk (by rw [ho]; rfl) (by simp only [ard, ho]) (by simp only [aal, ho, h1])
  · rename_i t len ps ho
    intro ih T H r h
    obtain ⟨ob, mk, h1, rfl⟩ := bsC_some h
    exact hmk (by rw [ho]; rfl) (by simp only [ard, ho]) (by simp only [aal, ho, h1])
  · rename_i ho; exact hal (by rw [ho]; rfl) (fun H T => by simp only [ard, ho])
  · rename_i t x y ho
    intro ih T H H' h
    have h1 := storeC_some h
    unfold opX
    simp only [ho, basic]
    have e1 : ard P ng H T o = none := by simp only [ard, ho]
    have e2 : aal P ng T o = none := by simp only [aal, ho]
    have e3 : awr P ng ro H T o = some (.tu [], H') := by simp only [awr, ho, h1]
    simp only [e1, e2, e3]
  · rename_i c ho
    split
    · rename_i hcal
      split
      · rename_i x t hx ht
        intro H T v h
        obtain ⟨u, h1, h⟩ := bv_some h
        rw [evC_eq] at h1
        simp only [ard, ho, rCall, hcal, hx, ht, h1, lenC_some h]
      · exact genX_ok o
    · rename_i hcal
      split
      · rename_i s x st xt hx ht
        intro ih T H r h
        have h : wCall P ng ro H T c = some r := appC_some hcal hx ht h
        unfold opX
        simp only [ho, hcal, basic]
        have e1 : ard P ng H T o = none := by simp only [ard, ho, rCall, hcal]
        have e2 : aal P ng T o = none := by simp only [aal, ho]
        have e3 : awr P ng ro H T o = some r := by simp only [awr, ho, h]
        simp only [e1, e2, e3]
      · exact genX_ok o
    · rename_i hcal
      intro ih T H r h
      have h : wCall P ng ro H T c = some r := h
      unfold opX
      simp only [ho, hcal, basic]
      have e1 : ard P ng H T o = none := by simp only [ard, ho, rCall, hcal]
      have e2 : aal P ng T o = none := by simp only [aal, ho]
      have e3 : awr P ng ro H T o = some r := by simp only [awr, ho, h]
      simp only [e1, e2, e3]
    · rename_i g hcal
      cases hb : hasBody P g with
      | false => exact genX_ok o
      | true =>
        intro ih T H r h
        obtain ⟨args, h1, h⟩ := bO_some h
        rw [evsC_eq] at h1
        unfold opX
        simp only [ho, hcal, ev, h1, hb, cond_true, List.append_nil, List.nil_append]
        exact h
    · exact genX_ok o
  · rename_i t x lo hi mx ho
    intro H T v h
    simp only [ard, ho]
    exact sliceC_some h
  · rename_i t ps ho
    intro H T v h
    simp only [ard, ho]
    exact buildC_some h
  · rename_i t x y ok ho
    intro H T v h
    simp only [ard, ho]
    exact lookC_some h
  · exact genX_ok o
end
end Go.Ai
/- Regions that draw their order, as closures. -/
namespace Go.Ai
section
variable {P : Program} {ng ro nt : Nat} {ops : Array Oper}
noncomputable def stC (nt : Nat) (d : Option Tmp) : Option (Cl (TT AV → AV → TT AV)) :=
  match d with
  | none => some ⟨fun T _ => T⟩
  | some t => bif Nat.blt t nt then some (setT t) else none
theorem stC_ok {d : Option Tmp} {st : Cl (TT AV → AV → TT AV)} {T : TT AV} {v : AV} (h : stC nt d = some st) : putT nt T d v = some (st.run T v) := by
  unfold stC at h
  split at h
  · cases h; rfl
  · rename_i t
    cases hb : Nat.blt t nt with
    | false => rw [hb] at h; cases h
    | true =>
      rw [hb] at h
      cases h
      simp only [putT, hb, cond_true]
      rw [setT_eq]
noncomputable def gdV : AV → Bool → Option Bool := (@AV.rec (fun _ => Bool → Option Bool) (fun _ => PUnit) (fun p want => some (Bool.rec (motive := fun _ => Bool) (notF want) want p)) (fun _ _ => fun _ => none) (fun _ _ => fun _ => none) (fun _ => none) (fun _ _ => fun _ => none) (fun _ => none) (fun _ _ _ _ _ => fun _ => none) (fun _ => none) (fun _ => none) (fun _ => fun _ => none) (fun _ _ _ _ _ => fun _ => none) (fun _ => none) (fun _ _ _ => fun _ => none) (fun _ => none) (fun _ _ => fun _ => none) (fun l _ _ => @List.rec AV (fun _ => Option Bool) (some false) (fun _ _ _ => none) l) (fun _ => fun _ => none) (fun _ _ => fun _ => none) (fun _ _ => fun _ => none) ⟨⟩ (fun _ _ _ _ => ⟨⟩))
noncomputable def gdC (ops : Array Oper) (o : Oper) : Cl (TT AV → Option Bool) :=
  match o.guard with
  | none => ⟨fun _ => some true⟩
  | some (j, want) => match (ops[j]?).bind (·.dst) with
    | some t => ⟨fun T => Option.rec (motive := fun _ => Option Bool) none (fun v => gdV v want) ((getT t).run T)⟩
    | none => ⟨fun _ => none⟩
theorem gdC_eq {o : Oper} {T : TT AV} : (gdC ops o).run T = gd ops T o := by
  unfold gdC gd
  cases o.guard with
  | none => rfl
  | some jw =>
    obtain ⟨j, want⟩ := jw
    simp only
    cases (ops[j]?).bind (·.dst) with
    | none => rfl
    | some t =>
      show Option.rec (motive := fun _ => Option Bool) none (fun v => gdV v want) ((getT t).run T) = _
      rw [getT_eq]
      simp only
      cases T.get t with
      | none => rfl
      | some v =>
        cases v <;> try rfl
        · rename_i p; cases p <;> cases want <;> rfl
        · rename_i l; cases l <;> rfl
noncomputable def restrC : List Tmp → Cl (TT AV → TT AV)
  | [] => ⟨fun _ => .e⟩
  | t :: l => ⟨fun T => Option.rec (motive := fun _ => TT AV) ((restrC l).run T) (fun v => (setT t).run ((restrC l).run T) v) ((getT t).run T)⟩
theorem restrC_eq (T : TT AV) : ∀ l : List Tmp, (restrC l).run T = restr T l
  | [] => rfl
  | t :: l => by
    show Option.rec (motive := fun _ => TT AV) ((restrC l).run T) (fun v => (setT t).run ((restrC l).run T) v) ((getT t).run T) = _
    rw [getT_eq, restr, restrC_eq T l]
    cases T.get t with
    | none => rfl
    | some v => exact setT_eq _ _ _
theorem restr_same {T : TT AV} : ∀ {l : List Tmp} {t : Tmp}, t ∈ l → (restr T l).get t = T.get t
  | s :: l, t, h => by
    simp only [restr]
    by_cases e : t = s
    · subst e
      cases hx : T.get t with
      | some v => simp only [TT.get_set_eq]
      | none =>
        simp only
        cases hg : (restr T l).get t with
        | none => rfl
        | some v => rw [(restr_get hg).1] at hx; cases hx
    · have ht : t ∈ l := by rcases List.mem_cons.1 h with h | h; exact absurd h e; exact h
      cases T.get s with
      | some v => simp only [TT.get_set_ne _ _ e]; exact restr_same ht
      | none => exact restr_same ht
theorem ev_restr {T : TT AV} {o : Oper} {x : Operand} (hx : x ∈ o.op.operands.toList) : ev ng (restr T (o.looksAt ops)) x = ev ng T x := by
  cases x with
  | tmp t =>
    refine restr_same ?_
    unfold Oper.looksAt
    rw [List.mem_append]
    exact .inl (List.mem_filterMap.2 ⟨_, hx, rfl⟩)
  | _ => rfl
theorem gd_restr {T : TT AV} {o : Oper} : gd ops (restr T (o.looksAt ops)) o = gd ops T o := by
  unfold gd
  cases hg : o.guard with
  | none => rfl
  | some jw =>
    obtain ⟨j, want⟩ := jw
    simp only
    cases ht : (ops[j]?).bind (·.dst) with
    | none => rfl
    | some t =>
      simp only
      rw [restr_same]
      unfold Oper.looksAt
      rw [List.mem_append, hg]
      exact .inr (by simp only [ht]; simp)
/-- what a closure reads of the frame -/
def SlotOK (ng : Nat) (o : Oper) : OpK → Prop
  | .mv c => ∀ T T', (∀ x ∈ o.op.operands.toList, ev ng T x = ev ng T' x) → c.run T = c.run T'
  | .rd c => ∀ H T T', (∀ x ∈ o.op.operands.toList, ev ng T x = ev ng T' x) → c.run H T = c.run H T'
  | .wr c => ∀ H T T', (∀ x ∈ o.op.operands.toList, ev ng T x = ev ng T' x) → c.run H T = c.run H T'
  | .gen c => ∀ ih H T T', (∀ x ∈ o.op.operands.toList, ev ng T x = ev ng T' x) → c.run ih T H = c.run ih T' H
def direct (P : Program) : Op → Bool
  | .move _ | .assign _ | .pick .. | .load .. | .binOp .. | .unOp .not .. | .fieldAddr .. | .field .. | .indexAddr .. | .extract .. | .nilCheck _ | .convert .. | .store .. | .slice .. | .build .. => true
  | .call c => match c.callee with
    | .builtin .len => match c.args.toList, c.argTypes.toList with
      | [_], [_] => true
      | _, _ => false
    | .value (.func g) => hasBody P g
    | _ => false
  | _ => false
theorem evs_congr {T T' : TT AV} : ∀ (l : List Operand), (∀ x ∈ l, ev ng T x = ev ng T' x) → evs ng T l = evs ng T' l
  | [], _ => rfl
  | x :: l, h => by
    rw [evs, evs, h x (by simp), evs_congr l fun y hy => h y (by simp [hy])]
theorem bdC_congr {T T' : TT AV} {x : Option Operand} (h : ∀ y, x = some y → ev ng T y = ev ng T' y) : (bdC ng x).run T = (bdC ng x).run T' := by
  cases x with
  | none => rfl
  | some y =>
    show bO ((evC ng y).run T) natV = bO ((evC ng y).run T') natV
    rw [evC_eq, evC_eq, h y rfl]
theorem partsA_congr {T T' : TT AV} : ∀ (l : List (Nat × Operand)), (∀ x ∈ l, ev ng T x.2 = ev ng T' x.2) → partsA ng T l = partsA ng T' l
  | [], _ => rfl
  | (i, x) :: l, h => by
    rw [partsA, partsA, h (i, x) (by simp), partsA_congr l fun y hy => h y (by simp [hy])]
theorem kindC_slot (o : Oper) (hd : direct P o.op = true) : SlotOK ng o (kindC P ng ro o) := by
  unfold kindC
  split
  · rename_i x ho; intro T T' h; simp only [evC_eq]; exact h x (by rw [ho]; simp [Op.operands])
  · rename_i x ho; intro T T' h; simp only [evC_eq]; exact h x (by rw [ho]; simp [Op.operands])
  · rename_i c x y ho; intro H T T' h; simp only [evC_eq]; rw [h c (by rw [ho]; simp [Op.operands]), h x (by rw [ho]; simp [Op.operands]), h y (by rw [ho]; simp [Op.operands])]
  · rename_i t x ho; intro H T T' h; simp only [evC_eq]; rw [h x (by rw [ho]; simp [Op.operands])]
  · rename_i op t x y yt ho
    split <;> (intro H T T' h; simp only [evC_eq]; rw [h x (by rw [ho]; simp [Op.operands]), h y (by rw [ho]; simp [Op.operands])])
  · rename_i t x ho; intro H T T' h; simp only [evC_eq]; rw [h x (by rw [ho]; simp [Op.operands])]
  · rename_i s x f ho; intro H T T' h; simp only [evC_eq]; rw [h x (by rw [ho]; simp [Op.operands])]
  · rename_i t x f ho; intro H T T' h; simp only [evC_eq]; rw [h x (by rw [ho]; simp [Op.operands])]
  · rename_i t x y ho; intro H T T' h; simp only [evC_eq]; rw [h x (by rw [ho]; simp [Op.operands]), h y (by rw [ho]; simp [Op.operands])]
  · rename_i x i ho; intro H T T' h; simp only [evC_eq]; rw [h x (by rw [ho]; simp [Op.operands])]
  · rename_i x ho; intro H T T' h; simp only [evC_eq]; rw [h x (by rw [ho]; simp [Op.operands])]
  · rename_i s d x ho; intro H T T' h; simp only [evC_eq]; rw [h x (by rw [ho]; simp [Op.operands])]
  · rename_i ho; rw [ho] at hd; cases hd
  · rename_i ho; rw [ho] at hd; cases hd
  · rename_i ho; rw [ho] at hd; cases hd
  · rename_i ho; rw [ho] at hd; cases hd
  · rename_i t x y ho
    intro H T T' h
    unfold storeC
    split
    · rename_i i hi
      cases Nat.beq i.size 1 <;> (simp only [cond_true, cond_false, evC_eq]; rw [h x (by rw [ho]; simp [Op.operands]), h y (by rw [ho]; simp [Op.operands])])
    · rfl
  · rename_i c ho
    rw [ho] at hd
    simp only [direct] at hd
    split
    · rename_i hcal
      rw [hcal] at hd
      split
      · rename_i x t hx ht
        intro H T T' h
        simp only [evC_eq]
        rw [h x (by
          rw [ho]
          have : x ∈ c.args.toList := by rw [hx]; simp
          simp only [Op.operands, Call.operands, hcal]
          simpa using this)]
      · rename_i hne
        simp only at hd
        cases hd
    · rename_i hcal; rw [hcal] at hd; cases hd
    · rename_i hcal; rw [hcal] at hd; cases hd
    · rename_i g hcal
      rw [hcal] at hd
      simp only at hd
      rw [hd]
      intro ih H T T' h
      simp only [evsC_eq]
      rw [evs_congr (T := T) (T' := T') c.args.toList fun x hx => h x (by
        rw [ho]
        simp only [Op.operands, Call.operands, hcal]
        have : x ∈ c.args := by simpa using hx
        simp [this])]
    · rename_i h1 h2 h3 h4
      split at hd
      · rename_i hcal; exact absurd hcal (by assumption)
      · rename_i g hcal; exact absurd hcal (by apply_assumption)
      · cases hd
  · rename_i t x lo hi mx ho
    intro H T T' h
    unfold sliceC
    split
    · split
      · show bO ((evC ng x).run T) _ = bO ((evC ng x).run T') _
        rw [evC_eq, evC_eq, h x (by rw [ho]; simp [Op.operands]), bdC_congr (x := lo) (T := T) (T' := T') fun y e => h y (by rw [ho]; simp [Op.operands, e]),
          bdC_congr (x := hi) (T := T) (T' := T') fun y e => h y (by rw [ho]; simp [Op.operands, e]), bdC_congr (x := mx) (T := T) (T' := T') fun y e => h y (by rw [ho]; simp [Op.operands, e])]
      · rfl
    · rfl
  · rename_i t ps ho
    intro H T T' h
    have hp : (partsC ng ps.toList).run T = (partsC ng ps.toList).run T' := by
      rw [partsC_eq, partsC_eq]
      refine partsA_congr _ fun x hx => h x.2 ?_
      rw [ho]
      simp only [Op.operands]
      have hx' : (x.1, x.2) ∈ ps := by simpa using hx
      simpa using ⟨x.1, hx'⟩
    unfold buildC
    split
    · show bO ((partsC ng ps.toList).run T) _ = bO ((partsC ng ps.toList).run T') _
      rw [hp]
    · show bO ((partsC ng ps.toList).run T) _ = bO ((partsC ng ps.toList).run T') _
      rw [hp]
    · rfl
  · rename_i ho; rw [ho] at hd; cases hd
  · unfold direct at hd
    split at hd <;> first | (cases hd; done) | (exfalso; solve_by_elim)

/-! what has been read ahead -/
structure ME where
  i : Nat
  chk : Heap → Bool
def MEOK (P : Program) (ng ro : Nat) (m : ME) (e : PE) : Prop := m.i = e.i ∧ ∀ H, m.chk H = true → PE.again P ng ro H e = true
inductive Red (P : Program) (ng ro : Nat) : List ME → List PE → Prop
  | nil : Red P ng ro [] []
  | both {m e M Q} : MEOK P ng ro m e → Red P ng ro M Q → Red P ng ro (m :: M) (e :: Q)
  | skip {e M Q} : (∀ H, PE.again P ng ro H e = true) → Red P ng ro M Q → Red P ng ro M (e :: Q)
noncomputable def keepM (k : Nat) (M : List ME) : List ME :=
  @List.rec ME (fun _ => List ME) [] (fun m _ ih => Bool.rec (motive := fun _ => List ME) (m :: ih) ih (Nat.beq (Nat.mod (Nat.shiftRight k m.i) 2) 1)) M
theorem keepM_cons (k : Nat) (m : ME) (M : List ME) : keepM k (m :: M) = bif tb k m.i then keepM k M else m :: keepM k M := by
  show Bool.rec (motive := fun _ => List ME) (m :: keepM k M) (keepM k M) (tb k m.i) = _
  cases tb k m.i <;> rfl
theorem keepM_red {k : Nat} {M : List ME} {Q : List PE} (h : Red P ng ro M Q) : Red P ng ro (keepM k M) (keepQ k Q) := by
  induction h with
  | nil => exact .nil
  | @both m e M Q h1 _ ih =>
    rw [keepM_cons, keepQ, h1.1]
    cases tb k e.i with
    | true => exact ih
    | false => exact .both h1 ih
  | @skip e M Q h1 _ ih =>
    rw [keepQ]
    cases tb k e.i with
    | true => exact ih
    | false => exact .skip h1 ih
noncomputable def allM (H : Heap) (M : List ME) : Bool := @List.rec ME (fun _ => Bool) true (fun m _ ih => Bool.rec (motive := fun _ => Bool) false ih (m.chk H)) M
theorem allM_red {H : Heap} {M : List ME} {Q : List PE} (h : Red P ng ro M Q) : allM H M = true → Q.all (PE.again P ng ro H) = true := by
  induction h with
  | nil => exact fun _ => rfl
  | @both m e M Q h1 _ ih =>
    intro h
    have h : Bool.rec (motive := fun _ => Bool) false (allM H M) (m.chk H) = true := h
    cases hc : m.chk H with
    | false => rw [hc] at h; cases h
    | true =>
      rw [hc] at h
      rw [List.all_cons, h1.2 H hc, ih h]; rfl
  | @skip e M Q h1 _ ih =>
    intro h
    rw [List.all_cons, h1 H, ih h]; rfl
def depOf : Op → Bool
  | .move _ | .assign _ | .pick .. | .binOp .. | .unOp .. | .fieldAddr .. | .field .. | .indexAddr .. | .extract .. | .nilCheck _ | .slice .. | .build .. => false
  | _ => true
theorem ard_nodep {o : Oper} {T : TT AV} (h : depOf o.op = false) (H H' : Heap) : ard P ng H T o = ard P ng H' T o := by
  unfold ard
  cases ho : o.op <;> first | rfl | (rw [ho] at h; cases h)
mutual
theorem avEq_self : ∀ x : AV, avEq x x = true
  | .b x => by simp [avEq]
  | .i k n => by simp [avEq, ieq_eq]
  | .s l x | .p l x | .by_ l x | .sr l x => by simp [avEq]
  | .pn | .sn | .se | .mn | .fz | .inil => by simp [avEq]
  | .sl a o l c p => by simp [avEq]
  | .m a | .q a => by simp [avEq]
  | .fn f l k => by simp [avEq, avEqs_self l, avEqs_self k]
  | .ifc t v => by simp [avEq, avEq_self v]
  | .ag l | .tu l => by simp [avEq, avEqs_self l]
theorem avEqs_self : ∀ x : List AV, avEqs x x = true
  | [] => by simp [avEqs]
  | x :: l => by simp [avEqs, avEq_self x, avEqs_self l]
end
noncomputable def eI2 : AV → IntKind → Int → Bool := (@AV.rec (fun _ => IntKind → Int → Bool) (fun _ => PUnit) (fun _ => fun _ _ => false) (fun k' n' k n => andF (kIs k k') (eqF n n')) (fun _ _ => fun _ _ => false) (fun _ _ => false) (fun _ _ => fun _ _ => false) (fun _ _ => false) (fun _ _ _ _ _ => fun _ _ => false) (fun _ _ => false) (fun _ _ => false) (fun _ => fun _ _ => false) (fun _ _ _ _ _ => fun _ _ => false) (fun _ _ => false) (fun _ _ _ => fun _ _ => false) (fun _ _ => false) (fun _ _ => fun _ _ => false) (fun _ _ => fun _ _ => false) (fun _ => fun _ _ => false) (fun _ _ => fun _ _ => false) (fun _ _ => fun _ _ => false) ⟨⟩ (fun _ _ _ _ => ⟨⟩))
noncomputable def eP2 : AV → Nat → Nat → Bool := (@AV.rec (fun _ => Nat → Nat → Bool) (fun _ => PUnit) (fun _ => fun _ _ => false) (fun _ _ => fun _ _ => false) (fun _ _ => fun _ _ => false) (fun _ _ => false) (fun b' o' b o => andF (Nat.beq b b') (Nat.beq o o')) (fun _ _ => false) (fun _ _ _ _ _ => fun _ _ => false) (fun _ _ => false) (fun _ _ => false) (fun _ => fun _ _ => false) (fun _ _ _ _ _ => fun _ _ => false) (fun _ _ => false) (fun _ _ _ => fun _ _ => false) (fun _ _ => false) (fun _ _ => fun _ _ => false) (fun _ _ => fun _ _ => false) (fun _ => fun _ _ => false) (fun _ _ => fun _ _ => false) (fun _ _ => fun _ _ => false) ⟨⟩ (fun _ _ _ _ => ⟨⟩))
noncomputable def eB2 : AV → Bool → Bool := (@AV.rec (fun _ => Bool → Bool) (fun _ => PUnit) (fun x' x => Bool.rec (motive := fun _ => Bool) (notF x') x' x) (fun _ _ => fun _ => false) (fun _ _ => fun _ => false) (fun _ => false) (fun _ _ => fun _ => false) (fun _ => false) (fun _ _ _ _ _ => fun _ => false) (fun _ => false) (fun _ => false) (fun _ => fun _ => false) (fun _ _ _ _ _ => fun _ => false) (fun _ => false) (fun _ _ _ => fun _ => false) (fun _ => false) (fun _ _ => fun _ => false) (fun _ _ => fun _ => false) (fun _ => fun _ => false) (fun _ _ => fun _ => false) (fun _ _ => fun _ => false) ⟨⟩ (fun _ _ _ _ => ⟨⟩))
noncomputable def eSl2 : AV → Nat → Nat → Nat → Nat → Bool → Bool := (@AV.rec (fun _ => Nat → Nat → Nat → Nat → Bool → Bool) (fun _ => PUnit) (fun _ => fun _ _ _ _ _ => false) (fun _ _ => fun _ _ _ _ _ => false) (fun _ _ => fun _ _ _ _ _ => false) (fun _ _ _ _ _ => false) (fun _ _ => fun _ _ _ _ _ => false) (fun _ _ _ _ _ => false) (fun b' o' l' c' p' b o l c p => andF (Nat.beq b b') (andF (Nat.beq o o') (andF (Nat.beq l l') (andF (Nat.beq c c') (Bool.rec (motive := fun _ => Bool) (notF p') p' p))))) (fun _ _ _ _ _ => false) (fun _ _ _ _ _ => false) (fun _ => fun _ _ _ _ _ => false) (fun _ _ _ _ _ => fun _ _ _ _ _ => false) (fun _ _ _ _ _ => false) (fun _ _ _ => fun _ _ _ _ _ => false) (fun _ _ _ _ _ => false) (fun _ _ => fun _ _ _ _ _ => false) (fun _ _ => fun _ _ _ _ _ => false) (fun _ => fun _ _ _ _ _ => false) (fun _ _ => fun _ _ _ _ _ => false) (fun _ _ => fun _ _ _ _ _ => false) ⟨⟩ (fun _ _ _ _ => ⟨⟩))
noncomputable def avEqF : AV → AV → Bool → Bool := (@AV.rec (fun _ => AV → Bool → Bool) (fun _ => PUnit) (fun x y _ => eB2 y x) (fun k n y _ => eI2 y k n) (fun _ _ => fun _ fb => fb) (fun _ fb => fb) (fun b o y _ => eP2 y b o) (fun _ fb => fb) (fun b o l c p y _ => eSl2 y b o l c p) (fun _ fb => fb) (fun _ fb => fb) (fun _ => fun _ fb => fb) (fun _ _ _ _ _ => fun _ fb => fb) (fun _ fb => fb) (fun _ _ _ => fun _ fb => fb) (fun _ fb => fb) (fun _ _ => fun _ fb => fb) (fun _ _ => fun _ fb => fb) (fun _ => fun _ fb => fb) (fun _ _ => fun _ fb => fb) (fun _ _ => fun _ fb => fb) ⟨⟩ (fun _ _ _ _ => ⟨⟩))
theorem bxor_eq {x x' : Bool} (h : Bool.rec (motive := fun _ => Bool) (notF x') x' x = true) : x = x' := by cases x <;> cases x' <;> first | rfl | cases h
theorem avEqF_ok {x y : AV} (h : avEqF x y (avEq x y) = true) : x = y := by
  cases x with
  | i k n =>
    have g : eI2 y k n = true := h
    clear h
    cases y <;> try (cases g; done)
    rename_i k' n'
    have h : andF (kIs k k') (eqF n n') = true := g
    rw [andF_eq, kIs_eq, eqF_eq, Bool.and_eq_true] at h
    have h2 := h.2
    rw [ieq_eq] at h2
    rw [of_decide_eq_true h.1, eq_of_beq h2]
  | p b o =>
    have g : eP2 y b o = true := h
    clear h
    cases y <;> try (cases g; done)
    rename_i b' o'
    have h : andF (Nat.beq b b') (Nat.beq o o') = true := g
    rw [andF_eq, Bool.and_eq_true] at h
    rw [beq_true h.1, beq_true h.2]
  | b x =>
    have g : eB2 y x = true := h
    clear h
    cases y <;> try (cases g; done)
    rename_i x'
    rw [bxor_eq (x := x) (x' := x') g]
  | sl b o l c p =>
    have g : eSl2 y b o l c p = true := h
    clear h
    cases y <;> try (cases g; done)
    rename_i b' o' l' c' p'
    have h : andF (Nat.beq b b') (andF (Nat.beq o o') (andF (Nat.beq l l') (andF (Nat.beq c c') (Bool.rec (motive := fun _ => Bool) (notF p') p' p)))) = true := g
    simp only [andF_eq, Bool.and_eq_true] at h
    obtain ⟨h1, h2, h3, h4, h5⟩ := h
    rw [beq_true h1, beq_true h2, beq_true h3, beq_true h4, bxor_eq h5]
  | _ => exact avEq_ok _ _ h
noncomputable def eqO (x : Option AV) (v : AV) : Bool := Option.rec (motive := fun _ => Bool) false (fun v' => avEqF v' v (avEq v' v)) x
theorem eqO_ok {x : Option AV} {v : AV} (h : eqO x v = true) : x = some v := by
  cases x with
  | none => cases h
  | some v' => rw [avEqF_ok h]
abbrev DG := Cl (Fns → TT AV → Heap → List ME → Option (TT AV × Heap))
noncomputable def drdK (c : Nat) (rd : Cl (Heap → TT AV → Option AV)) (dep : Bool) (st : Cl (TT AV → AV → TT AV)) (slow k : DG) : DG :=
  bif dep then ⟨fun ih T H M => Option.rec (motive := fun _ => Option (TT AV × Heap)) (slow.run ih T H M) (fun v => k.run ih (st.run T v) H (⟨c, fun H' => eqO (rd.run H' T) v⟩ :: M)) (rd.run H T)⟩
  else ⟨fun ih T H M => Option.rec (motive := fun _ => Option (TT AV × Heap)) (slow.run ih T H M) (fun v => k.run ih (st.run T v) H M) (rd.run H T)⟩
noncomputable def dmvK (c1 : Cl (TT AV → Option AV)) (dep : Bool) (st : Cl (TT AV → AV → TT AV)) (slow k : DG) : DG :=
  bif dep then slow
  else ⟨fun ih T H M => Option.rec (motive := fun _ => Option (TT AV × Heap)) (slow.run ih T H M) (fun v => k.run ih (st.run T v) H M) (c1.run T)⟩
noncomputable def dslow (P : Program) (ng ro c : Nat) (o : Oper) (rs : Cl (TT AV → TT AV)) (st : Cl (TT AV → AV → TT AV)) (k : DG) : DG :=
  ⟨fun ih T H M => match ard P ng H (rs.run T) o with
    | some v => k.run ih (st.run T v) H (⟨c, fun H' => eqO (ard P ng H' (rs.run T) o) v⟩ :: M)
    | none => match aal P ng (rs.run T) o with
      | some (ob, mk) => k.run ih (st.run T (mk.val H.nx)) (H.push ob) (⟨c, fun H' => match H'.t.get H.nx with | some o => AO.beq o ob | none => false⟩ :: M)
      | none => match cvW P ng ro H (rs.run T) o with
        | some v => k.run ih (st.run T v) H (⟨c, fun H' => eqO (cvW P ng ro H' (rs.run T) o) v⟩ :: M)
        | none => none⟩
noncomputable def wrD (op : Cl (Fns → TT AV → Heap → Option (AV × Heap))) (pmc : Nat) (st : Cl (TT AV → AV → TT AV)) (k : DG) : DG :=
  ⟨fun ih T H M => Option.rec (motive := fun _ => Option (TT AV × Heap)) none (fun p => Prod.rec (motive := fun _ => Option (TT AV × Heap)) (fun v H' => Bool.rec (motive := fun _ => Option (TT AV × Heap)) none (k.run ih (st.run T v) H' (keepM pmc M)) (allM H' (keepM pmc M))) p) (op.run ih T H)⟩
/-- a writer: as a closure of the frame where it is one, else at what the operation looks at -/
noncomputable def opD (P : Program) (ng ro : Nat) (o : Oper) (rs : Cl (TT AV → TT AV)) : Cl (Fns → TT AV → Heap → Option (AV × Heap)) :=
  bif direct P o.op then
    match kindC P ng ro o with
    | .mv _ => ⟨fun ih T H => opX P ng ro ih.ca ih.yi o (rs.run T) H⟩
    | .rd _ => ⟨fun ih T H => opX P ng ro ih.ca ih.yi o (rs.run T) H⟩
    | .wr c => ⟨fun ih T H => Option.rec (motive := fun _ => Option (AV × Heap)) (opX P ng ro ih.ca ih.yi o (rs.run T) H) (fun H' => some (.tu [], H')) (c.run H T)⟩
    | .gen c => ⟨fun ih T H => Option.rec (motive := fun _ => Option (AV × Heap)) (opX P ng ro ih.ca ih.yi o (rs.run T) H) some (c.run ih T H)⟩
  else match kindC P ng ro o with
    | .gen c => ⟨fun ih T H => Option.rec (motive := fun _ => Option (AV × Heap)) (opX P ng ro ih.ca ih.yi o (rs.run T) H) some (c.run ih (rs.run T) H)⟩
    | _ => ⟨fun ih T H => opX P ng ro ih.ca ih.yi o (rs.run T) H⟩
theorem opD_some {o : Oper} {rs : Cl (TT AV → TT AV)} (hrs : ∀ T, rs.run T = restr T (o.looksAt ops)) {ih : Fns} {T : TT AV} {H : Heap} {r : AV × Heap} (h : (opD P ng ro o rs).run ih T H = some r) : opX P ng ro ih.ca ih.yi o (restr T (o.looksAt ops)) H = some r := by
  have hk := kindC_ok (P := P) (ng := ng) (ro := ro) o
  unfold opD at h
  cases hd : direct P o.op with
  | true =>
    have hs := kindC_slot (P := P) (ng := ng) (ro := ro) o hd
    rw [hd] at h
    cases hq : kindC P ng ro o with
    | mv c => rw [hq] at h; rw [← hrs]; exact h
    | rd c => rw [hq] at h; rw [← hrs]; exact h
    | wr c =>
      rw [hq] at h hk hs
      have h : Option.rec (motive := fun _ => Option (AV × Heap)) (opX P ng ro ih.ca ih.yi o (rs.run T) H) (fun H' => some (.tu [], H')) (c.run H T) = some r := h
      cases hc : c.run H T with
      | none => rw [hc] at h; rw [← hrs]; exact h
      | some H1 =>
        rw [hc] at h
        have h2 := hs H (restr T (o.looksAt ops)) T fun x hx => ev_restr hx
        rw [hc] at h2
        cases h
        exact hk ih _ _ _ h2
    | gen c =>
      rw [hq] at h hk hs
      have h : Option.rec (motive := fun _ => Option (AV × Heap)) (opX P ng ro ih.ca ih.yi o (rs.run T) H) some (c.run ih T H) = some r := h
      cases hc : c.run ih T H with
      | none => rw [hc] at h; rw [← hrs]; exact h
      | some q =>
        rw [hc] at h
        have h2 := hs ih H (restr T (o.looksAt ops)) T fun x hx => ev_restr hx
        rw [hc] at h2
        cases h
        exact hk ih _ _ _ h2
  | false =>
    rw [hd] at h
    cases hq : kindC P ng ro o with
    | mv c => rw [hq] at h; rw [← hrs]; exact h
    | rd c => rw [hq] at h; rw [← hrs]; exact h
    | wr c => rw [hq] at h; rw [← hrs]; exact h
    | gen c =>
      rw [hq] at h hk
      have h : Option.rec (motive := fun _ => Option (AV × Heap)) (opX P ng ro ih.ca ih.yi o (rs.run T) H) some (c.run ih (rs.run T) H) = some r := h
      rw [hrs] at h
      cases hc : c.run ih (restr T (o.looksAt ops)) H with
      | none => rw [hc] at h; exact h
      | some q => rw [hc] at h; cases h; exact hk ih _ _ _ hc
noncomputable def dstep (P : Program) (ng ro c pmc : Nat) (o : Oper) (rs : Cl (TT AV → TT AV)) (st : Cl (TT AV → AV → TT AV)) (k : DG) : DG :=
  bif isR o.op then
    bif direct P o.op then
      match kindC P ng ro o with
      | .mv c1 => dmvK c1 (depOf o.op) st (dslow P ng ro c o rs st k) k
      | .rd rd => drdK c rd (depOf o.op) st (dslow P ng ro c o rs st k) k
      | _ => dslow P ng ro c o rs st k
    else dslow P ng ro c o rs st k
  else wrD (opD P ng ro o rs) pmc st k
noncomputable def guardD (g : Cl (TT AV → Option Bool)) (st : Cl (TT AV → AV → TT AV)) (x k : DG) : DG :=
  ⟨fun ih T H M => Option.rec (motive := fun _ => Option (TT AV × Heap)) none (fun b => Bool.rec (motive := fun _ => Option (TT AV × Heap)) (k.run ih (st.run T (.tu [])) H M) (x.run ih T H M) b) (g.run T)⟩
noncomputable def dgoC (P : Program) (ng ro nt : Nat) (ops : Array Oper) (pm : List Nat) : List Nat → DG
  | [] => ⟨fun _ T H _ => some (T, H)⟩
  | c :: L => match ops[c]? with
    | none => ⟨fun _ _ _ _ => none⟩
    | some o => match stC nt o.dst with
      | none => ⟨fun _ _ _ _ => none⟩
      | some st => match o.guard with
        | none => dstep P ng ro c (pm.getD c 0) o (restrC (o.looksAt ops)) st (dgoC P ng ro nt ops pm L)
        | some _ => guardD (gdC ops o) st (dstep P ng ro c (pm.getD c 0) o (restrC (o.looksAt ops)) st (dgoC P ng ro nt ops pm L)) (dgoC P ng ro nt ops pm L)
theorem dgoC_ok {pm : List Nat} {ih : Fns} {T' : TT AV} {H' : Heap} : ∀ (L : List Nat) (T : TT AV) (H : Heap) (M : List ME) (Q : List PE), Red P ng ro M Q → (dgoC P ng ro nt ops pm L).run ih T H M = some (T', H') →
    dgo P ng ro nt (opX P ng ro ih.ca ih.yi) ops pm L T H Q = some (T', H')
  | [], T, H, M, Q, _, h => h
  | c :: L, T, H, M, Q, hr, h => by
    simp only [dgoC] at h
    simp only [dgo]
    cases ho : ops[c]? with
    | none => rw [ho] at h; cases h
    | some o =>
      rw [ho] at h
      simp only at h ⊢
      cases hst : stC nt o.dst with
      | none => rw [hst] at h; cases h
      | some st =>
        rw [hst] at h
        simp only at h
        have hput : ∀ v, putT nt T o.dst v = some (st.run T v) := fun v => stC_ok hst
        rw [gd_restr]
        have hskip : (dgoC P ng ro nt ops pm L).run ih (st.run T (.tu [])) H M = some (T', H') → gd ops T o = some false → dgo P ng ro nt (opX P ng ro ih.ca ih.yi) ops pm L (st.run T (.tu [])) H (⟨c, o, restr T (o.looksAt ops), .tu [], .skip⟩ :: Q) = some (T', H') := fun h _ =>
          dgoC_ok L _ _ M _ (.skip (fun _ => rfl) hr) h
        have hslow : (dslow P ng ro c o (restrC (o.looksAt ops)) st (dgoC P ng ro nt ops pm L)).run ih T H M = some (T', H') → (match ard P ng H (restr T (o.looksAt ops)) o with
            | some v => match putT nt T o.dst v with
              | some T' => dgo P ng ro nt (opX P ng ro ih.ca ih.yi) ops pm L T' H (⟨c, o, restr T (o.looksAt ops), v, .rd⟩ :: Q)
              | none => none
            | none => match aal P ng (restr T (o.looksAt ops)) o with
              | some (ob, mk) => match putT nt T o.dst (mk.val H.nx) with
                | some T' => dgo P ng ro nt (opX P ng ro ih.ca ih.yi) ops pm L T' (H.push ob) (⟨c, o, restr T (o.looksAt ops), mk.val H.nx, .al H.nx ob mk⟩ :: Q)
                | none => none
              | none => match cvW P ng ro H (restr T (o.looksAt ops)) o with
                | some v => match putT nt T o.dst v with
                  | some T' => dgo P ng ro nt (opX P ng ro ih.ca ih.yi) ops pm L T' H (⟨c, o, restr T (o.looksAt ops), v, .cv⟩ :: Q)
                  | none => none
                | none => none) = some (T', H') := fun h => by
          simp only [dslow, restrC_eq] at h
          simp only [hput]
          cases ha : ard P ng H (restr T (o.looksAt ops)) o with
          | some v =>
            rw [ha] at h
            refine dgoC_ok L _ _ _ _ (.both ⟨rfl, fun H' hc => ?_⟩ hr) h
            have := eqO_ok hc
            simp only [PE.again, this]
            exact avEq_self v
          | none =>
            rw [ha] at h
            simp only at h ⊢
            cases hl : aal P ng (restr T (o.looksAt ops)) o with
            | some p =>
              obtain ⟨ob, mk⟩ := p
              rw [hl] at h
              exact dgoC_ok L _ _ _ _ (.both ⟨rfl, fun H' hc => hc⟩ hr) h
            | none =>
              rw [hl] at h
              simp only at h ⊢
              cases hv : cvW P ng ro H (restr T (o.looksAt ops)) o with
              | some v =>
                rw [hv] at h
                refine dgoC_ok L _ _ _ _ (.both ⟨rfl, fun H' hc => ?_⟩ hr) h
                have := eqO_ok hc
                simp only [PE.again, this]
                exact avEq_self v
              | none => rw [hv] at h; cases h
        have hstep : (dstep P ng ro c (pm.getD c 0) o (restrC (o.looksAt ops)) st (dgoC P ng ro nt ops pm L)).run ih T H M = some (T', H') → (bif isR o.op then
            match ard P ng H (restr T (o.looksAt ops)) o with
            | some v => match putT nt T o.dst v with
              | some T' => dgo P ng ro nt (opX P ng ro ih.ca ih.yi) ops pm L T' H (⟨c, o, restr T (o.looksAt ops), v, .rd⟩ :: Q)
              | none => none
            | none => match aal P ng (restr T (o.looksAt ops)) o with
              | some (ob, mk) => match putT nt T o.dst (mk.val H.nx) with
                | some T' => dgo P ng ro nt (opX P ng ro ih.ca ih.yi) ops pm L T' (H.push ob) (⟨c, o, restr T (o.looksAt ops), mk.val H.nx, .al H.nx ob mk⟩ :: Q)
                | none => none
              | none => match cvW P ng ro H (restr T (o.looksAt ops)) o with
                | some v => match putT nt T o.dst v with
                  | some T' => dgo P ng ro nt (opX P ng ro ih.ca ih.yi) ops pm L T' H (⟨c, o, restr T (o.looksAt ops), v, .cv⟩ :: Q)
                  | none => none
                | none => none
          else match opX P ng ro ih.ca ih.yi o (restr T (o.looksAt ops)) H with
            | some (v, H') =>
              bif (keepQ (pm.getD c 0) Q).all (PE.again P ng ro H') then
                match putT nt T o.dst v with
                | some T' => dgo P ng ro nt (opX P ng ro ih.ca ih.yi) ops pm L T' H' (keepQ (pm.getD c 0) Q)
                | none => none
              else none
            | none => none) = some (T', H') := fun h => by
          unfold dstep at h
          cases hR : isR o.op with
          | true =>
            rw [hR] at h
            simp only [cond_true] at h ⊢
            cases hd : direct P o.op with
            | false => rw [hd] at h; exact hslow h
            | true =>
              rw [hd] at h
              simp only [cond_true] at h
              have hk := kindC_ok (P := P) (ng := ng) (ro := ro) o
              have hs := kindC_slot (P := P) (ng := ng) (ro := ro) o hd
              cases hq : kindC P ng ro o with
              | wr c1 => rw [hq] at h; exact hslow h
              | mv c1 =>
                rw [hq] at h hk hs
                simp only at h
                unfold dmvK at h
                cases hdep : depOf o.op with
                | true => rw [hdep] at h; exact hslow h
                | false =>
                  rw [hdep] at h
                  have h : Option.rec (motive := fun _ => Option (TT AV × Heap)) ((dslow P ng ro c o (restrC (o.looksAt ops)) st (dgoC P ng ro nt ops pm L)).run ih T H M) (fun v => (dgoC P ng ro nt ops pm L).run ih (st.run T v) H M) (c1.run T) = some (T', H') := h
                  cases hv : c1.run T with
                  | none => rw [hv] at h; exact hslow h
                  | some v =>
                    rw [hv] at h
                    have hrd : ∀ H, ard P ng H (restr T (o.looksAt ops)) o = some v := fun H => by
                      refine hk H _ v ?_
                      rw [hs (restr T (o.looksAt ops)) T fun x hx => ev_restr hx]; exact hv
                    simp only [hrd H, hput]
                    refine dgoC_ok L _ _ _ _ (.skip (fun H' => ?_) hr) h
                    simp only [PE.again, hrd H']
                    exact avEq_self v
              | gen c1 => rw [hq] at h; exact hslow h
              | rd rd =>
                rw [hq] at h hk hs
                simp only at h
                have hrd : ∀ H v, rd.run H T = some v → ard P ng H (restr T (o.looksAt ops)) o = some v := fun H v hv => by
                  refine hk H _ v ?_
                  rw [hs H (restr T (o.looksAt ops)) T fun x hx => ev_restr hx]; exact hv
                unfold drdK at h
                cases hdep : depOf o.op with
                | true =>
                  rw [hdep] at h
                  have h : Option.rec (motive := fun _ => Option (TT AV × Heap)) ((dslow P ng ro c o (restrC (o.looksAt ops)) st (dgoC P ng ro nt ops pm L)).run ih T H M) (fun v => (dgoC P ng ro nt ops pm L).run ih (st.run T v) H (⟨c, fun H' => eqO (rd.run H' T) v⟩ :: M)) (rd.run H T) = some (T', H') := h
                  cases hv : rd.run H T with
                  | none => rw [hv] at h; exact hslow h
                  | some v =>
                    rw [hv] at h
                    simp only [hrd H v hv, hput]
                    refine dgoC_ok L _ _ _ _ (.both ⟨rfl, fun H' hc => ?_⟩ hr) h
                    simp only [PE.again, hrd H' v (eqO_ok hc)]
                    exact avEq_self v
                | false =>
                  rw [hdep] at h
                  have h : Option.rec (motive := fun _ => Option (TT AV × Heap)) ((dslow P ng ro c o (restrC (o.looksAt ops)) st (dgoC P ng ro nt ops pm L)).run ih T H M) (fun v => (dgoC P ng ro nt ops pm L).run ih (st.run T v) H M) (rd.run H T) = some (T', H') := h
                  cases hv : rd.run H T with
                  | none => rw [hv] at h; exact hslow h
                  | some v =>
                    rw [hv] at h
                    simp only [hrd H v hv, hput]
                    refine dgoC_ok L _ _ _ _ (.skip (fun H' => ?_) hr) h
                    simp only [PE.again, ard_nodep hdep H' H, hrd H v hv]
                    exact avEq_self v
          | false =>
            rw [hR] at h
            simp only [cond_false] at h ⊢
            have h : Option.rec (motive := fun _ => Option (TT AV × Heap)) none (fun p => Prod.rec (motive := fun _ => Option (TT AV × Heap)) (fun v H' => Bool.rec (motive := fun _ => Option (TT AV × Heap)) none ((dgoC P ng ro nt ops pm L).run ih (st.run T v) H' (keepM (pm.getD c 0) M)) (allM H' (keepM (pm.getD c 0) M))) p) ((opD P ng ro o (restrC (o.looksAt ops))).run ih T H) = some (T', H') := h
            cases hv : (opD P ng ro o (restrC (o.looksAt ops))).run ih T H with
            | none => rw [hv] at h; cases h
            | some p =>
              obtain ⟨v, H1⟩ := p
              rw [hv] at h
              have h2 := opD_some (fun T => restrC_eq T _) hv
              simp only [h2]
              obtain ⟨h3, h4⟩ := brec_some h
              rw [allM_red (keepM_red hr) h3]
              simp only [cond_true, hput]
              exact dgoC_ok L _ _ _ _ (keepM_red hr) h4
        cases hg : o.guard with
        | none =>
          rw [hg] at h
          have e1 : gd ops T o = some true := by unfold gd; rw [hg]
          rw [e1]
          exact hstep h
        | some jw =>
          rw [hg] at h
          have h : Option.rec (motive := fun _ => Option (TT AV × Heap)) none (fun b => Bool.rec (motive := fun _ => Option (TT AV × Heap)) ((dgoC P ng ro nt ops pm L).run ih (st.run T (.tu [])) H M) ((dstep P ng ro c (pm.getD c 0) o (restrC (o.looksAt ops)) st (dgoC P ng ro nt ops pm L)).run ih T H M) b) ((gdC ops o).run T) = some (T', H') := h
          rw [gdC_eq] at h
          cases hb : gd ops T o with
          | none => rw [hb] at h; cases h
          | some b =>
            rw [hb] at h
            cases b with
            | true => exact hstep h
            | false => simp only [hput]; exact hskip h hb
end
end Go.Ai
/- Regions, code, calls as closures; the quick interpreter is right. -/
namespace Go.Ai
section
variable {P : Program} {env : Nat → Value} {ng ro nt N : Nat} {S : Sums}
abbrev GoC := Cl (Fns → TT AV → Heap → R0)
noncomputable def bR {α : Type} (x : Option α) (f : α → R0) : R0 := Option.rec (motive := fun _ => R0) .no f x
noncomputable def slowR (slow : Cl (Fns → TT AV → Heap → Option (AV × Heap))) (st : Cl (TT AV → AV → TT AV)) (k : GoC) (ih : Fns) (T : TT AV) (H : Heap) : R0 :=
  bR (slow.run ih T H) fun p => Prod.rec (motive := fun _ => R0) (fun v H' => k.run ih (st.run T v) H') p
noncomputable def kStep (o : OpK) (st : Cl (TT AV → AV → TT AV)) (slow : Cl (Fns → TT AV → Heap → Option (AV × Heap))) (k : GoC) : GoC :=
  match o with
  | .mv c => ⟨fun ih T H => Option.rec (motive := fun _ => R0) .no (fun v => k.run ih (st.run T v) H) (c.run T)⟩
  | .rd c => ⟨fun ih T H => Option.rec (motive := fun _ => R0) (slowR slow st k ih T H) (fun v => k.run ih (st.run T v) H) (c.run H T)⟩
  | .wr c => ⟨fun ih T H => Option.rec (motive := fun _ => R0) (slowR slow st k ih T H) (fun H' => k.run ih (st.run T (.tu [])) H') (c.run H T)⟩
  | .gen c => ⟨fun ih T H => Option.rec (motive := fun _ => R0) (slowR slow st k ih T H) (fun p => Prod.rec (motive := fun _ => R0) (fun v H' => k.run ih (st.run T v) H') p) (c.run ih T H)⟩
theorem kStep_ok {o : Oper} {q : OpK} {st : Cl (TT AV → AV → TT AV)} {k : GoC} {ih : Fns} {T T' : TT AV} {H H' : Heap} {e : Ex} (hq : KindOK P ng ro o q)
    (h : (kStep q st ⟨fun ih T H => opX P ng ro ih.ca ih.yi o T H⟩ k).run ih T H = .ok e T' H') : ∃ v H1, opX P ng ro ih.ca ih.yi o T H = some (v, H1) ∧ k.run ih (st.run T v) H1 = .ok e T' H' := by
  have hs : slowR ⟨fun ih T H => opX P ng ro ih.ca ih.yi o T H⟩ st k ih T H = .ok e T' H' → ∃ v H1, opX P ng ro ih.ca ih.yi o T H = some (v, H1) ∧ k.run ih (st.run T v) H1 = .ok e T' H' := fun h => by
    have h : bR (opX P ng ro ih.ca ih.yi o T H) (fun p => Prod.rec (motive := fun _ => R0) (fun v H' => k.run ih (st.run T v) H') p) = .ok e T' H' := h
    cases hx : opX P ng ro ih.ca ih.yi o T H with
    | none => rw [hx] at h; cases h
    | some p => rw [hx] at h; obtain ⟨v, H1⟩ := p; exact ⟨v, H1, rfl, h⟩
  cases q with
  | mv c =>
    have h : Option.rec (motive := fun _ => R0) .no (fun v => k.run ih (st.run T v) H) (c.run T) = .ok e T' H' := h
    cases hx : c.run T with
    | none => rw [hx] at h; cases h
    | some v => rw [hx] at h; exact ⟨v, H, opX_of_ard (hq H T v hx), h⟩
  | rd c =>
    have h : Option.rec (motive := fun _ => R0) (slowR ⟨fun ih T H => opX P ng ro ih.ca ih.yi o T H⟩ st k ih T H) (fun v => k.run ih (st.run T v) H) (c.run H T) = .ok e T' H' := h
    cases hx : c.run H T with
    | none => rw [hx] at h; exact hs h
    | some v => rw [hx] at h; exact ⟨v, H, opX_of_ard (hq H T v hx), h⟩
  | wr c =>
    have h : Option.rec (motive := fun _ => R0) (slowR ⟨fun ih T H => opX P ng ro ih.ca ih.yi o T H⟩ st k ih T H) (fun H' => k.run ih (st.run T (.tu [])) H') (c.run H T) = .ok e T' H' := h
    cases hx : c.run H T with
    | none => rw [hx] at h; exact hs h
    | some H1 => rw [hx] at h; exact ⟨_, H1, hq ih T H H1 hx, h⟩
  | gen c =>
    have h : Option.rec (motive := fun _ => R0) (slowR ⟨fun ih T H => opX P ng ro ih.ca ih.yi o T H⟩ st k ih T H) (fun p => Prod.rec (motive := fun _ => R0) (fun v H' => k.run ih (st.run T v) H') p) (c.run ih T H) = .ok e T' H' := h
    cases hx : c.run ih T H with
    | none => rw [hx] at h; exact hs h
    | some p => rw [hx] at h; obtain ⟨v, H1⟩ := p; exact ⟨v, H1, hq ih T H _ hx, h⟩
noncomputable def guardC (g : Cl (TT AV → Option Bool)) (st : Cl (TT AV → AV → TT AV)) (x k : GoC) : GoC :=
  ⟨fun ih T H => bR (g.run T) fun b => Bool.rec (motive := fun _ => R0) (k.run ih (st.run T (.tu [])) H) (x.run ih T H) b⟩
noncomputable def stepO (P : Program) (ng ro nt : Nat) (ops : Array Oper) (o : Oper) (k : GoC) : GoC :=
  match stC nt o.dst with
  | none => ⟨fun _ _ _ => .no⟩
  | some st => match o.guard with
    | none => kStep (kindC P ng ro o) st ⟨fun ih T H => opX P ng ro ih.ca ih.yi o T H⟩ k
    | some _ => guardC (gdC ops o) st (kStep (kindC P ng ro o) st ⟨fun ih T H => opX P ng ro ih.ca ih.yi o T H⟩ k) k
noncomputable def sgoC (P : Program) (ng ro nt : Nat) (ops : Array Oper) : List Oper → GoC
  | [] => ⟨fun _ T H => .ok .normal T H⟩
  | o :: l => stepO P ng ro nt ops o (sgoC P ng ro nt ops l)
theorem sgoC_ok {ops : Array Oper} {ih : Fns} {e : Ex} {T' : TT AV} {H' : Heap} : ∀ (l : List Oper) (T : TT AV) (H : Heap), (sgoC P ng ro nt ops l).run ih T H = .ok e T' H' → sgo nt (opX P ng ro ih.ca ih.yi) ops l T H = .ok e T' H'
  | [], T, H, h => h
  | o :: l, T, H, h => by
    simp only [sgoC] at h
    unfold stepO at h
    simp only [sgo]
    cases hst : stC nt o.dst with
    | none => rw [hst] at h; cases h
    | some st =>
      rw [hst] at h
      simp only at h
      have key : (kStep (kindC P ng ro o) st ⟨fun ih T H => opX P ng ro ih.ca ih.yi o T H⟩ (sgoC P ng ro nt ops l)).run ih T H = .ok e T' H' → (match opX P ng ro ih.ca ih.yi o T H with
          | some (v, H') => match putT nt T o.dst v with
            | some T' => sgo nt (opX P ng ro ih.ca ih.yi) ops l T' H'
            | none => .no
          | none => .no) = .ok e T' H' := fun h => by
        obtain ⟨v, H1, h1, h2⟩ := kStep_ok (kindC_ok o) h
        simp only [h1, stC_ok hst]
        exact sgoC_ok l _ _ h2
      cases hg : o.guard with
      | none =>
        rw [hg] at h
        have e1 : gd ops T o = some true := by unfold gd; rw [hg]
        simp only [e1]
        exact key h
      | some jw =>
        rw [hg] at h
        have h : bR ((gdC ops o).run T) (fun b => Bool.rec (motive := fun _ => R0) ((sgoC P ng ro nt ops l).run ih (st.run T (.tu [])) H) ((kStep (kindC P ng ro o) st ⟨fun ih T H => opX P ng ro ih.ca ih.yi o T H⟩ (sgoC P ng ro nt ops l)).run ih T H) b) = .ok e T' H' := h
        rw [gdC_eq] at h
        cases hb : gd ops T o with
        | none => rw [hb] at h; cases h
        | some b =>
          rw [hb] at h
          cases b with
          | true => exact key h
          | false =>
            simp only [stC_ok hst]
            exact sgoC_ok l _ _ h

/-! code -/
noncomputable def seqC (A B : GoC) : GoC :=
  ⟨fun ih T H => @R0.rec (fun _ => R0) (fun e T' H' => @Ex.rec (fun _ => R0) (B.run ih T' H') (fun id => .ok (.exit id) T' H') (fun l => .ok (.goto l) T' H') (.ok .ret T' H') e) .no (A.run ih T H)⟩
noncomputable def boolR : AV → R0 → R0 → R0 := (@AV.rec (fun _ => R0 → R0 → R0) (fun _ => PUnit) (fun x p q => Bool.rec (motive := fun _ => R0) q p x) (fun _ _ => fun _ _ => .no) (fun _ _ => fun _ _ => .no) (fun _ _ => .no) (fun _ _ => fun _ _ => .no) (fun _ _ => .no) (fun _ _ _ _ _ => fun _ _ => .no) (fun _ _ => .no) (fun _ _ => .no) (fun _ => fun _ _ => .no) (fun _ _ _ _ _ => fun _ _ => .no) (fun _ _ => .no) (fun _ _ _ => fun _ _ => .no) (fun _ _ => .no) (fun _ _ => fun _ _ => .no) (fun _ _ => fun _ _ => .no) (fun _ => fun _ _ => .no) (fun _ _ => fun _ _ => .no) (fun _ _ => fun _ _ => .no) ⟨⟩ (fun _ _ _ _ => ⟨⟩))
noncomputable def condC (c : Cl (TT AV → Option AV)) (A B : GoC) : GoC :=
  ⟨fun ih T H => bR (c.run T) fun v => boolR v (A.run ih T H) (B.run ih T H)⟩
noncomputable def blockC (id : Nat) (A : GoC) : GoC :=
  ⟨fun ih T H => @R0.rec (fun _ => R0) (fun e T' H' => @Ex.rec (fun _ => R0) (.ok .normal T' H') (fun id' => Bool.rec (motive := fun _ => R0) (.ok (.exit id') T' H') (.ok .normal T' H') (Nat.beq id' id)) (fun l => .ok (.goto l) T' H') (.ok .ret T' H') e) .no (A.run ih T H)⟩
noncomputable def scopeC (A : GoC) : GoC :=
  ⟨fun ih T H => @R0.rec (fun _ => R0) (fun e T' H' => @Ex.rec (fun _ => R0) (.ok .normal T' H') (fun id => .ok (.exit id) T' H') (fun _ => .no) (.ok .ret T' H') e) .no (A.run ih T H)⟩
noncomputable def loopB (A : GoC) (again : TT AV → Heap → R0) (ih : Fns) (T : TT AV) (H : Heap) : R0 :=
  @R0.rec (fun _ => R0) (fun e T' H' => @Ex.rec (fun _ => R0) (again T' H') (fun id => .ok (.exit id) T' H') (fun l => .ok (.goto l) T' H') (.ok .ret T' H') e) .no (A.run ih T H)
noncomputable def loopN (A : GoC) (ih : Fns) (n : Nat) : TT AV → Heap → R0 :=
  @Nat.rec (fun _ => TT AV → Heap → R0) (fun _ _ => .no) (fun _ again T H => loopB A again ih T H) n
noncomputable def loopC (N : Nat) (A : GoC) : GoC := ⟨fun ih T H => loopN A ih N T H⟩
noncomputable def regC (P : Program) (ng ro nt : Nat) (ops : Array Oper) : GoC :=
  bif planOk P ops (planOf P ops) then ⟨fun ih T H => Option.rec (motive := fun _ => R0) .no (fun p => Prod.rec (motive := fun _ => R0) (fun T' H' => .ok .normal T' H') p) ((dgoC P ng ro nt ops (planOf P ops).pm (planOf P ops).L).run ih T H [])⟩
  else ⟨fun _ _ _ => .no⟩
theorem regC_ok {ops : Array Oper} {ih : Fns} {T T' : TT AV} {H H' : Heap} {e : Ex} (h : (regC P ng ro nt ops).run ih T H = .ok e T' H') : regX P ng ro nt (opX P ng ro ih.ca ih.yi) ops T H = .ok e T' H' := by
  unfold regC at h
  unfold regX
  cases hp : planOk P ops (planOf P ops) with
  | false => rw [hp] at h; cases h
  | true =>
    rw [hp] at h
    have h : Option.rec (motive := fun _ => R0) .no (fun p => Prod.rec (motive := fun _ => R0) (fun T' H' => .ok .normal T' H') p) ((dgoC P ng ro nt ops (planOf P ops).pm (planOf P ops).L).run ih T H []) = .ok e T' H' := h
    simp only [cond_true]
    cases hd : (dgoC P ng ro nt ops (planOf P ops).pm (planOf P ops).L).run ih T H [] with
    | none => rw [hd] at h; cases h
    | some p =>
      obtain ⟨T1, H1⟩ := p
      rw [hd] at h
      rw [dgoC_ok _ _ _ _ [] .nil hd]
      exact h
noncomputable def cdC (P : Program) (ng ro N nt : Nat) (c : Code) : GoC :=
  @Code.rec (fun _ => GoC) ⟨fun _ T H => .ok .normal T H⟩
    (fun _ ops d => bif d then regC P ng ro nt ops else sgoC P ng ro nt ops ops.toList)
    (fun _ _ a b => seqC a b) (fun c _ _ a b => condC (evC ng c) a b) (fun id _ a => blockC id a) (fun _ a => loopC N a)
    (fun g ps as bd _ _ => ⟨fun ih T H => rfX P ng ro ih nt g ps as bd T H⟩) (fun id => ⟨fun _ T H => .ok (.exit id) T H⟩) (fun _ a => scopeC a)
    (fun _ => ⟨fun _ T H => .ok .normal T H⟩) (fun l => ⟨fun _ T H => .ok (.goto l) T H⟩) ⟨fun _ T H => .ok .ret T H⟩ (fun _ => ⟨fun _ _ _ => .no⟩) c

/-! it is right -/
def CodeOK (P : Program) (env : Nat → Value) (ro ng nt : Nat) (code : Code) (f : TT AV → Heap → R0) : Prop :=
  ∀ (rd : Option Nat) (n0 : MK) (T : TT AV) (H : Heap) (ρ : Ren) (a : Act) (w : World) (e : Ex) (T' : TT AV) (H' : Heap), Rel env ρ H w → GOK ng ρ → FR ρ env T a.tmps → a.tmps.size = nt → Marks n0 ρ H w a.defers →
    ((rd.isSome = true ∨ n0.2.isSome = true) → noRF code = true) → f T H = .ok e T' H' →
    code.wpIn (Fc rd) 0 P (Post env ro ng nt n0 ρ H w e T' H') a w ∧ ∀ c, code = .loop c → LoopWp rd P c (Post env ro ng nt n0 ρ H w e T' H') a w
theorem ExOK.code {ex : Nat → Code → TT AV → Heap → R0} (h : ExOK P env ro ng ex) (nt : Nat) (c : Code) : CodeOK P env ro ng nt c (ex nt c) := fun rd n0 T H ρ a w e T' H' => h rd nt n0 c T H ρ a w e T' H'
theorem ExOK.of_code {ex : Nat → Code → TT AV → Heap → R0} (h : ∀ nt c, CodeOK P env ro ng nt c (ex nt c)) : ExOK P env ro ng ex := fun rd nt n0 c T H ρ a w e T' H' => h nt c rd n0 T H ρ a w e T' H'
theorem CodeOK.imp {c : Code} {f g : TT AV → Heap → R0} (h : CodeOK P env ro ng nt c f) (hi : ∀ T H e T' H', g T H = .ok e T' H' → f T H = .ok e T' H') : CodeOK P env ro ng nt c g := fun rd n0 T H ρ a w e T' H' h1 h2 h3 h4 h5 h6 h7 => h rd n0 T H ρ a w e T' H' h1 h2 h3 h4 h5 h6 (hi _ _ _ _ _ h7)
theorem CodeOK.no {c : Code} : CodeOK P env ro ng nt c (fun _ _ => .no) := fun _ _ _ _ _ _ _ _ _ _ _ _ _ _ _ _ h => by cases h
open Classical in
/-- one piece of code, at pieces that are right -/
theorem code_step (hN : NamesOK P) (hm : P.follows .mixedOrders = true) {ih : Fns} (hc : CallOK P env ro ng ih.ca) (hy : YieldOK P env ro ng ih.yi) (c : Code) (g : Code → TT AV → Heap → R0) (hg : ∀ c', CodeOK P env ro ng nt c' (g c')) :
    CodeOK P env ro ng nt c (exX P ng ro ⟨fun nt' c' T H => if nt' = nt then g c' T H else .no, ih.ca, ih.yi⟩ nt c) := by
  refine ExOK.code (ex := exX P ng ro ⟨fun nt' c' T H => if nt' = nt then g c' T H else .no, ih.ca, ih.yi⟩) (exX_ok hN hm ⟨hc, hy, ExOK.of_code fun nt' c' => ?_⟩) nt c
  by_cases e : nt' = nt
  · subst e
    simp only [if_true]
    exact hg c'
  · simp only [if_neg e]
    exact CodeOK.no
open Classical in
theorem cdC_ok (hN : NamesOK P) (hm : P.follows .mixedOrders = true) {ih : Fns} (hc : CallOK P env ro ng ih.ca) (hy : YieldOK P env ro ng ih.yi) : ∀ c : Code, CodeOK P env ro ng nt c ((cdC P ng ro N nt c).run ih) := by
  have st := fun c g hg => code_step (nt := nt) hN hm hc hy c g hg
  have st0 := fun c => st c (fun _ _ _ => .no) fun _ => CodeOK.no
  intro c
  induction c with
  | skip => exact (st0 .skip).imp fun T H e T' H' h => h
  | label l => exact (st0 (.label l)).imp fun T H e T' H' h => h
  | exit id => exact (st0 (.exit id)).imp fun T H e T' H' h => h
  | goto l => exact (st0 (.goto l)).imp fun T H e T' H' h => h
  | ret => exact (st0 .ret).imp fun T H e T' H' h => h
  | refuse why => exact (st0 (.refuse why)).imp fun T H e T' H' h => h
  | rangeFunc g ps as bd _ _ => exact (st0 (.rangeFunc g ps as bd)).imp fun T H e T' H' h => h
  | region id ops d =>
    cases d with
    | true => exact (st0 (.region id ops true)).imp fun T H e T' H' h => (regC_ok (ih := ih) h :)
    | false => exact (st0 (.region id ops false)).imp fun T H e T' H' h => (sgoC_ok (ih := ih) (e := e) (T' := T') (H' := H') ops.toList T H h :)
  | seq a b iha ihb =>
    refine (st (.seq a b) (fun c' => if c' = a then (cdC P ng ro N nt a).run ih else if c' = b then (cdC P ng ro N nt b).run ih else fun _ _ => .no) fun c' => ?_).imp fun T H e T' H' h => ?_
    · by_cases e1 : c' = a
      · subst e1; simp only [if_true]; exact iha
      · by_cases e2 : c' = b
        · subst e2; simp only [if_neg e1, if_true]; exact ihb
        · simp only [if_neg e1, if_neg e2]; exact CodeOK.no
    · have hB : (if b = a then (cdC P ng ro N nt a).run ih else (cdC P ng ro N nt b).run ih) = (cdC P ng ro N nt b).run ih := by
        by_cases e1 : b = a
        · rw [if_pos e1, e1]
        · rw [if_neg e1]
      have h : @R0.rec (fun _ => R0) (fun e T' H' => @Ex.rec (fun _ => R0) ((cdC P ng ro N nt b).run ih T' H') (fun id => .ok (.exit id) T' H') (fun l => .ok (.goto l) T' H') (.ok .ret T' H') e) .no ((cdC P ng ro N nt a).run ih T H) = .ok e T' H' := h
      simp only [exX, if_true]
      cases hx : (cdC P ng ro N nt a).run ih T H with
      | no => rw [hx] at h; cases h
      | ok e1 T1 H1 =>
        rw [hx] at h
        cases e1 with
        | normal => simp only [hB]; exact h
        | _ => exact h
  | cond c a b iha ihb =>
    refine (st (.cond c a b) (fun c' => if c' = a then (cdC P ng ro N nt a).run ih else if c' = b then (cdC P ng ro N nt b).run ih else fun _ _ => .no) fun c' => ?_).imp fun T H e T' H' h => ?_
    · by_cases e1 : c' = a
      · subst e1; simp only [if_true]; exact iha
      · by_cases e2 : c' = b
        · subst e2; simp only [if_neg e1, if_true]; exact ihb
        · simp only [if_neg e1, if_neg e2]; exact CodeOK.no
    · have hB : (if b = a then (cdC P ng ro N nt a).run ih else (cdC P ng ro N nt b).run ih) = (cdC P ng ro N nt b).run ih := by
        by_cases e1 : b = a
        · rw [if_pos e1, e1]
        · rw [if_neg e1]
      have h : bR ((evC ng c).run T) (fun v => boolR v ((cdC P ng ro N nt a).run ih T H) ((cdC P ng ro N nt b).run ih T H)) = .ok e T' H' := h
      rw [evC_eq] at h
      simp only [exX, if_true]
      cases hx : ev ng T c with
      | none => rw [hx] at h; cases h
      | some v =>
        rw [hx] at h
        cases v with
        | b x => cases x with
          | true => exact h
          | false => simp only [hB]; exact h
        | _ => cases h
  | block id a iha =>
    refine (st (.block id a) (fun c' => if c' = a then (cdC P ng ro N nt a).run ih else fun _ _ => .no) fun c' => ?_).imp fun T H e T' H' h => ?_
    · by_cases e1 : c' = a
      · subst e1; simp only [if_true]; exact iha
      · simp only [if_neg e1]; exact CodeOK.no
    · have h : @R0.rec (fun _ => R0) (fun e T' H' => @Ex.rec (fun _ => R0) (.ok .normal T' H') (fun id' => Bool.rec (motive := fun _ => R0) (.ok (.exit id') T' H') (.ok .normal T' H') (Nat.beq id' id)) (fun l => .ok (.goto l) T' H') (.ok .ret T' H') e) .no ((cdC P ng ro N nt a).run ih T H) = .ok e T' H' := h
      simp only [exX, if_true]
      cases hx : (cdC P ng ro N nt a).run ih T H with
      | no => rw [hx] at h; cases h
      | ok e1 T1 H1 =>
        rw [hx] at h
        cases e1 with
        | exit id' =>
          simp only []
          cases hb : Nat.beq id' id with
          | true => simp only [hb] at h; exact h
          | false => simp only [hb] at h; exact h
        | _ => exact h
  | scope a iha =>
    refine (st (.scope a) (fun c' => if c' = a then (cdC P ng ro N nt a).run ih else fun _ _ => .no) fun c' => ?_).imp fun T H e T' H' h => ?_
    · by_cases e1 : c' = a
      · subst e1; simp only [if_true]; exact iha
      · simp only [if_neg e1]; exact CodeOK.no
    · have h : @R0.rec (fun _ => R0) (fun e T' H' => @Ex.rec (fun _ => R0) (.ok .normal T' H') (fun id => .ok (.exit id) T' H') (fun _ => .no) (.ok .ret T' H') e) .no ((cdC P ng ro N nt a).run ih T H) = .ok e T' H' := h
      simp only [exX, if_true]
      cases hx : (cdC P ng ro N nt a).run ih T H with
      | no => rw [hx] at h; cases h
      | ok e1 T1 H1 =>
        rw [hx] at h
        cases e1 with
        | goto l => cases h
        | _ => exact h
  | loop a iha =>
    have key : ∀ n, CodeOK P env ro ng nt (.loop a) (loopN (cdC P ng ro N nt a) ih n) := fun n => by
      induction n with
      | zero => exact CodeOK.no
      | succ n ihn =>
        refine (st (.loop a) (fun c' => if c' = a then (cdC P ng ro N nt a).run ih else if c' = .loop a then loopN (cdC P ng ro N nt a) ih n else fun _ _ => .no) fun c' => ?_).imp fun T H e T' H' h => ?_
        · by_cases e1 : c' = a
          · subst e1; simp only [if_true]; exact iha
          · by_cases e2 : c' = .loop a
            · subst e2; simp only [if_neg e1, if_true]; exact ihn
            · simp only [if_neg e1, if_neg e2]; exact CodeOK.no
        · have hne : (if Code.loop a = a then (cdC P ng ro N nt a).run ih else loopN (cdC P ng ro N nt a) ih n) = loopN (cdC P ng ro N nt a) ih n := by
            have e1 : Code.loop a ≠ a := fun e => by
              have h1 : SizeOf.sizeOf (Code.loop a) = SizeOf.sizeOf a := by rw [e]
              simp at h1
            rw [if_neg e1]
          have h : @R0.rec (fun _ => R0) (fun e T' H' => @Ex.rec (fun _ => R0) (loopN (cdC P ng ro N nt a) ih n T' H') (fun id => .ok (.exit id) T' H') (fun l => .ok (.goto l) T' H') (.ok .ret T' H') e) .no ((cdC P ng ro N nt a).run ih T H) = .ok e T' H' := h
          simp only [exX, if_true]
          cases hx : (cdC P ng ro N nt a).run ih T H with
          | no => rw [hx] at h; cases h
          | ok e1 T1 H1 =>
            rw [hx] at h
            cases e1 with
            | normal => simp only [hne]; exact h
            | _ => exact h
    exact key N

/-! calls -/
noncomputable def resC (P : Program) : List ResultVar → Cl (TT AV → Heap → Option (List AV))
  | [] => ⟨fun _ _ => some []⟩
  | .tmp t :: l => ⟨fun T H => bO ((getT t).run T) fun v => bO ((resC P l).run T H) fun vs => some (v :: vs)⟩
  | .cell a t :: l => ⟨fun T H => bO ((getT a).run T) fun x => bO ((loadC P t).run H x) fun v => bO ((resC P l).run T H) fun vs => some (v :: vs)⟩
theorem resC_some {T : TT AV} {H : Heap} : ∀ {l : List ResultVar} {vs : List AV}, (resC P l).run T H = some vs → resA P T H l = some vs
  | [], vs, h => h
  | .tmp t :: l, vs, h => by
    simp only [resC] at h
    obtain ⟨v, h1, h⟩ := bO_some h
    obtain ⟨us, h2, h⟩ := bO_some h
    rw [getT_eq] at h1
    simp only [resA, h1, resC_some h2]
    exact h
  | .cell a t :: l, vs, h => by
    simp only [resC] at h
    obtain ⟨x, h1, h⟩ := bO_some h
    obtain ⟨v, h2, h⟩ := bO_some h
    obtain ⟨us, h3, h⟩ := bO_some h
    rw [getT_eq] at h1
    simp only [resA, h1, loadC_some h2, resC_some h3]
    exact h
noncomputable def oneL : List AV → AV := fun l => @List.rec AV (fun _ => AV) (.tu []) (fun v r _ => @List.rec AV (fun _ => AV) v (fun _ _ _ => .tu l) r) l
theorem oneL_eq (l : List AV) : oneL l = oneOf l := by
  cases l with
  | nil => rfl
  | cons v r => cases r <;> rfl
noncomputable def finC (rs : Cl (TT AV → Heap → Option (List AV))) (r : R0) : Option (AV × Heap) :=
  @R0.rec (fun _ => Option (AV × Heap)) (fun e T H => @Ex.rec (fun _ => Option (AV × Heap)) (bO (rs.run T H) fun vs => some (oneL vs, H)) (fun _ => none) (fun _ => none) (bO (rs.run T H) fun vs => some (oneL vs, H)) e) none r
noncomputable def argF : List AV → Nat → TT AV → TT AV := @List.rec AV (fun _ => Nat → TT AV → TT AV) (fun _ T => T) (fun v _ ih i T => ih (Nat.succ i) ((setT i).run T v))
theorem argF_eq : ∀ (l : List AV) (i : Nat) (T : TT AV), argF l i T = argT i l T
  | [], i, T => rfl
  | v :: l, i, T => by
    show argF l (i + 1) ((setT i).run T v) = argT (i + 1) l (T.set v i)
    rw [setT_eq, argF_eq l]
noncomputable def lenF' : List AV → Nat := @List.rec AV (fun _ => Nat) 0 (fun _ _ n => Nat.succ n)
theorem lenF'_eq : ∀ l : List AV, lenF' l = l.length
  | [] => rfl
  | _ :: l => by
    show lenF' l + 1 = _
    rw [lenF'_eq l]; rfl
noncomputable def bodyC (P : Program) (ng ro N : Nat) (fn : Func) (c : Code) : Cl (Fns → List AV → Heap → Option (AV × Heap)) :=
  ⟨fun ih args H => Bool.rec (motive := fun _ => Option (AV × Heap)) none (finC (resC P fn.results.toList) ((cdC P ng ro N fn.ntmps c).run ih (argF args 0 .e) H)) (Nat.ble (lenF' args) fn.ntmps)⟩
noncomputable def funC (P : Program) (ng ro N : Nat) (f : FuncId) : Cl (Fns → List AV → Heap → Option (AV × Heap)) :=
  match P.funcs[f]? with
  | some fn => match fn.body with
    | some c => bodyC P ng ro N fn c
    | none => ⟨fun _ _ _ => none⟩
  | none => ⟨fun _ _ _ => none⟩
noncomputable def caC (P : Program) (ng ro N : Nat) (S : Sums) (f : FuncId) : Cl (Fns → List AV → Heap → Option (AV × Heap)) :=
  match S f with
  | some g => ⟨fun ih args H => Option.rec (motive := fun _ => Option (AV × Heap)) ((funC P ng ro N f).run ih args H) some (g args H)⟩
  | none => funC P ng ro N f
noncomputable def exF (P : Program) (ng ro N : Nat) (ih : Fns) : Fns := ⟨fun nt c T H => (cdC P ng ro N nt c).run ih T H, ih.ca, ih.yi⟩
theorem funC_some {ih : Fns} {f : FuncId} {args : List AV} {H : Heap} {r : AV × Heap} (h : (funC P ng ro N f).run ih args H = some r) : caB P (exF P ng ro N ih) f args H = some r := by
  unfold funC at h
  unfold caB
  split at h
  · rename_i fn hfn
    split at h
    · rename_i c hc
      have h : Bool.rec (motive := fun _ => Option (AV × Heap)) none (finC (resC P fn.results.toList) ((cdC P ng ro N fn.ntmps c).run ih (argF args 0 .e) H)) (Nat.ble (lenF' args) fn.ntmps) = some r := h
      rw [argF_eq, lenF'_eq] at h
      obtain ⟨h1, h⟩ := brec_some h
      have h1 := ble_true h1
      have hnt : args.length + (fn.ntmps - args.length) = fn.ntmps := by omega
      simp only [hfn, hc, hnt]
      show finX P fn ((cdC P ng ro N fn.ntmps c).run ih (argT 0 args .e) H) = some r
      generalize (cdC P ng ro N fn.ntmps c).run ih (argT 0 args .e) H = R at h ⊢
      cases R with
      | no => cases h
      | ok e T1 H1 =>
        have fin : bO ((resC P fn.results.toList).run T1 H1) (fun vs => some (oneL vs, H1)) = some r → (match resA P T1 H1 fn.results.toList with | some vs => some (oneOf vs, H1) | none => none) = some r := fun h => by
          obtain ⟨vs, h2, h⟩ := bO_some h
          rw [oneL_eq] at h
          simp only [resC_some h2]
          exact h
        cases e with
        | normal => exact fin h
        | ret => exact fin h
        | _ => cases h
    · cases h
  · cases h
theorem caC_some {ih : Fns} {f : FuncId} {args : List AV} {H : Heap} {r : AV × Heap} (h : (caC P ng ro N S f).run ih args H = some r) : caX P S (exF P ng ro N ih) f args H = some r := by
  unfold caC at h
  unfold caX
  cases hs : S f with
  | none => rw [hs] at h; exact funC_some h
  | some g =>
    rw [hs] at h
    have h : Option.rec (motive := fun _ => Option (AV × Heap)) ((funC P ng ro N f).run ih args H) some (g args H) = some r := h
    simp only
    cases hg : g args H with
    | none => rw [hg] at h; exact funC_some h
    | some q => rw [hg] at h; exact h
/-- the quick interpreter, with so much fuel for calls within calls -/
noncomputable def fnsC (P : Program) (ng ro N : Nat) (S : Sums) (n : Nat) : Fns :=
  Nat.rec ⟨fun _ _ _ _ => .no, fun _ _ _ => none, fun _ _ _ => none⟩ (fun _ ih => ⟨fun nt c T H => (cdC P ng ro N nt c).run ih T H, fun f args H => (caC P ng ro N S f).run ih args H, yiX ro (exF P ng ro N ih)⟩) n
/-- ████ THE QUICK INTERPRETER IS RIGHT ████ -/
theorem fnsC_ok (hN : NamesOK P) (hm : P.follows .mixedOrders = true) (hS : SumsOK P env ro ng S) : ∀ n, FnsOK P env ro ng (fnsC P ng ro N S n)
  | 0 => by
    refine ⟨fun f args us H w ρ v H' _ _ _ h => ?_, fun l args us H w ρ v H' _ _ _ h => ?_, fun rd nt n0 code T H ρ a w e T' H' _ _ _ _ _ _ h => ?_⟩
    · have h' : (none : Option (AV × Heap)) = some (v, H') := h
      cases h'
    · have h' : (none : Option (AV × Heap)) = some (v, H') := h
      cases h'
    · have h' : R0.no = R0.ok e T' H' := h
      cases h'
  | n + 1 => by
    have ih := fnsC_ok hN hm hS n
    have hex : ExOK P env ro ng (exF P ng ro N (fnsC P ng ro N S n)).ex := ExOK.of_code fun nt c => cdC_ok hN hm ih.ca ih.yi c
    have hF : FnsOK P env ro ng (exF P ng ro N (fnsC P ng ro N S n)) := ⟨ih.ca, ih.yi, hex⟩
    exact ⟨fun f args us H w ρ v H' h1 h2 h3 h4 => caX_ok hS hF f args us H w ρ v H' h1 h2 h3 (caC_some h4), yiX_ok hF, hex⟩
theorem exF_ok (hN : NamesOK P) (hm : P.follows .mixedOrders = true) (hS : SumsOK P env ro ng S) (n : Nat) : FnsOK P env ro ng (exF P ng ro N (fnsC P ng ro N S n)) := by
  have ih := fnsC_ok (N := N) hN hm hS n
  have hex : ExOK P env ro ng (exF P ng ro N (fnsC P ng ro N S n)).ex := ExOK.of_code fun nt c => cdC_ok hN hm ih.ca ih.yi c
  exact ⟨ih.ca, ih.yi, hex⟩
end
end Go.Ai
