/- Readers, the rest, and all of them together. -/
import Derived.Test.YtobdajealbhjmaaGreatDoorAa
namespace Go.Ai

section
variable {P : Program} {env : Nat → Value} {ρ : Ren} {H : Heap} {w : World} {ng : Nat} {T : TT AV} {a : Act}

/-! lengths -/
noncomputable def aLen (P : Program) (H : Heap) (t : TypeId) (x : AV) : Option AV :=
  match x with
  | .s l _ => match P.underlying t with
    | some .string => some (.i .i64 (.ofNat l))
    | _ => none
  | .sl _ _ len _ _ => match P.underlying t with
    | some (.slice _) => some (.i .i64 (.ofNat len))
    | _ => none
  | .sn | .se => match P.underlying t with
    | some (.slice _) => some (.i .i64 (.ofNat 0))
    | _ => none
  | .mn => match P.underlying t with
    | some (.map _ _) => some (.i .i64 (.ofNat 0))
    | _ => none
  | .sr _ _ => match P.underlying t with
    | some (.slice _) => some (.i .i64 (.ofNat 0))
    | _ => none
  | .m b => match P.underlying t with
    | some (.map _ _) => match H.t.get b with
      | some (.mp es _) => some (.i .i64 (.ofNat es.length))
      | _ => none
    | _ => none
  | _ => none
theorem ERs.length : ∀ {es : List (AV × AV × Nat)} {l : List MapEntry}, ERs ρ env es l → l.length = es.length
  | [], l, h => by cases h; rfl
  | (k, v, b) :: es, l, h => by obtain ⟨e, us, rfl, _, _, _, h5⟩ := h; simp [ERs.length h5]
theorem aLen_ok (r : Rel env ρ H w) {t ty : TypeId} {x : AV} {u : Value} {v : AV} (hu : VR ρ env x u) (h : aLen P H t x = some v) : ∃ y, (Builtin.len_ #[t] ty #[u]).run P w = .ok y w ∧ VR ρ env v y := by
  unfold aLen at h
  split at h
  · simp only [VR] at hu; subst hu
    split at h
    · rename_i ht; cases h; exact ⟨_, by simp [Builtin.len_, run_underlying ht, strV_size]; rfl, by simp [VR, goInt]⟩
    · cases h
  · simp only [VR] at hu; obtain ⟨c, x, hc, rfl⟩ := hu
    split at h
    · rename_i ht; cases h; exact ⟨_, by simp [Builtin.len_, run_underlying ht]; rfl, by simp [VR, goInt]⟩
    · cases h
  · simp only [VR] at hu; subst hu
    split at h
    · rename_i ht; cases h; exact ⟨_, by simp [Builtin.len_, run_underlying ht]; rfl, by simp [VR, goInt]⟩
    · cases h
  · simp only [VR] at hu; obtain ⟨c, x, rfl⟩ := hu
    split at h
    · rename_i ht; cases h; exact ⟨_, by simp [Builtin.len_, run_underlying ht]; rfl, by simp [VR, goInt]⟩
    · cases h
  · simp only [VR] at hu; subst hu
    split at h
    · rename_i ht; cases h; exact ⟨_, by simp [Builtin.len_, run_underlying ht]; rfl, by simp [VR, goInt]⟩
    · cases h
  · simp only [VR] at hu; obtain ⟨c, x, a, hc, rfl, _⟩ := hu
    split at h
    · rename_i ht; cases h; exact ⟨_, by simp [Builtin.len_, run_underlying ht]; rfl, by simp [VR, goInt]⟩
    · cases h
  · simp only [VR] at hu; obtain ⟨c, x, hc, rfl⟩ := hu
    split at h
    · rename_i ht
      split at h
      · rename_i es ck hg
        cases h
        obtain ⟨ob, h1, h2⟩ := r.obj _ _ _ _ hg hc
        obtain ⟨l, rfl, h3⟩ := h2
        refine ⟨.int .i64 (l.length : Int), ?_, by simp [VR, h3.length]⟩
        simp [Builtin.len_, run_underlying ht, getObj, Sem.run, h1, goInt]
      · cases h
    · cases h
  · cases h
noncomputable def aCap (P : Program) (t : TypeId) (x : AV) : Option AV :=
  match x with
  | .sl _ _ _ cap false => match P.underlying t with
    | some (.slice _) => some (.i .i64 (.ofNat cap))
    | _ => none
  | .sn => match P.underlying t with
    | some (.slice _) => some (.i .i64 (.ofNat 0))
    | _ => none
  | _ => none
theorem aCap_ok {t ty : TypeId} {x : AV} {u : Value} {v : AV} (hu : VR ρ env x u) (h : aCap P t x = some v) : ∃ y, (Builtin.cap_ #[t] ty #[u]).run P w = .ok y w ∧ VR ρ env v y := by
  unfold aCap at h
  split at h
  · simp only [VR] at hu; obtain ⟨c, x, hc, rfl⟩ := hu
    split at h
    · rename_i ht; cases h; exact ⟨_, by simp [Builtin.cap_, run_underlying ht]; rfl, by simp [VR, goInt]⟩
    · cases h
  · simp only [VR] at hu; subst hu
    split at h
    · rename_i ht; cases h; exact ⟨_, by simp [Builtin.cap_, run_underlying ht]; rfl, by simp [VR, goInt]⟩
    · cases h
  · cases h

/-! maps: keys are numbers or texts -/
def keyKind (P : Program) (t : TypeId) : Option TypeDesc :=
  match P.underlying t with
  | some (.int k) => some (.int k)
  | some .string => some .string
  | _ => none
noncomputable def keyEq (x y : AV) : Option Bool :=
  match x, y with
  | .i k a, .i k' b => bif decide (k = k') then some (ieq a b) else none
  | .s l a, .s l' b => some (strEq l a l' b)
  | _, _ => none
/-- where a key stands, and what is there; none: it cannot be told -/
noncomputable def findK (k : AV) : List (AV × AV × Nat) → Nat → Option (Option (Nat × AV × Nat))
  | [], _ => some none
  | (key, v, b) :: es, n => match keyEq k key with
    | some true => some (some (n, v, b))
    | some false => findK k es (Nat.succ n)
    | none => none
theorem keyEq_ok {t : TypeId} {d : TypeDesc} {x y : AV} {u k : Value} {b : Bool} (hd : keyKind P t = some d) (hx : VR ρ env x u) (hy : VR ρ env y k) (h : keyEq x y = some b) (hk : ∀ k a, x = .i k a → ∃ q, d = .int q) (hs : ∀ l z, x = .s l z → d = .string) : Instr.sameNow d u k = some b := by
  unfold keyEq at h
  split at h
  · rename_i k1 a1 k2 b1
    simp only [VR] at hx hy; subst hx hy
    obtain ⟨q, rfl⟩ := hk k1 a1 rfl
    cases hb : decide (k1 = k2) with
    | false => rw [hb] at h; cases h
    | true =>
      have := of_decide_eq_true hb; subst this
      rw [hb] at h; cases h
      simp [Instr.sameNow, ieq_eq]
  · rename_i l a l' b'
    simp only [VR] at hx hy; subst hx hy
    have := hs l a rfl; subst this
    cases h
    simp only [Instr.sameNow]
    congr 1
    rw [← strEq_ok, ByteArray.toList_eq, ByteArray.toList_eq]
    show ByteArray.beq _ _ = _
    unfold ByteArray.beq
    simp
  · cases h
theorem findK_ok {t : TypeId} {d : TypeDesc} {x : AV} {u : Value} (hd : keyKind P t = some d) (hx : VR ρ env x u) (hk : ∀ k a, x = .i k a → ∃ q, d = .int q) (hs : ∀ l z, x = .s l z → d = .string) :
    ∀ {es : List (AV × AV × Nat)} {l : List MapEntry} {n : Nat} {r : Option (Nat × AV × Nat)}, ERs ρ env es l → findK x es n = some r →
      (match r with
        | none => Instr.findNow d u l n = some none
        | some (i, v, b) => ∃ y e, Instr.findNow d u l n = some (some (i, y)) ∧ VR ρ env v y ∧ n ≤ i ∧ es[i - n]? = some (e, v, b) ∧ keyEq x e = some true)
  | [], l, n, r, he, h => by cases he; cases h; rfl
  | (key, v, b) :: es, l, n, r, he, h => by
    obtain ⟨e, us, rfl, h1, h2, h3, h4⟩ := he
    simp only [findK] at h
    split at h
    · rename_i hq
      cases h
      exact ⟨e.val, key, by simp [Instr.findNow, keyEq_ok hd hx h1 hq hk hs], h2, Nat.le_refl _, by simp, hq⟩
    · rename_i hq
      have ih := findK_ok hd hx hk hs h4 h
      have hn := keyEq_ok hd hx h1 hq hk hs
      cases r with
      | none => simpa [Instr.findNow, hn] using ih
      | some y =>
        obtain ⟨i, v', b'⟩ := y
        obtain ⟨y, e', h5, h6, h7, h8, h9⟩ := ih
        refine ⟨y, e', by simpa [Instr.findNow, hn] using h5, h6, by omega, ?_, h9⟩
        have : i - n = (i - (n + 1)) + 1 := by omega
        rw [this, List.getElem?_cons_succ]
        exact h8
    · cases h
noncomputable def mapKey (P : Program) (t : TypeId) (x : AV) : Option TypeDesc :=
  match keyKind P t, x with
  | some (.int k), .i _ _ => some (.int k)
  | some .string, .s _ _ => some .string
  | _, _ => none
theorem mapKey_ok {t : TypeId} {x : AV} {d : TypeDesc} (h : mapKey P t x = some d) : P.underlying t = some d ∧ keyKind P t = some d ∧ (∀ k a, x = .i k a → ∃ q, d = .int q) ∧ (∀ l z, x = .s l z → d = .string) ∧ (d = .string ∨ ∃ k, d = .int k) := by
  have hk : ∀ d, keyKind P t = some d → P.underlying t = some d := fun d e => by
    unfold keyKind at e
    split at e <;> cases e <;> assumption
  unfold mapKey at h
  split at h
  · rename_i k _ _ hh; cases h; exact ⟨hk _ hh, hh, fun _ _ _ => ⟨_, rfl⟩, fun _ _ e => by (cases e), .inr ⟨_, rfl⟩⟩
  · rename_i hh; cases h; exact ⟨hk _ hh, hh, fun _ _ e => (by cases e), fun _ _ _ => rfl, .inl rfl⟩
  · cases h
theorem checkKey_ok {t : TypeId} {x : AV} {u : Value} {d : TypeDesc} {e : Bool} (h : mapKey P t x = some d) : (Instr.checkKey e 10000 t u).run P w = .ok () w := by
  obtain ⟨h1, _, _, _, h5⟩ := mapKey_ok h
  have hE : Instr.checkKey e 10000 t u = Instr.checkKey e (9999 + 1) t u := rfl
  rw [hE, Instr.checkKey]
  simp only [Sem.run_bind, run_underlying h1, Result.andThen_ok]
  rcases h5 with rfl | ⟨k, rfl⟩ <;> rfl
theorem findKey_ok {t : TypeId} {x : AV} {u : Value} {d : TypeDesc} {es : List (AV × AV × Nat)} {l : List MapEntry} {r : Option (Nat × AV × Nat)} (h : mapKey P t x = some d) (hx : VR ρ env x u) (he : ERs ρ env es l) (hf : findK x es 0 = some r) :
    (match r with
      | none => (Instr.findKey t u l).run P w = .ok none w
      | some (i, v, b) => ∃ y e, (Instr.findKey t u l).run P w = .ok (some (i, y)) w ∧ VR ρ env v y ∧ es[i]? = some (e, v, b) ∧ keyEq x e = some true) := by
  obtain ⟨h1, h2, h3, h4, _⟩ := mapKey_ok h
  have := findK_ok h2 hx h3 h4 he hf
  cases r with
  | none => simp only at this ⊢; simp [Instr.findKey, run_underlying h1, this]
  | some q =>
    obtain ⟨i, v, b⟩ := q
    obtain ⟨y, e, h5, h6, _, h8, h9⟩ := this
    exact ⟨y, e, by simp [Instr.findKey, run_underlying h1, h5], h6, by simpa using h8, h9⟩

/-- a zero value as one -/
def zeroV (P : Program) (t : TypeId) : Option AV := ((P.info? t).bind (·.zero)).bind ofV
theorem zeroV_ok (w : World) {t : TypeId} {v : AV} (h : zeroV P t = some v) : ∃ z, (zeroValue t).run P w = .ok z w ∧ VR ρ env v z := by
  simp only [zeroV, Option.bind_eq_some_iff] at h
  obtain ⟨z, ⟨i, hi, hz⟩, hv⟩ := h
  exact ⟨z, by simp [zeroValue, typeInfo, hi, hz], ofV_ok ρ env z v hv⟩
/-- noughts, so many -/
def isZ : AV → Bool
  | .i .u8 (.ofNat 0) => true
  | _ => false
theorem isZ_ok {c : AV} (h : isZ c = true) : c = .i .u8 (.ofNat 0) := by
  unfold isZ at h
  split at h
  · rfl
  · cases h
def zpage : List AV → Nat → Bool
  | [], n => Nat.beq n 0
  | c :: l, n => isZ c && (Nat.blt 0 n && zpage l (Nat.pred n))
theorem zpage_ok {l : List AV} : ∀ {n : Nat} {k : List Value}, zpage l n = true → VRs ρ env l k → k = (bytesOf n 0).map fun b => Value.int .u8 (Int.ofNat b) := by
  have hz : ∀ n, (bytesOf n 0).map (fun b => Value.int .u8 (Int.ofNat b)) = List.replicate n (.int .u8 0) := fun n => by
    apply List.ext_getElem?
    intro i
    rw [List.getElem?_map, bytesOf_get, List.getElem?_replicate]
    by_cases h : i < n
    · simp [h, byteAt_eq]
    · simp [h]
  intro n k
  rw [hz]
  induction l generalizing n k with
  | nil => intro h hk; simp only [VRs] at hk; subst hk; rw [beq_true h]; rfl
  | cons c l ih =>
    intro h hk
    simp only [zpage, Bool.and_eq_true] at h
    obtain ⟨h1, h2, h3⟩ := h
    rw [isZ_ok h1] at hk
    have h0 := blt_iff.1 h2
    simp only [VRs, VR] at hk
    obtain ⟨u, us, rfl, rfl, h4⟩ := hk
    rw [ih h3 h4]
    obtain ⟨m, rfl⟩ : ∃ m, n = m + 1 := ⟨n - 1, by omega⟩
    rfl
def zeroPage (P : Program) (t : TypeId) (n : Nat) : Bool :=
  match zeroV P t with
  | some (.ag l) => zpage l n
  | _ => false
theorem zeroPage_ok (w : World) {t : TypeId} {n : Nat} (h : zeroPage P t n = true) : ∃ z, (zeroValue t).run P w = .ok z w ∧ VR ρ env (.by_ n 0) z := by
  unfold zeroPage at h
  split at h
  · rename_i l hl
    obtain ⟨z, h1, h2⟩ := zeroV_ok (ρ := ρ) (env := env) w hl
    simp only [VR] at h2
    obtain ⟨k, rfl, h3⟩ := h2
    exact ⟨_, h1, by simp only [VR]; rw [zpage_ok h h3]⟩
  · cases h
noncomputable def aLookup (P : Program) (H : Heap) (t : TypeId) (m k : AV) (ok : Bool) : Option AV :=
  match P.underlying t with
  | some (.map kt et) => match mapKey P kt k with
    | some _ =>
      let fin (v : AV) (b : Bool) : AV := bif ok then .tu [v, .b b] else v
      match m with
      | .m b => match H.t.get b with
        | some (.mp es _) => match findK k es 0 with
          | some (some (_, v, _)) => some (fin v true)
          | some none => (zeroV P et).map (fin · false)
          | none => none
        | some (.pm len n0 t) => match k with
          | .i .i64 (.ofNat j) => match pget n0 t j with
            | some x => some (fin (.by_ len x) true)
            | none => bif zeroPage P et len then some (fin (.by_ len 0) false) else none
          | _ => none
        | _ => none
      | .mn => (zeroV P et).map (fin · false)
      | _ => none
    | none => none
  | _ => none
theorem findNow_kind {q : IntKind} {j : Nat} : ∀ (l : List MapEntry) (n : Nat), Instr.findNow (.int q) (.int .i64 (j : Int)) l n = Instr.findNow (.int .i64) (.int .i64 (j : Int)) l n
  | [], n => rfl
  | e :: l, n => by
    have : Instr.sameNow (.int q) (.int .i64 (j : Int)) e.key = Instr.sameNow (.int .i64) (.int .i64 (j : Int)) e.key := by cases e.key <;> rfl
    simp only [Instr.findNow, this, findNow_kind l (n + 1)]
theorem aLookup_ok (r : Rel env ρ H w) {t : TypeId} {m k : AV} {u x : Value} {ok : Bool} {v : AV} (hu : VR ρ env m u) (hx : VR ρ env k x) (h : aLookup P H t m k ok = some v) : ∃ y, (Instr.lookup t u x ok).run P w = .ok y w ∧ VR ρ env v y := by
  have hfin : ∀ (v : AV) (y : Value) (b : Bool), VR ρ env v y → VR ρ env (bif ok then .tu [v, .b b] else v) (if ok then .tuple #[y, .bool b] else y) := fun v y b hv => by
    cases ok
    · simpa using hv
    · simp only [cond_true, if_true, VR, VRs]
      exact ⟨[y, .bool b], rfl, y, [.bool b], rfl, hv, .bool b, [], rfl, rfl, rfl⟩
  unfold aLookup at h
  split at h
  · rename_i kt et ht
    split at h
    · rename_i d hd
      dsimp only at h
      split at h
      · rename_i b
        simp only [VR] at hu
        obtain ⟨c, x', hc, rfl⟩ := hu
        split at h
        · rename_i es ck hg
          obtain ⟨ob, h1, h2⟩ := r.obj _ _ _ _ hg hc
          obtain ⟨l, rfl, h3⟩ := h2
          have hck := fun e => checkKey_ok (P := P) (w := w) (e := e) (u := x) hd
          split at h
          · rename_i i v' b' hf
            cases h
            obtain ⟨y, e, h5, h6, _⟩ := findKey_ok (P := P) (w := w) hd hx h3 hf
            refine ⟨_, ?_, hfin v' y true h6⟩
            simp only [Instr.lookup, getObj, Sem.run_bind, Sem.run, run_underlying ht, Result.andThen_ok, h1, Sem.run_pure, hck, h5]
            try (cases ok <;> rfl)
          · rename_i hf
            obtain ⟨z, hz, rfl⟩ := Option.map_eq_some_iff.1 h
            obtain ⟨y, h5, h6⟩ := zeroV_ok (ρ := ρ) (env := env) w hz
            have h7 : (Instr.findKey kt x l).run P w = .ok none w := findKey_ok (P := P) (w := w) hd hx h3 hf
            refine ⟨_, ?_, hfin z y false h6⟩
            simp only [Instr.lookup, getObj, Sem.run_bind, Sem.run, run_underlying ht, Result.andThen_ok, h1, Sem.run_pure, hck, h7, h5]
            try (cases ok <;> rfl)
          · cases h
        · rename_i len n0 t hg
          obtain ⟨ob, h1, h2⟩ := r.obj _ _ _ _ hg hc
          obtain ⟨l, ck, rfl, h3⟩ := h2
          have hck := fun e => checkKey_ok (P := P) (w := w) (e := e) (u := x) hd
          split at h
          · rename_i j
            simp only [VR] at hx
            subst hx
            have hu1 : P.underlying kt = some d := (mapKey_ok hd).1
            have hfk : ∀ {r}, Instr.findNow (.int .i64) (.int .i64 (j : Int)) l 0 = some r → (Instr.findKey kt (.int .i64 (Int.ofNat j)) l).run P w = .ok r w := fun {r} h => by
              obtain ⟨q, rfl⟩ := (mapKey_ok hd).2.2.1 _ _ rfl
              have : Instr.findNow (.int q) (.int .i64 (j : Int)) l 0 = some r := by rw [← h]; exact findNow_kind l 0
              simp only [Instr.findKey, Sem.run_bind, run_underlying hu1, Result.andThen_ok]
              rw [show Value.int .i64 (Int.ofNat j) = Value.int .i64 (j : Int) from rfl, this]
              rfl
            rcases h3.find j 0 with ⟨x, i, e, hf, h4, h5, h6, h7⟩ | ⟨hf, h7⟩
            · rw [hf] at h
              cases h
              refine ⟨_, ?_, hfin (.by_ len x) (pageV len x) true (by simp only [VR, pageV])⟩
              simp only [Instr.lookup, getObj, Sem.run_bind, Sem.run, run_underlying ht, Result.andThen_ok, h1, Sem.run_pure, hck, hfk h7]
              try (cases ok <;> rfl)
            · rw [hf] at h
              simp only at h
              cases hzp : zeroPage P et len with
              | false => rw [hzp] at h; cases h
              | true =>
                rw [hzp] at h; cases h
                obtain ⟨z, h8, h9⟩ := zeroPage_ok (ρ := ρ) (env := env) w hzp
                refine ⟨_, ?_, hfin (.by_ len 0) z false h9⟩
                simp only [Instr.lookup, getObj, Sem.run_bind, Sem.run, run_underlying ht, Result.andThen_ok, h1, Sem.run_pure, hck, hfk h7, h8]
                try (cases ok <;> rfl)
          · cases h
        · cases h
      · simp only [VR] at hu
        subst hu
        have hck := fun e => checkKey_ok (P := P) (w := w) (e := e) (u := x) hd
        obtain ⟨z, hz, rfl⟩ := Option.map_eq_some_iff.1 h
        obtain ⟨y, h5, h6⟩ := zeroV_ok (ρ := ρ) (env := env) w hz
        have h7 : (Instr.findKey kt x (#[] : Array MapEntry).toList).run P w = .ok none w := findKey_ok (P := P) (w := w) (es := []) (l := []) hd hx rfl rfl
        refine ⟨_, ?_, hfin z y false h6⟩
        simp only [Instr.lookup, Sem.run_bind, run_underlying ht, Result.andThen_ok, Sem.run_pure, hck, h7, h5]
        try (cases ok <;> rfl)
      · cases h
    · cases h
  · cases h
end
end Go.Ai
/- All readers together. -/
namespace Go.Ai

section
variable {P : Program} {env : Nat → Value} {ρ : Ren} {H : Heap} {w : World} {ng : Nat} {T : TT AV} {a : Act}

noncomputable def aConvert (P : Program) (H : Heap) (src dst : TypeId) (x : AV) : Option AV :=
  match x with
  | .i _ n => match P.underlying src, P.underlying dst with
    | some _, some (.int k) => some (wr k n)
    | _, _ => none
  | .s l y => match P.underlying src, P.underlying dst with
    | some (.int _), some .string => none
    | some _, some .string => some (.s l y)
    | _, _ => none
  | .sl b off len _ _ => match P.underlying src, P.underlying dst with
    | some (.slice e), some .string => match P.underlying e with
      | some (.int .u8) => match H.t.get b with
        | some (.bytes n y) => bif Nat.ble (Nat.add off len) n then some (.s len (cut y off len)) else none
        | _ => none
      | _ => none
    | _, _ => none
  | .sn => match P.underlying src, P.underlying dst with
    | some (.slice e), some .string => match P.underlying e with
      | some (.int .u8) => some (.s 0 0)
      | _ => none
    | _, _ => none
  | .se => match P.underlying src, P.underlying dst with
    | some (.slice e), some .string => match P.underlying e with
      | some (.int .u8) => some (.s 0 0)
      | _ => none
    | _, _ => none
  | .sr _ _ => match P.underlying src, P.underlying dst with
    | some (.slice e), some .string => match P.underlying e with
      | some (.int .u8) => some (.s 0 0)
      | _ => none
    | _, _ => none
  | _ => none

theorem run_push : ∀ (l : List Nat) (s : ByteArray), (∀ b ∈ l, b < 256) →
    (forIn (l.map fun b => Value.int .u8 (Int.ofNat b)) s fun c (s : ByteArray) => (do
      let .int .u8 n := c | stuck "bytesToString: byte expected"
      pure (ForInStep.yield (s.push (UInt8.ofNat n.toNat))) : Sem (ForInStep ByteArray))).run P w = .ok ⟨(s.data.toList ++ l.map UInt8.ofNat).toArray⟩ w
  | [], s, _ => by simp
  | b :: l, s, h => by
    have ih := run_push l (s.push (UInt8.ofNat b)) (fun x hx => h x (by simp [hx]))
    simp only [List.map_cons, List.forIn_cons, Sem.run_bind, Int.ofNat_eq_natCast, Int.toNat_natCast, Sem.run_pure, Result.andThen_ok]
    refine Eq.trans ?_ (ih.trans ?_)
    · simp
    · congr 2
      simp [ByteArray.push]
theorem run_bytesToString {c off len cap n y : Nat} (r : Rel env ρ H w) {b : Nat} {x : Nat × Nat} (hg : H.t.get b = some (.bytes n y)) (hc : ρ b = some (c, x)) (hl : off + len ≤ n) :
    (Conv.bytesToString (.slice (some ⟨c, off + x.2, none⟩) len cap)).run P w = .ok (.string (strV len (cut y off len))) w := by
  obtain ⟨us, h1, h2⟩ := cells_of_read (P := P) r hg hc (off := off) (n := len) (l := (List.range len).map fun j => .i .u8 (Int.ofNat (byteAt y (off + j)))) (by
    simp only [AO.read]
    have : Nat.ble (off + len) n = true := Nat.ble_eq ▸ hl
    rw [this]; rfl)
  have h3 : us = (bytesOf len (cut y off len)).map fun b => Value.int .u8 (Int.ofNat b) := by
    have : ∀ (l : List Nat) (us : List Value), VRs ρ env (l.map fun b => AV.i .u8 (Int.ofNat b)) us → us = l.map fun b => Value.int .u8 (Int.ofNat b) := by
      intro l
      induction l with
      | nil => intro us h; simpa [VRs] using h
      | cons z l ih =>
        intro us h
        simp only [List.map_cons, VRs] at h
        obtain ⟨u, us', rfl, h4, h5⟩ := h
        simp only [VR] at h4
        rw [h4, ih us' h5]; rfl
    refine this _ _ ?_
    have e : (List.range len).map (fun j => AV.i .u8 (Int.ofNat (byteAt y (off + j)))) = (bytesOf len (cut y off len)).map fun b => AV.i .u8 (Int.ofNat b) := by
      simp only [bytesOf, List.map_map]
      apply List.map_congr_left
      intro j hj
      simp only [Function.comp, byteAt_cut, List.mem_range.1 hj, if_true]
    rw [← e]; exact h2
  subst h3
  have h4 := run_push (P := P) (w := w) (bytesOf len (cut y off len)) ByteArray.empty (bytesOf_lt _ _)
  simp only [Conv.bytesToString, Sem.run_bind, h1, Result.andThen_ok]
  have e : ∀ (f : Value → ByteArray → Sem (ForInStep ByteArray)), (forIn (⟨(bytesOf len (cut y off len)).map fun b => Value.int .u8 (Int.ofNat b)⟩ : Array Value) ByteArray.empty f) = forIn ((bytesOf len (cut y off len)).map fun b => Value.int .u8 (Int.ofNat b)) ByteArray.empty f := by
    intro f; rw [← Array.forIn_toList]
  simp only [e]
  refine Eq.trans (congrArg (fun z : Result ByteArray => z.andThen fun a w' => Result.ok (Value.string a) w') (Eq.trans ?_ h4)) ?_
  · rfl
  · rfl

theorem aConvert_ok (r : Rel env ρ H w) {src dst : TypeId} {x : AV} {u : Value} {v : AV} (hu : VR ρ env x u) (h : aConvert P H src dst x = some v) : ∃ y, (convert src dst u).run P w = .ok y w ∧ VR ρ env v y := by
  unfold aConvert at h
  split at h
  · simp only [VR] at hu; subst hu
    split at h
    · rename_i d k hs hd
      cases h
      exact ⟨_, by simp [convert, run_underlying hs, run_underlying hd, Conv.intToInt]; rfl, by rw [wr_eq]; simp only [VR]⟩
    · cases h
  · rename_i l y
    simp only [VR] at hu; subst hu
    split at h
    · cases h
    · rename_i d hn hs hd
      cases h
      refine ⟨.string (strV l y), ?_, by simp only [VR]⟩
      simp only [convert, Sem.run_bind, run_underlying hs, run_underlying hd, Result.andThen_ok]
      cases d <;> rfl
    · cases h
  · rename_i b off len cap op
    simp only [VR] at hu; obtain ⟨c, x, hc, rfl⟩ := hu
    split at h
    · rename_i e hs hd
      split at h
      · rename_i he
        split at h
        · rename_i n y hg
          cases hb : Nat.ble (Nat.add off len) n with
          | false => rw [hb] at h; cases h
          | true =>
            rw [hb] at h; cases h
            refine ⟨.string (strV len (cut y off len)), ?_, by simp only [VR]⟩
            simp only [convert, Sem.run_bind, run_underlying hs, run_underlying hd, run_underlying he, Result.andThen_ok]
            exact run_bytesToString r hg hc (ble_true hb)
        · cases h
      · cases h
    · cases h
  · simp only [VR] at hu; subst hu
    split at h
    · rename_i e hs hd
      split at h
      · rename_i he
        cases h
        refine ⟨.string (strV 0 0), ?_, by simp only [VR]⟩
        simp only [convert, Sem.run_bind, run_underlying hs, run_underlying hd, run_underlying he, Result.andThen_ok]
        rfl
      · cases h
    · cases h
  · simp only [VR] at hu; obtain ⟨z, c, rfl⟩ := hu
    split at h
    · rename_i e hs hd
      split at h
      · rename_i he
        cases h
        refine ⟨.string (strV 0 0), ?_, by simp only [VR]⟩
        have h1 := run_loadCells_list (P := P) w z [] (fun j v hj => by simp at hj)
        simp only [List.length_nil] at h1
        simp only [convert, Sem.run_bind, run_underlying hs, run_underlying hd, run_underlying he, Result.andThen_ok, Conv.bytesToString, h1]
        rfl
      · cases h
    · cases h
  · simp only [VR] at hu; obtain ⟨_, _, z, _, rfl, _⟩ := hu
    split at h
    · rename_i e hs hd
      split at h
      · rename_i he
        cases h
        refine ⟨.string (strV 0 0), ?_, by simp only [VR]⟩
        have h1 := run_loadCells_list (P := P) w z [] (fun j v hj => by simp at hj)
        simp only [List.length_nil] at h1
        simp only [convert, Sem.run_bind, run_underlying hs, run_underlying hd, run_underlying he, Result.andThen_ok, Conv.bytesToString, h1]
        rfl
      · cases h
    · cases h
  · cases h

noncomputable def aIndex (P : Program) (t : TypeId) (x ix : AV) : Option AV :=
  match x, ix with
  | .s len y, .i _ (.ofNat n) => match P.underlying t with
    | some .string => bif Nat.blt n len then some (.i .u8 (.ofNat (byteAt y n))) else none
    | _ => none
  | .ag cs, .i _ (.ofNat n) => match P.underlying t with
    | some (.array len e) => match tyAgg P e with
      | some (true, sz) => bif Nat.blt n len then some (.ag ((cs.drop (n * sz)).take sz)) else none
      | some (false, sz) => bif Nat.blt n len then cs[n * sz]? else none
      | none => none
    | _ => none
  | _, _ => none
theorem strV_get (l y n : Nat) (h : n < l) : (strV l y)[n]? = some (UInt8.ofNat (byteAt y n)) := by
  have hs : n < (strV l y).size := by rw [strV_size]; exact h
  rw [getElem?_pos (strV l y) n hs]
  congr 1
  have e : (strV l y).data.toList[n]? = some (UInt8.ofNat (byteAt y n)) := by
    rw [strV_data, List.getElem?_map, bytesOf_get]; simp [h]
  have e2 : (strV l y).data[n]? = some (UInt8.ofNat (byteAt y n)) := by simpa using e
  exact (Array.getElem?_eq_some_iff.1 e2).2
theorem aIndex_ok {t : TypeId} {x ix : AV} {u k : Value} {v : AV} (hu : VR ρ env x u) (hk : VR ρ env ix k) (h : aIndex P t x ix = some v) : ∃ y, (Instr.index t u k).run P w = .ok y w ∧ VR ρ env v y := by
  unfold aIndex at h
  split at h
  · rename_i len y _ n
    simp only [VR] at hu hk; subst hu hk
    split at h
    · rename_i ht
      cases hb : Nat.blt n len with
      | false => rw [hb] at h; cases h
      | true =>
        rw [hb] at h; cases h
        have := blt_iff.1 hb
        refine ⟨.int .u8 (byteAt y n : Nat), ?_, by simp [VR]⟩
        simp only [Instr.index, asIntOf, Sem.run_bind, Sem.run_pure, Result.andThen_ok, run_underlying ht]
        simp only [Int.ofNat_eq_natCast, Int.toNat_natCast, strV_get _ _ _ this]
        simp [UInt8.toNat_ofNat_of_lt' (byteAt_lt y n)]
    · cases h
  · rename_i cs _ n
    simp only [VR] at hu hk; subst hk
    obtain ⟨l, rfl, hl⟩ := hu
    split at h
    · rename_i len e ht
      split at h
      · rename_i sz he
        cases hb : Nat.blt n len with
        | false => rw [hb] at h; cases h
        | true =>
          rw [hb] at h; cases h
          have := blt_iff.1 hb
          refine ⟨.agg ⟨(l.drop (n * sz)).take sz⟩, ?_, by simp only [VR]; exact ⟨_, rfl, (hl.drop _).take _⟩⟩
          simp [Instr.index, asIntOf, run_underlying ht, this, (tyAgg_ok w he).2, run_part_agg l he]
      · rename_i sz he
        cases hb : Nat.blt n len with
        | false => rw [hb] at h; cases h
        | true =>
          rw [hb] at h
          simp only [cond_true] at h
          have := blt_iff.1 hb
          obtain ⟨y, h5, h6⟩ := hl.get h
          refine ⟨y, ?_, h6⟩
          simp [Instr.index, asIntOf, run_underlying ht, this, (tyAgg_ok w he).2, run_part_one l he h5]
      · cases h
    · cases h
  · cases h

def isFuncFn : Fn → Bool
  | .func _ => true
  | _ => false
noncomputable def aNilCheck (x : AV) : Option AV :=
  match x with
  | .p a o => some (.p a o)
  | .fn f l k => bif isFuncFn f then some (.fn f l k) else none
  | .m b => some (.m b)
  | .ifc t v => some (.ifc t v)
  | .sl a o l c p => some (.sl a o l c p)
  | _ => none
noncomputable def partsA (ng : Nat) (T : TT AV) : List (Nat × Operand) → Option (List (Nat × AV))
  | [] => some []
  | (i, x) :: l => match ev ng T x with
    | some v => match partsA ng T l with
      | some vs => some ((i, v) :: vs)
      | none => none
    | none => none
theorem partsA_ok (hg : GOK ng ρ) (hF : FR ρ env T a.tmps) : ∀ {l : List (Nat × Operand)} {vs : List (Nat × AV)}, partsA ng T l = some vs → Parts ρ env vs (l.map fun (i, x) => (i, a.eval x))
  | [], vs, h => by simp only [partsA, Option.some.injEq] at h; subst h; exact .nil
  | (i, x) :: l, vs, h => by
    simp only [partsA] at h
    split at h
    · rename_i v hv
      split at h
      · rename_i us hu
        cases h
        exact .cons (ev_ok hg hF hv) (partsA_ok hg hF hu)
      · cases h
    · cases h
end
end Go.Ai
/- What a reader yields. -/
namespace Go.Ai

section
variable {P : Program} {env : Nat → Value} {ρ : Ren} {H : Heap} {w : World} {ng : Nat} {T : TT AV} {a : Act}

noncomputable def rPick (ng : Nat) (T : TT AV) (c x y : Operand) : Option AV :=
  match ev ng T c with
  | some (.b true) => ev ng T x
  | some (.b false) => ev ng T y
  | _ => none
noncomputable def rLoad (P : Program) (ng : Nat) (H : Heap) (T : TT AV) (t : TypeId) (x : Operand) : Option AV :=
  match ev ng T x with
  | some v => aLoad P H t v
  | none => none
noncomputable def rNil (ng : Nat) (T : TT AV) (x : Operand) : Option AV :=
  match ev ng T x with
  | some v => aNilCheck v
  | none => none
noncomputable def rBin (P : Program) (ng : Nat) (T : TT AV) (o : Oper) (op : BinOp) (t : TypeId) (x y : Operand) : Option AV :=
  match ev ng T x with
  | some u => match ev ng T y with
    | some v => match aBin P op t u v with
      | some r => some r
      | none => pureOp P ng T o
    | none => none
  | none => none
noncomputable def rUn (P : Program) (ng : Nat) (T : TT AV) (o : Oper) (op : UnOp) (x : Operand) : Option AV :=
  match op with
  | .not => match ev ng T x with
    | some (.b p) => some (.b (Bool.not p))
    | _ => none
  | _ => pureOp P ng T o
noncomputable def rConv (P : Program) (ng : Nat) (H : Heap) (T : TT AV) (src dst : TypeId) (x : Operand) : Option AV :=
  match ev ng T x with
  | some v => aConvert P H src dst v
  | none => none
def isIface (P : Program) (t : TypeId) : Option Bool := (P.underlying t).map fun | .interface _ => true | _ => false
noncomputable def rIface (P : Program) (ng : Nat) (T : TT AV) (t : TypeId) (x : Operand) : Option AV :=
  match isIface P t with
  | some false => (ev ng T x).map (.ifc t)
  | _ => none
noncomputable def rFunc (ng : Nat) (T : TT AV) (f : Fn) (first caps : Array Operand) : Option AV :=
  match evs ng T first.toList with
  | some l => bif notYield f then (evs ng T caps.toList).map (.fn f l) else none
  | none => none
noncomputable def rSlice (P : Program) (ng : Nat) (T : TT AV) (t : TypeId) (x : Operand) (lo hi mx : Option Operand) : Option AV :=
  match ev ng T x with
  | some v => match bd ng T lo with
    | some l => match bd ng T hi with
      | some h => match bd ng T mx with
        | some m => aSlice P t v l h m
        | none => none
      | none => none
    | none => none
  | none => none
noncomputable def rFieldAddr (P : Program) (ng : Nat) (T : TT AV) (s : TypeId) (x : Operand) (f : Nat) : Option AV :=
  match ev ng T x with
  | some v => aFieldAddr P s f v
  | none => none
noncomputable def rField (P : Program) (ng : Nat) (T : TT AV) (t : TypeId) (x : Operand) (f : Nat) : Option AV :=
  match ev ng T x with
  | some v => aField P t f v
  | none => none
noncomputable def rIndexAddr (P : Program) (ng : Nat) (T : TT AV) (t : TypeId) (x y : Operand) : Option AV :=
  match ev ng T x with
  | some u => match ev ng T y with
    | some v => aIndexAddr P t u v
    | none => none
  | none => none
noncomputable def rIndex (P : Program) (ng : Nat) (T : TT AV) (t : TypeId) (x y : Operand) : Option AV :=
  match ev ng T x with
  | some u => match ev ng T y with
    | some v => aIndex P t u v
    | none => none
  | none => none
noncomputable def rBuild (P : Program) (ng : Nat) (T : TT AV) (t : TypeId) (ps : Array (Nat × Operand)) : Option AV :=
  match partsA ng T ps.toList with
  | some l => aBuild P t l
  | none => none
noncomputable def rLookup (P : Program) (ng : Nat) (H : Heap) (T : TT AV) (t : TypeId) (x y : Operand) (ok : Bool) : Option AV :=
  match ev ng T x with
  | some u => match ev ng T y with
    | some v => aLookup P H t u v ok
    | none => none
  | none => none
noncomputable def rExtract (ng : Nat) (T : TT AV) (x : Operand) (i : Nat) : Option AV :=
  match ev ng T x with
  | some (.tu vs) => vs[i]?
  | _ => none
noncomputable def rCall (P : Program) (ng : Nat) (H : Heap) (T : TT AV) (o : Oper) (c : Call) : Option AV :=
  match c.callee with
  | .builtin .len => match c.args.toList, c.argTypes.toList with
    | [x], [t] => match ev ng T x with
      | some v => aLen P H t v
      | none => none
    | _, _ => none
  | .builtin .cap => match c.args.toList, c.argTypes.toList with
    | [x], [t] => match ev ng T x with
      | some v => aCap P t v
      | none => none
    | _, _ => none
  | .builtin .min | .builtin .max => pureOp P ng T o
  | _ => none

noncomputable def rS2a (P : Program) (ng : Nat) (T : TT AV) (t : TypeId) (x : Operand) : Option AV :=
  match P.underlying t with
  | some (.array n _) => match ev ng T x with
    | some (.sl b off len _ _) => bif Nat.ble n len then some (.p b off) else none
    | _ => none
  | _ => none
noncomputable def ard (P : Program) (ng : Nat) (H : Heap) (T : TT AV) (o : Oper) : Option AV :=
  match o.op with
  | .move x => ev ng T x
  | .assign x => ev ng T x
  | .pick c x y => rPick ng T c x y
  | .load t x => rLoad P ng H T t x
  | .nilCheck x => rNil ng T x
  | .binOp op t x y _ => rBin P ng T o op t x y
  | .unOp op _ x => rUn P ng T o op x
  | .convert src dst x => rConv P ng H T src dst x
  | .sliceToArrayPointer t x => rS2a P ng T t x
  | .makeInterface t x => rIface P ng T t x
  | .makeFunc f first caps => rFunc ng T f first caps
  | .slice t x lo hi mx => rSlice P ng T t x lo hi mx
  | .fieldAddr s x f => rFieldAddr P ng T s x f
  | .field t x f => rField P ng T t x f
  | .indexAddr t x y => rIndexAddr P ng T t x y
  | .index t x y => rIndex P ng T t x y
  | .build t ps => rBuild P ng T t ps
  | .lookup t x y ok => rLookup P ng H T t x y ok
  | .extract x i => rExtract ng T x i
  | .call c => rCall P ng H T o c
  | _ => none

theorem ard_ok (r : Rel env ρ H w) (hg : GOK ng ρ) (hF : FR ρ env T a.tmps) {o : Oper} {v : AV} (h : ard P ng H T o = some v) :
    ∃ u, (execOp a.eval o).run P w = .ok (.value u) w ∧ VR ρ env v u := by
  have hP : ∀ {v}, pureOp P ng T o = some v → ∃ u, (execOp a.eval o).run P w = .ok (.value u) w ∧ VR ρ env v u := fun h => pureOp_ok w hg hF h
  have hE : ∀ {x v}, ev ng T x = some v → VR ρ env v (a.eval x) := fun h => ev_ok hg hF h
  obtain ⟨dst, op, type, pos, after, guard⟩ := o
  unfold ard at h
  cases op <;> simp only [] at h <;> try (cases h; done)
  case move x => exact ⟨a.eval x, by simp [execOp], hE h⟩
  case assign x => exact ⟨a.eval x, by simp [execOp], hE h⟩
  case pick c x y =>
    unfold rPick at h
    split at h
    · rename_i hc
      have := hE hc; simp only [VR] at this
      exact ⟨a.eval x, by simp [execOp, this, asBool], hE h⟩
    · rename_i hc
      have := hE hc; simp only [VR] at this
      exact ⟨a.eval y, by simp [execOp, this, asBool], hE h⟩
    · cases h
  case load t x =>
    unfold rLoad at h
    split at h
    · rename_i y hy
      obtain ⟨z, h1, h2⟩ := aLoad_ok (P := P) r (hE hy) h
      exact ⟨z, by simp [execOp, h1], h2⟩
    · cases h
  case nilCheck x =>
    unfold rNil at h
    split at h
    · rename_i y hy
      have hy' := hE hy
      refine ⟨a.eval x, ?_, ?_⟩
      · unfold aNilCheck at h
        split at h <;> (try simp only [VR] at hy')
        · obtain ⟨c, x, _, hx⟩ := hy'; simp [execOp, hx]
        · rename_i f l k
          cases hf : isFuncFn f with
          | false => rw [hf] at h; cases h
          | true =>
            obtain ⟨g, l', k', hg', hx, _⟩ := hy'
            cases f <;> simp [isFuncFn] at hf
            simp only [FnR] at hg'
            subst hg'
            simp [execOp, hx]
        · obtain ⟨c, x, _, hx⟩ := hy'; simp [execOp, hx]
        · obtain ⟨x, hx, _⟩ := hy'; simp [execOp, hx]
        · obtain ⟨c, x, _, hx⟩ := hy'; simp [execOp, hx]
        · cases h
      · unfold aNilCheck at h
        split at h
        · cases h; exact hy'
        · rename_i f l k
          cases hf : isFuncFn f with
          | false => rw [hf] at h; cases h
          | true => rw [hf] at h; cases h; exact hy'
        · cases h; exact hy'
        · cases h; exact hy'
        · cases h; exact hy'
        · cases h
    · cases h
  case binOp bop t x y yt =>
    unfold rBin at h
    split at h
    · rename_i u hu
      split at h
      · rename_i k hk
        split at h
        · rename_i z hz
          cases h
          obtain ⟨z', h1, h2⟩ := aBin_ok (P := P) (w := w) (cx := x) (cy := y) (hE hu) (hE hk) hz
          refine ⟨z', ?_, h2⟩
          show ((do pure (Next.value (← (do eqGuard bop t x y (a.eval x) (a.eval y); binOp bop t (a.eval x) (a.eval y) : Sem Value))) : Sem Next)).run P w = _
          simp only [Sem.run_bind] at h1 ⊢
          rw [h1]; rfl
        · exact hP h
      · cases h
    · cases h
  case unOp uop t x =>
    unfold rUn at h
    split at h
    · split at h
      · rename_i p hp
        cases h
        have := hE hp; simp only [VR] at this
        exact ⟨.bool (!p), by simp [execOp, this, Op.unary], by simp only [VR]⟩
      · cases h
    · exact hP h
  case convert src dst x =>
    unfold rConv at h
    split at h
    · rename_i y hy
      obtain ⟨z, h1, h2⟩ := aConvert_ok (P := P) r (hE hy) h
      exact ⟨z, by simp [execOp, h1], h2⟩
    · cases h
  case sliceToArrayPointer t x =>
    unfold rS2a at h
    split at h
    · rename_i n e ht
      split at h
      · rename_i b off len cap op hx
        cases hb : Nat.ble n len with
        | false => rw [hb] at h; cases h
        | true =>
          rw [hb] at h; cases h
          have hle := ble_true hb
          have hx' := hE hx
          simp only [VR] at hx'
          obtain ⟨c, y, hc, hx'⟩ := hx'
          have hnl : ¬ len < n := by omega
          exact ⟨.pointer (some ⟨c, off + y.2, none⟩), by simp [execOp, hx', Instr.arrayAt, run_underlying ht, hnl], by simp only [VR]; exact ⟨c, y, hc, rfl⟩⟩
      · cases h
    · cases h
  case makeInterface t x =>
    unfold rIface at h
    split at h
    · rename_i hi
      obtain ⟨y, hy, rfl⟩ := Option.map_eq_some_iff.1 h
      obtain ⟨d, hd, hb⟩ := Option.map_eq_some_iff.1 hi
      refine ⟨.iface t (a.eval x), ?_, by simp only [VR]; exact ⟨_, rfl, hE hy⟩⟩
      simp only [execOp, Instr.makeInterface, Sem.run_bind, run_underlying hd, Result.andThen_ok]
      cases d <;> first | rfl | (simp at hb)
    · cases h
  case makeFunc f first caps =>
    unfold rFunc at h
    split at h
    · rename_i l hl
      cases hf : notYield f with
      | false => rw [hf] at h; cases h
      | true =>
      rw [hf] at h
      simp only [cond_true] at h
      obtain ⟨k, hk, rfl⟩ := Option.map_eq_some_iff.1 h
      refine ⟨.func f (first.map a.eval) (caps.map a.eval), by simp [execOp, Instr.makeFunc], ?_⟩
      simp only [VR]
      refine ⟨f, first.toList.map a.eval, caps.toList.map a.eval, FnR.plain hf, ?_, evs_ok hg hF hl, evs_ok hg hF hk⟩
      congr 1 <;> (apply Array.toList_inj.1; simp)
    · cases h
  case slice t x lo hi mx =>
    unfold rSlice at h
    split at h
    · rename_i y hy
      split at h
      · rename_i l hl
        split at h
        · rename_i hh hhi
          split at h
          · rename_i m hm
            obtain ⟨z, h1, h2⟩ := aSlice_ok (P := P) (w := w) (bd_ok (a := a) hg hF hl) (bd_ok hg hF hhi) (bd_ok hg hF hm) (hE hy) h
            exact ⟨z, by simp [execOp, h1], h2⟩
          · cases h
        · cases h
      · cases h
    · cases h
  case fieldAddr s x f =>
    unfold rFieldAddr at h
    split at h
    · rename_i y hy
      obtain ⟨z, h1, h2⟩ := aFieldAddr_ok (P := P) (w := w) (hE hy) h
      exact ⟨z, by simp [execOp, h1], h2⟩
    · cases h
  case field t x f =>
    unfold rField at h
    split at h
    · rename_i y hy
      obtain ⟨z, h1, h2⟩ := aField_ok (P := P) (w := w) (hE hy) h
      exact ⟨z, by simp [execOp, h1], h2⟩
    · cases h
  case indexAddr t x y =>
    unfold rIndexAddr at h
    split at h
    · rename_i u hu
      split at h
      · rename_i k hk
        obtain ⟨z, h1, h2⟩ := aIndexAddr_ok (P := P) (w := w) (hE hu) (hE hk) h
        exact ⟨z, by simp [execOp, h1], h2⟩
      · cases h
    · cases h
  case index t x y =>
    unfold rIndex at h
    split at h
    · rename_i u hu
      split at h
      · rename_i k hk
        obtain ⟨z, h1, h2⟩ := aIndex_ok (P := P) (w := w) (hE hu) (hE hk) h
        exact ⟨z, by simp [execOp, h1], h2⟩
      · cases h
    · cases h
  case build t ps =>
    unfold rBuild at h
    split at h
    · rename_i l hl
      obtain ⟨z, h1, h2⟩ := aBuild_ok (P := P) (w := w) r.one (partsA_ok (a := a) hg hF hl) h
      refine ⟨z, ?_, h2⟩
      have e : (ps.map fun (i, x) => (i, a.eval x)) = ⟨ps.toList.map fun (i, x) => (i, a.eval x)⟩ := by apply Array.toList_inj.1; simp
      show ((do pure (Next.value (← Instr.build t (ps.map fun (i, x) => (i, a.eval x)))) : Sem Next)).run P w = _
      rw [e, Sem.run_bind, h1]; rfl
    · cases h
  case lookup t x y ok =>
    unfold rLookup at h
    split at h
    · rename_i u hu
      split at h
      · rename_i k hk
        obtain ⟨z, h1, h2⟩ := aLookup_ok (P := P) r (hE hu) (hE hk) h
        exact ⟨z, by simp [execOp, h1], h2⟩
      · cases h
    · cases h
  case extract x i =>
    unfold rExtract at h
    split at h
    · rename_i vs hv
      have := hE hv; simp only [VR] at this
      obtain ⟨l, hx, hl⟩ := this
      obtain ⟨z, h1, h2⟩ := hl.get h
      have h1' : (⟨l⟩ : Array Value)[i]? = some z := by simpa using h1
      exact ⟨z, by simp [execOp, hx, Instr.extract, h1'], h2⟩
    · cases h
  case call c =>
    obtain ⟨callee, args, argTypes⟩ := c
    unfold rCall at h
    simp only [] at h
    split at h
    · split at h
      · rename_i x t hx ht
        obtain rfl : args = #[x] := Array.toList_inj.1 hx
        obtain rfl : argTypes = #[t] := Array.toList_inj.1 ht
        split at h
        · rename_i y hy
          obtain ⟨z, h1, h2⟩ := aLen_ok (P := P) (ty := type) r (hE hy) h
          exact ⟨z, by simp [execOp, resolve, invoke, builtin, h1], h2⟩
        · cases h
      · cases h
    · split at h
      · rename_i x t hx ht
        obtain rfl : args = #[x] := Array.toList_inj.1 hx
        obtain rfl : argTypes = #[t] := Array.toList_inj.1 ht
        split at h
        · rename_i y hy
          obtain ⟨z, h1, h2⟩ := aCap_ok (P := P) (w := w) (ty := type) (hE hy) h
          exact ⟨z, by simp [execOp, resolve, invoke, builtin, h1], h2⟩
        · cases h
      · cases h
    · exact hP h
    · exact hP h
    · cases h
end
end Go.Ai
/- New blocks. -/
namespace Go.Ai

inductive Mk where
  | p
  | sl (len cap : Nat) (op : Bool)
  | m
def Mk.val (k : Mk) (b : Nat) : AV :=
  match k with
  | .p => .p b 0
  | .sl len cap op => .sl b 0 len cap op
  | .m => .m b

/-- a row of cells as bytes -/
def toB : List AV → Option (Nat × Nat)
  | [] => some (0, 0)
  | .i .u8 (.ofNat n) :: l => match toB l with
    | some (len, x) => bif Nat.blt n 256 then some (Nat.succ len, Nat.add n (Nat.mul 256 x)) else none
    | none => none
  | _ :: _ => none
theorem bytesOf_cons (n len x : Nat) (h : n < 256) : bytesOf (len + 1) (n + 256 * x) = n :: bytesOf len x := by
  apply List.ext_getElem?
  intro i
  rw [bytesOf_get]
  cases i with
  | zero =>
    have : byteAt (n + 256 * x) 0 = n := by simp only [byteAt_eq, Nat.pow_zero, Nat.div_one]; omega
    simp [this]
  | succ i =>
    have : byteAt (n + 256 * x) (i + 1) = byteAt x i := by
      have h1 := byteAt_div (n + 256 * x) 1 i
      rw [Nat.pow_one] at h1
      rw [Nat.add_comm i 1, ← h1]
      congr 1
      omega
    rw [this, List.getElem?_cons_succ, bytesOf_get]
    simp
theorem toB_ok : ∀ {l : List AV} {len x : Nat}, toB l = some (len, x) → (bytesOf len x).map (fun b => AV.i .u8 (Int.ofNat b)) = l
  | [], len, x, h => by cases h; simp [bytesOf]
  | .i .u8 (.ofNat n) :: l, len, x, h => by
    simp only [toB] at h
    split at h
    · rename_i len' x' h'
      cases hb : Nat.blt n 256 with
      | false => rw [hb] at h; cases h
      | true =>
        rw [hb] at h; cases h
        show (bytesOf (len' + 1) (n + 256 * x')).map _ = _
        rw [bytesOf_cons _ _ _ (blt_iff.1 hb), List.map_cons, toB_ok h']
    · cases h
  | .i .u8 (.negSucc _) :: _, _, _, h | .i .i8 _ :: _, _, _, h | .i .i16 _ :: _, _, _, h | .i .i32 _ :: _, _, _, h | .i .i64 _ :: _, _, _, h | .i .u16 _ :: _, _, _, h | .i .u32 _ :: _, _, _, h | .i .u64 _ :: _, _, _, h => by simp [toB] at h
  | .b _ :: _, _, _, h | .s _ _ :: _, _, _, h | .pn :: _, _, _, h | .p _ _ :: _, _, _, h | .sn :: _, _, _, h | .sl _ _ _ _ _ :: _, _, _, h | .se :: _, _, _, h | .mn :: _, _, _, h | .m _ :: _, _, _, h | .fn _ _ _ :: _, _, _, h | .fz :: _, _, _, h | .ifc _ _ :: _, _, _, h | .inil :: _, _, _, h | .ag _ :: _, _, _, h | .tu _ :: _, _, _, h | .q _ :: _, _, _, h | .by_ _ _ :: _, _, _, h => by simp [toB] at h

def isU8 (P : Program) (e : TypeId) : Option Bool := (P.underlying e).map fun | .int .u8 => true | _ => false
/-- a row of elements of type e -/
noncomputable def mkRow (P : Program) (e : TypeId) (sz : Nat) (cs : List AV) : Option AO :=
  match isU8 P e with
  | some true => match toB cs with
    | some (len, x) => some (.bytes len x)
    | none => none
  | some false => some (.cells sz cs)
  | none => none

section
variable {P : Program} {env : Nat → Value} {ρ : Ren} {H : Heap} {w : World} {ng : Nat} {T : TT AV} {a : Act}

theorem loose_zero (sz n : Nat) : loose sz n (0, 0) := .inl rfl
theorem mkRow_ok {e : TypeId} {sz : Nat} {cs : List AV} {o : AO} {x : Nat} {l rest : List Value} {t : TypeId} {fz : Nat × Nat} (h : mkRow P e sz cs = some o) (hs : (isU8 P e = some true → sz = 1)) (hl : VRs ρ env cs l) (hr : rest.length = x * sz) (hz : loose sz (l.length + rest.length) fz) :
    ObjR ρ env (x, 0) o (.cells ⟨l ++ rest⟩ t fz) := by
  unfold mkRow at h
  split at h
  · rename_i hu
    split at h
    · rename_i len y hb
      cases h
      refine old_row ⟨l, rest, t, fz, rfl, ?_, by rw [hr, hs hu], hz.one⟩
      rw [toB_ok hb]; exact hl
    · cases h
  · cases h; exact old_row ⟨l, rest, t, fz, rfl, hl, hr, hz⟩
  · cases h

/-- many zeros -/
noncomputable def flat {α : Type} (z : List α) (n : Nat) : List α := Nat.rec [] (fun _ k => z ++ k) n
theorem flat_zero {α : Type} (z : List α) : flat z 0 = [] := rfl
theorem flat_succ {α : Type} (z : List α) (n : Nat) : flat z (n + 1) = z ++ flat z n := rfl
theorem flat_length {α : Type} (z : List α) : ∀ n, (flat z n).length = n * z.length
  | 0 => by show ([] : List α).length = _; simp
  | n + 1 => by rw [flat_succ, List.length_append, flat_length z n, Nat.succ_mul, Nat.add_comm]
theorem VRs.flat {z : List AV} {k : List Value} (h : VRs ρ env z k) : ∀ n, VRs ρ env (flat z n) (Go.Ai.flat k n)
  | 0 => rfl
  | n + 1 => by rw [flat_succ, flat_succ]; exact h.append (VRs.flat h n)
theorem flat_get {α : Type} (z : List α) : ∀ (n i : Nat), i < n * z.length → (flat z n)[i]? = z[i % z.length]?
  | 0, i, h => by omega
  | n + 1, i, h => by
    rw [flat_succ, List.getElem?_append]
    by_cases hi : i < z.length
    · simp [hi, Nat.mod_eq_of_lt hi]
    · have h2 : i - z.length < n * z.length := by rw [Nat.succ_mul] at h; omega
      simp only [hi, if_false, flat_get z n _ h2]
      congr 1
      rw [← Nat.mod_eq_sub_mod (by omega)]
theorem range_flat (z : Array Value) (n : Nat) : (Array.range (n * z.size)).map (fun i => z[i % z.size]!) = ⟨flat z.toList n⟩ := by
  apply Array.toList_inj.1
  apply List.ext_getElem?
  intro i
  simp only [Array.toList_map, Array.toList_range, List.getElem?_map]
  by_cases hi : i < n * z.size
  · rw [flat_get z.toList n i (by simpa using hi)]
    have hz : 0 < z.size := by rcases Nat.eq_zero_or_pos z.size with h | h; (rw [h] at hi; omega); exact h
    have hm : i % z.size < z.size := Nat.mod_lt _ hz
    simp [hi, hm]
  · have : (flat z.toList n)[i]? = none := by rw [List.getElem?_eq_none_iff, flat_length]; simpa using hi
    rw [this]
    simp [hi]

/-- what a zero value of a type is, and how many cells it has; and its bytes -/
def elemZ (P : Program) (e : TypeId) : Option (List AV × Nat) := (P.info? e).bind fun i => (zeroOf P e).bind fun z => bif Nat.beq z.length i.size && Nat.blt 0 i.size then some (z, i.bytes) else none
theorem elemZ_ok (h1 : ∀ n, (env n).oneCell' = true) (w : World) {e : TypeId} {z : List AV} {b : Nat} (h : elemZ P e = some (z, b)) :
    ∃ i zv, P.info? e = some i ∧ i.size = z.length ∧ i.bytes = b ∧ 0 < z.length ∧ (zeroValue e).run P w = .ok zv w ∧ VRs ρ env z zv.cells.toList := by
  simp only [elemZ, Option.bind_eq_some_iff] at h
  obtain ⟨i, hi, z', hz, h⟩ := h
  cases hb : (Nat.beq z'.length i.size && Nat.blt 0 i.size) with
  | false => rw [hb] at h; cases h
  | true =>
    rw [hb] at h; cases h
    rw [Bool.and_eq_true] at hb
    obtain ⟨zv, h2, h3⟩ := zeroOf_ok h1 w hz
    have := beq_true hb.1
    exact ⟨i, zv, hi, this.symm, rfl, by have := blt_iff.1 hb.2; omega, h2, h3⟩

/-- an array of bytes -/
def u8Arr (P : Program) (t : TypeId) : Option Nat :=
  match P.underlying t with
  | some (.array n e) => match isU8 P e with
    | some true => some n
    | _ => none
  | _ => none
noncomputable def lAlloc (P : Program) (t : TypeId) : Option (AO × Mk) :=
  match u8Arr P t with
  | some n => bif zeroPage P t n then some (.bytes n 0, .p) else none
  | none => (zeroOf P t).map fun z => (.cells 0 z, .p)
noncomputable def lBox (ng : Nat) (T : TT AV) (x : Operand) : Option (AO × Mk) :=
  match ev ng T x with
  | some (.by_ n x) => some (.bytes n x, .p)
  | some v => some (.cells 0 (avCells v), .p)
  | none => none
/-- of a map of pages: how many bytes one has -/
def pageMap (P : Program) (t : TypeId) : Option Nat :=
  match P.underlying t with
  | some (.map kt et) => match P.underlying kt with
    | some (.int .i64) => u8Arr P et
    | _ => none
  | _ => none
noncomputable def lMap (P : Program) (t : TypeId) : AO :=
  match pageMap P t with
  | some n => .pm n 0 .e
  | none => .mp [] 0
def sliceElem (P : Program) (t : TypeId) : Option TypeId :=
  match P.underlying t with
  | some (.slice e) => some e
  | _ => none
theorem sliceElem_ok {t e : TypeId} (h : sliceElem P t = some e) : P.underlying t = some (.slice e) := by
  unfold sliceElem at h
  split at h
  · cases h; assumption
  · cases h
noncomputable def oneB (P : Program) (e : TypeId) (n : Nat) : Bool :=
  match isU8 P e with
  | some true => Nat.beq n 1
  | _ => true
noncomputable def lBuildSlice (P : Program) (ng : Nat) (T : TT AV) (t : TypeId) (len : Nat) (ps : Array (Nat × Operand)) : Option (AO × Mk) :=
  match sliceElem P t with
  | some e => match elemZ P e with
    | some (z, _) => match partsA ng T ps.toList with
      | some l => bif Nat.ble (Nat.mul len z.length) 16777216 then
          match fillA (fun i => some (Nat.mul i z.length, z.length)) (flat z len) l with
          | some cs => match mkRow P e z.length cs with
            | some o => bif oneB P e z.length then some (o, .sl len len false) else none
            | none => none
          | none => none
        else none
      | none => none
    | none => none
  | none => none
noncomputable def lMakeSlice (P : Program) (ng : Nat) (T : TT AV) (t : TypeId) (x y : Operand) : Option (AO × Mk) :=
  match ev ng T x, ev ng T y with
  | some (.i _ (.ofNat len)), some (.i _ (.ofNat cap)) => match sliceElem P t with
    | some e => match elemZ P e with
      | some (z, b) => bif Nat.ble len cap && (Nat.ble (Nat.mul b cap) 281474976710656 && Nat.blt cap 4294967296) then
          match isU8 P e with
          | some true => match z with
            | [.i .u8 (.ofNat 0)] => some (.bytes cap 0, .sl len cap false)
            | _ => none
          | some false => some (.cells z.length (flat z cap), .sl len cap false)
          | none => none
        else none
      | none => none
    | none => none
  | _, _ => none
noncomputable def lConv (P : Program) (ng : Nat) (T : TT AV) (src dst : TypeId) (x : Operand) : Option (AO × Mk) :=
  match P.underlying src, sliceElem P dst, ev ng T x with
  | some .string, some e, some (.s len y) => match isU8 P e with
    | some true => some (.bytes len y, .sl len len true)
    | _ => none
  | _, _, _ => none
noncomputable def lRange (P : Program) (ng : Nat) (T : TT AV) (t : TypeId) (x : Operand) : Option (AO × Mk) :=
  match P.underlying t, ev ng T x with
  | some .string, some (.s len y) => some (.sit len y 0, .p)
  | _, _ => none
noncomputable def aal (P : Program) (ng : Nat) (T : TT AV) (o : Oper) : Option (AO × Mk) :=
  match o.op with
  | .alloc t => lAlloc P t
  | .box _ x => lBox ng T x
  | .buildSlice t len ps => lBuildSlice P ng T t len ps
  | .makeSlice t x y => lMakeSlice P ng T t x y
  | .makeMap t none => some (lMap P t, .m)
  | .convert src dst x => lConv P ng T src dst x
  | .range t x => lRange P ng T t x
  | _ => none

theorem vrs_zero : ∀ (n : Nat) (l : List Value), VRs ρ env ((bytesOf n 0).map fun b => AV.i .u8 (Int.ofNat b)) l ↔ l = List.replicate n (.int .u8 0)
  | n, l => by
    have e : (bytesOf n 0).map (fun b => AV.i .u8 (Int.ofNat b)) = List.replicate n (.i .u8 0) := by
      apply List.ext_getElem?
      intro i
      rw [List.getElem?_map, bytesOf_get, List.getElem?_replicate]
      by_cases h : i < n
      · simp [h, byteAt_eq]
      · simp [h]
    rw [e]
    induction n generalizing l with
    | zero => simp [VRs]
    | succ n ih =>
      simp only [List.replicate_succ, VRs, VR]
      have e' : (bytesOf n 0).map (fun b => AV.i .u8 (Int.ofNat b)) = List.replicate n (.i .u8 0) := by
        apply List.ext_getElem?
        intro i
        rw [List.getElem?_map, bytesOf_get, List.getElem?_replicate]
        by_cases h : i < n
        · simp [h, byteAt_eq]
        · simp [h]
      constructor
      · rintro ⟨u, us, rfl, rfl, h⟩
        rw [(ih us e').1 h]
      · intro h
        exact ⟨_, _, h, rfl, (ih _ e').2 rfl⟩
end
end Go.Ai
/- New blocks: what an operation does that makes one. -/
namespace Go.Ai
section
variable {P : Program} {env : Nat → Value} {ρ : Ren} {H : Heap} {w : World} {ng : Nat} {T : TT AV} {a : Act}

theorem push_modify {α : Type} (h : Array α) (o : α) (f : α → α) : (h.push o).modify h.size f = h.push (f o) := by
  apply Array.ext_getElem?
  intro i
  rw [Array.getElem?_modify, Array.getElem?_push, Array.getElem?_push]
  by_cases hi : i = h.size
  · subst hi; simp
  · have : ¬ h.size = i := fun e => hi e.symm
    simp [hi, this]
theorem val_p (c x b : Nat) : VR (ρ.put b (c, x, 0)) env (Mk.p.val b) (.pointer (some ⟨c, 0, none⟩)) := by
  simp only [Mk.val, VR]; exact ⟨c, (x, 0), Ren.put_self _ _ _, rfl⟩
theorem val_sl (c x b len cap : Nat) (op : Bool) : VR (ρ.put b (c, x, 0)) env ((Mk.sl len cap op).val b) (.slice (some ⟨c, 0, none⟩) len (cap + if op then x else 0)) := by
  simp only [Mk.val, VR]; exact ⟨c, (x, 0), Ren.put_self _ _ _, rfl⟩

/-- what is told of a new block -/
def Makes (env : Nat → Value) (ρ : Ren) (w : World) (r : Result Next) (o : AO) (k : Mk) : Prop :=
  ∃ ob x u d, r = .ok (.value u) { w with heap := w.heap.push ob, drawn := d } ∧ ∀ b, ρ b = none → ObjR (ρ.put b (w.heap.size, x, 0)) env (x, 0) o ob ∧ VR (ρ.put b (w.heap.size, x, 0)) env (k.val b) u

theorem aal_ok (h1 : ∀ n, (env n).oneCell' = true) (hg : GOK ng ρ) (hF : FR ρ env T a.tmps) {o : Oper} {ob : AO} {k : Mk} (h : aal P ng T o = some (ob, k)) :
    Makes env ρ w ((execOp a.eval o).run P w) ob k := by
  have hE : ∀ {x v}, ev ng T x = some v → VR ρ env v (a.eval x) := fun h => ev_ok hg hF h
  obtain ⟨dst, op, type, pos, after, guard⟩ := o
  unfold aal at h
  cases op <;> simp only [] at h <;> try (cases h; done)
  case alloc t =>
    unfold lAlloc at h
    split at h
    · rename_i n hn
      cases hz : zeroPage P t n with
      | false => rw [hz] at h; cases h
      | true =>
        rw [hz] at h; cases h
        obtain ⟨z, h2, h3⟩ := zeroPage_ok (ρ := ρ) (env := env) w hz
        simp only [VR] at h3
        refine ⟨.cells ⟨((bytesOf n 0).map fun b => Value.int .u8 (Int.ofNat b)) ++ []⟩ t (0, 0), 0, .pointer (some ⟨w.heap.size, 0, none⟩), w.drawn, ?_, fun b hb => ⟨?_, val_p _ _ _⟩⟩
        · simp [execOp, Instr.alloc, h2, h3, newVar, newRow, Value.cells]
        · exact old_row ⟨_, [], t, (0, 0), rfl, bytes_rel _, by simp, loose_zero _ _⟩
    · obtain ⟨z, hz, he⟩ := Option.map_eq_some_iff.1 h
      cases he
      obtain ⟨zv, h2, h3⟩ := zeroOf_ok (ρ := ρ) h1 w hz
      refine ⟨.cells ⟨zv.cells.toList ++ []⟩ t (0, 0), 0, .pointer (some ⟨w.heap.size, 0, none⟩), w.drawn, ?_, fun b hb => ⟨?_, val_p _ _ _⟩⟩
      · simp [execOp, Instr.alloc, h2, newVar, newRow]
      · exact old_row ⟨zv.cells.toList, [], t, (0, 0), rfl, h3.mono (Ren.le_put _ hb), by simp, loose_zero _ _⟩
  case box t x =>
    unfold lBox at h
    have key : ∀ v, ev ng T x = some v → ∀ ob k, (ob, k) = ((.cells 0 (avCells v), .p) : AO × Mk) → Makes env ρ w ((execOp a.eval ⟨dst, .box t x, type, pos, after, guard⟩).run P w) ob k := fun v hv ob k he => by
      cases he
      have h3 := avCells_ok h1 (hE hv)
      refine ⟨.cells ⟨(a.eval x).cells.toList ++ []⟩ t (0, 0), 0, .pointer (some ⟨w.heap.size, 0, none⟩), w.drawn, ?_, fun b hb => ⟨?_, val_p _ _ _⟩⟩
      · simp [execOp, Instr.box, newVar, newRow]
      · exact old_row ⟨(a.eval x).cells.toList, [], t, (0, 0), rfl, h3.mono (Ren.le_put _ hb), by simp, loose_zero _ _⟩
    split at h
    · rename_i n y hv
      cases h
      have hv' := hE hv
      simp only [VR] at hv'
      refine ⟨.cells ⟨((bytesOf n y).map fun b => Value.int .u8 (Int.ofNat b)) ++ []⟩ t (0, 0), 0, .pointer (some ⟨w.heap.size, 0, none⟩), w.drawn, ?_, fun b hb => ⟨?_, val_p _ _ _⟩⟩
      · simp [execOp, Instr.box, hv', newVar, newRow, Value.cells]
      · exact old_row ⟨_, [], t, (0, 0), rfl, bytes_rel _, by simp, loose_zero _ _⟩
    · rename_i v _ hv
      exact key v hv ob k (Option.some.inj h).symm
    · cases h
  case buildSlice t len ps =>
    unfold lBuildSlice at h
    split at h
    · rename_i e he
      split at h
      · rename_i z bz hz
        split at h
        · rename_i l hl
          cases hb : Nat.ble (Nat.mul len z.length) 16777216 with
          | false => rw [hb] at h; cases h
          | true =>
            rw [hb] at h
            simp only [cond_true] at h
            have hle : len * z.length ≤ 16777216 := ble_true hb
            split at h
            · rename_i cs hcs
              split at h
              · rename_i o ho
                cases hq : oneB P e z.length with
                | false => rw [hq] at h; cases h
                | true =>
                  rw [hq] at h; cases h
                  obtain ⟨i, zv, hi, hsz, _, hpos, h2, h3⟩ := elemZ_ok (ρ := ρ) h1 w hz
                  have hzl : zv.cells.size = z.length := by have := h3.length; simpa using this
                  obtain ⟨rs, h4, h5⟩ := fillA_ok (place := fun i => some (Nat.mul i z.length, z.length)) h1 (partsA_ok (a := a) hg hF hl) (h3.flat len) hcs
                  have hs1 : isU8 P e = some true → z.length = 1 := fun hu => by simp only [oneB, hu] at hq; exact beq_true hq
                  refine ⟨.cells ⟨rs ++ []⟩ e (0, 0), 0, .slice (some ⟨w.heap.size, 0, none⟩) len len, w.drawn, ?_, fun b hb => ⟨?_, by simpa using val_sl (ρ := ρ) (env := env) w.heap.size 0 b len len false⟩⟩
                  · have ep : (ps.map fun (i, x) => (i, a.eval x)).toList = ps.toList.map fun (i, x) => (i, a.eval x) := by simp
                    have hu := sliceElem_ok he
                    have hgo : (Instr.buildSlice t len (ps.map fun (i, x) => (i, a.eval x))).run P w = .ok (.slice (some ⟨w.heap.size, 0, none⟩) len len) { w with heap := w.heap.push (.cells ⟨rs ++ []⟩ e (0, 0)) } := by
                      have hgt : ¬ (len * i.size > 2 ^ 24) := by rw [hsz]; omega
                      have hpl : (fun j => some (j * i.size, i.size)) = fun j => some (Nat.mul j z.length, z.length) := by funext j; rw [hsz]; rfl
                      by_cases h0 : len * z.length = 0
                      · have hl0 : len = 0 := by
                          rcases Nat.mul_eq_zero.1 h0 with h | h
                          · exact h
                          · omega
                        subst hl0
                        have e0 : ∀ f : Nat → Value, (Array.range 0).map f = ⟨flat zv.cells.toList 0⟩ := by intro f; apply Array.toList_inj.1; simp [flat_zero]
                        have h00 : 0 * i.size = 0 := by omega
                        simp only [Instr.buildSlice, Sem.run_bind, run_underlying hu, Result.andThen_ok, run_sizeOf w hi, Sem.run_ite, Sem.run_pure, hpl, ep, e0, h4, h00, if_true]
                        simp [newRow]
                      · have h0' : ¬ len * i.size = 0 := by rw [hsz]; exact h0
                        have e0 : (Array.range (len * i.size)).map (fun j => zv.cells[j % zv.cells.size]!) = ⟨flat zv.cells.toList len⟩ := by rw [hsz, ← hzl]; exact range_flat _ _
                        simp only [Instr.buildSlice, Sem.run_bind, run_underlying hu, Result.andThen_ok, run_sizeOf w hi, Sem.run_ite, hgt, if_false, Sem.run_pure, hpl, ep, h0', h2]
                        rw [e0, h4]
                        simp [newRow]
                    show ((do pure (Next.value (← Instr.buildSlice t len (ps.map fun (i, x) => (i, a.eval x)))) : Sem Next)).run P w = _
                    rw [Sem.run_bind, hgo]; rfl
                  · exact mkRow_ok ho hs1 (h5.mono (Ren.le_put _ hb)) (by simp) (loose_zero _ _)
              · cases h
            · cases h
        · cases h
      · cases h
    · cases h
  case makeSlice t x y =>
    unfold lMakeSlice at h
    split at h
    · rename_i k1 len k2 cap hx hy
      split at h
      · rename_i e he
        split at h
        · rename_i z b hz
          cases hb : (Nat.ble len cap && (Nat.ble (Nat.mul b cap) 281474976710656 && Nat.blt cap 4294967296)) with
          | false => rw [hb] at h; cases h
          | true =>
            rw [hb] at h
            simp only [cond_true] at h
            rw [Bool.and_eq_true, Bool.and_eq_true] at hb
            have hlc := ble_true hb.1
            have hbb : b * cap ≤ 281474976710656 := ble_true hb.2.1
            have hcc := blt_iff.1 hb.2.2
            have hx' := hE hx
            have hy' := hE hy
            simp only [VR] at hx' hy'
            obtain ⟨i, zv, hi, hsz, hby, hpos, h2, h3⟩ := elemZ_ok (ρ := ρ) h1 w hz
            have hzl : zv.cells.size = z.length := by have := h3.length; simpa using this
            have hu := sliceElem_ok he
            have wl : IntKind.i64.wrap (len : Int) = (len : Int) := wrap_fit _ _ (by simp [IntKind.min, IntKind.bits, IntKind.signed] <;> omega) (by simp [IntKind.max, IntKind.bits, IntKind.signed]; omega)
            have wc : IntKind.i64.wrap (cap : Int) = (cap : Int) := wrap_fit _ _ (by simp [IntKind.min, IntKind.bits, IntKind.signed] <;> omega) (by simp [IntKind.max, IntKind.bits, IntKind.signed]; omega)
            have hgo : (Instr.makeSlice t (a.eval x) (a.eval y)).run P w = .ok (.slice (some ⟨w.heap.size, 0, none⟩) len cap) { w with heap := w.heap.push (.cells ⟨flat zv.cells.toList cap ++ []⟩ e (0, 0)) } := by
              have t1 : ¬ ((i.bytes : Int) * (cap : Int) > 281474976710656) := by rw [hby]; have : ((b * cap : Nat) : Int) ≤ 281474976710656 := by omega
                                                                                  rw [Int.natCast_mul] at this; omega
              have t2 : ¬ ((cap : Int) < 0) := by omega
              have t3 : ¬ ((len : Int) < 0) := by omega
              have t4 : ¬ ((len : Int) > (cap : Int)) := by omega
              rw [hx', hy']
              simp only [Instr.makeSlice, Sem.run_bind, run_underlying hu, Result.andThen_ok, asInt, asIntOf, Sem.run_pure, typeInfo, run_program, hi, Int.ofNat_eq_natCast, wl, wc]
              simp only [t1, t2, t3, t4, decide_false, Bool.or_false, Bool.false_eq_true, if_false, Int.toNat_natCast, Int.reducePow, Sem.run_bind, run_askRoom, Result.andThen_ok, run_sizeOf w hi]
              by_cases h0 : cap * z.length = 0
              · have hl0 : cap = 0 := by
                  rcases Nat.mul_eq_zero.1 h0 with h | h
                  · exact h
                  · omega
                subst hl0
                have e0 : ∀ f : Nat → Value, (Array.range 0).map f = #[] := by intro f; apply Array.toList_inj.1; simp
                simp [newRow, flat_zero, e0]
              · have h0' : ¬ cap * i.size = 0 := by rw [hsz]; exact h0
                have e0 : (Array.range (cap * i.size)).map (fun j => zv.cells[j % zv.cells.size]!) = ⟨flat zv.cells.toList cap⟩ := by rw [hsz, ← hzl]; exact range_flat _ _
                simp only [h0', if_false, Sem.run_bind, h2, Result.andThen_ok, Sem.run_pure, e0]
                simp [newRow]
            have hrun : ∀ r, (execOp a.eval ⟨dst, .makeSlice t x y, type, pos, after, guard⟩).run P w = r ↔ (Result.ok (.value (.slice (some ⟨w.heap.size, 0, none⟩) len cap)) { w with heap := w.heap.push (.cells ⟨flat zv.cells.toList cap ++ []⟩ e (0, 0)) } : Result Next) = r := by
              intro r
              show ((do pure (Next.value (← Instr.makeSlice t (a.eval x) (a.eval y))) : Sem Next)).run P w = r ↔ _
              rw [Sem.run_bind, hgo]; rfl
            split at h
            · split at h
              · cases h
                refine ⟨.cells ⟨flat zv.cells.toList cap ++ []⟩ e (0, 0), 0, .slice (some ⟨w.heap.size, 0, none⟩) len cap, w.drawn, (hrun _).2 rfl, fun b hb => ⟨?_, by simpa using val_sl (ρ := ρ) (env := env) w.heap.size 0 b len cap false⟩⟩
                refine old_row ⟨flat zv.cells.toList cap, [], e, (0, 0), rfl, ?_, by simp, loose_zero _ _⟩
                rw [vrs_zero]
                have h4 := (h3 : VRs ρ env [AV.i .u8 (Int.ofNat 0)] _)
                simp only [VRs, VR] at h4
                obtain ⟨u, us, h5, h6, h7⟩ := h4
                rw [h5, h6, h7]
                clear hgo hrun
                induction cap with
                | zero => rfl
                | succ n ih => rw [flat_succ]; simp [List.replicate_succ]; exact (by
                    have : ∀ n, flat [Value.int .u8 0] n = List.replicate n (.int .u8 0) := by
                      intro n
                      induction n with
                      | zero => rfl
                      | succ n ih => rw [flat_succ, ih]; rfl
                    exact this n)
              · cases h
            · cases h
              refine ⟨.cells ⟨flat zv.cells.toList cap ++ []⟩ e (0, 0), 0, .slice (some ⟨w.heap.size, 0, none⟩) len cap, w.drawn, (hrun _).2 rfl, fun b hb => ⟨?_, by simpa using val_sl (ρ := ρ) (env := env) w.heap.size 0 b len cap false⟩⟩
              exact old_row ⟨flat zv.cells.toList cap, [], e, (0, 0), rfl, (h3.mono (Ren.le_put _ hb)).flat cap, by simp, loose_zero _ _⟩
            · cases h
        · cases h
      · cases h
    · cases h
  case makeMap t r =>
    cases r with
    | some x => cases h
    | none =>
      cases h
      refine ⟨.map ⟨[]⟩ 0, 0, .map (some w.heap.size), w.drawn, by simp [execOp, Instr.makeMap], fun b hb => ⟨?_, ?_⟩⟩
      · unfold lMap
        split
        · exact ⟨[], 0, rfl, by rw [pget_nil]; exact PMR.nil _ _⟩
        · exact ⟨[], rfl, rfl⟩
      · simp only [Mk.val, VR]; exact ⟨_, _, Ren.put_self _ _ _, rfl⟩
  case convert src dst x =>
    unfold lConv at h
    split at h
    · rename_i e len y hs he hx
      split at h
      · rename_i hu8
        cases h
        have hu := sliceElem_ok he
        have hx' := hE hx
        simp only [VR] at hx'
        obtain ⟨d, hd, hd2⟩ := Option.map_eq_some_iff.1 hu8
        have hd3 : d = .int .u8 := by cases d <;> try (simp at hd2; done)
                                      rename_i k; cases k <;> simp at hd2 ⊢
        subst hd3
        obtain ⟨cap, hq⟩ : ∃ cap, cap = (Question.appendCap (strV len y).size 0 e).cut (w.tape w.drawn (.appendCap (strV len y).size 0 e)) := ⟨_, rfl⟩
        have hcap : len ≤ cap := by
          rw [hq]
          show len ≤ (strV len y).size + _
          rw [strV_size]; omega
        refine ⟨.cells ⟨(bytesOf len y).map (fun b => Value.int .u8 (Int.ofNat b)) ++ List.replicate (cap - len) (.int .u8 0)⟩ e (cap, cap + 1), cap - len, .slice (some ⟨w.heap.size, 0, none⟩) len cap, w.drawn + 1, ?_, fun b hb => ⟨?_, ?_⟩⟩
        · have hgo : (convert src dst (.string (strV len y))).run P w = .ok (.slice (some ⟨w.heap.size, 0, none⟩) len cap) { w with heap := w.heap.push (.cells ⟨(bytesOf len y).map (fun b => Value.int .u8 (Int.ofNat b)) ++ List.replicate (cap - len) (.int .u8 0)⟩ e (cap, cap + 1)), drawn := w.drawn + 1 } := by
            simp only [convert, Sem.run_bind, run_underlying hs, run_underlying hu, run_underlying hd, Result.andThen_ok]
            have hel : ((strV len y).data.map fun b => Value.int .u8 b.toNat) = ⟨(bytesOf len y).map (fun b => Value.int .u8 (Int.ofNat b))⟩ := by
              apply Array.toList_inj.1
              rw [Array.toList_map, strV_data, List.map_map]
              apply List.map_congr_left
              intro b hb
              simp [UInt8.toNat_ofNat_of_lt' (bytesOf_lt len y b hb)]
            simp only [Conv.stringToBytes, Sem.run_bind, run_choose, Question.forced, Bool.false_eq_true, if_false, Result.andThen_ok, hel, ← hq]
            have harr : (⟨(bytesOf len y).map (fun b => Value.int .u8 (Int.ofNat b))⟩ : Array Value) ++ Array.replicate (cap - (strV len y).size) (.int .u8 0) = ⟨(bytesOf len y).map (fun b => Value.int .u8 (Int.ofNat b)) ++ List.replicate (cap - len) (.int .u8 0)⟩ := by
              apply Array.toList_inj.1; simp [strV_size]
            simp only [newRow, Sem.run_bind, run_newObj, Result.andThen_ok, Sem.run_pure]
            rw [harr]
            have hsz : (bytesOf len y).length + (cap - len) = cap := by rw [bytesOf_length]; omega
            simp [markStringish, World.shape?, World.freeze, strV_size, hsz, push_modify]
          show ((do pure (Next.value (← convert src dst (a.eval x))) : Sem Next)).run P w = _
          rw [hx', Sem.run_bind, hgo]; rfl
        · refine old_row ⟨(bytesOf len y).map (fun b => Value.int .u8 (Int.ofNat b)), List.replicate (cap - len) (.int .u8 0), e, (cap, cap + 1), rfl, ?_, by simp, ?_⟩
          · have : ∀ l : List Nat, VRs (ρ.put b (w.heap.size, cap - len, 0)) env (l.map fun b => AV.i .u8 (Int.ofNat b)) (l.map fun b => Value.int .u8 (Int.ofNat b)) := by
              intro l
              induction l with
              | nil => simp [VRs]
              | cons z l ih => simp only [List.map_cons, VRs, VR]; exact ⟨_, _, rfl, rfl, ih⟩
            exact this _
          · right; simp [bytesOf_length]; omega
        · have := val_sl (ρ := ρ) (env := env) w.heap.size (cap - len) b len len true
          have e : len + (cap - len) = cap := by omega
          simpa [e] using this
      · cases h
    · cases h
  case range t x =>
    unfold lRange at h
    split at h
    · rename_i len y ht hx
      cases h
      have hx' := hE hx
      simp only [VR] at hx'
      exact ⟨.stringIter (strV len y) 0, 0, .pointer (some ⟨w.heap.size, 0, none⟩), w.drawn, by simp [execOp, Instr.range, hx', run_underlying ht], fun b hb => ⟨⟨rfl, rfl⟩, val_p _ _ _⟩⟩
    · cases h
end
end Go.Ai
/- Writing rows of cells. -/
namespace Go.Ai
section
variable {P : Program} {env : Nat → Value} {ρ : Ren} {H : Heap} {w : World} {ng ro : Nat} {T : TT AV} {a : Act}

def avOne : AV → Bool
  | .ag _ | .tu _ | .by_ _ _ => false
  | _ => true
theorem avOne_ok (h1 : ∀ n, (env n).oneCell' = true) {v : AV} {u : Value} (h : VR ρ env v u) (ho : avOne v = true) : u.oneCell' = true := by
  cases v <;> simp only [VR] at h <;> try (simp [avOne] at ho; done)
  case q n => rw [h]; exact h1 n
  all_goals first
    | (subst h; rfl)
    | (obtain ⟨c, x, hc, rfl⟩ := h; rfl)
    | (obtain ⟨g, c, x, _, rfl, _⟩ := h; rfl)
    | (obtain ⟨c, x, rfl, _⟩ := h; rfl)
    | (obtain ⟨c, x, rfl⟩ := h; rfl)
    | (obtain ⟨c, rfl, _⟩ := h; rfl)
theorem avOnes_ok (h1 : ∀ n, (env n).oneCell' = true) : ∀ {l : List AV} {k : List Value}, VRs ρ env l k → l.all avOne = true → ∀ u ∈ k, u.oneCell' = true
  | [], k, h, _, u, hu => by simp only [VRs] at h; subst h; simp at hu
  | c :: l, k, h, ho, u, hu => by
    simp only [VRs] at h
    obtain ⟨x, us, rfl, h2, h3⟩ := h
    rw [List.all_cons, Bool.and_eq_true] at ho
    simp only [List.mem_cons] at hu
    rcases hu with rfl | hu
    · exact avOne_ok h1 h2 ho.1
    · exact avOnes_ok h1 h3 ho.2 u hu

theorem spl_set {α : Type} (cs : List α) (off : Nat) (v : α) (vs : List α) (h : off + 1 + vs.length ≤ cs.length) : spl (cs.set off v) (off + 1) vs = spl cs off (v :: vs) := by
  unfold spl
  apply List.ext_getElem?
  intro i
  simp only [List.getElem?_append, List.length_take, List.length_set, List.getElem?_take, List.getElem?_drop, List.length_cons, List.getElem?_set, List.getElem?_cons]
  have m1 : min (off + 1) cs.length = off + 1 := by omega
  have m0 : min off cs.length = off := by omega
  simp only [m0, m1]
  by_cases h1 : i < off
  · have a1 : i < off + 1 := by omega
    have a4 : ¬ off = i := by omega
    simp [a1, h1, a4]
  · by_cases h2 : i = off
    · subst h2
      have a5 : i < cs.length := by omega
      simp [a5]
    · have a1 : ¬ i < off + 1 := by omega
      have a6 : i - off = (i - (off + 1)) + 1 := by omega
      simp only [h1, a1, if_false, a6, Nat.add_lt_add_iff_right, Nat.add_one_ne_zero, Nat.add_sub_cancel]
      by_cases h3 : i - (off + 1) < vs.length
      · simp [h3]
      · have a7 : ¬ off = off + 1 + vs.length + (i - (off + 1) - vs.length) := by omega
        simp only [h3, if_false, a7]
        congr 1; omega

theorem set_self (h : Array Obj) (c : Nat) (o : Obj) (hc : h[c]? = some o) : h.setIfInBounds c o = h := by
  apply Array.ext_getElem?
  intro i
  by_cases hi : c = i
  · subst hi
    have := (Array.getElem?_eq_some_iff.1 hc).1
    simp [this]
    obtain ⟨h1, h2⟩ := Array.getElem?_eq_some_iff.1 hc
    exact h2.symm
  · rw [Array.getElem?_setIfInBounds_ne hi]
theorem run_storeCells_row {sz : Nat} (c off : Nat) (t : TypeId) (fz : Nat × Nat) : ∀ (vs : List Value) (i : Nat) (l : List Value) (w : World), w.heap[c]? = some (.cells ⟨l⟩ t fz) → off + i + vs.length ≤ l.length → loose sz l.length fz → (∀ v ∈ vs, v.oneCell' = true) →
    (storeCells ⟨c, off, none⟩ vs i).run P w = .ok () { w with heap := w.heap.setIfInBounds c (.cells ⟨spl l (off + i) vs⟩ t fz) }
  | [], i, l, w, hg, hl, _, _ => by
    have e : spl l (off + i) [] = l := by simp [spl]
    rw [e]
    simp only [storeCells, Sem.run_pure]
    rw [set_self _ _ _ hg]
  | v :: rest, i, l, w, hg, hl, hz, h1 => by
    simp only [List.length_cons] at hl
    have hi : off + i < l.length := by omega
    have hcell : w.cell? ⟨c, off + i, none⟩ = some l[off + i] := by simp [World.cell?, hg, hi]
    have hfro : w.frozen? ⟨c, off + i, none⟩ = false := by
      have := hz.not hi
      simp only [World.frozen?, hg, Bool.and_eq_false_iff, decide_eq_false_iff_not]
      by_cases h : fz.1 ≤ off + i
      · right; intro h'; exact this ⟨h, h'⟩
      · left; exact h
    have hset : w.setCell ⟨c, off + i, none⟩ v = { w with heap := w.heap.setIfInBounds c (.cells ⟨l.set (off + i) v⟩ t fz) } := by
      have hlt := (Array.getElem?_eq_some_iff.1 hg).1
      unfold World.setCell
      congr 1
      apply Array.ext_getElem?
      intro j
      rw [Array.getElem?_modify]
      by_cases hj : c = j
      · subst hj
        have hget := (Array.getElem?_eq_some_iff.1 hg).2
        simp [hget, hlt]
      · rw [Array.getElem?_setIfInBounds_ne hj]; simp [hj]
    have hst : (store ((⟨c, off, none⟩ : Addr).add i) v).run P w = .ok () { w with heap := w.heap.setIfInBounds c (.cells ⟨l.set (off + i) v⟩ t fz) } := by
      rw [add_none, run_store P w _ v _ (h1 v (by simp)), hcell]
      simp [hfro, hset]
    have hlt := (Array.getElem?_eq_some_iff.1 hg).1
    have ih := run_storeCells_row c off t fz rest (i + 1) (l.set (off + i) v) { w with heap := w.heap.setIfInBounds c (.cells ⟨l.set (off + i) v⟩ t fz) } (by simp [hlt]) (by simp; omega) (by simpa using hz) (fun x hx => h1 x (by simp [hx]))
    simp only [storeCells, Sem.run_bind, hst, Result.andThen_ok, ih]
    have e : off + (i + 1) = off + i + 1 := by omega
    rw [e, spl_set _ _ _ _ (by omega)]
    simp

noncomputable def AO.write (o : AO) (off : Nat) (c : List AV) : Option AO :=
  match o with
  | .cells sz cs => bif Nat.ble (Nat.add off c.length) cs.length then some (.cells sz (spl cs off c)) else none
  | .bytes len x => match toB c with
    | some (n, y) => bif Nat.ble (Nat.add off n) len then some (.bytes len (over x off n y)) else none
    | none => none
  | _ => none
theorem view_over (len x off n y : Nat) (h : off + n ≤ len) : (bytesOf len (over x off n y)).map (fun b => AV.i .u8 (Int.ofNat b)) = spl ((bytesOf len x).map fun b => AV.i .u8 (Int.ofNat b)) off ((bytesOf n y).map fun b => AV.i .u8 (Int.ofNat b)) := by
  apply List.ext_getElem?
  intro i
  unfold spl
  simp only [List.getElem?_map, bytesOf_get, byteAt_over, List.getElem?_append, List.length_take, List.length_map, bytesOf_length, List.getElem?_take, List.getElem?_drop]
  have m : min off len = off := by omega
  simp only [m]
  by_cases h1 : i < off
  · have : i < len := by omega
    simp [h1, this]
  · simp only [h1, if_false]
    by_cases h2 : i - off < n
    · have a1 : i < len := by omega
      have a2 : i < off + n := by omega
      simp [h2, a1, a2]
    · have a2 : ¬ i < off + n := by omega
      have a3 : off + n + (i - off - n) = i := by omega
      simp only [h2, if_false, a2, a3]
theorem AO.write_view {o o' : AO} {off : Nat} {c : List AV} (h : o.write off c = some o') : ∃ sz cs, o.view = some (sz, cs) ∧ o'.view = some (sz, spl cs off c) ∧ off + c.length ≤ cs.length := by
  cases o with
  | cells sz cs =>
    simp only [AO.write] at h
    cases hb : Nat.ble (Nat.add off c.length) cs.length with
    | false => rw [hb] at h; cases h
    | true => rw [hb] at h; cases h; exact ⟨sz, cs, rfl, rfl, ble_true hb⟩
  | bytes len x =>
    simp only [AO.write] at h
    split at h
    · rename_i n y hy
      cases hb : Nat.ble (Nat.add off n) len with
      | false => rw [hb] at h; cases h
      | true =>
        rw [hb] at h; cases h
        have hle : off + n ≤ len := ble_true hb
        have hc := toB_ok hy
        refine ⟨1, _, rfl, ?_, ?_⟩
        · simp only [AO.view, view_over _ _ _ _ _ hle, hc]
        · rw [← hc]; simpa [bytesOf_length] using hle
    · cases h
  | _ => simp [AO.write] at h

theorem spl_mid {α : Type} {pre k rest us : List α} {s off : Nat} (hp : pre.length = s) (h : off + us.length ≤ k.length) : spl (pre ++ (k ++ rest)) (off + s) us = pre ++ (spl k off us ++ rest) := by
  subst hp
  unfold spl
  rw [show off + pre.length = pre.length + off by omega, show pre.length + off + us.length = pre.length + (off + us.length) by omega, List.take_length_add_append, List.drop_length_add_append,
    List.take_append_of_le_length (by omega), List.drop_append_of_le_length (by omega)]
  simp
theorem AO.write_pk {o o' : AO} {off : Nat} {c : List AV} (h : o.write off c = some o') : o'.pk = o.pk := by
  cases o with
  | cells sz cs =>
    simp only [AO.write] at h
    cases hb : Nat.ble (Nat.add off c.length) cs.length with
    | false => rw [hb] at h; cases h
    | true => rw [hb] at h; cases h; rfl
  | bytes len x =>
    simp only [AO.write] at h
    split at h
    · rename_i n y hy
      cases hb : Nat.ble (Nat.add off n) len with
      | false => rw [hb] at h; cases h
      | true => rw [hb] at h; cases h; rfl
    · cases h
  | _ => simp [AO.write] at h
/-- cells are written at a known place -/
theorem write_ok (r : Rel env ρ H w) {b c off : Nat} {x : Nat × Nat} {o o' : AO} {l : List AV} {us : List Value} (hro : ro ≤ b) (hb : H.t.get b = some o) (hc : ρ b = some (c, x)) (hw : o.write off l = some o') (hl : VRs ρ env l us) (h1 : l.all avOne = true) :
    ∃ w', (storeCells ⟨c, off + x.2, none⟩ us).run P w = .ok () w' ∧ Step env ro ρ H w ρ (H.put b o') w' := by
  obtain ⟨ob, h2, h3⟩ := r.obj _ _ _ _ hb hc
  obtain ⟨sz, cs, h4, h5, h6⟩ := AO.write_view hw
  obtain ⟨pre, k, rest, t, fz, rfl, h7, h8, hp, h9⟩ := h3.row h4
  have hlen := hl.length
  have hk := h7.length
  have hst := run_storeCells_row (P := P) c (off + x.2) t fz us 0 (pre ++ (k ++ rest)) w h2 (by have := hp.len; simp; omega) (by simpa using h9) (avOnes_ok r.one hl h1)
  refine ⟨_, hst, Step.write r hro hb hc ?_⟩
  refine ObjR.of_row h5 ⟨pre, spl k off us, rest, t, fz, ?_, h7.spl hl off, h8, (AO.write_pk hw).symm ▸ hp, ?_⟩
  · rw [Nat.add_zero, spl_mid hp.len (by omega)]
  · rw [spl_length _ _ _ (by omega)]; exact h9

/-- what is told of an operation that writes -/
def Writes (env : Nat → Value) (ro : Nat) (ρ : Ren) (H : Heap) (w : World) (r : Result Next) (v : AV) (H' : Heap) : Prop :=
  ∃ n u w' ρ', r = .ok n w' ∧ (n = .value u ∨ (n = .skip ∧ u = undef)) ∧ VR ρ' env v u ∧ Step env ro ρ H w ρ' H' w'

end
end Go.Ai
