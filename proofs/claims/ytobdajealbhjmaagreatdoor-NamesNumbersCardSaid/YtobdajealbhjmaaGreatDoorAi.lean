/- Diff's loop: bytes that are the same are passed over. -/
import Derived.Test.YtobdajealbhjmaaGreatDoorAh
import Derived.Deep.QuietTactic
import Derived.BigQuiet
import Derived.Test.YtobdajealbhjmaaGreatDoorAf
namespace Go.Ai
open Go.Proofs Go.Proofs.YtobdajealbhjmaaGreatDoor Go.RowKit
noncomputable def diffBody : Code := ((Tryz.f97.body).bind findLoop).getD .skip
set_option maxRecDepth 100000 in
set_option maxHeartbeats 800000 in
theorem diff_round {Q : Exit → Act → World → Prop} {w : World} {p1 p2 b1 o1 l1 c1 b2 o2 l2 c2 n i : Nat} {x y : Nat → Nat} (s0 s1 s2 s3 s4 s5 s6 s7 s8 s9 s10 s11 s12 s13 s14 s15 s16 s17 s18 s19 s20 s21 s22 s23 s24 s25 s26 s27 s28 s29 s30 s31 s32 s33 s34 s35 s36 s37 s38 s39 s40 s41 s42 s43 s44 s45 s46 s47 s48 s49 : Value) (hin : i < n) (hn1 : n ≤ l1) (hn2 : n ≤ l2) (hbig : n ≤ 281474976710656)
    (hp1 : w.cell? ⟨p1, 0, none⟩ = some (.slice (some ⟨b1, o1, none⟩) l1 c1)) (hp2 : w.cell? ⟨p2, 0, none⟩ = some (.slice (some ⟨b2, o2, none⟩) l2 c2))
    (hb1 : w.cell? ⟨b1, o1 + i, none⟩ = some (.int .u8 (x i : Int))) (hb2 : w.cell? ⟨b2, o2 + i, none⟩ = some (.int .u8 (y i : Int))) (he : x i = y i)
    (h2 : s2 = .pointer (some ⟨p1, 0, none⟩)) (h3 : s3 = .pointer (some ⟨p2, 0, none⟩)) (h20 : s20 = .int .i64 (n : Int)) (h21 : s21 = .int .i64 (i : Int))
    (hK : ∀ (d : Nat) (r9 r22 r23 r24 r25 r26 r27 r28 r29 r30 r31 r32 r46 : Value), Q .normal ⟨#[s0, s1, s2, s3, s4, s5, s6, s7, s8, r9, s10, s11, s12, s13, s14, s15, s16, s17, s18, s19, s20, .int .i64 ((i : Int) + 1), r22, r23, r24, r25, r26, r27, r28, r29, r30, r31, r32, s33, s34, s35, s36, s37, s38, s39, s40, s41, s42, s43, s44, s45, r46, s47, s48, s49], []⟩ { w with drawn := d }) :
    diffBody.wp Tryz.prog Q ⟨#[s0, s1, s2, s3, s4, s5, s6, s7, s8, s9, s10, s11, s12, s13, s14, s15, s16, s17, s18, s19, s20, s21, s22, s23, s24, s25, s26, s27, s28, s29, s30, s31, s32, s33, s34, s35, s36, s37, s38, s39, s40, s41, s42, s43, s44, s45, s46, s47, s48, s49], []⟩ w := by
  subst h2 h3 h20 h21
  have hlt : decide ((i : Int) < (n : Int)) = true := by simp; omega
  have hlt1 : (i : Int) < (l1 : Int) := by omega
  have hlt2 : (i : Int) < (l2 : Int) := by omega
  have heq : ((x i : Int) == (y i : Int)) = true := by simp [he]
  have hw : IntKind.i64.wrap ((i : Int) + 1) = ((i + 1 : Nat) : Int) := by rw [IntKind.wrap_i64]; omega
  have HK := hide hK
  clear hK he
  have hbody : diffBody = diffBody := rfl
  conv at hbody => rhs; whnf
  rw [hbody]
  clear hbody
  go_wp2_with (go_quiet (fail))
  exact HK.out _ _ _ _ _ _ _ _ _ _ _ _ _ _
set_option maxRecDepth 100000 in
theorem diff_step {Q : Exit → Act → World → Prop} {a : Act} {w : World} {p1 p2 b1 o1 l1 c1 b2 o2 l2 c2 n i : Nat} {x y : Nat → Nat} (hin : i < n) (hn1 : n ≤ l1) (hn2 : n ≤ l2) (hbig : n ≤ 281474976710656)
    (hp1 : w.cell? ⟨p1, 0, none⟩ = some (.slice (some ⟨b1, o1, none⟩) l1 c1)) (hp2 : w.cell? ⟨p2, 0, none⟩ = some (.slice (some ⟨b2, o2, none⟩) l2 c2))
    (hb1 : w.cell? ⟨b1, o1 + i, none⟩ = some (.int .u8 (x i : Int))) (hb2 : w.cell? ⟨b2, o2 + i, none⟩ = some (.int .u8 (y i : Int))) (he : x i = y i) (hz : a.tmps.size = 50) (hd : a.defers = [])
    (h2 : a.tmps[2]? = some (.pointer (some ⟨p1, 0, none⟩))) (h3 : a.tmps[3]? = some (.pointer (some ⟨p2, 0, none⟩))) (h20 : a.tmps[20]? = some (.int .i64 (n : Int))) (h21 : a.tmps[21]? = some (.int .i64 (i : Int)))
    (hK : ∀ (a' : Act) (d : Nat), a'.tmps.size = 50 → a'.defers = [] → (∀ t, t < 9 ∨ t = 20 → a'.tmps[t]? = a.tmps[t]?) → a'.tmps[21]? = some (.int .i64 ((i + 1 : Nat) : Int)) → Q .normal a' { w with drawn := d }) : diffBody.wp Tryz.prog Q a w := by
  obtain ⟨⟨l⟩, ds⟩ := a
  simp only at hd
  subst hd
  match l, hz with
  | s0 :: s1 :: s2 :: s3 :: s4 :: s5 :: s6 :: s7 :: s8 :: s9 :: s10 :: s11 :: s12 :: s13 :: s14 :: s15 :: s16 :: s17 :: s18 :: s19 :: s20 :: s21 :: s22 :: s23 :: s24 :: s25 :: s26 :: s27 :: s28 :: s29 :: s30 :: s31 :: s32 :: s33 :: s34 :: s35 :: s36 :: s37 :: s38 :: s39 :: s40 :: s41 :: s42 :: s43 :: s44 :: s45 :: s46 :: s47 :: s48 :: s49 :: [], _ =>
    simp only [List.getElem?_toArray, List.getElem?_cons_succ, List.getElem?_cons_zero, Option.some.injEq] at h2 h3 h20 h21
    refine diff_round (x := x) (y := y) s0 s1 s2 s3 s4 s5 s6 s7 s8 s9 s10 s11 s12 s13 s14 s15 s16 s17 s18 s19 s20 s21 s22 s23 s24 s25 s26 s27 s28 s29 s30 s31 s32 s33 s34 s35 s36 s37 s38 s39 s40 s41 s42 s43 s44 s45 s46 s47 s48 s49 hin hn1 hn2 hbig hp1 hp2 hb1 hb2 he h2 h3 h20 h21 fun d r9 r22 r23 r24 r25 r26 r27 r28 r29 r30 r31 r32 r46 => hK _ d rfl rfl (fun t ht => ?_) rfl
    subst h2 h3 h20
    have ht' : t = 0 ∨ t = 1 ∨ t = 2 ∨ t = 3 ∨ t = 4 ∨ t = 5 ∨ t = 6 ∨ t = 7 ∨ t = 8 ∨ t = 20 := by omega
    rcases ht' with rfl | rfl | rfl | rfl | rfl | rfl | rfl | rfl | rfl | rfl <;> rfl
theorem diff_skips {Q : Exit → Act → World → Prop} {p1 p2 b1 o1 l1 c1 b2 o2 l2 c2 n : Nat} {x y : Nat → Nat} (hn1 : n ≤ l1) (hn2 : n ≤ l2) (hbig : n ≤ 281474976710656) : ∀ (k i : Nat) (a : Act) (w : World),
    i + k ≤ n → (∀ j, j < k → x (i + j) = y (i + j)) →
    w.cell? ⟨p1, 0, none⟩ = some (.slice (some ⟨b1, o1, none⟩) l1 c1) → w.cell? ⟨p2, 0, none⟩ = some (.slice (some ⟨b2, o2, none⟩) l2 c2) →
    (∀ j, j < n → w.cell? ⟨b1, o1 + j, none⟩ = some (.int .u8 (x j : Int))) → (∀ j, j < n → w.cell? ⟨b2, o2 + j, none⟩ = some (.int .u8 (y j : Int))) → a.tmps.size = 50 → a.defers = [] →
    a.tmps[2]? = some (.pointer (some ⟨p1, 0, none⟩)) → a.tmps[3]? = some (.pointer (some ⟨p2, 0, none⟩)) → a.tmps[20]? = some (.int .i64 (n : Int)) → a.tmps[21]? = some (.int .i64 (i : Int)) →
    (∀ (a' : Act) (d : Nat), a'.tmps.size = 50 → a'.defers = [] → (∀ t, t < 9 ∨ t = 20 → a'.tmps[t]? = a.tmps[t]?) → a'.tmps[21]? = some (.int .i64 ((i + k : Nat) : Int)) → LoopWp none Tryz.prog diffBody Q a' { w with drawn := d }) →
    LoopWp none Tryz.prog diffBody Q a w
  | 0, i, a, w, _, _, _, _, _, _, hz, hd, _, _, _, h21, hK => hK a w.drawn hz hd (fun _ _ => rfl) h21
  | k + 1, i, a, w, hik, hxy, hp1, hp2, hb1, hb2, hz, hd, h2, h3, h20, h21, hK => by
    refine loop_step ((wpIn_wide (n := 0)).2 ?_)
    refine diff_step (x := x) (y := y) (by omega) hn1 hn2 hbig hp1 hp2 (hb1 i (by omega)) (hb2 i (by omega)) (by simpa using hxy 0 (by omega)) hz hd h2 h3 h20 h21 fun a' d hz' hd' hs h21' => ?_
    refine diff_skips hn1 hn2 hbig k (i + 1) a' { w with drawn := d } (by omega) (fun j hj => by have := hxy (j + 1) (by omega); rwa [show i + (j + 1) = i + 1 + j by omega] at this) hp1 hp2 hb1 hb2 hz' hd'
      ((hs 2 (.inl (by omega))).trans h2) ((hs 3 (.inl (by omega))).trans h3) ((hs 20 (.inr rfl)).trans h20) h21' fun a'' d' hz'' hd'' hs' h21'' => ?_
    exact hK a'' d' hz'' hd'' (fun t ht => (hs' t ht).trans (hs t ht)) (by rw [show i + (k + 1) = i + 1 + k by omega]; exact h21'')
end Go.Ai
/- Summary: Diff. -/
namespace Go.Ai
open Go.Proofs Go.Proofs.YtobdajealbhjmaaGreatDoor Go.RowKit
def loopsIn : Code → List Code
  | .seq a b => loopsIn a ++ loopsIn b
  | .cond _ a b => loopsIn a ++ loopsIn b
  | .block _ c => loopsIn c
  | .loop c => c :: loopsIn c
  | _ => []
/-- the interpreter, with a word ahead of each round -/
noncomputable def exDX (ng : Nat) (F : Fns) (h : TT AV → Heap → Option (TT AV × Heap)) (ih : Nat → Code → TT AV → Heap → R0) (nt : Nat) (code : Code) (T : TT AV) (H : Heap) : R0 :=
  match code with
  | .seq a b => match ih nt a T H with
    | .ok .normal T' H' => ih nt b T' H'
    | r => r
  | .cond c a b => match ev ng T c with
    | some (.b true) => ih nt a T H
    | some (.b false) => ih nt b T H
    | _ => .no
  | .block id c => match ih nt c T H with
    | .ok (.exit id') T' H' => bif Nat.beq id' id then .ok .normal T' H' else .ok (.exit id') T' H'
    | r => r
  | .loop c => match h T H with
    | some (T0, H0) => match ih nt c T0 H0 with
      | .ok .normal T' H' => ih nt (.loop c) T' H'
      | r => r
    | none => .no
  | c => bif noRF c then F.ex nt c T H else .no
noncomputable def exD (ng : Nat) (F : Fns) (h : TT AV → Heap → Option (TT AV × Heap)) (n : Nat) : Nat → Code → TT AV → Heap → R0 :=
  Nat.rec (fun _ _ _ _ => .no) (fun _ ih => exDX ng F h ih) n
section
variable {P : Program} {env : Nat → Value} {ng ro : Nat}
def HookOK (P : Program) (env : Nat → Value) (ro nt : Nat) (c : Code) (h : TT AV → Heap → Option (TT AV × Heap)) : Prop :=
  ∀ (T T' : TT AV) (H H' : Heap) (ρ : Ren) (a : Act) (w : World) (Q : Exit → Act → World → Prop), Rel env ρ H w → FR ρ env T a.tmps → a.tmps.size = nt → a.defers = [] → h T H = some (T', H') →
    (∀ (a' : Act) (w' : World), Step env ro ρ H w ρ H' w' → FR ρ env T' a'.tmps → a'.tmps.size = nt → a'.defers = [] → LoopWp none P c Q a' w') → LoopWp none P c Q a w
def ExDOK (P : Program) (env : Nat → Value) (ro ng nt : Nat) (c0 : Code) (ex : Nat → Code → TT AV → Heap → R0) : Prop :=
  ∀ (n0 : MK) (code : Code) (T : TT AV) (H : Heap) (ρ : Ren) (a : Act) (w : World) (e : Ex) (T' : TT AV) (H' : Heap), n0.2 = some [] → (∀ c ∈ loopsIn code, c = c0) → Rel env ρ H w → GOK ng ρ → FR ρ env T a.tmps → a.tmps.size = nt → Marks n0 ρ H w a.defers →
    ex nt code T H = .ok e T' H' →
    code.wpIn (Fc none) 0 P (Post env ro ng nt n0 ρ H w e T' H') a w ∧ ∀ c, code = .loop c → LoopWp none P c (Post env ro ng nt n0 ρ H w e T' H') a w
theorem exDX_ok {F : Fns} (hF : FnsOK P env ro ng F) {nt : Nat} {c0 : Code} {h : TT AV → Heap → Option (TT AV × Heap)} (hh : HookOK P env ro nt c0 h) {ih : Nat → Code → TT AV → Heap → R0} (hih : ExDOK P env ro ng nt c0 ih) : ExDOK P env ro ng nt c0 (exDX ng F h ih) := by
  intro n0 code T H ρ a w e T' H' hn hl r hg hT hs hd hx
  unfold exDX at hx
  split at hx
  · rename_i x y
    refine ⟨wpIn_seq ?_, fun c e => by cases e⟩
    have hl1 : ∀ c ∈ loopsIn x, c = c0 := fun c hc => hl c (by simp [loopsIn, hc])
    have hl2 : ∀ c ∈ loopsIn y, c = c0 := fun c hc => hl c (by simp [loopsIn, hc])
    split at hx
    · rename_i T1 H1 h1
      refine wpIn_mono (hih n0 x T H ρ a w .normal T1 H1 hn hl1 r hg hT hs hd h1).1 fun e' a' w' hq => ?_
      obtain ⟨ρ', rfl, h2, h3, h4, h5, h6⟩ := hq
      exact wpIn_mono (hih n0 y T1 H1 ρ' a' w' e T' H' hn hl2 h6.rel h5 h2 h3 h4 hx).1 fun _ _ _ hq => hq.trans h6
    · rename_i hne
      refine wpIn_mono (hih n0 x T H ρ a w e T' H' hn hl1 r hg hT hs hd hx).1 fun e' a' w' hq => ?_
      obtain ⟨ρ', rfl, h2⟩ := hq
      cases e with
      | normal => exact absurd hx (hne T' H')
      | exit id => exact ⟨ρ', rfl, h2⟩
      | goto l => exact ⟨ρ', rfl, h2⟩
      | ret => exact ⟨ρ', rfl, h2⟩
  · rename_i c x y
    have hl1 : ∀ c ∈ loopsIn x, c = c0 := fun c hc => hl c (by simp [loopsIn, hc])
    have hl2 : ∀ c ∈ loopsIn y, c = c0 := fun c hc => hl c (by simp [loopsIn, hc])
    refine ⟨?_, fun c e => by cases e⟩
    split at hx
    · rename_i hc
      have := ev_ok (a := a) (env := env) hg hT hc
      simp only [VR] at this
      exact wpIn_cond_true this (hih n0 x T H ρ a w e T' H' hn hl1 r hg hT hs hd hx).1
    · rename_i hc
      have := ev_ok (a := a) (env := env) hg hT hc
      simp only [VR] at this
      exact wpIn_cond_false this (hih n0 y T H ρ a w e T' H' hn hl2 r hg hT hs hd hx).1
    · cases hx
  · rename_i id c
    have hl1 : ∀ x ∈ loopsIn c, x = c0 := fun x hc => hl x (by simp [loopsIn, hc])
    refine ⟨wpIn_block ?_, fun c e => by cases e⟩
    split at hx
    · rename_i id' T1 H1 h1
      refine wpIn_mono (hih n0 c T H ρ a w (.exit id') T1 H1 hn hl1 r hg hT hs hd h1).1 fun e' a' w' hq => ?_
      obtain ⟨ρ', rfl, h2⟩ := hq
      cases hb : Nat.beq id' id with
      | true =>
        rw [hb] at hx; cases hx
        have := beq_true hb
        subst this
        simp only [toExit, Exit.inBlock, if_true]
        exact ⟨ρ', rfl, h2⟩
      | false =>
        rw [hb] at hx; cases hx
        simp only [toExit, Exit.inBlock, if_neg (beq_false hb)]
        exact ⟨ρ', rfl, h2⟩
    · rename_i hne
      refine wpIn_mono (hih n0 c T H ρ a w e T' H' hn hl1 r hg hT hs hd hx).1 fun e' a' w' hq => ?_
      obtain ⟨ρ', rfl, h2⟩ := hq
      cases e with
      | normal => exact ⟨ρ', rfl, h2⟩
      | exit id' => exact absurd hx (hne id' T' H')
      | goto l => exact ⟨ρ', rfl, h2⟩
      | ret => exact ⟨ρ', rfl, h2⟩
  · rename_i c
    have hc0 : c = c0 := hl c (by simp [loopsIn])
    have hl1 : ∀ x ∈ loopsIn c, x = c0 := fun x hc => hl x (by simp [loopsIn, hc])
    have key : LoopWp none P c (Post env ro ng nt n0 ρ H w e T' H') a w := by
      split at hx
      · rename_i T0 H0 hT0
        subst hc0
        refine hh T T0 H H0 ρ a w _ r hT hs (hd.keep _ hn) hT0 fun a1 w1 s1 hF1 hs1 hd1 => ?_
        refine loop_step ?_
        have hd1' : Marks n0 ρ H0 w1 a1.defers := by
          rw [hd1, ← hd.keep _ hn]
          exact hd.step s1
        split at hx
        · rename_i T1 H1 h1
          refine wpIn_mono (hih n0 c T0 H0 ρ a1 w1 .normal T1 H1 hn hl1 s1.rel hg hF1 hs1 hd1' h1).1 fun e' a' w' hq => ?_
          obtain ⟨ρ', rfl, h2, h3, h4, h5, h6⟩ := hq
          have := (hih n0 (.loop c) T1 H1 ρ' a' w' e T' H' hn hl h6.rel h5 h2 h3 h4 hx).2 c rfl
          intro b k cs hro hb hr
          obtain ⟨e2, a2, w2, h7, h8⟩ := this b k cs hro hb hr
          exact ⟨e2, a2, w2, Post.trans s1 (h7.trans h6), h8⟩
        · rename_i hne
          refine wpIn_mono (hih n0 c T0 H0 ρ a1 w1 e T' H' hn hl1 s1.rel hg hF1 hs1 hd1' hx).1 fun e' a' w' hq => ?_
          have hq' := Post.trans s1 hq
          obtain ⟨ρ', rfl, h2⟩ := hq'
          cases e with
          | normal => exact absurd hx (hne T' H')
          | exit id => exact ⟨ρ', rfl, h2⟩
          | goto l => exact ⟨ρ', rfl, h2⟩
          | ret => exact ⟨ρ', rfl, h2⟩
      · cases hx
    exact ⟨loop_of key, fun d e => by cases e; exact key⟩
  · cases hq : noRF code with
    | false => rw [hq] at hx; cases hx
    | true =>
      rw [hq] at hx
      exact hF.ex none nt n0 code T H ρ a w e T' H' r hg hT hs hd (fun _ => hq) hx
theorem exD_ok {F : Fns} (hF : FnsOK P env ro ng F) {nt : Nat} {c0 : Code} {h : TT AV → Heap → Option (TT AV × Heap)} (hh : HookOK P env ro nt c0 h) : ∀ n, ExDOK P env ro ng nt c0 (exD ng F h n)
  | 0 => fun n0 code T H ρ a w e T' H' _ _ _ _ _ _ _ hx => by
    have h' : R0.no = R0.ok e T' H' := hx
    cases h'
  | n + 1 => exDX_ok hF hh (exD_ok hF hh n)
noncomputable def caD (P : Program) (ng : Nat) (F : Fns) (h : TT AV → Heap → Option (TT AV × Heap)) (n : Nat) (f : FuncId) (args : List AV) (H : Heap) : Option (AV × Heap) :=
  match P.funcs[f]? with
  | some fn => match fn.body with
    | some c => finX P fn (exD ng F h n (args.length + (fn.ntmps - args.length)) c (argT 0 args .e) H)
    | none => none
  | none => none
theorem caD_ok {F : Fns} (hF : FnsOK P env ro ng F) {c0 : Code} {h : TT AV → Heap → Option (TT AV × Heap)} {n : Nat} {f : FuncId} {fn : Func} {c : Code} {nt : Nat} (hfn : P.funcs[f]? = some fn) (hc : fn.body = some c) (hl : ∀ x ∈ loopsIn c, x = c0) (hh : HookOK P env ro nt c0 h)
    {args : List AV} (hnt0 : args.length + (fn.ntmps - args.length) = nt) {us : List Value} {H : Heap} {w : World} {ρ : Ren} {v : AV} {H' : Heap} (r : Rel env ρ H w) (hg : GOK ng ρ) (ha : VRs ρ env args us) (hx : caD P ng F h n f args H = some (v, H')) :
    Calls P f ⟨us⟩ w fun e w' => ∃ u ρ', e = .returned u ∧ VR ρ' env v u ∧ Step env ro ρ H w ρ' H' w' := by
  unfold caD at hx
  rw [hfn] at hx
  simp only [hc] at hx
  have hlen := ha.length
  have hnt : ((⟨us⟩ : Array Value) ++ Array.replicate (fn.ntmps - (⟨us⟩ : Array Value).size) undef).size = args.length + (fn.ntmps - args.length) := by simp [hlen]
  have hfr : FR ρ env (argT 0 args .e) ((⟨us⟩ : Array Value) ++ Array.replicate (fn.ntmps - (⟨us⟩ : Array Value).size) undef) := fun t x ht => by
    rw [argT_get] at ht
    split at ht
    · rename_i hlt
      rw [Nat.sub_zero] at ht
      obtain ⟨u, h1, h2⟩ := ha.get ht
      refine ⟨u, ?_, h2⟩
      rw [Array.getElem?_append_left (by simp; omega)]
      simpa using h1
    · simp [TT.get_e] at ht
  subst hnt0
  have key : ∀ e T1 H1, (e = .normal ∨ e = .ret) → exD ng F h n (args.length + (fn.ntmps - args.length)) c (argT 0 args .e) H = .ok e T1 H1 → ∀ vs, resA P T1 H1 fn.results.toList = some vs → v = oneOf vs → H' = H1 → Calls P f ⟨us⟩ w fun e w' => ∃ u ρ', e = .returned u ∧ VR ρ' env v u ∧ Step env ro ρ H w ρ' H' w' := fun e T1 H1 he hex vs hres hv hH => by
    subst hv hH
    have hwp := (exD_ok hF hh n (w.heap.size, some []) c (argT 0 args .e) H ρ { tmps := (⟨us⟩ : Array Value) ++ Array.replicate (fn.ntmps - (⟨us⟩ : Array Value).size) undef, defers := [] } w e T1 H' rfl hl r hg hfr hnt ⟨Nat.le_refl _, fun d0 h => (by cases h; rfl), [], rfl, .nil, fun D hD => by cases hD⟩ hex).1
    refine (callsIn_wide (n := 0)).1 (callsIn_of_wp_marks (F := Fence.wide) hfn hc trivial (wpIn_mono hwp fun e' a' w' hq => ?_))
    obtain ⟨ρ', rfl, h2, h3, h4, h5, h6⟩ := hq
    have h4' : Marks (w.heap.size, none) ρ' H' w' a'.defers := ⟨h4.le, fun _ h => (by cases h), h4.row⟩
    suffices hle : LeavesInM Fence.wide 0 P fn a'.tmps (fun e w' => ∃ u ρ', e = .returned u ∧ VR ρ' env (oneOf vs) u ∧ Step env ro ρ H w ρ' H' w') a'.defers .returning w' by
      rcases he with rfl | rfl <;> exact hle
    refine leaves_marks (ρ' := ρ') (H' := H') (fun w' h6 => ?_) h4' h6
    obtain ⟨xs, h7, h8⟩ := resA_ok (P := P) h6.rel h2 fn.results.toList vs hres
    have hrun : (results fn a'.tmps).run P w' = .ok (if h : xs.length = 1 then xs[0] else .tuple ⟨xs⟩) w' := by
      unfold results
      rw [Sem.run_bind, Array.mapM_eq_mapM_toList, Sem.run_map]
      have h7' := h7
      refine Eq.trans (congrArg (fun z : Result (List Value) => (z.andThen fun a w' => Result.ok a.toArray w').andThen _) h7') ?_
      simp only [Result.andThen_ok, Sem.run_pure]
      congr 1
    have hval : VR ρ' env (oneOf vs) (if h : xs.length = 1 then xs[0] else .tuple ⟨xs⟩) := by
      have hl := h8.length
      match vs, xs, h8, hl with
      | [], [], _, _ => simp [oneOf, VR, VRs]
      | [v], [x], h8, _ =>
        simp only [VRs] at h8
        obtain ⟨u, us, h9, h10, _⟩ := h8
        cases h9
        simpa [oneOf] using h10
      | v1 :: v2 :: vs, x1 :: x2 :: xs, h8, _ =>
        have : ¬ (x1 :: x2 :: xs).length = 1 := by simp
        rw [dif_neg this]
        simp only [oneOf, VR]
        exact ⟨_, rfl, h8⟩
    exact ⟨_, hrun, _, ρ', rfl, hval, h6⟩
  unfold finX at hx
  split at hx
  · rename_i T1 H1 hex
    split at hx
    · rename_i vs hvs
      cases hx
      exact key .normal T1 _ (.inl rfl) hex vs hvs rfl rfl
    · cases hx
  · rename_i T1 H1 hex
    split at hx
    · rename_i vs hvs
      cases hx
      exact key .ret T1 _ (.inr rfl) hex vs hvs rfl rfl
    · cases hx
  · cases hx
/-! the word for Diff -/
noncomputable def skipN (x o y p n i : Nat) : Nat :=
  (Nat.rec (fun _ => 0) (fun _ ih i => cond (Nat.beq (byteAt x (Nat.add o i)) (byteAt y (Nat.add p i))) (Nat.succ (ih (Nat.succ i))) 0) n : Nat → Nat) i
theorem skipN_ok (x o y p : Nat) : ∀ n i, skipN x o y p n i ≤ n ∧ ∀ j, j < skipN x o y p n i → byteAt x (o + (i + j)) = byteAt y (p + (i + j))
  | 0, i => ⟨Nat.le_refl _, fun j hj => absurd hj (Nat.not_lt_zero _)⟩
  | n + 1, i => by
    have he : skipN x o y p (n + 1) i = cond (Nat.beq (byteAt x (o + i)) (byteAt y (p + i))) (skipN x o y p n (i + 1) + 1) 0 := rfl
    cases hb : Nat.beq (byteAt x (o + i)) (byteAt y (p + i)) with
    | false => rw [he, hb]; exact ⟨Nat.zero_le _, fun j hj => absurd hj (Nat.not_lt_zero _)⟩
    | true =>
      rw [he, hb]
      obtain ⟨h1, h2⟩ := skipN_ok x o y p n (i + 1)
      refine ⟨Nat.succ_le_succ h1, fun j hj => ?_⟩
      cases j with
      | zero => exact beq_true hb
      | succ j => have := h2 j (Nat.lt_of_succ_lt_succ hj); rwa [show i + (j + 1) = i + 1 + j by omega]
noncomputable def keepT : List Nat → TT AV → TT AV → TT AV
  | [], _, R => R
  | t :: l, T, R => match T.get t with
    | some v => keepT l T (R.set v t)
    | none => keepT l T R
theorem keepT_get (T : TT AV) : ∀ (l : List Nat) (R : TT AV) (t : Nat) (v : AV), (keepT l T R).get t = some v → (t ∈ l ∧ T.get t = some v) ∨ R.get t = some v
  | [], R, t, v, h => .inr h
  | s :: l, R, t, v, h => by
    simp only [keepT] at h
    split at h
    · rename_i u hu
      rcases keepT_get T l _ t v h with h1 | h1
      · exact .inl ⟨by simp [h1.1], h1.2⟩
      · rw [TT.get_set] at h1
        by_cases e : t = s
        · subst e; rw [if_pos rfl] at h1; cases h1; exact .inl ⟨by simp, hu⟩
        · rw [if_neg e] at h1; exact .inr h1
    · rcases keepT_get T l _ t v h with h1 | h1
      · exact .inl ⟨by simp [h1.1], h1.2⟩
      · exact .inr h1
noncomputable def hookD (T : TT AV) (H : Heap) : Option (TT AV × Heap) :=
  match T.get 2, T.get 3, T.get 20, T.get 21 with
  | some (.p p1 0), some (.p p2 0), some (.i .i64 (.ofNat n)), some (.i .i64 (.ofNat i)) => match H.t.get p1, H.t.get p2 with
    | some (.cells 0 [.sl b1 o1 l1 _ _]), some (.cells 0 [.sl b2 o2 l2 _ _]) => match H.t.get b1, H.t.get b2 with
      | some (.bytes L1 x), some (.bytes L2 y) => bif Nat.ble n l1 && (Nat.ble n l2 && (Nat.ble n 281474976710656 && (Nat.ble i n && (Nat.ble (Nat.add o1 n) L1 && Nat.ble (Nat.add o2 n) L2)))) then
          some (keepT [2, 3, 4, 5, 6, 7, 8, 20] T ((TT.e).set (.i .i64 (.ofNat (Nat.add i (skipN x o1 y o2 (Nat.sub n i) i)))) 21), H) else none
      | _, _ => none
    | _, _ => none
  | _, _, _, _ => none
theorem cell_one {ρ : Ren} {H : Heap} {w : World} (r : Rel env ρ H w) {p b o l c : Nat} {op : Bool} (h : H.t.get p = some (.cells 0 [.sl b o l c op])) {q : Nat} {x : Nat × Nat} (hq : ρ p = some (q, x)) :
    x.2 = 0 ∧ ∃ g y, ρ b = some (g, y) ∧ w.cell? ⟨q, 0, none⟩ = some (.slice (some ⟨g, o + y.2, none⟩) l (c + if op then y.1 else 0)) := by
  obtain ⟨ob, h0, hob⟩ := r.obj _ _ _ _ h hq
  have hx := (obj_zero (by decide) hob).1
  obtain ⟨u, h1, h2⟩ := cell_of_get r (off := 0) h hq (v := .sl b o l c op) (by simp [AO.cell])
  simp only [VR] at h2
  obtain ⟨g, y, h3, rfl⟩ := h2
  rw [hx] at h1
  exact ⟨hx, g, y, h3, h1⟩
theorem hookD_ok : HookOK Tryz.prog env ro 50 diffBody hookD := by
  intro T T' H H' ρ a w Q r hF hz hd h hK
  unfold hookD at h
  split at h
  · rename_i p1 p2 n i e2 e3 e20 e21
    split at h
    · rename_i b1 o1 l1 c1 q1 b2 o2 l2 c2 q2 e4 e5
      split at h
      · rename_i L1 x L2 y e6 e7
        cases hq : Nat.ble n l1 && (Nat.ble n l2 && (Nat.ble n 281474976710656 && (Nat.ble i n && (Nat.ble (Nat.add o1 n) L1 && Nat.ble (Nat.add o2 n) L2)))) with
        | false => rw [hq] at h; cases h
        | true =>
          rw [hq] at h; cases h
          simp only [Bool.and_eq_true] at hq
          obtain ⟨g1, g2, g3, g4, g5, g6⟩ := hq
          have g1 := ble_true g1
          have g2 := ble_true g2
          have g3 := ble_true g3
          have g4 := ble_true g4
          have g5 : o1 + n ≤ L1 := ble_true g5
          have g6 : o2 + n ≤ L2 := ble_true g6
          obtain ⟨u2, x2, y2⟩ := hF _ _ e2
          obtain ⟨u3, x3, y3⟩ := hF _ _ e3
          obtain ⟨u20, x20, y20⟩ := hF _ _ e20
          obtain ⟨u21, x21, y21⟩ := hF _ _ e21
          simp only [VR] at y2 y3 y20 y21
          obtain ⟨m1, z1, k1, rfl⟩ := y2
          obtain ⟨m2, z2, k2, rfl⟩ := y3
          subst y20 y21
          obtain ⟨hz1, d1, v1, k3, k4⟩ := cell_one r e4 k1
          rw [hz1] at x2
          obtain ⟨hz2, d2, v2, k5, k6⟩ := cell_one r e5 k2
          rw [hz2] at x3
          obtain ⟨s1, s2⟩ := skipN_ok x o1 y o2 (n - i) i
          refine diff_skips (x := fun j => byteAt x (o1 + j)) (y := fun j => byteAt y (o2 + j)) g1 g2 g3 (skipN x o1 y o2 (n - i) i) i a w (by omega) s2 k4 k6
            (fun j hj => bytes_cells r e6 k3 g5 j hj) (fun j hj => bytes_cells r e7 k5 g6 j hj) hz hd x2 x3 x20 x21 fun a' d hz' hd' hs h21 => hK a' _ (Step.drew r d) (fun t v ht => ?_) hz' hd'
          rcases keepT_get _ _ _ _ _ ht with ⟨h1, h2⟩ | h1
          · obtain ⟨u, h3, h4⟩ := hF _ _ h2
            exact ⟨u, (hs t (by simp at h1; omega)).trans h3, h4⟩
          · rw [TT.get_set, TT.get_e] at h1
            by_cases e : t = 21
            · subst e; rw [if_pos rfl] at h1; cases h1
              exact ⟨_, h21, by simp only [VR]; rfl⟩
            · rw [if_neg e] at h1; cases h1
      · cases h
    · cases h
  · cases h
/-! the hook at closures -/
noncomputable def loopHN (h : TT AV → Heap → Option (TT AV × Heap)) (A : GoC) (ih : Fns) (n : Nat) : TT AV → Heap → R0 :=
  @Nat.rec (fun _ => TT AV → Heap → R0) (fun _ _ => .no) (fun _ again T H => bR (h T H) fun p => Prod.rec (motive := fun _ => R0) (fun T0 H0 => loopB A again ih T0 H0) p) n
noncomputable def cdH (P : Program) (ng ro N nt : Nat) (h : TT AV → Heap → Option (TT AV × Heap)) (c : Code) : GoC :=
  @Code.rec (fun _ => GoC) (cdC P ng ro N nt .skip) (fun i ops d => cdC P ng ro N nt (.region i ops d)) (fun _ _ a b => seqC a b) (fun c _ _ a b => condC (evC ng c) a b) (fun id _ a => blockC id a) (fun _ a => ⟨fun ih T H => loopHN h a ih N T H⟩)
    (fun _ _ _ _ _ _ => ⟨fun _ _ _ => .no⟩) (fun id => cdC P ng ro N nt (.exit id)) (fun _ _ => ⟨fun _ _ _ => .no⟩) (fun l => cdC P ng ro N nt (.label l)) (fun l => cdC P ng ro N nt (.goto l)) (cdC P ng ro N nt .ret) (fun _ => ⟨fun _ _ _ => .no⟩) c
theorem exD_mono {ng : Nat} {F : Fns} {h : TT AV → Heap → Option (TT AV × Heap)} : ∀ (n m nt : Nat) (c : Code) (T : TT AV) (H : Heap) (e : Ex) (T' : TT AV) (H' : Heap), n ≤ m → exD ng F h n nt c T H = .ok e T' H' → exD ng F h m nt c T H = .ok e T' H'
  | 0, m, nt, c, T, H, e, T', H', _, hx => by
    have h' : R0.no = R0.ok e T' H' := hx
    cases h'
  | n + 1, 0, nt, c, T, H, e, T', H', hm, _ => by omega
  | n + 1, m + 1, nt, c, T, H, e, T', H', hm, hx => by
    have ih := fun c T H e T' H' => exD_mono (ng := ng) (F := F) (h := h) n m nt c T H e T' H' (by omega)
    have hx : exDX ng F h (exD ng F h n) nt c T H = .ok e T' H' := hx
    show exDX ng F h (exD ng F h m) nt c T H = .ok e T' H'
    unfold exDX at hx ⊢
    cases c with
    | seq a b =>
      simp only at hx ⊢
      cases h1 : exD ng F h n nt a T H with
      | no => rw [h1] at hx; cases hx
      | ok e1 T1 H1 =>
        rw [h1] at hx
        rw [ih a T H e1 T1 H1 h1]
        cases e1 with
        | normal => exact ih b T1 H1 e T' H' hx
        | _ => exact hx
    | cond x a b =>
      simp only at hx ⊢
      split at hx
      · exact ih a T H e T' H' hx
      · exact ih b T H e T' H' hx
      · cases hx
    | block id a =>
      simp only at hx ⊢
      cases h1 : exD ng F h n nt a T H with
      | no => rw [h1] at hx; cases hx
      | ok e1 T1 H1 =>
        rw [h1] at hx
        rw [ih a T H e1 T1 H1 h1]
        cases e1 with
        | _ => exact hx
    | loop a =>
      simp only at hx ⊢
      cases hh : h T H with
      | none => rw [hh] at hx; cases hx
      | some p =>
        obtain ⟨T0, H0⟩ := p
        rw [hh] at hx
        simp only at hx ⊢
        cases h1 : exD ng F h n nt a T0 H0 with
        | no => rw [h1] at hx; cases hx
        | ok e1 T1 H1 =>
          rw [h1] at hx
          rw [ih a T0 H0 e1 T1 H1 h1]
          cases e1 with
          | normal => exact ih (.loop a) T1 H1 e T' H' hx
          | _ => exact hx
    | _ => exact hx
theorem cdH_ex {P : Program} {ng ro N nt : Nat} {h : TT AV → Heap → Option (TT AV × Heap)} {ih : Fns} : ∀ (c : Code) (T : TT AV) (H : Heap) (e : Ex) (T' : TT AV) (H' : Heap), (cdH P ng ro N nt h c).run ih T H = .ok e T' H' → ∃ n, exD ng (exF P ng ro N ih) h n nt c T H = .ok e T' H' := by
  have base : ∀ (c : Code) (T : TT AV) (H : Heap) (e : Ex) (T' : TT AV) (H' : Heap), noRF c = true → (∀ a b, c ≠ .seq a b) → (∀ x a b, c ≠ .cond x a b) → (∀ i a, c ≠ .block i a) → (∀ a, c ≠ .loop a) → (cdC P ng ro N nt c).run ih T H = .ok e T' H' → ∃ n, exD ng (exF P ng ro N ih) h n nt c T H = .ok e T' H' := fun c T H e T' H' hn h1 h2 h3 h4 hx => by
    refine ⟨1, ?_⟩
    show exDX ng (exF P ng ro N ih) h (exD ng (exF P ng ro N ih) h 0) nt c T H = _
    unfold exDX
    cases c with
    | seq a b => exact absurd rfl (h1 a b)
    | cond x a b => exact absurd rfl (h2 x a b)
    | block i a => exact absurd rfl (h3 i a)
    | loop a => exact absurd rfl (h4 a)
    | _ => simp only [hn, cond_true]; exact hx
  intro c
  induction c with
  | skip => exact fun T H e T' H' hx => base .skip T H e T' H' rfl (fun _ _ e => by cases e) (fun _ _ _ e => by cases e) (fun _ _ e => by cases e) (fun _ e => by cases e) hx
  | region i ops d => exact fun T H e T' H' hx => base (.region i ops d) T H e T' H' rfl (fun _ _ e => by cases e) (fun _ _ _ e => by cases e) (fun _ _ e => by cases e) (fun _ e => by cases e) hx
  | exit id => exact fun T H e T' H' hx => base (.exit id) T H e T' H' rfl (fun _ _ e => by cases e) (fun _ _ _ e => by cases e) (fun _ _ e => by cases e) (fun _ e => by cases e) hx
  | label l => exact fun T H e T' H' hx => base (.label l) T H e T' H' rfl (fun _ _ e => by cases e) (fun _ _ _ e => by cases e) (fun _ _ e => by cases e) (fun _ e => by cases e) hx
  | goto l => exact fun T H e T' H' hx => base (.goto l) T H e T' H' rfl (fun _ _ e => by cases e) (fun _ _ _ e => by cases e) (fun _ _ e => by cases e) (fun _ e => by cases e) hx
  | ret => exact fun T H e T' H' hx => base .ret T H e T' H' rfl (fun _ _ e => by cases e) (fun _ _ _ e => by cases e) (fun _ _ e => by cases e) (fun _ e => by cases e) hx
  | rangeFunc g ps asn bdn _ _ => exact fun T H e T' H' hx => by cases hx
  | scope a _ => exact fun T H e T' H' hx => by cases hx
  | refuse why => exact fun T H e T' H' hx => by cases hx
  | seq a b iha ihb =>
    intro T H e T' H' hx
    have hx : @R0.rec (fun _ => R0) (fun e T' H' => @Ex.rec (fun _ => R0) ((cdH P ng ro N nt h b).run ih T' H') (fun id => .ok (.exit id) T' H') (fun l => .ok (.goto l) T' H') (.ok .ret T' H') e) .no ((cdH P ng ro N nt h a).run ih T H) = .ok e T' H' := hx
    cases h1 : (cdH P ng ro N nt h a).run ih T H with
    | no => rw [h1] at hx; cases hx
    | ok e1 T1 H1 =>
      rw [h1] at hx
      obtain ⟨n1, k1⟩ := iha T H e1 T1 H1 h1
      cases e1 with
      | normal =>
        obtain ⟨n2, k2⟩ := ihb T1 H1 e T' H' hx
        refine ⟨n1 + n2 + 1, ?_⟩
        show exDX ng (exF P ng ro N ih) h (exD ng (exF P ng ro N ih) h (n1 + n2)) nt (.seq a b) T H = _
        simp only [exDX, exD_mono n1 (n1 + n2) nt a T H _ _ _ (by omega) k1, exD_mono n2 (n1 + n2) nt b T1 H1 _ _ _ (by omega) k2]
      | _ =>
        refine ⟨n1 + 1, ?_⟩
        show exDX ng (exF P ng ro N ih) h (exD ng (exF P ng ro N ih) h n1) nt (.seq a b) T H = _
        simp only [exDX, k1]
        exact hx
  | cond x a b iha ihb =>
    intro T H e T' H' hx
    have hx : bR ((evC ng x).run T) (fun v => boolR v ((cdH P ng ro N nt h a).run ih T H) ((cdH P ng ro N nt h b).run ih T H)) = .ok e T' H' := hx
    rw [evC_eq] at hx
    cases h1 : ev ng T x with
    | none => rw [h1] at hx; cases hx
    | some v =>
      rw [h1] at hx
      cases v with
      | b y =>
        cases y with
        | true =>
          obtain ⟨n, k⟩ := iha T H e T' H' hx
          refine ⟨n + 1, ?_⟩
          show exDX ng (exF P ng ro N ih) h (exD ng (exF P ng ro N ih) h n) nt (.cond x a b) T H = _
          simp only [exDX, h1]
          exact k
        | false =>
          obtain ⟨n, k⟩ := ihb T H e T' H' hx
          refine ⟨n + 1, ?_⟩
          show exDX ng (exF P ng ro N ih) h (exD ng (exF P ng ro N ih) h n) nt (.cond x a b) T H = _
          simp only [exDX, h1]
          exact k
      | _ => cases hx
  | block id a iha =>
    intro T H e T' H' hx
    have hx : @R0.rec (fun _ => R0) (fun e T' H' => @Ex.rec (fun _ => R0) (.ok .normal T' H') (fun id' => Bool.rec (motive := fun _ => R0) (.ok (.exit id') T' H') (.ok .normal T' H') (Nat.beq id' id)) (fun l => .ok (.goto l) T' H') (.ok .ret T' H') e) .no ((cdH P ng ro N nt h a).run ih T H) = .ok e T' H' := hx
    cases h1 : (cdH P ng ro N nt h a).run ih T H with
    | no => rw [h1] at hx; cases hx
    | ok e1 T1 H1 =>
      rw [h1] at hx
      obtain ⟨n, k⟩ := iha T H e1 T1 H1 h1
      refine ⟨n + 1, ?_⟩
      show exDX ng (exF P ng ro N ih) h (exD ng (exF P ng ro N ih) h n) nt (.block id a) T H = _
      simp only [exDX, k]
      cases e1 with
      | exit id' =>
        simp only []
        cases hb : Nat.beq id' id with
        | true => simp only [hb] at hx; exact hx
        | false => simp only [hb] at hx; exact hx
      | _ => exact hx
  | loop a iha =>
    have key : ∀ (m : Nat) (T : TT AV) (H : Heap) (e : Ex) (T' : TT AV) (H' : Heap), loopHN h (cdH P ng ro N nt h a) ih m T H = .ok e T' H' → ∃ n, exD ng (exF P ng ro N ih) h n nt (.loop a) T H = .ok e T' H' := by
      intro m
      induction m with
      | zero => intro T H e T' H' hx; cases hx
      | succ m ihm =>
        intro T H e T' H' hx
        have hx : bR (h T H) (fun p => Prod.rec (motive := fun _ => R0) (fun T0 H0 => @R0.rec (fun _ => R0) (fun e T' H' => @Ex.rec (fun _ => R0) (loopHN h (cdH P ng ro N nt h a) ih m T' H') (fun id => .ok (.exit id) T' H') (fun l => .ok (.goto l) T' H') (.ok .ret T' H') e) .no ((cdH P ng ro N nt h a).run ih T0 H0)) p) = .ok e T' H' := hx
        cases hh : h T H with
        | none => rw [hh] at hx; cases hx
        | some p =>
          obtain ⟨T0, H0⟩ := p
          rw [hh] at hx
          have hx : @R0.rec (fun _ => R0) (fun e T' H' => @Ex.rec (fun _ => R0) (loopHN h (cdH P ng ro N nt h a) ih m T' H') (fun id => .ok (.exit id) T' H') (fun l => .ok (.goto l) T' H') (.ok .ret T' H') e) .no ((cdH P ng ro N nt h a).run ih T0 H0) = .ok e T' H' := hx
          cases h1 : (cdH P ng ro N nt h a).run ih T0 H0 with
          | no => rw [h1] at hx; cases hx
          | ok e1 T1 H1 =>
            rw [h1] at hx
            obtain ⟨n1, k1⟩ := iha T0 H0 e1 T1 H1 h1
            cases e1 with
            | normal =>
              obtain ⟨n2, k2⟩ := ihm T1 H1 e T' H' hx
              refine ⟨n1 + n2 + 1, ?_⟩
              show exDX ng (exF P ng ro N ih) h (exD ng (exF P ng ro N ih) h (n1 + n2)) nt (.loop a) T H = _
              simp only [exDX, hh, exD_mono n1 (n1 + n2) nt a T0 H0 _ _ _ (by omega) k1, exD_mono n2 (n1 + n2) nt (.loop a) T1 H1 _ _ _ (by omega) k2]
            | _ =>
              refine ⟨n1 + 1, ?_⟩
              show exDX ng (exF P ng ro N ih) h (exD ng (exF P ng ro N ih) h n1) nt (.loop a) T H = _
              simp only [exDX, hh, k1]
              exact hx
    intro T H e T' H' hx
    exact key N T H e T' H' hx
/-- a function run with a word ahead of each round -/
noncomputable def caH (P : Program) (ng ro N : Nat) (ih : Fns) (h : TT AV → Heap → Option (TT AV × Heap)) (f : FuncId) (args : List AV) (H : Heap) : Option (AV × Heap) :=
  match P.funcs[f]? with
  | some fn => match fn.body with
    | some c => Bool.rec (motive := fun _ => Option (AV × Heap)) none (finC (resC P fn.results.toList) ((cdH P ng ro N fn.ntmps h c).run ih (argF args 0 .e) H)) (Nat.ble (lenF' args) fn.ntmps)
    | none => none
  | none => none
theorem caH_some {P : Program} {ng ro N : Nat} {ih : Fns} {h : TT AV → Heap → Option (TT AV × Heap)} {f : FuncId} {args : List AV} {H : Heap} {r : AV × Heap} (hx : caH P ng ro N ih h f args H = some r) : ∃ n, caD P ng (exF P ng ro N ih) h n f args H = some r := by
  unfold caH at hx
  unfold caD
  split at hx
  · rename_i fn hfn
    split at hx
    · rename_i c hc
      rw [argF_eq, lenF'_eq] at hx
      obtain ⟨h1, hx⟩ := brec_some hx
      have h1 := ble_true h1
      have hnt : args.length + (fn.ntmps - args.length) = fn.ntmps := by omega
      simp only [hnt]
      cases hR : (cdH P ng ro N fn.ntmps h c).run ih (argT 0 args .e) H with
      | no => rw [hR] at hx; cases hx
      | ok e T1 H1 =>
        obtain ⟨n, hn⟩ := cdH_ex c _ _ _ _ _ hR
        refine ⟨n, ?_⟩
        rw [hn]
        rw [hR] at hx
        have fin : bO ((resC P fn.results.toList).run T1 H1) (fun vs => some (oneL vs, H1)) = some r → (match resA P T1 H1 fn.results.toList with | some vs => some (oneOf vs, H1) | none => none) = some r := fun h => by
          obtain ⟨vs, h2, h⟩ := bO_some h
          rw [oneL_eq] at h
          simp only [resC_some h2]
          exact h
        cases e with
        | normal => exact fin hx
        | ret => exact fin hx
        | _ => cases hx
    · cases hx
  · cases hx
noncomputable def sDiff (ng ro : Nat) (args : List AV) (H : Heap) : Option (AV × Heap) :=
  match args with
  | [a, b] => caH Tryz.prog ng ro 1000000 (fnsC Tryz.prog ng ro 1000000 S0 100) hookD 97 [a, b] H
  | _ => none
theorem diff_loops : ((Tryz.f97.body).map loopsIn) = some [diffBody] := by kernel_rfl
theorem diff_nt : Tryz.f97.ntmps = 50 := by kernel_rfl
theorem caH_ok {P : Program} {S : Sums} {N m : Nat} (hN : NamesOK P) (hm : P.follows .mixedOrders = true) (hS : SumsOK P env ro ng S) {c0 : Code} {h : TT AV → Heap → Option (TT AV × Heap)} {f : FuncId} {fn : Func} {c : Code} {nt : Nat} (hfn : P.funcs[f]? = some fn) (hc : fn.body = some c) (hl : ∀ x ∈ loopsIn c, x = c0) (hh : HookOK P env ro nt c0 h)
    {args : List AV} (hnt0 : args.length + (fn.ntmps - args.length) = nt) {us : List Value} {H : Heap} {w : World} {ρ : Ren} {v : AV} {H' : Heap} (r : Rel env ρ H w) (hg : GOK ng ρ) (ha : VRs ρ env args us) (hx : caH P ng ro N (fnsC P ng ro N S m) h f args H = some (v, H')) :
    Calls P f ⟨us⟩ w fun e w' => ∃ u ρ', e = .returned u ∧ VR ρ' env v u ∧ Step env ro ρ H w ρ' H' w' := by
  obtain ⟨n, h⟩ := caH_some hx
  exact caD_ok (exF_ok hN hm hS m) hfn hc hl hh hnt0 r hg ha h
theorem sDiff_ok : SumOK Tryz.prog env ro ng 97 (sDiff ng ro) := by
  intro args us H w ρ v H' r hg ha h
  unfold sDiff at h
  split at h
  · rename_i a b
    obtain ⟨c, hc, hl⟩ := Option.map_eq_some_iff.1 diff_loops
    exact caH_ok namesOK (by kernel_rfl) S0_ok Tryz.func97 hc (c0 := diffBody) (fun x hx => by rw [hl] at hx; simpa using hx) hookD_ok (by rw [diff_nt]; rfl) r hg ha h
  · cases h
end
end Go.Ai
/- Format's loop: all blocks are written at once. -/
namespace Go.Ai
open Go.Proofs Go.Proofs.YtobdajealbhjmaaGreatDoor Go.RowKit
section
variable {env : Nat → Value} {ng ro : Nat}
/-- Write at a number that is not known -/
noncomputable def sWQ (ro i : Nat) (args : List AV) (H : Heap) : Option (AV × Heap) :=
  match args with
  | [.p d 0, .q 1, .sl b 0 512 _ _] => match H.t.get d with
    | some (.cells 0 [.q 2, .q 0, .m o, .i .i64 (.ofNat 0), .b false]) => match H.t.get b with
      | some (.bytes l x) => match H.t.get o with
        | some (.pm l' n0 u) => bif Nat.ble ro o && (Nat.beq l 512 && (Nat.beq l' 512 && Nat.beq n0 0)) then
            some (.i .i64 (.ofNat 0), H.put o (.pm 512 0 (u.set (cut x 0 512) i))) else none
        | _ => none
      | _ => none
    | _ => none
  | _ => none
theorem sWQ_ok {i n : Nat} (hi : i < n) (he1 : env 1 = .int .i64 (i : Int)) (he2 : env 2 = .int .i64 (n : Int)) : SumOK Tryz.prog env ro ng 84 (sWQ ro i) := by
  intro args us H w ρ v H' r hg ha h
  unfold sWQ at h
  split at h
  · rename_i d b cap op
    split at h
    · rename_i o hd
      split at h
      · rename_i l x hb
        split at h
        · rename_i l' n0 u ho
          cases hq : Nat.ble ro o && (Nat.beq l 512 && (Nat.beq l' 512 && Nat.beq n0 0)) with
          | false => rw [hq] at h; cases h
          | true =>
            rw [hq] at h; cases h
            simp only [Bool.and_eq_true] at hq
            obtain ⟨g2, g3, g4, g5⟩ := hq
            have g2 := ble_true g2
            have g3 := beq_true g3
            have g4 := beq_true g4
            have g5 := beq_true g5
            subst g3 g4 g5
            simp only [VRs, VR] at ha
            obtain ⟨u1, us1, rfl, ⟨db, dx, hdc, rfl⟩, u2, us2, rfl, rfl, u3, us3, rfl, ⟨gb, gx, hgc, rfl⟩, rfl⟩ := ha
            obtain ⟨ob, w1, hobd⟩ := r.obj _ _ _ _ hd hdc
            obtain ⟨hdx, lv, rest, et, fz, rfl, w2, w3, w4⟩ := obj_zero (by decide) hobd
            simp only [VRs, VR] at w2
            obtain ⟨_, _, rfl, rfl, _, _, rfl, rfl, _, _, rfl, ⟨mo, xo, hoc, rfl⟩, _, _, rfl, rfl, _, _, rfl, rfl, rfl⟩ := w2
            obtain ⟨ob1, m1, hob⟩ := r.obj _ _ _ _ hb hgc
            have hgx := (obj_zeroB hob).1
            rw [hdx, hgx]
            obtain ⟨ob2, m3, lo, co, rfl, m4⟩ := r.obj _ _ _ _ ho hoc
            have hdg : db ≠ gb := fun e => by
              subst e
              have := r.inj d b _ _ db dx gx hd hb hdc hgc
              subst this; rw [hd] at hb; cases hb
            have hob' := ObjR.bytes_any (ρ' := fun _ => none) (env' := fun _ => env 0) hob
            rw [he1]
            rw [he2] at w1
            refine (write_walk (v1 := env 0) (xg := gx) (cap := cap + if op then gx.1 else 0) hi (r.one 0) w1 (by simpa using w4.one) m3 m4 m1 hob' hdg).mono fun e w' hq => ?_
            obtain ⟨rfl, ρ', H', st, hpm⟩ := hq
            have c5 : ρ' 5 = some (mo, 0, 0) := (st.old 5 (show 5 < 6 by decide)).trans (by simp [wrR])
            obtain ⟨ob3, k1, lz, cz, rfl, k2⟩ := st.rel.obj _ _ _ _ hpm c5
            refine ⟨_, ρ, rfl, by simp [VR], Step.one (xo := xo) r ho hoc g2 (fun c hc hne => st.keep c hc ?_) st.size st.os st.tape st.output k1 ⟨lz, cz, rfl, k2⟩⟩
            rintro ⟨b', q, x', hb', h2, h3⟩
            simp only [wrR] at h3
            rw [if_neg (by omega), if_neg (by omega)] at h3
            by_cases e5 : b' = 5
            · subst e5; simp at h3; exact hne h3.1.symm
            · rw [if_neg e5, if_neg (by omega)] at h3; cases h3
        · cases h
      · cases h
    · cases h
  · cases h
end
noncomputable def fmtBody : Code := ((Tryz.f45.body).bind findLoop).getD .skip
noncomputable def fmt9 : Code × Code := ((Tryz.f45.body).bind (findR 9)).getD (.skip, .skip)
/-- block 3 is the device, 4 what holds it, 5 the map that is open -/
noncomputable def fmH (u : TT Nat) : Heap := ⟨(((TT.e).set (.cells 0 [.q 2, .q 0, .m 5, .i .i64 (.ofNat 0), .b false]) 3).set (.cells 0 [.p 3 0]) 4).set (.pm 512 0 u) 5, 6⟩
noncomputable def fmT : TT AV := ((((TT.e).set (.p 4 0) 1).set (.q 1) 4).set (.q 2) 14).set (.q 1) 15
noncomputable def fmS (i : Nat) : Sums := sumsOf [(84, sWQ 5 i)]
noncomputable def goF (i : Nat) (u : TT Nat) : R0 := (fns Tryz.prog 3 5 (fmS i) 3).ex 31 fmt9.1 fmT (fmH u)
set_option maxRecDepth 100000 in
theorem goF_ok (i : Nat) (u : TT Nat) : goF i u = .ok .normal (resT (goF i u)) (resH (goF i u)) := by kernel_rfl
set_option maxRecDepth 100000 in
theorem goF_pm (i : Nat) (u : TT Nat) : (resH (goF i u)).t.get 5 = some (.pm 512 0 (u.set 0 i)) := by kernel_rfl
set_option maxRecDepth 100000 in
theorem goF_t (i : Nat) (u : TT Nat) : (resT (goF i u)).get 5 = some (.i .i64 (.ofNat 0)) ∧ (resT (goF i u)).get 1 = some (.p 4 0) ∧ (resT (goF i u)).get 14 = some (.q 2) ∧ (resT (goF i u)).get 15 = some (.q 1) := ⟨by kernel_rfl, by kernel_rfl, by kernel_rfl, by kernel_rfl⟩
def env3 (v1 : Value) (i n : Nat) : Nat → Value
  | 0 => v1
  | 1 => .int .i64 (i : Int)
  | _ => .int .i64 (n : Int)
def fmR (d bx mo rd rb : Nat) : Ren := fun a => if a < 3 then some (a, 0, 0) else if a = 3 then some (d, rd, 0) else if a = 4 then some (bx, rb, 0) else if a = 5 then some (mo, 0, 0) else none
/-- what Format's loop holds of the world -/
structure FmW (d bx mo n rd rb : Nat) (v1 : Value) (f : Nat → Option Nat) (w : World) : Prop where
  dev : ∃ rest e fz, w.heap[d]? = some (.cells ⟨[.int .i64 n, v1, .map (some mo), .int .i64 0, .bool false] ++ rest⟩ e fz) ∧ loose 0 (5 + rest.length) fz ∧ rest.length = rd * 0
  box : ∃ rest e fz, w.heap[bx]? = some (.cells ⟨[.pointer (some ⟨d, 0, none⟩)] ++ rest⟩ e fz) ∧ loose 0 (1 + rest.length) fz ∧ rest.length = rb * 0
  map : ∃ ls cs, w.heap[mo]? = some (.map ⟨ls⟩ cs) ∧ PMR 512 ls cs f
theorem fm_rel {d bx mo n rd rb i : Nat} {v1 : Value} {u : TT Nat} {w : World} (h1 : v1.oneCell' = true) (hw : FmW d bx mo n rd rb v1 (pget 0 u) w) (hdb : d ≠ bx) : Rel (env3 v1 i n) (fmR d bx mo rd rb) (fmH u) w := by
  obtain ⟨⟨rest, e, fz, hd, hl, hr⟩, ⟨rest2, e2, fz2, hb, hl2, hr2⟩, ls, cs, hs, hp⟩ := hw
  have hget : ∀ a, (fmH u).t.get a = if a = 5 then some (.pm 512 0 u) else if a = 4 then some (.cells 0 [.p 3 0]) else if a = 3 then some (.cells 0 [.q 2, .q 0, .m 5, .i .i64 (.ofNat 0), .b false]) else none := fun a => by
    show ((((TT.e).set _ 3).set _ 4).set _ 5).get a = _
    rw [TT.get_set, TT.get_set, TT.get_set, TT.get_e]
  have hdm : d ≠ mo := fun e => by subst e; rw [hs] at hd; cases hd
  have hgm : bx ≠ mo := fun e => by subst e; rw [hs] at hb; cases hb
  refine ⟨fun a o c y ha hc => ?_, fun a a' o o' c y y' ha ha' hc hc' => ?_, fun a ha => ?_, fun k => ?_⟩
  · rw [hget] at ha
    by_cases h6 : a = 5
    · subst h6; simp [fmR] at hc ha; obtain ⟨rfl, rfl⟩ := hc; subst ha
      exact ⟨_, hs, ls, cs, rfl, hp⟩
    · rw [if_neg h6] at ha
      by_cases h5 : a = 4
      · subst h5; simp [fmR] at hc ha; obtain ⟨rfl, rfl⟩ := hc; subst ha
        exact ⟨_, hb, old_row ⟨[.pointer (some ⟨d, 0, none⟩)], rest2, e2, fz2, rfl, by simp [VRs, VR, fmR], hr2, hl2⟩⟩
      · rw [if_neg h5] at ha
        by_cases h4 : a = 3
        · subst h4; simp [fmR] at hc ha; obtain ⟨rfl, rfl⟩ := hc; subst ha
          exact ⟨_, hd, old_row ⟨[.int .i64 n, v1, .map (some mo), .int .i64 0, .bool false], rest, e, fz, rfl, by simp [VRs, VR, fmR, env3], hr, hl⟩⟩
        · rw [if_neg h4] at ha; cases ha
  · rw [hget] at ha ha'
    have key : ∀ b q z, (if b = 5 then some (AO.pm 512 0 u) else if b = 4 then some (.cells 0 [.p 3 0]) else if b = 3 then some (.cells 0 [.q 2, .q 0, .m 5, .i .i64 (.ofNat 0), .b false]) else none) = some q → fmR d bx mo rd rb b = some (c, z) → (b = 5 ∧ c = mo) ∨ (b = 4 ∧ c = bx) ∨ (b = 3 ∧ c = d) := fun b q z h k => by
      by_cases h6 : b = 5
      · subst h6; simp [fmR] at k; exact .inl ⟨rfl, k.1.symm⟩
      · by_cases h5 : b = 4
        · subst h5; simp [fmR] at k; exact .inr (.inl ⟨rfl, k.1.symm⟩)
        · by_cases h4 : b = 3
          · subst h4; simp [fmR] at k; exact .inr (.inr ⟨rfl, k.1.symm⟩)
          · rw [if_neg h6, if_neg h5, if_neg h4] at h; cases h
    rcases key a o y ha hc with ⟨rfl, e1⟩ | ⟨rfl, e1⟩ | ⟨rfl, e1⟩ <;> rcases key a' o' y' ha' hc' with ⟨rfl, e2⟩ | ⟨rfl, e2⟩ | ⟨rfl, e2⟩ <;> first | rfl | (exfalso; omega)
  · have ha' : 6 ≤ a := ha
    rw [hget, if_neg (by omega), if_neg (by omega), if_neg (by omega)]
    simp only [fmR]
    rw [if_neg (by omega), if_neg (by omega), if_neg (by omega), if_neg (by omega)]
    exact ⟨rfl, by simp⟩
  · match k with
    | 0 => exact h1
    | 1 => rfl
    | _ + 2 => rfl
set_option maxRecDepth 100000 in
set_option maxHeartbeats 800000 in
theorem fmt_round {Q : Exit → Act → World → Prop} {w : World} {d bx mo n rd rb i : Nat} {v1 : Value} {u : TT Nat} (s0 s1 s2 s3 s4 s5 s6 s7 s8 s9 s10 s11 s12 s13 s14 s15 s16 s17 s18 s19 s20 s21 s22 s23 s24 s25 s26 s27 s28 s29 s30 : Value) (h1 : v1.oneCell' = true) (hin : i < n) (hbig : n < 9223372036854775807) (hw0 : FmW d bx mo n rd rb v1 (pget 0 u) w) (hdb : d ≠ bx)
    (q1 : s1 = .pointer (some ⟨bx, 0, none⟩)) (q14 : s14 = .int .i64 (n : Int)) (q15 : s15 = .int .i64 (i : Int))
    (hK : ∀ (a' : Act) (w' : World), a'.tmps.size = 31 → a'.defers = [] → a'.tmps[1]? = some (.pointer (some ⟨bx, 0, none⟩)) → a'.tmps[14]? = some (.int .i64 (n : Int)) → a'.tmps[15]? = some (.int .i64 ((i + 1 : Nat) : Int)) → But mo w w' → FmW d bx mo n rd rb v1 (pget 0 (u.set 0 i)) w' → Q .normal a' w') :
    fmtBody.wp Tryz.prog Q ⟨#[s0, s1, s2, s3, s4, s5, s6, s7, s8, s9, s10, s11, s12, s13, s14, s15, s16, s17, s18, s19, s20, s21, s22, s23, s24, s25, s26, s27, s28, s29, s30], []⟩ w := by
  subst q1 q14 q15
  have hlt : decide ((i : Int) < (n : Int)) = true := by simp; omega
  have hw : IntKind.i64.wrap ((i : Int) + 1) = ((i + 1 : Nat) : Int) := by rw [IntKind.wrap_i64]; omega
  have r0 := fm_rel (i := i) h1 hw0 hdb
  have R0 := hide r0
  have W0 := hide hw0
  have HK := hide hK
  clear hK r0 hw0
  have hbody : fmtBody = fmtBody := rfl
  conv at hbody => rhs; whnf
  rw [hbody]
  clear hbody
  go_wp2
  rename_i K1 hK1 K hK
  refine (wpIn_wide (n := 0)).1 (?_ : fmt9.1.wpIn (Fc none) 0 Tryz.prog _ _ _)
  have hg0 : GOK 3 (fmR d bx mo rd rb) := fun g hg => by simp [fmR, hg]
  have hS : SumsOK Tryz.prog (env3 v1 i n) 5 3 (fmS i) := sumsOf_ok _ fun p hp => by
    simp only [List.mem_cons, List.not_mem_nil, or_false] at hp
    subst hp
    exact sWQ_ok hin rfl rfl
  have hfns := fns_ok (P := Tryz.prog) (env := env3 v1 i n) (ng := 3) (ro := 5) namesOK (by kernel_rfl) hS 3
  have hmk : Marks (0, some []) (fmR d bx mo rd rb) (fmH u) w [] := ⟨Nat.zero_le _, fun d0 h => (by cases h; rfl), [], rfl, .nil, fun D hD => by cases hD⟩
  have h9 := fun a hF hsz hdf => (hfns.ex none 31 (0, some []) fmt9.1 fmT (fmH u) (fmR d bx mo rd rb) a w _ _ _ R0.out hg0 hF hsz hdf (fun _ => by kernel_rfl) (goF_ok i u)).1
  refine wpIn_mono (h9 _ ?_ rfl hmk) ?_
  · intro t v hv
    have : fmT.get t = if t = 15 then some (.q 1) else if t = 14 then some (.q 2) else if t = 4 then some (.q 1) else if t = 1 then some (.p 4 0) else none := by
      show (((((TT.e).set _ 1).set _ 4).set _ 14).set _ 15).get t = _
      simp only [TT.get_set, TT.get_e]
    rw [this] at hv
    by_cases e15 : t = 15
    · subst e15; simp at hv; subst hv
      exact ⟨_, rfl, by simp [VR, env3]⟩
    · rw [if_neg e15] at hv
      by_cases e14 : t = 14
      · subst e14; simp at hv; subst hv
        exact ⟨_, rfl, by simp [VR, env3]⟩
      · rw [if_neg e14] at hv
        by_cases e4 : t = 4
        · subst e4; simp at hv; subst hv
          exact ⟨_, rfl, by simp [VR, env3]⟩
        · rw [if_neg e4] at hv
          by_cases e1 : t = 1
          · subst e1; simp at hv; subst hv
            exact ⟨_, rfl, by simp [VR, fmR]⟩
          · rw [if_neg e1] at hv; cases hv
  rintro e1 a1 w2 ⟨ρ1, rfl, f1, z1, m1, g1, s1⟩
  simp only [toExit, Exit.then]
  refine hK _ _ ?_
  clear hK h9 hfns hS
  obtain ⟨t5, t1, t14, t15⟩ := goF_t i u
  obtain ⟨u5, x5, y5⟩ := f1 _ _ t5
  obtain ⟨u1, x1, y1⟩ := f1 _ _ t1
  obtain ⟨u14, x14, y14⟩ := f1 _ _ t14
  obtain ⟨u15, x15, y15⟩ := f1 _ _ t15
  have c4 : ρ1 4 = some (bx, rb, 0) := (s1.old 4 (show 4 < 6 by decide)).trans (by simp [fmR])
  have c5 : ρ1 5 = some (mo, 0, 0) := (s1.old 5 (show 5 < 6 by decide)).trans (by simp [fmR])
  simp only [VR, c4] at y1
  obtain ⟨_, _, e1, rfl⟩ := y1
  cases e1
  simp only [VR, env3] at y5 y14 y15
  subst y5 y14 y15
  obtain ⟨ob3, k1, lz, cz, rfl, k2⟩ := s1.rel.obj _ _ _ _ (goF_pm i u) c5
  have hkeep : ∀ c, c < w.heap.size → c ≠ mo → w2.heap[c]? = w.heap[c]? := fun c hc hne => s1.keep c hc (by
    rintro ⟨b', q, x', hb', h2, h3⟩
    simp only [fmR] at h3
    rw [if_neg (by omega), if_neg (by omega), if_neg (by omega)] at h3
    by_cases e5 : b' = 5
    · subst e5; simp at h3; exact hne h3.1.symm
    · rw [if_neg e5] at h3; cases h3)
  have hbut : But mo w w2 := ⟨hkeep, s1.size, s1.os, s1.tape, s1.output⟩
  have hw2 : FmW d bx mo n rd rb v1 (pget 0 (u.set 0 i)) w2 := by
    obtain ⟨⟨rest, e, fz, hd, hl, hr⟩, ⟨rest2, e2, fz2, hb, hl2, hr2⟩, ls, cs, hs, hp⟩ := W0.out
    have hdm : d ≠ mo := fun e => by subst e; rw [hs] at hd; cases hd
    have hgm : bx ≠ mo := fun e => by subst e; rw [hs] at hb; cases hb
    exact ⟨⟨rest, e, fz, (hkeep d (Array.getElem?_eq_some_iff.1 hd).1 hdm).trans hd, hl, hr⟩, ⟨rest2, e2, fz2, (hkeep bx (Array.getElem?_eq_some_iff.1 hb).1 hgm).trans hb, hl2, hr2⟩, lz, cz, k1, k2⟩
  have hdf := m1.keep _ rfl
  have HB := hide hbut
  have HW := hide hw2
  clear hbut hw2 hkeep k1 k2 c4 c5 s1 m1 g1 f1 hmk R0 W0
  obtain ⟨⟨l⟩, ds⟩ := a1
  simp only at hdf
  subst hdf
  match l, z1 with
  | r0 :: r1 :: r2 :: r3 :: r4 :: r5 :: r6 :: r7 :: r8 :: r9 :: r10 :: r11 :: r12 :: r13 :: r14 :: r15 :: r16 :: r17 :: r18 :: r19 :: r20 :: r21 :: r22 :: r23 :: r24 :: r25 :: r26 :: r27 :: r28 :: r29 :: r30 :: [], _ =>
    simp only [List.getElem?_toArray, List.getElem?_cons_succ, List.getElem?_cons_zero, Option.some.injEq] at x1 x5 x14 x15
    subst x1 x5 x14 x15
    go_wp2
    exact HK.out _ _ rfl rfl rfl rfl (by simp) HB.out HW.out
theorem fmt_step {Q : Exit → Act → World → Prop} {a : Act} {w : World} {d bx mo n rd rb i : Nat} {v1 : Value} {u : TT Nat} (h1 : v1.oneCell' = true) (hin : i < n) (hbig : n < 9223372036854775807) (hw0 : FmW d bx mo n rd rb v1 (pget 0 u) w) (hdb : d ≠ bx)
    (hz : a.tmps.size = 31) (hd : a.defers = []) (q1 : a.tmps[1]? = some (.pointer (some ⟨bx, 0, none⟩))) (q14 : a.tmps[14]? = some (.int .i64 (n : Int))) (q15 : a.tmps[15]? = some (.int .i64 (i : Int)))
    (hK : ∀ (a' : Act) (w' : World), a'.tmps.size = 31 → a'.defers = [] → a'.tmps[1]? = some (.pointer (some ⟨bx, 0, none⟩)) → a'.tmps[14]? = some (.int .i64 (n : Int)) → a'.tmps[15]? = some (.int .i64 ((i + 1 : Nat) : Int)) → But mo w w' → FmW d bx mo n rd rb v1 (pget 0 (u.set 0 i)) w' → Q .normal a' w') :
    fmtBody.wp Tryz.prog Q a w := by
  obtain ⟨⟨l⟩, ds⟩ := a
  simp only at hd
  subst hd
  match l, hz with
  | s0 :: s1 :: s2 :: s3 :: s4 :: s5 :: s6 :: s7 :: s8 :: s9 :: s10 :: s11 :: s12 :: s13 :: s14 :: s15 :: s16 :: s17 :: s18 :: s19 :: s20 :: s21 :: s22 :: s23 :: s24 :: s25 :: s26 :: s27 :: s28 :: s29 :: s30 :: [], _ =>
    simp only [List.getElem?_toArray, List.getElem?_cons_succ, List.getElem?_cons_zero, Option.some.injEq] at q1 q14 q15
    exact fmt_round s0 s1 s2 s3 s4 s5 s6 s7 s8 s9 s10 s11 s12 s13 s14 s15 s16 s17 s18 s19 s20 s21 s22 s23 s24 s25 s26 s27 s28 s29 s30 h1 hin hbig hw0 hdb q1 q14 q15 hK
noncomputable def zerosT : Nat → TT Nat
  | 0 => .e
  | i + 1 => (zerosT i).set 0 i
theorem zerosT_get : ∀ (n k : Nat), (zerosT n).get k = if k < n then some 0 else none
  | 0, k => by simp [zerosT, TT.get_e]
  | n + 1, k => by
    simp only [zerosT, TT.get_set, zerosT_get n k]
    by_cases h : k = n
    · subst h; simp
    · rw [if_neg h]
      by_cases h2 : k < n
      · rw [if_pos h2, if_pos (by omega)]
      · rw [if_neg h2, if_neg (by omega)]
theorem zerosT_pget (n : Nat) : pget 0 (zerosT n) = pget n .e := by
  funext k
  unfold pget
  rw [zerosT_get, TT.get_e]
  by_cases h : k < n
  · rw [if_pos h, blt_iff.2 h]; rfl
  · rw [if_neg h]
    have h0 : Nat.blt k 0 = false := by cases k <;> rfl
    have h1 : Nat.blt k n = false := by cases hb : Nat.blt k n with | false => rfl | true => exact absurd (blt_iff.1 hb) h
    rw [h0, h1]
theorem But.refl (mo : Nat) (w : World) : But mo w w := ⟨fun _ _ _ => rfl, Nat.le_refl _, rfl, rfl, rfl⟩
theorem fmt_loops {Q : Exit → Act → World → Prop} {d bx mo n rd rb : Nat} {v1 : Value} (h1 : v1.oneCell' = true) (hbig : n < 9223372036854775807) (hdb : d ≠ bx) : ∀ (k i : Nat) (a : Act) (w : World), i + k = n → FmW d bx mo n rd rb v1 (pget 0 (zerosT i)) w →
    a.tmps.size = 31 → a.defers = [] → a.tmps[1]? = some (.pointer (some ⟨bx, 0, none⟩)) → a.tmps[14]? = some (.int .i64 (n : Int)) → a.tmps[15]? = some (.int .i64 (i : Int)) →
    (∀ (a' : Act) (w' : World), a'.tmps.size = 31 → a'.defers = [] → a'.tmps[1]? = some (.pointer (some ⟨bx, 0, none⟩)) → a'.tmps[14]? = some (.int .i64 (n : Int)) → a'.tmps[15]? = some (.int .i64 (n : Int)) → But mo w w' → FmW d bx mo n rd rb v1 (pget 0 (zerosT n)) w' → LoopWp none Tryz.prog fmtBody Q a' w') →
    LoopWp none Tryz.prog fmtBody Q a w
  | 0, i, a, w, hik, hw, hz, hd, q1, q14, q15, hK => by
    obtain rfl : i = n := by omega
    exact hK a w hz hd q1 q14 q15 (But.refl mo w) hw
  | k + 1, i, a, w, hik, hw, hz, hd, q1, q14, q15, hK => by
    refine loop_step ((wpIn_wide (n := 0)).2 ?_)
    refine fmt_step h1 (by omega) hbig hw hdb hz hd q1 q14 q15 fun a' w' z' d' p1 p14 p15 hb hw' => ?_
    exact fmt_loops h1 hbig hdb k (i + 1) a' w' (by omega) hw' z' d' p1 p14 p15 fun a2 w2 z2 d2 r1 r14 r15 hb2 hw2 => hK a2 w2 z2 d2 r1 r14 r15 (hb.trans hb2) hw2
noncomputable def hookF (ro : Nat) (T : TT AV) (H : Heap) : Option (TT AV × Heap) :=
  match T.get 1, T.get 14, T.get 15 with
  | some (.p bx 0), some (.i .i64 (.ofNat n)), some (.i .i64 (.ofNat i)) => bif Nat.beq i n then some (T, H) else
    match H.t.get bx with
    | some (.cells 0 [.p d 0]) => match H.t.get d with
      | some (.cells 0 [.i .i64 (.ofNat m), .m _, .m o, .i .i64 (.ofNat 0), .b false]) => match H.t.get o with
        | some (.pm l n0 u) => bif (isE u && (Nat.beq n0 0 && (Nat.beq l 512 && (Nat.beq i 0 && (Nat.beq n m && (Nat.ble ro o && Nat.blt n 9223372036854775807)))))) then
            some ((((TT.e).set (.p bx 0) 1).set (.i .i64 (.ofNat n)) 14).set (.i .i64 (.ofNat n)) 15, H.put o (.pm 512 n .e)) else none
        | _ => none
      | _ => none
    | _ => none
  | _, _, _ => none
section
variable {env : Nat → Value} {ng ro : Nat}
theorem hookF_ok : HookOK Tryz.prog env ro 31 fmtBody (hookF ro) := by
  intro T T' H H' ρ a w Q r hF hz hd h hK
  unfold hookF at h
  split at h
  · rename_i bx n i e1 e14 e15
    cases hin : Nat.beq i n with
    | true =>
      rw [hin] at h; cases h
      exact hK a w (Step.refl r) hF hz hd
    | false =>
      rw [hin] at h
      simp only [cond_false] at h
      split at h
      · rename_i d hbx
        split at h
        · rename_i m s o hdv
          split at h
          · rename_i l n0 u ho
            cases hq : (isE u && (Nat.beq n0 0 && (Nat.beq l 512 && (Nat.beq i 0 && (Nat.beq n m && (Nat.ble ro o && Nat.blt n 9223372036854775807)))))) with
            | false => rw [hq] at h; cases h
            | true =>
              rw [hq] at h; cases h
              simp only [Bool.and_eq_true] at hq
              obtain ⟨g1, g2, g3, g4, g5, g6, g7⟩ := hq
              have g1 := isE_ok g1
              have g2 := beq_true g2
              have g3 := beq_true g3
              have g4 := beq_true g4
              have g5 := beq_true g5
              have g6 := ble_true g6
              have g7 := blt_iff.1 g7
              subst g1 g2 g3 g4 g5
              obtain ⟨u1, x1, y1⟩ := hF _ _ e1
              obtain ⟨u14, x14, y14⟩ := hF _ _ e14
              obtain ⟨u15, x15, y15⟩ := hF _ _ e15
              simp only [VR] at y1 y14 y15
              obtain ⟨bw, xb, hbc, rfl⟩ := y1
              subst y14 y15
              obtain ⟨ob0, w1, hob0⟩ := r.obj _ _ _ _ hbx hbc
              obtain ⟨hbz, lb, restb, eb, fb, rfl, w2, w3, w4⟩ := obj_zero (by decide) hob0
              rw [hbz] at x1
              simp only [VRs, VR] at w2
              obtain ⟨_, _, rfl, ⟨dw, xd, hdc, rfl⟩, rfl⟩ := w2
              obtain ⟨ob1, v1, hob1⟩ := r.obj _ _ _ _ hdv hdc
              obtain ⟨hdz, ld, restd, ed, fd, rfl, v2, v3, v4⟩ := obj_zero (by decide) hob1
              rw [hdz] at w1
              simp only [VRs, VR] at v2
              obtain ⟨_, _, rfl, rfl, _, _, rfl, ⟨ms, xs, hsc, rfl⟩, _, _, rfl, ⟨mo, xo, hoc, rfl⟩, _, _, rfl, rfl, _, _, rfl, rfl, rfl⟩ := v2
              obtain ⟨ob2, m3, lo, co, rfl, m4⟩ := r.obj _ _ _ _ ho hoc
              have hdb : dw ≠ bw := fun e => by
                subst e
                have := r.inj d bx _ _ dw xd xb hdv hbx hdc hbc
                subst this; rw [hdv] at hbx; cases hbx
              refine fmt_loops (v1 := .map (some ms)) rfl g7 hdb n 0 a w (by omega) ⟨⟨restd, ed, fd, v1, by simpa using v4, v3⟩, ⟨restb, eb, fb, w1, by simpa using w4, w3⟩, lo, co, m3, m4⟩ hz hd x1 x14 x15 fun a' w' z' d' p1 p14 p15 hb hw' => ?_
              obtain ⟨_, _, ls, cs, k1, k2⟩ := hw'
              rw [zerosT_pget] at k2
              refine hK a' w' (Step.one (xo := xo) r ho hoc g6 hb.same hb.size hb.os hb.tape hb.output k1 ⟨ls, cs, rfl, k2⟩) (fun t v ht => ?_) z' d'
              simp only [TT.get_set, TT.get_e] at ht
              by_cases t15 : t = 15
              · subst t15; rw [if_pos rfl] at ht; cases ht
                exact ⟨_, p15, by simp only [VR]; rfl⟩
              · rw [if_neg t15] at ht
                by_cases t14 : t = 14
                · subst t14; rw [if_pos rfl] at ht; cases ht
                  exact ⟨_, p14, by simp only [VR]; rfl⟩
                · rw [if_neg t14] at ht
                  by_cases t1 : t = 1
                  · subst t1; rw [if_pos rfl] at ht; cases ht
                    exact ⟨_, p1, by simp only [VR]; exact ⟨bw, xb, hbc, by rw [hbz]⟩⟩
                  · rw [if_neg t1] at ht; cases ht
          · cases h
        · cases h
      · cases h
  · cases h
noncomputable def listB (ro : Nat) : List (FuncId × (List AV → Heap → Option (AV × Heap))) :=
  [(176, sTrim), (157, sSum), (85, sSync ro), (84, sWrite ro)]
theorem listB_ok : ∀ p ∈ listB ro, SumOK Tryz.prog env ro ng p.1 p.2 := by
  intro p hp
  simp only [listB, List.mem_cons, List.not_mem_nil, or_false] at hp
  rcases hp with rfl | rfl | rfl | rfl
  · exact sTrim_ok
  · exact sSum_ok
  · exact sSync_ok
  · exact sWrite_ok
noncomputable def sFormat (ng ro : Nat) (args : List AV) (H : Heap) : Option (AV × Heap) :=
  match args with
  | [a] => caD Tryz.prog ng (fns Tryz.prog ng ro (sumsOf (listB ro)) 400) (hookF ro) 60 45 [a] H
  | _ => none
theorem fmt_loopsIn : ((Tryz.f45.body).map loopsIn) = some [fmtBody] := by kernel_rfl
theorem fmt_nt : Tryz.f45.ntmps = 31 := by kernel_rfl
theorem sFormat_ok : SumOK Tryz.prog env ro ng 45 (sFormat ng ro) := by
  intro args us H w ρ v H' r hg ha h
  unfold sFormat at h
  split at h
  · rename_i a
    obtain ⟨c, hc, hl⟩ := Option.map_eq_some_iff.1 fmt_loopsIn
    exact caD_ok (fns_ok namesOK (by kernel_rfl) (sumsOf_ok _ listB_ok) 400) Tryz.func45 hc (c0 := fmtBody) (fun x hx => by rw [hl] at hx; simpa using hx) hookF_ok (by rw [fmt_nt]; rfl) r hg ha h
  · cases h
end
end Go.Ai
