/- Diff's loop: bytes that are the same are passed over. -/
import Derived.Test.YthinojebkapgpaaGreatDoorAe
import Derived.Deep.QuietTactic
import Derived.BigQuiet
import Derived.Test.YthinojebkapgpaaGreatDoorAd
namespace Go.Ai
open Go.Proofs Go.Proofs.YthinojebkapgpaaGreatDoor Go.RowKit
noncomputable def diffBody : Code := ((Tryz.f103.body).bind findLoop).getD .skip
set_option maxRecDepth 100000 in
set_option maxHeartbeats 800000 in
theorem diff_round {Q : Exit → Act → World → Prop} {w : World} {p1 p2 b1 o1 l1 c1 b2 o2 l2 c2 n i : Nat} {x y : Nat → Nat} (s0 s1 s2 s3 s4 s5 s6 s7 s8 s9 s10 s11 s12 s13 s14 s15 s16 s17 s18 s19 s20 s21 s22 s23 s24 s25 s26 s27 s28 s29 s30 s31 s32 s33 s34 s35 s36 s37 s38 s39 s40 s41 s42 s43 s44 s45 s46 s47 s48 s49 : Value) (hin : i < n) (hn1 : n ≤ l1) (hn2 : n ≤ l2) (hbig : n ≤ 281474976710656)
    (hp1 : w.cell? ⟨p1, 0, none⟩ = some (.slice (some ⟨b1, o1, none⟩) l1 c1)) (hp2 : w.cell? ⟨p2, 0, none⟩ = some (.slice (some ⟨b2, o2, none⟩) l2 c2))
    (hb1 : w.cell? ⟨b1, o1 + i, none⟩ = some (.int .u8 (x i : Int))) (hb2 : w.cell? ⟨b2, o2 + i, none⟩ = some (.int .u8 (y i : Int))) (he : x i = y i)
    (h2 : s2 = .pointer (some ⟨p1, 0, none⟩)) (h3 : s3 = .pointer (some ⟨p2, 0, none⟩)) (h20 : s20 = .int .i64 (n : Int)) (h21 : s21 = .int .i64 (i : Int))
    (hK : ∀ (d : Nat) (r9 r22 r23 r24 r25 r26 r27 r28 r29 r30 r31 r32 r46 : Value), Q .normal ⟨#[s0, s1, s2, s3, s4, s5, s6, s7, s8, r9, s10, s11, s12, s13, s14, s15, s16, s17, s18, s19, s20, .int .i64 ((i : Int) + 1), r22, r23, r24, r25, r26, r27, r28, r29, r30, r31, r32, s33, s34, s35, s36, s37, s38, s39, s40, s41, s42, s43, s44, s45, r46, s47, s48, s49], []⟩ { w with drawn := d }) :
    diffBody.wp Tryz.prog Q ⟨#[s0, s1, s2, s3, s4, s5, s6, s7, s8, s9, s10, s11, s12, s13, s14, s15, s16, s17, s18, s19, s20, s21, s22, s23, s24, s25, s26, s27, s28, s29, s30, s31, s32, s33, s34, s35, s36, s37, s38, s39, s40, s41, s42, s43, s44, s45, s46, s47, s48, s49], []⟩ w := by
  subst h2 h3 h20 h21
  have hlt : decide ((i : Int) < (n : Int)) = true := by simp; omega
  have hlt1 : (i : Int) < (l1 : Int) := by omega
  have hlt2 : (i : Int) < (l2 : Int) := by omega
  have heq : ((x i : Int) == (y i : Int)) = true := by simp [he]
  have hw : IntKind.i64.wrap ((i : Int) + 1) = ((i + 1 : Nat) : Int) := by rw [IntKind.wrap_i64]; omega
  have HK := hide hK
  clear hK he
  have hbody : diffBody = diffBody := rfl
  conv at hbody => rhs; whnf
  rw [hbody]
  clear hbody
  go_wp2_with (go_quiet (fail))
  exact HK.out _ _ _ _ _ _ _ _ _ _ _ _ _ _
set_option maxRecDepth 100000 in
theorem diff_step {Q : Exit → Act → World → Prop} {a : Act} {w : World} {p1 p2 b1 o1 l1 c1 b2 o2 l2 c2 n i : Nat} {x y : Nat → Nat} (hin : i < n) (hn1 : n ≤ l1) (hn2 : n ≤ l2) (hbig : n ≤ 281474976710656)
    (hp1 : w.cell? ⟨p1, 0, none⟩ = some (.slice (some ⟨b1, o1, none⟩) l1 c1)) (hp2 : w.cell? ⟨p2, 0, none⟩ = some (.slice (some ⟨b2, o2, none⟩) l2 c2))
    (hb1 : w.cell? ⟨b1, o1 + i, none⟩ = some (.int .u8 (x i : Int))) (hb2 : w.cell? ⟨b2, o2 + i, none⟩ = some (.int .u8 (y i : Int))) (he : x i = y i) (hz : a.tmps.size = 50) (hd : a.defers = [])
    (h2 : a.tmps[2]? = some (.pointer (some ⟨p1, 0, none⟩))) (h3 : a.tmps[3]? = some (.pointer (some ⟨p2, 0, none⟩))) (h20 : a.tmps[20]? = some (.int .i64 (n : Int))) (h21 : a.tmps[21]? = some (.int .i64 (i : Int)))
    (hK : ∀ (a' : Act) (d : Nat), a'.tmps.size = 50 → a'.defers = [] → (∀ t, t < 9 ∨ t = 20 → a'.tmps[t]? = a.tmps[t]?) → a'.tmps[21]? = some (.int .i64 ((i + 1 : Nat) : Int)) → Q .normal a' { w with drawn := d }) : diffBody.wp Tryz.prog Q a w := by
  obtain ⟨⟨l⟩, ds⟩ := a
  simp only at hd
  subst hd
  match l, hz with
  | s0 :: s1 :: s2 :: s3 :: s4 :: s5 :: s6 :: s7 :: s8 :: s9 :: s10 :: s11 :: s12 :: s13 :: s14 :: s15 :: s16 :: s17 :: s18 :: s19 :: s20 :: s21 :: s22 :: s23 :: s24 :: s25 :: s26 :: s27 :: s28 :: s29 :: s30 :: s31 :: s32 :: s33 :: s34 :: s35 :: s36 :: s37 :: s38 :: s39 :: s40 :: s41 :: s42 :: s43 :: s44 :: s45 :: s46 :: s47 :: s48 :: s49 :: [], _ =>
    simp only [List.getElem?_toArray, List.getElem?_cons_succ, List.getElem?_cons_zero, Option.some.injEq] at h2 h3 h20 h21
    refine diff_round (x := x) (y := y) s0 s1 s2 s3 s4 s5 s6 s7 s8 s9 s10 s11 s12 s13 s14 s15 s16 s17 s18 s19 s20 s21 s22 s23 s24 s25 s26 s27 s28 s29 s30 s31 s32 s33 s34 s35 s36 s37 s38 s39 s40 s41 s42 s43 s44 s45 s46 s47 s48 s49 hin hn1 hn2 hbig hp1 hp2 hb1 hb2 he h2 h3 h20 h21 fun d r9 r22 r23 r24 r25 r26 r27 r28 r29 r30 r31 r32 r46 => hK _ d rfl rfl (fun t ht => ?_) rfl
    subst h2 h3 h20
    have ht' : t = 0 ∨ t = 1 ∨ t = 2 ∨ t = 3 ∨ t = 4 ∨ t = 5 ∨ t = 6 ∨ t = 7 ∨ t = 8 ∨ t = 20 := by omega
    rcases ht' with rfl | rfl | rfl | rfl | rfl | rfl | rfl | rfl | rfl | rfl <;> rfl
theorem diff_skips {Q : Exit → Act → World → Prop} {p1 p2 b1 o1 l1 c1 b2 o2 l2 c2 n : Nat} {x y : Nat → Nat} (hn1 : n ≤ l1) (hn2 : n ≤ l2) (hbig : n ≤ 281474976710656) : ∀ (k i : Nat) (a : Act) (w : World),
    i + k ≤ n → (∀ j, j < k → x (i + j) = y (i + j)) →
    w.cell? ⟨p1, 0, none⟩ = some (.slice (some ⟨b1, o1, none⟩) l1 c1) → w.cell? ⟨p2, 0, none⟩ = some (.slice (some ⟨b2, o2, none⟩) l2 c2) →
    (∀ j, j < n → w.cell? ⟨b1, o1 + j, none⟩ = some (.int .u8 (x j : Int))) → (∀ j, j < n → w.cell? ⟨b2, o2 + j, none⟩ = some (.int .u8 (y j : Int))) → a.tmps.size = 50 → a.defers = [] →
    a.tmps[2]? = some (.pointer (some ⟨p1, 0, none⟩)) → a.tmps[3]? = some (.pointer (some ⟨p2, 0, none⟩)) → a.tmps[20]? = some (.int .i64 (n : Int)) → a.tmps[21]? = some (.int .i64 (i : Int)) →
    (∀ (a' : Act) (d : Nat), a'.tmps.size = 50 → a'.defers = [] → (∀ t, t < 9 ∨ t = 20 → a'.tmps[t]? = a.tmps[t]?) → a'.tmps[21]? = some (.int .i64 ((i + k : Nat) : Int)) → LoopWp none Tryz.prog diffBody Q a' { w with drawn := d }) →
    LoopWp none Tryz.prog diffBody Q a w
  | 0, i, a, w, _, _, _, _, _, _, hz, hd, _, _, _, h21, hK => hK a w.drawn hz hd (fun _ _ => rfl) h21
  | k + 1, i, a, w, hik, hxy, hp1, hp2, hb1, hb2, hz, hd, h2, h3, h20, h21, hK => by
    refine loop_step ((wpIn_wide (n := 0)).2 ?_)
    refine diff_step (x := x) (y := y) (by omega) hn1 hn2 hbig hp1 hp2 (hb1 i (by omega)) (hb2 i (by omega)) (by simpa using hxy 0 (by omega)) hz hd h2 h3 h20 h21 fun a' d hz' hd' hs h21' => ?_
    refine diff_skips hn1 hn2 hbig k (i + 1) a' { w with drawn := d } (by omega) (fun j hj => by have := hxy (j + 1) (by omega); rwa [show i + (j + 1) = i + 1 + j by omega] at this) hp1 hp2 hb1 hb2 hz' hd'
      ((hs 2 (.inl (by omega))).trans h2) ((hs 3 (.inl (by omega))).trans h3) ((hs 20 (.inr rfl)).trans h20) h21' fun a'' d' hz'' hd'' hs' h21'' => ?_
    exact hK a'' d' hz'' hd'' (fun t ht => (hs' t ht).trans (hs t ht)) (by rw [show i + (k + 1) = i + 1 + k by omega]; exact h21'')
end Go.Ai
/- Summary: Diff. -/
namespace Go.Ai
open Go.Proofs Go.Proofs.YthinojebkapgpaaGreatDoor Go.RowKit
def loopsIn : Code → List Code
  | .seq a b => loopsIn a ++ loopsIn b
  | .cond _ a b => loopsIn a ++ loopsIn b
  | .block _ c => loopsIn c
  | .loop c => c :: loopsIn c
  | _ => []
/-- the interpreter, with a word ahead of each round -/
noncomputable def exDX (ng : Nat) (F : Fns) (h : TT AV → Heap → Option (TT AV)) (ih : Nat → Code → TT AV → Heap → R0) (nt : Nat) (code : Code) (T : TT AV) (H : Heap) : R0 :=
  match code with
  | .seq a b => match ih nt a T H with
    | .ok .normal T' H' => ih nt b T' H'
    | r => r
  | .cond c a b => match ev ng T c with
    | some (.b true) => ih nt a T H
    | some (.b false) => ih nt b T H
    | _ => .no
  | .block id c => match ih nt c T H with
    | .ok (.exit id') T' H' => bif Nat.beq id' id then .ok .normal T' H' else .ok (.exit id') T' H'
    | r => r
  | .loop c => match h T H with
    | some T0 => match ih nt c T0 H with
      | .ok .normal T' H' => ih nt (.loop c) T' H'
      | r => r
    | none => .no
  | c => bif noRF c then F.ex nt c T H else .no
noncomputable def exD (ng : Nat) (F : Fns) (h : TT AV → Heap → Option (TT AV)) (n : Nat) : Nat → Code → TT AV → Heap → R0 :=
  Nat.rec (fun _ _ _ _ => .no) (fun _ ih => exDX ng F h ih) n
section
variable {P : Program} {env : Nat → Value} {ng ro : Nat}
def HookOK (P : Program) (env : Nat → Value) (nt : Nat) (c : Code) (h : TT AV → Heap → Option (TT AV)) : Prop :=
  ∀ (T T' : TT AV) (H : Heap) (ρ : Ren) (a : Act) (w : World) (Q : Exit → Act → World → Prop), Rel env ρ H w → FR ρ env T a.tmps → a.tmps.size = nt → a.defers = [] → h T H = some T' →
    (∀ (a' : Act) (d : Nat), FR ρ env T' a'.tmps → a'.tmps.size = nt → a'.defers = [] → LoopWp none P c Q a' { w with drawn := d }) → LoopWp none P c Q a w
def ExDOK (P : Program) (env : Nat → Value) (ro ng nt : Nat) (c0 : Code) (ex : Nat → Code → TT AV → Heap → R0) : Prop :=
  ∀ (n0 : MK) (code : Code) (T : TT AV) (H : Heap) (ρ : Ren) (a : Act) (w : World) (e : Ex) (T' : TT AV) (H' : Heap), n0.2 = some [] → (∀ c ∈ loopsIn code, c = c0) → Rel env ρ H w → GOK ng ρ → FR ρ env T a.tmps → a.tmps.size = nt → Marks n0 ρ H w a.defers →
    ex nt code T H = .ok e T' H' →
    code.wpIn (Fc none) 0 P (Post env ro ng nt n0 ρ H w e T' H') a w ∧ ∀ c, code = .loop c → LoopWp none P c (Post env ro ng nt n0 ρ H w e T' H') a w
theorem Post.drew {n0 : MK} {nt : Nat} {ρ : Ren} {H : Heap} {w : World} {d : Nat} {e : Ex} {T' : TT AV} {H' : Heap} {e' : Exit} {a' : Act} {w' : World} (r : Rel env ρ H w) (h : Post env ro ng nt n0 ρ H { w with drawn := d } e T' H' e' a' w') : Post env ro ng nt n0 ρ H w e T' H' e' a' w' :=
  Post.trans (Step.drew r d) h
theorem exDX_ok {F : Fns} (hF : FnsOK P env ro ng F) {nt : Nat} {c0 : Code} {h : TT AV → Heap → Option (TT AV)} (hh : HookOK P env nt c0 h) {ih : Nat → Code → TT AV → Heap → R0} (hih : ExDOK P env ro ng nt c0 ih) : ExDOK P env ro ng nt c0 (exDX ng F h ih) := by
  intro n0 code T H ρ a w e T' H' hn hl r hg hT hs hd hx
  unfold exDX at hx
  split at hx
  · rename_i x y
    refine ⟨wpIn_seq ?_, fun c e => by cases e⟩
    have hl1 : ∀ c ∈ loopsIn x, c = c0 := fun c hc => hl c (by simp [loopsIn, hc])
    have hl2 : ∀ c ∈ loopsIn y, c = c0 := fun c hc => hl c (by simp [loopsIn, hc])
    split at hx
    · rename_i T1 H1 h1
      refine wpIn_mono (hih n0 x T H ρ a w .normal T1 H1 hn hl1 r hg hT hs hd h1).1 fun e' a' w' hq => ?_
      obtain ⟨ρ', rfl, h2, h3, h4, h5, h6⟩ := hq
      exact wpIn_mono (hih n0 y T1 H1 ρ' a' w' e T' H' hn hl2 h6.rel h5 h2 h3 h4 hx).1 fun _ _ _ hq => hq.trans h6
    · rename_i hne
      refine wpIn_mono (hih n0 x T H ρ a w e T' H' hn hl1 r hg hT hs hd hx).1 fun e' a' w' hq => ?_
      obtain ⟨ρ', rfl, h2⟩ := hq
      cases e with
      | normal => exact absurd hx (hne T' H')
      | exit id => exact ⟨ρ', rfl, h2⟩
      | goto l => exact ⟨ρ', rfl, h2⟩
      | ret => exact ⟨ρ', rfl, h2⟩
  · rename_i c x y
    have hl1 : ∀ c ∈ loopsIn x, c = c0 := fun c hc => hl c (by simp [loopsIn, hc])
    have hl2 : ∀ c ∈ loopsIn y, c = c0 := fun c hc => hl c (by simp [loopsIn, hc])
    refine ⟨?_, fun c e => by cases e⟩
    split at hx
    · rename_i hc
      have := ev_ok (a := a) (env := env) hg hT hc
      simp only [VR] at this
      exact wpIn_cond_true this (hih n0 x T H ρ a w e T' H' hn hl1 r hg hT hs hd hx).1
    · rename_i hc
      have := ev_ok (a := a) (env := env) hg hT hc
      simp only [VR] at this
      exact wpIn_cond_false this (hih n0 y T H ρ a w e T' H' hn hl2 r hg hT hs hd hx).1
    · cases hx
  · rename_i id c
    have hl1 : ∀ x ∈ loopsIn c, x = c0 := fun x hc => hl x (by simp [loopsIn, hc])
    refine ⟨wpIn_block ?_, fun c e => by cases e⟩
    split at hx
    · rename_i id' T1 H1 h1
      refine wpIn_mono (hih n0 c T H ρ a w (.exit id') T1 H1 hn hl1 r hg hT hs hd h1).1 fun e' a' w' hq => ?_
      obtain ⟨ρ', rfl, h2⟩ := hq
      cases hb : Nat.beq id' id with
      | true =>
        rw [hb] at hx; cases hx
        have := beq_true hb
        subst this
        simp only [toExit, Exit.inBlock, if_true]
        exact ⟨ρ', rfl, h2⟩
      | false =>
        rw [hb] at hx; cases hx
        simp only [toExit, Exit.inBlock, if_neg (beq_false hb)]
        exact ⟨ρ', rfl, h2⟩
    · rename_i hne
      refine wpIn_mono (hih n0 c T H ρ a w e T' H' hn hl1 r hg hT hs hd hx).1 fun e' a' w' hq => ?_
      obtain ⟨ρ', rfl, h2⟩ := hq
      cases e with
      | normal => exact ⟨ρ', rfl, h2⟩
      | exit id' => exact absurd hx (hne id' T' H')
      | goto l => exact ⟨ρ', rfl, h2⟩
      | ret => exact ⟨ρ', rfl, h2⟩
  · rename_i c
    have hc0 : c = c0 := hl c (by simp [loopsIn])
    have hl1 : ∀ x ∈ loopsIn c, x = c0 := fun x hc => hl x (by simp [loopsIn, hc])
    have key : LoopWp none P c (Post env ro ng nt n0 ρ H w e T' H') a w := by
      split at hx
      · rename_i T0 hT0
        subst hc0
        refine hh T T0 H ρ a w _ r hT hs (hd.keep _ hn) hT0 fun a1 d hF1 hs1 hd1 => ?_
        refine loop_step ?_
        have r1 : Rel env ρ H { w with drawn := d } := r.drew d
        have hd1' : Marks n0 ρ H { w with drawn := d } a1.defers := by
          rw [hd1, ← hd.keep _ hn]
          exact hd.step (Step.drew (ro := ro) r d)
        split at hx
        · rename_i T1 H1 h1
          refine wpIn_mono (hih n0 c T0 H ρ a1 _ .normal T1 H1 hn hl1 r1 hg hF1 hs1 hd1' h1).1 fun e' a' w' hq => ?_
          obtain ⟨ρ', rfl, h2, h3, h4, h5, h6⟩ := hq
          have := (hih n0 (.loop c) T1 H1 ρ' a' w' e T' H' hn hl h6.rel h5 h2 h3 h4 hx).2 c rfl
          intro b k cs hro hb hr
          obtain ⟨e2, a2, w2, h7, h8⟩ := this b k cs hro hb hr
          exact ⟨e2, a2, w2, Post.drew r (h7.trans h6), h8⟩
        · rename_i hne
          refine wpIn_mono (hih n0 c T0 H ρ a1 _ e T' H' hn hl1 r1 hg hF1 hs1 hd1' hx).1 fun e' a' w' hq => ?_
          have hq' := Post.drew r hq
          obtain ⟨ρ', rfl, h2⟩ := hq'
          cases e with
          | normal => exact absurd hx (hne T' H')
          | exit id => exact ⟨ρ', rfl, h2⟩
          | goto l => exact ⟨ρ', rfl, h2⟩
          | ret => exact ⟨ρ', rfl, h2⟩
      · cases hx
    exact ⟨loop_of key, fun d e => by cases e; exact key⟩
  · cases hq : noRF code with
    | false => rw [hq] at hx; cases hx
    | true =>
      rw [hq] at hx
      exact hF.ex none nt n0 code T H ρ a w e T' H' r hg hT hs hd (fun _ => hq) hx
theorem exD_ok {F : Fns} (hF : FnsOK P env ro ng F) {nt : Nat} {c0 : Code} {h : TT AV → Heap → Option (TT AV)} (hh : HookOK P env nt c0 h) : ∀ n, ExDOK P env ro ng nt c0 (exD ng F h n)
  | 0 => fun n0 code T H ρ a w e T' H' _ _ _ _ _ _ _ hx => by
    have h' : R0.no = R0.ok e T' H' := hx
    cases h'
  | n + 1 => exDX_ok hF hh (exD_ok hF hh n)
noncomputable def caD (P : Program) (ng : Nat) (F : Fns) (h : TT AV → Heap → Option (TT AV)) (n : Nat) (f : FuncId) (args : List AV) (H : Heap) : Option (AV × Heap) :=
  match P.funcs[f]? with
  | some fn => match fn.body with
    | some c => finX P fn (exD ng F h n (args.length + (fn.ntmps - args.length)) c (argT 0 args .e) H)
    | none => none
  | none => none
theorem caD_ok {F : Fns} (hF : FnsOK P env ro ng F) {c0 : Code} {h : TT AV → Heap → Option (TT AV)} {n : Nat} {f : FuncId} {fn : Func} {c : Code} {nt : Nat} (hfn : P.funcs[f]? = some fn) (hc : fn.body = some c) (hl : ∀ x ∈ loopsIn c, x = c0) (hh : HookOK P env nt c0 h)
    {args : List AV} (hnt0 : args.length + (fn.ntmps - args.length) = nt) {us : List Value} {H : Heap} {w : World} {ρ : Ren} {v : AV} {H' : Heap} (r : Rel env ρ H w) (hg : GOK ng ρ) (ha : VRs ρ env args us) (hx : caD P ng F h n f args H = some (v, H')) :
    Calls P f ⟨us⟩ w fun e w' => ∃ u ρ', e = .returned u ∧ VR ρ' env v u ∧ Step env ro ρ H w ρ' H' w' := by
  unfold caD at hx
  rw [hfn] at hx
  simp only [hc] at hx
  have hlen := ha.length
  have hnt : ((⟨us⟩ : Array Value) ++ Array.replicate (fn.ntmps - (⟨us⟩ : Array Value).size) undef).size = args.length + (fn.ntmps - args.length) := by simp [hlen]
  have hfr : FR ρ env (argT 0 args .e) ((⟨us⟩ : Array Value) ++ Array.replicate (fn.ntmps - (⟨us⟩ : Array Value).size) undef) := fun t x ht => by
    rw [argT_get] at ht
    split at ht
    · rename_i hlt
      rw [Nat.sub_zero] at ht
      obtain ⟨u, h1, h2⟩ := ha.get ht
      refine ⟨u, ?_, h2⟩
      rw [Array.getElem?_append_left (by simp; omega)]
      simpa using h1
    · simp [TT.get_e] at ht
  subst hnt0
  have key : ∀ e T1 H1, (e = .normal ∨ e = .ret) → exD ng F h n (args.length + (fn.ntmps - args.length)) c (argT 0 args .e) H = .ok e T1 H1 → ∀ vs, resA P T1 H1 fn.results.toList = some vs → v = oneOf vs → H' = H1 → Calls P f ⟨us⟩ w fun e w' => ∃ u ρ', e = .returned u ∧ VR ρ' env v u ∧ Step env ro ρ H w ρ' H' w' := fun e T1 H1 he hex vs hres hv hH => by
    subst hv hH
    have hwp := (exD_ok hF hh n (w.heap.size, some []) c (argT 0 args .e) H ρ { tmps := (⟨us⟩ : Array Value) ++ Array.replicate (fn.ntmps - (⟨us⟩ : Array Value).size) undef, defers := [] } w e T1 H' rfl hl r hg hfr hnt ⟨Nat.le_refl _, fun d0 h => (by cases h; rfl), [], rfl, .nil, fun D hD => by cases hD⟩ hex).1
    refine (callsIn_wide (n := 0)).1 (callsIn_of_wp_marks (F := Fence.wide) hfn hc trivial (wpIn_mono hwp fun e' a' w' hq => ?_))
    obtain ⟨ρ', rfl, h2, h3, h4, h5, h6⟩ := hq
    have h4' : Marks (w.heap.size, none) ρ' H' w' a'.defers := ⟨h4.le, fun _ h => (by cases h), h4.row⟩
    suffices hle : LeavesInM Fence.wide 0 P fn a'.tmps (fun e w' => ∃ u ρ', e = .returned u ∧ VR ρ' env (oneOf vs) u ∧ Step env ro ρ H w ρ' H' w') a'.defers .returning w' by
      rcases he with rfl | rfl <;> exact hle
    refine leaves_marks (ρ' := ρ') (H' := H') (fun w' h6 => ?_) h4' h6
    obtain ⟨xs, h7, h8⟩ := resA_ok (P := P) h6.rel h2 fn.results.toList vs hres
    have hrun : (results fn a'.tmps).run P w' = .ok (if h : xs.length = 1 then xs[0] else .tuple ⟨xs⟩) w' := by
      unfold results
      rw [Sem.run_bind, Array.mapM_eq_mapM_toList, Sem.run_map]
      have h7' := h7
      refine Eq.trans (congrArg (fun z : Result (List Value) => (z.andThen fun a w' => Result.ok a.toArray w').andThen _) h7') ?_
      simp only [Result.andThen_ok, Sem.run_pure]
      congr 1
    have hval : VR ρ' env (oneOf vs) (if h : xs.length = 1 then xs[0] else .tuple ⟨xs⟩) := by
      have hl := h8.length
      match vs, xs, h8, hl with
      | [], [], _, _ => simp [oneOf, VR, VRs]
      | [v], [x], h8, _ =>
        simp only [VRs] at h8
        obtain ⟨u, us, h9, h10, _⟩ := h8
        cases h9
        simpa [oneOf] using h10
      | v1 :: v2 :: vs, x1 :: x2 :: xs, h8, _ =>
        have : ¬ (x1 :: x2 :: xs).length = 1 := by simp
        rw [dif_neg this]
        simp only [oneOf, VR]
        exact ⟨_, rfl, h8⟩
    exact ⟨_, hrun, _, ρ', rfl, hval, h6⟩
  unfold finX at hx
  split at hx
  · rename_i T1 H1 hex
    split at hx
    · rename_i vs hvs
      cases hx
      exact key .normal T1 _ (.inl rfl) hex vs hvs rfl rfl
    · cases hx
  · rename_i T1 H1 hex
    split at hx
    · rename_i vs hvs
      cases hx
      exact key .ret T1 _ (.inr rfl) hex vs hvs rfl rfl
    · cases hx
  · cases hx
/-! the word for Diff -/
noncomputable def skipN (x o y p n i : Nat) : Nat :=
  (Nat.rec (fun _ => 0) (fun _ ih i => cond (Nat.beq (byteAt x (Nat.add o i)) (byteAt y (Nat.add p i))) (Nat.succ (ih (Nat.succ i))) 0) n : Nat → Nat) i
theorem skipN_ok (x o y p : Nat) : ∀ n i, skipN x o y p n i ≤ n ∧ ∀ j, j < skipN x o y p n i → byteAt x (o + (i + j)) = byteAt y (p + (i + j))
  | 0, i => ⟨Nat.le_refl _, fun j hj => absurd hj (Nat.not_lt_zero _)⟩
  | n + 1, i => by
    have he : skipN x o y p (n + 1) i = cond (Nat.beq (byteAt x (o + i)) (byteAt y (p + i))) (skipN x o y p n (i + 1) + 1) 0 := rfl
    cases hb : Nat.beq (byteAt x (o + i)) (byteAt y (p + i)) with
    | false => rw [he, hb]; exact ⟨Nat.zero_le _, fun j hj => absurd hj (Nat.not_lt_zero _)⟩
    | true =>
      rw [he, hb]
      obtain ⟨h1, h2⟩ := skipN_ok x o y p n (i + 1)
      refine ⟨Nat.succ_le_succ h1, fun j hj => ?_⟩
      cases j with
      | zero => exact beq_true hb
      | succ j => have := h2 j (Nat.lt_of_succ_lt_succ hj); rwa [show i + (j + 1) = i + 1 + j by omega]
noncomputable def keepT : List Nat → TT AV → TT AV → TT AV
  | [], _, R => R
  | t :: l, T, R => match T.get t with
    | some v => keepT l T (R.set v t)
    | none => keepT l T R
theorem keepT_get (T : TT AV) : ∀ (l : List Nat) (R : TT AV) (t : Nat) (v : AV), (keepT l T R).get t = some v → (t ∈ l ∧ T.get t = some v) ∨ R.get t = some v
  | [], R, t, v, h => .inr h
  | s :: l, R, t, v, h => by
    simp only [keepT] at h
    split at h
    · rename_i u hu
      rcases keepT_get T l _ t v h with h1 | h1
      · exact .inl ⟨by simp [h1.1], h1.2⟩
      · rw [TT.get_set] at h1
        by_cases e : t = s
        · subst e; rw [if_pos rfl] at h1; cases h1; exact .inl ⟨by simp, hu⟩
        · rw [if_neg e] at h1; exact .inr h1
    · rcases keepT_get T l _ t v h with h1 | h1
      · exact .inl ⟨by simp [h1.1], h1.2⟩
      · exact .inr h1
noncomputable def hookD (T : TT AV) (H : Heap) : Option (TT AV) :=
  match T.get 2, T.get 3, T.get 20, T.get 21 with
  | some (.p p1 0), some (.p p2 0), some (.i .i64 (.ofNat n)), some (.i .i64 (.ofNat i)) => match H.t.get p1, H.t.get p2 with
    | some (.cells _ [.sl b1 o1 l1 _ _]), some (.cells _ [.sl b2 o2 l2 _ _]) => match H.t.get b1, H.t.get b2 with
      | some (.bytes L1 x), some (.bytes L2 y) => bif Nat.ble n l1 && (Nat.ble n l2 && (Nat.ble n 281474976710656 && (Nat.ble i n && (Nat.ble (Nat.add o1 n) L1 && Nat.ble (Nat.add o2 n) L2)))) then
          some (keepT [2, 3, 4, 5, 6, 7, 8, 20] T ((TT.e).set (.i .i64 (.ofNat (Nat.add i (skipN x o1 y o2 (Nat.sub n i) i)))) 21)) else none
      | _, _ => none
    | _, _ => none
  | _, _, _, _ => none
theorem cell_one {ρ : Ren} {H : Heap} {w : World} (r : Rel env ρ H w) {p sz b o l c : Nat} {op : Bool} (h : H.t.get p = some (.cells sz [.sl b o l c op])) {q x : Nat} (hq : ρ p = some (q, x)) :
    ∃ g y, ρ b = some (g, y) ∧ w.cell? ⟨q, 0, none⟩ = some (.slice (some ⟨g, o, none⟩) l (c + if op then y else 0)) := by
  obtain ⟨u, h1, h2⟩ := cell_of_get r (off := 0) h hq (v := .sl b o l c op) (by simp [AO.cell])
  simp only [VR] at h2
  obtain ⟨g, y, h3, rfl⟩ := h2
  exact ⟨g, y, h3, h1⟩
theorem hookD_ok : HookOK Tryz.prog env 50 diffBody hookD := by
  intro T T' H ρ a w Q r hF hz hd h hK
  unfold hookD at h
  split at h
  · rename_i p1 p2 n i e2 e3 e20 e21
    split at h
    · rename_i s1 b1 o1 l1 c1 q1 s2 b2 o2 l2 c2 q2 e4 e5
      split at h
      · rename_i L1 x L2 y e6 e7
        cases hq : Nat.ble n l1 && (Nat.ble n l2 && (Nat.ble n 281474976710656 && (Nat.ble i n && (Nat.ble (Nat.add o1 n) L1 && Nat.ble (Nat.add o2 n) L2)))) with
        | false => rw [hq] at h; cases h
        | true =>
          rw [hq] at h; cases h
          simp only [Bool.and_eq_true] at hq
          obtain ⟨g1, g2, g3, g4, g5, g6⟩ := hq
          have g1 := ble_true g1
          have g2 := ble_true g2
          have g3 := ble_true g3
          have g4 := ble_true g4
          have g5 : o1 + n ≤ L1 := ble_true g5
          have g6 : o2 + n ≤ L2 := ble_true g6
          obtain ⟨u2, x2, y2⟩ := hF _ _ e2
          obtain ⟨u3, x3, y3⟩ := hF _ _ e3
          obtain ⟨u20, x20, y20⟩ := hF _ _ e20
          obtain ⟨u21, x21, y21⟩ := hF _ _ e21
          simp only [VR] at y2 y3 y20 y21
          obtain ⟨m1, z1, k1, rfl⟩ := y2
          obtain ⟨m2, z2, k2, rfl⟩ := y3
          subst y20 y21
          obtain ⟨d1, v1, k3, k4⟩ := cell_one r e4 k1
          obtain ⟨d2, v2, k5, k6⟩ := cell_one r e5 k2
          obtain ⟨s1, s2⟩ := skipN_ok x o1 y o2 (n - i) i
          refine diff_skips (x := fun j => byteAt x (o1 + j)) (y := fun j => byteAt y (o2 + j)) g1 g2 g3 (skipN x o1 y o2 (n - i) i) i a w (by omega) s2 k4 k6
            (fun j hj => bytes_cells r e6 k3 g5 j hj) (fun j hj => bytes_cells r e7 k5 g6 j hj) hz hd x2 x3 x20 x21 fun a' d hz' hd' hs h21 => hK a' d (fun t v ht => ?_) hz' hd'
          rcases keepT_get _ _ _ _ _ ht with ⟨h1, h2⟩ | h1
          · obtain ⟨u, h3, h4⟩ := hF _ _ h2
            exact ⟨u, (hs t (by simp at h1; omega)).trans h3, h4⟩
          · rw [TT.get_set, TT.get_e] at h1
            by_cases e : t = 21
            · subst e; rw [if_pos rfl] at h1; cases h1
              exact ⟨_, h21, by simp only [VR]; rfl⟩
            · rw [if_neg e] at h1; cases h1
      · cases h
    · cases h
  · cases h
noncomputable def sDiff (ng ro : Nat) (args : List AV) (H : Heap) : Option (AV × Heap) :=
  match args with
  | [a, b] => caD Tryz.prog ng (fns Tryz.prog ng ro S0 100) hookD 1200 103 [a, b] H
  | _ => none
theorem diff_loops : ((Tryz.f103.body).map loopsIn) = some [diffBody] := by kernel_rfl
theorem diff_nt : Tryz.f103.ntmps = 50 := by kernel_rfl
theorem sDiff_ok : SumOK Tryz.prog env ro ng 103 (sDiff ng ro) := by
  intro args us H w ρ v H' r hg ha h
  unfold sDiff at h
  split at h
  · rename_i a b
    obtain ⟨c, hc, hl⟩ := Option.map_eq_some_iff.1 diff_loops
    exact caD_ok (fns_ok namesOK (by kernel_rfl) S0_ok 100) Tryz.func103 hc (c0 := diffBody) (fun x hx => by rw [hl] at hx; simpa using hx) hookD_ok (by rw [diff_nt]; rfl) r hg ha h
  · cases h
end
end Go.Ai
/- All summaries. -/
namespace Go.Ai
open Go.Proofs Go.Proofs.YthinojebkapgpaaGreatDoor Go.RowKit
section
variable {env : Nat → Value} {ng ro : Nat}
noncomputable def listS (ng ro : Nat) : List (FuncId × (List AV → Heap → Option (AV × Heap))) :=
  [(174, sTrim), (144, sSum), (147, sLSum), (93, sCmp), (56, sSync ro), (64, sRedo), (16, sPut), (54, sWrite ro), (103, sDiff ng ro)]
theorem listS_ok {n : Int} (he : env 0 = .int .i64 n) : ∀ p ∈ listS ng ro, SumOK Tryz.prog env ro ng p.1 p.2 := by
  intro p hp
  simp only [listS, List.mem_cons, List.not_mem_nil, or_false] at hp
  rcases hp with rfl | rfl | rfl | rfl | rfl | rfl | rfl | rfl | rfl
  · exact sTrim_ok
  · exact sSum_ok
  · exact sLSum_ok
  · exact sCmp_ok
  · exact sSync_ok
  · exact sRedo_ok
  · exact sPut_ok he
  · exact sWrite_ok
  · exact sDiff_ok
theorem sums_ok {n : Int} (he : env 0 = .int .i64 n) : SumsOK Tryz.prog env ro ng (sumsOf (listS ng ro)) := sumsOf_ok _ (listS_ok he)
end
end Go.Ai
/- What has been run is remembered: a call at a memory that is known, proved in a text of its own. -/
namespace Go.Ai
def ttEq : TT Nat → TT Nat → Bool
  | .e, .e => true
  | .n l v r, .n l' v' r' => (match v, v' with
    | none, none => true
    | some x, some y => Nat.beq x y
    | _, _ => false) && (ttEq l l' && ttEq r r')
  | _, _ => false
theorem ttEq_ok : ∀ (x y : TT Nat), ttEq x y = true → x = y
  | .e, y, h => by cases y <;> simp [ttEq] at h; rfl
  | .n l v r, y, h => by
    cases y with
    | e => simp [ttEq] at h
    | n l' v' r' =>
      simp only [ttEq, Bool.and_eq_true] at h
      rw [ttEq_ok l _ h.2.1, ttEq_ok r _ h.2.2]
      cases v <;> cases v' <;> simp at h
      · rfl
      · rw [h.1]
def aoEq : AO → AO → Bool
  | .pm l n t, .pm l' n' t' => Nat.beq l l' && (Nat.beq n n' && ttEq t t')
  | x, y => AO.beq x y
theorem aoEq_ok (x y : AO) (h : aoEq x y = true) : x = y := by
  unfold aoEq at h
  split at h
  · simp only [Bool.and_eq_true] at h
    rw [beq_true h.1, beq_true h.2.1, ttEq_ok _ _ h.2.2]
  · exact AO.beq_ok _ _ h
noncomputable def treeOf : List (Nat × AO) → TT AO
  | [] => .e
  | (a, o) :: l => (treeOf l).set o a
noncomputable def hpOf (l : List (Nat × AO)) (n : Nat) : Heap := ⟨treeOf l, n⟩
noncomputable def sub : List (Nat × AO) → Heap → Bool
  | [], _ => true
  | (a, o) :: l, H => (match H.t.get a with
    | some o' => aoEq o o'
    | none => false) && sub l H
theorem treeOf_get : ∀ (l : List (Nat × AO)) (a : Nat) (o : AO), (treeOf l).get a = some o → (a, o) ∈ l
  | [], a, o, h => by simp [treeOf, TT.get_e] at h
  | (b, p) :: l, a, o, h => by
    simp only [treeOf, TT.get_set] at h
    by_cases e : a = b
    · rw [if_pos e] at h; cases h; subst e; simp
    · rw [if_neg e] at h
      exact List.mem_cons_of_mem _ (treeOf_get l a o h)
theorem sub_ok : ∀ (l : List (Nat × AO)) (H : Heap), sub l H = true → ∀ p ∈ l, H.t.get p.1 = some p.2
  | (b, q) :: l, H, h, p, hp => by
    simp only [sub, Bool.and_eq_true] at h
    rcases List.mem_cons.1 hp with rfl | h1
    · have h2 := h.1
      split at h2
      · rename_i o' ho
        rw [ho, aoEq_ok _ _ h2]
      · cases h2
    · exact sub_ok l H h.2 p h1
theorem sub_get {l : List (Nat × AO)} {n : Nat} {H : Heap} (h : sub l H = true) {a : Nat} {o : AO} (ho : (hpOf l n).t.get a = some o) : H.t.get a = some o := sub_ok l H h _ (treeOf_get l a o ho)
section
variable {P : Program} {env : Nat → Value} {ng ro : Nat} {ρ ρ' : Ren} {w w' : World}
theorem Rel.sub {H : Heap} (r : Rel env ρ H w) {l : List (Nat × AO)} (h : sub l H = true) : Rel env ρ (hpOf l H.nx) w := by
  refine ⟨fun a o c x h1 h2 => r.obj a o c x (sub_get h h1) h2, fun a a' o o' c x x' h1 h2 h3 h4 => r.inj a a' o o' c x x' (sub_get h h1) (sub_get h h2) h3 h4, fun a ha => ⟨(r.new a ha).1, ?_⟩, r.one⟩
  cases hc : (hpOf l H.nx).t.get a with
  | none => rfl
  | some o =>
    have := sub_get h hc
    rw [(r.new a ha).2] at this; cases this
theorem Img.sub {lo : Nat} {H : Heap} {l : List (Nat × AO)} {n : Nat} (h : sub l H = true) {c : Nat} (hi : Img lo ρ (hpOf l n) c) : Img lo ρ H c := by
  obtain ⟨a, o, x, h1, h2, h3⟩ := hi
  exact ⟨a, o, x, h1, sub_get h h2, h3⟩
theorem Step.sub {H H1 : Heap} {l l' : List (Nat × AO)} (h : sub l H = true) (h' : sub l' H1 = true) (s : Step env ro ρ (hpOf l H.nx) w ρ' H1 w') : Step env ro ρ H w ρ' (hpOf l' H1.nx) w' where
  rel := s.rel.sub h'
  old := s.old
  nx := s.nx
  img := fun lo c hl hc => (s.img lo c hl (Img.sub h' hc)).imp (Img.sub h) id
  keep := fun c hc hn => s.keep c hc (fun hi => hn (Img.sub h hi))
  size := s.size
  os := s.os
  tape := s.tape
  output := s.output
noncomputable def chk (r : Option (AV × Heap)) (v : AV) (l : List (Nat × AO)) (n : Nat) : Bool :=
  match r with
  | some (v1, H1) => avEq v1 v && (Nat.beq H1.nx n && sub l H1)
  | none => false
theorem chk_some {r : Option (AV × Heap)} {v : AV} {l : List (Nat × AO)} {n : Nat} (h : chk r v l n = true) : ∃ H1, r = some (v, H1) := by
  cases r with
  | none => cases h
  | some p =>
    obtain ⟨v1, H1⟩ := p
    simp only [chk, Bool.and_eq_true] at h
    exact ⟨H1, by rw [avEq_ok _ _ h.1]⟩
noncomputable def memo (ags : List AV) (l : List (Nat × AO)) (n : Nat) (v : AV) (l' : List (Nat × AO)) (n' : Nat) (args : List AV) (H : Heap) : Option (AV × Heap) :=
  bif avEqs args ags && (Nat.beq H.nx n && sub l H) then some (v, hpOf l' n') else none
def SumIs (P : Program) (env : Nat → Value) (ro ng : Nat) (f : FuncId) (g : List AV → Heap → Option (AV × Heap)) : Prop :=
  ∀ (args : List AV) (us : List Value) (H : Heap) (w : World) (ρ : Ren) (v : AV) (H' : Heap), Rel env ρ H w → GOK ng ρ → VRs ρ env args us → g args H = some (v, H') →
    Calls P f ⟨us⟩ w fun e w' => ∃ u ρ', e = .returned u ∧ VR ρ' env v u ∧ Step env ro ρ H w ρ' H' w'
theorem memo_ok {F : FuncId → List AV → Heap → Option (AV × Heap)} (hF : CallOK P env ro ng F) {f : FuncId} {ags : List AV} {l l' : List (Nat × AO)} {n n' : Nat} {v : AV} (h : chk (F f ags (hpOf l n)) v l' n' = true) : SumIs P env ro ng f (memo ags l n v l' n') := by
  intro args us H w ρ v2 H' r hg ha hm
  unfold memo at hm
  cases hq : avEqs args ags && (Nat.beq H.nx n && sub l H) with
  | false => rw [hq] at hm; cases hm
  | true =>
    rw [hq] at hm; cases hm
    simp only [Bool.and_eq_true] at hq
    obtain ⟨h1, h2, h3⟩ := hq
    have h1 := avEqs_ok _ _ h1
    have h2 := beq_true h2
    subst h1 h2
    unfold chk at h
    split at h
    · rename_i v1 H1 hr
      simp only [Bool.and_eq_true] at h
      obtain ⟨h4, h5, h6⟩ := h
      have h4 := avEq_ok _ _ h4
      have h5 := beq_true h5
      subst h4 h5
      refine (hF f args us (hpOf l H.nx) w ρ v1 H1 (r.sub h3) hg ha hr).mono fun e w' hq => ?_
      obtain ⟨u, ρ', rfl, h7, h8⟩ := hq
      exact ⟨u, ρ', rfl, h7, h8.sub h3 h6⟩
    · cases h
noncomputable def orS (g1 g2 : List AV → Heap → Option (AV × Heap)) (args : List AV) (H : Heap) : Option (AV × Heap) :=
  match g1 args H with
  | some r => some r
  | none => g2 args H
theorem orS_ok {f : FuncId} {g1 g2 : List AV → Heap → Option (AV × Heap)} (h1 : SumIs P env ro ng f g1) (h2 : SumIs P env ro ng f g2) : SumIs P env ro ng f (orS g1 g2) := by
  intro args us H w ρ v H' r hg ha hm
  unfold orS at hm
  split at hm
  · rename_i x hx
    cases hm
    exact h1 args us H w ρ v H' r hg ha hx
  · exact h2 args us H w ρ v H' r hg ha hm
end
end Go.Ai
