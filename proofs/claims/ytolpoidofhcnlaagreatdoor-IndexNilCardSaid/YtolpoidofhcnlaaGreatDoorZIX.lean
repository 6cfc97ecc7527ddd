/- parchmentlaw21.IndexNil answers true at every node: where there is no book, one that nobody made, a book without a space, without an index, or one in no transaction, Format, Clear, Add, Remove, Named and Valued tell so; and the chapter's example stands. Its conditions: the package-level variables that the row lists read as the row says when the call begins (of these the proof uses names.roots alone); the card ties them to the text of the program (unicode/utf8.first is pinned by name). -/
import Derived.Test.YtolpoidofhcnlaaGreatDoorXIX
import Derived.Test.YtolpoidofhcnlaaGreatDoorRows
import Derived.Lib.LaidTab
import Derived.LaidLaws
import Derived.Lay
import Derived.SevenTiedAt
import Derived.LaidOnce
import Derived.LaidMore
import Derived.MakeChecks
import Derived.WalkKit
import Derived.ProofKit
import Derived.OpenShut
import Derived.ChangeOld
import Derived.Below
import Derived.Test.YtolpoidofhcnlaaGreatDoorTie
import Derived.Test.YtolpoidofhcnlaaGreatDoorCards
namespace Go.Ai
open Go.Proofs Go.Proofs.YtolpoidofhcnlaaGreatDoor Go.RowKit
theorem laid_cells {P : Program} {w : World} : ∀ {l : List (String × DataW Unit)} {ps : List MemPlace}, DataW.LaidVars P w l ps → ∀ n d, (n, d) ∈ l →
    ∃ g t cs fuel p, P.globalNamed n = some g ∧ (P.globals[g]?).map (·.type) = some t ∧ w.var? P n = some cs ∧ DataW.trod (fun _ => ()) P w 0 (fun _ => true) false fuel t cs.toList = some (d, p) ∧ ∀ k, k < cs.size → MemPlace.cell g k ∈ ps
  | [], _, _, _, _, hm => by cases hm
  | (n', d') :: r, ps, h, n, d, hm => by
    obtain ⟨g, t, cs, fuel, p, q, h1, h2, h3, h4, h5, rfl⟩ := h
    rcases List.mem_cons.1 hm with e | e
    · cases e
      exact ⟨g, t, cs, fuel, p, h1, h2, h3, h4, fun k hk => by simp [MemPlace.row]; exact .inl hk⟩
    · obtain ⟨g', t', cs', f', p', k1, k2, k3, k4, k5⟩ := laid_cells h5 n d e
      exact ⟨g', t', cs', f', p', k1, k2, k3, k4, fun k hk => by simp [k5 k hk]⟩
set_option maxRecDepth 100000 in
theorem roots_of {W : World} {l : List (String × DataW Unit)} (h : laidMet Tryz.prog l W) (hm : ("parchment/names.roots", Rows.laid_parchment_names_roots) ∈ l) : ∃ t, W.heap[0]? = some (.cells #[.int .i64 1, .int .i64 2] t (0, 0)) := by
  obtain ⟨ps, hv, _, hc⟩ := h
  obtain ⟨g, t, cs, fuel, p, hg, ht, hv, hd, hk⟩ := laid_cells hv _ _ hm
  have e : (Rows.laid_parchment_names_roots : DataW Unit) = Lib.tabData .i64 [1, 2] := by kernel_rfl
  rw [e] at hd
  obtain rfl := Option.some.inj ((show Tryz.prog.globalNamed "parchment/names.roots" = some 0 by kernel_rfl).symm.trans hg)
  obtain rfl := Option.some.inj ((show (Tryz.prog.globals[0]?).map (·.type) = some 114 by kernel_rfl).symm.trans ht)
  have hcs := Lib.cells_of_tab Tryz.underlying114 Tryz.underlying3 (by kernel_rfl) (by kernel_rfl) hd
  have hcs' : cs = #[.int .i64 1, .int .i64 2] := Array.toList_inj.1 hcs
  subst hcs'
  obtain ⟨⟨c, t, hb⟩, _⟩ := hc 0 0 (hk 0 (by simp))
  simp only [World.var?, hg, Option.bind_some, hb, Option.some.injEq] at hv
  exact ⟨t, by rw [hb, hv]⟩
def ren0 : Ren := fun a => if a < 4 then some (a, 0) else none
theorem rel0 {env : Nat → Value} {w : World} {t : TypeId} (h1 : ∀ n, (env n).oneCell' = true) (h : w.heap[0]? = some (.cells #[.int .i64 1, .int .i64 2] t (0, 0))) : Rel env ren0 (hpOf lIx 10) w := by
  have hget : ∀ a, (hpOf lIx 10).t.get a = if a = 0 then some (.cells 1 [.i .i64 (.ofNat 1), .i .i64 (.ofNat 2)]) else none := fun a => by
    show ((TT.e).set _ 0).get a = _
    rw [TT.get_set, TT.get_e]
  refine ⟨fun a o c x ha hc => ?_, fun a a' o o' c x x' ha ha' hc hc' => ?_, fun a ha => ?_, h1⟩
  · rw [hget] at ha
    by_cases e : a = 0
    · subst e
      simp only [if_true, Option.some.injEq] at ha
      simp [ren0] at hc
      obtain ⟨rfl, rfl⟩ := hc
      subst ha
      exact ⟨_, h, [.int .i64 1, .int .i64 2], [], t, (0, 0), rfl, by simp [VRs, VR], rfl, .inl rfl⟩
    · rw [if_neg e] at ha; cases ha
  · rw [hget] at ha ha'
    by_cases e : a = 0 <;> by_cases e' : a' = 0
    · rw [e, e']
    · rw [if_neg e'] at ha'; cases ha'
    · rw [if_neg e] at ha; cases ha
    · rw [if_neg e] at ha; cases ha
  · have ha' : 10 ≤ a := ha
    rw [hget, if_neg (by omega)]
    simp only [ren0]
    rw [if_neg (by omega)]
    exact ⟨rfl, by simp⟩
theorem indexNil_ok (base : Option Addr) (n c k : Nat) (nm vl : ByteArray) (hk : k < 256) (w : World) {t : TypeId} (h : w.heap[0]? = some (.cells #[.int .i64 1, .int .i64 2] t (0, 0))) :
    Calls Tryz.prog 3 #[.agg #[.slice base n c, .int .u8 (k : Int), .string nm, .string vl]] w fun e w' => e = .returned (.bool true) ∧ Below w.heap.size w w' := by
  have r := rel0 (env := envI base n c k nm vl) (fun m => by match m with | 0 => rfl | 1 => rfl | 2 => rfl | _ + 3 => rfl) h
  obtain ⟨H1, hr⟩ := runI (fitB n nm vl)
  refine ((fns_ok (env := envI base n c k nm vl) namesOK (by kernel_rfl) (listI_ok hk) 3000).ca 3 [.ag [.q 0, .q 1, .q 2, .q 3]] [.agg #[.slice base n c, .int .u8 (k : Int), .string nm, .string vl]] (hpOf lIx 10) w ren0 _ H1 r (fun g hg => by simp [ren0, hg]) (by simp [VRs, VR, envI]) hr).mono fun e w' hq => ?_
  obtain ⟨u, ρ', rfl, hu, s⟩ := hq
  simp only [VR] at hu
  subst hu
  refine ⟨rfl, s.os, s.tape, s.output, s.size, fun c hc => s.keep c hc ?_⟩
  rintro ⟨a, o, x, h1, h2, h3⟩
  simp only [ren0] at h3
  rw [if_neg (by omega)] at h3
  cases h3
set_option maxRecDepth 100000 in
/-- a node as an argument -/
theorem held_of {H : Type} {enc : TypeId × Value → H} {W : World} {base0 : Nat} {v : Value} {d : DataW H} {p : List MemPlace} {sp : Nat → Bool} {hd : Bool} {b : Nat} (hval : Value.okWide Tryz.prog W .any base0 25 v) (h : DataW.Trod enc Tryz.prog W b sp hd 25 v d p) :
    ∃ base n c k nm vl, k < 256 ∧ v = .agg #[.slice base n c, .int .u8 ((k : Nat) : Int), .string nm, .string vl] := by
  have hu : ∃ fs, Tryz.prog.underlying 25 = some (.struct fs) ∧ (fs[1]?).map (fun f => (f.type, f.offset)) = some (23, 1) := by
    have h : (match Tryz.prog.underlying 25 with | some (.struct fs) => (fs[1]?).map (fun f => (f.type, f.offset)) == some (23, 1) | _ => false) = true := by kernel_rfl
    split at h
    · rename_i fs hfs; exact ⟨fs, hfs, by simpa using h⟩
    · cases h
  obtain ⟨fs, hu, hf1⟩ := hu
  have hc4 : Tryz.prog.cellsOf 25 = 4 := by kernel_rfl
  have hts : Tryz.prog.cellTypes Tryz.prog.depth 25 = some [22, 23, 9, 9] := by kernel_rfl
  unfold Value.okWide at hval
  rw [hu] at hval
  obtain ⟨cs, rfl, hsz, ts, hts', _, hall⟩ := hval
  rw [hts] at hts'
  cases hts'
  rw [hc4] at hsz
  obtain ⟨l⟩ := cs
  match l, hsz with
  | [c0, c1, c2, c3], _ =>
    obtain ⟨u0, e0, k0⟩ := hall 0 c0 rfl
    obtain ⟨u1, e1, k1⟩ := hall 1 c1 rfl
    obtain ⟨u2, e2, k2⟩ := hall 2 c2 rfl
    obtain ⟨u3, e3, k3⟩ := hall 3 c3 rfl
    simp at e0 e1 e2 e3
    subst e0 e1 e2 e3
    have w0 : Value.okWide Tryz.prog W .any base0 22 c0 := by unfold Value.okWide; rw [Tryz.underlying22]; exact k0
    have w1 : Value.okWide Tryz.prog W .any base0 23 c1 := by unfold Value.okWide; rw [Tryz.underlying23]; exact k1
    have w2 : Value.okWide Tryz.prog W .any base0 9 c2 := by unfold Value.okWide; rw [Tryz.underlying9]; exact k2
    have w3 : Value.okWide Tryz.prog W .any base0 9 c3 := by unfold Value.okWide; rw [Tryz.underlying9]; exact k3
    obtain ⟨base, n, c, rfl⟩ := Go.WideShapes.okWide_slice Tryz.underlying22 w0
    obtain ⟨nm, rfl⟩ := Go.WideShapes.okWide_string Tryz.underlying9 w2
    obtain ⟨vl, rfl⟩ := Go.WideShapes.okWide_string Tryz.underlying9 w3
    obtain ⟨m, hm⟩ := h
    obtain ⟨xs, m', rfl, _, _, hxl, hx⟩ := DataW.trod_struct hu hm
    cases hf : fs[1]? with
    | none => rw [hf] at hf1; cases hf1
    | some f =>
      rw [hf] at hf1
      simp only [Option.map_some, Option.some.injEq, Prod.mk.injEq] at hf1
      have h1 := hx 1 f hf
      rw [hf1.1, hf1.2, show Tryz.prog.cellsOf 23 = 1 by kernel_rfl] at h1
      have h2 : DataW.trod enc Tryz.prog W b sp hd m' 23 [c1] = xs[1]? := h1
      cases hxs : xs[1]? with
      | none =>
        have h3 := (Array.getElem?_eq_some_iff.1 hf).1
        rw [List.getElem?_eq_none_iff] at hxs
        omega
      | some y =>
        rw [hxs] at h2
        obtain ⟨z, hz, _, hw⟩ := DataW.trod_int Tryz.underlying23 h2
        simp only [List.cons.injEq, and_true] at hz
        subst hz
        simp [Lit.wf, IntKind.min, IntKind.max, IntKind.bits, IntKind.signed] at hw
        exact ⟨base, n, c, z.toNat, nm, vl, by omega, by rw [Int.toNat_of_nonneg (by omega)]⟩
end Go.Ai
namespace Go.Proofs.YtolpoidofhcnlaaGreatDoor.indexNil
open Go.ChangeShapes Go.WideShapes Go.ChangeAt Go.RowKit
theorem own : ownKnob Tryz.prog.godebug = none := by kernel_rfl
theorem laidOut : laidOutB Tryz.prog = true := by kernel_rfl
set_option maxRecDepth 100000 in
theorem contract {H : Type} (enc : TypeId × Value → H) (W : World) (base : Nat) (args : Array Value) (ds gs : List (DataW H)) (before : List MemPlace)
    (hval0 : ∀ (j : Nat) t v, Tryz.f3.params[j]? = some t → args[j]? = some v → Value.okWide Tryz.prog W .any base t v)
    (hW : DataW.Whole enc Tryz.prog Tryz.f3.params.toList Rows.indexNilSpec.vars false W args.toList ds gs before) (hL : laidMetH Tryz.prog Rows.indexNilRow.laid W) :
    Calls Tryz.prog 3 args W fun e W' => ∃ v, e = .returned v ∧ Rows.indexNilSpec.post enc Tryz.prog Tryz.f3 false true false false W args v W' := by
  have hval : ∀ (j : Nat) t v, Tryz.f3.params[j]? = some t → args[j]? = some v → Value.okWide Tryz.prog W .any base t v := hval0
  have hW' := hW
  obtain ⟨p, q, hA0, hV, rfl, hfz, hnd⟩ := hW
  have hA : DataW.TrodAll enc Tryz.prog W 0 (fun _ => true) true Tryz.f3.params.toList args.toList ds p := hA0
  rw [Tryz.params3] at hA hval
  obtain ⟨v0, vs0, d0, ds0, p0, q0, hargs, rfl, rfl, h0, r0⟩ := trodAll_cons hA
  obtain ⟨rfl, rfl, rfl⟩ := trodAll_nil r0
  obtain rfl : args = #[v0] := by cases args; simp_all
  obtain ⟨rfl, rfl⟩ := trodVars_none hV
  obtain ⟨base, n, c, k, nm, vl, hk, rfl⟩ := Go.Ai.held_of (hval 0 25 v0 rfl rfl) h0
  have lt0 : ∀ x ∈ p0, x.block < W.heap.size := by obtain ⟨m, hm⟩ := h0; exact DataW.trod_lt m _ _ _ hm
  clear hA0 hval0
  rw [MakeChecks.laidMetH_plain _ _ _ (by kernel_rfl)] at hL
  obtain ⟨t, ht⟩ := Go.Ai.roots_of hL (by simp [Rows.indexNilRow])
  refine (Go.Ai.indexNil_ok base n c k nm vl hk W ht).mono fun e W' ⟨he, bel⟩ => ?_
  subst he
  exact ⟨_, rfl, _, _, _, [], _, [], hW', trodAll_mk1 (shut_bool Tryz.underlying4 _), (trodAll_cons_mk (Below.trod laidOut (by kernel_rfl) (of_decide_eq_true (by kernel_rfl)) h0 bel lt0) trodAll_mk0), rfl, bel.frame _, fun h => by cases h⟩
set_option maxRecDepth 100000 in
theorem lifted (os : Os) (started : os.Started) (H : Type) (enc : TypeId × Value → H) :
    ReturnsInHanded {} Tryz.checked os 3 .any (fun w args => (Rows.indexNilSpec.pre enc Tryz.prog Tryz.f3 [] false w args ∧ laidMetH Tryz.prog Rows.indexNilRow.laid w) ∧ sizedMet enc Tryz.prog Tryz.f3 (OpenSpec.ofChange Rows.indexNilSpec) false w args)
      (Rows.indexNilSpec.post enc Tryz.prog Tryz.f3 false true false false) := by
  refine returnsInHanded_of_calls own started (by kernel_rfl)
    (ChangeSpec.witness_shaped (enc := enc) (C := Tryz.checked) (os := os) (X := fun w _ => laidMetH Tryz.prog Rows.indexNilRow.laid w) false (World.laidAll Tryz.prog os Rows.indexNilRow.laid) #[.agg #[.slice none 0 0, .int .u8 0, .string ⟨#[]⟩, .string ⟨#[]⟩]] 8 (World.laidAll_os _ _ _)
      (World.shaped_of_ZipB (by kernel_rfl) (by kernel_rfl)) (by kernel_rfl) (by kernel_rfl) (by kernel_rfl)
      (by rw [MakeChecks.laidMetH_plain _ _ _ (by kernel_rfl)]; exact laidMet_laidAll _ (by kernel_rfl) (by kernel_rfl))) ?_
  intro w tape i _ hsh _ hok hpre _
  obtain ⟨_, _, _, fn', hfn', _, _, _, _, hval⟩ := hok
  have e : fn' = Tryz.f3 := Option.some.inj (hfn'.symm.trans Tryz.func3)
  subst e
  obtain ⟨⟨⟨ds, gs, before, hw, _⟩, hx⟩, hz⟩ := hpre
  refine (contract enc (w.forCall tape i) w.heap.size i.args ds gs before hval (DataW.Whole.of_heap (w' := w.forCall tape i) (by rfl) hw) (hx.of_heap (by rfl))).mono fun e W' ⟨v, he, hp⟩ => ?_
  subst he
  exact ChangeSpec.post_blind hp
theorem over : Rows.IndexNilSaid :=
  OpenClaim.holds_of_wide 3 Tryz.f3 rfl rfl rfl rfl rfl rfl rfl ⟨rfl, rfl, rfl, rfl, rfl⟩ rfl rfl rfl rfl rfl (by kernel_rfl) Tryz.func3 (by kernel_rfl)
    (of_decide_eq_true (by kernel_rfl)) (by unfold Func.isWrapper; first | (rw [if_pos (by decide +kernel)]; kernel_rfl) | (rw [if_neg (by decide +kernel)]; exact ⟨rfl, rfl⟩))
    (fun os started H enc _ => lifted os started H enc)
/-- ████ THE TIED CARD ████ -/
theorem proved : Rows.IndexNilCardSaid :=
  Claim7.holds_tied_plain_at .later [] [.data, .data, .pinned] true (true, "637abdf1e50467f2b489919fbb1498fd10812aa2844ca552a4f59ccf69102b05") false
    over (fun _ h => by cases h) (by kernel_rfl) (fun _ h => by cases h) indexNil_row_tie rfl ⟨rfl, rfl⟩ (by kernel_rfl) rfl
    (fun f fn hf hfn => by
      obtain rfl : f = 3 := Option.some.inj ((show Tryz.prog.funcNamed "parchment/parchmentlaw21.IndexNil" = some 3 by kernel_rfl).symm.trans hf) |>.symm
      obtain rfl : fn = Tryz.f3 := (Option.some.inj (Tryz.func3.symm.trans hfn)).symm
      exact ⟨by kernel_rfl, fun j t ht => by
        rw [Tryz.params3] at ht
        match j, ht with
        | 0, ht => simp at ht; subst ht; exact (show Tryz.prog.wantsStandIn 25 = false by kernel_rfl)
        | j + 1, ht => simp at ht⟩)
    (by kernel_rfl)
#print axioms proved
end Go.Proofs.YtolpoidofhcnlaaGreatDoor.indexNil
