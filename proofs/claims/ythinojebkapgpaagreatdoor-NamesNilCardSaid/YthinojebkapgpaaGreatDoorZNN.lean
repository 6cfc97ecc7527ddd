/- parchmentlaw18.NamesNil answers true at every number: where there is no book, one that nobody made, a book without a space, without names, or one in no transaction, names.Format, Number, Find and Name tell so; and the chapter's example stands. Its conditions: the package-level variables that the row lists read as the row says when the call begins (of these the proof uses names.roots alone); the card ties them to the text of the program (unicode/utf8.first is pinned by name). -/
import Derived.Test.YthinojebkapgpaaGreatDoorCNN
import Derived.Test.YthinojebkapgpaaGreatDoorRows
import Derived.Lib.LaidTab
import Derived.LaidLaws
import Derived.Lay
import Derived.SevenTiedAt
import Derived.LaidOnce
import Derived.LaidMore
import Derived.MakeChecks
import Derived.WalkKit
import Derived.ProofKit
import Derived.OpenShut
import Derived.ChangeOld
import Derived.Below
import Derived.Test.YthinojebkapgpaaGreatDoorTie
import Derived.Test.YthinojebkapgpaaGreatDoorCards
namespace Go.Ai
open Go.Proofs Go.Proofs.YthinojebkapgpaaGreatDoor Go.RowKit
theorem laid_cells {P : Program} {w : World} : ∀ {l : List (String × DataW Unit)} {ps : List MemPlace}, DataW.LaidVars P w l ps → ∀ n d, (n, d) ∈ l →
    ∃ g t cs fuel p, P.globalNamed n = some g ∧ (P.globals[g]?).map (·.type) = some t ∧ w.var? P n = some cs ∧ DataW.trod (fun _ => ()) P w 0 (fun _ => true) false fuel t cs.toList = some (d, p) ∧ ∀ k, k < cs.size → MemPlace.cell g k ∈ ps
  | [], _, _, _, _, hm => by cases hm
  | (n', d') :: r, ps, h, n, d, hm => by
    obtain ⟨g, t, cs, fuel, p, q, h1, h2, h3, h4, h5, rfl⟩ := h
    rcases List.mem_cons.1 hm with e | e
    · cases e
      exact ⟨g, t, cs, fuel, p, h1, h2, h3, h4, fun k hk => by simp [MemPlace.row]; exact .inl hk⟩
    · obtain ⟨g', t', cs', f', p', k1, k2, k3, k4, k5⟩ := laid_cells h5 n d e
      exact ⟨g', t', cs', f', p', k1, k2, k3, k4, fun k hk => by simp [k5 k hk]⟩
set_option maxRecDepth 100000 in
theorem roots_of {W : World} {l : List (String × DataW Unit)} (h : laidMet Tryz.prog l W) (hm : ("parchment/names.roots", Rows.laid_parchment_names_roots) ∈ l) : ∃ t, W.heap[0]? = some (.cells #[.int .i64 1, .int .i64 2] t (0, 0)) := by
  obtain ⟨ps, hv, _, hc⟩ := h
  obtain ⟨g, t, cs, fuel, p, hg, ht, hv, hd, hk⟩ := laid_cells hv _ _ hm
  have e : (Rows.laid_parchment_names_roots : DataW Unit) = Lib.tabData .i64 [1, 2] := by kernel_rfl
  rw [e] at hd
  obtain rfl := Option.some.inj ((show Tryz.prog.globalNamed "parchment/names.roots" = some 0 by kernel_rfl).symm.trans hg)
  obtain rfl := Option.some.inj ((show (Tryz.prog.globals[0]?).map (·.type) = some 55 by kernel_rfl).symm.trans ht)
  have hcs := Lib.cells_of_tab Tryz.underlying55 Tryz.underlying3 (by kernel_rfl) (by kernel_rfl) hd
  have hcs' : cs = #[.int .i64 1, .int .i64 2] := Array.toList_inj.1 hcs
  subst hcs'
  obtain ⟨⟨c, t, hb⟩, _⟩ := hc 0 0 (hk 0 (by simp))
  simp only [World.var?, hg, Option.bind_some, hb, Option.some.injEq] at hv
  exact ⟨t, by rw [hb, hv]⟩
def ren0 : Ren := fun a => if a < 4 then some (a, 0) else none
theorem rel0 {env : Nat → Value} {w : World} {t : TypeId} (h1 : ∀ n, (env n).oneCell' = true) (h : w.heap[0]? = some (.cells #[.int .i64 1, .int .i64 2] t (0, 0))) : Rel env ren0 (hpOf lNN 10) w := by
  have hget : ∀ a, (hpOf lNN 10).t.get a = if a = 0 then some (.cells 1 [.i .i64 (.ofNat 1), .i .i64 (.ofNat 2)]) else none := fun a => by
    show ((TT.e).set _ 0).get a = _
    rw [TT.get_set, TT.get_e]
  refine ⟨fun a o c x ha hc => ?_, fun a a' o o' c x x' ha ha' hc hc' => ?_, fun a ha => ?_, h1⟩
  · rw [hget] at ha
    by_cases e : a = 0
    · subst e
      simp only [if_true, Option.some.injEq] at ha
      simp [ren0] at hc
      obtain ⟨rfl, rfl⟩ := hc
      subst ha
      exact ⟨_, h, [.int .i64 1, .int .i64 2], [], t, (0, 0), rfl, by simp [VRs, VR], rfl, .inl rfl⟩
    · rw [if_neg e] at ha; cases ha
  · rw [hget] at ha ha'
    by_cases e : a = 0 <;> by_cases e' : a' = 0
    · rw [e, e']
    · rw [if_neg e'] at ha'; cases ha'
    · rw [if_neg e] at ha; cases ha
    · rw [if_neg e] at ha; cases ha
  · have ha' : 10 ≤ a := ha
    rw [hget, if_neg (by omega)]
    simp only [ren0]
    rw [if_neg (by omega)]
    exact ⟨rfl, by simp⟩
theorem namesNil_ok (n : Int) (w : World) {t : TypeId} (h : w.heap[0]? = some (.cells #[.int .i64 1, .int .i64 2] t (0, 0))) :
    Calls Tryz.prog 3 #[.int .i64 n] w fun e w' => e = .returned (.bool true) ∧ Below w.heap.size w w' := by
  have r := rel0 (env := fun _ => .int .i64 n) (fun _ => rfl) h
  obtain ⟨H1, hr⟩ := chk_some runNN
  refine ((fns_ok (env := fun _ => .int .i64 n) namesOK (by kernel_rfl) (SNN_ok rfl) 3000).ca 3 [.q 0] [.int .i64 n] (hpOf lNN 10) w ren0 _ H1 r (fun g hg => by simp [ren0, hg]) (by simp [VRs, VR]) hr).mono fun e w' hq => ?_
  obtain ⟨u, ρ', rfl, hu, s⟩ := hq
  simp only [VR] at hu
  subst hu
  refine ⟨rfl, s.os, s.tape, s.output, s.size, fun c hc => s.keep c hc ?_⟩
  rintro ⟨a, o, x, h1, h2, h3⟩
  simp only [ren0] at h3
  rw [if_neg (by omega)] at h3
  cases h3
end Go.Ai
namespace Go.Proofs.YthinojebkapgpaaGreatDoor.namesNil
open Go.ChangeShapes Go.WideShapes Go.ChangeAt Go.RowKit
theorem own : ownKnob Tryz.prog.godebug = none := by kernel_rfl
set_option maxRecDepth 100000 in
theorem contract {H : Type} (enc : TypeId × Value → H) (W : World) (base : Nat) (args : Array Value) (ds gs : List (DataW H)) (before : List MemPlace)
    (hval0 : ∀ (j : Nat) t v, Tryz.f3.params[j]? = some t → args[j]? = some v → Value.okWide Tryz.prog W .any base t v)
    (hW : DataW.Whole enc Tryz.prog Tryz.f3.params.toList Rows.namesNilSpec.vars false W args.toList ds gs before) (hL : laidMetH Tryz.prog Rows.namesNilRow.laid W) :
    Calls Tryz.prog 3 args W fun e W' => ∃ v, e = .returned v ∧ Rows.namesNilSpec.post enc Tryz.prog Tryz.f3 false true false false W args v W' := by
  have hval : ∀ (j : Nat) t v, Tryz.f3.params[j]? = some t → args[j]? = some v → Value.okWide Tryz.prog W .any base t v := hval0
  have hW' := hW
  obtain ⟨p, q, hA0, hV, rfl, hfz, hnd⟩ := hW
  have hA : DataW.TrodAll enc Tryz.prog W 0 (fun _ => true) true Tryz.f3.params.toList args.toList ds p := hA0
  rw [Tryz.params3] at hA hval
  obtain ⟨v0, vs0, d0, ds0, p0, q0, hargs, rfl, rfl, h0, r0⟩ := trodAll_cons hA
  obtain ⟨rfl, rfl, rfl⟩ := trodAll_nil r0
  obtain rfl : args = #[v0] := by cases args; simp_all
  obtain ⟨rfl, rfl⟩ := trodVars_none hV
  obtain ⟨a0, rfl, rfl, rfl, w0⟩ := open_int Tryz.underlying3 (hval 0 3 v0 rfl rfl) h0
  clear hA0 hval0
  simp only [List.append_nil] at hW'
  rw [MakeChecks.laidMetH_plain _ _ _ (by kernel_rfl)] at hL
  obtain ⟨t, ht⟩ := Go.Ai.roots_of hL (by simp [Rows.namesNilRow])
  refine (Go.Ai.namesNil_ok a0 W ht).mono fun e W' ⟨he, bel⟩ => ?_
  subst he
  exact ⟨_, rfl, _, _, _, [], _, [], hW', trodAll_mk1 (shut_bool Tryz.underlying4 _), (trodAll_cons_mk (shut_int Tryz.underlying3 w0) trodAll_mk0), rfl, bel.frame _, fun h => by cases h⟩
set_option maxRecDepth 100000 in
theorem lifted (os : Os) (started : os.Started) (H : Type) (enc : TypeId × Value → H) :
    ReturnsInHanded {} Tryz.checked os 3 .any (fun w args => (Rows.namesNilSpec.pre enc Tryz.prog Tryz.f3 [] false w args ∧ laidMetH Tryz.prog Rows.namesNilRow.laid w) ∧ sizedMet enc Tryz.prog Tryz.f3 (OpenSpec.ofChange Rows.namesNilSpec) false w args)
      (Rows.namesNilSpec.post enc Tryz.prog Tryz.f3 false true false false) := by
  refine returnsInHanded_of_calls own started (by kernel_rfl)
    (ChangeSpec.witness_shaped (enc := enc) (C := Tryz.checked) (os := os) (X := fun w _ => laidMetH Tryz.prog Rows.namesNilRow.laid w) false (World.laidAll Tryz.prog os Rows.namesNilRow.laid) #[.int .i64 0] 8 (World.laidAll_os _ _ _)
      (World.shaped_of_ZipB (by kernel_rfl) (by kernel_rfl)) (by kernel_rfl) (by kernel_rfl) (by kernel_rfl)
      (by rw [MakeChecks.laidMetH_plain _ _ _ (by kernel_rfl)]; exact laidMet_laidAll _ (by kernel_rfl) (by kernel_rfl))) ?_
  intro w tape i _ hsh _ hok hpre _
  obtain ⟨_, _, _, fn', hfn', _, _, _, _, hval⟩ := hok
  have e : fn' = Tryz.f3 := Option.some.inj (hfn'.symm.trans Tryz.func3)
  subst e
  obtain ⟨⟨⟨ds, gs, before, hw, _⟩, hx⟩, hz⟩ := hpre
  refine (contract enc (w.forCall tape i) w.heap.size i.args ds gs before hval (DataW.Whole.of_heap (w' := w.forCall tape i) (by rfl) hw) (hx.of_heap (by rfl))).mono fun e W' ⟨v, he, hp⟩ => ?_
  subst he
  exact ChangeSpec.post_blind hp
theorem over : Rows.NamesNilSaid :=
  OpenClaim.holds_of_wide 3 Tryz.f3 rfl rfl rfl rfl rfl rfl rfl ⟨rfl, rfl, rfl, rfl, rfl⟩ rfl rfl rfl rfl rfl (by kernel_rfl) Tryz.func3 (by kernel_rfl)
    (of_decide_eq_true (by kernel_rfl)) (by unfold Func.isWrapper; first | (rw [if_pos (by decide +kernel)]; kernel_rfl) | (rw [if_neg (by decide +kernel)]; exact ⟨rfl, rfl⟩))
    (fun os started H enc _ => lifted os started H enc)
/-- ████ THE TIED CARD ████ -/
theorem proved : Rows.NamesNilCardSaid :=
  Claim7.holds_tied_plain_at .later [] [.data, .data, .pinned] true (true, "a733f66af2d79b1d0589ac40b03526af2e632b24a2fc82b61d8be331c3368f37") false
    over (fun _ h => by cases h) (by kernel_rfl) (fun _ h => by cases h) namesNil_row_tie rfl ⟨rfl, rfl⟩ (by kernel_rfl) rfl
    (fun f fn hf hfn => by
      obtain rfl : f = 3 := Option.some.inj ((show Tryz.prog.funcNamed "parchment/parchmentlaw18.NamesNil" = some 3 by kernel_rfl).symm.trans hf) |>.symm
      obtain rfl : fn = Tryz.f3 := (Option.some.inj (Tryz.func3.symm.trans hfn)).symm
      exact ⟨by kernel_rfl, fun j t ht => by
        rw [Tryz.params3] at ht
        match j, ht with
        | 0, ht => simp at ht; subst ht; exact (show Tryz.prog.wantsStandIn 3 = false by kernel_rfl)
        | j + 1, ht => simp at ht⟩)
    (by kernel_rfl)
#print axioms proved
end Go.Proofs.YthinojebkapgpaaGreatDoor.namesNil
