/- parchmentlaw16.CursorNil answers true at every root: no cursor, one that nobody made, cursors over no book, and roots that are none tell so; and the chapter's example stands. Its conditions: the package-level variables that the row lists read as the row says when the call begins (the proof uses none of them); the card ties them to the text of the program (unicode/utf8.first is pinned by name). -/
import Derived.Test.YtcbllanmnalomaaGreatDoorCCN
import Derived.Test.YtcbllanmnalomaaGreatDoorRows
import Derived.Lib.LaidTab
import Derived.LaidLaws
import Derived.Lay
import Derived.SevenTiedAt
import Derived.LaidOnce
import Derived.LaidMore
import Derived.MakeChecks
import Derived.WalkKit
import Derived.ProofKit
import Derived.OpenShut
import Derived.ChangeOld
import Derived.Below
import Derived.Test.YtcbllanmnalomaaGreatDoorTie
import Derived.Test.YtcbllanmnalomaaGreatDoorCards
namespace Go.Ai
open Go.Proofs Go.Proofs.YtcbllanmnalomaaGreatDoor Go.RowKit
def ren0 : Ren := fun a => if a < 3 then some (a, 0) else none
theorem rel0 {env : Nat → Value} {w : World} (h1 : ∀ n, (env n).oneCell' = true) : Rel env ren0 (hpOf lCN 10) w := by
  have hget : ∀ a, (hpOf lCN 10).t.get a = none := fun a => TT.get_e a
  refine ⟨fun a o c x ha hc => ?_, fun a a' o o' c x x' ha ha' hc hc' => ?_, fun a ha => ?_, h1⟩
  · rw [hget] at ha; cases ha
  · rw [hget] at ha; cases ha
  · have ha' : 10 ≤ a := ha
    refine ⟨?_, hget a⟩
    simp only [ren0]
    rw [if_neg (by omega)]
theorem cursorNil_ok (n : Int) (w : World) :
    Calls Tryz.prog 3 #[.int .i64 n] w fun e w' => e = .returned (.bool true) ∧ Below w.heap.size w w' := by
  have r := rel0 (env := fun _ => .int .i64 n) (w := w) (fun _ => rfl)
  obtain ⟨H1, hr⟩ := chk_some runCN
  refine ((fns_ok (env := fun _ => .int .i64 n) namesOK (by kernel_rfl) (SCN_ok rfl) 3000).ca 3 [.q 0] [.int .i64 n] (hpOf lCN 10) w ren0 _ H1 r (fun g hg => by simp [ren0, hg]) (by simp [VRs, VR]) hr).mono fun e w' hq => ?_
  obtain ⟨u, ρ', rfl, hu, s⟩ := hq
  simp only [VR] at hu
  subst hu
  refine ⟨rfl, s.os, s.tape, s.output, s.size, fun c hc => s.keep c hc ?_⟩
  rintro ⟨a, o, x, h1, h2, h3⟩
  simp only [ren0] at h3
  rw [if_neg (by omega)] at h3
  cases h3
end Go.Ai
namespace Go.Proofs.YtcbllanmnalomaaGreatDoor.cursorNil
open Go.ChangeShapes Go.WideShapes Go.ChangeAt Go.RowKit
theorem own : ownKnob Tryz.prog.godebug = none := by kernel_rfl
set_option maxRecDepth 100000 in
theorem contract {H : Type} (enc : TypeId × Value → H) (W : World) (base : Nat) (args : Array Value) (ds gs : List (DataW H)) (before : List MemPlace)
    (hval0 : ∀ (j : Nat) t v, Tryz.f3.params[j]? = some t → args[j]? = some v → Value.okWide Tryz.prog W .any base t v)
    (hW : DataW.Whole enc Tryz.prog Tryz.f3.params.toList Rows.cursorNilSpec.vars false W args.toList ds gs before) :
    Calls Tryz.prog 3 args W fun e W' => ∃ v, e = .returned v ∧ Rows.cursorNilSpec.post enc Tryz.prog Tryz.f3 false true false false W args v W' := by
  have hval : ∀ (j : Nat) t v, Tryz.f3.params[j]? = some t → args[j]? = some v → Value.okWide Tryz.prog W .any base t v := hval0
  have hW' := hW
  obtain ⟨p, q, hA0, hV, rfl, hfz, hnd⟩ := hW
  have hA : DataW.TrodAll enc Tryz.prog W 0 (fun _ => true) true Tryz.f3.params.toList args.toList ds p := hA0
  rw [Tryz.params3] at hA hval
  obtain ⟨v0, vs0, d0, ds0, p0, q0, hargs, rfl, rfl, h0, r0⟩ := trodAll_cons hA
  obtain ⟨rfl, rfl, rfl⟩ := trodAll_nil r0
  obtain rfl : args = #[v0] := by cases args; simp_all
  obtain ⟨rfl, rfl⟩ := trodVars_none hV
  obtain ⟨a0, rfl, rfl, rfl, w0⟩ := open_int Tryz.underlying3 (hval 0 3 v0 rfl rfl) h0
  clear hA0 hval0
  simp only [List.append_nil] at hW'
  refine (Go.Ai.cursorNil_ok a0 W).mono fun e W' ⟨he, bel⟩ => ?_
  subst he
  exact ⟨_, rfl, _, _, _, [], _, [], hW', trodAll_mk1 (shut_bool Tryz.underlying4 _), (trodAll_cons_mk (shut_int Tryz.underlying3 w0) trodAll_mk0), rfl, bel.frame _, fun h => by cases h⟩
set_option maxRecDepth 100000 in
theorem lifted (os : Os) (started : os.Started) (H : Type) (enc : TypeId × Value → H) :
    ReturnsInHanded {} Tryz.checked os 3 .any (fun w args => (Rows.cursorNilSpec.pre enc Tryz.prog Tryz.f3 [] false w args ∧ laidMetH Tryz.prog Rows.cursorNilRow.laid w) ∧ sizedMet enc Tryz.prog Tryz.f3 (OpenSpec.ofChange Rows.cursorNilSpec) false w args)
      (Rows.cursorNilSpec.post enc Tryz.prog Tryz.f3 false true false false) := by
  refine returnsInHanded_of_calls own started (by kernel_rfl)
    (ChangeSpec.witness_shaped (enc := enc) (C := Tryz.checked) (os := os) (X := fun w _ => laidMetH Tryz.prog Rows.cursorNilRow.laid w) false (World.laidAll Tryz.prog os Rows.cursorNilRow.laid) #[.int .i64 0] 8 (World.laidAll_os _ _ _)
      (World.shaped_of_ZipB (by kernel_rfl) (by kernel_rfl)) (by kernel_rfl) (by kernel_rfl) (by kernel_rfl)
      (by rw [MakeChecks.laidMetH_plain _ _ _ (by kernel_rfl)]; exact laidMet_laidAll _ (by kernel_rfl) (by kernel_rfl))) ?_
  intro w tape i _ hsh _ hok hpre _
  obtain ⟨_, _, _, fn', hfn', _, _, _, _, hval⟩ := hok
  have e : fn' = Tryz.f3 := Option.some.inj (hfn'.symm.trans Tryz.func3)
  subst e
  obtain ⟨⟨⟨ds, gs, before, hw, _⟩, _⟩, _⟩ := hpre
  refine (contract enc (w.forCall tape i) w.heap.size i.args ds gs before hval (DataW.Whole.of_heap (w' := w.forCall tape i) (by rfl) hw)).mono fun e W' ⟨v, he, hp⟩ => ?_
  subst he
  exact ChangeSpec.post_blind hp
theorem over : Rows.CursorNilSaid :=
  OpenClaim.holds_of_wide 3 Tryz.f3 rfl rfl rfl rfl rfl rfl rfl ⟨rfl, rfl, rfl, rfl, rfl⟩ rfl rfl rfl rfl rfl (by kernel_rfl) Tryz.func3 (by kernel_rfl)
    (of_decide_eq_true (by kernel_rfl)) (by unfold Func.isWrapper; first | (rw [if_pos (by decide +kernel)]; kernel_rfl) | (rw [if_neg (by decide +kernel)]; exact ⟨rfl, rfl⟩))
    (fun os started H enc _ => lifted os started H enc)
/-- ████ THE TIED CARD ████ -/
theorem proved : Rows.CursorNilCardSaid :=
  Claim7.holds_tied_plain_at .later [] [.data, .pinned] true (true, "68539c9438fc2f38356cd985d2b0f8306e7cdd496210c6036d8bb52448807fc4") false
    over (fun _ h => by cases h) (by kernel_rfl) (fun _ h => by cases h) cursorNil_row_tie rfl ⟨rfl, rfl⟩ (by kernel_rfl) rfl
    (fun f fn hf hfn => by
      obtain rfl : f = 3 := Option.some.inj ((show Tryz.prog.funcNamed "parchment/parchmentlaw16.CursorNil" = some 3 by kernel_rfl).symm.trans hf) |>.symm
      obtain rfl : fn = Tryz.f3 := (Option.some.inj (Tryz.func3.symm.trans hfn)).symm
      exact ⟨by kernel_rfl, fun j t ht => by
        rw [Tryz.params3] at ht
        match j, ht with
        | 0, ht => simp at ht; subst ht; exact (show Tryz.prog.wantsStandIn 3 = false by kernel_rfl)
        | j + 1, ht => simp at ht⟩)
    (by kernel_rfl)
#print axioms proved
end Go.Proofs.YtcbllanmnalomaaGreatDoor.cursorNil
