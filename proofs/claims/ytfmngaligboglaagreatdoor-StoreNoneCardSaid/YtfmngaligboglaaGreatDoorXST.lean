/- StoreNone, run: at a row of nodes of at most 300, and at a longer one. -/
import Derived.Test.YtfmngaligboglaaGreatDoorAg
import Derived.Test.YtfmngaligboglaaGreatDoorCAW
import Derived.Test.YtfmngaligboglaaGreatDoorCB2
import Derived.Test.YtfmngaligboglaaGreatDoorCCM
namespace Go.Ai
open Go.Proofs Go.Proofs.YtfmngaligboglaaGreatDoor Go.RowKit
set_option maxRecDepth 100000
noncomputable def lST : List (Nat × AO) := (0, .cells 1 [.i .i64 (.ofNat 1), .i .i64 (.ofNat 2)]) :: []
noncomputable def SST : Sums := sumsOf ((4, gAW) :: (16, gB2) :: (17, gCM) :: listT 10 20)
theorem SST_ok {env : Nat → Value} : SumsOK Tryz.prog env 20 10 SST := by
  refine sumsOf_ok _ fun p hp => ?_
  simp only [List.mem_cons] at hp
  rcases hp with rfl | rfl | rfl | hp
  · exact gAW_ok
  · exact gB2_ok
  · exact gCM_ok
  · exact listT_ok p hp
noncomputable def hId (T : TT AV) (H : Heap) : Option (TT AV × Heap) := some (T, H)
theorem hId_ok {P : Program} {env : Nat → Value} {ro nt : Nat} {c : Code} : HookOK P env ro nt c hId := by
  intro T T' H H' ρ a w Q r hT hs hd h K
  simp only [hId, Option.some.injEq, Prod.mk.injEq] at h
  obtain ⟨rfl, rfl⟩ := h
  exact K a w (Step.refl r) hT hs hd
noncomputable def runST (β : Bool) : Option (AV × Heap) := caD Tryz.prog 10 (withQ Tryz.prog 10 20 300 (fnsC Tryz.prog 10 20 1000000 SST 3000) β) hId 3000 3 [.ag [.q 0, .q 1, .q 2, .q 3], .q 4] (hpOf lST 20)
theorem runShort : chk (runST false) (.b true) [] 4063 = true := by kernel_rfl
theorem runLong : chk (runST true) (.b true) [] 2022 = true := by kernel_rfl
theorem runBoth (β : Bool) : ∃ H1, runST β = some (.b true, H1) := by
  cases β with
  | false => exact chk_some runShort
  | true => exact chk_some runLong
/-- the law's only loop -/
noncomputable def bodyST : Code := (Tryz.f3.body).getD .skip
noncomputable def c0ST : Code := (loopsIn bodyST).headD .skip
theorem storeNone_run {env : Nat → Value} {β : Bool} (he : LenIs env 300 β) {us : List Value} {w : World} {ρ : Ren} (r : Rel env ρ (hpOf lST 20) w) (hg : GOK 10 ρ) (ha : VRs ρ env [.ag [.q 0, .q 1, .q 2, .q 3], .q 4] us) :
    Calls Tryz.prog 3 ⟨us⟩ w fun e w' => ∃ u ρ' H', e = .returned u ∧ VR ρ' env (.b true) u ∧ Step env 20 ρ (hpOf lST 20) w ρ' H' w' := by
  obtain ⟨H1, hr⟩ := runBoth β
  have hl : ∀ x ∈ loopsIn bodyST, x = c0ST := by
    have h : loopsIn bodyST = [c0ST] := by kernel_rfl
    rw [h]
    intro x hx
    simpa using hx
  refine (caD_ok (withQ_ok namesOK (fnsC_ok (env := env) namesOK (by kernel_rfl) SST_ok 3000) he) (fn := Tryz.f3) (c := bodyST) (c0 := c0ST) Tryz.func3 (by kernel_rfl) hl hId_ok rfl r hg ha hr).mono fun e w' hq => ?_
  obtain ⟨u, ρ', h1, h2, h3⟩ := hq
  exact ⟨u, ρ', H1, h1, h2, h3⟩
end Go.Ai
