/- parchmentlaw18.NamesNumbers answers true: names of each length, of all bytes, many of them, and numbers at their ends are told as written by hand. Its conditions: the package-level variables that the row lists read as the row says when the call begins (of these the proof uses names.roots alone); the card ties them to the text of the program (unicode/utf8.first is pinned by name). -/
import Derived.Test.YtobdajealbhjmaaGreatDoorKB1
import Derived.Test.YtobdajealbhjmaaGreatDoorKB2
import Derived.Test.YtobdajealbhjmaaGreatDoorKB3
import Derived.Test.YtobdajealbhjmaaGreatDoorKB4
import Derived.Test.YtobdajealbhjmaaGreatDoorKB5
import Derived.Test.YtobdajealbhjmaaGreatDoorKB6
import Derived.Test.YtobdajealbhjmaaGreatDoorKB7
import Derived.Test.YtobdajealbhjmaaGreatDoorKB8
import Derived.Test.YtobdajealbhjmaaGreatDoorKB9
import Derived.Test.YtobdajealbhjmaaGreatDoorKB10
import Derived.Test.YtobdajealbhjmaaGreatDoorKA
import Derived.Test.YtobdajealbhjmaaGreatDoorKB11
import Derived.Test.YtobdajealbhjmaaGreatDoorKB12
import Derived.Test.YtobdajealbhjmaaGreatDoorKB13
import Derived.Test.YtobdajealbhjmaaGreatDoorKB14
import Derived.Test.YtobdajealbhjmaaGreatDoorKB15
import Derived.Test.YtobdajealbhjmaaGreatDoorKB16
import Derived.Test.YtobdajealbhjmaaGreatDoorKB17
import Derived.Test.YtobdajealbhjmaaGreatDoorKB18
import Derived.Test.YtobdajealbhjmaaGreatDoorKB19
import Derived.Test.YtobdajealbhjmaaGreatDoorRows
import Derived.Lib.LaidTab
import Derived.LaidLaws
import Derived.Lay
import Derived.SevenTiedAt
import Derived.LaidOnce
import Derived.LaidMore
import Derived.MakeChecks
import Derived.WalkKit
import Derived.ProofKit
import Derived.OpenShut
import Derived.ChangeOld
import Derived.Below
import Derived.Test.YtobdajealbhjmaaGreatDoorTie
import Derived.Test.YtobdajealbhjmaaGreatDoorCards
namespace Go.Ai
open Go.Proofs Go.Proofs.YtobdajealbhjmaaGreatDoor Go.RowKit
theorem laid_cells {P : Program} {w : World} : ∀ {l : List (String × DataW Unit)} {ps : List MemPlace}, DataW.LaidVars P w l ps → ∀ n d, (n, d) ∈ l →
    ∃ g t cs fuel p, P.globalNamed n = some g ∧ (P.globals[g]?).map (·.type) = some t ∧ w.var? P n = some cs ∧ DataW.trod (fun _ => ()) P w 0 (fun _ => true) false fuel t cs.toList = some (d, p) ∧ ∀ k, k < cs.size → MemPlace.cell g k ∈ ps
  | [], _, _, _, _, hm => by cases hm
  | (n', d') :: r, ps, h, n, d, hm => by
    obtain ⟨g, t, cs, fuel, p, q, h1, h2, h3, h4, h5, rfl⟩ := h
    rcases List.mem_cons.1 hm with e | e
    · cases e
      exact ⟨g, t, cs, fuel, p, h1, h2, h3, h4, fun k hk => by simp [MemPlace.row]; exact .inl hk⟩
    · obtain ⟨g', t', cs', f', p', k1, k2, k3, k4, k5⟩ := laid_cells h5 n d e
      exact ⟨g', t', cs', f', p', k1, k2, k3, k4, fun k hk => by simp [k5 k hk]⟩
set_option maxRecDepth 100000 in
theorem roots_of {W : World} {l : List (String × DataW Unit)} (h : laidMet Tryz.prog l W) (hm : ("parchment/names.roots", Rows.laid_parchment_names_roots) ∈ l) : ∃ t, W.heap[0]? = some (.cells #[.int .i64 1, .int .i64 2] t (0, 0)) := by
  obtain ⟨ps, hv, _, hc⟩ := h
  obtain ⟨g, t, cs, fuel, p, hg, ht, hv, hd, hk⟩ := laid_cells hv _ _ hm
  have e : (Rows.laid_parchment_names_roots : DataW Unit) = Lib.tabData .i64 [1, 2] := by kernel_rfl
  rw [e] at hd
  obtain rfl := Option.some.inj ((show Tryz.prog.globalNamed "parchment/names.roots" = some 0 by kernel_rfl).symm.trans hg)
  obtain rfl := Option.some.inj ((show (Tryz.prog.globals[0]?).map (·.type) = some 56 by kernel_rfl).symm.trans ht)
  have hcs := Lib.cells_of_tab Tryz.underlying56 Tryz.underlying3 (by kernel_rfl) (by kernel_rfl) hd
  have hcs' : cs = #[.int .i64 1, .int .i64 2] := Array.toList_inj.1 hcs
  subst hcs'
  obtain ⟨⟨c, t, hb⟩, _⟩ := hc 0 0 (hk 0 (by simp))
  simp only [World.var?, hg, Option.bind_some, hb, Option.some.injEq] at hv
  exact ⟨t, by rw [hb, hv]⟩
def ren0 : Ren := fun a => if a < 4 then some (a, 0, 0) else none
theorem rel0 {env : Nat → Value} {w : World} {t : TypeId} (h1 : ∀ n, (env n).oneCell' = true) (h : w.heap[0]? = some (.cells #[.int .i64 1, .int .i64 2] t (0, 0))) : Rel env ren0 ⟨sk0.H, 20⟩ w := by
  have hget : ∀ a, (sk0.H).get a = if a = 0 then some (.cells 1 [.i .i64 (.ofNat 1), .i .i64 (.ofNat 2)]) else none := fun a => by
    show ((TT.e).set _ 0).get a = _
    rw [TT.get_set, TT.get_e]
  refine ⟨fun a o c x ha hc => ?_, fun a a' o o' c x x' ha ha' hc hc' => ?_, fun a ha => ?_, h1⟩
  · have ha : (sk0.H).get a = some o := ha
    rw [hget] at ha
    by_cases e : a = 0
    · subst e
      simp only [if_true, Option.some.injEq] at ha
      simp [ren0] at hc
      obtain ⟨rfl, rfl⟩ := hc
      subst ha
      exact ⟨_, h, old_row ⟨[.int .i64 1, .int .i64 2], [], t, (0, 0), rfl, by simp [VRs, VR], rfl, .inl rfl⟩⟩
    · rw [if_neg e] at ha; cases ha
  · have ha : (sk0.H).get a = some o := ha
    have ha' : (sk0.H).get a' = some o' := ha'
    rw [hget] at ha ha'
    by_cases e : a = 0 <;> by_cases e' : a' = 0
    · rw [e, e']
    · rw [if_neg e'] at ha'; cases ha'
    · rw [if_neg e] at ha; cases ha
    · rw [if_neg e] at ha; cases ha
  · have ha' : 20 ≤ a := ha
    refine ⟨?_, ?_⟩
    · simp only [ren0]
      rw [if_neg (by omega)]
    · show (sk0.H).get a = none
      rw [hget, if_neg (by omega)]
abbrev RR : TT AV → Heap → Prop := fun T' H' => resA Tryz.prog T' H' Tryz.f3.results.toList = some [.b true]
theorem hFk (env : Nat → Value) : FnsOK Tryz.prog env 20 4 Fk := fnsQ_ok namesOK (by kernel_rfl) (sumsOf_ok _ listE_ok) 3000
set_option maxRecDepth 100000 in
theorem gk30_ok (env : Nat → Value) : SumIs Tryz.prog env 20 4 117 gk30 := memoT_ok (hFk env).ca mk30
theorem hFk30 (env : Nat → Value) : FnsOK Tryz.prog env 20 4 Fk30 := fnsQ_ok namesOK (by kernel_rfl) (sumsOf_ok _ fun p hp => by
    simp only [List.mem_cons] at hp
    rcases hp with rfl | hp
    · exact gk30_ok env
    · exact listE_ok p hp) 3000
abbrev OKk (env : Nat → Value) (s : St) : Prop := s.OK Tryz.prog env 20 4 Tryz.f3.ntmps c0k RR
theorem okk55 (env : Nat → Value) : OKk env sk55 := lastPiece (hFk env) rk55
theorem okk54 (env : Nat → Value) : OKk env sk54 := piece (hFk env) rk54 (okk55 env)
theorem okk53 (env : Nat → Value) : OKk env sk53 := piece (hFk env) rk53 (okk54 env)
theorem okk52 (env : Nat → Value) : OKk env sk52 := piece (hFk env) rk52 (okk53 env)
theorem okk51 (env : Nat → Value) : OKk env sk51 := piece (hFk env) rk51 (okk52 env)
theorem okk50 (env : Nat → Value) : OKk env sk50 := piece (hFk env) rk50 (okk51 env)
theorem okk49 (env : Nat → Value) : OKk env sk49 := piece (hFk env) rk49 (okk50 env)
theorem okk48 (env : Nat → Value) : OKk env sk48 := piece (hFk env) rk48 (okk49 env)
theorem okk47 (env : Nat → Value) : OKk env sk47 := piece (hFk env) rk47 (okk48 env)
theorem okk46 (env : Nat → Value) : OKk env sk46 := piece (hFk env) rk46 (okk47 env)
theorem okk45 (env : Nat → Value) : OKk env sk45 := piece (hFk env) rk45 (okk46 env)
theorem okk44 (env : Nat → Value) : OKk env sk44 := piece (hFk env) rk44 (okk45 env)
theorem okk43 (env : Nat → Value) : OKk env sk43 := piece (hFk env) rk43 (okk44 env)
theorem okk42 (env : Nat → Value) : OKk env sk42 := piece (hFk env) rk42 (okk43 env)
theorem okk41 (env : Nat → Value) : OKk env sk41 := piece (hFk env) rk41 (okk42 env)
theorem okk40 (env : Nat → Value) : OKk env sk40 := piece (hFk env) rk40 (okk41 env)
theorem okk39 (env : Nat → Value) : OKk env sk39 := piece (hFk env) rk39 (okk40 env)
theorem okk38 (env : Nat → Value) : OKk env sk38 := piece (hFk env) rk38 (okk39 env)
theorem okk37 (env : Nat → Value) : OKk env sk37 := piece (hFk env) rk37 (okk38 env)
theorem okk36 (env : Nat → Value) : OKk env sk36 := piece (hFk env) rk36 (okk37 env)
theorem okk35 (env : Nat → Value) : OKk env sk35 := piece (hFk env) rk35 (okk36 env)
theorem okk34 (env : Nat → Value) : OKk env sk34 := piece (hFk env) rk34 (okk35 env)
theorem okk33 (env : Nat → Value) : OKk env sk33 := piece (hFk env) rk33 (okk34 env)
theorem okk32 (env : Nat → Value) : OKk env sk32 := piece (hFk env) rk32 (okk33 env)
theorem okk31 (env : Nat → Value) : OKk env sk31 := piece (hFk env) rk31 (okk32 env)
theorem okk30 (env : Nat → Value) : OKk env sk30 := piece (hFk30 env) rk30 (okk31 env)
theorem okk29 (env : Nat → Value) : OKk env sk29 := piece (hFk env) rk29 (okk30 env)
theorem okk28 (env : Nat → Value) : OKk env sk28 := piece (hFk env) rk28 (okk29 env)
theorem okk27 (env : Nat → Value) : OKk env sk27 := piece (hFk env) rk27 (okk28 env)
theorem okk26 (env : Nat → Value) : OKk env sk26 := piece (hFk env) rk26 (okk27 env)
theorem okk25 (env : Nat → Value) : OKk env sk25 := piece (hFk env) rk25 (okk26 env)
theorem okk24 (env : Nat → Value) : OKk env sk24 := piece (hFk env) rk24 (okk25 env)
theorem okk23 (env : Nat → Value) : OKk env sk23 := piece (hFk env) rk23 (okk24 env)
theorem okk22 (env : Nat → Value) : OKk env sk22 := piece (hFk env) rk22 (okk23 env)
theorem okk21 (env : Nat → Value) : OKk env sk21 := piece (hFk env) rk21 (okk22 env)
theorem okk20 (env : Nat → Value) : OKk env sk20 := piece (hFk env) rk20 (okk21 env)
theorem okk19 (env : Nat → Value) : OKk env sk19 := piece (hFk env) rk19 (okk20 env)
theorem okk18 (env : Nat → Value) : OKk env sk18 := piece (hFk env) rk18 (okk19 env)
theorem okk17 (env : Nat → Value) : OKk env sk17 := piece (hFk env) rk17 (okk18 env)
theorem okk16 (env : Nat → Value) : OKk env sk16 := piece (hFk env) rk16 (okk17 env)
theorem okk15 (env : Nat → Value) : OKk env sk15 := piece (hFk env) rk15 (okk16 env)
theorem okk14 (env : Nat → Value) : OKk env sk14 := piece (hFk env) rk14 (okk15 env)
theorem okk13 (env : Nat → Value) : OKk env sk13 := piece (hFk env) rk13 (okk14 env)
theorem okk12 (env : Nat → Value) : OKk env sk12 := piece (hFk env) rk12 (okk13 env)
theorem okk11 (env : Nat → Value) : OKk env sk11 := piece (hFk env) rk11 (okk12 env)
theorem okk10 (env : Nat → Value) : OKk env sk10 := piece (hFk env) rk10 (okk11 env)
theorem okk9 (env : Nat → Value) : OKk env sk9 := piece (hFk env) rk9 (okk10 env)
theorem okk8 (env : Nat → Value) : OKk env sk8 := piece (hFk env) rk8 (okk9 env)
theorem okk7 (env : Nat → Value) : OKk env sk7 := piece (hFk env) rk7 (okk8 env)
theorem okk6 (env : Nat → Value) : OKk env sk6 := piece (hFk env) rk6 (okk7 env)
theorem okk5 (env : Nat → Value) : OKk env sk5 := piece (hFk env) rk5 (okk6 env)
theorem okk4 (env : Nat → Value) : OKk env sk4 := piece (hFk env) rk4 (okk5 env)
theorem okk3 (env : Nat → Value) : OKk env sk3 := piece (hFk env) rk3 (okk4 env)
theorem okk2 (env : Nat → Value) : OKk env sk2 := piece (hFk env) rk2 (okk3 env)
theorem okk1 (env : Nat → Value) : OKk env sk1 := piece (hFk env) rk1 (okk2 env)
theorem okk0 (env : Nat → Value) : OKk env sk0 := piece (hFk env) rk0 (okk1 env)
theorem law_ok (w : World) {t : TypeId} (h : w.heap[0]? = some (.cells #[.int .i64 1, .int .i64 2] t (0, 0))) :
    Calls Tryz.prog 3 #[] w fun e w' => e = .returned (.bool true) ∧ Below w.heap.size w w' := by
  have r := rel0 (env := fun _ => .bool true) (w := w) (fun _ => rfl) h
  refine (calls_of_cfg (c0 := c0k) (nt := Tryz.f3.ntmps) (args := []) (us := []) (v := .b true) Tryz.func3 (by rfl) (by kernel_rfl) r (fun g hg => by simp [ren0, hg]) (by simp [VRs]) (okk0 _)).mono fun e w' hq => ?_
  obtain ⟨u, ρ', H1, rfl, hu, s⟩ := hq
  simp only [VR] at hu
  subst hu
  refine ⟨rfl, s.os, s.tape, s.output, s.size, fun c hc => s.keep c hc ?_⟩
  rintro ⟨a, o, x, h1, h2, h3⟩
  simp only [ren0] at h3
  rw [if_neg (by omega)] at h3
  cases h3
end Go.Ai
namespace Go.Proofs.YtobdajealbhjmaaGreatDoor.namesNumbers
open Go.ChangeShapes Go.WideShapes Go.ChangeAt Go.RowKit
theorem own : ownKnob Tryz.prog.godebug = none := by kernel_rfl
set_option maxRecDepth 100000 in
theorem contract {H : Type} (enc : TypeId × Value → H) (W : World) (args : Array Value) (ds gs : List (DataW H)) (before : List MemPlace)
    (hW : DataW.Whole enc Tryz.prog Tryz.f3.params.toList Rows.namesNumbersSpec.vars false W args.toList ds gs before) (hL : laidMetH Tryz.prog Rows.namesNumbersRow.laid W) :
    Calls Tryz.prog 3 args W fun e W' => ∃ v, e = .returned v ∧ Rows.namesNumbersSpec.post enc Tryz.prog Tryz.f3 false true false false W args v W' := by
  have hW' := hW
  obtain ⟨p, q, hA0, hV, rfl, hfz, hnd⟩ := hW
  have hA : DataW.TrodAll enc Tryz.prog W 0 (fun _ => true) true Tryz.f3.params.toList args.toList ds p := hA0
  rw [Tryz.params3] at hA
  obtain ⟨hargs, rfl, rfl⟩ := trodAll_nil hA
  obtain rfl : args = #[] := Array.toList_inj.1 hargs
  obtain ⟨rfl, rfl⟩ := trodVars_none hV
  clear hA0
  simp only [List.append_nil] at hW'
  rw [MakeChecks.laidMetH_plain _ _ _ (by kernel_rfl)] at hL
  obtain ⟨t, ht⟩ := Go.Ai.roots_of hL (by simp [Rows.namesNumbersRow])
  refine (Go.Ai.law_ok W ht).mono fun e W' ⟨he, bel⟩ => ?_
  subst he
  exact ⟨_, rfl, _, _, _, [], _, [], hW', trodAll_mk1 (shut_bool Tryz.underlying4 _), trodAll_mk0, rfl, bel.frame _, fun h => by cases h⟩
set_option maxRecDepth 100000 in
theorem lifted (os : Os) (started : os.Started) (H : Type) (enc : TypeId × Value → H) :
    ReturnsInHanded {} Tryz.checked os 3 .any (fun w args => (Rows.namesNumbersSpec.pre enc Tryz.prog Tryz.f3 [] false w args ∧ laidMetH Tryz.prog Rows.namesNumbersRow.laid w) ∧ sizedMet enc Tryz.prog Tryz.f3 (OpenSpec.ofChange Rows.namesNumbersSpec) false w args)
      (Rows.namesNumbersSpec.post enc Tryz.prog Tryz.f3 false true false false) := by
  refine returnsInHanded_of_calls own started (by kernel_rfl)
    (ChangeSpec.witness_shaped (enc := enc) (C := Tryz.checked) (os := os) (X := fun w _ => laidMetH Tryz.prog Rows.namesNumbersRow.laid w) false (World.laidAll Tryz.prog os Rows.namesNumbersRow.laid) #[] 8 (World.laidAll_os _ _ _)
      (World.shaped_of_ZipB (by kernel_rfl) (by kernel_rfl)) (by kernel_rfl) (by kernel_rfl) (by kernel_rfl)
      (by rw [MakeChecks.laidMetH_plain _ _ _ (by kernel_rfl)]; exact laidMet_laidAll _ (by kernel_rfl) (by kernel_rfl))) ?_
  intro w tape i _ hsh _ hok hpre _
  obtain ⟨⟨⟨ds, gs, before, hw, _⟩, hx⟩, _⟩ := hpre
  refine (contract enc (w.forCall tape i) i.args ds gs before (DataW.Whole.of_heap (w' := w.forCall tape i) (by rfl) hw) (hx.of_heap (by rfl))).mono fun e W' ⟨v, he, hp⟩ => ?_
  subst he
  exact ChangeSpec.post_blind hp
theorem over : Rows.NamesNumbersSaid :=
  OpenClaim.holds_of_wide 3 Tryz.f3 rfl rfl rfl rfl rfl rfl rfl ⟨rfl, rfl, rfl, rfl, rfl⟩ rfl rfl rfl rfl rfl (by kernel_rfl) Tryz.func3 (by kernel_rfl)
    (of_decide_eq_true (by kernel_rfl)) (by unfold Func.isWrapper; first | (rw [if_pos (by decide +kernel)]; kernel_rfl) | (rw [if_neg (by decide +kernel)]; exact ⟨rfl, rfl⟩))
    (fun os started H enc _ => lifted os started H enc)
/-- ████ THE TIED CARD ████ -/
theorem proved : Rows.NamesNumbersCardSaid :=
  Claim7.holds_tied_plain_at .later [] [.data, .data, .pinned] true (true, "0e72f586a7645a9634045991746d1e44d3f4269ce2ea5ca300c50d65ddfe9487") false
    over (fun _ h => by cases h) (by kernel_rfl) (fun _ h => by cases h) namesNumbers_row_tie rfl ⟨rfl, rfl⟩ (by kernel_rfl) rfl
    (fun f fn hf hfn => by
      obtain rfl : f = 3 := Option.some.inj ((show Tryz.prog.funcNamed "parchment/parchmentlaw18.NamesNumbers" = some 3 by kernel_rfl).symm.trans hf) |>.symm
      obtain rfl : fn = Tryz.f3 := (Option.some.inj (Tryz.func3.symm.trans hfn)).symm
      exact ⟨by kernel_rfl, fun j t ht => by
        rw [Tryz.params3] at ht
        simp at ht⟩)
    (by kernel_rfl)
#print axioms proved
end Go.Proofs.YtobdajealbhjmaaGreatDoor.namesNumbers
