/- The listed variable that the run reads, as the interpreter's memory; a node as an argument; StoreNone run at it. -/
import Derived.Test.YtfmngaligboglaaGreatDoorXST
import Derived.ChangeArms
import Derived.Test.YtfmngaligboglaaGreatDoorRows
import Derived.Lib.LaidTab
import Derived.LaidLaws
import Derived.Lay
import Derived.SevenTiedAt
import Derived.LaidOnce
import Derived.LaidMore
import Derived.MakeChecks
import Derived.WalkKit
import Derived.ProofKit
import Derived.OpenShut
import Derived.ChangeOld
import Derived.Below
import Derived.Test.YtfmngaligboglaaGreatDoorTie
import Derived.Test.YtfmngaligboglaaGreatDoorCards
namespace Go.Ai
open Go.Proofs Go.Proofs.YtfmngaligboglaaGreatDoor Go.RowKit
theorem laid_cells {P : Program} {w : World} : ∀ {l : List (String × DataW Unit)} {ps : List MemPlace}, DataW.LaidVars P w l ps → ∀ n d, (n, d) ∈ l →
    ∃ g t cs fuel p, P.globalNamed n = some g ∧ (P.globals[g]?).map (·.type) = some t ∧ w.var? P n = some cs ∧ DataW.trod (fun _ => ()) P w 0 (fun _ => true) false fuel t cs.toList = some (d, p) ∧ ∀ k, k < cs.size → MemPlace.cell g k ∈ ps
  | [], _, _, _, _, hm => by cases hm
  | (n', d') :: r, ps, h, n, d, hm => by
    obtain ⟨g, t, cs, fuel, p, q, h1, h2, h3, h4, h5, rfl⟩ := h
    rcases List.mem_cons.1 hm with e | e
    · cases e
      exact ⟨g, t, cs, fuel, p, h1, h2, h3, h4, fun k hk => by simp [MemPlace.row]; exact .inl hk⟩
    · obtain ⟨g', t', cs', f', p', k1, k2, k3, k4, k5⟩ := laid_cells h5 n d e
      exact ⟨g', t', cs', f', p', k1, k2, k3, k4, fun k hk => by simp [k5 k hk]⟩
/-- what stands in a variable of the program that the row lists -/
theorem block_of {P : Program} {W : World} {l : List (String × DataW Unit)} (h : laidMet P l W) {nm : String} {d : DataW Unit} (hm : (nm, d) ∈ l) {g : Nat} {t : TypeId} {L : List Value} (hg : P.globalNamed nm = some g) (ht : (P.globals[g]?).map (·.type) = some t) (h0 : 0 < L.length)
    (hd : ∀ fuel cs p, DataW.trod (fun _ => ()) P W 0 (fun _ => true) false fuel t cs = some (d, p) → cs = L) : ∃ t, W.heap[g]? = some (.cells ⟨L⟩ t (0, 0)) := by
  obtain ⟨ps, hv, _, hc⟩ := h
  obtain ⟨g', t', cs, fuel, p, hg', ht', hv, hd', hk⟩ := laid_cells hv _ _ hm
  obtain rfl := Option.some.inj (hg.symm.trans hg')
  obtain rfl := Option.some.inj (ht.symm.trans ht')
  have hcs : cs = ⟨L⟩ := Array.toList_inj.1 (hd _ _ _ hd')
  subst hcs
  obtain ⟨⟨c, t, hb⟩, _⟩ := hc g 0 (hk 0 (by simpa using h0))
  simp only [World.var?, hg, Option.bind_some, hb, Option.some.injEq] at hv
  exact ⟨t, by rw [hb, hv]⟩
def ren0 : Ren := fun a => if a < 10 then some (a, 0) else none
theorem rel_glob {env : Nat → Value} {l : List (Nat × AO)} {w : World} (h1 : ∀ n, (env n).oneCell' = true) (h : ∀ a o, (a, o) ∈ l → a < 10 ∧ ∃ ob, w.heap[a]? = some ob ∧ ObjR ren0 env 0 o ob) : Rel env ren0 (hpOf l 20) w := by
  refine ⟨fun a o c x ha hc => ?_, fun a a' o o' c x x' ha ha' hc hc' => ?_, fun a ha => ?_, h1⟩
  · obtain ⟨h2, ob, h3, h4⟩ := h a o (treeOf_get _ _ _ ha)
    simp only [ren0, if_pos h2, Option.some.injEq, Prod.mk.injEq] at hc
    obtain ⟨rfl, rfl⟩ := hc
    exact ⟨ob, h3, h4⟩
  · have h2 := (h a o (treeOf_get _ _ _ ha)).1
    have h3 := (h a' o' (treeOf_get _ _ _ ha')).1
    simp only [ren0, if_pos h2, Option.some.injEq, Prod.mk.injEq] at hc
    simp only [ren0, if_pos h3, Option.some.injEq, Prod.mk.injEq] at hc'
    omega
  · have ha' : 20 ≤ a := ha
    refine ⟨?_, ?_⟩
    · simp only [ren0]; rw [if_neg (by omega)]
    · cases hg : (hpOf l 20).t.get a with
      | none => rfl
      | some o => have := (h a o (treeOf_get _ _ _ hg)).1; omega
set_option maxRecDepth 100000 in
theorem globs_of {W : World} (h : laidMet Tryz.prog Rows.storeNoneRow.laid W) (env : Nat → Value) : ∀ a o, (a, o) ∈ lST → a < 10 ∧ ∃ ob, W.heap[a]? = some ob ∧ ObjR ren0 env 0 o ob := by
  obtain ⟨t0, b0⟩ := block_of (L := [.int .i64 1, .int .i64 2]) h (nm := "parchment/names.roots") (d := Rows.laid_parchment_names_roots) (g := 0) (t := 182) (by simp [Rows.storeNoneRow]) (by kernel_rfl) (by kernel_rfl) (by simp) (fun fuel cs p hd => by
    have e : (Rows.laid_parchment_names_roots : DataW Unit) = Lib.tabData .i64 [1, 2] := by kernel_rfl
    rw [e] at hd
    exact Lib.cells_of_tab Tryz.underlying182 Tryz.underlying3 (by kernel_rfl) (by kernel_rfl) hd)
  intro a o hm
  simp only [lST, List.mem_cons, List.not_mem_nil, or_false, Prod.mk.injEq] at hm
  obtain ⟨rfl, rfl⟩ := hm
  exact ⟨by decide, _, b0, _, [], t0, (0, 0), by rw [List.append_nil], by simp [VRs, VR], rfl, .inl rfl⟩
set_option maxRecDepth 100000 in
/-- a node as an argument -/
theorem held_of {H : Type} {enc : TypeId × Value → H} {W : World} {base0 : Nat} {v : Value} {d : DataW H} {p : List MemPlace} {sp : Nat → Bool} {hd : Bool} {b : Nat} (hval : Value.okWide Tryz.prog W .any base0 25 v) (h : DataW.Trod enc Tryz.prog W b sp hd 25 v d p) :
    ∃ base n c k nm vl, k < 256 ∧ v = .agg #[.slice base n c, .int .u8 ((k : Nat) : Int), .string nm, .string vl] := by
  have hu : ∃ fs, Tryz.prog.underlying 25 = some (.struct fs) ∧ (fs[1]?).map (fun f => (f.type, f.offset)) = some (23, 1) := by
    have h : (match Tryz.prog.underlying 25 with | some (.struct fs) => (fs[1]?).map (fun f => (f.type, f.offset)) == some (23, 1) | _ => false) = true := by kernel_rfl
    split at h
    · rename_i fs hfs; exact ⟨fs, hfs, by simpa using h⟩
    · cases h
  obtain ⟨fs, hu, hf1⟩ := hu
  have hc4 : Tryz.prog.cellsOf 25 = 4 := by kernel_rfl
  have hts : Tryz.prog.cellTypes Tryz.prog.depth 25 = some [22, 23, 9, 9] := by kernel_rfl
  unfold Value.okWide at hval
  rw [hu] at hval
  obtain ⟨cs, rfl, hsz, ts, hts', _, hall⟩ := hval
  rw [hts] at hts'
  cases hts'
  rw [hc4] at hsz
  obtain ⟨l⟩ := cs
  match l, hsz with
  | [c0, c1, c2, c3], _ =>
    obtain ⟨u0, e0, k0⟩ := hall 0 c0 rfl
    obtain ⟨u1, e1, k1⟩ := hall 1 c1 rfl
    obtain ⟨u2, e2, k2⟩ := hall 2 c2 rfl
    obtain ⟨u3, e3, k3⟩ := hall 3 c3 rfl
    simp at e0 e1 e2 e3
    subst e0 e1 e2 e3
    have w0 : Value.okWide Tryz.prog W .any base0 22 c0 := by unfold Value.okWide; rw [Tryz.underlying22]; exact k0
    have w1 : Value.okWide Tryz.prog W .any base0 23 c1 := by unfold Value.okWide; rw [Tryz.underlying23]; exact k1
    have w2 : Value.okWide Tryz.prog W .any base0 9 c2 := by unfold Value.okWide; rw [Tryz.underlying9]; exact k2
    have w3 : Value.okWide Tryz.prog W .any base0 9 c3 := by unfold Value.okWide; rw [Tryz.underlying9]; exact k3
    obtain ⟨base, n, c, rfl⟩ := Go.WideShapes.okWide_slice Tryz.underlying22 w0
    obtain ⟨nm, rfl⟩ := Go.WideShapes.okWide_string Tryz.underlying9 w2
    obtain ⟨vl, rfl⟩ := Go.WideShapes.okWide_string Tryz.underlying9 w3
    obtain ⟨m, hm⟩ := h
    obtain ⟨xs, m', rfl, _, _, hxl, hx⟩ := DataW.trod_struct hu hm
    cases hf : fs[1]? with
    | none => rw [hf] at hf1; cases hf1
    | some f =>
      rw [hf] at hf1
      simp only [Option.map_some, Option.some.injEq, Prod.mk.injEq] at hf1
      have h1 := hx 1 f hf
      rw [hf1.1, hf1.2, show Tryz.prog.cellsOf 23 = 1 by kernel_rfl] at h1
      have h2 : DataW.trod enc Tryz.prog W b sp hd m' 23 [c1] = xs[1]? := h1
      cases hxs : xs[1]? with
      | none =>
        have h3 := (Array.getElem?_eq_some_iff.1 hf).1
        rw [List.getElem?_eq_none_iff] at hxs
        omega
      | some y =>
        rw [hxs] at h2
        obtain ⟨z, hz, _, hw⟩ := DataW.trod_int Tryz.underlying23 h2
        simp only [List.cons.injEq, and_true] at hz
        subst hz
        simp [Lit.wf, IntKind.min, IntKind.max, IntKind.bits, IntKind.signed] at hw
        exact ⟨base, n, c, z.toNat, nm, vl, by omega, by rw [Int.toNat_of_nonneg (by omega)]⟩
def envS (base : Option Addr) (n c k : Nat) (nm vl : ByteArray) (t : Value) (m : Nat) : Nat → Value
  | 0 => .slice base n c
  | 1 => .int .u8 (k : Int)
  | 2 => .string nm
  | 3 => .string vl
  | 4 => t
  | _ => .int .i64 (m : Int)
theorem storeNone_ok (base : Option Addr) (n c k : Nat) (nm vl : ByteArray) (tb : Option Addr) (tn tc : Nat) (w : World) (h : laidMet Tryz.prog Rows.storeNoneRow.laid w) :
    Calls Tryz.prog 3 #[.agg #[.slice base n c, .int .u8 (k : Int), .string nm, .string vl], .slice tb tn tc] w fun e w' => e = .returned (.bool true) ∧ Below w.heap.size w w' := by
  have r := rel_glob (env := envS base n c k nm vl (.slice tb tn tc) tn) (l := lST) (w := w) (fun n => by match n with | 0 => rfl | 1 => rfl | 2 => rfl | 3 => rfl | 4 => rfl | _ + 5 => rfl) (globs_of h _)
  refine (storeNone_run (env := envS base n c k nm vl (.slice tb tn tc) tn) (β := decide (300 < tn)) ⟨tb, tn, tc, rfl, rfl, rfl⟩ (us := [.agg #[.slice base n c, .int .u8 (k : Int), .string nm, .string vl], .slice tb tn tc]) r (fun g hg => by simp [ren0, hg]) (by simp [VRs, VR, envS])).mono fun e w' hq => ?_
  obtain ⟨u, ρ', H', rfl, hu, s⟩ := hq
  simp only [VR] at hu
  subst hu
  refine ⟨rfl, s.os, s.tape, s.output, s.size, fun c hc => s.keep c hc ?_⟩
  rintro ⟨a, o, x, h1, h2, h3⟩
  simp only [ren0] at h3
  rw [if_neg (by omega)] at h3
  cases h3
end Go.Ai
