/- The listed variables, as the interpreter's memory; WalkNone run at it. -/
import Derived.Test.YtfjjoaihhafenaaGreatDoorCWN
import Derived.ChangeArms
import Derived.Test.YtfjjoaihhafenaaGreatDoorRows
import Derived.Lib.LaidTab
import Derived.LaidLaws
import Derived.Lay
import Derived.SevenTiedAt
import Derived.LaidOnce
import Derived.LaidMore
import Derived.MakeChecks
import Derived.WalkKit
import Derived.ProofKit
import Derived.OpenShut
import Derived.ChangeOld
import Derived.Below
import Derived.Test.YtfjjoaihhafenaaGreatDoorTie
import Derived.Test.YtfjjoaihhafenaaGreatDoorCards
namespace Go.Ai
open Go.Proofs Go.Proofs.YtfjjoaihhafenaaGreatDoor Go.RowKit
theorem laid_cells {P : Program} {w : World} : ∀ {l : List (String × DataW Unit)} {ps : List MemPlace}, DataW.LaidVars P w l ps → ∀ n d, (n, d) ∈ l →
    ∃ g t cs fuel p, P.globalNamed n = some g ∧ (P.globals[g]?).map (·.type) = some t ∧ w.var? P n = some cs ∧ DataW.trod (fun _ => ()) P w 0 (fun _ => true) false fuel t cs.toList = some (d, p) ∧ ∀ k, k < cs.size → MemPlace.cell g k ∈ ps
  | [], _, _, _, _, hm => by cases hm
  | (n', d') :: r, ps, h, n, d, hm => by
    obtain ⟨g, t, cs, fuel, p, q, h1, h2, h3, h4, h5, rfl⟩ := h
    rcases List.mem_cons.1 hm with e | e
    · cases e
      exact ⟨g, t, cs, fuel, p, h1, h2, h3, h4, fun k hk => by simp [MemPlace.row]; exact .inl hk⟩
    · obtain ⟨g', t', cs', f', p', k1, k2, k3, k4, k5⟩ := laid_cells h5 n d e
      exact ⟨g', t', cs', f', p', k1, k2, k3, k4, fun k hk => by simp [k5 k hk]⟩
theorem chunks_eq {α : Type} (m : Nat) : ∀ (R : List (List α)) (cs : List α), cs.length = R.length * m → (∀ i r, R[i]? = some r → (cs.drop (i * m)).take m = r) → cs = R.flatten
  | [], cs, h, _ => by simpa using h
  | r :: R, cs, h, hr => by
    have h0 := hr 0 r rfl
    simp only [Nat.zero_mul, List.drop_zero] at h0
    have ih := chunks_eq m R (cs.drop m) (by rw [List.length_drop, h, List.length_cons, Nat.succ_mul]; omega) (fun i q hq => by
      have := hr (i + 1) q (by simpa using hq)
      rw [List.drop_drop]
      rw [Nat.succ_mul, Nat.add_comm] at this
      exact this)
    rw [List.flatten_cons, ← h0, ← ih, List.take_append_drop]
/-- an array of structs of numbers and truths that reads as the table holds it, cell for cell -/
theorem cells_of_rows {H : Type} {enc : TypeId × Value → H} {P : Program} {w : World} {base : Nat} {sp : Nat → Bool} {held : Bool} {fuel : Nat} {t e : TypeId} {n m : Nat} {fs : Array Field} {cs : List Value} {rows : List (List Lit)} {p : List MemPlace}
    (ht : P.underlying t = some (.array n e)) (he : P.underlying e = some (.struct fs)) (hce : P.cellsOf e = m) (hct : P.cellsOf t = n * m) (hfs : fs.size = m)
    (hf : ∀ (i : Nat) (f : Field), fs[i]? = some f → f.offset = i ∧ P.cellsOf f.type = 1 ∧ (P.underlying f.type = some .bool ∨ ∃ k, P.underlying f.type = some (.int k)))
    (h : DataW.trod enc P w base sp held fuel t cs = some (.agg (rows.map fun r => .agg (r.map .lit)), p)) : cs = (rows.map fun r => r.map Lit.value).flatten := by
  cases fuel with
  | zero => simp [DataW.trod] at h
  | succ fuel =>
    simp only [DataW.trod, ht, hce, hct] at h
    split at h
    · rename_i hl
      obtain ⟨xs, hm, hx⟩ := Option.map_eq_some_iff.1 h
      have hxs : xs.map (·.1) = rows.map fun r => (DataW.agg (r.map .lit) : DataW H) := by
        have := congrArg Prod.fst hx
        simpa using this
      have hxl : xs.length = n := by simpa using Lib.mapM_length hm
      have hrl : rows.length = n := by
        have := congrArg List.length hxs
        simp at this
        omega
      refine chunks_eq m _ cs (by simp [hl, hrl]) fun i r hr => ?_
      rw [List.getElem?_map, Option.map_eq_some_iff] at hr
      obtain ⟨r0, hr0, rfl⟩ := hr
      have hi : i < n := by have := (List.getElem?_eq_some_iff.1 hr0).1; omega
      obtain ⟨b, hb, hfb⟩ := Lib.mapM_at hm i i (by simp [hi])
      obtain ⟨ys, n', _, rfl, hlen, hys, hat⟩ := DataW.trod_struct he hfb
      have h2 : (xs.map (·.1))[i]? = some (DataW.agg (r0.map .lit) : DataW H) := by rw [hxs]; simp [hr0]
      rw [List.getElem?_map, hb] at h2
      simp only [Option.map_some, Option.some.injEq, DataW.agg.injEq] at h2
      have hrm : r0.length = m := by
        have := congrArg List.length h2
        simp at this
        omega
      apply List.ext_getElem?
      intro j
      by_cases hj : j < m
      · have hfj : fs[j]? = some fs[j] := by simp [hfs, hj]
        obtain ⟨o1, o2, o3⟩ := hf j _ hfj
        have hy := hat j _ hfj
        rw [o1, o2] at hy
        obtain ⟨y, hyj⟩ : ∃ y, ys[j]? = some y := ⟨ys[j]'(by omega), by simp [hys, hfs, hj]⟩
        rw [hyj] at hy
        have hz : (ys.map (·.1))[j]? = some y.1 := by simp [hyj]
        rw [h2] at hz
        obtain ⟨q, hq, hq2⟩ : ∃ q, r0[j]? = some q ∧ DataW.lit q = y.1 := by simpa using hz
        have hv : (((cs.drop (i * m)).take m).drop j).take 1 = [q.value] := by
          rcases o3 with o3 | ⟨k, o3⟩
          · obtain ⟨z, hc, rfl⟩ := DataW.trod_bool o3 hy
            simp only [DataW.lit.injEq] at hq2
            subst hq2
            exact hc
          · obtain ⟨z, hc, rfl, _⟩ := DataW.trod_int o3 hy
            simp only [DataW.lit.injEq] at hq2
            subst hq2
            exact hc
        have := congrArg (·[0]?) hv
        rw [List.getElem?_map, hq]
        simpa [List.getElem?_take, List.getElem?_drop, hj] using this
      · have hlen' : ((cs.drop (i * m)).take m).length ≤ m := by simp; omega
        rw [List.getElem?_eq_none (by omega), List.getElem?_eq_none (by simp; omega)]
    · cases h
/-- what stands in a variable of the program that the row lists -/
theorem block_of {P : Program} {W : World} {l : List (String × DataW Unit)} (h : laidMet P l W) {nm : String} {d : DataW Unit} (hm : (nm, d) ∈ l) {g : Nat} {t : TypeId} {L : List Value} (hg : P.globalNamed nm = some g) (ht : (P.globals[g]?).map (·.type) = some t) (h0 : 0 < L.length)
    (hd : ∀ fuel cs p, DataW.trod (fun _ => ()) P W 0 (fun _ => true) false fuel t cs = some (d, p) → cs = L) : ∃ t, W.heap[g]? = some (.cells ⟨L⟩ t (0, 0)) := by
  obtain ⟨ps, hv, _, hc⟩ := h
  obtain ⟨g', t', cs, fuel, p, hg', ht', hv, hd', hk⟩ := laid_cells hv _ _ hm
  obtain rfl := Option.some.inj (hg.symm.trans hg')
  obtain rfl := Option.some.inj (ht.symm.trans ht')
  have hcs : cs = ⟨L⟩ := Array.toList_inj.1 (hd _ _ _ hd')
  subst hcs
  obtain ⟨⟨c, t, hb⟩, _⟩ := hc g 0 (hk 0 (by simpa using h0))
  simp only [World.var?, hg, Option.bind_some, hb, Option.some.injEq] at hv
  exact ⟨t, by rw [hb, hv]⟩
def rulesL : List (List Lit) := [[.bool false, .bool false, .bool false, .bool false, .bool false, .bool false], [.bool false, .bool false, .bool false, .bool false, .bool false, .bool false], [.bool true, .bool false, .bool false, .bool true, .bool true, .bool true], [.bool true, .bool true, .bool false, .bool false, .bool false, .bool true], [.bool false, .bool true, .bool true, .bool true, .bool false, .bool true], [.bool false, .bool true, .bool false, .bool true, .bool true, .bool true], [.bool true, .bool true, .bool false, .bool true, .bool true, .bool true]]
def startsL : List (List Lit) := [[.int .i32 65, .int .i32 90], [.int .i32 95, .int .i32 95], [.int .i32 97, .int .i32 122], [.int .i32 192, .int .i32 214], [.int .i32 216, .int .i32 246], [.int .i32 248, .int .i32 767], [.int .i32 880, .int .i32 893], [.int .i32 895, .int .i32 8191], [.int .i32 8204, .int .i32 8205], [.int .i32 8304, .int .i32 8591], [.int .i32 11264, .int .i32 12271], [.int .i32 12289, .int .i32 55295], [.int .i32 63744, .int .i32 64975], [.int .i32 65008, .int .i32 65533], [.int .i32 65536, .int .i32 983039]]
def plainS (P : Program) (e : TypeId) (m : Nat) : Bool :=
  match P.underlying e with
  | some (.struct fs) => decide (fs.size = m) && (List.range m).all fun i => match fs[i]? with
    | some f => decide (f.offset = i) && (decide (P.cellsOf f.type = 1) && (match P.underlying f.type with | some .bool => true | some (.int _) => true | _ => false))
    | none => false
  | _ => false
theorem plainS_ok {P : Program} {e : TypeId} {m : Nat} (h : plainS P e m = true) : ∃ fs, P.underlying e = some (.struct fs) ∧ fs.size = m ∧
    ∀ (i : Nat) (f : Field), fs[i]? = some f → f.offset = i ∧ P.cellsOf f.type = 1 ∧ (P.underlying f.type = some .bool ∨ ∃ k, P.underlying f.type = some (.int k)) := by
  unfold plainS at h
  split at h
  · rename_i fs hfs
    rw [Bool.and_eq_true] at h
    obtain ⟨h1, h2⟩ := h
    have h1 := of_decide_eq_true h1
    refine ⟨fs, hfs, h1, fun i f hi => ?_⟩
    have hlt : i < m := by have := (Array.getElem?_eq_some_iff.1 hi).1; omega
    have := List.all_eq_true.1 h2 i (by simpa using hlt)
    rw [hi] at this
    simp only [Bool.and_eq_true, decide_eq_true_eq] at this
    refine ⟨this.1, this.2.1, ?_⟩
    have h3 := this.2.2
    split at h3
    · rename_i hb; exact .inl hb
    · rename_i k hb; exact .inr ⟨k, hb⟩
    · cases h3
  · cases h
def ren0 : Ren := fun a => if a < 10 then some (a, 0) else none
theorem rel_glob {env : Nat → Value} {l : List (Nat × AO)} {w : World} (h1 : ∀ n, (env n).oneCell' = true) (h : ∀ a o, (a, o) ∈ l → a < 10 ∧ ∃ ob, w.heap[a]? = some ob ∧ ObjR ren0 env 0 o ob) : Rel env ren0 (hpOf l 20) w := by
  refine ⟨fun a o c x ha hc => ?_, fun a a' o o' c x x' ha ha' hc hc' => ?_, fun a ha => ?_, h1⟩
  · obtain ⟨h2, ob, h3, h4⟩ := h a o (treeOf_get _ _ _ ha)
    simp only [ren0, if_pos h2, Option.some.injEq, Prod.mk.injEq] at hc
    obtain ⟨rfl, rfl⟩ := hc
    exact ⟨ob, h3, h4⟩
  · have h2 := (h a o (treeOf_get _ _ _ ha)).1
    have h3 := (h a' o' (treeOf_get _ _ _ ha')).1
    simp only [ren0, if_pos h2, Option.some.injEq, Prod.mk.injEq] at hc
    simp only [ren0, if_pos h3, Option.some.injEq, Prod.mk.injEq] at hc'
    omega
  · have ha' : 20 ≤ a := ha
    refine ⟨?_, ?_⟩
    · simp only [ren0]; rw [if_neg (by omega)]
    · cases hg : (hpOf l 20).t.get a with
      | none => rfl
      | some o => have := (h a o (treeOf_get _ _ _ hg)).1; omega
set_option maxRecDepth 100000 in
theorem globs_of {W : World} (h : laidMet Tryz.prog Rows.walkNoneRow.laid W) (env : Nat → Value) : ∀ a o, (a, o) ∈ lWN → a < 10 ∧ ∃ ob, W.heap[a]? = some ob ∧ ObjR ren0 env 0 o ob := by
  obtain ⟨t0, b0⟩ := block_of (L := [.int .i64 1, .int .i64 2]) h (nm := "parchment/names.roots") (d := Rows.laid_parchment_names_roots) (g := 0) (t := 145) (by simp [Rows.walkNoneRow]) (by kernel_rfl) (by kernel_rfl) (by simp) (fun fuel cs p hd => by
    have e : (Rows.laid_parchment_names_roots : DataW Unit) = Lib.tabData .i64 [1, 2] := by kernel_rfl
    rw [e] at hd
    exact Lib.cells_of_tab Tryz.underlying145 Tryz.underlying3 (by kernel_rfl) (by kernel_rfl) hd)
  obtain ⟨fs1, u1, s1, f1⟩ := plainS_ok (P := Tryz.prog) (e := 273) (m := 6) (by kernel_rfl)
  obtain ⟨t1, b1⟩ := block_of (L := (rulesL.map fun r => r.map Lit.value).flatten) h (nm := "parchment/tree.rules") (d := Rows.laid_parchment_tree_rules) (g := 1) (t := 274) (by simp [Rows.walkNoneRow]) (by kernel_rfl) (by kernel_rfl) (by simp [rulesL]) (fun fuel cs p hd => by
    have e : (Rows.laid_parchment_tree_rules : DataW Unit) = .agg (rulesL.map fun r => .agg (r.map .lit)) := by kernel_rfl
    rw [e] at hd
    exact cells_of_rows (n := 7) (e := 273) (by kernel_rfl) u1 (by kernel_rfl) (by kernel_rfl) s1 f1 hd)
  obtain ⟨fs2, u2, s2, f2⟩ := plainS_ok (P := Tryz.prog) (e := 315) (m := 2) (by kernel_rfl)
  obtain ⟨t2, b2⟩ := block_of (L := (startsL.map fun r => r.map Lit.value).flatten) h (nm := "parchment/chars.starts") (d := Rows.laid_parchment_chars_starts) (g := 4) (t := 317) (by simp [Rows.walkNoneRow]) (by kernel_rfl) (by kernel_rfl) (by simp [startsL]) (fun fuel cs p hd => by
    have e : (Rows.laid_parchment_chars_starts : DataW Unit) = .agg (startsL.map fun r => .agg (r.map .lit)) := by kernel_rfl
    rw [e] at hd
    exact cells_of_rows (n := 15) (e := 315) (by kernel_rfl) u2 (by kernel_rfl) (by kernel_rfl) s2 f2 hd)
  intro a o hm
  simp only [lWN, List.mem_cons, List.not_mem_nil, or_false, Prod.mk.injEq] at hm
  rcases hm with ⟨rfl, rfl⟩ | ⟨rfl, rfl⟩ | ⟨rfl, rfl⟩
  · exact ⟨by decide, _, b0, _, [], t0, (0, 0), by rw [List.append_nil], by simp [VRs, VR], rfl, .inl rfl⟩
  · exact ⟨by decide, _, b1, _, [], t1, (0, 0), by rw [List.append_nil], by simp [VRs, VR, rulesL, Lit.value], rfl, .inl rfl⟩
  · exact ⟨by decide, _, b2, _, [], t2, (0, 0), by rw [List.append_nil], by simp [VRs, VR, startsL, Lit.value], rfl, .inl rfl⟩
def env2 (v0 v1 : Value) : Nat → Value
  | 0 => v0
  | _ => v1
theorem walkNone_ok (v0 v1 : Value) (o0 : v0.oneCell' = true) (o1 : v1.oneCell' = true) (w : World) (h : laidMet Tryz.prog Rows.walkNoneRow.laid w) :
    Calls Tryz.prog 3 #[v0, v1] w fun e w' => e = .returned (.bool true) ∧ Below w.heap.size w w' := by
  have r := rel_glob (env := env2 v0 v1) (l := lWN) (w := w) (fun n => by match n with | 0 => exact o0 | _ + 1 => exact o1) (globs_of h _)
  obtain ⟨H1, hr⟩ := chk_some runWN
  refine ((fns_ok (env := env2 v0 v1) namesOK (by kernel_rfl) SWN_ok 3000).ca 3 [.q 0, .q 1] [v0, v1] (hpOf lWN 20) w ren0 _ H1 r (fun g hg => by simp [ren0, hg]) (by simp [VRs, VR, env2]) hr).mono fun e w' hq => ?_
  obtain ⟨u, ρ', rfl, hu, s⟩ := hq
  simp only [VR] at hu
  subst hu
  refine ⟨rfl, s.os, s.tape, s.output, s.size, fun c hc => s.keep c hc ?_⟩
  rintro ⟨a, o, x, h1, h2, h3⟩
  simp only [ren0] at h3
  rw [if_neg (by omega)] at h3
  cases h3
end Go.Ai
