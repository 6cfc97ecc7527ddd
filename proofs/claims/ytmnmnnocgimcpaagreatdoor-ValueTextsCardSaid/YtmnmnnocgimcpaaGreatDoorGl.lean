/- What the rows of the Value laws list: what the walks ask of the world. -/
import Derived.Test.YtmnmnnocgimcpaaGreatDoorRows
import Derived.Test.YtmnmnnocgimcpaaGreatDoorWk
import Derived.Test.YtmnmnnocgimcpaaGreatDoorTn
import Derived.Lib.LaidU8
import Derived.LaidLaws
import Derived.Lay
import Derived.SevenTiedAt
import Derived.LaidOnce
import Derived.LaidMore
import Derived.MakeChecks
import Derived.WalkKit
import Derived.ProofKit
import Derived.OpenShut
import Derived.Stop.Joined
namespace Go.Proofs.YtmnmnnocgimcpaaGreatDoor
open Go.RowKit
set_option maxRecDepth 100000 in
theorem first_of {W : World} (h : Lib.VarReads Tryz.prog W "unicode/utf8.first" Rows.laid_unicode_utf8_first) : ∀ c, c < 256 → W.cell? ⟨2, c, none⟩ = some (.int .u8 (Lib.firstT c)) := by
  intro c hc
  have e : Rows.laid_unicode_utf8_first = Lib.firstData := by kernel_rfl
  rw [e] at h
  obtain ⟨g, t, cs, fuel, p, hg, ht, hv, hd⟩ := h
  obtain rfl := Option.some.inj ((show Tryz.prog.globalNamed "unicode/utf8.first" = some 2 by kernel_rfl).symm.trans hg)
  obtain rfl := Option.some.inj ((show (Tryz.prog.globals[2]?).map (·.type) = some 248 by kernel_rfl).symm.trans ht)
  have hcs := Lib.cells_of_tab Tryz.underlying248 Tryz.underlying5 (by kernel_rfl) (by kernel_rfl) hd
  rw [World.var?_cell hg hv c, ← Array.getElem?_toList, hcs]
  simp [Lib.firstTab, hc]
set_option maxRecDepth 100000 in
theorem accept_of {W : World} (h : Lib.VarReads Tryz.prog W "unicode/utf8.acceptRanges" Rows.laid_unicode_utf8_acceptRanges) : ∀ i, i < 16 → W.cell? ⟨3, 2 * i, none⟩ = some (.int .u8 (Lib.accLo i)) ∧ W.cell? ⟨3, 2 * i + 1, none⟩ = some (.int .u8 (Lib.accHi i)) := by
  intro i hi
  have e : (Rows.laid_unicode_utf8_acceptRanges : DataW Unit) = Lib.acceptData := by kernel_rfl
  rw [e] at h
  obtain ⟨g, t, cs, fuel, p, hg, ht, hv, hd⟩ := h
  obtain rfl := Option.some.inj ((show Tryz.prog.globalNamed "unicode/utf8.acceptRanges" = some 3 by kernel_rfl).symm.trans hg)
  obtain rfl := Option.some.inj ((show (Tryz.prog.globals[3]?).map (·.type) = some 251 by kernel_rfl).symm.trans ht)
  obtain ⟨fuel', d, q, hdi, he⟩ := Lib.array_elem Tryz.underlying251 hd i hi
  simp only [List.getElem?_map, List.getElem?_range hi, Option.map_some, Option.some.injEq] at hdi
  subst hdi
  have c2 : Tryz.prog.cellsOf 250 = 2 := by kernel_rfl
  have c1 : Tryz.prog.cellsOf 5 = 1 := by kernel_rfl
  rw [c2] at he
  have hcs := Lib.ints_of_struct Tryz.underlying250 (fun j f hj => by
    match j, hj with
    | 0, hj => simp at hj; subst hj; exact ⟨Tryz.underlying5, rfl, c1⟩
    | 1, hj => simp at hj; subst hj; exact ⟨Tryz.underlying5, rfl, c1⟩
    | j + 2, hj => simp at hj) (by rw [c2]; rfl) he
  have e0 := congrArg (·[0]?) hcs
  have e1 := congrArg (·[1]?) hcs
  simp only [List.getElem?_take, List.getElem?_drop] at e0 e1
  constructor
  · rw [World.var?_cell hg hv (2 * i), ← Array.getElem?_toList]
    simpa [Nat.mul_comm] using e0
  · rw [World.var?_cell hg hv (2 * i + 1), ← Array.getElem?_toList]
    simpa [Nat.mul_comm] using e1
set_option maxRecDepth 100000 in
theorem pow_of {W : World} (h : Lib.VarReads Tryz.prog W "internal/strconv.uint64pow10" Rows.laid_internal_strconv_uint64pow10) : Lib.TabIs Tryz.prog W "internal/strconv.uint64pow10" .u64 Lib.pow10Tab := by
  have e : (Rows.laid_internal_strconv_uint64pow10 : DataW Unit) = Lib.tabData .u64 Lib.pow10Tab := by kernel_rfl
  rw [e] at h
  obtain ⟨g, t, cs, fuel, p, hg, ht, hv, hd⟩ := h
  obtain rfl := Option.some.inj ((show Tryz.prog.globalNamed "internal/strconv.uint64pow10" = some 4 by kernel_rfl).symm.trans hg)
  obtain rfl := Option.some.inj ((show (Tryz.prog.globals[4]?).map (·.type) = some 278 by kernel_rfl).symm.trans ht)
  have hcs := Lib.cells_of_tab Tryz.underlying278 Tryz.underlying129 (by kernel_rfl) (by kernel_rfl) hd
  unfold Lib.TabIs
  rw [hv]
  congr 1
  exact Array.toList_inj.1 (by rw [hcs])
theorem drop_take (L : List Value) (k : Nat) : L.drop k = (L.drop k).take 3 ++ L.drop (k + 3) := by
  have h : L.drop (k + 3) = (L.drop k).drop 3 := by rw [List.drop_drop]
  rw [h]; exact (List.take_append_drop 3 _).symm
theorem six_of {L a0 a1 a2 a3 a4 a5 : List Value} (h : L.length = 18) (h0 : (L.drop (0 * 3)).take 3 = a0) (h1 : (L.drop (1 * 3)).take 3 = a1) (h2 : (L.drop (2 * 3)).take 3 = a2) (h3 : (L.drop (3 * 3)).take 3 = a3) (h4 : (L.drop (4 * 3)).take 3 = a4) (h5 : (L.drop (5 * 3)).take 3 = a5) :
    L = a0 ++ (a1 ++ (a2 ++ (a3 ++ (a4 ++ a5)))) := by
  have e : L.drop 18 = [] := List.drop_eq_nil_of_le (by omega)
  have s0 := drop_take L 0
  have s1 := drop_take L 3
  have s2 := drop_take L 6
  have s3 := drop_take L 9
  have s4 := drop_take L 12
  have s5 := drop_take L 15
  simp only [Nat.reduceMul, Nat.reduceAdd, Nat.zero_add, Nat.zero_mul] at *
  rw [h0] at s0; rw [h1] at s1; rw [h2] at s2; rw [h3] at s3; rw [h4] at s4; rw [h5, e, List.append_nil] at s5
  rw [s5] at s4; rw [s4] at s3; rw [s3] at s2; rw [s2] at s1; rw [s1] at s0
  simpa using s0
section
variable {H : Type} {enc : TypeId × Value → H} {w : World} {base : Nat} {sp : Nat → Bool} {held : Bool}
set_option maxRecDepth 100000 in
theorem cnt_cells {fuel : Nat} {cs : List Value} {a b : Int} {bs : List UInt8} {p : List MemPlace} (h : DataW.trod enc Tryz.prog w base sp held fuel 106 cs = some (.agg [.lit (.int .i64 a), .lit (.int .i64 b), .lit (.string bs)], p)) :
    cs = [.int .i64 a, .int .i64 b, .string ⟨bs.toArray⟩] := by
  obtain ⟨xs, n, _, hx, hl, hn, hf⟩ := DataW.trod_struct Tryz.underlying106 h
  have hl3 : cs.length = 3 := hl.trans (by kernel_rfl)
  have f0 : DataW.trod enc Tryz.prog w base sp held n 3 (List.take (Tryz.prog.cellsOf 3) (List.drop 0 cs)) = xs[0]? := hf 0 _ rfl
  have f1 : DataW.trod enc Tryz.prog w base sp held n 3 (List.take (Tryz.prog.cellsOf 3) (List.drop 1 cs)) = xs[1]? := hf 1 _ rfl
  have f2 : DataW.trod enc Tryz.prog w base sp held n 9 (List.take (Tryz.prog.cellsOf 9) (List.drop 2 cs)) = xs[2]? := hf 2 _ rfl
  have c1 : Tryz.prog.cellsOf 3 = 1 := by kernel_rfl
  have c2 : Tryz.prog.cellsOf 9 = 1 := by kernel_rfl
  obtain ⟨x0, x1, x2, rfl⟩ : ∃ x0 x1 x2, cs = [x0, x1, x2] := by
    match cs, hl3 with
    | [x0, x1, x2], _ => exact ⟨_, _, _, rfl⟩
  obtain ⟨y0, y1, y2, rfl⟩ : ∃ y0 y1 y2, xs = [y0, y1, y2] := by
    match xs, hn with
    | [y0, y1, y2], _ => exact ⟨_, _, _, rfl⟩
  simp only [c1, c2, List.drop_zero, List.drop_succ_cons, List.take_succ_cons, List.take_zero, List.getElem?_cons_zero, List.getElem?_cons_succ] at f0 f1 f2
  obtain ⟨n0, e0, g0, _⟩ := DataW.trod_int Tryz.underlying3 f0
  obtain ⟨n1, e1, g1, _⟩ := DataW.trod_int Tryz.underlying3 f1
  obtain ⟨s2, e2, g2, _⟩ := DataW.trod_string Tryz.underlying9 f2
  subst g0 g1 g2
  simp only [List.map_cons, List.map_nil, Prod.mk.injEq, DataW.agg.injEq, List.cons.injEq, DataW.lit.injEq, Lit.int.injEq, Lit.string.injEq] at hx
  obtain ⟨⟨⟨_, r0⟩, ⟨_, r1⟩, r2, _⟩, _⟩ := hx
  simp only [List.cons.injEq, and_true] at e0 e1 e2
  subst r0 r1 r2 e0 e1 e2
  rfl
end
set_option maxRecDepth 100000 in
theorem counts_of {W : World} (h : Lib.VarReads Tryz.prog W "parchment/value.counts" Rows.laid_parchment_value_counts) : Counts W := by
  obtain ⟨g, t, cs, fuel, p, hg, ht, hv, hd⟩ := h
  obtain rfl := Option.some.inj ((show Tryz.prog.globalNamed "parchment/value.counts" = some 0 by kernel_rfl).symm.trans hg)
  obtain rfl := Option.some.inj ((show (Tryz.prog.globals[0]?).map (·.type) = some 107 by kernel_rfl).symm.trans ht)
  obtain ⟨xs, m, _, hx, hl, hn, hel⟩ := DataW.trod_array Tryz.underlying107 hd
  have c3 : Tryz.prog.cellsOf 106 = 3 := by kernel_rfl
  have c18 : cs.toList.length = 18 := hl.trans (by kernel_rfl)
  rw [c3] at hel
  have e0 := hel 0 (by decide)
  have e1 := hel 1 (by decide)
  have e2 := hel 2 (by decide)
  have e3 := hel 3 (by decide)
  have e4 := hel 4 (by decide)
  have e5 := hel 5 (by decide)
  have hL : cs.toList = cntC := by
    obtain ⟨y0, q0, y1, q1, y2, q2, y3, q3, y4, q4, y5, q5, rfl⟩ : ∃ y0 q0 y1 q1 y2 q2 y3 q3 y4 q4 y5 q5, xs = [(y0, q0), (y1, q1), (y2, q2), (y3, q3), (y4, q4), (y5, q5)] := by
      match xs, hn with
      | [⟨y0, q0⟩, ⟨y1, q1⟩, ⟨y2, q2⟩, ⟨y3, q3⟩, ⟨y4, q4⟩, ⟨y5, q5⟩], _ => exact ⟨_, _, _, _, _, _, _, _, _, _, _, _, rfl⟩
    have hx1 := congrArg Prod.fst hx
    unfold Rows.laid_parchment_value_counts at hx1
    simp only [List.map_cons, List.map_nil, DataW.agg.injEq, List.cons.injEq] at hx1
    obtain ⟨r0, r1, r2, r3, r4, r5, _⟩ := hx1
    simp only [List.getElem?_cons_zero, List.getElem?_cons_succ] at e0 e1 e2 e3 e4 e5
    rw [← r0] at e0; rw [← r1] at e1; rw [← r2] at e2; rw [← r3] at e3; rw [← r4] at e4; rw [← r5] at e5
    exact six_of c18 (cnt_cells e0) (cnt_cells e1) (cnt_cells e2) (cnt_cells e3) (cnt_cells e4) (cnt_cells e5)
  intro j v hj
  rw [World.var?_cell hg hv j, ← Array.getElem?_toList, hL]
  exact hj
set_option maxRecDepth 100000 in
theorem errSyntax_of {W : World} (h : Lib.VarReads Tryz.prog W "strconv.ErrSyntax" Rows.laid_strconv_ErrSyntax) : ∃ ev, W.cell? ⟨5, 0, none⟩ = some ev ∧ (ev = .nilIface ∨ ∃ te pe, ev = .iface te pe) := by
  obtain ⟨g, t, cs, fuel, p, hg, ht, hv, hd⟩ := h
  obtain rfl := Option.some.inj ((show Tryz.prog.globalNamed "strconv.ErrSyntax" = some 5 by kernel_rfl).symm.trans hg)
  obtain rfl := Option.some.inj ((show (Tryz.prog.globals[5]?).map (·.type) = some 164 by kernel_rfl).symm.trans ht)
  obtain ⟨f', u, v, hcs, _, _⟩ := iface_of_trod Tryz.underlying164 hd
  refine ⟨.iface u v, ?_, .inr ⟨u, v, rfl⟩⟩
  rw [World.var?_cell hg hv 0, ← Array.getElem?_toList, hcs]
  rfl
set_option maxRecDepth 100000 in
theorem errRange_of {W : World} (h : Lib.VarReads Tryz.prog W "strconv.ErrRange" Rows.laid_strconv_ErrRange) : ∃ ev, W.cell? ⟨6, 0, none⟩ = some ev ∧ (ev = .nilIface ∨ ∃ te pe, ev = .iface te pe) := by
  obtain ⟨g, t, cs, fuel, p, hg, ht, hv, hd⟩ := h
  obtain rfl := Option.some.inj ((show Tryz.prog.globalNamed "strconv.ErrRange" = some 6 by kernel_rfl).symm.trans hg)
  obtain rfl := Option.some.inj ((show (Tryz.prog.globals[6]?).map (·.type) = some 164 by kernel_rfl).symm.trans ht)
  obtain ⟨f', u, v, hcs, _, _⟩ := iface_of_trod Tryz.underlying164 hd
  refine ⟨.iface u v, ?_, .inr ⟨u, v, rfl⟩⟩
  rw [World.var?_cell hg hv 0, ← Array.getElem?_toList, hcs]
  rfl
theorem maxLen_of {W : World} (h : W.ShapedOpen Tryz.prog) : ∃ m, W.cell? ⟨1, 0, none⟩ = some (.int .i64 m) :=
  Go.Proofs.cell_of_shapedOpen_int (zero := #[.int .i64 0]) (t := 3) h (of_decide_eq_true (by kernel_rfl)) (by kernel_rfl) rfl (by kernel_rfl) (by kernel_rfl) Tryz.underlying3
/-- all that is listed -/
theorem env_of {laid : List (String × DataW Unit)} {W : World} (h : laidMetH Tryz.prog laid W) (hp : laidMetH Tryz.prog laid W = laidMet Tryz.prog laid W) (m1 : ("unicode/utf8.first", Rows.laid_unicode_utf8_first) ∈ laid) (m2 : ("unicode/utf8.acceptRanges", Rows.laid_unicode_utf8_acceptRanges) ∈ laid) (m3 : ("internal/strconv.uint64pow10", Rows.laid_internal_strconv_uint64pow10) ∈ laid) (m4 : ("strconv.ErrSyntax", Rows.laid_strconv_ErrSyntax) ∈ laid) (m5 : ("strconv.ErrRange", Rows.laid_strconv_ErrRange) ∈ laid) (m6 : ("parchment/value.counts", Rows.laid_parchment_value_counts) ∈ laid) : Env W ∧ Counts W := by
  rw [hp] at h
  exact ⟨⟨⟨first_of (Lib.laidMet.reads h m1), accept_of (Lib.laidMet.reads h m2)⟩, pow_of (Lib.laidMet.reads h m3), errSyntax_of (Lib.laidMet.reads h m4), errRange_of (Lib.laidMet.reads h m5)⟩, counts_of (Lib.laidMet.reads h m6)⟩
end Go.Proofs.YtmnmnnocgimcpaaGreatDoor
