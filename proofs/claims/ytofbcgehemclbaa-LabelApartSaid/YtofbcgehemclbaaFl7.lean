/- What label hands out, as pieces that lie apart. -/
import Derived.Test.YtofbcgehemclbaaFl6
import Derived.Test.YtofbcgehemclbaaLb11
import Derived.Test.YtofbcgehemclbaaLb6
namespace Go.Proofs.Ytofbcgehemclbaa
open Go.RowKit Bm
/-- nil, or a fresh piece -/
def OkP (B : Nat) (W : World) (p : Pc) : Prop := p = (none, 0, 0) ∨ ∃ g full, p.1 = some g ∧ B ≤ g ∧ Rw W g full ∧ full.length = p.2.2 ∧ p.2.1 ≤ p.2.2 ∧ p.2.1 ≤ 1000
def Apart2 (p q : Pc) : Prop := ∀ g, p.1 = some g → q.1 ≠ some g
section
variable {B : Nat} {W W' : World} {p : Pc}
theorem OkP.keep (h : OkP B W p) (hb : Below W.heap.size W W') : OkP B W' p := h.imp id fun ⟨g, full, h1, h2, h3, h4⟩ => ⟨g, full, h1, h2, h3.keep hb, h4⟩
theorem OkP.alloc (h : OkP B W p) (o : Obj) : OkP B (W.alloc o) p := h.keep ((Below.refl _ _).alloc (Nat.le_refl _) _)
theorem OkP.cont (h : OkP B W p) : Cont W p [] := by
  rcases h with rfl | ⟨g, full, h1, h2, h3, h4, h5, h6⟩
  · exact .inl ⟨rfl, rfl, rfl, rfl⟩
  · exact .inr ⟨g, full, h1, h3, h4, h5, by simp, by simp⟩
theorem OkP.lt (h : OkP B W p) (g : Nat) (hg : p.1 = some g) : B ≤ g ∧ g < W.heap.size := by
  rcases h with rfl | ⟨g', full, h1, h2, h3, _⟩
  · cases hg
  · rw [h1] at hg; injection hg with hg; subst hg; exact ⟨h2, h3.lt⟩
theorem OkP.sm (h : OkP B W p) : p.2.1 ≤ 1000 ∧ p.2.1 ≤ p.2.2 := by
  rcases h with rfl | ⟨g, full, h1, h2, h3, h4, h5, h6⟩
  · exact ⟨by decide, by decide⟩
  · exact ⟨h6, h5⟩
theorem OkP.mono {B' : Nat} (h : OkP B W p) (hB : B' ≤ B) : OkP B' W p := h.imp id fun ⟨g, full, h1, h2, h3⟩ => ⟨g, full, h1, Nat.le_trans hB h2, h3⟩
theorem OkP.other {m size n : Nat} {v : Value} {xs : List Value} (h : OkP B W p) (hg : W.grownBy W' v.ownBlock) (ho : W.ownsRow m 22 size v n xs) : OkP B W' p := by
  refine h.imp id fun ⟨g, full, h1, h2, h3, h4⟩ => ⟨g, full, h1, h2, h3.other hg ?_, h4⟩
  intro e
  obtain ⟨fz, hh, _⟩ := h3
  rcases ho.2 with ⟨e1, _⟩ | ⟨g', cap', cur, e1, _, hh', _⟩
  · rw [e1] at e; cases e
  · rw [e1] at e
    injection e with e
    dsimp only at e
    subst e
    rw [hh] at hh'
    simp at hh'
theorem Fr.okp {g cap : Nat} {bs : List UInt8} (h : Fr B W g cap bs) (hl : bs.length ≤ 1000) : OkP B W (some g, bs.length, cap) := by
  obtain ⟨h1, full, h2, h3, h4, h5⟩ := h
  exact .inr ⟨g, full, rfl, h1, h2, h3, h4, hl⟩
theorem okp_nil : OkP B W (none, 0, 0) := .inl rfl
theorem OkP.apart {B' : Nat} {q : Pc} {W2 : World} (h : OkP B W p) (k : OkP B' W2 q) (hB : W.heap.size ≤ B') : Apart2 p q := fun g h1 h2 => by
  have := (h.lt g h1).2
  have := (k.lt g h2).1
  omega
end
theorem Apart2.symm {p q : Pc} (h : Apart2 p q) : Apart2 q p := fun g h1 h2 => h g h2 h1
theorem dist_of {ps : List Pc} (h : ps.Pairwise Apart2) : Dist ps := by
  intro j k p q g hp hq hjk h1 h2
  obtain ⟨hj, rfl⟩ := List.getElem?_eq_some_iff.1 hp
  obtain ⟨hk, rfl⟩ := List.getElem?_eq_some_iff.1 hq
  rcases Nat.lt_or_ge j k with h3 | h3
  · exact List.pairwise_iff_getElem.1 h j k hj hk h3 g h1 h2
  · exact List.pairwise_iff_getElem.1 h k j hk hj (by omega) g h2 h1
set_option maxRecDepth 20000 in
theorem run_app0 (a : Option Addr) (bs : List UInt8) (n c : Nat) (ty : TypeId) (w : World) (hr : RdB w a bs) (hn : n = bs.length) (hle : n ≤ 1000) :
    ∃ b n' c' w', (Builtin.append_ #[22, 22] ty #[.slice none 0 0, .slice a n c]).run Try.prog w = .ok (.slice (pcA (b, n', c')) n' c') w' ∧ n' = bs.length ∧ OkP w.heap.size w' (b, n', c') ∧ RdB w' (pcA (b, n', c')) bs ∧ Below w.heap.size w w' := by
  obtain ⟨i0, hi, hz0, hz1, hz2⟩ := info_parts byteInfo
  by_cases h0 : bs = []
  · subst h0
    simp only [List.length_nil] at hn
    subst hn
    refine ⟨none, 0, 0, w, ?_, rfl, okp_nil, .inl rfl, Below.refl _ _⟩
    cases a <;> simp [Builtin.append_, run_underlying Try.underlying22, sizeOf, typeInfo, hi, Builtin.lenOf, Builtin.firstCells, storeCells, loadCells, loadCellsFrom, pcA]
  · obtain ⟨b, off, rfl, hlt, hc⟩ : ∃ b off, a = some ⟨b, off, none⟩ ∧ b < w.heap.size ∧ ∀ i (h : i < bs.length), w.cell? ⟨b, off + i, none⟩ = some (.int .u8 ((bs[i]'h).toNat : Int)) := by
      rcases hr with h | h
      · exact absurd h h0
      · exact h
    have hpos := List.length_pos_iff.2 h0
    have hrun := run_append_nil (P := Try.prog) w 22 ty 5 i0 _ Try.underlying22 hi hz0 ⟨b, off, none⟩ n c (Lib.byteCells bs) (by rw [length_byteCells, hz1, Nat.mul_one, hn]) (rd_cells' hr) (by omega) (by omega) (by rw [hz2]; omega)
    have hge := grownCap_ge w n 0 5
    have hcells : (Lib.byteCells bs).toArray ++ Builtin.zeroCells (Value.int .u8 0).cells (grownCap w n 0 5 - n) = (Lib.byteCells (bs ++ zeros (grownCap w n 0 5 - n))).toArray := by
      have e : Builtin.zeroCells (Value.int .u8 0).cells (grownCap w n 0 5 - n) = (Lib.byteCells (zeros (grownCap w n 0 5 - n))).toArray := by
        have : Lib.byteCells (zeros (grownCap w n 0 5 - n)) = List.replicate (grownCap w n 0 5 - n) (.int .u8 0) := by simp [Lib.byteCells, zeros, List.map_replicate]
        rw [this]
        apply Array.ext
        · rw [size_zeroCells]; simp [Value.cells]
        · intro i h1 h2
          simp [Builtin.zeroCells, Value.cells, Nat.mod_one]
      rw [e]
      simp [Lib.byteCells]
    rw [hcells] at hrun
    have hrw : Rw (w.drew.alloc (.cells (Lib.byteCells (bs ++ zeros (grownCap w n 0 5 - n))).toArray 5)) w.heap.size (bs ++ zeros (grownCap w n 0 5 - n)) := ⟨(0, 0), heap_alloc_new w.drew _, fun i _ => by simp⟩
    refine ⟨some w.heap.size, n, grownCap w n 0 5, _, hrun, hn, .inr ⟨_, _, rfl, Nat.le_refl _, hrw, by simp [zeros]; omega, hge, hle⟩, ?_, alloc_below _ _⟩
    have := hrw.rd bs.length
    rw [List.take_left] at this
    exact this
theorem wpList_run {W : World} {ops : Array Oper} {rest : List Oper} {o : Oper} {ac : Act} {Q : Exit → Act → World → Prop} (hgd : o.guard = none) (s x : Operand) (t : TypeId)
    (ho : o.op = .call { callee := .builtin .append, args := #[s, x], argTypes := #[t, t] }) (v1 v2 v' : Value) (w' : World) (hs : ac.eval s = v1) (hx : ac.eval x = v2)
    (hrun : (Builtin.append_ #[t, t] o.type #[v1, v2]).run Try.prog W = .ok v' w') (K : wpList Try.prog ops Q rest (ac.put o.dst v') w') : wpList Try.prog ops Q (o :: rest) ac W := by
  refine wpList_plain hgd fun K' hK => ?_
  have := hK _ _ K
  unfold Oper.wp execOp
  simp only [ho, resolve, invoke, builtin, Sem.run_bind, Sem.run_pure, Result.andThen_ok, List.map_toArray, List.map_cons, List.map_nil, hs, hx, hrun]
  exact this
set_option maxRecDepth 100000 in
set_option maxHeartbeats 1000000 in
theorem copyP_any (a : Option Addr) (bs : List UInt8) (n c : Nat) (w : World) (hr : RdB w a bs) (hn : n = bs.length) (hle : n ≤ 1000) :
    Calls Try.prog 18 #[.slice a n c] w fun e w' => ∃ b n' c', e = .returned (.slice (pcA (b, n', c')) n' c') ∧ n' = bs.length ∧ OkP w.heap.size w' (b, n', c') ∧ RdB w' (pcA (b, n', c')) bs ∧ Below w.heap.size w w' := by
  obtain ⟨b, n', c', w', hrun, h1, h2, h3, h4⟩ := run_app0 a bs n c 22 w hr hn hle
  have H1 := hide h1
  have H2 := hide h2
  have H3 := hide h3
  clear h1 h2 h3 hr hn
  go_enter Try.func18, Try.ntmps18
  go_wp2_with (at_builtin; refine wpList_run rfl _ _ _ rfl _ _ _ _ rfl rfl hrun ?_)
  go_ret
  exact ⟨b, n', c', rfl, H1.out, H2.out, H3.out, h4⟩
/-- Kids, of a few -/
theorem kidsP (a : Option Addr) (bs : List UInt8) (n c m : Nat) (w : World) (hr : RdB w a bs) (hn : n = bs.length) (hle : (n : Int) ≤ 9223372036854775807) (hm : m ≤ 8) :
    Calls Try.prog 11 #[.slice a n c, .int .i64 m] w fun e w' => ∃ (a' : Option Addr) (k c' : Nat) (E : Int) (ps : List Pc), e = .returned (.tuple #[.slice a' k c', .int .i64 E]) ∧ k = ps.length ∧ k ≤ 8 ∧ Rd w' a' (ps.map pcV) ∧ (∀ p ∈ ps, OkP w.heap.size w' p) ∧ ps.Pairwise Apart2 ∧ Below w.heap.size w w' := by
  by_cases hp : ∃ pp, IsL bs pp
  · obtain ⟨pp, hp⟩ := hp
    obtain ⟨k, hk1, hk2⟩ := least_pow m
    refine (kids_any a bs pp n c m k w hr hn hle hp (by omega) hk1 hk2).mono ?_
    rintro e w' (⟨hall, a', c', ps, hps, he, hrd, hpc, hb, _⟩ | ⟨_, he, hb⟩)
    · have hl : ps.length = m := by
        have := congrArg List.length hps
        simpa [kidRows] using this
      refine ⟨a', m, c', 0, ps.map fun p => (some p.1, nb p.2.2.length, p.2.1), he, by rw [List.length_map, hl], hm, ?_, fun p hp => ?_, ?_, hb⟩
      · rw [List.map_map]
        have : ps.map (pcV ∘ fun p => ((some p.1, nb p.2.2.length, p.2.1) : Pc)) = vsOf ps := rfl
        rw [this]; exact hrd
      · obtain ⟨q, hq, rfl⟩ := List.mem_map.1 hp
        have hr1 : q.2.2.length ≤ 1024 := hall _ (by rw [← hps]; exact List.mem_map.2 ⟨q, hq, rfl⟩)
        have := (hpc.fr q hq).okp (by rw [length_pkL]; unfold nb; omega)
        rw [length_pkL] at this
        exact this
      · rw [List.pairwise_map]
        exact hpc.up.imp fun h g h1 h2 => by
          injection h1 with h1; injection h2 with h2; omega
    · exact ⟨none, 0, 0, 140, [], he, rfl, by omega, Rd.nil _ _, fun p hp => by simp at hp, List.Pairwise.nil, hb⟩
  · exact (kids_noparent a bs n c m w hr hn hle hp).mono fun e w' ⟨he, hb⟩ => ⟨none, 0, 0, 2, [], he, rfl, by omega, Rd.nil _ _, fun p hp => by simp at hp, List.Pairwise.nil, hb⟩
theorem parentP (a : Option Addr) (bs : List UInt8) (n c : Nat) (w : World) (hr : RdB w a bs) (hn : n = bs.length) (hle : (n : Int) ≤ 9223372036854775807) :
    Calls Try.prog 20 #[.slice a n c] w fun e w' => ∃ b n' c' q, e = .returned (.tuple #[.slice (pcA (b, n', c')) n' c', .bool q]) ∧ OkP w.heap.size w' (b, n', c') ∧ Below w.heap.size w w' := by
  by_cases hp : ∃ ss, IsL bs ss
  · obtain ⟨ss, hp⟩ := hp
    by_cases h0 : ss = []
    · subst h0
      exact (parent_root a bs n c w hr hn hle hp).mono fun e w' ⟨he, hb⟩ => ⟨none, 0, 0, false, he, okp_nil, hb⟩
    · refine (parent_yes a bs ss n c w hr hn hle hp h0).mono fun e w' ⟨g, cap, he, hf, hb⟩ => ⟨some g, _, cap, true, he, ?_, hb⟩
      have h1 := wr_take_le ss (ss.length - 1)
      rw [← List.dropLast_eq_take] at h1
      have h2 := hp.2.1
      have := hf.okp (by rw [length_pkL]; unfold nb; omega)
      rw [length_pkL] at this
      exact this
  · exact (parent_no a bs n c w hr hn hle hp).mono fun e w' ⟨he, hb⟩ => ⟨none, 0, 0, false, he, okp_nil, hb⟩
theorem afterP (a : Option Addr) (bs : List UInt8) (n c : Nat) (w : World) (hr : RdB w a bs) (hn : n = bs.length) (hle : (n : Int) ≤ 9223372036854775807) :
    Calls Try.prog 22 #[.slice a n c] w fun e w' => ∃ b n' c', e = .returned (.slice (pcA (b, n', c')) n' c') ∧ OkP w.heap.size w' (b, n', c') ∧ Below w.heap.size w w' := by
  by_cases hp : ∃ ss, IsL bs ss
  · obtain ⟨ss, hp⟩ := hp
    by_cases h0 : ss = []
    · subst h0
      exact (after_no a bs n c w hr hn hle (.inl hp)).mono fun e w' ⟨he, hb⟩ => ⟨none, 0, 0, he, okp_nil, hb⟩
    · refine (after_yes a bs ss _ n c w hr hn hle hp h0 rfl).mono fun e w' ⟨g, cap, he, hf, hb⟩ => ⟨some g, _, cap, he, ?_, hb⟩
      have h2 := hp.2.1
      have := hf.okp (by rw [length_pkL, List.length_append, List.length_dropLast]; simp; unfold nb; omega)
      rw [length_pkL] at this
      exact this
  · exact (after_no a bs n c w hr hn hle (.inr hp)).mono fun e w' ⟨he, hb⟩ => ⟨none, 0, 0, he, okp_nil, hb⟩
theorem betweenP (a : Option Addr) (bs : List UInt8) (n c : Nat) (w : World) (hr : RdB w a bs) (hn : n = bs.length) (hle : (n : Int) ≤ 9223372036854775807) :
    Calls Try.prog 15 #[.slice a n c, .slice none 0 0, .slice none 0 0] w fun e w' => ∃ b n' c' E, e = .returned (.tuple #[.slice (pcA (b, n', c')) n' c', .int .i64 E]) ∧ OkP w.heap.size w' (b, n', c') ∧ Below w.heap.size w w' := by
  by_cases hp : ∃ pp, IsL bs pp
  · obtain ⟨pp, hp⟩ := hp
    refine (between_any a none none bs [] [] pp [] [] _ n c 0 0 0 0 w hr (.inl rfl) (.inl rfl) hn rfl rfl hle (by decide) (by decide) hp (.inl ⟨rfl, rfl⟩) (.inl ⟨rfl, rfl⟩) (fun h => absurd rfl h) rfl).mono ?_
    rintro e w' (⟨hl, g, cap, he, hf, hb⟩ | ⟨_, he, hb⟩)
    · refine ⟨some g, _, cap, 0, he, ?_, hb⟩
      have := hf.okp (by rw [length_pkL]; unfold nb; omega)
      rw [length_pkL] at this
      exact this
    · exact ⟨none, 0, 0, 140, he, okp_nil, hb⟩
  · exact (between_noparent none none a bs n c 0 0 0 0 w hr hn hle hp).mono fun e w' ⟨he, hb⟩ => ⟨none, 0, 0, 2, he, okp_nil, hb⟩
end Go.Proofs.Ytofbcgehemclbaa

