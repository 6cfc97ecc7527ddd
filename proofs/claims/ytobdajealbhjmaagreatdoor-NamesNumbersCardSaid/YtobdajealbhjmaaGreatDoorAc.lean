/- append, copy, clear: the model's side. -/
import Derived.Test.YtobdajealbhjmaaGreatDoorAb
import Derived.Laws.RangeString
namespace Go.Ai
section
variable {P : Program} {env : Nat → Value} {ρ : Ren} {H : Heap} {w : World} {ng ro : Nat} {T : TT AV} {a : Act}

/-- a stretch of cells: as they are, or as bytes -/
inductive Ch where
  | cs (l : List AV)
  | bs (len x : Nat)
def Ch.l : Ch → List AV
  | .cs l => l
  | .bs len x => (bytesOf len x).map fun b => .i .u8 (Int.ofNat b)
theorem bytesOf_zero (x : Nat) : bytesOf 0 x = [] := rfl
noncomputable def AO.chunk (o : AO) (off n : Nat) : Option Ch :=
  match o with
  | .cells _ cs => let l := (cs.drop off).take n; bif Nat.beq l.length n then some (.cs l) else none
  | .bytes len x => bif Nat.ble (Nat.add off n) len then some (.bs n (cut x off n)) else none
  | _ => none
theorem AO.chunk_read {o : AO} {off n : Nat} {c : Ch} (h : o.chunk off n = some c) : o.read off n = some c.l := by
  cases o with
  | cells sz cs =>
    simp only [AO.chunk] at h
    cases hb : Nat.beq ((cs.drop off).take n).length n with
    | false => rw [hb] at h; cases h
    | true => rw [hb] at h; cases h; simp only [AO.read, hb, Ch.l]; rfl
  | bytes len x =>
    simp only [AO.chunk] at h
    cases hb : Nat.ble (Nat.add off n) len with
    | false => rw [hb] at h; cases h
    | true =>
      rw [hb] at h; cases h
      simp only [AO.read]
      rw [show Nat.ble (off + n) len = true from hb]
      simp only [cond_true, Ch.l, bytesOf, List.map_map, Option.some.injEq]
      apply List.map_congr_left
      intro j hj
      simp only [Function.comp, byteAt_cut, List.mem_range.1 hj, if_true]
  | _ => simp [AO.chunk] at h
noncomputable def Ch.app (a b : Ch) : Ch :=
  match a, b with
  | .bs n x, .bs m y => .bs (Nat.add n m) (Nat.add (Nat.mod x (Nat.pow 256 n)) (Nat.mul (Nat.pow 256 n) y))
  | a, b => .cs (a.l ++ b.l)
theorem bytesOf_app (n m x y : Nat) : bytesOf (n + m) (x % 256 ^ n + 256 ^ n * y) = bytesOf n x ++ bytesOf m y := by
  apply List.ext_getElem?
  intro i
  rw [bytesOf_get, byteAt_put _ _ _ _ (Nat.mod_lt _ (Nat.pow_pos (by decide))), byteAt_mod, List.getElem?_append, bytesOf_length, bytesOf_get, bytesOf_get]
  by_cases h : i < n
  · have : i < n + m := by omega
    simp [h, this]
  · by_cases h2 : i - n < m
    · have : i < n + m := by omega
      simp [h, h2, this]
    · have : ¬ i < n + m := by omega
      simp [h, h2, this]
theorem Ch.app_l (a b : Ch) : (a.app b).l = a.l ++ b.l := by
  cases a <;> cases b <;> try rfl
  rename_i n x m y
  simp only [Ch.app, Ch.l]
  rw [← List.map_append, ← bytesOf_app]
  rfl
noncomputable def AO.writeC (o : AO) (off : Nat) (c : Ch) : Option AO :=
  match o, c with
  | .bytes len x, .bs n y => bif Nat.ble (Nat.add off n) len then some (.bytes len (over x off n y)) else none
  | o, c => o.write off c.l
theorem AO.writeC_view {o o' : AO} {off : Nat} {c : Ch} (h : o.writeC off c = some o') : ∃ sz cs, o.view = some (sz, cs) ∧ o'.view = some (sz, spl cs off c.l) ∧ off + c.l.length ≤ cs.length := by
  unfold AO.writeC at h
  split at h
  · rename_i len x n y
    cases hb : Nat.ble (Nat.add off n) len with
    | false => rw [hb] at h; cases h
    | true =>
      rw [hb] at h; cases h
      have hle : off + n ≤ len := ble_true hb
      exact ⟨1, _, rfl, by simp only [AO.view, view_over _ _ _ _ _ hle, Ch.l], by simpa [Ch.l, bytesOf_length] using hle⟩
  · exact AO.write_view h
def Ch.one : Ch → Bool
  | .cs l => l.all avOne
  | .bs _ _ => true
theorem Ch.one_l {c : Ch} (h : c.one = true) : c.l.all avOne = true := by
  cases c with
  | cs l => exact h
  | bs len x => simp [Ch.l, List.all_eq_true, avOne]
theorem AO.writeC_pk {o o' : AO} {off : Nat} {c : Ch} (h : o.writeC off c = some o') : o'.pk = o.pk := by
  unfold AO.writeC at h
  split at h
  · rename_i len x n y
    cases hb : Nat.ble (Nat.add off n) len with
    | false => rw [hb] at h; cases h
    | true => rw [hb] at h; cases h; rfl
  · exact AO.write_pk h
theorem writeC_ok (r : Rel env ρ H w) {b c off : Nat} {x : Nat × Nat} {o o' : AO} {l : Ch} {us : List Value} (hro : ro ≤ b) (hb : H.t.get b = some o) (hc : ρ b = some (c, x)) (hw : o.writeC off l = some o') (hl : VRs ρ env l.l us) (h1 : l.one = true) :
    ∃ w', (storeCells ⟨c, off + x.2, none⟩ us).run P w = .ok () w' ∧ Step env ro ρ H w ρ (H.put b o') w' := by
  obtain ⟨ob, h2, h3⟩ := r.obj _ _ _ _ hb hc
  obtain ⟨sz, cs, h4, h5, h6⟩ := AO.writeC_view hw
  obtain ⟨pre, k, rest, t, fz, rfl, h7, h8, hp, h9⟩ := h3.row h4
  have hlen := hl.length
  have hk := h7.length
  have hst := run_storeCells_row (P := P) c (off + x.2) t fz us 0 (pre ++ (k ++ rest)) w h2 (by have := hp.len; simp; omega) (by simpa using h9) (avOnes_ok r.one hl (Ch.one_l h1))
  refine ⟨_, hst, Step.write r hro hb hc ?_⟩
  refine ObjR.of_row h5 ⟨pre, spl k off us, rest, t, fz, ?_, h7.spl hl off, h8, (AO.writeC_pk hw).symm ▸ hp, ?_⟩
  · rw [Nat.add_zero, spl_mid hp.len (by omega)]
  · rw [spl_length _ _ _ (by omega)]; exact h9

/-! what is put behind, or copied -/
noncomputable def srcLen (x : AV) : Option Nat :=
  match x with
  | .sl _ _ len _ _ => some len
  | .s len _ => some len
  | .sn | .se | .sr _ _ => some 0
  | _ => none
noncomputable def srcCh (H : Heap) (sz n : Nat) (x : AV) : Option Ch :=
  match x with
  | .sl b off _ _ _ => match H.t.get b with
    | some o => o.chunk off (Nat.mul n sz)
    | none => none
  | .s len y => bif Nat.ble n len && Nat.beq sz 1 then some (.bs n y) else none
  | .sn => bif Nat.beq n 0 then some (.bs 0 0) else none
  | .se => bif Nat.beq n 0 then some (.bs 0 0) else none
  | .sr _ _ => bif Nat.beq n 0 then some (.bs 0 0) else none
  | _ => none
theorem srcLen_ok {x : AV} {u : Value} {n : Nat} (hu : VR ρ env x u) (h : srcLen x = some n) : (Builtin.lenOf u).run P w = .ok n w := by
  unfold srcLen at h
  split at h <;> cases h <;> simp only [VR] at hu
  · obtain ⟨c, x, _, rfl⟩ := hu; rfl
  · subst hu; simp [Builtin.lenOf, strV_size]
  · subst hu; rfl
  · obtain ⟨c, x, rfl⟩ := hu; rfl
  · obtain ⟨c, x, a, _, rfl, _⟩ := hu; rfl
theorem bytesOf_take (len n y : Nat) (h : n ≤ len) : (bytesOf len y).take n = bytesOf n y := by
  apply List.ext_getElem?
  intro i
  rw [List.getElem?_take, bytesOf_get, bytesOf_get]
  by_cases hi : i < n
  · have : i < len := by omega
    simp [hi, this]
  · simp [hi]
theorem srcCh_ok (r : Rel env ρ H w) {sz n : Nat} {x : AV} {u : Value} {c : Ch} (hu : VR ρ env x u) (h : srcCh H sz n x = some c) : ∃ us, (Builtin.firstCells sz n u).run P w = .ok ⟨us⟩ w ∧ VRs ρ env c.l us := by
  unfold srcCh at h
  split at h
  · simp only [VR] at hu
    obtain ⟨c', x, hc, rfl⟩ := hu
    split at h
    · rename_i o ho
      exact cells_of_read (P := P) r ho hc (AO.chunk_read h)
    · cases h
  · rename_i len y
    simp only [VR] at hu
    subst hu
    cases hb : (Nat.ble n len && Nat.beq sz 1) with
    | false => rw [hb] at h; cases h
    | true =>
      rw [hb] at h; cases h
      rw [Bool.and_eq_true] at hb
      have hle := ble_true hb.1
      refine ⟨(bytesOf n y).map fun b => Value.int .u8 (Int.ofNat b), ?_, bytes_rel _⟩
      simp only [Builtin.firstCells, Sem.run_pure]
      congr 1
      apply Array.toList_inj.1
      rw [Array.toList_map, ByteArray.data_extract, Array.toList_extract, List.extract_eq_take_drop, strV_data, List.drop_zero, Nat.sub_zero, ← List.map_take, bytesOf_take _ _ _ hle, List.map_map]
      apply List.map_congr_left
      intro b hb
      simp [UInt8.toNat_ofNat_of_lt' (bytesOf_lt n y b hb)]
  · simp only [VR] at hu
    subst hu
    cases hb : Nat.beq n 0 with
    | false => rw [hb] at h; cases h
    | true => rw [hb] at h; cases h; exact ⟨[], by simp [Builtin.firstCells], by simp [Ch.l, bytesOf_zero, VRs]⟩
  · simp only [VR] at hu
    obtain ⟨c', x, rfl⟩ := hu
    cases hb : Nat.beq n 0 with
    | false => rw [hb] at h; cases h
    | true =>
      rw [hb] at h; cases h
      have := beq_true hb
      subst this
      exact ⟨[], by simp [Builtin.firstCells, loadCells, loadCellsFrom], by simp [Ch.l, bytesOf_zero, VRs]⟩
  · simp only [VR] at hu
    obtain ⟨_, _, _, _, rfl, _⟩ := hu
    cases hb : Nat.beq n 0 with
    | false => rw [hb] at h; cases h
    | true =>
      rw [hb] at h; cases h
      have := beq_true hb
      subst this
      exact ⟨[], by simp [Builtin.firstCells, loadCells, loadCellsFrom], by simp [Ch.l, bytesOf_zero, VRs]⟩
  · cases h

def rowLike (P : Program) (t : TypeId) : Bool :=
  match P.underlying t with
  | some (.slice _) => true
  | some .string => true
  | _ => false
theorem rowLike_ok {t : TypeId} (h : rowLike P t = true) : P.underlying t = some .string ∨ ∃ e, P.underlying t = some (.slice e) := by
  unfold rowLike at h
  split at h
  · rename_i e h'; exact .inr ⟨e, h'⟩
  · rename_i h'; exact .inl h'
  · cases h
theorem grow_le (need : Nat) : ∀ (r c : Nat), c ≤ 2 * need + 1000 → Builtin.growBy need r c ≤ 2 * need + 1000
  | 0, c, h => h
  | r + 1, c, h => by
    unfold Builtin.growBy
    split
    · exact h
    · exact grow_le need r _ (by omega)
theorem cap_le (need cap : Nat) (h : cap < need) : Builtin.nextslicecap need cap ≤ 2 * need + 1000 := by
  unfold Builtin.nextslicecap
  split
  · omega
  · split
    · omega
    · exact grow_le _ _ _ (by omega)

/-- cells are written, if there is where -/
def Wr (P : Program) (w : World) (base : Option Addr) (d : Nat) (us : List Value) (w' : World) : Prop :=
  match base with
  | none => w' = w
  | some b => (storeCells (b.add d) us).run P w = .ok () w'
/-- append where there is room -/
theorem run_append_in {st xt ty e : TypeId} {i : TypeInfo} {s x : Value} {base : Option Addr} {len cap n : Nat} {us : List Value} {w' : World} (hst : P.underlying st = some (.slice e)) (hi : P.info? e = some i) (hx : rowLike P xt = true)
    (hs : s = .slice base len cap) (hn : (Builtin.lenOf x).run P w = .ok n w) (hc : len + n ≤ cap) (hu : (Builtin.firstCells i.size n x).run P w = .ok ⟨us⟩ w)
    (hw : Wr P w base (len * i.size) us w') :
    (Builtin.append_ #[st, xt] ty #[s, x]).run P w = .ok (.slice base (len + n) cap) w' := by
  subst hs
  rcases rowLike_ok hx with hd | ⟨e', hd⟩ <;> cases base with
  | none => simp only [Wr] at hw; subst hw; simp [Builtin.append_, run_underlying hst, run_underlying hd, run_sizeOf _ hi, hn, hc, hu]
  | some b => simp only [Wr] at hw; simp [Builtin.append_, run_underlying hst, run_underlying hd, run_sizeOf _ hi, hn, hc, hu, hw]
/-- append where there is none -/
theorem run_append_new {st xt ty e : TypeId} {i : TypeInfo} {s x zv : Value} {base : Option Addr} {len cap n : Nat} {us os : List Value} (hst : P.underlying st = some (.slice e)) (hi : P.info? e = some i) (hx : rowLike P xt = true)
    (hs : s = .slice base len cap) (hn : (Builtin.lenOf x).run P w = .ok n w) (hc : cap < len + n) (hb : (2 * (len + n) + 1000) * i.bytes ≤ 281474976710656) (hm : len + n < 4294967296)
    (ho : (Builtin.firstCells i.size len s).run P w.drew = .ok ⟨os⟩ w.drew) (hu : (Builtin.firstCells i.size n x).run P w.drew = .ok ⟨us⟩ w.drew) (hz : ∀ w, (zeroValue e).run P w = .ok zv w) (hzs : zv.cells.size = i.size) :
    ∃ m rest, len + n ≤ m ∧ rest.length = (m - (len + n)) * i.size ∧
    (Builtin.append_ #[st, xt] ty #[s, x]).run P w = .ok (.slice (some ⟨w.heap.size, 0, none⟩) (len + n) m) { w with heap := w.heap.push (.cells ⟨(os ++ us) ++ rest⟩ e (0, 0)), drawn := w.drawn + 1 } := by
  subst hs
  have hnc : ¬ (len + n ≤ cap) := by omega
  have h1 : ¬ (9223372036854775807 < (len : Int) + (n : Int)) := by omega
  have h2 : ¬ (Builtin.nextslicecap (len + n) cap * i.bytes > 281474976710656) := by
    have := cap_le (len + n) cap hc
    have := Nat.mul_le_mul_right i.bytes this
    omega
  refine ⟨(Question.appendCap (len + n) cap e).cut (w.tape w.drawn (.appendCap (len + n) cap e)), (Builtin.zeroCells zv.cells ((Question.appendCap (len + n) cap e).cut (w.tape w.drawn (.appendCap (len + n) cap e)) - (len + n))).toList, ?_, ?_, ?_⟩
  · show len + n ≤ len + n + _; omega
  · simp [Builtin.zeroCells, hzs]
  · have hf : (Question.appendCap (len + n) cap e).forced = false := rfl
    have hA : ∀ Z : Array Value, (⟨os⟩ : Array Value) ++ ((⟨us⟩ : Array Value) ++ Z) = ⟨os ++ (us ++ Z.toList)⟩ := fun Z => by apply Array.toList_inj.1; simp
    generalize hq : (Question.appendCap (len + n) cap e).cut (w.tape w.drawn (.appendCap (len + n) cap e)) = m
    rcases rowLike_ok hx with hd | ⟨e', hd⟩ <;> simp [Builtin.append_, run_underlying hst, run_underlying hd, run_sizeOf _ hi, hn, hnc, typeInfo, hi, h1, h2, hf, hq, ho, hu, hz, newRow] <;> (rw [hA]; rfl)
/-- the same of so many noughts -/
theorem run_append_inZ {st xt ty e : TypeId} {i : TypeInfo} {s zv : Value} {base : Option Addr} {len cap n : Nat} {k q : IntKind} {us : List Value} {w' : World} (hst : P.underlying st = some (.slice e)) (hi : P.info? e = some i) (hx : P.underlying xt = some (.int q))
    (hs : s = .slice base len cap) (hm : n < 4294967296) (hb : n * i.bytes ≤ 281474976710656) (hz : ∀ w, (zeroValue e).run P w = .ok zv w) (hzs : zv.cells.size = i.size) (hc : len + n ≤ cap) (hu : us = flat zv.cells.toList n)
    (hw : Wr P w base (len * i.size) us w') :
    (Builtin.append_ #[st, xt] ty #[s, .int k (Int.ofNat n)]).run P w = .ok (.slice base (len + n) cap) w' := by
  subst hs
  have wl : IntKind.i64.wrap (n : Int) = (n : Int) := wrap_fit _ _ (by simp [IntKind.min, IntKind.bits, IntKind.signed]) (by simp [IntKind.max, IntKind.bits, IntKind.signed]; omega)
  have h1 : ¬ ((n : Int) < 0) := by omega
  have h2 : ¬ (281474976710656 < (n : Int) * (i.bytes : Int)) := by
    have : ((n * i.bytes : Nat) : Int) ≤ 281474976710656 := by omega
    rw [Int.natCast_mul] at this; omega
  by_cases h0 : n * i.size = 0
  · have hf : flat zv.cells.toList n = [] := by
      apply List.eq_nil_of_length_eq_zero
      rw [flat_length]; simp [hzs, h0]
    rw [hu, hf] at hw
    cases base with
    | none => simp only [Wr] at hw; subst hw; simp [Builtin.append_, run_underlying hst, run_underlying hx, run_sizeOf _ hi, asInt, asIntOf, wl, h1, h2, typeInfo, hi, hc, h0]
    | some b => simp only [Wr] at hw; simp [Builtin.append_, run_underlying hst, run_underlying hx, run_sizeOf _ hi, asInt, asIntOf, wl, h1, h2, typeInfo, hi, hc, h0, hw]
  · have hf : (Builtin.zeroCells zv.cells n).toList = us := by rw [hu]; unfold Builtin.zeroCells; rw [range_flat]
    cases base with
    | none => simp only [Wr] at hw; subst hw; simp [Builtin.append_, run_underlying hst, run_underlying hx, run_sizeOf _ hi, asInt, asIntOf, wl, h1, h2, typeInfo, hi, hc, hz]
    | some b => simp only [Wr] at hw; simp [Builtin.append_, run_underlying hst, run_underlying hx, run_sizeOf _ hi, asInt, asIntOf, wl, h1, h2, typeInfo, hi, hc, h0, hz, hf, hw]
theorem run_append_newZ {st xt ty e : TypeId} {i : TypeInfo} {s zv : Value} {base : Option Addr} {len cap n : Nat} {k q : IntKind} {us os : List Value} (hst : P.underlying st = some (.slice e)) (hi : P.info? e = some i) (hx : P.underlying xt = some (.int q))
    (hs : s = .slice base len cap) (hc : cap < len + n) (hb : (2 * (len + n) + 1000) * i.bytes ≤ 281474976710656) (hb2 : n * i.bytes ≤ 281474976710656) (hm : len + n < 4294967296)
    (ho : (Builtin.firstCells i.size len s).run P w.drew = .ok ⟨os⟩ w.drew) (hz : ∀ w, (zeroValue e).run P w = .ok zv w) (hzs : zv.cells.size = i.size) (hu : us = flat zv.cells.toList n) :
    ∃ m rest, len + n ≤ m ∧ rest.length = (m - (len + n)) * i.size ∧
    (Builtin.append_ #[st, xt] ty #[s, .int k (Int.ofNat n)]).run P w = .ok (.slice (some ⟨w.heap.size, 0, none⟩) (len + n) m) { w with heap := w.heap.push (.cells ⟨(os ++ us) ++ rest⟩ e (0, 0)), drawn := w.drawn + 1 } := by
  subst hs
  have hnc : ¬ (len + n ≤ cap) := by omega
  have wl : IntKind.i64.wrap (n : Int) = (n : Int) := wrap_fit _ _ (by simp [IntKind.min, IntKind.bits, IntKind.signed]) (by simp [IntKind.max, IntKind.bits, IntKind.signed]; omega)
  have h1 : ¬ ((n : Int) < 0) := by omega
  have h2 : ¬ (281474976710656 < (n : Int) * (i.bytes : Int)) := by
    have : ((n * i.bytes : Nat) : Int) ≤ 281474976710656 := by omega
    rw [Int.natCast_mul] at this; omega
  have h3 : ¬ (9223372036854775807 < (len : Int) + (n : Int)) := by omega
  have h4 : ¬ (Builtin.nextslicecap (len + n) cap * i.bytes > 281474976710656) := by
    have := cap_le (len + n) cap hc
    have := Nat.mul_le_mul_right i.bytes this
    omega
  refine ⟨(Question.appendCap (len + n) cap e).cut (w.tape w.drawn (.appendCap (len + n) cap e)), (Builtin.zeroCells zv.cells ((Question.appendCap (len + n) cap e).cut (w.tape w.drawn (.appendCap (len + n) cap e)) - (len + n))).toList, ?_, ?_, ?_⟩
  · show len + n ≤ len + n + _; omega
  · simp [Builtin.zeroCells, hzs]
  · have hf : (Question.appendCap (len + n) cap e).forced = false := rfl
    have hA : ∀ Z : Array Value, (⟨os⟩ : Array Value) ++ ((⟨us⟩ : Array Value) ++ Z) = ⟨os ++ (us ++ Z.toList)⟩ := fun Z => by apply Array.toList_inj.1; simp
    generalize hq : (Question.appendCap (len + n) cap e).cut (w.tape w.drawn (.appendCap (len + n) cap e)) = m
    by_cases h0 : n * i.size = 0
    · have hfl : flat zv.cells.toList n = [] := by
        apply List.eq_nil_of_length_eq_zero
        rw [flat_length]; simp [hzs, h0]
      rw [hu, hfl] at hA ⊢
      simp [Builtin.append_, run_underlying hst, run_underlying hx, run_sizeOf _ hi, asInt, asIntOf, wl, h1, h2, hnc, typeInfo, hi, h3, h4, hf, hq, ho, h0, hz, newRow]
      have e2 : (⟨os⟩ : Array Value) ++ Builtin.zeroCells zv.cells (m - (len + n)) = ⟨os ++ (Builtin.zeroCells zv.cells (m - (len + n))).toList⟩ := by apply Array.toList_inj.1; simp
      rw [e2]; rfl
    · have hfl : (Builtin.zeroCells zv.cells n) = ⟨us⟩ := by rw [hu]; exact range_flat _ _
      simp [Builtin.append_, run_underlying hst, run_underlying hx, run_sizeOf _ hi, asInt, asIntOf, wl, h1, h2, hnc, typeInfo, hi, h3, h4, hf, hq, ho, h0, hz, newRow, hfl]
      rw [hA]; rfl
end
end Go.Ai
/- append, copy, clear, maps: abstractly. -/
namespace Go.Ai
section
variable {P : Program} {env : Nat → Value} {ρ : Ren} {H : Heap} {w : World} {ng ro : Nat} {T : TT AV} {a : Act}

noncomputable def Heap.del (H : Heap) (b : Nat) : Heap := ⟨H.t.del b, H.nx⟩
theorem del_get {b d : Nat} {o : AO} (h : (H.del b).t.get d = some o) : d ≠ b ∧ H.t.get d = some o := by
  simp only [Heap.del, TT.get_del] at h
  split at h
  · cases h
  · rename_i hn; exact ⟨hn, h⟩
theorem Rel.del (r : Rel env ρ H w) (b : Nat) : Rel env ρ (H.del b) w :=
  ⟨fun d o c x h1 h2 => r.obj d o c x (del_get h1).2 h2, fun d d' o o' c x x' h1 h2 h3 h4 => r.inj d d' o o' c x x' (del_get h1).2 (del_get h2).2 h3 h4,
   fun d hd => ⟨(r.new d hd).1, by have := (r.new d hd).2; simp only [Heap.del, TT.get_del]; split <;> simp_all⟩, r.one⟩
theorem Step.del (r : Rel env ρ H w) (b : Nat) : Step env ro ρ H w ρ (H.del b) w :=
  ⟨r.del b, fun _ _ => rfl, Nat.le_refl _, fun _ _ _ ⟨d, o, x, h0, h1, h2⟩ => .inl ⟨d, o, x, h0, (del_get h1).2, h2⟩, fun _ _ _ => rfl, Nat.le_refl _, rfl, rfl, rfl⟩
/-- a block goes on under another number -/
theorem Step.move (r : Rel env ρ H w) {b c : Nat} {x x' : Nat × Nat} {o o' : AO} {ob : Obj} (hro : ro ≤ b) (hb : H.t.get b = some o) (hc : ρ b = some (c, x)) (ho : ObjR (ρ.put H.nx (c, x')) env x' o' ob) :
    Step env ro ρ H w (ρ.put H.nx (c, x')) ((H.del b).push o') { w with heap := w.heap.setIfInBounds c ob } := by
  have hn := r.new H.nx (Nat.le_refl _)
  have hbn : b ≠ H.nx := fun e => by rw [e, hn.2] at hb; cases hb
  obtain ⟨ob0, h0, _⟩ := r.obj _ _ _ _ hb hc
  have hlt := (Array.getElem?_eq_some_iff.1 h0).1
  have hget : ∀ d o1, d ≠ H.nx → ((H.del b).push o').t.get d = some o1 → d ≠ b ∧ H.t.get d = some o1 := fun d o1 hd h => by
    have h' : ((H.del b).t.set o' H.nx).get d = some o1 := h
    rw [TT.get_set_ne _ _ hd] at h'
    exact del_get h'
  have hself : ∀ o1, ((H.del b).push o').t.get H.nx = some o1 → o1 = o' := fun o1 h => by
    have h' : ((H.del b).t.set o' H.nx).get H.nx = some o1 := h
    rw [TT.get_set_eq] at h'
    exact (Option.some.inj h').symm
  refine ⟨⟨fun d o1 c1 x1 h1 h2 => ?_, fun d d' o1 o2 c1 x1 x2 h1 h2 h3 h4 => ?_, fun d hd => ?_, r.one⟩, fun d hd => Ren.put_ne _ _ (by omega), Nat.le_succ _, fun lo c1 hlo ⟨d, o1, y, h1, h2, h3⟩ => ?_, fun c1 hc1 hni => ?_, by simp, rfl, rfl, rfl⟩
  · by_cases hd : d = H.nx
    · subst hd
      rw [Ren.put_self] at h2
      cases h2
      rw [hself _ h1]
      exact ⟨ob, by simp [hlt], ho⟩
    · obtain ⟨h5, h6⟩ := hget _ _ hd h1
      rw [Ren.put_ne _ _ hd] at h2
      obtain ⟨ob', h7, h8⟩ := r.obj _ _ _ _ h6 h2
      have hne : c ≠ c1 := fun e => h5 (r.inj d b o1 o c1 x1 x h6 hb h2 (e ▸ hc))
      refine ⟨ob', ?_, h8.mono (Ren.le_put _ hn.1)⟩
      show (w.heap.setIfInBounds c ob)[c1]? = _
      rw [Array.getElem?_setIfInBounds_ne hne]; exact h7
  · by_cases hd : d = H.nx <;> by_cases hd' : d' = H.nx
    · rw [hd, hd']
    · subst hd
      rw [Ren.put_self] at h3
      cases h3
      obtain ⟨h5, h6⟩ := hget _ _ hd' h2
      rw [Ren.put_ne _ _ hd'] at h4
      exact absurd (r.inj d' b o2 o c x2 x h6 hb h4 hc) h5
    · subst hd'
      rw [Ren.put_self] at h4
      cases h4
      obtain ⟨h5, h6⟩ := hget _ _ hd h1
      rw [Ren.put_ne _ _ hd] at h3
      exact absurd (r.inj d b o1 o c x1 x h6 hb h3 hc) h5
    · obtain ⟨_, h6⟩ := hget _ _ hd h1
      obtain ⟨_, h8⟩ := hget _ _ hd' h2
      rw [Ren.put_ne _ _ hd] at h3
      rw [Ren.put_ne _ _ hd'] at h4
      exact r.inj d d' o1 o2 c1 x1 x2 h6 h8 h3 h4
  · have hd0 : H.nx + 1 ≤ d := hd
    have hd1 : d ≠ H.nx := by omega
    rw [Ren.put_ne _ _ hd1]
    refine ⟨(r.new d (by omega)).1, ?_⟩
    show ((H.del b).t.set o' H.nx).get d = none
    rw [TT.get_set_ne _ _ hd1]
    exact ((r.del b).new d (by show H.nx ≤ d; omega)).2
  · by_cases hd : d = H.nx
    · subst hd
      rw [Ren.put_self] at h3
      cases h3
      exact .inl ⟨b, o, x, Nat.le_trans hlo hro, hb, hc⟩
    · obtain ⟨h5, h6⟩ := hget _ _ hd h2
      rw [Ren.put_ne _ _ hd] at h3
      exact .inl ⟨d, o1, y, h1, h6, h3⟩
  · have hne : c ≠ c1 := fun e => hni ⟨b, o, x, hro, hb, e ▸ hc⟩
    show (w.heap.setIfInBounds c ob)[c1]? = _
    rw [Array.getElem?_setIfInBounds_ne hne]

/-- the object that a stretch makes, of elements of sz cells -/
noncomputable def Ch.obj (c : Ch) (sz : Nat) : Option AO :=
  match c with
  | .cs l => some (.cells sz l)
  | .bs n x => bif Nat.beq sz 1 then some (.bytes n x) else none
theorem Ch.obj_ok {c : Ch} {sz x : Nat} {o : AO} {l rest : List Value} {t : TypeId} {fz : Nat × Nat} (h : c.obj sz = some o) (hl : VRs ρ env c.l l) (hr : rest.length = x * sz) (hz : loose sz (l.length + rest.length) fz) :
    ObjR ρ env (x, 0) o (.cells ⟨l ++ rest⟩ t fz) := by
  cases c with
  | cs k => cases h; exact old_row ⟨l, rest, t, fz, rfl, hl, hr, hz⟩
  | bs n y =>
    simp only [Ch.obj] at h
    cases hb : Nat.beq sz 1 with
    | false => rw [hb] at h; cases h
    | true =>
      rw [hb] at h; cases h
      exact old_row ⟨l, rest, t, fz, rfl, hl, by rw [hr, beq_true hb], hz.one⟩
theorem Ch.obj_okp {c : Ch} {sz : Nat} {x : Nat × Nat} {o : AO} {pre l rest : List Value} {t : TypeId} {fz : Nat × Nat} (h : c.obj sz = some o) (hl : VRs ρ env c.l l) (hr : rest.length = x.1 * sz) (hp : PreOK o.pk pre.length x.2) (hz : loose sz (pre.length + (l.length + rest.length)) fz) :
    ObjR ρ env x o (.cells ⟨pre ++ (l ++ rest)⟩ t fz) := by
  cases c with
  | cs k => cases h; exact ⟨pre, l, rest, t, fz, rfl, hl, hr, hp, hz⟩
  | bs n y =>
    simp only [Ch.obj] at h
    cases hb : Nat.beq sz 1 with
    | false => rw [hb] at h; cases h
    | true =>
      rw [hb] at h; cases h
      exact ⟨pre, l, rest, t, fz, rfl, hl, by rw [hr, beq_true hb], hp, hz.one⟩
def AO.sz? : AO → Option (Nat × Nat)
  | .cells sz cs => some (sz, cs.length)
  | .bytes len _ => some (1, len)
  | _ => none
theorem AO.sz?_view {o : AO} {sz n : Nat} (h : o.sz? = some (sz, n)) : ∃ cs, o.view = some (sz, cs) ∧ cs.length = n := by
  cases o <;> simp only [AO.sz?, Option.some.injEq, Prod.mk.injEq] at h <;> try (cases h; done)
  · obtain ⟨rfl, rfl⟩ := h; exact ⟨_, rfl, rfl⟩
  · obtain ⟨rfl, rfl⟩ := h; exact ⟨_, rfl, by simp [bytesOf_length]⟩

noncomputable def fits (need bz : Nat) : Bool := Nat.ble (Nat.mul (Nat.add (Nat.mul 2 need) 1000) bz) 281474976710656 && Nat.blt need 4294967296
noncomputable def appNew (H : Heap) (sz need : Nat) (c : Ch) : Option (AV × Heap) :=
  match c.obj sz with
  | some o => some (.sl H.nx 0 need need true, H.push o)
  | none => none
/-- may what lies ahead be forgotten? -/
noncomputable def shOK (off : Nat) (o : AO) (C : Ch) (sz : Nat) : Bool :=
  match C.obj sz with
  | some o' => Nat.beq o'.pk 1 || (Nat.beq off 0 && Bool.not (Nat.beq o.pk 1))
  | none => false
theorem shOK_ok {off sz : Nat} {o o' : AO} {C : Ch} {n s : Nat} (h : shOK off o C sz = true) (ho : C.obj sz = some o') (hp : PreOK o.pk n s) {m : Nat} (hm : m = off + s) : PreOK o'.pk m (off + s) := by
  refine ⟨hm, fun hne => ?_⟩
  unfold shOK at h
  rw [ho] at h
  simp only [Bool.or_eq_true, Bool.and_eq_true] at h
  rcases h with h | ⟨h1, h2⟩
  · exact absurd (beq_true h) hne
  · have h1 := beq_true h1
    have h2 : o.pk ≠ 1 := fun e => by rw [e] at h2; exact absurd h2 (by decide)
    rw [h1, hp.one h2]
noncomputable def appTo (ro : Nat) (H : Heap) (sz bz n : Nat) (s : AV) (ch : Option Ch) : Option (AV × Heap) :=
  match s with
  | .sn => bif Nat.beq n 0 then some (.sn, H) else
      match ch with
      | some c => bif fits n bz then appNew H sz n c else none
      | none => none
  | .se => bif Nat.beq n 0 then some (.se, H) else none
  | .sl b off len cap op =>
    let need := Nat.add len n
    bif Nat.ble need cap then
      bif Nat.beq n 0 then some (.sl b off len cap op, H) else
      match ch with
      | some c => match H.t.get b with
        | some o => bif Nat.ble ro b && c.one then
            match o.writeC (Nat.add off (Nat.mul len sz)) c with
            | some o' => some (.sl b off need cap op, H.put b o')
            | none => none
          else none
        | none => none
      | none => none
    else bif fits need bz then
      match ch with
      | some c => match H.t.get b with
        | some o => match o.chunk off (Nat.mul len sz) with
          | some d => bif op then
              match o.sz? with
              | some (sz', m) => bif Nat.ble ro b && (Nat.beq sz' sz && (Nat.beq m (Nat.add off (Nat.mul cap sz)) && (c.one && (Nat.ble len cap && shOK off o (d.app c) sz)))) then appNew (H.del b) sz need (d.app c) else none
              | none => none
            else appNew H sz need (d.app c)
          | none => none
        | none => none
      | none => none
    else none
  | .sr b o2 => bif Nat.beq n 0 then some (.sr b o2, H) else
      match ch with
      | some c => bif fits n bz then
          match H.t.get b with
          | some o => match o.sz? with
            | some (sz', m) => bif Nat.ble ro b && (Nat.beq sz' sz && (Nat.beq m o2 && (c.one && shOK o2 o c sz))) then appNew (H.del b) sz n c else none
            | none => none
          | none => none
        else none
      | none => none
  | _ => none
/-- so many noughts -/
noncomputable def nulCh (P : Program) (e : TypeId) (z : List AV) (n : Nat) : Option Ch :=
  match isU8 P e with
  | some true => bif zpage z 1 then some (.bs n 0) else none
  | some false => some (.cs (flat z n))
  | none => none
def intLike (P : Program) (t : TypeId) : Bool :=
  match P.underlying t with
  | some (.int _) => true
  | _ => false
noncomputable def wAppend (P : Program) (ng ro : Nat) (H : Heap) (T : TT AV) (c : Call) : Option (AV × Heap) :=
  match c.args.toList, c.argTypes.toList with
  | [s, x], [st, xt] => match ev ng T s with
    | some sv => match ev ng T x with
      | some xv => match sliceElem P st with
        | some e => match elemZ P e with
          | some (z, bz) => bif rowLike P xt then
              match srcLen xv with
              | some n => appTo ro H z.length bz n sv (srcCh H z.length n xv)
              | none => none
            else bif intLike P xt then
              match xv with
              | .i _ (.ofNat n) => bif fits n bz then appTo ro H z.length bz n sv (nulCh P e z n) else none
              | _ => none
            else none
          | none => none
        | none => none
      | none => none
    | none => none
  | _, _ => none

/-- what is put behind goes where there is room; the block goes on under another number, what lay ahead of the slice is no longer known -/
theorem app_in (r : Rel env ρ H w) {b c sz off k lsz t : Nat} {x : Nat × Nat} {o o' : AO} {cs : List AV} {ch C : Ch} {xs' : List Value} (hro : ro ≤ b) (ho : H.t.get b = some o) (hc : ρ b = some (c, x)) (hv : o.view = some (sz, cs)) (hcs : cs.length = off + k) (h1 : lsz ≤ k) (h2 : lsz + xs'.length = k + t * sz)
    (h3 : t ≤ x.1) (hx : VRs ρ env ch.l xs') (hone : ch.one = true) (hC : C.l = (cs.drop off).take lsz ++ ch.l) (hobj : C.obj sz = some o') (hsh : shOK off o C sz = true) :
    ∃ w', (storeCells ⟨c, off + x.2 + lsz, none⟩ xs').run P w = .ok () w' ∧ Step env ro ρ H w (ρ.put H.nx (c, x.1 - t, off + x.2)) ((H.del b).push o') w' := by
  obtain ⟨ob, h6, h7⟩ := r.obj _ _ _ _ ho hc
  obtain ⟨pre, l, rest, ty, fz, rfl, h10, h11, hp, h12⟩ := h7.row hv
  have hll : l.length = off + k := by rw [h10.length, hcs]
  have hts : t * sz ≤ x.1 * sz := Nat.mul_le_mul_right _ h3
  have hw := run_storeCells_row (P := P) c (off + x.2 + lsz) ty fz xs' 0 (pre ++ (l ++ rest)) w h6 (by have := hp.len; simp; omega) (by simpa using h12) (avOnes_ok r.one hx (Ch.one_l hone))
  have e2 : (pre ++ l.take off).length = off + x.2 := by have := hp.len; rw [List.length_append, List.length_take]; omega
  have e3 : (l.drop off).length = k := by rw [List.length_drop]; omega
  have hsplit : spl (pre ++ (l ++ rest)) (off + x.2 + lsz + 0) xs' = (pre ++ l.take off) ++ (((l.drop off).take lsz ++ xs') ++ rest.drop (t * sz)) := by
    have e1 : pre ++ (l ++ rest) = (pre ++ l.take off) ++ (l.drop off ++ rest) := by rw [List.append_assoc, ← List.append_assoc (l.take off), List.take_append_drop]
    have e4 : List.drop (lsz + xs'.length) (l.drop off) = [] := List.drop_eq_nil_of_le (by omega)
    have e5 : lsz + xs'.length - (l.drop off).length = t * sz := by omega
    have e6 : lsz ≤ (l.drop off).length := by omega
    rw [e1]
    unfold spl
    rw [Nat.add_zero, ← e2, Nat.add_assoc _ lsz, List.take_length_add_append, List.drop_length_add_append, List.take_append_of_le_length e6, List.drop_append, e4, e5]
    simp
  refine ⟨_, hw, Step.move r hro ho hc ?_⟩
  rw [hsplit]
  have hnx := (r.new H.nx (Nat.le_refl _)).1
  refine Ch.obj_okp (x := (x.1 - t, off + x.2)) hobj ?_ ?_ (shOK_ok hsh hobj hp e2) ?_
  · rw [hC]
    exact (((h10.drop off).take lsz).append hx).mono (Ren.le_put _ hnx)
  · rw [List.length_drop, h11, Nat.sub_mul]
  · have : (pre ++ l.take off).length + (((l.drop off).take lsz ++ xs').length + (rest.drop (t * sz)).length) = pre.length + (l.length + rest.length) := by
      have := hp.len
      rw [e2, List.length_append, List.length_take, List.length_drop, List.length_drop, h11]; omega
    rw [this]; exact h12
theorem appNew_ok (r : Rel env ρ H w) {sz need : Nat} {c : Ch} {v : AV} {H' : Heap} {us rest : List Value} {m : Nat} {e : TypeId} (h : appNew H sz need c = some (v, H')) (hl : VRs ρ env c.l us) (hm : need ≤ m) (hr : rest.length = (m - need) * sz) :
    ∃ ρ', VR ρ' env v (.slice (some ⟨w.heap.size, 0, none⟩) need m) ∧ Step env ro ρ H w ρ' H' { w with heap := w.heap.push (.cells ⟨us ++ rest⟩ e (0, 0)), drawn := w.drawn + 1 } := by
  unfold appNew at h
  split at h
  · rename_i o ho
    cases h
    have hn := (r.new H.nx (Nat.le_refl _)).1
    refine ⟨ρ.put H.nx (w.heap.size, m - need, 0), ?_, (Step.alloc r (Ch.obj_ok ho (hl.mono (Ren.le_put _ hn)) hr (loose_zero _ _))).trans (Step.drew (Step.alloc (ro := ro) r (Ch.obj_ok ho (hl.mono (Ren.le_put _ hn)) hr (loose_zero _ _))).rel _)⟩
    simp only [VR]
    refine ⟨_, _, Ren.put_self _ _ _, ?_⟩
    have : need + (m - need) = m := by omega
    simp [this]
  · cases h
end
end Go.Ai
/- append, copy, clear, maps: they do as is told. -/
namespace Go.Ai
section
variable {P : Program} {env : Nat → Value} {ρ : Ren} {H : Heap} {w : World} {ng ro : Nat} {T : TT AV} {a : Act}

theorem chunk_len {o : AO} {off n : Nat} {c : Ch} (h : o.chunk off n = some c) : c.l.length = n := (AO.read_view (AO.chunk_read h)).choose_spec.choose_spec.2.2
theorem srcCh_len {x : AV} {u : Value} {sz n : Nat} {c : Ch} (hu : VR ρ env x u) (h : srcCh H sz n x = some c) (hn : srcLen x = some n) : c.l.length = n * sz := by
  unfold srcCh at h
  split at h
  · split at h
    · exact chunk_len h
    · cases h
  · rename_i len y
    cases hb : (Nat.ble n len && Nat.beq sz 1) with
    | false => rw [hb] at h; cases h
    | true =>
      rw [hb] at h; cases h
      rw [Bool.and_eq_true] at hb
      have := beq_true hb.2
      subst this
      simp [Ch.l, bytesOf_length]
  · cases hb : Nat.beq n 0 with
    | false => rw [hb] at h; cases h
    | true => rw [hb] at h; cases h; have := beq_true hb; subst this; simp [Ch.l, bytesOf_length]
  · cases hb : Nat.beq n 0 with
    | false => rw [hb] at h; cases h
    | true => rw [hb] at h; cases h; have := beq_true hb; subst this; simp [Ch.l, bytesOf_length]
  · cases hb : Nat.beq n 0 with
    | false => rw [hb] at h; cases h
    | true => rw [hb] at h; cases h; have := beq_true hb; subst this; simp [Ch.l, bytesOf_length]
  · cases h
theorem appTo_ok (r : Rel env ρ H w) {e : TypeId} {i : TypeInfo} {n : Nat} {s : AV} {us : Value} {v : AV} {H' : Heap} {ch : Option Ch} {go : Value → Result Value} {Src : World → List Value → Prop}
    (hlen : ∀ c, ch = some c → c.l.length = n * i.size) (hsrc : ∀ w', Rel env ρ H w' → ∀ c, ch = some c → ∃ us, Src w' us ∧ VRs ρ env c.l us) (hsrc0 : n = 0 → Src w [])
    (hin : ∀ {s : Value} {base : Option Addr} {len cap : Nat} {us : List Value} {w' : World}, s = .slice base len cap → len + n ≤ cap → Src w us → Wr P w base (len * i.size) us w' → go s = .ok (.slice base (len + n) cap) w')
    (hnew : ∀ {s : Value} {base : Option Addr} {len cap : Nat} {us os : List Value}, s = .slice base len cap → cap < len + n → (2 * (len + n) + 1000) * i.bytes ≤ 281474976710656 → len + n < 4294967296 → (Builtin.firstCells i.size len s).run P w.drew = .ok ⟨os⟩ w.drew → Src w.drew us →
      ∃ m rest, len + n ≤ m ∧ rest.length = (m - (len + n)) * i.size ∧ go s = .ok (.slice (some ⟨w.heap.size, 0, none⟩) (len + n) m) { w with heap := w.heap.push (.cells ⟨(os ++ us) ++ rest⟩ e (0, 0)), drawn := w.drawn + 1 })
    (hs : VR ρ env s us) (h : appTo ro H i.size i.bytes n s ch = some (v, H')) :
    ∃ u w' ρ', go us = .ok u w' ∧ VR ρ' env v u ∧ Step env ro ρ H w ρ' H' w' := by
  have rd : Rel env ρ H w.drew := r.drew _
  unfold appTo at h
  split at h
  · simp only [VR] at hs
    subst hs
    cases hb : Nat.beq n 0 with
    | true =>
      have := beq_true hb
      subst this
      rw [hb] at h
      cases h
      exact ⟨_, w, ρ, hin (us := []) rfl (Nat.le_refl 0) (hsrc0 rfl) rfl, by simp only [VR], Step.refl r⟩
    | false =>
      rw [hb] at h
      simp only [cond_false] at h
      split at h
      · rename_i c
        cases hf : fits n i.bytes with
        | false => rw [hf] at h; cases h
        | true =>
          rw [hf] at h
          simp only [cond_true] at h
          simp only [fits, Bool.and_eq_true] at hf
          have f1 : (2 * n + 1000) * i.bytes ≤ 281474976710656 := ble_true hf.1
          have f2 := blt_iff.1 hf.2
          obtain ⟨xs, h2, h3⟩ := hsrc _ rd c rfl
          obtain ⟨m, rest, h4, h5, h6⟩ := hnew (us := xs) (os := []) (s := .slice none 0 0) (len := 0) (cap := 0) rfl (by have := beq_false hb; omega) (by simpa using f1) (by simpa using f2) (by simp [Builtin.firstCells]) h2
          rw [Nat.zero_add] at h4 h5 h6
          obtain ⟨ρ', h7, h8⟩ := appNew_ok (ro := ro) r h h3 h4 h5 (e := e)
          exact ⟨_, _, ρ', h6, h7, h8⟩
      · cases h
  · simp only [VR] at hs
    obtain ⟨b, c, rfl⟩ := hs
    cases hb : Nat.beq n 0 with
    | false => rw [hb] at h; cases h
    | true =>
      have := beq_true hb
      subst this
      rw [hb] at h
      cases h
      exact ⟨_, w, ρ, hin (us := []) rfl (Nat.zero_le _) (hsrc0 rfl) (by simp [Wr, storeCells]), by simp only [VR]; exact ⟨_, _, rfl⟩, Step.refl r⟩
  · rename_i b off len cap op
    have hs0 := hs
    simp only [VR] at hs
    obtain ⟨c, y, hc, rfl⟩ := hs
    dsimp only at h
    cases hle : Nat.ble (Nat.add len n) cap with
    | true =>
      rw [hle] at h
      simp only [cond_true] at h
      have hle' : len + n ≤ cap := ble_true hle
      cases hb : Nat.beq n 0 with
      | true =>
        have := beq_true hb
        subst this
        rw [hb] at h
        cases h
        exact ⟨_, w, ρ, hin (us := []) rfl (by omega) (hsrc0 rfl) (by simp [Wr, storeCells]), by simp only [VR]; exact ⟨c, y, hc, rfl⟩, Step.refl r⟩
      | false =>
        rw [hb] at h
        simp only [cond_false] at h
        split at h
        · rename_i ch
          split at h
          · rename_i o ho
            cases hq : (Nat.ble ro b && ch.one) with
            | false => rw [hq] at h; cases h
            | true =>
              rw [hq] at h
              simp only [cond_true] at h
              split at h
              · rename_i o' ho'
                cases h
                rw [Bool.and_eq_true] at hq
                obtain ⟨xs, h2, h3⟩ := hsrc _ r ch rfl
                obtain ⟨w', h4, h5⟩ := writeC_ok (P := P) r (ble_true hq.1) ho hc ho' h3 hq.2
                refine ⟨_, w', ρ, hin rfl (by omega) h2 (by simp only [Wr, add_none]; rw [Nat.add_right_comm]; exact h4), by simp only [VR]; exact ⟨c, y, hc, rfl⟩, h5⟩
              · cases h
          · cases h
        · cases h
    | false =>
      rw [hle] at h
      simp only [cond_false] at h
      have hgt : cap < len + n := by
        rcases Nat.lt_or_ge cap (len + n) with h' | h'
        · exact h'
        · rw [show Nat.ble (Nat.add len n) cap = true from Nat.ble_eq ▸ h'] at hle; cases hle
      cases hf : fits (Nat.add len n) i.bytes with
      | false => rw [hf] at h; cases h
      | true =>
        rw [hf] at h
        simp only [cond_true] at h
        simp only [fits, Bool.and_eq_true] at hf
        have f1 : (2 * (len + n) + 1000) * i.bytes ≤ 281474976710656 := ble_true hf.1
        have f2 : len + n < 4294967296 := blt_iff.1 hf.2
        split at h
        · rename_i ch
          split at h
          · rename_i o ho
            split at h
            · rename_i d hd
              obtain ⟨os, h2, h3⟩ := cells_of_read (P := P) rd ho hc (AO.chunk_read hd)
              obtain ⟨xs, h4, h5⟩ := hsrc _ rd ch rfl
              have hdl : VRs ρ env (d.app ch).l (os ++ xs) := by rw [Ch.app_l]; exact h3.append h5
              cases op with
              | false =>
                simp only [cond_false] at h
                obtain ⟨m, rest, h6, h7, h8⟩ := hnew (us := xs) (os := os) (s := .slice (some ⟨c, off + y.2, none⟩) len cap) (len := len) (cap := cap) rfl hgt f1 f2 (by simpa [Builtin.firstCells] using h2) h4
                obtain ⟨ρ', h9, h10⟩ := appNew_ok (ro := ro) r h hdl h6 h7 (e := e)
                exact ⟨_, _, ρ', by simpa using h8, h9, h10⟩
              | true =>
                simp only [cond_true] at h
                split at h
                · rename_i sz' m hsz
                  cases hq : (Nat.ble ro b && (Nat.beq sz' i.size && (Nat.beq m (Nat.add off (Nat.mul cap i.size)) && (ch.one && (Nat.ble len cap && shOK off o (d.app ch) i.size))))) with
                  | false => rw [hq] at h; cases h
                  | true =>
                    rw [hq] at h
                    simp only [cond_true] at h
                    simp only [Bool.and_eq_true] at hq
                    obtain ⟨q1, q3, q4, q5, q6, q7⟩ := hq
                    have q3 := beq_true q3
                    have q4 : m = off + cap * i.size := beq_true q4
                    have q6 := ble_true q6
                    subst q3
                    by_cases hroom : len + n ≤ cap + y.1
                    · -- in place
                      unfold appNew at h
                      split at h
                      · rename_i o' ho'
                        cases h
                        obtain ⟨cs, h8, h9⟩ := AO.sz?_view hsz
                        obtain ⟨xs', h13, h14⟩ := hsrc _ r ch rfl
                        have hxl : xs'.length = n * i.size := by
                          rw [h14.length, hlen ch rfl]
                        obtain ⟨sz2, cs2, e2, e3, _⟩ := AO.read_view (AO.chunk_read hd)
                        rw [h8] at e2
                        cases e2
                        obtain ⟨w', h15, h16⟩ := app_in (P := P) (ro := ro) r (t := len + n - cap) (k := cap * i.size) (lsz := len * i.size) (ble_true q1) ho hc h8 (by rw [h9, q4]) (Nat.mul_le_mul_right _ q6) (by rw [hxl, ← Nat.add_mul, ← Nat.add_mul]; congr 1; omega) (by omega) h14 q5 (by rw [Ch.app_l, ← e3]; rfl) ho' q7
                        refine ⟨.slice (some ⟨c, off + y.2, none⟩) (len + n) (cap + y.1), w', _, hin (by simp) hroom h13 (by simp only [Wr, add_none]; exact h15), ?_, h16⟩
                        simp only [VR]
                        refine ⟨c, _, Ren.put_self _ _ _, ?_⟩
                        rw [Nat.zero_add]
                        congr 1
                        show cap + y.1 = len + n + if True then y.1 - (len + n - cap) else 0
                        simp; omega
                      · cases h
                    · obtain ⟨m', rest, h6, h7, h8⟩ := hnew (us := xs) (os := os) (s := .slice (some ⟨c, off + y.2, none⟩) len (cap + y.1)) (len := len) (cap := cap + y.1) rfl (by omega) f1 f2 (by simpa [Builtin.firstCells] using h2) h4
                      obtain ⟨ρ', h9, h10⟩ := appNew_ok (ro := ro) (r.del b) h hdl h6 h7 (e := e)
                      exact ⟨_, _, ρ', by simpa using h8, h9, (Step.del r b).trans h10⟩
                · cases h
            · cases h
          · cases h
        · cases h
  · rename_i b o2
    simp only [VR] at hs
    obtain ⟨c, y, a0, hc, rfl, ha0⟩ := hs
    cases hb : Nat.beq n 0 with
    | true =>
      have := beq_true hb
      subst this
      rw [hb] at h
      cases h
      exact ⟨_, w, ρ, hin (us := []) rfl (by omega) (hsrc0 rfl) (by simp [Wr, storeCells]), by simp only [VR]; exact ⟨c, y, a0, hc, rfl, ha0⟩, Step.refl r⟩
    | false =>
      have hn0 := beq_false hb
      rw [hb] at h
      simp only [cond_false] at h
      split at h
      · rename_i ch
        cases hf : fits n i.bytes with
        | false => rw [hf] at h; cases h
        | true =>
          rw [hf] at h
          simp only [cond_true] at h
          simp only [fits, Bool.and_eq_true] at hf
          have f1 : (2 * n + 1000) * i.bytes ≤ 281474976710656 := ble_true hf.1
          have f2 : n < 4294967296 := blt_iff.1 hf.2
          split at h
          · rename_i o ho
            split at h
            · rename_i sz' m hsz
              cases hq : (Nat.ble ro b && (Nat.beq sz' i.size && (Nat.beq m o2 && (ch.one && shOK o2 o ch i.size)))) with
              | false => rw [hq] at h; cases h
              | true =>
                rw [hq] at h
                simp only [cond_true] at h
                simp only [Bool.and_eq_true] at hq
                obtain ⟨q1, q3, q4, q5, q7⟩ := hq
                have q3 := beq_true q3
                have q4 := beq_true q4
                subst q3 q4
                by_cases hroom : n ≤ y.1
                · unfold appNew at h
                  split at h
                  · rename_i o' ho'
                    cases h
                    obtain ⟨cs, h8, h9⟩ := AO.sz?_view hsz
                    obtain ⟨xs', h13, h14⟩ := hsrc _ r ch rfl
                    have hxl : xs'.length = n * i.size := by rw [h14.length, hlen ch rfl]
                    obtain ⟨w', h15, h16⟩ := app_in (P := P) (ro := ro) r (off := m) (t := n) (k := 0) (lsz := 0) (C := ch) (ble_true q1) ho hc h8 (by rw [h9]; rfl) (Nat.le_refl _) (by rw [hxl]) hroom h14 q5 (by simp) ho' q7
                    have ha := ha0 (by omega)
                    subst ha
                    refine ⟨.slice (some ⟨c, m + y.2, none⟩) (0 + n) y.1, w', _, hin (by rfl) (by omega) h13 (by simp only [Wr, add_none, Nat.zero_mul]; exact h15), ?_, h16⟩
                    simp only [VR]
                    refine ⟨c, _, Ren.put_self _ _ _, ?_⟩
                    rw [Nat.zero_add, Nat.zero_add]
                    congr 1
                    show y.1 = n + if True then y.1 - n else 0
                    simp; omega
                  · cases h
                · obtain ⟨xs, h4, h5⟩ := hsrc _ rd ch rfl
                  obtain ⟨m', rest, h6, h7, h8⟩ := hnew (us := xs) (os := []) (s := .slice (some a0) 0 y.1) (len := 0) (cap := y.1) rfl (by omega) (by simpa using f1) (by simpa using f2) (by simp [Builtin.firstCells, loadCells, loadCellsFrom]) h4
                  obtain ⟨ρ', h9, h10⟩ := appNew_ok (ro := ro) (r.del b) h h5 (by simpa using h6) (by simpa using h7) (e := e)
                  exact ⟨_, _, ρ', by simpa using h8, by simpa using h9, (Step.del r b).trans (by simpa using h10)⟩
            · cases h
          · cases h
      · cases h
  · cases h
end
end Go.Ai
/- All writers together. -/
namespace Go.Ai
section
variable {P : Program} {env : Nat → Value} {ρ : Ren} {H : Heap} {w : World} {ng ro : Nat} {T : TT AV} {a : Act}

noncomputable def valCh (v : AV) : Ch :=
  match v with
  | .by_ n x => .bs n x
  | v => .cs (avCells v)
theorem valCh_l (v : AV) : (valCh v).l = avCells v := by cases v <;> rfl
def Ch.len : Ch → Nat
  | .cs l => l.length
  | .bs n _ => n
theorem Ch.len_l (c : Ch) : c.l.length = c.len := by cases c <;> simp [Ch.l, Ch.len, bytesOf_length]
noncomputable def wStore (P : Program) (ng ro : Nat) (H : Heap) (T : TT AV) (t : TypeId) (x y : Operand) : Option (AV × Heap) :=
  match ev ng T x with
  | some (.p b off) => match ev ng T y with
    | some v => match H.t.get b with
      | some o => match P.info? t with
        | some i => bif Nat.ble ro b && (Nat.beq (valCh v).len i.size && (valCh v).one) then
            match o.writeC off (valCh v) with
            | some o' => some (.tu [], H.put b o')
            | none => none
          else none
        | none => none
      | none => none
    | none => none
  | _ => none
theorem wStore_ok (r : Rel env ρ H w) (hg : GOK ng ρ) (hF : FR ρ env T a.tmps) {t : TypeId} {x y : Operand} {v : AV} {H' : Heap} (h : wStore P ng ro H T t x y = some (v, H')) {dst type pos after guard} :
    Writes env ro ρ H w ((execOp a.eval ⟨dst, .store t x y, type, pos, after, guard⟩).run P w) v H' := by
  unfold wStore at h
  split at h
  · rename_i b off hx
    split at h
    · rename_i q hy
      split at h
      · rename_i o ho
        split at h
        · rename_i i hi
          cases hb : (Nat.ble ro b && (Nat.beq (valCh q).len i.size && (valCh q).one)) with
          | false => rw [hb] at h; cases h
          | true =>
            rw [hb] at h
            simp only [cond_true] at h
            split at h
            · rename_i o' hw
              cases h
              rw [Bool.and_eq_true, Bool.and_eq_true] at hb
              have hx' := ev_ok (env := env) hg hF hx
              simp only [VR] at hx'
              obtain ⟨c, z, hc, hx'⟩ := hx'
              have hy' : VRs ρ env (valCh q).l (a.eval y).cells.toList := by rw [valCh_l]; exact avCells_ok r.one (ev_ok hg hF hy)
              obtain ⟨w', h2, h3⟩ := writeC_ok (P := P) r (ble_true hb.1) ho hc hw hy' hb.2.2
              have hsz : (a.eval y).cells.size = i.size := by have e1 := hy'.length; have e2 := beq_true hb.2.1; rw [Ch.len_l] at e1; simp at e1; omega
              refine ⟨.skip, undef, w', ρ, ?_, .inr ⟨rfl, rfl⟩, by simp [VR, VRs, undef], h3⟩
              simp [execOp, hx', Instr.storeAt, Instr.sureAddr, storeVar, run_sizeOf w hi, hsz, h2]
            · cases h
        · cases h
      · cases h
    · cases h
  · cases h
theorem run_zeroValue {t : TypeId} {v : Value} (h : (zeroValue t).run P w = .ok v w) : ∀ w', (zeroValue t).run P w' = .ok v w' := fun w' => by
  unfold zeroValue typeInfo at *
  simp only [Sem.run_bind, run_program, Result.andThen_ok] at *
  cases hi : P.info? t with
  | none => simp [hi] at h
  | some i =>
    simp only [hi, Sem.run_pure, Result.andThen_ok] at *
    cases hz : i.zero with
    | none => simp [hz] at h
    | some z => simp only [hz, Sem.run_pure] at *; cases h; rfl

theorem firstCells_zero {sz n : Nat} {ux : Value} {k : Nat} (hk : (Builtin.lenOf ux).run P w = .ok k w) (hn : n = 0) : (Builtin.firstCells sz n ux).run P w = .ok ⟨[]⟩ w := by
  subst hn
  cases ux <;> simp [Builtin.lenOf] at hk <;> try (cases hk; done)
  · rename_i s; simp [Builtin.firstCells]
  · rename_i b _ _; cases b <;> simp [Builtin.firstCells, loadCells, loadCellsFrom]
theorem flat_bytes (n : Nat) : flat [AV.i .u8 (.ofNat 0)] n = (Ch.bs n 0).l := by
  induction n with
  | zero => rfl
  | succ n ih =>
    rw [flat_succ, ih]
    simp only [Ch.l]
    have : bytesOf (n + 1) 0 = 0 :: bytesOf n 0 := by have := bytesOf_cons 0 n 0 (by decide); simpa using this
    rw [this]; rfl
theorem zpage_one {z : List AV} (h : zpage z 1 = true) : z = [.i .u8 (.ofNat 0)] := by
  cases z with
  | nil => cases h
  | cons c l =>
    simp only [zpage, Bool.and_eq_true] at h
    obtain ⟨h1, _, h3⟩ := h
    rw [isZ_ok h1]
    cases l with
    | nil => rfl
    | cons d l => simp only [zpage, Bool.and_eq_true] at h3; exact absurd h3.2.1 (by decide)
theorem wAppend_ok (r : Rel env ρ H w) (hg : GOK ng ρ) (hF : FR ρ env T a.tmps) {c : Call} {v : AV} {H' : Heap} (hb : c.callee = .builtin .append) (h : wAppend P ng ro H T c = some (v, H')) {dst type pos after guard} :
    Writes env ro ρ H w ((execOp a.eval ⟨dst, .call c, type, pos, after, guard⟩).run P w) v H' := by
  obtain ⟨callee, args, argTypes⟩ := c
  simp only at hb
  subst hb
  unfold wAppend at h
  simp only [] at h
  split at h
  · rename_i s x st xt hx ht
    obtain rfl : args = #[s, x] := Array.toList_inj.1 hx
    obtain rfl : argTypes = #[st, xt] := Array.toList_inj.1 ht
    split at h
    · rename_i sv hsv
      split at h
      · rename_i xv hxv
        split at h
        · rename_i e he
          split at h
          · rename_i z bz hz
            obtain ⟨i, zv, h1, h2, h3, h4, h5, h6⟩ := elemZ_ok (ρ := ρ) r.one w hz
            have hzs : zv.cells.size = i.size := by have := h6.length; simp at this; omega
            have hsv' := ev_ok (a := a) (env := env) hg hF hsv
            have hxv' := ev_ok (a := a) (env := env) hg hF hxv
            have hst := sliceElem_ok he
            have hz' := run_zeroValue h5
            rw [← h2, ← h3] at h
            have done : (∃ u w' ρ', (Builtin.append_ #[st, xt] type #[a.eval s, a.eval x]).run P w = .ok u w' ∧ VR ρ' env v u ∧ Step env ro ρ H w ρ' H' w') → Writes env ro ρ H w ((execOp a.eval ⟨dst, .call ⟨.builtin .append, #[s, x], #[st, xt]⟩, type, pos, after, guard⟩).run P w) v H' := fun ⟨u, w', ρ', h7, h8, h9⟩ =>
              ⟨.value u, u, w', ρ', by simp [execOp, resolve, invoke, builtin, h7], .inl rfl, h8, h9⟩
            apply done
            cases hr : rowLike P xt with
            | true =>
              rw [hr] at h
              simp only [cond_true] at h
              split at h
              · rename_i n hn
                have hn' := srcLen_ok (P := P) (w := w) hxv' hn
                exact appTo_ok (P := P) (go := fun s => (Builtin.append_ #[st, xt] type #[s, a.eval x]).run P w) (Src := fun w us => (Builtin.firstCells i.size n (a.eval x)).run P w = .ok ⟨us⟩ w) r
                  (fun c hc => srcCh_len hxv' hc hn) (fun w' r' c hc => srcCh_ok (P := P) r' hxv' hc) (fun h0 => firstCells_zero hn' h0)
                  (fun e1 e2 e3 e4 => run_append_in hst h1 hr e1 hn' e2 e3 e4) (fun e1 e2 e3 e4 e5 e6 => run_append_new hst h1 hr e1 hn' e2 e3 e4 e5 e6 hz' hzs) hsv' h
              · cases h
            | false =>
              rw [hr] at h
              simp only [cond_false] at h
              cases hq : intLike P xt with
              | false => rw [hq] at h; cases h
              | true =>
                rw [hq] at h
                simp only [cond_true] at h
                split at h
                · rename_i k n
                  cases hf : fits n i.bytes with
                  | false => rw [hf] at h; cases h
                  | true =>
                    rw [hf] at h
                    simp only [cond_true] at h
                    simp only [fits, Bool.and_eq_true] at hf
                    have f1 : (2 * n + 1000) * i.bytes ≤ 281474976710656 := ble_true hf.1
                    have f2 : n < 4294967296 := blt_iff.1 hf.2
                    have f3 : n * i.bytes ≤ 281474976710656 := Nat.le_trans (Nat.mul_le_mul_right _ (by omega)) f1
                    obtain ⟨q, hx⟩ : ∃ q, P.underlying xt = some (.int q) := by
                      unfold intLike at hq
                      split at hq
                      · exact ⟨_, by assumption⟩
                      · cases hq
                    simp only [VR] at hxv'
                    have hl : ∀ c, nulCh P e z n = some c → c.l = flat z n := fun c hc => by
                      unfold nulCh at hc
                      split at hc
                      · cases hz1 : zpage z 1 with
                        | false => rw [hz1] at hc; cases hc
                        | true =>
                          rw [hz1] at hc; cases hc
                          rw [← flat_bytes, zpage_one hz1]
                      · cases hc; rfl
                      · cases hc
                    rw [hxv']
                    refine appTo_ok (P := P) (go := fun s => (Builtin.append_ #[st, xt] type #[s, .int k (Int.ofNat n)]).run P w) (Src := fun _ us => us = flat zv.cells.toList n) r
                      (fun c hc => by rw [hl c hc, flat_length]; rw [h2]) (fun w' r' c hc => ⟨_, rfl, by rw [hl c hc]; exact h6.flat n⟩) (fun h0 => by subst h0; rfl)
                      (fun e1 e2 e3 e4 => run_append_inZ hst h1 hx e1 f2 f3 hz' hzs e2 e3 e4) (fun e1 e2 e3 e4 e5 e6 => run_append_newZ hst h1 hx e1 e2 e3 f3 e4 e5 hz' hzs e6) hsv' h
                · cases h
          · cases h
        · cases h
      · cases h
    · cases h
  · cases h

/-! copy -/
noncomputable def wCopy (P : Program) (ng ro : Nat) (H : Heap) (T : TT AV) (c : Call) : Option (AV × Heap) :=
  match c.args.toList, c.argTypes.toList with
  | [d, x], dt :: _ => match ev ng T d with
    | some dv => match ev ng T x with
      | some xv => match sliceElem P dt with
        | some e => match P.info? e with
          | some i => match srcLen dv with
            | some m => match srcLen xv with
              | some k =>
                let n := bif Nat.ble k m then k else m
                match dv with
                | .sl b off _ _ _ => bif Nat.beq n 0 then some (.i .i64 (.ofNat 0), H) else
                  match srcCh H i.size n xv with
                  | some ch => match H.t.get b with
                    | some o => bif Nat.ble ro b && ch.one then
                        match o.writeC off ch with
                        | some o' => some (.i .i64 (.ofNat n), H.put b o')
                        | none => none
                      else none
                    | none => none
                  | none => none
                | .sn => some (.i .i64 (.ofNat 0), H)
                | .se => some (.i .i64 (.ofNat 0), H)
                | .sr _ _ => some (.i .i64 (.ofNat 0), H)
                | _ => none
              | none => none
            | none => none
          | none => none
        | none => none
      | none => none
    | none => none
  | _, _ => none
theorem run_copy_of {dt : TypeId} {ts : List TypeId} {ty e : TypeId} {i : TypeInfo} {base : Option Addr} {m cap k n : Nat} {ux : Value} {us : List Value} {w' : World} (hdt : P.underlying dt = some (.slice e)) (hi : P.info? e = some i) (hk : (Builtin.lenOf ux).run P w = .ok k w)
    (hn : Nat.min k m = n) (hu : (Builtin.firstCells i.size n ux).run P w = .ok ⟨us⟩ w) (hw : match base with | none => w' = w | some b => (storeCells b us).run P w = .ok () w') :
    (Builtin.copy_ ⟨dt :: ts⟩ ty #[.slice base m cap, ux]).run P w = .ok (goInt n) w' := by
  cases base with
  | none => simp only at hw; subst hw; simp [Builtin.copy_, run_underlying hdt, hk, hn, run_sizeOf _ hi, hu]
  | some b => simp only at hw; simp [Builtin.copy_, run_underlying hdt, hk, hn, run_sizeOf _ hi, hu, hw]
theorem wCopy_ok (r : Rel env ρ H w) (hg : GOK ng ρ) (hF : FR ρ env T a.tmps) {c : Call} {v : AV} {H' : Heap} (hb : c.callee = .builtin .copy) (h : wCopy P ng ro H T c = some (v, H')) {dst type pos after guard} :
    Writes env ro ρ H w ((execOp a.eval ⟨dst, .call c, type, pos, after, guard⟩).run P w) v H' := by
  obtain ⟨callee, args, argTypes⟩ := c
  simp only at hb
  subst hb
  unfold wCopy at h
  simp only [] at h
  split at h
  · rename_i d x dt ts hx ht
    obtain rfl : args = #[d, x] := Array.toList_inj.1 hx
    obtain rfl : argTypes = ⟨dt :: ts⟩ := Array.toList_inj.1 ht
    split at h
    · rename_i dv hdv
      split at h
      · rename_i xv hxv
        split at h
        · rename_i e he
          split at h
          · rename_i i hi
            split at h
            · rename_i m hm
              split at h
              · rename_i k hk
                have hd' := ev_ok (a := a) (env := env) hg hF hdv
                have hx' := ev_ok (a := a) (env := env) hg hF hxv
                have hk' := srcLen_ok (P := P) (w := w) hx' hk
                have hn : Nat.min k m = (bif Nat.ble k m then k else m) := by
                  cases hb : Nat.ble k m with
                  | true => have := ble_true hb; simp only [cond_true]; exact Nat.min_eq_left this
                  | false =>
                    simp only [cond_false]
                    exact Nat.min_eq_right (by rcases Nat.le_total m k with h' | h'; exact h'; rw [show Nat.ble k m = true from Nat.ble_eq ▸ h'] at hb; cases hb)
                generalize (bif Nat.ble k m then k else m) = n at h hn
                have done : ∀ {u w' ρ'}, (Builtin.copy_ ⟨dt :: ts⟩ type #[a.eval d, a.eval x]).run P w = .ok u w' → VR ρ' env v u → Step env ro ρ H w ρ' H' w' → Writes env ro ρ H w ((execOp a.eval ⟨dst, .call ⟨.builtin .copy, #[d, x], ⟨dt :: ts⟩⟩, type, pos, after, guard⟩).run P w) v H' := fun {u w' ρ'} h1 h2 h3 =>
                  ⟨.value u, u, w', ρ', by simp [execOp, resolve, invoke, builtin, h1], .inl rfl, h2, h3⟩
                split at h
                · rename_i b off len cap op
                  simp only [VR] at hd'
                  obtain ⟨c, y, hc, hd'⟩ := hd'
                  cases hm
                  cases hb : Nat.beq n 0 with
                  | true =>
                    rw [hb] at h; cases h
                    have := beq_true hb
                    subst this
                    refine done (w' := w) (ρ' := ρ) (u := goInt (0 : Nat)) ?_ (by simp [VR, goInt]) (Step.refl r)
                    rw [hd']
                    exact run_copy_of (sliceElem_ok he) hi hk' hn (firstCells_zero hk' rfl) (by simp [storeCells])
                  | false =>
                    rw [hb] at h
                    simp only [cond_false] at h
                    split at h
                    · rename_i ch hch
                      split at h
                      · rename_i o ho
                        cases hq : (Nat.ble ro b && ch.one) with
                        | false => rw [hq] at h; cases h
                        | true =>
                          rw [hq] at h
                          simp only [cond_true] at h
                          split at h
                          · rename_i o' ho'
                            cases h
                            rw [Bool.and_eq_true] at hq
                            obtain ⟨xs, h2, h3⟩ := srcCh_ok (P := P) r hx' hch
                            obtain ⟨w', h4, h5⟩ := writeC_ok (P := P) r (ble_true hq.1) ho hc ho' h3 hq.2
                            refine done (w' := w') (ρ' := ρ) (u := goInt (n : Nat)) ?_ (by simp [VR, goInt]) h5
                            rw [hd']
                            exact run_copy_of (sliceElem_ok he) hi hk' hn h2 (by simpa using h4)
                          · cases h
                      · cases h
                    · cases h
                · simp only [VR] at hd'
                  cases hm
                  cases h
                  have hn0 : n = 0 := by have := Nat.min_le_right k 0; have h0 : Nat.min k 0 = min k 0 := rfl; omega
                  refine done (w' := w) (ρ' := ρ) (u := goInt (n : Nat)) ?_ (by simp [VR, goInt, hn0]) (Step.refl r)
                  rw [hd']
                  exact run_copy_of (sliceElem_ok he) hi hk' hn (firstCells_zero hk' hn0) rfl
                · simp only [VR] at hd'
                  obtain ⟨ad, c, hd'⟩ := hd'
                  cases hm
                  cases h
                  have hn0 : n = 0 := by have := Nat.min_le_right k 0; have h0 : Nat.min k 0 = min k 0 := rfl; omega
                  refine done (w' := w) (ρ' := ρ) (u := goInt (n : Nat)) ?_ (by simp [VR, goInt, hn0]) (Step.refl r)
                  rw [hd']
                  exact run_copy_of (sliceElem_ok he) hi hk' hn (firstCells_zero hk' hn0) (by simp [storeCells])
                · simp only [VR] at hd'
                  obtain ⟨_, _, _, _, hd', _⟩ := hd'
                  cases hm
                  cases h
                  have hn0 : n = 0 := by have := Nat.min_le_right k 0; have h0 : Nat.min k 0 = min k 0 := rfl; omega
                  refine done (w' := w) (ρ' := ρ) (u := goInt (n : Nat)) ?_ (by simp [VR, goInt, hn0]) (Step.refl r)
                  rw [hd']
                  exact run_copy_of (sliceElem_ok he) hi hk' hn (firstCells_zero hk' hn0) (by simp [storeCells])
                · cases h
              · cases h
            · cases h
          · cases h
        · cases h
      · cases h
    · cases h
  · cases h

/-! clear, of a row -/
noncomputable def zeroCh (o : AO) (z : List AV) (n : Nat) : Option Ch :=
  match o with
  | .bytes _ _ => match z with
    | [.i .u8 (.ofNat 0)] => some (.bs n 0)
    | _ => none
  | _ => some (.cs (flat z n))
def isMap (P : Program) (t : TypeId) : Bool :=
  match P.underlying t with
  | some (.map _ _) => true
  | _ => false
noncomputable def wClear (P : Program) (ng ro : Nat) (H : Heap) (T : TT AV) (c : Call) : Option (AV × Heap) :=
  match c.args.toList, c.argTypes.toList with
  | [x], [t] => match ev ng T x with
    | some (.sl b off n _ _) => match sliceElem P t with
      | some e => match elemZ P e with
        | some (z, _) => bif Nat.beq n 0 then some (.tu [], H) else
          match H.t.get b with
          | some o => match zeroCh o z n with
            | some ch => bif Nat.ble ro b && ch.one then
                match o.writeC off ch with
                | some o' => some (.tu [], H.put b o')
                | none => none
              else none
            | none => none
          | none => none
        | none => none
      | none => none
    | some .sn => match sliceElem P t with
      | some _ => some (.tu [], H)
      | none => none
    | some .se => match sliceElem P t with
      | some _ => some (.tu [], H)
      | none => none
    | some (.sr _ _) => match sliceElem P t with
      | some _ => some (.tu [], H)
      | none => none
    | some (.m b) => bif isMap P t && Nat.ble ro b then
        match H.t.get b with
        | some (.mp _ ck) => some (.tu [], H.put b (.mp [] ck))
        | some (.pm len _ _) => some (.tu [], H.put b (.pm len 0 .e))
        | _ => none
      else none
    | _ => none
  | _, _ => none
theorem zeroCells_flat (z : Array Value) (n : Nat) : (Builtin.zeroCells z n).toList = flat z.toList n := by
  unfold Builtin.zeroCells
  rw [range_flat]
theorem zeroCh_l {o : AO} {z : List AV} {n : Nat} {ch : Ch} (h : zeroCh o z n = some ch) : ch.l = flat z n := by
  unfold zeroCh at h
  split at h
  · split at h
    · cases h; rw [flat_bytes]
    · cases h
  · cases h; rfl
theorem wClear_ok (r : Rel env ρ H w) (hg : GOK ng ρ) (hF : FR ρ env T a.tmps) {c : Call} {v : AV} {H' : Heap} (hb : c.callee = .builtin .clear) (h : wClear P ng ro H T c = some (v, H')) {dst type pos after guard} :
    Writes env ro ρ H w ((execOp a.eval ⟨dst, .call c, type, pos, after, guard⟩).run P w) v H' := by
  obtain ⟨callee, args, argTypes⟩ := c
  simp only at hb
  subst hb
  unfold wClear at h
  simp only [] at h
  split at h
  · rename_i x t hx ht
    obtain rfl : args = #[x] := Array.toList_inj.1 hx
    obtain rfl : argTypes = #[t] := Array.toList_inj.1 ht
    have done : ∀ {u w' ρ'}, (Builtin.clear_ #[t] type #[a.eval x]).run P w = .ok u w' → VR ρ' env v u → Step env ro ρ H w ρ' H' w' → Writes env ro ρ H w ((execOp a.eval ⟨dst, .call ⟨.builtin .clear, #[x], #[t]⟩, type, pos, after, guard⟩).run P w) v H' := fun {u w' ρ'} h1 h2 h3 =>
      ⟨.value u, u, w', ρ', by simp [execOp, resolve, invoke, builtin, h1], .inl rfl, h2, h3⟩
    split at h
    · rename_i b off n cap op hxv
      have hx' := ev_ok (a := a) (env := env) hg hF hxv
      simp only [VR] at hx'
      obtain ⟨c, y, hc, hx'⟩ := hx'
      split at h
      · rename_i e he
        have hu := sliceElem_ok he
        split at h
        · rename_i z bz hz
          obtain ⟨i, zv, h1, h2, h3, h4, h5, h6⟩ := elemZ_ok (ρ := ρ) r.one w hz
          cases hb : Nat.beq n 0 with
          | true =>
            rw [hb] at h; cases h
            have := beq_true hb
            subst this
            refine done (w' := w) (ρ' := ρ) (u := .tuple #[]) ?_ (by simp [VR, VRs]) (Step.refl r)
            rw [hx']
            simp [Builtin.clear_, run_underlying hu]
          | false =>
            rw [hb] at h
            simp only [cond_false] at h
            split at h
            · rename_i o ho
              split at h
              · rename_i ch hch
                cases hq : (Nat.ble ro b && ch.one) with
                | false => rw [hq] at h; cases h
                | true =>
                  rw [hq] at h
                  simp only [cond_true] at h
                  split at h
                  · rename_i o' ho'
                    cases h
                    rw [Bool.and_eq_true] at hq
                    have h7 : VRs ρ env ch.l (flat zv.cells.toList n) := by rw [zeroCh_l hch]; exact h6.flat n
                    obtain ⟨w', h8, h9⟩ := writeC_ok (P := P) r (ble_true hq.1) ho hc ho' h7 hq.2
                    refine done (w' := w') (ρ' := ρ) (u := .tuple #[]) ?_ (by simp [VR, VRs]) h9
                    rw [hx']
                    have hn0 := beq_false hb
                    cases n with
                    | zero => exact absurd rfl hn0
                    | succ n =>
                      simp [Builtin.clear_, run_underlying hu, h5, zeroCells_flat, h8]
                  · cases h
              · cases h
            · cases h
        · cases h
      · cases h
    · rename_i hxv
      have hx' := ev_ok (a := a) (env := env) hg hF hxv
      simp only [VR] at hx'
      split at h
      · rename_i e he
        cases h
        refine done (w' := w) (ρ' := ρ) (u := .tuple #[]) ?_ (by simp [VR, VRs]) (Step.refl r)
        rw [hx']
        simp [Builtin.clear_, run_underlying (sliceElem_ok he)]
      · cases h
    · rename_i hxv
      have hx' := ev_ok (a := a) (env := env) hg hF hxv
      simp only [VR] at hx'
      obtain ⟨ad, c, hx'⟩ := hx'
      split at h
      · rename_i e he
        cases h
        refine done (w' := w) (ρ' := ρ) (u := .tuple #[]) ?_ (by simp [VR, VRs]) (Step.refl r)
        rw [hx']
        simp [Builtin.clear_, run_underlying (sliceElem_ok he)]
      · cases h
    · rename_i sb so hxv
      have hx' := ev_ok (a := a) (env := env) hg hF hxv
      simp only [VR] at hx'
      obtain ⟨_, _, _, _, hx', _⟩ := hx'
      split at h
      · rename_i e he
        cases h
        refine done (w' := w) (ρ' := ρ) (u := .tuple #[]) ?_ (by simp [VR, VRs]) (Step.refl r)
        rw [hx']
        simp [Builtin.clear_, run_underlying (sliceElem_ok he)]
      · cases h
    · rename_i b hxv
      have hx' := ev_ok (a := a) (env := env) hg hF hxv
      simp only [VR] at hx'
      obtain ⟨c, y, hc, hx'⟩ := hx'
      cases hq : (isMap P t && Nat.ble ro b) with
      | false => rw [hq] at h; cases h
      | true =>
        rw [hq] at h
        simp only [cond_true] at h
        rw [Bool.and_eq_true] at hq
        have hro := ble_true hq.2
        obtain ⟨kt, et, hu⟩ : ∃ k e, P.underlying t = some (.map k e) := by
          have := hq.1
          unfold isMap at this
          split at this
          · exact ⟨_, _, by assumption⟩
          · cases this
        have hset : ∀ ob0, w.heap[c]? = some ob0 → (∀ x y z, ob0 ≠ .cells x y z) → ∀ ob', (setObj c ob').run P w = .ok () { w with heap := w.heap.setIfInBounds c ob' } := fun ob0 h0 hn ob' => by
          cases ob0 <;> simp [setObj, Sem.run, h0]
          exact absurd rfl (hn _ _ _)
        split at h
        · rename_i es ck ho
          cases h
          obtain ⟨ob, h1, l, rfl, h2⟩ := r.obj _ _ _ _ ho hc
          have hgo : (getObj c).run P w = .ok (.map ⟨l⟩ ck) w := by simp [getObj, Sem.run, h1]
          refine done (ρ' := ρ) (u := .tuple #[]) ?_ (by simp [VR, VRs]) (Step.write r hro ho hc (ob := .map ⟨[]⟩ ck) ⟨[], rfl, rfl⟩)
          rw [hx']
          simp [Builtin.clear_, run_underlying hu, hgo, hset _ h1 (by simp)]
        · rename_i len n0 tt ho
          cases h
          obtain ⟨ob, h1, l, ck, rfl, h2⟩ := r.obj _ _ _ _ ho hc
          have hgo : (getObj c).run P w = .ok (.map ⟨l⟩ ck) w := by simp [getObj, Sem.run, h1]
          refine done (ρ' := ρ) (u := .tuple #[]) ?_ (by simp [VR, VRs]) (Step.write r hro ho hc (ob := .map ⟨[]⟩ ck) ⟨[], ck, rfl, by rw [pget_nil]; exact PMR.nil _ _⟩)
          rw [hx']
          simp [Builtin.clear_, run_underlying hu, hgo, hset _ h1 (by simp)]
        · cases h
    · cases h
  · cases h
end
end Go.Ai
/- Maps are written; all writers together. -/
namespace Go.Ai
section
variable {P : Program} {env : Nat → Value} {ρ : Ren} {H : Heap} {w : World} {ng ro : Nat} {T : TT AV} {a : Act}

theorem ERs.snoc {k v : AV} {b : Nat} {e : MapEntry} (hk : VR ρ env k e.key) (hv : VR ρ env v e.val) (hb : e.born = b) : ∀ {es : List (AV × AV × Nat)} {l : List MapEntry}, ERs ρ env es l → ERs ρ env (es ++ [(k, v, b)]) (l ++ [e])
  | [], l, h => by cases h; exact ⟨e, [], rfl, hk, hv, hb, rfl⟩
  | (k', v', b') :: es, l, h => by
    obtain ⟨x, us, rfl, h1, h2, h3, h4⟩ := h
    exact ⟨x, us ++ [e], rfl, h1, h2, h3, ERs.snoc hk hv hb h4⟩
theorem ERs.set {k v : AV} {b : Nat} {e : MapEntry} (hk : VR ρ env k e.key) (hv : VR ρ env v e.val) (hb : e.born = b) : ∀ {es : List (AV × AV × Nat)} {l : List MapEntry} (i : Nat), ERs ρ env es l → ERs ρ env (es.set i (k, v, b)) (l.set i e)
  | [], l, i, h => by cases h; exact rfl
  | (k', v', b') :: es, l, 0, h => by
    obtain ⟨x, us, rfl, h1, h2, h3, h4⟩ := h
    exact ⟨e, us, rfl, hk, hv, hb, h4⟩
  | (k', v', b') :: es, l, i + 1, h => by
    obtain ⟨x, us, rfl, h1, h2, h3, h4⟩ := h
    exact ⟨x, us.set i e, rfl, h1, h2, h3, ERs.set hk hv hb i h4⟩
theorem ERs.erase : ∀ {es : List (AV × AV × Nat)} {l : List MapEntry} (i : Nat), ERs ρ env es l → ERs ρ env (es.eraseIdx i) (l.eraseIdx i)
  | [], l, i, h => by cases h; exact rfl
  | (k', v', b') :: es, l, 0, h => by
    obtain ⟨x, us, rfl, h1, h2, h3, h4⟩ := h
    simpa using h4
  | (k', v', b') :: es, l, i + 1, h => by
    obtain ⟨x, us, rfl, h1, h2, h3, h4⟩ := h
    simp only [List.eraseIdx_cons_succ]
    exact ⟨x, _, rfl, h1, h2, h3, ERs.erase i h4⟩
theorem ERs.get : ∀ {es : List (AV × AV × Nat)} {l : List MapEntry} {i : Nat} {k v : AV} {b : Nat}, ERs ρ env es l → es[i]? = some (k, v, b) → ∃ e, l[i]? = some e ∧ VR ρ env k e.key ∧ VR ρ env v e.val ∧ e.born = b
  | [], l, i, _, _, _, h, hi => by simp at hi
  | (k', v', b') :: es, l, 0, _, _, _, h, hi => by
    obtain ⟨x, us, rfl, h1, h2, h3, h4⟩ := h
    simp at hi
    obtain ⟨rfl, rfl, rfl⟩ := hi
    exact ⟨x, by simp, h1, h2, h3⟩
  | (k', v', b') :: es, l, i + 1, _, _, _, h, hi => by
    obtain ⟨x, us, rfl, h1, h2, h3, h4⟩ := h
    simp at hi
    simpa using ERs.get h4 hi

theorem same_key {x y : AV} {u k : Value} (hx : VR ρ env x u) (hy : VR ρ env y k) (h : keyEq x y = some true) : u = k ∧ Instr.sameBits 10000 k u = true := by
  unfold keyEq at h
  split at h
  · rename_i k1 a1 k2 b1
    simp only [VR] at hx hy; subst hx hy
    cases hb : decide (k1 = k2) with
    | false => rw [hb] at h; cases h
    | true =>
      have := of_decide_eq_true hb; subst this
      rw [hb] at h
      simp only [cond_true, Option.some.injEq, ieq_eq, beq_iff_eq] at h
      subst h
      exact ⟨rfl, by simp [Instr.sameBits]⟩
  · rename_i l a l' b'
    simp only [VR] at hx hy; subst hx hy
    simp only [Option.some.injEq] at h
    have e : strV l a = strV l' b' := by
      rw [← strEq_ok, beq_iff_eq, ByteArray.toList_eq, ByteArray.toList_eq] at h
      exact ByteArray.ext (Array.toList_inj.1 h)
    rw [e]
    refine ⟨rfl, ?_⟩
    have : ∀ s : ByteArray, Instr.sameBits 10000 (.string s) (.string s) = true := fun s => by
      simp only [Instr.sameBits]
      show ByteArray.beq s s = true
      unfold ByteArray.beq
      simp
    exact this _
  · cases h
theorem run_keyThatStays {u k : Value} (h : Instr.sameBits 10000 k u = true) : (Instr.keyThatStays k u).run P w = .ok u w := by simp [Instr.keyThatStays, h]
theorem modify_list (l : List MapEntry) (i : Nat) (f : MapEntry → MapEntry) (e : MapEntry) (h : l[i]? = some e) : (⟨l⟩ : Array MapEntry).modify i f = ⟨l.set i (f e)⟩ := by
  apply Array.ext_getElem?
  intro j
  rw [Array.getElem?_modify]
  simp only [List.getElem?_toArray, List.getElem?_set]
  by_cases hj : i = j
  · subst hj
    have := (List.getElem?_eq_some_iff.1 h).1
    have hv := (List.getElem?_eq_some_iff.1 h).2
    simp [this, hv]
  · simp [hj]

def mapTypes (P : Program) (t : TypeId) : Option (TypeId × TypeId) :=
  match P.underlying t with
  | some (.map k e) => some (k, e)
  | _ => none
theorem mapTypes_ok {t k e : TypeId} (h : mapTypes P t = some (k, e)) : P.underlying t = some (.map k e) := by
  unfold mapTypes at h
  split at h
  · cases h; assumption
  · cases h
noncomputable def wMap (P : Program) (ng ro : Nat) (H : Heap) (T : TT AV) (t : TypeId) (m k x : Operand) : Option (AV × Heap) :=
  match mapTypes P t with
  | some (kt, _) => match ev ng T m with
    | some (.m b) => match ev ng T k with
      | some kv => match ev ng T x with
        | some xv => match mapKey P kt kv with
          | some _ => match H.t.get b with
            | some (.mp es ck) => match findK kv es 0 with
              | some (some (i, _, bo)) => bif Nat.ble ro b then some (.tu [], H.put b (.mp (es.set i (kv, xv, bo)) ck)) else none
              | some none => bif Nat.ble ro b then some (.tu [], H.put b (.mp (es ++ [(kv, xv, ck)]) (Nat.succ ck))) else none
              | none => none
            | some (.pm len n0 tt) => match kv with
              | .i .i64 (.ofNat j) => match xv with
                | .by_ n y => bif Nat.ble ro b && Nat.beq n len then some (.tu [], H.put b (.pm len n0 (tt.set y j))) else none
                | _ => none
              | _ => none
            | _ => none
          | none => none
        | none => none
      | none => none
    | _ => none
  | none => none
theorem wMap_ok (r : Rel env ρ H w) (hg : GOK ng ρ) (hF : FR ρ env T a.tmps) {t : TypeId} {m k x : Operand} {v : AV} {H' : Heap} (h : wMap P ng ro H T t m k x = some (v, H')) :
    ∃ w', (Instr.mapUpdate t (a.eval m) (a.eval k) (a.eval x)).run P w = .ok () w' ∧ v = .tu [] ∧ Step env ro ρ H w ρ H' w' := by
  unfold wMap at h
  split at h
  · rename_i kt et hmt
    have hu := mapTypes_ok hmt
    split at h
    · rename_i b hm
      split at h
      · rename_i kv hk
        split at h
        · rename_i xv hx
          split at h
          · rename_i d hd
            split at h
            · rename_i es ck ho
              have hm' := ev_ok (a := a) (env := env) hg hF hm
              have hk' := ev_ok (a := a) (env := env) hg hF hk
              have hx' := ev_ok (a := a) (env := env) hg hF hx
              simp only [VR] at hm'
              obtain ⟨c, y, hc, hm'⟩ := hm'
              obtain ⟨ob, h1, l, rfl, h2⟩ := r.obj _ _ _ _ ho hc
              have hck := checkKey_ok (P := P) (w := w) (e := false) (u := a.eval k) hd
              have hlt := (Array.getElem?_eq_some_iff.1 h1).1
              have hset : ∀ ob' : Obj, (setObj c ob').run P w = .ok () { w with heap := w.heap.setIfInBounds c ob' } := fun ob' => by simp [setObj, Sem.run, h1]
              split at h
              · rename_i i v' bo hf
                cases hq : Nat.ble ro b with
                | false => rw [hq] at h; cases h
                | true =>
                  rw [hq] at h; cases h
                  obtain ⟨y', e, h3, h4, h5, h6⟩ := findKey_ok (P := P) (w := w) hd hk' h2 hf
                  obtain ⟨e', h7, h8, h9, h10⟩ := h2.get h5
                  obtain ⟨h11, h12⟩ := same_key hk' h8 h6
                  refine ⟨_, ?_, rfl, Step.write r (ble_true hq) ho hc (ob := .map ⟨l.set i { e' with key := a.eval k, val := a.eval x }⟩ ck) ⟨_, rfl, ERs.set (e := { e' with key := a.eval k, val := a.eval x }) hk' hx' h10 i h2⟩⟩
                  have hget : (⟨l⟩ : Array MapEntry)[i]? = some e' := by simpa using h7
                  rw [hm']
                  simp only [Instr.mapUpdate, getObj, Sem.run_bind, Sem.run, run_underlying hu, Result.andThen_ok, h1, hck, h3, hget, Option.map_some, Option.getD_some, run_keyThatStays h12, hset]
                  rw [modify_list l i _ e' h7]
              · rename_i hf
                cases hq : Nat.ble ro b with
                | false => rw [hq] at h; cases h
                | true =>
                  rw [hq] at h; cases h
                  have h3 : (Instr.findKey kt (a.eval k) l).run P w = .ok none w := findKey_ok (P := P) (w := w) hd hk' h2 hf
                  refine ⟨_, ?_, rfl, Step.write r (ble_true hq) ho hc (ob := .map ⟨l ++ [{ key := a.eval k, val := a.eval x, born := ck }]⟩ (ck + 1)) ⟨_, rfl, ERs.snoc (e := { key := a.eval k, val := a.eval x, born := ck }) hk' hx' rfl h2⟩⟩
                  rw [hm']
                  simp only [Instr.mapUpdate, getObj, Sem.run_bind, Sem.run, run_underlying hu, Result.andThen_ok, h1, hck, h3, hset]
                  have : (⟨l⟩ : Array MapEntry).push { key := a.eval k, val := a.eval x, born := ck } = ⟨l ++ [{ key := a.eval k, val := a.eval x, born := ck }]⟩ := by simp
                  rw [this]
              · cases h
            · rename_i len n0 tt ho
              split at h
              · rename_i j
                split at h
                · rename_i n y
                  cases hq : (Nat.ble ro b && Nat.beq n len) with
                  | false => rw [hq] at h; cases h
                  | true =>
                    rw [hq] at h; cases h
                    rw [Bool.and_eq_true] at hq
                    have hnl := beq_true hq.2
                    subst hnl
                    have hm' := ev_ok (a := a) (env := env) hg hF hm
                    have hk' := ev_ok (a := a) (env := env) hg hF hk
                    have hx' := ev_ok (a := a) (env := env) hg hF hx
                    simp only [VR] at hm' hk' hx'
                    obtain ⟨c, z, hc, hm'⟩ := hm'
                    obtain ⟨ob, h1, l, ck, rfl, h2⟩ := r.obj _ _ _ _ ho hc
                    have hck := checkKey_ok (P := P) (w := w) (e := false) (u := a.eval k) hd
                    have hset : ∀ ob' : Obj, (setObj c ob').run P w = .ok () { w with heap := w.heap.setIfInBounds c ob' } := fun ob' => by simp [setObj, Sem.run, h1]
                    have hu1 : P.underlying kt = some d := (mapKey_ok hd).1
                    have hfk : ∀ {r}, Instr.findNow (.int .i64) (.int .i64 (j : Int)) l 0 = some r → (Instr.findKey kt (a.eval k) l).run P w = .ok r w := fun {r} h => by
                      obtain ⟨q, rfl⟩ := (mapKey_ok hd).2.2.1 _ _ rfl
                      have : Instr.findNow (.int q) (.int .i64 (j : Int)) l 0 = some r := by rw [← h]; exact findNow_kind l 0
                      simp only [Instr.findKey, Sem.run_bind, run_underlying hu1, Result.andThen_ok]
                      rw [hk', show Value.int .i64 (Int.ofNat j) = Value.int .i64 (j : Int) from rfl, this]
                      rfl
                    have hpv : a.eval x = pageV n y := hx'
                    rcases h2.find j 0 with ⟨y', i, e, hf, h4, h5, h6, h7⟩ | ⟨hf, h7⟩
                    · rw [Nat.zero_add] at h7
                      have hsb : Instr.sameBits 10000 e.key (a.eval k) = true := by rw [h5, hk']; simp [Instr.sameBits]
                      refine ⟨_, ?_, rfl, Step.write r (ble_true hq.1) ho hc (ob := .map ⟨l.set i { e with key := a.eval k, val := a.eval x }⟩ ck) ⟨_, ck, rfl, ?_⟩⟩
                      · have hget : (⟨l⟩ : Array MapEntry)[i]? = some e := by simpa using h4
                        rw [hm']
                        simp only [Instr.mapUpdate, getObj, Sem.run_bind, Sem.run, run_underlying hu, Result.andThen_ok, h1, hck, hfk h7, hget, Option.map_some, Option.getD_some, run_keyThatStays hsb, hset]
                        rw [modify_list l i _ e h4]
                      · rw [pget_set]
                        exact h2.set h4 h5 hk' hpv rfl
                    · refine ⟨_, ?_, rfl, Step.write r (ble_true hq.1) ho hc (ob := .map ⟨l ++ [{ key := a.eval k, val := a.eval x, born := ck }]⟩ (ck + 1)) ⟨_, ck + 1, rfl, ?_⟩⟩
                      · rw [hm']
                        simp only [Instr.mapUpdate, getObj, Sem.run_bind, Sem.run, run_underlying hu, Result.andThen_ok, h1, hck, hfk h7, hset]
                        have : (⟨l⟩ : Array MapEntry).push { key := a.eval k, val := a.eval x, born := ck } = ⟨l ++ [{ key := a.eval k, val := a.eval x, born := ck }]⟩ := by simp
                        rw [this]
                      · rw [pget_set]
                        exact h2.snoc hf hk' hpv rfl
                · cases h
              · cases h
            · cases h
          · cases h
        · cases h
      · cases h
    · cases h
  · cases h

noncomputable def wDelete (P : Program) (ng ro : Nat) (H : Heap) (T : TT AV) (c : Call) : Option (AV × Heap) :=
  match c.args.toList, c.argTypes.toList with
  | [m, k], t :: _ => match mapTypes P t with
    | some (kt, _) => match ev ng T m with
      | some (.m b) => match ev ng T k with
        | some kv => match mapKey P kt kv with
          | some _ => match H.t.get b with
            | some (.mp es ck) => match findK kv es 0 with
              | some (some (i, _, _)) => bif Nat.ble ro b then some (.tu [], H.put b (.mp (es.eraseIdx i) ck)) else none
              | some none => bif Nat.ble ro b then some (.tu [], H.put b (.mp es ck)) else none
              | none => none
            | _ => none
          | none => none
        | none => none
      | _ => none
    | none => none
  | _, _ => none
theorem wDelete_ok (r : Rel env ρ H w) (hg : GOK ng ρ) (hF : FR ρ env T a.tmps) {c : Call} {v : AV} {H' : Heap} (hb : c.callee = .builtin .delete) (h : wDelete P ng ro H T c = some (v, H')) {dst type pos after guard} :
    Writes env ro ρ H w ((execOp a.eval ⟨dst, .call c, type, pos, after, guard⟩).run P w) v H' := by
  obtain ⟨callee, args, argTypes⟩ := c
  simp only at hb
  subst hb
  unfold wDelete at h
  simp only [] at h
  split at h
  · rename_i m k t ts hx ht
    obtain rfl : args = #[m, k] := Array.toList_inj.1 hx
    obtain rfl : argTypes = ⟨t :: ts⟩ := Array.toList_inj.1 ht
    have done : ∀ {u w' ρ'}, (Builtin.delete_ ⟨t :: ts⟩ type #[a.eval m, a.eval k]).run P w = .ok u w' → VR ρ' env v u → Step env ro ρ H w ρ' H' w' → Writes env ro ρ H w ((execOp a.eval ⟨dst, .call ⟨.builtin .delete, #[m, k], ⟨t :: ts⟩⟩, type, pos, after, guard⟩).run P w) v H' := fun {u w' ρ'} h1 h2 h3 =>
      ⟨.value u, u, w', ρ', by simp [execOp, resolve, invoke, builtin, h1], .inl rfl, h2, h3⟩
    split at h
    · rename_i kt et hmt
      have hu := mapTypes_ok hmt
      split at h
      · rename_i b hm
        split at h
        · rename_i kv hk
          split at h
          · rename_i d hd
            split at h
            · rename_i es ck ho
              have hm' := ev_ok (a := a) (env := env) hg hF hm
              have hk' := ev_ok (a := a) (env := env) hg hF hk
              simp only [VR] at hm'
              obtain ⟨c, y, hc, hm'⟩ := hm'
              obtain ⟨ob, h1, l, rfl, h2⟩ := r.obj _ _ _ _ ho hc
              have hck := fun e => checkKey_ok (P := P) (w := w) (e := e) (u := a.eval k) hd
              have hset : ∀ ob' : Obj, (setObj c ob').run P w = .ok () { w with heap := w.heap.setIfInBounds c ob' } := fun ob' => by simp [setObj, Sem.run, h1]
              have hgo : (getObj c).run P w = .ok (.map ⟨l⟩ ck) w := by simp [getObj, Sem.run, h1]
              split at h
              · rename_i i v' bo hf
                cases hq : Nat.ble ro b with
                | false => rw [hq] at h; cases h
                | true =>
                  rw [hq] at h; cases h
                  obtain ⟨y', e, h3, h4, h5, h6⟩ := findKey_ok (P := P) (w := w) hd hk' h2 hf
                  refine done (ρ' := ρ) (u := .tuple #[]) ?_ (by simp [VR, VRs]) (Step.write r (ble_true hq) ho hc (ob := .map ⟨l.eraseIdx i⟩ ck) ⟨_, rfl, h2.erase i⟩)
                  rw [hm']
                  have hl : i < l.length := by
                    obtain ⟨e', h7, _⟩ := h2.get h5
                    exact (List.getElem?_eq_some_iff.1 h7).1
                  simp [Builtin.delete_, run_underlying hu, hgo, hck, h3, hset, Array.eraseIdxIfInBounds, hl]
              · rename_i hf
                cases hq : Nat.ble ro b with
                | false => rw [hq] at h; cases h
                | true =>
                  rw [hq] at h; cases h
                  have h3 : (Instr.findKey kt (a.eval k) l).run P w = .ok none w := findKey_ok (P := P) (w := w) hd hk' h2 hf
                  refine done (ρ' := ρ) (u := .tuple #[]) ?_ (by simp [VR, VRs]) (Step.write r (ble_true hq) ho hc (ob := .map ⟨l⟩ ck) ⟨_, rfl, h2⟩)
                  rw [hm']
                  simp [Builtin.delete_, run_underlying hu, hgo, hck, h3, hset]
              · cases h
            · cases h
          · cases h
        · cases h
      · cases h
    · cases h
  · cases h

/-- a row of bytes that shares what a constant text holds: marked behind its end -/
noncomputable def wConv (P : Program) (ng ro : Nat) (H : Heap) (T : TT AV) (s d : TypeId) (x : Operand) : Option (AV × Heap) :=
  match sliceElem P s with
  | some e => match isU8 P e with
    | some true => bif Nat.beq s d then
        match ev ng T x with
        | some (.sl b off len cap op) => match H.t.get b with
          | some o => match o.sz? with
            | some (sz, _) => bif Nat.ble ro b && Nat.beq sz 1 then some (.sl b off len cap op, H.put b o) else none
            | none => none
          | none => none
        | _ => none
      else none
    | _ => none
  | none => none
theorem isU8_ok {e : TypeId} (h : isU8 P e = some true) : P.underlying e = some (.int .u8) := by
  obtain ⟨d, hd, hd2⟩ := Option.map_eq_some_iff.1 h
  have hd3 : d = .int .u8 := by
    cases d <;> try (simp at hd2; done)
    rename_i k; cases k <;> simp at hd2 ⊢
  rw [hd, hd3]
theorem wConv_ok (r : Rel env ρ H w) (hg : GOK ng ρ) (hF : FR ρ env T a.tmps) {s d : TypeId} {x : Operand} {v : AV} {H' : Heap} (h : wConv P ng ro H T s d x = some (v, H')) {dst type pos after guard} :
    Writes env ro ρ H w ((execOp a.eval ⟨dst, .convert s d x, type, pos, after, guard⟩).run P w) v H' := by
  unfold wConv at h
  split at h
  · rename_i e he
    have hu := sliceElem_ok he
    split at h
    · rename_i hu8
      have h8 := isU8_ok hu8
      cases hb : Nat.beq s d with
      | false => rw [hb] at h; cases h
      | true =>
        rw [hb] at h
        simp only [cond_true] at h
        have := beq_true hb
        subst this
        split at h
        · rename_i b off len cap op hx
          split at h
          · rename_i o ho
            split at h
            · rename_i sz n hq
              cases hro2 : Nat.ble ro b && Nat.beq sz 1 with
              | false => rw [hro2] at h; cases h
              | true =>
                rw [hro2] at h; cases h
                rw [Bool.and_eq_true] at hro2
                have hro := hro2.1
                have hs1 := beq_true hro2.2
                subst hs1
                have hx' := ev_ok (a := a) (env := env) hg hF hx
                have hx0 := hx'
                simp only [VR] at hx'
                obtain ⟨c, y, hc, hx'⟩ := hx'
                obtain ⟨ob, h1, h2⟩ := r.obj _ _ _ _ ho hc
                obtain ⟨cs, h3, _⟩ := AO.sz?_view hq
                obtain ⟨pre, l, rest, t, fz, rfl, h4, h5, hpre, h6⟩ := h2.row h3
                have hlt := (Array.getElem?_eq_some_iff.1 h1).1
                have hfz : w.freeze { block := c, off := (⟨pre ++ (l ++ rest)⟩ : Array Value).size } 1 = { w with heap := w.heap.setIfInBounds c (.cells ⟨pre ++ (l ++ rest)⟩ t (if fz.1 == fz.2 then ((⟨pre ++ (l ++ rest)⟩ : Array Value).size, (⟨pre ++ (l ++ rest)⟩ : Array Value).size + 1) else (min fz.1 (⟨pre ++ (l ++ rest)⟩ : Array Value).size, max fz.2 ((⟨pre ++ (l ++ rest)⟩ : Array Value).size + 1)))) } := by
                  unfold World.freeze
                  simp only [Nat.one_ne_zero, if_false]
                  congr 1
                  apply Array.ext_getElem?
                  intro j
                  rw [Array.getElem?_modify]
                  by_cases hj : c = j
                  · subst hj
                    have hget := (Array.getElem?_eq_some_iff.1 h1).2
                    simp [hget, hlt]
                  · rw [Array.getElem?_setIfInBounds_ne hj]; simp [hj]
                refine ⟨.value (a.eval x), a.eval x, _, ρ, ?_, .inl rfl, hx0, Step.write r (ble_true hro) ho hc (ob := .cells ⟨pre ++ (l ++ rest)⟩ t (if fz.1 == fz.2 then ((⟨pre ++ (l ++ rest)⟩ : Array Value).size, (⟨pre ++ (l ++ rest)⟩ : Array Value).size + 1) else (min fz.1 (⟨pre ++ (l ++ rest)⟩ : Array Value).size, max fz.2 ((⟨pre ++ (l ++ rest)⟩ : Array Value).size + 1)))) (ObjR.of_row h3 ⟨pre, l, rest, t, _, rfl, h4, h5, hpre, ?_⟩)⟩
                · rw [hx']
                  have hs : w.shape? c = some (t, (⟨pre ++ (l ++ rest)⟩ : Array Value).size) := by simp [World.shape?, h1]
                  simp only [execOp, convert, Sem.run_bind, run_underlying hu, run_underlying h8, Result.andThen_ok, hx', markStringish, run_shape, hs, run_freeze, beq_self_eq_true, Sem.run_pure]
                  rw [hfz]
                · unfold loose at h6 ⊢
                  have hsz : (⟨pre ++ (l ++ rest)⟩ : Array Value).size = pre.length + (l.length + rest.length) := by simp
                  rw [hsz]
                  by_cases he : fz.1 = fz.2
                  · simp [he]
                  · have h7 : pre.length + (l.length + rest.length) ≤ fz.1 := (h6.resolve_left he).1
                    have : (fz.1 == fz.2) = false := by simp [he]
                    rw [this]
                    simp only [Bool.false_eq_true, if_false]
                    right
                    refine ⟨?_, trivial⟩
                    show pre.length + (l.length + rest.length) ≤ min fz.1 (pre.length + (l.length + rest.length))
                    omega
            · cases h
          · cases h
        · cases h
    · cases h
  · cases h
/-- a conversion from a row to a row: as a reader -/
noncomputable def cvW (P : Program) (ng ro : Nat) (H : Heap) (T : TT AV) (o : Oper) : Option AV :=
  match o.op with
  | .convert s d x => match wConv P ng ro H T s d x with
    | some (v, _) => some v
    | none => none
  | _ => none
theorem wConv_heap {s d : TypeId} {x : Operand} {v : AV} {H' : Heap} (h : wConv P ng ro H T s d x = some (v, H')) : ∃ b o, H.t.get b = some o ∧ H' = H.put b o := by
  unfold wConv at h
  split at h
  · split at h
    · rename_i e he hu
      cases hb : Nat.beq s d with
      | false => rw [hb] at h; cases h
      | true =>
        rw [hb] at h
        simp only [cond_true] at h
        split at h
        · rename_i b off len cap op hx
          split at h
          · rename_i o ho
            split at h
            · rename_i sz n hz
              cases hr : Nat.ble ro b && Nat.beq sz 1 with
              | false => rw [hr] at h; cases h
              | true => rw [hr] at h; cases h; exact ⟨b, o, ho, rfl⟩
            · cases h
          · cases h
        · cases h
    · cases h
  · cases h
theorem Step.same {ρ0 ρ' : Ren} {H0 H1 H2 : Heap} {w0 w' : World} (hg : ∀ a, H2.t.get a = H1.t.get a) (hn : H2.nx = H1.nx) (s : Step env ro ρ0 H0 w0 ρ' H1 w') : Step env ro ρ0 H0 w0 ρ' H2 w' where
  rel := ⟨fun a o c x h1 h2 => s.rel.obj a o c x (by rw [← hg]; exact h1) h2, fun a a' o o' c x x' h1 h2 => s.rel.inj a a' o o' c x x' (by rw [← hg]; exact h1) (by rw [← hg]; exact h2), fun a ha => ⟨(s.rel.new a (by rw [← hn]; exact ha)).1, by rw [hg]; exact (s.rel.new a (by rw [← hn]; exact ha)).2⟩, s.rel.one⟩
  old := s.old
  nx := by rw [hn]; exact s.nx
  img := fun lo c hl ⟨a, o, x, h1, h2, h3⟩ => s.img lo c hl ⟨a, o, x, h1, by rw [← hg]; exact h2, h3⟩
  keep := s.keep
  size := s.size
  os := s.os
  tape := s.tape
  output := s.output
theorem cvW_ok (r : Rel env ρ H w) (hg : GOK ng ρ) (hF : FR ρ env T a.tmps) {o : Oper} {v : AV} (h : cvW P ng ro H T o = some v) :
    Writes env ro ρ H w ((execOp a.eval o).run P w) v H := by
  obtain ⟨dst, op, type, pos, after, guard⟩ := o
  cases op <;> simp only [cvW] at h <;> try (cases h; done)
  rename_i s d x
  split at h
  · rename_i v' H' hc
    cases h
    obtain ⟨n, u, w', ρ', h1, h2, h3, h4⟩ := wConv_ok (dst := dst) (type := type) (pos := pos) (after := after) (guard := guard) r hg hF hc
    obtain ⟨b, ob, hb, rfl⟩ := wConv_heap hc
    refine ⟨n, u, w', ρ', h1, h2, h3, Step.same (H1 := H.put b ob) (fun a => ?_) rfl h4⟩
    show _ = (H.t.set ob b).get a
    rw [TT.get_set]
    by_cases e : a = b
    · subst e; rw [if_pos rfl]; exact hb
    · rw [if_neg e]
  · cases h
noncomputable def wEntry (P : Program) (ng ro : Nat) (H : Heap) (T : TT AV) (t : TypeId) (m k : Operand) : Option (AV × Heap) :=
  match mapTypes P t with
  | some (kt, et) => match ev ng T m with
    | some (.m b) => match ev ng T k with
      | some kv => match mapKey P kt kv with
        | some _ => match H.t.get b with
          | some (.mp es ck) => match findK kv es 0 with
            | some (some (i, v, bo)) => bif Nat.ble ro b then some (.tu [v, .i .i64 (.ofNat bo)], H.put b (.mp (es.set i (kv, v, bo)) ck)) else none
            | some none => match zeroV P et with
              | some z => bif Nat.ble ro b then some (.tu [z, .i .i64 (.ofNat ck)], H.put b (.mp (es ++ [(kv, z, ck)]) (Nat.succ ck))) else none
              | none => none
            | none => none
          | _ => none
        | none => none
      | none => none
    | _ => none
  | none => none
theorem wEntry_ok (r : Rel env ρ H w) (hg : GOK ng ρ) (hF : FR ρ env T a.tmps) {t : TypeId} {m k : Operand} {v : AV} {H' : Heap} (h : wEntry P ng ro H T t m k = some (v, H')) :
    ∃ u w', (Instr.mapEntry t (a.eval m) (a.eval k)).run P w = .ok u w' ∧ VR ρ env v u ∧ Step env ro ρ H w ρ H' w' := by
  unfold wEntry at h
  split at h
  · rename_i kt et hmt
    have hu := mapTypes_ok hmt
    split at h
    · rename_i b hm
      split at h
      · rename_i kv hk
        split at h
        · rename_i d hd
          split at h
          · rename_i es ck ho
            have hm' := ev_ok (a := a) (env := env) hg hF hm
            have hk' := ev_ok (a := a) (env := env) hg hF hk
            simp only [VR] at hm'
            obtain ⟨c, y, hc, hm'⟩ := hm'
            obtain ⟨ob, h1, l, rfl, h2⟩ := r.obj _ _ _ _ ho hc
            have hck := checkKey_ok (P := P) (w := w) (e := false) (u := a.eval k) hd
            have hset : ∀ ob' : Obj, (setObj c ob').run P w = .ok () { w with heap := w.heap.setIfInBounds c ob' } := fun ob' => by simp [setObj, Sem.run, h1]
            split at h
            · rename_i i v' bo hf
              cases hq : Nat.ble ro b with
              | false => rw [hq] at h; cases h
              | true =>
                rw [hq] at h; cases h
                obtain ⟨y', e, h3, h4, h5, h6⟩ := findKey_ok (P := P) (w := w) hd hk' h2 hf
                obtain ⟨e', h7, h8, h9, h10⟩ := h2.get h5
                obtain ⟨h11, h12⟩ := same_key hk' h8 h6
                refine ⟨.tuple #[y', goInt e'.born], _, ?_, ?_, Step.write r (ble_true hq) ho hc (ob := .map ⟨l.set i { e' with key := a.eval k }⟩ ck) ⟨_, rfl, ERs.set (e := { e' with key := a.eval k }) hk' h9 h10 i h2⟩⟩
                · have hget : (⟨l⟩ : Array MapEntry)[i]? = some e' := by simpa using h7
                  rw [hm']
                  simp only [Instr.mapEntry, getObj, Sem.run_bind, Sem.run, run_underlying hu, Result.andThen_ok, h1, hck, h3, hget, Option.map_some, Option.getD_some, run_keyThatStays h12, hset, Sem.run_pure]
                  rw [modify_list l i _ e' h7]
                · rw [h10]
                  simp [VR, VRs, goInt, h4]
            · rename_i hf
              split at h
              · rename_i z hz
                cases hq : Nat.ble ro b with
                | false => rw [hq] at h; cases h
                | true =>
                  rw [hq] at h; cases h
                  have h3 : (Instr.findKey kt (a.eval k) l).run P w = .ok none w := findKey_ok (P := P) (w := w) hd hk' h2 hf
                  obtain ⟨zv, h4, h5⟩ := zeroV_ok (ρ := ρ) (env := env) w hz
                  refine ⟨.tuple #[zv, goInt ck], _, ?_, ?_, Step.write r (ble_true hq) ho hc (ob := .map ⟨l ++ [{ key := a.eval k, val := zv, born := ck }]⟩ (ck + 1)) ⟨_, rfl, ERs.snoc (e := { key := a.eval k, val := zv, born := ck }) hk' h5 rfl h2⟩⟩
                  · rw [hm']
                    simp only [Instr.mapEntry, getObj, Sem.run_bind, Sem.run, run_underlying hu, Result.andThen_ok, h1, hck, h3, h4, hset, Sem.run_pure]
                    have : (⟨l⟩ : Array MapEntry).push { key := a.eval k, val := zv, born := ck } = ⟨l ++ [{ key := a.eval k, val := zv, born := ck }]⟩ := by simp
                    rw [this]
                  · simp [VR, VRs, goInt, h5]
              · cases h
            · cases h
          · cases h
        · cases h
      · cases h
    · cases h
  · cases h
def bornAt (s : Nat) : List (AV × AV × Nat) → Nat → Option (Nat × AV)
  | [], _ => none
  | (k, _, b) :: es, n => bif Nat.beq b s then some (n, k) else bornAt s es (Nat.succ n)
theorem bornAt_ok {s : Nat} : ∀ {es : List (AV × AV × Nat)} {l : List MapEntry} {n i : Nat} {k : AV}, ERs ρ env es l → bornAt s es n = some (i, k) →
    n ≤ i ∧ l.findIdx? (fun e => (e.born : Int) == (s : Int)) = some (i - n) ∧ ∃ e, l[i - n]? = some e ∧ VR ρ env k e.key ∧ e.born = s
  | [], l, n, i, k, he, h => by cases h
  | (k', v, b) :: es, l, n, i, k, he, h => by
    obtain ⟨e, us, rfl, h1, h2, h3, h4⟩ := he
    simp only [bornAt] at h
    cases hq : Nat.beq b s with
    | true =>
      rw [hq] at h; cases h
      have := beq_true hq; subst this
      refine ⟨Nat.le_refl _, ?_, e, by simp, h1, h3⟩
      simp [List.findIdx?_cons, h3]
    | false =>
      rw [hq] at h
      obtain ⟨h5, h6, e', h7, h8, h9⟩ := bornAt_ok h4 h
      have hne : ¬ ((e.born : Int) = (s : Int)) := by
        intro hh
        have : b = s := by omega
        subst this
        simp at hq
      have hi : i - n = (i - Nat.succ n) + 1 := by omega
      refine ⟨by omega, ?_, e', by rw [hi, List.getElem?_cons_succ]; exact h7, h8, h9⟩
      simp [List.findIdx?_cons, hne, h6, hi]
noncomputable def wEStore (ng ro : Nat) (H : Heap) (T : TT AV) (m s x : Operand) : Option (AV × Heap) :=
  match ev ng T m with
  | some (.m b) => match ev ng T s with
    | some (.i _ (.ofNat bo)) => match ev ng T x with
      | some xv => match H.t.get b with
        | some (.mp es ck) => match bornAt bo es 0 with
          | some (i, k) => bif Nat.ble ro b then some (.tu [], H.put b (.mp (es.set i (k, xv, bo)) ck)) else none
          | none => none
        | _ => none
      | none => none
    | _ => none
  | _ => none
theorem wEStore_ok (r : Rel env ρ H w) (hg : GOK ng ρ) (hF : FR ρ env T a.tmps) {t : TypeId} {m s x : Operand} {v : AV} {H' : Heap} (h : wEStore ng ro H T m s x = some (v, H')) :
    ∃ w', (Instr.entryStore t (a.eval m) (a.eval s) (a.eval x)).run P w = .ok () w' ∧ v = .tu [] ∧ Step env ro ρ H w ρ H' w' := by
  unfold wEStore at h
  split at h
  · rename_i b hm
    split at h
    · rename_i q bo hs
      split at h
      · rename_i xv hx
        split at h
        · rename_i es ck ho
          have hm' := ev_ok (a := a) (env := env) hg hF hm
          have hs' := ev_ok (a := a) (env := env) hg hF hs
          have hx' := ev_ok (a := a) (env := env) hg hF hx
          simp only [VR] at hm' hs'
          obtain ⟨c, y, hc, hm'⟩ := hm'
          obtain ⟨ob, h1, l, rfl, h2⟩ := r.obj _ _ _ _ ho hc
          have hset : ∀ ob' : Obj, (setObj c ob').run P w = .ok () { w with heap := w.heap.setIfInBounds c ob' } := fun ob' => by simp [setObj, Sem.run, h1]
          split at h
          · rename_i i k hf
            cases hq : Nat.ble ro b with
            | false => rw [hq] at h; cases h
            | true =>
              rw [hq] at h; cases h
              obtain ⟨_, h3, e, h4, h5, h6⟩ := bornAt_ok h2 hf
              simp only [Nat.sub_zero] at h3 h4
              refine ⟨_, ?_, rfl, Step.write r (ble_true hq) ho hc (ob := .map ⟨l.set i { e with val := a.eval x }⟩ ck) ⟨_, rfl, ERs.set (e := { e with val := a.eval x }) h5 hx' h6 i h2⟩⟩
              rw [hm', hs']
              have h7 : (⟨l⟩ : Array MapEntry).findIdx? (fun e => (e.born : Int) == Int.ofNat bo) = some i := by
                rw [List.findIdx?_toArray]; exact h3
              simp only [Instr.entryStore, getObj, Sem.run_bind, Sem.run, Result.andThen_ok, h1, asInt, asIntOf, Sem.run_pure, h7, hset]
              rw [modify_list l i _ e h4]
          · cases h
        · cases h
      · cases h
    · cases h
  · cases h
noncomputable def wCall (P : Program) (ng ro : Nat) (H : Heap) (T : TT AV) (c : Call) : Option (AV × Heap) :=
  match c.callee with
  | .builtin .append => wAppend P ng ro H T c
  | .builtin .copy => wCopy P ng ro H T c
  | .builtin .clear => wClear P ng ro H T c
  | .builtin .delete => wDelete P ng ro H T c
  | _ => none
/-- a range over a string of plain letters goes on -/
noncomputable def wNext (ng ro : Nat) (H : Heap) (T : TT AV) (x : Operand) (isS : Bool) : Option (AV × Heap) :=
  bif isS then match ev ng T x with
  | some (.p b 0) => match H.t.get b with
    | some (.sit len y pos) => bif Nat.ble ro b then
        bif Nat.blt pos len then
          bif Nat.blt (byteAt y pos) 128 then some (.tu [.b true, .i .i64 (.ofNat pos), .i .i32 (.ofNat (byteAt y pos))], H.put b (.sit len y (Nat.succ pos))) else none
        else some (.tu [.b false], H)
      else none
    | _ => none
  | _ => none
  else none
theorem wNext_ok (r : Rel env ρ H w) (hg : GOK ng ρ) (hF : FR ρ env T a.tmps) {x : Operand} {isS : Bool} {v : AV} {H' : Heap} (h : wNext ng ro H T x isS = some (v, H')) {dst type pos after guard} :
    Writes env ro ρ H w ((execOp a.eval ⟨dst, .next x isS, type, pos, after, guard⟩).run P w) v H' := by
  unfold wNext at h
  cases isS with
  | false => cases h
  | true =>
    simp only [cond_true] at h
    split at h
    · rename_i b hx
      have hx' := ev_ok (a := a) (env := env) hg hF hx
      simp only [VR] at hx'
      obtain ⟨c, y, hc, hx'⟩ := hx'
      split at h
      · rename_i len z p ho
        obtain ⟨ob, h1, h2⟩ := r.obj _ _ _ _ ho hc
        obtain ⟨h2', hy0⟩ : ob = .stringIter (strV len z) p ∧ y.2 = 0 := h2
        subst h2'
        rw [hy0] at hx'
        have hset : ∀ ob' : Obj, (setObj c ob').run P w = .ok () { w with heap := w.heap.setIfInBounds c ob' } := fun ob' => by simp [setObj, Sem.run, h1]
        cases hro : Nat.ble ro b with
        | false => rw [hro] at h; cases h
        | true =>
          rw [hro] at h
          simp only [cond_true] at h
          cases hp : Nat.blt p len with
          | true =>
            rw [hp] at h
            simp only [cond_true] at h
            cases ha : Nat.blt (byteAt z p) 128 with
            | false => rw [ha] at h; cases h
            | true =>
              rw [ha] at h; cases h
              have hp' := blt_iff.1 hp
              have ha' := blt_iff.1 ha
              have hlt : p < (strV len z).size := by rw [strV_size]; exact hp'
              have hby : ((strV len z)[p]'hlt).toNat = byteAt z p := by
                have h5 : (strV len z)[p]'hlt = UInt8.ofNat (byteAt z p) := by
                  have h6 : (strV len z).data.toList[p]? = some (UInt8.ofNat (byteAt z p)) := by rw [strV_data, List.getElem?_map, bytesOf_get, if_pos hp']; rfl
                  have h7 := (List.getElem?_eq_some_iff.1 h6).2
                  rw [← h7]; rfl
                rw [h5, UInt8.toNat_ofNat_of_lt' (byteAt_lt z p)]
              have hd := decode_ascii (strV len z) p hlt (by rw [hby]; exact ha')
              rw [hby] at hd
              refine ⟨.value (.tuple #[.bool true, goInt p, .int .i32 (byteAt z p : Nat)]), _, { w with heap := w.heap.setIfInBounds c (.stringIter (strV len z) (p + 1)) }, ρ, ?_, .inl rfl, ?_, Step.write r (ble_true hro) ho hc (ob := .stringIter (strV len z) (p + 1)) (o' := .sit len z (p + 1)) ⟨rfl, hy0⟩⟩
              · simp only [execOp, hx', Instr.next, getObj, Sem.run_bind, Sem.run, h1, Result.andThen_ok, if_pos hlt, hd, hset, Sem.run_pure]
              · simp only [VR, VRs]
                exact ⟨_, rfl, _, _, rfl, rfl, _, _, rfl, rfl, _, _, rfl, rfl, rfl⟩
          | false =>
            rw [hp] at h; cases h
            have hp' : ¬ p < (strV len z).size := by rw [strV_size]; exact fun e => by rw [blt_iff.2 e] at hp; cases hp
            refine ⟨.value (.tuple #[.bool false]), _, w, ρ, ?_, .inl rfl, ?_, Step.refl r⟩
            · simp only [execOp, hx', Instr.next, getObj, Sem.run_bind, Sem.run, h1, Result.andThen_ok, if_neg hp', Sem.run_pure]
            · simp only [VR, VRs]
              exact ⟨_, rfl, _, _, rfl, rfl, rfl⟩
      · cases h
    · cases h
noncomputable def awr (P : Program) (ng ro : Nat) (H : Heap) (T : TT AV) (o : Oper) : Option (AV × Heap) :=
  match o.op with
  | .store t x y => wStore P ng ro H T t x y
  | .call c => wCall P ng ro H T c
  | .mapUpdate t m k x => wMap P ng ro H T t m k x
  | .insert t m k x => wMap P ng ro H T t m k x
  | .mapEntry t m k => wEntry P ng ro H T t m k
  | .entryStore _ m k x => wEStore ng ro H T m k x
  | .convert s d x => wConv P ng ro H T s d x
  | .next x isS => wNext ng ro H T x isS
  | _ => none
theorem awr_ok (r : Rel env ρ H w) (hg : GOK ng ρ) (hF : FR ρ env T a.tmps) {o : Oper} {v : AV} {H' : Heap} (h : awr P ng ro H T o = some (v, H')) :
    Writes env ro ρ H w ((execOp a.eval o).run P w) v H' := by
  obtain ⟨dst, op, type, pos, after, guard⟩ := o
  unfold awr at h
  cases op <;> simp only [] at h <;> try (cases h; done)
  case store t x y => exact wStore_ok r hg hF h
  case convert s d x => exact wConv_ok r hg hF h
  case next x isS => exact wNext_ok r hg hF h
  case call c =>
    unfold wCall at h
    split at h
    · exact wAppend_ok r hg hF (by assumption) h
    · exact wCopy_ok r hg hF (by assumption) h
    · exact wClear_ok r hg hF (by assumption) h
    · exact wDelete_ok r hg hF (by assumption) h
    · cases h
  case mapUpdate t m k x =>
    obtain ⟨w', h1, rfl, h2⟩ := wMap_ok (P := P) r hg hF h
    exact ⟨.skip, undef, w', ρ, by simp [execOp, h1], .inr ⟨rfl, rfl⟩, by simp [VR, VRs, undef], h2⟩
  case mapEntry t m k =>
    obtain ⟨u, w', h1, h2, h3⟩ := wEntry_ok (P := P) r hg hF h
    exact ⟨.value u, u, w', ρ, by simp [execOp, h1], .inl rfl, h2, h3⟩
  case entryStore t m k x =>
    obtain ⟨w', h1, rfl, h2⟩ := wEStore_ok (P := P) (t := t) r hg hF h
    exact ⟨.skip, undef, w', ρ, by simp [execOp, h1], .inr ⟨rfl, rfl⟩, by simp [VR, VRs, undef], h2⟩
  case insert t m k x =>
    obtain ⟨w', h1, rfl, h2⟩ := wMap_ok (P := P) r hg hF h
    exact ⟨.skip, undef, w', ρ, by simp [execOp, h1], .inr ⟨rfl, rfl⟩, by simp [VR, VRs, undef], h2⟩
end
end Go.Ai
