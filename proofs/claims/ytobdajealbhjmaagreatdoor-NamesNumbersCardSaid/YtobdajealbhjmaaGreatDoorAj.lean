/- slices.Insert where there is room. -/
import Derived.Test.YtobdajealbhjmaaGreatDoorAi
import Derived.Shelf.Spec.SlicesInsert
import Derived.Test.YtobdajealbhjmaaGreatDoorS9
import Derived.Test.YtobdajealbhjmaaGreatDoorSC
namespace Go.Ai
open Go.Proofs Go.Proofs.YtobdajealbhjmaaGreatDoor Go.RowKit
theorem run_loadCells_row {P : Program} {w : World} {c off n : Nat} {l : List Value} {t : TypeId} {fz : Nat × Nat} (h : w.heap[c]? = some (.cells ⟨l⟩ t fz)) (hn : off + n ≤ l.length) : (loadCells ⟨c, off, none⟩ n).run P w = .ok ⟨(l.drop off).take n⟩ w := by
  have hl : ((l.drop off).take n).length = n := by simp; omega
  have := run_loadCells_list (P := P) w ⟨c, off, none⟩ ((l.drop off).take n) (fun j v hj => by
    rw [add_none]
    rw [List.getElem?_take] at hj
    split at hj
    · rw [List.getElem?_drop] at hj
      simp [World.cell?, h, hj]
    · cases hj)
  rwa [hl] at this
theorem set_twice (h : Array Obj) (b : Nat) (x y : Obj) : (h.setIfInBounds b x).setIfInBounds b y = h.setIfInBounds b y := by
  apply Array.ext_getElem?
  intro j
  by_cases e : b = j
  · subst e; simp [Array.getElem?_setIfInBounds]
  · rw [Array.getElem?_setIfInBounds_ne e, Array.getElem?_setIfInBounds_ne e, Array.getElem?_setIfInBounds_ne e]
theorem info_cell : ∃ i, Tryz.prog.info? 105 = some i ∧ i.size = 3 := by
  have h : (Tryz.prog.info? 105).map (·.size) = some 3 := by kernel_rfl
  obtain ⟨i, h1, h2⟩ := Option.map_eq_some_iff.1 h
  exact ⟨i, h1, h2⟩
set_option maxRecDepth 100000 in
set_option maxHeartbeats 1000000 in
theorem ins_room {b n i c vb voff vc : Nat} {cs rest vl : List Value} {t tv : TypeId} {fz fv : Nat × Nat} {w : World} (hb : w.heap[b]? = some (.cells ⟨cs ++ rest⟩ t fz)) (hcs : cs.length = n * 3) (hroom : n + 1 ≤ c) (hrest : rest.length = (c - n) * 3) (hz : fz.1 = fz.2)
    (hv : w.heap[vb]? = some (.cells ⟨vl⟩ tv fv)) (hfv : fv.1 = fv.2) (hvl : voff + 3 ≤ vl.length) (hne : vb ≠ b) (hi : i < n) (hbig : n < 4611686018427387904) (h1 : ∀ v ∈ cs, v.oneCell' = true) (h2 : ∀ v ∈ (vl.drop voff).take 3, v.oneCell' = true) :
    Calls Tryz.prog 152 #[.slice (some ⟨b, 0, none⟩) n c, .int .i64 (i : Int), .slice (some ⟨vb, voff, none⟩) 1 vc] w fun e w' =>
      e = .returned (.slice (some ⟨b, 0, none⟩) (n + 1) c) ∧ ∃ d, w' = { w with heap := w.heap.setIfInBounds b (.cells ⟨spl (spl (cs ++ rest) ((i + 1) * 3) (cs.drop (i * 3))) (i * 3) ((vl.drop voff).take 3)⟩ t fz), drawn := d } := by
  have mixed : Tryz.prog.follows .mixedOrders = true := by kernel_rfl
  obtain ⟨ic, hic, his⟩ := info_cell
  have hsz : ∀ W : World, (sizeOf 105).run Tryz.prog W = .ok 3 W := fun W => by rw [run_sizeOf W hic, his]
  have hz2 : ((i : Int) == (n : Int)) = false := by simp; omega
  have hw0 : IntKind.i64.wrap ((n : Int) + 1) = (n : Int) + 1 := by rw [IntKind.wrap_i64]; omega
  have hw1 : IntKind.i64.wrap ((i : Int) + 1) = (i : Int) + 1 := by rw [IntKind.wrap_i64]; omega
  have hin : i ≤ n := by omega
  have hg1 : ¬ ((c : Int) < (n : Int) + 1) := by omega
  have hg2 : (n : Int) + 1 ≤ (c : Int) := by omega
  have hg3 : ((n : Int) + 1).toNat = n + 1 := by omega
  have hg4 : ((i : Int) + 1).toNat = i + 1 := by omega
  have hb0 : (0 : Int) ≤ (i : Int) + 1 := by omega
  have hb1 : (0 : Int) ≤ (n : Int) + 1 := by omega
  have hb2 : ¬ (c = i + 1) := by omega
  have hb3 : (i : Int) + 1 ≤ (n : Int) + 1 := by omega
  have hb4 : ¬ (c = i) := by omega
  have hb5 : (i : Int) ≤ (n : Int) + 1 := by omega
  have hov : ∀ lb cb, (callFunc 166 #[.slice (some ⟨vb, voff, none⟩) 1 vc, .slice (some ⟨b, (i + 1) * 3, none⟩) lb cb]).run Tryz.prog w = .ok (.value (.bool false)) w := fun lb cb => by
    rw [run_callFunc_extern Tryz.func166 (by kernel_rfl) (by kernel_rfl) (by kernel_rfl) (e := Extern.SlicesOverlaps.overlaps #[90, 90] #[4]) (by kernel_rfl),
      Lib.run_overlaps_apart w 90 4 105 Tryz.underlying90 3 hsz ⟨vb, voff, none⟩ ⟨b, (i + 1) * 3, none⟩ 1 vc lb cb hne tv t vl.length (cs ++ rest).length (by simp [World.shape?, hv]) (by simp [World.shape?, hb]) (by rw [List.length_append]; omega) (by simp [World.frozen?, hv, hfv]) (by simp [World.frozen?, hv, hfv])]
    rfl
  have hcat : ((cs ++ rest).drop (i * 3)).take ((n - i) * 3) = cs.drop (i * 3) := by
    rw [List.drop_append_of_le_length (by omega), List.take_append_of_le_length (by rw [List.length_drop]; omega), List.take_of_length_le (by rw [List.length_drop]; omega)]
  have hlen : (cs ++ rest).length = c * 3 := by rw [List.length_append]; omega
  have hcp1 : ∀ ty dc sc, (Builtin.copy_ #[90, 90] ty #[.slice (some ⟨b, (i + 1) * 3, none⟩) (n - i) dc, .slice (some ⟨b, i * 3, none⟩) (n + 1 - i) sc]).run Tryz.prog w.drew = .ok (goInt (n - i : Nat)) { w.drew with heap := w.heap.setIfInBounds b (.cells ⟨spl (cs ++ rest) ((i + 1) * 3) (cs.drop (i * 3))⟩ t fz) } := fun ty dc sc => by
    refine run_copy_of (ts := [90]) Tryz.underlying90 hic (k := n + 1 - i) (us := cs.drop (i * 3)) (by simp [Builtin.lenOf]) (by simp only [Nat.min_def]; split <;> omega) ?_ ?_
    · rw [his]
      show (loadCells ⟨b, i * 3, none⟩ ((n - i) * 3)).run Tryz.prog w.drew = _
      rw [run_loadCells_row (w := w.drew) (t := t) (fz := fz) hb (by rw [hlen]; omega), hcat]
    · have := run_storeCells_row (P := Tryz.prog) (sz := 3) b ((i + 1) * 3) t fz (cs.drop (i * 3)) 0 (cs ++ rest) w.drew hb (by rw [hlen, List.length_drop]; omega) (.inl hz) (fun v hv => h1 v (List.mem_of_mem_drop hv))
      exact this
  obtain ⟨W1, hW1⟩ : ∃ W1, W1 = { w.drew with heap := w.heap.setIfInBounds b (.cells ⟨spl (cs ++ rest) ((i + 1) * 3) (cs.drop (i * 3))⟩ t fz) } := ⟨_, rfl⟩
  have hbl := (Array.getElem?_eq_some_iff.1 hb).1
  have hb' : W1.heap[b]? = some (.cells ⟨spl (cs ++ rest) ((i + 1) * 3) (cs.drop (i * 3))⟩ t fz) := by rw [hW1]; simp [hbl]
  have hv' : W1.heap[vb]? = some (.cells ⟨vl⟩ tv fv) := by
    rw [hW1]
    show (w.heap.setIfInBounds b _)[vb]? = _
    rw [Array.getElem?_setIfInBounds_ne (Ne.symm hne)]
    exact hv
  have hlen2 : (spl (cs ++ rest) ((i + 1) * 3) (cs.drop (i * 3))).length = c * 3 := by rw [spl_length _ _ _ (by rw [hlen, List.length_drop]; omega), hlen]
  have hvt : ((vl.drop voff).take 3).length = 3 := by rw [List.length_take, List.length_drop]; omega
  have hcp2 : ∀ ty dc, (Builtin.copy_ #[90, 90] ty #[.slice (some ⟨b, i * 3, none⟩) (n + 1 - i) dc, .slice (some ⟨vb, voff, none⟩) 1 vc]).run Tryz.prog W1 = .ok (goInt (1 : Nat)) { W1 with heap := W1.heap.setIfInBounds b (.cells ⟨spl (spl (cs ++ rest) ((i + 1) * 3) (cs.drop (i * 3))) (i * 3) ((vl.drop voff).take 3)⟩ t fz) } := fun ty dc => by
    refine run_copy_of (ts := [90]) Tryz.underlying90 hic (k := 1) (us := (vl.drop voff).take 3) (by simp [Builtin.lenOf]) (by simp only [Nat.min_def]; split <;> omega) ?_ ?_
    · rw [his]
      show (loadCells ⟨vb, voff, none⟩ (1 * 3)).run Tryz.prog W1 = _
      rw [run_loadCells_row hv' (by omega)]
    · have := run_storeCells_row (P := Tryz.prog) (sz := 3) b (i * 3) t fz ((vl.drop voff).take 3) 0 _ W1 hb' (by rw [hlen2, hvt]; omega) (.inl hz) h2
      exact this
  have hend : { W1 with heap := W1.heap.setIfInBounds b (.cells ⟨spl (spl (cs ++ rest) ((i + 1) * 3) (cs.drop (i * 3))) (i * 3) ((vl.drop voff).take 3)⟩ t fz) } = { w with heap := w.heap.setIfInBounds b (.cells ⟨spl (spl (cs ++ rest) ((i + 1) * 3) (cs.drop (i * 3))) (i * 3) ((vl.drop voff).take 3)⟩ t fz), drawn := W1.drawn } := by
    rw [hW1]
    simp only [World.drew, set_twice]
  rw [← hW1] at hcp1
  have He := hide hend
  clear hW1 hend hb hv hb' hv' hlen hlen2 hcat
  go_enter Tryz.func152, Tryz.ntmps152
  go_wp2_with (simp only [hov])
  clear hov
  go_region_law_o (refine step_copy_runI rfl _ _ 90 90 rfl _ _ (by simp [Act.eval, Act.put]) (by simp [Act.eval, Act.put]) (hcp1 _ _ _) ?_)
  go_wp2_with (at_builtin; refine wpList_copy_runI _ rfl _ _ 90 90 rfl _ _ rfl rfl (hcp2 _ _) ?_)
  go_ret
  exact ⟨rfl, _, He.out⟩
mutual
/-- the blocks that a value names have lesser numbers -/
def idsLt (n : Nat) : AV → Bool
  | .p a _ => Nat.blt a n
  | .sl a _ _ _ _ => Nat.blt a n
  | .m a => Nat.blt a n
  | .sr a _ => Nat.blt a n
  | .fn f l k => notYield f && (idsLts n l && idsLts n k)
  | .ifc _ v => idsLt n v
  | .ag l => idsLts n l
  | .tu l => idsLts n l
  | _ => true
def idsLts (n : Nat) : List AV → Bool
  | [] => true
  | v :: l => idsLt n v && idsLts n l
end
mutual
theorem VR_lt {ρ ρ' : Ren} {env : Nat → Value} {n : Nat} (h : ∀ a, a < n → ρ' a = ρ a) : ∀ (v : AV) (u : Value), idsLt n v = true → VR ρ' env v u → VR ρ env v u
  | .p a o, u, hi, e => by
    simp only [VR] at e ⊢
    obtain ⟨c, x, h1, h2⟩ := e
    exact ⟨c, x, by rw [← h a (blt_iff.1 hi)]; exact h1, h2⟩
  | .sl a o l c p, u, hi, e => by
    simp only [VR] at e ⊢
    obtain ⟨d, x, h1, h2⟩ := e
    exact ⟨d, x, by rw [← h a (blt_iff.1 hi)]; exact h1, h2⟩
  | .m a, u, hi, e => by
    simp only [VR] at e ⊢
    obtain ⟨d, x, h1, h2⟩ := e
    exact ⟨d, x, by rw [← h a (blt_iff.1 hi)]; exact h1, h2⟩
  | .sr a o, u, hi, e => by
    simp only [VR] at e ⊢
    obtain ⟨d, x, z, h1, h2⟩ := e
    exact ⟨d, x, z, by rw [← h a (blt_iff.1 hi)]; exact h1, h2⟩
  | .fn f l k, u, hi, e => by
    simp only [idsLt, Bool.and_eq_true] at hi
    simp only [VR] at e ⊢
    obtain ⟨g, l', k', h1, h2, h3, h4⟩ := e
    have := FnR.of_plain hi.1 h1
    subst this
    exact ⟨_, l', k', FnR.plain hi.1, h2, VRs_lt h l l' hi.2.1 h3, VRs_lt h k k' hi.2.2 h4⟩
  | .ifc t v, u, hi, e => by
    simp only [VR] at e ⊢
    obtain ⟨y, h1, h2⟩ := e
    exact ⟨y, h1, VR_lt h v y hi h2⟩
  | .ag l, u, hi, e => by
    simp only [VR] at e ⊢
    obtain ⟨y, h1, h2⟩ := e
    exact ⟨y, h1, VRs_lt h l y hi h2⟩
  | .tu l, u, hi, e => by
    simp only [VR] at e ⊢
    obtain ⟨y, h1, h2⟩ := e
    exact ⟨y, h1, VRs_lt h l y hi h2⟩
  | .b _, u, _, e | .i _ _, u, _, e | .s _ _, u, _, e | .pn, u, _, e | .sn, u, _, e | .mn, u, _, e | .fz, u, _, e | .inil, u, _, e | .se, u, _, e | .q _, u, _, e | .by_ _ _, u, _, e => by
    simp only [VR] at e ⊢; exact e
theorem VRs_lt {ρ ρ' : Ren} {env : Nat → Value} {n : Nat} (h : ∀ a, a < n → ρ' a = ρ a) : ∀ (v : List AV) (u : List Value), idsLts n v = true → VRs ρ' env v u → VRs ρ env v u
  | [], u, _, e => by simp only [VRs] at e ⊢; exact e
  | v :: l, u, hi, e => by
    simp only [idsLts, Bool.and_eq_true] at hi
    simp only [VRs] at e ⊢
    obtain ⟨x, us, h1, h2, h3⟩ := e
    exact ⟨x, us, h1, VR_lt h v x hi.1 h2, VRs_lt h l us hi.2 h3⟩
end
/-- what was run over two blocks alone: one goes on under a new number -/
theorem Step.lift {env : Nat → Value} {ro : Nat} {ρ ρA : Ren} {H Hs HA : Heap} {w w' : World} (r : Rel env ρ H w) (s : Step env ro ρ Hs w ρA HA w') (hs : ∀ a o, Hs.t.get a = some o → H.t.get a = some o) (hn : Hs.nx = H.nx) {b vb k ck sz sv : Nat} {xk : Nat × Nat} {cs vs : List AV}
    (hdom : ∀ a o, Hs.t.get a = some o → a = b ∨ a = vb) (hb : ∃ o, HA.t.get b = some o) (hvb : HA.t.get vb = some (.cells sv vs)) (hvs : Hs.t.get vb = some (.cells sv vs)) (hvi : idsLts H.nx vs = true)
    (hk : HA.t.get k = some (.cells sz cs)) (hkn : H.nx ≤ k) (hck : ρA k = some (ck, xk)) (hci : idsLts H.nx cs = true) : Step env ro ρ H w (ρ.put H.nx (ck, xk)) ((H.del b).push (.cells sz cs)) w' := by
  have hold : ∀ a, a < H.nx → ρA a = ρ a := fun a ha => s.old a (by rw [hn]; exact ha)
  have hnew := r.new H.nx (Nat.le_refl _)
  have hlt : ∀ a o, H.t.get a = some o → a < H.nx := fun a o h => by
    rcases Nat.lt_or_ge a H.nx with h1 | h1
    · exact h1
    · rw [(r.new a h1).2] at h; cases h
  have hcs : w.heap.size ≤ ck := by
    rcases s.img 0 ck (Nat.zero_le _) ⟨k, _, xk, Nat.zero_le _, hk, hck⟩ with ⟨a, o, x, _, h1, h2⟩ | h1
    · exfalso
      have ha := hlt a o (hs a o h1)
      have h3 : ρA a = some (ck, x) := by rw [hold a ha]; exact h2
      have h4 : ∃ o, HA.t.get a = some o := by
        rcases hdom a o h1 with rfl | rfl
        · exact hb
        · exact ⟨_, hvb⟩
      obtain ⟨o4, h4⟩ := h4
      have := s.rel.inj a k _ _ ck x xk h4 hk h3 hck
      omega
    · exact h1
  have hget : ∀ d o1, d ≠ H.nx → ((H.del b).push (.cells sz cs)).t.get d = some o1 → d ≠ b ∧ H.t.get d = some o1 := fun d o1 hd h => by
    have h' : ((H.del b).t.set (.cells sz cs) H.nx).get d = some o1 := h
    rw [TT.get_set_ne _ _ hd] at h'
    exact del_get h'
  have hself : ∀ o1, ((H.del b).push (.cells sz cs)).t.get H.nx = some o1 → o1 = .cells sz cs := fun o1 h => by
    have h' : ((H.del b).t.set (.cells sz cs) H.nx).get H.nx = some o1 := h
    rw [TT.get_set_eq] at h'
    exact (Option.some.inj h').symm
  have hle := Ren.le_put (ck, xk) hnew.1
  have hwl : ∀ a o c x, H.t.get a = some o → ρ a = some (c, x) → c < w.heap.size := fun a o c x h1 h2 => by
    obtain ⟨ob, h3, _⟩ := r.obj a o c x h1 h2
    exact (Array.getElem?_eq_some_iff.1 h3).1
  refine ⟨⟨fun a o c x h1 h2 => ?_, fun a a' o o' c x x' h1 h2 h3 h4 => ?_, fun a ha => ?_, r.one⟩, fun a ha => Ren.put_ne _ _ (by omega), Nat.le_succ _, fun lo c hl ⟨a, o, x, h0, h1, h2⟩ => ?_, fun c hc hni => s.keep c hc fun ⟨a, o, x, h0, h1, h2⟩ => hni ⟨a, o, x, h0, hs a o h1, h2⟩, s.size, s.os, s.tape, s.output⟩
  · by_cases e : a = H.nx
    · subst e
      rw [Ren.put_self] at h2; cases h2
      have := hself o h1
      subst this
      obtain ⟨ob, h3, pre, l, rest, t, fz, h4, h5, h6⟩ := s.rel.obj k _ ck xk hk hck
      exact ⟨ob, h3, pre, l, rest, t, fz, h4, (VRs_lt hold _ _ hci h5).mono hle, h6⟩
    · rw [Ren.put_ne _ _ e] at h2
      obtain ⟨hab, h3⟩ := hget a o e h1
      by_cases ev : a = vb
      · subst ev
        have h4 := hs a _ hvs
        rw [h3] at h4; cases h4
        obtain ⟨ob, h5, pre, l, rest, t, fz, h6, h7, h8⟩ := s.rel.obj a _ c x hvb (by rw [hold a (hlt a _ h3)]; exact h2)
        exact ⟨ob, h5, pre, l, rest, t, fz, h6, (VRs_lt hold _ _ hvi h7).mono hle, h8⟩
      · obtain ⟨ob, h4, h5⟩ := r.obj a o c x h3 h2
        refine ⟨ob, (s.keep c (hwl a o c x h3 h2) ?_).trans h4, h5.mono hle⟩
        rintro ⟨a', o', x', _, h6, h7⟩
        have := r.inj a a' _ _ c x x' h3 (hs a' o' h6) h2 h7
        subst this
        rcases hdom a o' h6 with e1 | e1
        · exact hab e1
        · exact ev e1
  · by_cases e : a = H.nx <;> by_cases e' : a' = H.nx
    · rw [e, e']
    · exfalso
      subst e
      rw [Ren.put_self] at h3; cases h3
      rw [Ren.put_ne _ _ e'] at h4
      have := hwl _ _ _ _ (hget a' o' e' h2).2 h4
      omega
    · exfalso
      subst e'
      rw [Ren.put_self] at h4; cases h4
      rw [Ren.put_ne _ _ e] at h3
      have := hwl _ _ _ _ (hget a o e h1).2 h3
      omega
    · rw [Ren.put_ne _ _ e] at h3
      rw [Ren.put_ne _ _ e'] at h4
      exact r.inj a a' _ _ c x x' (hget a o e h1).2 (hget a' o' e' h2).2 h3 h4
  · have ha' : H.nx + 1 ≤ a := ha
    rw [Ren.put_ne _ _ (by omega)]
    refine ⟨(r.new a (by omega)).1, ?_⟩
    cases hc : ((H.del b).push (.cells sz cs)).t.get a with
    | none => rfl
    | some o =>
      have := (hget a o (by omega) hc).2
      rw [(r.new a (by omega)).2] at this; cases this
  · by_cases e : a = H.nx
    · subst e
      rw [Ren.put_self] at h2; cases h2
      exact .inr hcs
    · rw [Ren.put_ne _ _ e] at h2
      exact .inl ⟨a, o, x, h0, (hget a o e h1).2, h2⟩
/-! the summary: the row has its elements alone, and nobody knows how much room stands behind them -/
noncomputable def insC (cs vs : List AV) (i : Nat) : List AV := cs.take (Nat.mul i 3) ++ (vs ++ cs.drop (Nat.mul i 3))
/-- run where there is no room -/
noncomputable def insA (ng ro : Nat) (b n i vb vo vc : Nat) (vop : Bool) (o ov : AO) (nx : Nat) : Option (AV × Heap) :=
  (fnsC Tryz.prog ng ro 1000000 S0 60).ca 152 [.sl b 0 n n false, .i .i64 (.ofNat i), .sl vb vo 1 vc vop] ⟨((TT.e).set o b).set ov vb, nx⟩
noncomputable def okA (r : Option (AV × Heap)) (b vb n nx : Nat) (ov : AO) (cs' : List AV) : Bool :=
  match r with
  | some (.sl k 0 m cap true, H) => (Nat.ble nx k && (Nat.beq m (Nat.succ n) && Nat.beq cap (Nat.succ n))) && (((match H.t.get k with
      | some (.cells 3 c) => avEqs c cs'
      | _ => false) && (match H.t.get b with
      | some _ => true
      | none => false)) && (match H.t.get vb with
      | some o => AO.beq o ov
      | none => false))
  | _ => false
noncomputable def sIns (ng ro : Nat) (args : List AV) (H : Heap) : Option (AV × Heap) :=
  match args with
  | [.sl b 0 n c true, .i .i64 (.ofNat i), .sl vb vo 1 vc vop] => match H.t.get b, H.t.get vb with
    | some (.cells 3 cs), some (.cells 3 vs) =>
      bif (Nat.blt i n && (Nat.beq c n && (Nat.beq cs.length (Nat.mul n 3) && (Nat.ble (Nat.add vo 3) vs.length && (Nat.ble ro b && (Bool.not (Nat.beq b vb) && (Nat.blt n 281474976710656 && (cs.all avOne && (vs.all avOne && (idsLts H.nx vs && idsLts H.nx (insC cs ((vs.drop vo).take 3) i))))))))))) &&
          okA (insA ng ro b n i vb vo vc vop (.cells 3 cs) (.cells 3 vs) H.nx) b vb n H.nx (.cells 3 vs) (insC cs ((vs.drop vo).take 3) i) then
        some (.sl H.nx 0 (Nat.succ n) (Nat.succ n) true, (H.del b).push (.cells 3 (insC cs ((vs.drop vo).take 3) i)))
      else none
    | _, _ => none
  | _ => none
section
variable {env : Nat → Value} {ng ro : Nat}
theorem spl_ins {cs rest vs : List Value} {n i : Nat} (hcs : cs.length = n * 3) (hi : i < n) (hv : vs.length = 3) :
    spl (spl (cs ++ rest) ((i + 1) * 3) (cs.drop (i * 3))) (i * 3) vs = (cs.take (i * 3) ++ (vs ++ cs.drop (i * 3))) ++ rest.drop 3 := by
  have e1 : (cs ++ rest).take ((i + 1) * 3) = cs.take ((i + 1) * 3) := List.take_append_of_le_length (by omega)
  have e2 : (cs ++ rest).drop ((i + 1) * 3 + (cs.drop (i * 3)).length) = rest.drop 3 := by
    rw [List.length_drop, List.drop_append, List.drop_eq_nil_of_le (by omega), List.nil_append]
    congr 1; omega
  have e3 : (cs.take ((i + 1) * 3) ++ (cs.drop (i * 3) ++ rest.drop 3)).take (i * 3) = cs.take (i * 3) := by
    rw [List.take_append_of_le_length (by rw [List.length_take]; omega), List.take_take]
    congr 1; omega
  have e4 : (cs.take ((i + 1) * 3) ++ (cs.drop (i * 3) ++ rest.drop 3)).drop (i * 3 + vs.length) = cs.drop (i * 3) ++ rest.drop 3 := by
    rw [List.drop_append, List.drop_eq_nil_of_le (by rw [List.length_take]; omega), List.nil_append]
    have : i * 3 + vs.length - (cs.take ((i + 1) * 3)).length = 0 := by rw [List.length_take]; omega
    rw [this, List.drop_zero]
  unfold spl
  rw [e1, e2, e3, e4]
  simp [List.append_assoc]
theorem okA_some {r : Option (AV × Heap)} {b vb n nx : Nat} {ov : AO} {cs' : List AV} (h : okA r b vb n nx ov cs' = true) : ∃ k H, r = some (.sl k 0 (n + 1) (n + 1) true, H) ∧ nx ≤ k ∧ H.t.get k = some (.cells 3 cs') ∧ (∃ o, H.t.get b = some o) ∧ H.t.get vb = some ov := by
  unfold okA at h
  split at h
  · rename_i k m cap H
    simp only [Bool.and_eq_true] at h
    obtain ⟨⟨h1, h2, h3⟩, ⟨h4, h5⟩, h6⟩ := h
    have h2 := beq_true h2
    have h3 := beq_true h3
    subst h2 h3
    refine ⟨k, H, rfl, ble_true h1, ?_, ?_, ?_⟩
    · split at h4
      · rename_i c hc; rw [hc, avEqs_ok _ _ h4]
      · cases h4
    · split at h5
      · rename_i o ho; exact ⟨o, ho⟩
      · cases h5
    · split at h6
      · rename_i o ho; rw [ho, AO.beq_ok _ _ h6]
      · cases h6
  · cases h
theorem sIns_ok : SumOK Tryz.prog env ro ng 152 (sIns ng ro) := by
  intro args us H w ρ v H' r hg ha h
  unfold sIns at h
  split at h
  · rename_i b n c i vb vo vc vop
    split at h
    · rename_i cs vs hb hvb
      cases hq : (Nat.blt i n && (Nat.beq c n && (Nat.beq cs.length (Nat.mul n 3) && (Nat.ble (Nat.add vo 3) vs.length && (Nat.ble ro b && (Bool.not (Nat.beq b vb) && (Nat.blt n 281474976710656 && (cs.all avOne && (vs.all avOne && (idsLts H.nx vs && idsLts H.nx (insC cs ((vs.drop vo).take 3) i))))))))))) && okA (insA ng ro b n i vb vo vc vop (.cells 3 cs) (.cells 3 vs) H.nx) b vb n H.nx (.cells 3 vs) (insC cs ((vs.drop vo).take 3) i) with
      | false => rw [hq] at h; cases h
      | true =>
        rw [hq] at h; cases h
        simp only [Bool.and_eq_true] at hq
        obtain ⟨⟨g1, g2, g3, g4, g5, g6, g7, g8, g9, g11, g12⟩, g10⟩ := hq
        have g1 := blt_iff.1 g1
        have g2 := beq_true g2
        have g3 : cs.length = n * 3 := beq_true g3
        have g4 : vo + 3 ≤ vs.length := ble_true g4
        have g5 := ble_true g5
        have g6 : b ≠ vb := fun e => by subst e; simp at g6
        have g7 := blt_iff.1 g7
        subst g2
        simp only [VRs, VR] at ha
        obtain ⟨u1, us1, rfl, ⟨bw, x, hbc, rfl⟩, u2, us2, rfl, rfl, u3, us3, rfl, ⟨vw, vx, hvc, rfl⟩, rfl⟩ := ha
        obtain ⟨ob1, m1, hob1⟩ := r.obj _ _ _ _ hb hbc
        obtain ⟨hx0, l1, rest1, t1, f1, rfl, m2, m3, m4⟩ := obj_zero (by decide) hob1
        obtain ⟨ob2, k1, hob2⟩ := r.obj _ _ _ _ hvb hvc
        obtain ⟨hv0, l2, rest2, t2, f2, rfl, k2, k3, k4⟩ := obj_zero (by decide) hob2
        obtain ⟨x, xz⟩ := x
        obtain ⟨vx, vz⟩ := vx
        simp only at hx0 hv0 m3 k3
        subst hx0 hv0
        have hz1 : f1.1 = f1.2 := m4.elim id fun h => absurd h.2 (by decide)
        have hz2 : f2.1 = f2.2 := k4.elim id fun h => absurd h.2 (by decide)
        have hne : vw ≠ bw := fun e => g6 (r.inj b vb _ _ bw (x, 0) (vx, 0) hb hvb hbc (e ▸ hvc))
        cases x with
        | zero =>
          obtain ⟨k, HA, q1, q2, q3, q4, q5⟩ := okA_some g10
          have hget : ∀ a, (((TT.e).set (AO.cells 3 cs) b).set (AO.cells 3 vs) vb).get a = if a = vb then some (.cells 3 vs) else if a = b then some (.cells 3 cs) else none := fun a => by
            rw [TT.get_set, TT.get_set, TT.get_e]
          have hsub : ∀ a o, (((TT.e).set (AO.cells 3 cs) b).set (AO.cells 3 vs) vb).get a = some o → (a = b ∨ a = vb) ∧ H.t.get a = some o := fun a o h => by
            rw [hget] at h
            by_cases e1 : a = vb
            · subst e1; rw [if_pos rfl] at h; cases h; exact ⟨.inr rfl, hvb⟩
            · rw [if_neg e1] at h
              by_cases e2 : a = b
              · subst e2; rw [if_pos rfl] at h; cases h; exact ⟨.inl rfl, hb⟩
              · rw [if_neg e2] at h; cases h
          have rs : Rel env ρ ⟨((TT.e).set (AO.cells 3 cs) b).set (AO.cells 3 vs) vb, H.nx⟩ w :=
            ⟨fun a o c x h1 h2 => r.obj a o c x (hsub a o h1).2 h2, fun a a' o o' c x x' h1 h2 h3 h4 => r.inj a a' o o' c x x' (hsub a o h1).2 (hsub a' o' h2).2 h3 h4, fun a ha => ⟨(r.new a ha).1, by
              cases hc : (((TT.e).set (AO.cells 3 cs) b).set (AO.cells 3 vs) vb).get a with
              | none => rfl
              | some o => have := (hsub a o hc).2; rw [(r.new a ha).2] at this; cases this⟩, r.one⟩
          refine ((fnsC_ok (env := env) (ng := ng) (ro := ro) (N := 1000000) namesOK (by kernel_rfl) S0_ok 60).ca 152 _ _ _ w ρ _ HA rs hg ?_ q1).mono fun e w' hq => ?_
          · simp only [VRs, VR]
            exact ⟨_, _, rfl, ⟨bw, (0, 0), hbc, rfl⟩, _, _, rfl, rfl, _, _, rfl, ⟨vw, (vx, 0), hvc, rfl⟩, rfl⟩
          · obtain ⟨u, ρA, rfl, hu, s⟩ := hq
            simp only [VR] at hu
            obtain ⟨ck, xk, hck, rfl⟩ := hu
            refine ⟨_, ρ.put H.nx (ck, xk), rfl, ?_, Step.lift r s (fun a o h => (hsub a o h).2) rfl (fun a o h => (hsub a o h).1) q4 q5 (by rw [hget, if_pos rfl]) g11 q3 q2 hck g12⟩
            simp only [VR]
            exact ⟨ck, xk, Ren.put_self _ _ _, rfl⟩
        | succ x =>
          have hl1 : l1.length = c * 3 := by rw [m2.length, g3]
          have hl2 := k2.length
          have hvl : ((l2 ++ rest2).drop vo).take 3 = (l2.drop vo).take 3 := by
            rw [List.drop_append_of_le_length (by omega), List.take_append_of_le_length (by rw [List.length_drop]; omega)]
          have e0 : c + (x + 1) - c = x + 1 := Nat.add_sub_cancel_left _ _
          have hbg : c < 4611686018427387904 := Nat.lt_of_lt_of_le g7 (by decide)
          clear g7
          refine (ins_room (n := c) (i := i) (voff := vo) (c := c + (x + 1)) (vc := vc + if vop then vx else 0) m1 hl1 (Nat.add_le_add_left (Nat.succ_le_succ (Nat.zero_le x)) c) (by rw [m3, e0]) hz1 k1 hz2 (by rw [List.length_append]; omega) hne g1 hbg (avOnes_ok r.one m2 g8) (by rw [hvl]; exact fun v hv => avOnes_ok r.one k2 g9 v (List.mem_of_mem_drop (List.mem_of_mem_take hv)))).mono fun e w' hq => ?_
          obtain ⟨rfl, d, rfl⟩ := hq
          rw [hvl, spl_ins hl1 g1 (by rw [List.length_take, List.length_drop]; omega)]
          have hm := Step.move (ro := ro) (x' := (x, 0)) (o' := .cells 3 (insC cs ((vs.drop vo).take 3) i)) (ob := .cells ⟨(l1.take (i * 3) ++ ((l2.drop vo).take 3 ++ l1.drop (i * 3))) ++ rest1.drop 3⟩ t1 f1) r g5 hb hbc
            (old_row ⟨_, _, _, _, rfl, (VRs.append (m2.take _) (VRs.append ((k2.drop vo).take 3) (m2.drop _))).mono (Ren.le_put _ (r.new H.nx (Nat.le_refl _)).1), by rw [List.length_drop, m3]; omega, .inl hz1⟩)
          refine ⟨_, _, rfl, ?_, hm.trans (Step.drew hm.rel d)⟩
          simp only [VR]
          exact ⟨bw, (x, 0), Ren.put_self _ _ _, by rw [if_pos trivial, Nat.succ_add]; rfl⟩
    · cases h
  · cases h
end
end Go.Ai
/- All summaries. -/
namespace Go.Ai
open Go.Proofs Go.Proofs.YtobdajealbhjmaaGreatDoor Go.RowKit
section
variable {env : Nat → Value} {ng ro : Nat}
noncomputable def listT (ng ro : Nat) : List (FuncId × (List AV → Heap → Option (AV × Heap))) :=
  [(176, sTrim), (157, sSum), (128, sLSum), (112, sCmp), (85, sSync ro), (93, sRedo), (84, sWrite ro), (97, sDiff ng ro), (45, sFormat ng ro), (152, sIns ng ro)]
theorem listT_ok : ∀ p ∈ listT ng ro, SumOK Tryz.prog env ro ng p.1 p.2 := by
  intro p hp
  simp only [listT, List.mem_cons, List.not_mem_nil, or_false] at hp
  rcases hp with rfl | rfl | rfl | rfl | rfl | rfl | rfl | rfl | rfl | rfl
  · exact sTrim_ok
  · exact sSum_ok
  · exact sLSum_ok
  · exact sCmp_ok
  · exact sSync_ok
  · exact sRedo_ok
  · exact sWrite_ok
  · exact sDiff_ok
  · exact sFormat_ok
  · exact sIns_ok
noncomputable def listS (ng ro : Nat) : List (FuncId × (List AV → Heap → Option (AV × Heap))) := (31, sPut) :: listT ng ro
theorem listS_ok {n : Int} (he : env 0 = .int .i64 n) : ∀ p ∈ listS ng ro, SumOK Tryz.prog env ro ng p.1 p.2 := by
  intro p hp
  simp only [listS, List.mem_cons] at hp
  rcases hp with rfl | hp
  · exact sPut_ok he
  · exact listT_ok p hp
end
end Go.Ai
/- Summaries: page.after, page.find. -/
namespace Go.Ai
open Go.Proofs Go.Proofs.YtobdajealbhjmaaGreatDoor Go.RowKit
section
variable {env : Nat → Value} {ng ro : Nat}
noncomputable def aftG (y off len p : Nat) : Nat :=
  cond (Nat.ble (Nat.add p 2) len) (cond (Nat.ble (Nat.add (Nat.add p 2) (Nat.lor (Nat.mul (byteAt y (Nat.add off p)) 256) (byteAt y (Nat.add off (Nat.succ p))))) len) (Nat.add (Nat.add p 2) (Nat.lor (Nat.mul (byteAt y (Nat.add off p)) 256) (byteAt y (Nat.add off (Nat.succ p))))) 0) 0
theorem aftG_eq (y off len p : Nat) : aftG y off len p = aftN (fun i => byteAt y (off + i)) len p := by
  unfold aftG aftN
  show cond (Nat.ble (p + 2) len) (cond (Nat.ble (p + 2 + (byteAt y (off + p) * 256 ||| byteAt y (off + (p + 1)))) len) _ 0) 0 = _
  cases h1 : Nat.ble (p + 2) len with
  | false => rw [if_neg (fun h => by rw [← Nat.ble_eq] at h; rw [h] at h1; cases h1)]; rfl
  | true =>
    rw [if_pos (ble_true h1)]
    cases h2 : Nat.ble (p + 2 + (byteAt y (off + p) * 256 ||| byteAt y (off + (p + 1)))) len with
    | false =>
      have h3 : ¬ p + 2 + (byteAt y (off + p) * 256 ||| byteAt y (off + (p + 1))) ≤ len := fun h => by
        rw [← Nat.ble_eq] at h
        rw [h] at h2; cases h2
      rw [if_neg h3]; rfl
    | true => rw [if_pos (ble_true h2)]; rfl
/-- from a place on, so many slots on -/
noncomputable def fndG (y off len : Nat) (n : Nat) : Nat → Nat :=
  @Nat.rec (fun _ => Nat → Nat) (fun p => p) (fun _ ih p => cond (Nat.beq (aftG y off len p) 0) 0 (ih (aftG y off len p))) n
theorem fndG_succ (y off len n p : Nat) : fndG y off len (n + 1) p = cond (Nat.beq (aftG y off len p) 0) 0 (fndG y off len n (aftG y off len p)) := rfl
theorem fndG_eq (y off len : Nat) : ∀ n k p, p ≠ 0 → findN (fun i => byteAt y (off + i)) len k = p → fndG y off len n p = findN (fun i => byteAt y (off + i)) len (k + n)
  | 0, k, p, _, h => h.symm
  | n + 1, k, p, hp, h => by
    have hs : findN (fun i => byteAt y (off + i)) len (k + 1) = aftG y off len p := by rw [findN, h, if_neg hp, aftG_eq]
    rw [fndG_succ]
    cases hb : Nat.beq (aftG y off len p) 0 with
    | true =>
      have h0 := beq_true hb
      rw [h0] at hs
      exact (findN_zero _ _ _ hs _ (by omega)).symm
    | false =>
      rw [cond_false, fndG_eq y off len n (k + 1) _ (beq_false hb) hs, show k + 1 + n = k + (n + 1) by omega]
noncomputable def sFind (args : List AV) (H : Heap) : Option (AV × Heap) :=
  match args with
  | [.sl b off len _ _, .i .i64 (.ofNat n)] => match H.t.get b with
    | some (.bytes L y) => bif Nat.ble (Nat.add off len) L && (Nat.ble len 512 && Nat.ble n 300) then some (.i .i64 (.ofNat (fndG y off len n 6)), H) else none
    | _ => none
  | _ => none
noncomputable def sAft (args : List AV) (H : Heap) : Option (AV × Heap) :=
  match args with
  | [.sl b off len _ _, .i .i64 (.ofNat p)] => match H.t.get b with
    | some (.bytes L y) => bif Nat.ble (Nat.add off len) L && (Nat.ble len 512 && Nat.ble p 600) then some (.i .i64 (.ofNat (aftG y off len p)), H) else none
    | _ => none
  | _ => none
theorem Step.drawn {ρ : Ren} {H : Heap} {w : World} (r : Rel env ρ H w) (d : Nat) : Step env ro ρ H w ρ H { w with drawn := d } := Step.drew r d
theorem sFind_ok : SumOK Tryz.prog env ro ng 145 sFind := by
  intro args us H w ρ v H' r hg ha h
  unfold sFind at h
  split at h
  · rename_i b off len cap op n
    split at h
    · rename_i L y hb
      cases hq : (Nat.ble (Nat.add off len) L && (Nat.ble len 512 && Nat.ble n 300)) with
      | false => rw [hq] at h; cases h
      | true =>
        rw [hq] at h; cases h
        simp only [Bool.and_eq_true] at hq
        obtain ⟨h1, h2, h3⟩ := hq
        have h1 := ble_true h1
        simp only [VRs, VR] at ha
        obtain ⟨u1, us1, rfl, ⟨g, z, hc, rfl⟩, u2, us2, rfl, rfl, rfl⟩ := ha
        refine (find_any g (off + z.2) len _ n (fun i => byteAt y (off + i)) w (fun i => byteAt_lt _ _) (ble_true h2) (ble_true h3) (fun i hi => bytes_cells r hb hc h1 i hi)).mono fun e w' hq => ?_
        obtain ⟨rfl, d, rfl⟩ := hq
        refine ⟨_, ρ, rfl, ?_, Step.drawn r d⟩
        simp only [VR]
        rw [fndG_eq y off len n 0 6 (by decide) rfl, Nat.zero_add]
        rfl
    · cases h
  · cases h
theorem sAft_ok : SumOK Tryz.prog env ro ng 147 sAft := by
  intro args us H w ρ v H' r hg ha h
  unfold sAft at h
  split at h
  · rename_i b off len cap op p
    split at h
    · rename_i L y hb
      cases hq : (Nat.ble (Nat.add off len) L && (Nat.ble len 512 && Nat.ble p 600)) with
      | false => rw [hq] at h; cases h
      | true =>
        rw [hq] at h; cases h
        simp only [Bool.and_eq_true] at hq
        obtain ⟨h1, h2, h3⟩ := hq
        have h1 := ble_true h1
        simp only [VRs, VR] at ha
        obtain ⟨u1, us1, rfl, ⟨g, z, hc, rfl⟩, u2, us2, rfl, rfl, rfl⟩ := ha
        refine (after_any g (off + z.2) len _ p (fun i => byteAt y (off + i)) w (fun i => byteAt_lt _ _) (ble_true h2) (ble_true h3) (fun i hi => bytes_cells r hb hc h1 i hi)).mono fun e w' hq => ?_
        obtain ⟨rfl, d, rfl⟩ := hq
        refine ⟨_, ρ, rfl, ?_, Step.drawn r d⟩
        simp only [VR]
        rw [aftG_eq]
        rfl
    · cases h
  · cases h
noncomputable def listF (ng ro : Nat) : List (FuncId × (List AV → Heap → Option (AV × Heap))) := (145, sFind) :: (147, sAft) :: listT ng ro
theorem listF_ok : ∀ p ∈ listF ng ro, SumOK Tryz.prog env ro ng p.1 p.2 := by
  intro p hp
  simp only [listF, List.mem_cons] at hp
  rcases hp with rfl | rfl | hp
  · exact sFind_ok
  · exact sAft_ok
  · exact listT_ok p hp
end
end Go.Ai
/- A summary: page.end. -/
namespace Go.Ai
open Go.Proofs Go.Proofs.YtobdajealbhjmaaGreatDoor Go.RowKit
section
variable {env : Nat → Value} {ng ro : Nat}
theorem zero_of_bytes : ∀ (n z : Nat), z < 256 ^ n → (∀ k, k < n → byteAt z k = 0) → z = 0
  | 0, z, h, _ => by simpa using h
  | n + 1, z, h, hk => by
    have h0 : z % 256 = 0 := by have := hk 0 (by omega); rwa [byteAt_eq, Nat.pow_zero, Nat.div_one] at this
    have h1 : z / 256 = 0 := by
      refine zero_of_bytes n (z / 256) (by rw [Nat.pow_succ] at h; omega) fun k hn => ?_
      have := byteAt_div z 1 k
      rw [Nat.pow_one] at this
      rw [this, Nat.add_comm]
      exact hk (k + 1) (by omega)
    omega
theorem cut_zero (y i n : Nat) : cut y i n = 0 ↔ ∀ k, k < n → byteAt y (i + k) = 0 := by
  constructor
  · intro h k hk
    have := byteAt_cut y i n k
    rw [h, if_pos hk] at this
    rw [← this, byteAt_eq, Nat.zero_div]
  · intro h
    refine zero_of_bytes n _ ?_ fun k hk => ?_
    · rw [cut_eq]; exact Nat.mod_lt _ (Nat.pow_pos (by decide))
    · rw [byteAt_cut, if_pos hk]; exact h k hk
noncomputable def endG (y off len : Nat) : Nat := cond (Nat.beq len 512) ((fun z => cond (Nat.beq z 0) 0 (cond (Nat.beq (cut y (Nat.add off z) (Nat.sub 512 z)) 0) z 0)) (fndG y off 512 (byteAt y (Nat.add off 1)) 6)) 0
theorem endG_eq (y off len : Nat) : endG y off len = endN (fun i => byteAt y (off + i)) len := by
  unfold endG endN
  cases h1 : Nat.beq len 512 with
  | false => rw [if_neg (beq_false h1)]; rfl
  | true =>
    have h1 := beq_true h1
    subst h1
    rw [if_pos rfl]
    have e := fndG_eq y off 512 (byteAt y (Nat.add off 1)) 0 6 (by decide) rfl
    rw [Nat.zero_add] at e
    show cond (Nat.beq (fndG y off 512 (byteAt y (Nat.add off 1)) 6) 0) 0 _ = _
    rw [e]
    show cond (Nat.beq (findN (fun i => byteAt y (off + i)) 512 (byteAt y (off + 1))) 0) 0 _ = _
    obtain ⟨z, hz⟩ : ∃ z, z = findN (fun i => byteAt y (off + i)) 512 (byteAt y (off + 1)) := ⟨_, rfl⟩
    rw [← hz]
    cases h2 : Nat.beq z 0 with
    | true => rw [if_pos (beq_true h2)]; rfl
    | false =>
      rw [if_neg (beq_false h2), cond_false]
      have hiff : cut y (Nat.add off z) (Nat.sub 512 z) = 0 ↔ trimN (fun i => byteAt y (off + (z + i))) 0 (512 - z) = 0 := by
        rw [trimN_zero]
        show cut y (off + z) (512 - z) = 0 ↔ _
        rw [cut_zero]
        simp only [Nat.add_assoc]
      cases h3 : Nat.beq (cut y (Nat.add off z) (Nat.sub 512 z)) 0 with
      | true => rw [if_pos (hiff.1 (beq_true h3))]; rfl
      | false => rw [if_neg (fun h => beq_false h3 (hiff.2 h))]; rfl
noncomputable def sEnd (args : List AV) (H : Heap) : Option (AV × Heap) :=
  match args with
  | [.sl b off len cap _] => match H.t.get b with
    | some (.bytes L y) => bif Nat.ble (Nat.add off len) L && (Nat.ble len 512 && Nat.ble len cap) then some (.i .i64 (.ofNat (endG y off len)), H) else none
    | _ => none
  | _ => none
theorem sEnd_ok : SumOK Tryz.prog env ro ng 144 sEnd := by
  intro args us H w ρ v H' r hg ha h
  unfold sEnd at h
  split at h
  · rename_i b off len cap op
    split at h
    · rename_i L y hb
      cases hq : (Nat.ble (Nat.add off len) L && (Nat.ble len 512 && Nat.ble len cap)) with
      | false => rw [hq] at h; cases h
      | true =>
        rw [hq] at h; cases h
        simp only [Bool.and_eq_true] at hq
        obtain ⟨h1, h2, h3⟩ := hq
        have h1 := ble_true h1
        have h3 := ble_true h3
        simp only [VRs, VR] at ha
        obtain ⟨u1, us1, rfl, ⟨g, z, hc, rfl⟩, rfl⟩ := ha
        refine (end_any g (off + z.2) len _ (fun i => byteAt y (off + i)) w (fun i => byteAt_lt _ _) (ble_true h2) (by omega) (fun i hi => bytes_cells r hb hc h1 i hi)).mono fun e w' hq => ?_
        obtain ⟨rfl, d, rfl⟩ := hq
        refine ⟨_, ρ, rfl, ?_, Step.drawn r d⟩
        simp only [VR]
        rw [endG_eq]
        rfl
    · cases h
  · cases h
noncomputable def listE (ng ro : Nat) : List (FuncId × (List AV → Heap → Option (AV × Heap))) := (144, sEnd) :: listF ng ro
theorem listE_ok : ∀ p ∈ listE ng ro, SumOK Tryz.prog env ro ng p.1 p.2 := by
  intro p hp
  simp only [listE, List.mem_cons] at hp
  rcases hp with rfl | hp
  · exact sEnd_ok
  · exact listF_ok p hp
end
end Go.Ai
