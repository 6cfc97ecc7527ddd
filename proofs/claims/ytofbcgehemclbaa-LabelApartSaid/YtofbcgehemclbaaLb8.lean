/- label.shortest: the walk. -/
import Derived.Test.YtofbcgehemclbaaLb7
import Derived.Test.YtofbcgehemclbaaLs
import Derived.Test.YtofbcgehemclbaaLmp
import Derived.Outline
namespace Go.Proofs.Ytofbcgehemclbaa
open Go.RowKit Bm
/-- the cells of the walk -/
structure Sc (w W : World) (gl gh gr g1 g0 go : Nat) (lc hc out : List Bool) : Prop where
  bl : Blk W gl 50 #[.string (pk lc), .int .i64 lc.length]
  bh : Blk W gh 50 #[.string (pk hc), .int .i64 hc.length]
  br : Blk W gr 50 #[.string ⟨#[]⟩, .int .i64 0]
  b1 : Blk W g1 50 #[.string ⟨#[128]⟩, .int .i64 1]
  b0 : Blk W g0 50 #[.string ⟨#[0]⟩, .int .i64 1]
  bo : Blk W go 50 #[.string (pk out), .int .i64 out.length]
  ord : w.heap.size ≤ gl ∧ gl < gh ∧ gh < gr ∧ gr < g1 ∧ g1 < g0 ∧ g0 < go
  be : Below w.heap.size w W
/-- where the walk stands at place i -/
structure Si (low high lc hc out : List Bool) (i : Nat) : Prop where
  lo : lc = low ∨ (lc = [] ∧ low.length ≤ i)
  iv : (hc = high ∧ high.drop i ≠ [] ∧ lexB (low.drop i) (high.drop i) = -1 ∧ lastOne (high.drop i) = true ∧ short low high = out ++ shB (low.drop i) (high.drop i)) ∨ (hc = [] ∧ short low high = out ++ shO (low.drop i))
  ol : out.length ≤ i
  il : i ≤ low.length + high.length
section
variable {w W W' : World} {gl gh gr g1 g0 go : Nat} {lc hc out : List Bool}
theorem Sc.keep (h : Sc w W gl gh gr g1 g0 go lc hc out) (hb : Below W.heap.size W W') : Sc w W' gl gh gr g1 g0 go lc hc out :=
  ⟨h.bl.keep hb, h.bh.keep hb, h.br.keep hb, h.b1.keep hb, h.b0.keep hb, h.bo.keep hb, h.ord, chain0 h.be hb⟩
theorem Sc.put9 (h : Sc w W gl gh gr g1 g0 go lc hc out) (q : List Bool) : Sc w ((W.setCell ⟨go, 0, none⟩ (.string (pk q))).setCell ⟨go, 1, none⟩ (.int .i64 q.length)) gl gh gr g1 g0 go lc hc q := by
  have ho := h.ord
  refine ⟨(h.bl.far (by dsimp only; omega) _).far (by dsimp only; omega) _, (h.bh.far (by dsimp only; omega) _).far (by dsimp only; omega) _, (h.br.far (by dsimp only; omega) _).far (by dsimp only; omega) _, (h.b1.far (by dsimp only; omega) _).far (by dsimp only; omega) _,
    (h.b0.far (by dsimp only; omega) _).far (by dsimp only; omega) _, (h.bo.set_ 0 _).set_ 1 _, ho, (h.be.setCell (by dsimp only; omega) _).setCell (by dsimp only; omega) _⟩
theorem Sc.put3 (h : Sc w W gl gh gr g1 g0 go lc hc out) : Sc w ((W.setCell ⟨gh, 0, none⟩ (.string ⟨#[]⟩)).setCell ⟨gh, 1, none⟩ (.int .i64 0)) gl gh gr g1 g0 go lc [] out := by
  have ho := h.ord
  refine ⟨(h.bl.far (by dsimp only; omega) _).far (by dsimp only; omega) _, (h.bh.set_ 0 _).set_ 1 _, (h.br.far (by dsimp only; omega) _).far (by dsimp only; omega) _, (h.b1.far (by dsimp only; omega) _).far (by dsimp only; omega) _,
    (h.b0.far (by dsimp only; omega) _).far (by dsimp only; omega) _, (h.bo.far (by dsimp only; omega) _).far (by dsimp only; omega) _, ho, (h.be.setCell (by dsimp only; omega) _).setCell (by dsimp only; omega) _⟩
theorem Sc.put2 (h : Sc w W gl gh gr g1 g0 go lc hc out) : Sc w ((W.setCell ⟨gl, 0, none⟩ (.string ⟨#[]⟩)).setCell ⟨gl, 1, none⟩ (.int .i64 0)) gl gh gr g1 g0 go [] hc out := by
  have ho := h.ord
  refine ⟨(h.bl.set_ 0 _).set_ 1 _, (h.bh.far (by dsimp only; omega) _).far (by dsimp only; omega) _, (h.br.far (by dsimp only; omega) _).far (by dsimp only; omega) _, (h.b1.far (by dsimp only; omega) _).far (by dsimp only; omega) _,
    (h.b0.far (by dsimp only; omega) _).far (by dsimp only; omega) _, (h.bo.far (by dsimp only; omega) _).far (by dsimp only; omega) _, ho, (h.be.setCell (by dsimp only; omega) _).setCell (by dsimp only; omega) _⟩
end
set_option maxRecDepth 100000 in
set_option maxHeartbeats 2000000 in
theorem shortest_any (low high : List Bool) (w : World) (hl : low.length ≤ 1024) (hh : high.length ≤ 1024) (hlt : high = [] ∨ (lexB low high = -1 ∧ lastOne high = true)) :
    Calls Try.prog 41 #[.agg #[.string (pk low), .int .i64 low.length], .agg #[.string (pk high), .int .i64 high.length]] w
      fun e w' => e = .returned (.agg #[.string (pk (short low high)), .int .i64 (short low high).length]) ∧ Below w.heap.size w w' := by
  have hB := Below.refl w.heap.size w
  have Hlt := hide hlt
  clear hlt
  go_enter Try.func41, Try.ntmps41
  go_wp2_with fail
  refine (of1 _).mono ?_
  rintro e w1 ⟨rfl, hb1⟩
  have q0 : Blk w1 w.heap.size 50 #[.string (pk low), .int .i64 low.length] := (((Blk.new w _ _).alloc _).alloc _).keep hb1
  have q1 : Blk w1 (w.heap.size + 1) 50 #[.string (pk high), .int .i64 high.length] := Blk.keep (by
    have := (Blk.new (w.alloc (.cells #[.string (pk low), .int .i64 low.length] 50)) 50 #[.string (pk high), .int .i64 high.length]).alloc (.cells #[.string ⟨#[]⟩, .int .i64 0] 50)
    simpa [Blk] using this) hb1
  have q2 : Blk w1 (w.heap.size + 1 + 1) 50 #[.string ⟨#[]⟩, .int .i64 0] := Blk.keep (by
    have := Blk.new ((w.alloc (.cells #[.string (pk low), .int .i64 low.length] 50)).alloc (.cells #[.string (pk high), .int .i64 high.length] 50)) 50 #[.string ⟨#[]⟩, .int .i64 0]
    simpa [Blk] using this) hb1
  have hB1 := chain3 hB hb1
  have hz1 := q2.lt
  clear hB hb1
  go_wp2_with fail
  refine (of0 _).mono ?_
  rintro e w2 ⟨rfl, hb2⟩
  have r0 := (q0.alloc _).keep hb2
  have r1 := (q1.alloc _).keep hb2
  have r2 := (q2.alloc _).keep hb2
  have r3 := (Blk.new w1 50 #[.string ⟨#[128]⟩, .int .i64 1]).keep hb2
  have hB2 := chain1 hB1 hb2
  have hz2 := r3.lt
  clear hB1 hb2 q0 q1 q2
  go_wp2_with fail
  obtain ⟨w3, hw3⟩ : ∃ W, W = (w2.alloc (.cells #[.string ⟨#[0]⟩, .int .i64 1] 50)).alloc (.cells #[.string ⟨#[]⟩, .int .i64 0] 50) := ⟨_, rfl⟩
  have hsc : Sc w w3 w.heap.size (w.heap.size + 1) (w.heap.size + 1 + 1) w1.heap.size w2.heap.size (w2.heap.size + 1) low high [] := by
    rw [hw3]
    refine ⟨(r0.alloc _).alloc _, (r1.alloc _).alloc _, (r2.alloc _).alloc _, (r3.alloc _).alloc _, (Blk.new w2 _ _).alloc _, ?_, by omega, (hB2.alloc hB2.size _).alloc (by have := hB2.size; simp; omega) _⟩
    have := Blk.new (w2.alloc (.cells #[.string ⟨#[0]⟩, .int .i64 1] 50)) 50 #[.string ⟨#[]⟩, .int .i64 0]
    rw [World.size_alloc] at this
    exact this
  have hsi : Si low high low high [] 0 := by
    refine ⟨.inl rfl, ?_, Nat.le_refl _, Nat.zero_le _⟩
    rcases Hlt.out with h | ⟨h1, h2⟩
    · right
      exact ⟨h, by rw [short, if_pos h]; rfl⟩
    · left
      have h0 : high ≠ [] := lastOne_ne h2
      exact ⟨rfl, by simpa using h0, by simpa using h1, by simpa using h2, by rw [short, if_neg h0]; rfl⟩
  rw [← hw3]
  obtain ⟨gl, hgl⟩ : ∃ g, g = w.heap.size := ⟨_, rfl⟩
  obtain ⟨gh, hgh⟩ : ∃ g, g = w.heap.size + 1 := ⟨_, rfl⟩
  obtain ⟨gr, hgr⟩ : ∃ g, g = w.heap.size + 1 + 1 := ⟨_, rfl⟩
  obtain ⟨g1, hg1⟩ : ∃ g, g = w1.heap.size := ⟨_, rfl⟩
  obtain ⟨g0, hg0⟩ : ∃ g, g = w2.heap.size := ⟨_, rfl⟩
  obtain ⟨go, hgo⟩ : ∃ g, g = w2.heap.size + 1 := ⟨_, rfl⟩
  rw [← hgo, ← hg0, ← hg1, ← hgr, ← hgh, ← hgl] at hsc
  rw [← hgo, ← hg0, ← hg1, ← hgr, ← hgh, ← hgl]
  clear hw3 r0 r1 r2 r3 hB2 hz1 hz2 hgl hgh hgr hg1 hg0 hgo
  go_loopw [10] (fun x W => ∃ (i : Nat) (lc hc out : List Bool), x = .int .i64 i ∧ Sc w W gl gh gr g1 g0 go lc hc out ∧ Si low high lc hc out i) (fun x _ => low.length + high.length + 1 - (intOf x).toNat)
  case atStart => exact ⟨0, low, high, [], rfl, hsc, hsi⟩
  case round =>
    clear hsc hsi
    obtain ⟨i, lc, hc, out, rfl, S, I⟩ := hrel
    have hlcl : lc.length ≤ 1024 := by
      rcases I.lo with h | ⟨h, _⟩
      · rw [h]; exact hl
      · rw [h]; simp
    have hhcl : hc.length ≤ 1024 := by
      rcases I.iv with ⟨h, _⟩ | ⟨h, _⟩
      · rw [h]; exact hh
      · rw [h]; simp
    have hget : atZ lc i = if i < lc.length then (bv (low.getD i false) : Int) else -1 := by
      rcases I.lo with h | ⟨h, _⟩
      · rw [h]; split
        · rename_i h1; exact atZ_in low i _ h1 rfl
        · exact atZ_out low i (by omega)
      · rw [h, if_neg (by simp)]; exact atZ_out [] i (by simp)
    have hlow : lc.length ≤ i → low.getD i false = false := by
      intro h1
      rcases I.lo with h | ⟨_, h⟩
      · rw [h] at h1; exact getD_ge low i h1
      · exact getD_ge low i h
    have hol := I.ol
    have hil0 := I.il
    rcases I.iv with ⟨hhc, h1, h2, h3, h4⟩ | ⟨hhc, h4⟩
    · have hih : i < high.length := by
        rcases Nat.lt_or_ge i high.length with h | h
        · exact h
        · exact absurd (List.drop_eq_nil_of_le h) h1
      have hcl : hc.length = high.length := by rw [hhc]
      have hih2 : i < hc.length := by omega
      have hl0 : ((hc.length : Int) == 0) = false := beq_eq_false_iff_ne.2 (by omega)
      have Hcl := hide hcl
      clear hcl
      rw [drop_cons high i hih] at h2 h3 h4
      have hdl := drop_head low i
      cases hb : high.getD i false
      · rw [hb] at h2 h3 h4
        have qh : (0 : Int) = atZ hc i := by rw [hhc]; exact (atZ_in high i false hih hb).symm
        have hlb : low.getD i false = false := by
          cases e : low.getD i false with
          | false => rfl
          | true =>
            have := sh_last h2 (by rw [hdl, e]; simp) (by simp)
            rw [hdl, e] at this
            cases this.1
        obtain ⟨s1, s2, s3, s4⟩ := sh_same h2 h3 (by rw [hdl, hlb]) (by simp)
        have Qh := hide qh
        have Hhc := hide hhc
        have H4 := hide h4
        have S1 := hide s1
        have S2 := hide s2
        have S3 := hide s3
        have S4' := hide s4
        have Hdl := hide hdl
        clear qh hhc h4 h1 h2 h3 s1 s2 s3 s4 hdl hlow
        by_cases hil : i < lc.length
        · have ql : (0 : Int) = atZ lc i := by rw [hget, if_pos hil, hlb]; rfl
          have Ql := hide ql
          clear ql hlb hget hb
          have c0 := S.bl.cell 0
          have c1 := S.bl.cell 1
          have c2 := S.bh.cell 0
          have c3 := S.bh.cell 1
          simp only [List.getElem?_toArray, List.getElem?_cons_zero, List.getElem?_cons_succ] at c0 c1 c2 c3
          have l0 := later_cell c0
          have l1 := later_cell c1
          have l2 := later_cell c2
          have l3 := later_cell c3
          clear c0 c1 c2 c3
          go_wp2_with fail
          refine wp_region_later (by kernel_rfl) (by kernel_rfl) ?_
          iterate 3 go_big_quiet_step ((go_at_call 60; with_reducible exact later_of (atR lc _ 0 _ (by omega) Ql.out)))
          iterate 4 go_big_quiet_step ((go_at_call 60; with_reducible exact later_of (atR hc _ 0 _ (by omega) Qh.out)))
          iterate 2 go_big_quiet_step (fail)
          refine wpQuiet_nil ?_
          intro W2 hw'
          obtain ⟨⟨W2', hb2⟩, hw''⟩ := hw'
          change W2 = W2' at hw''
          subst hw''
          have S2 := S.keep hb2
          clear l0 l1 l2 l3 hb2 S
          have c2 := S2.bh.cell 0
          have c3 := S2.bh.cell 1
          simp only [List.getElem?_toArray, List.getElem?_cons_zero, List.getElem?_cons_succ] at c2 c3
          go_wp2_with fail
          refine (lenR hc _).mono ?_
          rintro e W3 ⟨rfl, hb3⟩
          have S := S2.keep hb3
          clear c2 c3 hb3 S2
          have hmk := run_makeMap (P := Try.prog) 101 W3
          have hi0 := run_ins0 W3 (.agg #[.string ⟨#[0]⟩, .int .i64 1])
          have hi1 := run_ins1 W3 (.agg #[.string ⟨#[0]⟩, .int .i64 1]) (.agg #[.string ⟨#[128]⟩, .int .i64 1])
          have hlk := run_look0 W3 (.agg #[.string ⟨#[0]⟩, .int .i64 1]) (.agg #[.string ⟨#[128]⟩, .int .i64 1])
          obtain ⟨q, hq⟩ : ∃ q, q = out ++ [false] := ⟨_, rfl⟩
          have hql : q.length = out.length + 1 := by rw [hq]; simp
          have Hq := hide hq
          have Hql := hide hql
          clear hq hql
          have d0 := S.bo.cell 0
          have d1 := S.bo.cell 1
          have d2 := fun o => (S.b1.alloc o).cell 0
          have d3 := fun o => (S.b1.alloc o).cell 1
          have d4 := fun o => (S.b0.alloc o).cell 0
          have d5 := fun o => (S.b0.alloc o).cell 1
          simp only [List.getElem?_toArray, List.getElem?_cons_zero, List.getElem?_cons_succ] at d0 d1 d2 d3 d4 d5
          go_wp2_with fail
          refine (and0 out q _ (by omega) Hq.out).mono ?_
          rintro e W4 ⟨rfl, hb4⟩
          have S4 := (S.keep ((Below.refl _ _).alloc (Nat.le_refl _) _)).keep hb4
          clear d0 d1 d2 d3 d4 d5 hmk hi0 hi1 hlk hb4 S
          have S := S4
          clear S4
          have hl0' := S.bo.lt
          have f0 := S.bo.cell 0
          have f1 := S.bo.cell 1
          have f2 := S.bo.frozen 0
          have f3 := S.bo.frozen 1
          simp only [List.getElem?_toArray, List.getElem?_cons_zero, List.getElem?_cons_succ] at f0 f1
          have S5 := S.put9 q
          have hlo := I.lo
          have I5 : Si low high lc hc q (i + 1) := ⟨by
            rcases hlo with h | ⟨h, h'⟩
            · exact .inl h
            · exact .inr ⟨h, by omega⟩, .inl ⟨Hhc.out, S1.out, by rw [← List.tail_drop]; exact S2.out, S3.out, by
            rw [H4.out, S4'.out, Hq.out, List.append_assoc, List.tail_drop]; rfl⟩, by have := Hql.out; omega, by omega⟩
          have HI5 := hide I5
          clear I5 hlo
          go_wp2
          go_roundw
          case rel => exact ⟨i + 1, lc, hc, q, by go_num, S5, HI5.out⟩
          case measure => simp [intOf]; omega
        · have ql : (-1 : Int) = atZ lc i := by rw [hget, if_neg hil]
          have Ql := hide ql
          clear ql hlb hget hb
          have c0 := S.bl.cell 0
          have c1 := S.bl.cell 1
          have c2 := S.bh.cell 0
          have c3 := S.bh.cell 1
          simp only [List.getElem?_toArray, List.getElem?_cons_zero, List.getElem?_cons_succ] at c0 c1 c2 c3
          have l0 := later_cell c0
          have l1 := later_cell c1
          have l2 := later_cell c2
          have l3 := later_cell c3
          clear c0 c1 c2 c3
          go_wp2_with fail
          refine wp_region_later (by kernel_rfl) (by kernel_rfl) ?_
          iterate 3 go_big_quiet_step ((go_at_call 60; with_reducible exact later_of (atR lc _ (-1) _ (by omega) Ql.out)))
          iterate 4 go_big_quiet_step ((go_at_call 60; with_reducible exact later_of (atR hc _ 0 _ (by omega) Qh.out)))
          iterate 2 go_big_quiet_step (fail)
          refine wpQuiet_nil ?_
          intro W2 hw'
          obtain ⟨⟨W2', hb2⟩, hw''⟩ := hw'
          change W2 = W2' at hw''
          subst hw''
          have S2 := S.keep hb2
          clear l0 l1 l2 l3 hb2 S
          have c2 := S2.bh.cell 0
          have c3 := S2.bh.cell 1
          simp only [List.getElem?_toArray, List.getElem?_cons_zero, List.getElem?_cons_succ] at c2 c3
          go_wp2_with fail
          refine (lenR hc _).mono ?_
          rintro e W3 ⟨rfl, hb3⟩
          have S := S2.keep hb3
          clear c2 c3 hb3 S2
          have hmk := run_makeMap (P := Try.prog) 101 W3
          have hi0 := run_ins0 W3 (.agg #[.string ⟨#[0]⟩, .int .i64 1])
          have hi1 := run_ins1 W3 (.agg #[.string ⟨#[0]⟩, .int .i64 1]) (.agg #[.string ⟨#[128]⟩, .int .i64 1])
          have hlk := run_look0 W3 (.agg #[.string ⟨#[0]⟩, .int .i64 1]) (.agg #[.string ⟨#[128]⟩, .int .i64 1])
          obtain ⟨q, hq⟩ : ∃ q, q = out ++ [false] := ⟨_, rfl⟩
          have hql : q.length = out.length + 1 := by rw [hq]; simp
          have Hq := hide hq
          have Hql := hide hql
          clear hq hql
          have d0 := S.bo.cell 0
          have d1 := S.bo.cell 1
          have d2 := fun o => (S.b1.alloc o).cell 0
          have d3 := fun o => (S.b1.alloc o).cell 1
          have d4 := fun o => (S.b0.alloc o).cell 0
          have d5 := fun o => (S.b0.alloc o).cell 1
          simp only [List.getElem?_toArray, List.getElem?_cons_zero, List.getElem?_cons_succ] at d0 d1 d2 d3 d4 d5
          go_wp2_with fail
          refine (and0 out q _ (by omega) Hq.out).mono ?_
          rintro e W4 ⟨rfl, hb4⟩
          have S4 := (S.keep ((Below.refl _ _).alloc (Nat.le_refl _) _)).keep hb4
          clear d0 d1 d2 d3 d4 d5 hmk hi0 hi1 hlk hb4 S
          have S := S4
          clear S4
          have hl0' := S.bo.lt
          have f0 := S.bo.cell 0
          have f1 := S.bo.cell 1
          have f2 := S.bo.frozen 0
          have f3 := S.bo.frozen 1
          simp only [List.getElem?_toArray, List.getElem?_cons_zero, List.getElem?_cons_succ] at f0 f1
          have S5 := S.put9 q
          have hlo := I.lo
          have I5 : Si low high lc hc q (i + 1) := ⟨by
            rcases hlo with h | ⟨h, h'⟩
            · exact .inl h
            · exact .inr ⟨h, by omega⟩, .inl ⟨Hhc.out, S1.out, by rw [← List.tail_drop]; exact S2.out, S3.out, by
            rw [H4.out, S4'.out, Hq.out, List.append_assoc, List.tail_drop]; rfl⟩, by have := Hql.out; omega, by omega⟩
          have HI5 := hide I5
          clear I5 hlo
          go_wp2
          go_roundw
          case rel => exact ⟨i + 1, lc, hc, q, by go_num, S5, HI5.out⟩
          case measure => simp [intOf]; omega
      · rw [hb] at h2 h3 h4
        have qh : (1 : Int) = atZ hc i := by rw [hhc]; exact (atZ_in high i true hih hb).symm
        have Qh := hide qh
        have Hhc := hide hhc
        have H4 := hide h4
        by_cases hmore : i + 1 < hc.length
        · have hs0 : high.drop (i + 1) ≠ [] := by
            intro e
            have := congrArg List.length e
            rw [List.length_drop, List.length_nil] at this
            have := Hcl.out; omega
          have hmI : (i : Int) + 1 < hc.length := by omega
          cases hlb : low.getD i false
          · have hfst : shB (low.drop i) (true :: high.drop (i + 1)) = [true] := sh_first (by rw [hdl, hlb]) hs0
            have Hfst := hide hfst
            clear qh hhc h4 h1 h2 h3 hdl hlow hs0 hfst hb
            by_cases hil : i < lc.length
            · have ql : (0 : Int) = atZ lc i := by rw [hget, if_pos hil, hlb]; rfl
              have Ql := hide ql
              clear ql hlb hget
              have c0 := S.bl.cell 0
              have c1 := S.bl.cell 1
              have c2 := S.bh.cell 0
              have c3 := S.bh.cell 1
              simp only [List.getElem?_toArray, List.getElem?_cons_zero, List.getElem?_cons_succ] at c0 c1 c2 c3
              have l0 := later_cell c0
              have l1 := later_cell c1
              have l2 := later_cell c2
              have l3 := later_cell c3
              clear c0 c1 c2 c3
              go_wp2_with fail
              refine wp_region_later (by kernel_rfl) (by kernel_rfl) ?_
              iterate 3 go_big_quiet_step ((go_at_call 60; with_reducible exact later_of (atR lc _ 0 _ (by omega) Ql.out)))
              iterate 4 go_big_quiet_step ((go_at_call 60; with_reducible exact later_of (atR hc _ 1 _ (by omega) Qh.out)))
              iterate 2 go_big_quiet_step (fail)
              refine wpQuiet_nil ?_
              intro W2 hw'
              obtain ⟨⟨W2', hb2⟩, hw''⟩ := hw'
              change W2 = W2' at hw''
              subst hw''
              have S2 := S.keep hb2
              clear l0 l1 l2 l3 hb2 S
              have c2 := S2.bh.cell 0
              have c3 := S2.bh.cell 1
              simp only [List.getElem?_toArray, List.getElem?_cons_zero, List.getElem?_cons_succ] at c2 c3
              go_wp2_with fail
              refine (lenR hc _).mono ?_
              rintro e W3 ⟨rfl, hb3⟩
              have S := S2.keep hb3
              clear c2 c3 hb3 S2
              have c2 := S.bh.cell 0
              have c3 := S.bh.cell 1
              simp only [List.getElem?_toArray, List.getElem?_cons_zero, List.getElem?_cons_succ] at c2 c3
              go_wp2_with fail
              refine (lenR hc _).mono ?_
              rintro e W3' ⟨rfl, hb3⟩
              have S3' := S.keep hb3
              clear c2 c3 hb3 S
              have S := S3'
              clear S3'
              obtain ⟨q, hq⟩ : ∃ q, q = short low high := ⟨_, rfl⟩
              have hfin : q = out ++ [true] := by rw [hq, H4.out]; exact congrArg (out ++ ·) (Hfst.out)
              have Hq := hide hq
              have Hfin := hide hfin
              clear hq hfin
              have d0 := S.bo.cell 0
              have d1 := S.bo.cell 1
              have d2 := S.b1.cell 0
              have d3 := S.b1.cell 1
              simp only [List.getElem?_toArray, List.getElem?_cons_zero, List.getElem?_cons_succ] at d0 d1 d2 d3
              go_wp2_with fail
              refine (and1 out q _ (by omega) Hfin.out).mono ?_
              rintro e W4 ⟨rfl, hb4⟩
              have S4 := S.keep hb4
              clear d0 d1 d2 d3 hb4 S
              have S := S4
              clear S4
              have hl0' := S.br.lt
              have f0 := S.br.cell 0
              have f1 := S.br.cell 1
              have f2 := S.br.frozen 0
              have f3 := S.br.frozen 1
              simp only [List.getElem?_toArray, List.getElem?_cons_zero, List.getElem?_cons_succ] at f0 f1
              go_wp2
              (try simp only [Exit.inBlock, Exit.then])
              refine bodyPost_ret (results_cell_row (P := Try.prog) (fn := Try.f41) rfl _ _ gr 50 #[.string (pk q), .int .i64 q.length] (0, 0) _ rfl ((S.br.set_ 0 _).set_ 1 _) Try.underlying50 rfl (by kernel_rfl)) rfl ?_
              have ho := S.ord
              exact ⟨by rw [← Hq.out], (S.be.setCell (by dsimp only; omega) _).setCell (by dsimp only; omega) _⟩
            · have ql : (-1 : Int) = atZ lc i := by rw [hget, if_neg hil]
              have Ql := hide ql
              clear ql hlb hget
              have c0 := S.bl.cell 0
              have c1 := S.bl.cell 1
              have c2 := S.bh.cell 0
              have c3 := S.bh.cell 1
              simp only [List.getElem?_toArray, List.getElem?_cons_zero, List.getElem?_cons_succ] at c0 c1 c2 c3
              have l0 := later_cell c0
              have l1 := later_cell c1
              have l2 := later_cell c2
              have l3 := later_cell c3
              clear c0 c1 c2 c3
              go_wp2_with fail
              refine wp_region_later (by kernel_rfl) (by kernel_rfl) ?_
              iterate 3 go_big_quiet_step ((go_at_call 60; with_reducible exact later_of (atR lc _ (-1) _ (by omega) Ql.out)))
              iterate 4 go_big_quiet_step ((go_at_call 60; with_reducible exact later_of (atR hc _ 1 _ (by omega) Qh.out)))
              iterate 2 go_big_quiet_step (fail)
              refine wpQuiet_nil ?_
              intro W2 hw'
              obtain ⟨⟨W2', hb2⟩, hw''⟩ := hw'
              change W2 = W2' at hw''
              subst hw''
              have S2 := S.keep hb2
              clear l0 l1 l2 l3 hb2 S
              have c2 := S2.bh.cell 0
              have c3 := S2.bh.cell 1
              simp only [List.getElem?_toArray, List.getElem?_cons_zero, List.getElem?_cons_succ] at c2 c3
              go_wp2_with fail
              refine (lenR hc _).mono ?_
              rintro e W3 ⟨rfl, hb3⟩
              have S := S2.keep hb3
              clear c2 c3 hb3 S2
              have c2 := S.bh.cell 0
              have c3 := S.bh.cell 1
              simp only [List.getElem?_toArray, List.getElem?_cons_zero, List.getElem?_cons_succ] at c2 c3
              go_wp2_with fail
              refine (lenR hc _).mono ?_
              rintro e W3' ⟨rfl, hb3⟩
              have S3' := S.keep hb3
              clear c2 c3 hb3 S
              have S := S3'
              clear S3'
              obtain ⟨q, hq⟩ : ∃ q, q = short low high := ⟨_, rfl⟩
              have hfin : q = out ++ [true] := by rw [hq, H4.out]; exact congrArg (out ++ ·) (Hfst.out)
              have Hq := hide hq
              have Hfin := hide hfin
              clear hq hfin
              have d0 := S.bo.cell 0
              have d1 := S.bo.cell 1
              have d2 := S.b1.cell 0
              have d3 := S.b1.cell 1
              simp only [List.getElem?_toArray, List.getElem?_cons_zero, List.getElem?_cons_succ] at d0 d1 d2 d3
              go_wp2_with fail
              refine (and1 out q _ (by omega) Hfin.out).mono ?_
              rintro e W4 ⟨rfl, hb4⟩
              have S4 := S.keep hb4
              clear d0 d1 d2 d3 hb4 S
              have S := S4
              clear S4
              have hl0' := S.br.lt
              have f0 := S.br.cell 0
              have f1 := S.br.cell 1
              have f2 := S.br.frozen 0
              have f3 := S.br.frozen 1
              simp only [List.getElem?_toArray, List.getElem?_cons_zero, List.getElem?_cons_succ] at f0 f1
              go_wp2
              (try simp only [Exit.inBlock, Exit.then])
              refine bodyPost_ret (results_cell_row (P := Try.prog) (fn := Try.f41) rfl _ _ gr 50 #[.string (pk q), .int .i64 q.length] (0, 0) _ rfl ((S.br.set_ 0 _).set_ 1 _) Try.underlying50 rfl (by kernel_rfl)) rfl ?_
              have ho := S.ord
              exact ⟨by rw [← Hq.out], (S.be.setCell (by dsimp only; omega) _).setCell (by dsimp only; omega) _⟩
          · obtain ⟨s1, s2, s3, s4⟩ := sh_same h2 h3 (by rw [hdl, hlb]) (by rw [hdl, hlb]; simp)
            have hil : i < lc.length := by
              rcases Nat.lt_or_ge i lc.length with h | h
              · exact h
              · rw [hlow h] at hlb; cases hlb
            have ql : (1 : Int) = atZ lc i := by rw [hget, if_pos hil, hlb]; rfl
            have Ql := hide ql
            have S1 := hide s1
            have S2 := hide s2
            have S3 := hide s3
            have S4' := hide s4
            clear qh hhc h4 h1 h2 h3 s1 s2 s3 s4 hdl hlow ql hlb hget hb hs0
            have c0 := S.bl.cell 0
            have c1 := S.bl.cell 1
            have c2 := S.bh.cell 0
            have c3 := S.bh.cell 1
            simp only [List.getElem?_toArray, List.getElem?_cons_zero, List.getElem?_cons_succ] at c0 c1 c2 c3
            have l0 := later_cell c0
            have l1 := later_cell c1
            have l2 := later_cell c2
            have l3 := later_cell c3
            clear c0 c1 c2 c3
            go_wp2_with fail
            refine wp_region_later (by kernel_rfl) (by kernel_rfl) ?_
            iterate 3 go_big_quiet_step ((go_at_call 60; with_reducible exact later_of (atR lc _ 1 _ (by omega) Ql.out)))
            iterate 4 go_big_quiet_step ((go_at_call 60; with_reducible exact later_of (atR hc _ 1 _ (by omega) Qh.out)))
            iterate 2 go_big_quiet_step (fail)
            refine wpQuiet_nil ?_
            intro W2 hw'
            obtain ⟨⟨W2', hb2⟩, hw''⟩ := hw'
            change W2 = W2' at hw''
            subst hw''
            have S2 := S.keep hb2
            clear l0 l1 l2 l3 hb2 S
            have c2 := S2.bh.cell 0
            have c3 := S2.bh.cell 1
            simp only [List.getElem?_toArray, List.getElem?_cons_zero, List.getElem?_cons_succ] at c2 c3
            go_wp2_with fail
            refine (lenR hc _).mono ?_
            rintro e W3 ⟨rfl, hb3⟩
            have S := S2.keep hb3
            clear c2 c3 hb3 S2
            have hmk := run_makeMap (P := Try.prog) 101 W3
            have hi0 := run_ins0 W3 (.agg #[.string ⟨#[0]⟩, .int .i64 1])
            have hi1 := run_ins1 W3 (.agg #[.string ⟨#[0]⟩, .int .i64 1]) (.agg #[.string ⟨#[128]⟩, .int .i64 1])
            have hlk := run_look1 W3 (.agg #[.string ⟨#[0]⟩, .int .i64 1]) (.agg #[.string ⟨#[128]⟩, .int .i64 1])
            obtain ⟨q, hq⟩ : ∃ q, q = out ++ [true] := ⟨_, rfl⟩
            have hql : q.length = out.length + 1 := by rw [hq]; simp
            have Hq := hide hq
            have Hql := hide hql
            clear hq hql
            have d0 := S.bo.cell 0
            have d1 := S.bo.cell 1
            have d2 := fun o => (S.b1.alloc o).cell 0
            have d3 := fun o => (S.b1.alloc o).cell 1
            have d4 := fun o => (S.b0.alloc o).cell 0
            have d5 := fun o => (S.b0.alloc o).cell 1
            simp only [List.getElem?_toArray, List.getElem?_cons_zero, List.getElem?_cons_succ] at d0 d1 d2 d3 d4 d5
            go_wp2_with fail
            refine (and1 out q _ (by omega) Hq.out).mono ?_
            rintro e W4 ⟨rfl, hb4⟩
            have S4 := (S.keep ((Below.refl _ _).alloc (Nat.le_refl _) _)).keep hb4
            clear d0 d1 d2 d3 d4 d5 hmk hi0 hi1 hlk hb4 S
            have S := S4
            clear S4
            have hl0' := S.bo.lt
            have f0 := S.bo.cell 0
            have f1 := S.bo.cell 1
            have f2 := S.bo.frozen 0
            have f3 := S.bo.frozen 1
            simp only [List.getElem?_toArray, List.getElem?_cons_zero, List.getElem?_cons_succ] at f0 f1
            have S5 := S.put9 q
            have hlo := I.lo
            have I5 : Si low high lc hc q (i + 1) := ⟨by
              rcases hlo with h | ⟨h, h'⟩
              · exact .inl h
              · exact .inr ⟨h, by omega⟩, .inl ⟨Hhc.out, S1.out, by rw [← List.tail_drop]; exact S2.out, S3.out, by
              rw [H4.out, S4'.out, Hq.out, List.append_assoc, List.tail_drop]; rfl⟩, by have := Hql.out; omega, by omega⟩
            have HI5 := hide I5
            clear I5 hlo
            go_wp2
            go_roundw
            case rel => exact ⟨i + 1, lc, hc, q, by go_num, S5, HI5.out⟩
            case measure => simp [intOf]; omega
        · have hs0 : high.drop (i + 1) = [] := List.drop_eq_nil_of_le (by have := Hcl.out; omega)
          have hmI : ¬ (i : Int) + 1 < hc.length := by omega
          rw [hs0] at h2 h3 h4
          have hlb : low.getD i false = false := by
            cases e : low.getD i false with
            | false => rfl
            | true =>
              have := (sh_same h2 h3 (by rw [hdl, e]) (by simp)).1
              exact absurd rfl this
          obtain ⟨_, _, _, s4⟩ := sh_last h2 (by rw [hdl, hlb]; simp) (by simp)
          have S4' := hide s4
          have H4 := hide h4
          clear qh hhc h4 h1 h2 h3 hdl hlow hs0 hb s4
          by_cases hil : i < lc.length
          · have ql : (0 : Int) = atZ lc i := by rw [hget, if_pos hil, hlb]; rfl
            have Ql := hide ql
            clear ql hlb hget
            have c0 := S.bl.cell 0
            have c1 := S.bl.cell 1
            have c2 := S.bh.cell 0
            have c3 := S.bh.cell 1
            simp only [List.getElem?_toArray, List.getElem?_cons_zero, List.getElem?_cons_succ] at c0 c1 c2 c3
            have l0 := later_cell c0
            have l1 := later_cell c1
            have l2 := later_cell c2
            have l3 := later_cell c3
            clear c0 c1 c2 c3
            go_wp2_with fail
            refine wp_region_later (by kernel_rfl) (by kernel_rfl) ?_
            iterate 3 go_big_quiet_step ((go_at_call 60; with_reducible exact later_of (atR lc _ 0 _ (by omega) Ql.out)))
            iterate 4 go_big_quiet_step ((go_at_call 60; with_reducible exact later_of (atR hc _ 1 _ (by omega) Qh.out)))
            iterate 2 go_big_quiet_step (fail)
            refine wpQuiet_nil ?_
            intro W2 hw'
            obtain ⟨⟨W2', hb2⟩, hw''⟩ := hw'
            change W2 = W2' at hw''
            subst hw''
            have S2 := S.keep hb2
            clear l0 l1 l2 l3 hb2 S
            have c2 := S2.bh.cell 0
            have c3 := S2.bh.cell 1
            simp only [List.getElem?_toArray, List.getElem?_cons_zero, List.getElem?_cons_succ] at c2 c3
            go_wp2_with fail
            refine (lenR hc _).mono ?_
            rintro e W3 ⟨rfl, hb3⟩
            have S := S2.keep hb3
            clear c2 c3 hb3 S2
            have c2 := S.bh.cell 0
            have c3 := S.bh.cell 1
            simp only [List.getElem?_toArray, List.getElem?_cons_zero, List.getElem?_cons_succ] at c2 c3
            go_wp2_with fail
            refine (lenR hc _).mono ?_
            rintro e W3' ⟨rfl, hb3⟩
            have S3' := S.keep hb3
            clear c2 c3 hb3 S
            have S := S3'
            clear S3'
            obtain ⟨q, hq⟩ : ∃ q, q = out ++ [false] := ⟨_, rfl⟩
            have hql : q.length = out.length + 1 := by rw [hq]; simp
            have Hq := hide hq
            have Hql := hide hql
            clear hq hql
            have d0 := S.bo.cell 0
            have d1 := S.bo.cell 1
            have d2 := S.b0.cell 0
            have d3 := S.b0.cell 1
            simp only [List.getElem?_toArray, List.getElem?_cons_zero, List.getElem?_cons_succ] at d0 d1 d2 d3
            go_wp2_with fail
            refine (and0 out q _ (by omega) Hq.out).mono ?_
            rintro e W4 ⟨rfl, hb4⟩
            have S4 := S.keep hb4
            clear d0 d1 d2 d3 hb4 S
            have S := S4
            clear S4
            have hl0' := S.bo.lt
            have f0 := S.bo.cell 0
            have f1 := S.bo.cell 1
            have f2 := S.bo.frozen 0
            have f3 := S.bo.frozen 1
            simp only [List.getElem?_toArray, List.getElem?_cons_zero, List.getElem?_cons_succ] at f0 f1
            have g0' := S.bh.cell 0
            have g1' := S.bh.cell 1
            have g2' := S.bh.frozen 0
            have g3' := S.bh.frozen 1
            have gl' := S.bh.lt
            simp only [List.getElem?_toArray, List.getElem?_cons_zero, List.getElem?_cons_succ] at g0' g1'
            have hord := S.ord
            have S6 := (S.put9 q).put3
            go_wp2_with fail
            obtain ⟨W5, hW5, S7⟩ : ∃ W, W = _ ∧ Sc w W gl gh gr g1 g0 go lc [] q := ⟨_, rfl, S6⟩
            rw [← hW5]
            clear hW5 S6 S f0 f1 f2 f3 g0' g1' g2' g3' hl0' gl' hord
            obtain ⟨mn, hmn1, hmn2⟩ : ∃ m : Nat, (if (i : Int) + 1 < (lc.length : Int) then (i : Int) + 1 else (lc.length : Int)) = (m : Int) ∧ m = min lc.length (i + 1) := ⟨min lc.length (i + 1), by split <;> omega, rfl⟩
            have hmle : mn ≤ lc.length := by omega
            obtain ⟨ct, hct⟩ : ∃ c, c = (lc.drop 0).take mn := ⟨_, rfl⟩
            have hctl : ct.length = mn := by rw [hct]; simp; omega
            have Hwr : Hid (IntKind.i64.wrap ((i : Int) + 1) = (i : Int) + 1) := by show IntKind.i64.wrap ((i : Int) + 1) = (i : Int) + 1; rw [IntKind.wrap_i64]; omega
            have Hmn1 := hide hmn1
            have Hmn2 := hide hmn2
            have Hct := hide hct
            have Hctl := hide hctl
            clear hmn1 hmn2 hct hctl
            have hB := S7.be
            have x_L := S7.bl
            have x_L : Blk W5 gl 50 #[.string (pk lc), .int .i64 lc.length] := x_L
            refine wp_region_facts (R := RB W5.heap.size (pk ct) (ct.length)) [eqF W5.heap.size (pk ct) (ct.length) 41 (.agg #[.string (pk lc), .int .i64 lc.length]), eqF W5.heap.size (pk ct) (ct.length) 42 (.agg #[.string (pk lc), .int .i64 lc.length]), eqF W5.heap.size (pk ct) (ct.length) 43 (.int .i64 lc.length), eqF W5.heap.size (pk ct) (ct.length) 44 (.int .i64 i), eqF W5.heap.size (pk ct) (ct.length) 45 (.int .i64 ((i : Int) + 1)), eqF W5.heap.size (pk ct) (ct.length) 46 (.int .i64 mn), eqF W5.heap.size (pk ct) (ct.length) 47 (.tuple #[.agg #[.string (pk ct), .int .i64 ct.length], .bool true]), eqF W5.heap.size (pk ct) (ct.length) 40 (.tuple #[.agg #[.string (pk ct), .int .i64 ct.length], .bool true]), eqF W5.heap.size (pk ct) (ct.length) 48 (.agg #[.string (pk ct), .int .i64 ct.length]), eqF W5.heap.size (pk ct) (ct.length) 49 (.bool true), newF W5.heap.size (pk ct) (ct.length) 14, putF W5.heap.size (pk ct) (ct.length) 14, eqF W5.heap.size (pk ct) (ct.length) 15 (.bool true)] (by kernel_rfl) (by kernel_rfl) (by kernel_rfl) (RB.refl (Nat.le_refl _)) (fun _ h => h.again) (fun _ _ _ h k => h.trans k) ?_ ?_
            · refine stepsU_cons rfl ?_ (stepsU_cons rfl ?_ (stepsU_cons rfl ?_ (stepsU_cons rfl ?_ (stepsU_cons rfl ?_ (stepsU_cons rfl ?_ (stepsU_cons rfl ?_ (stepsU_cons rfl ?_ (stepsU_cons rfl ?_ (stepsU_cons rfl ?_ (stepsU_cons rfl ?_ (stepsU_cons rfl ?_ (stepsU_cons rfl ?_ (stepsU_nil)))))))))))))
              · refine stepU_plain rfl fun u wr hR hK hD => ?_; exact upon_loadB _ _ _ _ rfl (hK 2 rfl) (hR.old x_L.lt x_L) ⟨hR.again, rfl⟩
              · refine stepU_plain rfl fun u wr hR hK hD => ?_; exact upon_loadB _ _ _ _ rfl (hK 2 rfl) (hR.old x_L.lt x_L) ⟨hR.again, rfl⟩
              · refine stepU_plain rfl fun u wr hR hK hD => ?_; exact upon_call1 _ _ _ Try.func50 (by kernel_rfl) rfl (hD 1 rfl) ((lenR lc wr).mono fun e wn ⟨he, hb⟩ => ⟨_, he, hR.next hb, rfl⟩)
              · refine stepU_plain rfl fun u wr hR hK hD => ?_; exact upon_move _ _ rfl (hK 10 rfl) ⟨hR.again, rfl⟩
              · refine stepU_plain rfl fun u wr hR hK hD => ?_; have z44 : u 44 = _ := (hD 3 rfl); exact upon_val _ (by unfold execOp; simp [go_sem, evU, z44]; exact Hwr.out) ⟨hR.again, rfl⟩
              · refine stepU_plain rfl fun u wr hR hK hD => ?_; have z43 : u 43 = _ := (hD 2 rfl); have z45 : u 45 = _ := (hD 4 rfl); exact upon_val _ (by unfold execOp; simp [go_sem, evU, z43, z45, Hmn1.out]) ⟨hR.again, rfl⟩
              · refine stepU_plain rfl fun u wr hR hK hD => ?_; exact upon_call3 _ _ _ _ _ _ _ Try.func49 (by kernel_rfl) rfl (hD 0 rfl) rfl (hD 5 rfl) ((cutR lc ct 0 mn 0 mn wr rfl (by omega) (by omega) (by omega) Hct.out).mono fun e wn ⟨he, hb⟩ => ⟨_, he, hR.next hb, rfl⟩)
              · refine stepU_plain rfl fun u wr hR hK hD => ?_; exact upon_move _ _ rfl (hD 6 rfl) ⟨hR.again, rfl⟩
              · refine stepU_plain rfl fun u wr hR hK hD => ?_; exact upon_extract _ 0 _ _ rfl (hD 7 rfl) rfl ⟨hR.again, rfl⟩
              · refine stepU_plain rfl fun u wr hR hK hD => ?_; exact upon_extract _ 1 _ _ rfl (hD 7 rfl) rfl ⟨hR.again, rfl⟩
              · refine stepU_plain rfl fun u wr hR hK hD => ?_; exact upon_allocB rfl ⟨hR.next ((Below.refl _ _).alloc (Nat.le_refl _) _), ⟨_, rfl, Nat.le_trans hR.hB hR.be.size, .inl (heap_alloc_new _ _)⟩⟩
              · refine stepU_plain rfl fun u wr hR hK hD => ?_; obtain ⟨g, hg, hgB, hbl⟩ := hD 10 rfl; exact upon_storeB _ _ g rfl hg hgB hbl (hD 8 rfl) (Nat.le_trans hR.hB hR.be.size) fun w2 hR2 hb2 => ⟨hR2, ⟨g, hg, hgB, hb2⟩⟩
              · refine stepU_plain rfl fun u wr hR hK hD => ?_; exact upon_assign _ _ rfl (hD 9 rfl) ⟨hR.again, rfl⟩
            intro u W6 hR hF
            have e41 : u 41 = .agg #[.string (pk lc), .int .i64 lc.length] := hF 0 (by decide)
            have e42 : u 42 = .agg #[.string (pk lc), .int .i64 lc.length] := hF 1 (by decide)
            have e43 : u 43 = .int .i64 lc.length := hF 2 (by decide)
            have e44 : u 44 = .int .i64 i := hF 3 (by decide)
            have e45 : u 45 = .int .i64 ((i : Int) + 1) := hF 4 (by decide)
            have e46 : u 46 = .int .i64 mn := hF 5 (by decide)
            have e47 : u 47 = .tuple #[.agg #[.string (pk ct), .int .i64 ct.length], .bool true] := hF 6 (by decide)
            have e40 : u 40 = .tuple #[.agg #[.string (pk ct), .int .i64 ct.length], .bool true] := hF 7 (by decide)
            have e48 : u 48 = .agg #[.string (pk ct), .int .i64 ct.length] := hF 8 (by decide)
            have e49 : u 49 = .bool true := hF 9 (by decide)
            have e15 : u 15 = .bool true := hF 12 (by decide)
            obtain ⟨g14, e14, hg14, x_g14⟩ := hF 11 (by decide)
            simp only [finU, Act.put, List.setIfInBounds_toArray, List.set_cons_succ, List.set_cons_zero, e41, e42, e43, e44, e45, e46, e47, e40, e48, e49, e14, e15]
            clear hF e41 e42 e43 e44 e45 e46 e47 e40 e48 e49 e14 e15
            have hB2 : Below w.heap.size w W6 := chain hB.drew hB.size hR.be
            have hb_W6 : Below W5.heap.size W5 W6 := ⟨hR.be.os, hR.be.tape, hR.be.output, hR.be.size, hR.be.block⟩
            have y_L : Blk W6 gl 50 #[.string (pk lc), .int .i64 lc.length] := hR.old x_L.lt x_L
            clear hB hR x_L
            have hB := hB2
            clear hB2
            have x_L := y_L
            clear y_L
            have S := S7.keep hb_W6
            clear hB hb_W6 x_L S7
            have e0 := x_g14.cell 0
            have e1 := x_g14.cell 1
            simp only [List.getElem?_toArray, List.getElem?_cons_zero, List.getElem?_cons_succ] at e0 e1
            go_wp2_with fail
            refine (lenR ct _).mono ?_
            rintro e W7 ⟨rfl, hb7⟩
            have S8 := S.keep hb7
            clear e0 e1 x_g14 hb7 S
            have S := S8
            clear S8
            have hlo := I.lo
            by_cases hsh : ct.length < i + 1
            · have hshI : (ct.length : Int) < (i : Int) + 1 := by omega
              have hl0' := S.bl.lt
              have f0 := S.bl.cell 0
              have f1 := S.bl.cell 1
              have f2 := S.bl.frozen 0
              have f3 := S.bl.frozen 1
              simp only [List.getElem?_toArray, List.getElem?_cons_zero, List.getElem?_cons_succ] at f0 f1
              have S9 := S.put2
              have I5 : Si low high [] [] q (i + 1) := ⟨.inr ⟨rfl, by
                have := Hctl.out
                have := Hmn2.out
                rcases hlo with h | ⟨h, h'⟩
                · have hlc : low.length = lc.length := by rw [h]
                  omega
                · omega⟩, .inr ⟨rfl, by rw [H4.out, S4'.out, Hq.out, List.append_assoc, List.tail_drop]; rfl⟩, by have := Hql.out; omega, by omega⟩
              have HI5 := hide I5
              clear I5 hlo
              go_wp2
              go_roundw
              case rel => exact ⟨i + 1, [], [], q, by go_num, S9, HI5.out⟩
              case measure => simp [intOf]; omega
            · have hshI : ¬ (ct.length : Int) < (i : Int) + 1 := by omega
              have I5 : Si low high lc [] q (i + 1) := ⟨by
                rcases hlo with h | ⟨h, h'⟩
                · exact .inl h
                · exact .inr ⟨h, by omega⟩, .inr ⟨rfl, by rw [H4.out, S4'.out, Hq.out, List.append_assoc, List.tail_drop]; rfl⟩, by have := Hql.out; omega, by omega⟩
              have HI5 := hide I5
              clear I5 hlo
              go_wp2
              go_roundw
              case rel => exact ⟨i + 1, lc, [], q, by go_num, S, HI5.out⟩
              case measure => simp [intOf]; omega
          · have ql : (-1 : Int) = atZ lc i := by rw [hget, if_neg hil]
            have Ql := hide ql
            clear ql hlb hget
            have c0 := S.bl.cell 0
            have c1 := S.bl.cell 1
            have c2 := S.bh.cell 0
            have c3 := S.bh.cell 1
            simp only [List.getElem?_toArray, List.getElem?_cons_zero, List.getElem?_cons_succ] at c0 c1 c2 c3
            have l0 := later_cell c0
            have l1 := later_cell c1
            have l2 := later_cell c2
            have l3 := later_cell c3
            clear c0 c1 c2 c3
            go_wp2_with fail
            refine wp_region_later (by kernel_rfl) (by kernel_rfl) ?_
            iterate 3 go_big_quiet_step ((go_at_call 60; with_reducible exact later_of (atR lc _ (-1) _ (by omega) Ql.out)))
            iterate 4 go_big_quiet_step ((go_at_call 60; with_reducible exact later_of (atR hc _ 1 _ (by omega) Qh.out)))
            iterate 2 go_big_quiet_step (fail)
            refine wpQuiet_nil ?_
            intro W2 hw'
            obtain ⟨⟨W2', hb2⟩, hw''⟩ := hw'
            change W2 = W2' at hw''
            subst hw''
            have S2 := S.keep hb2
            clear l0 l1 l2 l3 hb2 S
            have c2 := S2.bh.cell 0
            have c3 := S2.bh.cell 1
            simp only [List.getElem?_toArray, List.getElem?_cons_zero, List.getElem?_cons_succ] at c2 c3
            go_wp2_with fail
            refine (lenR hc _).mono ?_
            rintro e W3 ⟨rfl, hb3⟩
            have S := S2.keep hb3
            clear c2 c3 hb3 S2
            have c2 := S.bh.cell 0
            have c3 := S.bh.cell 1
            simp only [List.getElem?_toArray, List.getElem?_cons_zero, List.getElem?_cons_succ] at c2 c3
            go_wp2_with fail
            refine (lenR hc _).mono ?_
            rintro e W3' ⟨rfl, hb3⟩
            have S3' := S.keep hb3
            clear c2 c3 hb3 S
            have S := S3'
            clear S3'
            obtain ⟨q, hq⟩ : ∃ q, q = out ++ [false] := ⟨_, rfl⟩
            have hql : q.length = out.length + 1 := by rw [hq]; simp
            have Hq := hide hq
            have Hql := hide hql
            clear hq hql
            have d0 := S.bo.cell 0
            have d1 := S.bo.cell 1
            have d2 := S.b0.cell 0
            have d3 := S.b0.cell 1
            simp only [List.getElem?_toArray, List.getElem?_cons_zero, List.getElem?_cons_succ] at d0 d1 d2 d3
            go_wp2_with fail
            refine (and0 out q _ (by omega) Hq.out).mono ?_
            rintro e W4 ⟨rfl, hb4⟩
            have S4 := S.keep hb4
            clear d0 d1 d2 d3 hb4 S
            have S := S4
            clear S4
            have hl0' := S.bo.lt
            have f0 := S.bo.cell 0
            have f1 := S.bo.cell 1
            have f2 := S.bo.frozen 0
            have f3 := S.bo.frozen 1
            simp only [List.getElem?_toArray, List.getElem?_cons_zero, List.getElem?_cons_succ] at f0 f1
            have g0' := S.bh.cell 0
            have g1' := S.bh.cell 1
            have g2' := S.bh.frozen 0
            have g3' := S.bh.frozen 1
            have gl' := S.bh.lt
            simp only [List.getElem?_toArray, List.getElem?_cons_zero, List.getElem?_cons_succ] at g0' g1'
            have hord := S.ord
            have S6 := (S.put9 q).put3
            go_wp2_with fail
            obtain ⟨W5, hW5, S7⟩ : ∃ W, W = _ ∧ Sc w W gl gh gr g1 g0 go lc [] q := ⟨_, rfl, S6⟩
            rw [← hW5]
            clear hW5 S6 S f0 f1 f2 f3 g0' g1' g2' g3' hl0' gl' hord
            obtain ⟨mn, hmn1, hmn2⟩ : ∃ m : Nat, (if (i : Int) + 1 < (lc.length : Int) then (i : Int) + 1 else (lc.length : Int)) = (m : Int) ∧ m = min lc.length (i + 1) := ⟨min lc.length (i + 1), by split <;> omega, rfl⟩
            have hmle : mn ≤ lc.length := by omega
            obtain ⟨ct, hct⟩ : ∃ c, c = (lc.drop 0).take mn := ⟨_, rfl⟩
            have hctl : ct.length = mn := by rw [hct]; simp; omega
            have Hwr : Hid (IntKind.i64.wrap ((i : Int) + 1) = (i : Int) + 1) := by show IntKind.i64.wrap ((i : Int) + 1) = (i : Int) + 1; rw [IntKind.wrap_i64]; omega
            have Hmn1 := hide hmn1
            have Hmn2 := hide hmn2
            have Hct := hide hct
            have Hctl := hide hctl
            clear hmn1 hmn2 hct hctl
            have hB := S7.be
            have x_L := S7.bl
            have x_L : Blk W5 gl 50 #[.string (pk lc), .int .i64 lc.length] := x_L
            refine wp_region_facts (R := RB W5.heap.size (pk ct) (ct.length)) [eqF W5.heap.size (pk ct) (ct.length) 41 (.agg #[.string (pk lc), .int .i64 lc.length]), eqF W5.heap.size (pk ct) (ct.length) 42 (.agg #[.string (pk lc), .int .i64 lc.length]), eqF W5.heap.size (pk ct) (ct.length) 43 (.int .i64 lc.length), eqF W5.heap.size (pk ct) (ct.length) 44 (.int .i64 i), eqF W5.heap.size (pk ct) (ct.length) 45 (.int .i64 ((i : Int) + 1)), eqF W5.heap.size (pk ct) (ct.length) 46 (.int .i64 mn), eqF W5.heap.size (pk ct) (ct.length) 47 (.tuple #[.agg #[.string (pk ct), .int .i64 ct.length], .bool true]), eqF W5.heap.size (pk ct) (ct.length) 40 (.tuple #[.agg #[.string (pk ct), .int .i64 ct.length], .bool true]), eqF W5.heap.size (pk ct) (ct.length) 48 (.agg #[.string (pk ct), .int .i64 ct.length]), eqF W5.heap.size (pk ct) (ct.length) 49 (.bool true), newF W5.heap.size (pk ct) (ct.length) 14, putF W5.heap.size (pk ct) (ct.length) 14, eqF W5.heap.size (pk ct) (ct.length) 15 (.bool true)] (by kernel_rfl) (by kernel_rfl) (by kernel_rfl) (RB.refl (Nat.le_refl _)) (fun _ h => h.again) (fun _ _ _ h k => h.trans k) ?_ ?_
            · refine stepsU_cons rfl ?_ (stepsU_cons rfl ?_ (stepsU_cons rfl ?_ (stepsU_cons rfl ?_ (stepsU_cons rfl ?_ (stepsU_cons rfl ?_ (stepsU_cons rfl ?_ (stepsU_cons rfl ?_ (stepsU_cons rfl ?_ (stepsU_cons rfl ?_ (stepsU_cons rfl ?_ (stepsU_cons rfl ?_ (stepsU_cons rfl ?_ (stepsU_nil)))))))))))))
              · refine stepU_plain rfl fun u wr hR hK hD => ?_; exact upon_loadB _ _ _ _ rfl (hK 2 rfl) (hR.old x_L.lt x_L) ⟨hR.again, rfl⟩
              · refine stepU_plain rfl fun u wr hR hK hD => ?_; exact upon_loadB _ _ _ _ rfl (hK 2 rfl) (hR.old x_L.lt x_L) ⟨hR.again, rfl⟩
              · refine stepU_plain rfl fun u wr hR hK hD => ?_; exact upon_call1 _ _ _ Try.func50 (by kernel_rfl) rfl (hD 1 rfl) ((lenR lc wr).mono fun e wn ⟨he, hb⟩ => ⟨_, he, hR.next hb, rfl⟩)
              · refine stepU_plain rfl fun u wr hR hK hD => ?_; exact upon_move _ _ rfl (hK 10 rfl) ⟨hR.again, rfl⟩
              · refine stepU_plain rfl fun u wr hR hK hD => ?_; have z44 : u 44 = _ := (hD 3 rfl); exact upon_val _ (by unfold execOp; simp [go_sem, evU, z44]; exact Hwr.out) ⟨hR.again, rfl⟩
              · refine stepU_plain rfl fun u wr hR hK hD => ?_; have z43 : u 43 = _ := (hD 2 rfl); have z45 : u 45 = _ := (hD 4 rfl); exact upon_val _ (by unfold execOp; simp [go_sem, evU, z43, z45, Hmn1.out]) ⟨hR.again, rfl⟩
              · refine stepU_plain rfl fun u wr hR hK hD => ?_; exact upon_call3 _ _ _ _ _ _ _ Try.func49 (by kernel_rfl) rfl (hD 0 rfl) rfl (hD 5 rfl) ((cutR lc ct 0 mn 0 mn wr rfl (by omega) (by omega) (by omega) Hct.out).mono fun e wn ⟨he, hb⟩ => ⟨_, he, hR.next hb, rfl⟩)
              · refine stepU_plain rfl fun u wr hR hK hD => ?_; exact upon_move _ _ rfl (hD 6 rfl) ⟨hR.again, rfl⟩
              · refine stepU_plain rfl fun u wr hR hK hD => ?_; exact upon_extract _ 0 _ _ rfl (hD 7 rfl) rfl ⟨hR.again, rfl⟩
              · refine stepU_plain rfl fun u wr hR hK hD => ?_; exact upon_extract _ 1 _ _ rfl (hD 7 rfl) rfl ⟨hR.again, rfl⟩
              · refine stepU_plain rfl fun u wr hR hK hD => ?_; exact upon_allocB rfl ⟨hR.next ((Below.refl _ _).alloc (Nat.le_refl _) _), ⟨_, rfl, Nat.le_trans hR.hB hR.be.size, .inl (heap_alloc_new _ _)⟩⟩
              · refine stepU_plain rfl fun u wr hR hK hD => ?_; obtain ⟨g, hg, hgB, hbl⟩ := hD 10 rfl; exact upon_storeB _ _ g rfl hg hgB hbl (hD 8 rfl) (Nat.le_trans hR.hB hR.be.size) fun w2 hR2 hb2 => ⟨hR2, ⟨g, hg, hgB, hb2⟩⟩
              · refine stepU_plain rfl fun u wr hR hK hD => ?_; exact upon_assign _ _ rfl (hD 9 rfl) ⟨hR.again, rfl⟩
            intro u W6 hR hF
            have e41 : u 41 = .agg #[.string (pk lc), .int .i64 lc.length] := hF 0 (by decide)
            have e42 : u 42 = .agg #[.string (pk lc), .int .i64 lc.length] := hF 1 (by decide)
            have e43 : u 43 = .int .i64 lc.length := hF 2 (by decide)
            have e44 : u 44 = .int .i64 i := hF 3 (by decide)
            have e45 : u 45 = .int .i64 ((i : Int) + 1) := hF 4 (by decide)
            have e46 : u 46 = .int .i64 mn := hF 5 (by decide)
            have e47 : u 47 = .tuple #[.agg #[.string (pk ct), .int .i64 ct.length], .bool true] := hF 6 (by decide)
            have e40 : u 40 = .tuple #[.agg #[.string (pk ct), .int .i64 ct.length], .bool true] := hF 7 (by decide)
            have e48 : u 48 = .agg #[.string (pk ct), .int .i64 ct.length] := hF 8 (by decide)
            have e49 : u 49 = .bool true := hF 9 (by decide)
            have e15 : u 15 = .bool true := hF 12 (by decide)
            obtain ⟨g14, e14, hg14, x_g14⟩ := hF 11 (by decide)
            simp only [finU, Act.put, List.setIfInBounds_toArray, List.set_cons_succ, List.set_cons_zero, e41, e42, e43, e44, e45, e46, e47, e40, e48, e49, e14, e15]
            clear hF e41 e42 e43 e44 e45 e46 e47 e40 e48 e49 e14 e15
            have hB2 : Below w.heap.size w W6 := chain hB.drew hB.size hR.be
            have hb_W6 : Below W5.heap.size W5 W6 := ⟨hR.be.os, hR.be.tape, hR.be.output, hR.be.size, hR.be.block⟩
            have y_L : Blk W6 gl 50 #[.string (pk lc), .int .i64 lc.length] := hR.old x_L.lt x_L
            clear hB hR x_L
            have hB := hB2
            clear hB2
            have x_L := y_L
            clear y_L
            have S := S7.keep hb_W6
            clear hB hb_W6 x_L S7
            have e0 := x_g14.cell 0
            have e1 := x_g14.cell 1
            simp only [List.getElem?_toArray, List.getElem?_cons_zero, List.getElem?_cons_succ] at e0 e1
            go_wp2_with fail
            refine (lenR ct _).mono ?_
            rintro e W7 ⟨rfl, hb7⟩
            have S8 := S.keep hb7
            clear e0 e1 x_g14 hb7 S
            have S := S8
            clear S8
            have hlo := I.lo
            by_cases hsh : ct.length < i + 1
            · have hshI : (ct.length : Int) < (i : Int) + 1 := by omega
              have hl0' := S.bl.lt
              have f0 := S.bl.cell 0
              have f1 := S.bl.cell 1
              have f2 := S.bl.frozen 0
              have f3 := S.bl.frozen 1
              simp only [List.getElem?_toArray, List.getElem?_cons_zero, List.getElem?_cons_succ] at f0 f1
              have S9 := S.put2
              have I5 : Si low high [] [] q (i + 1) := ⟨.inr ⟨rfl, by
                have := Hctl.out
                have := Hmn2.out
                rcases hlo with h | ⟨h, h'⟩
                · have hlc : low.length = lc.length := by rw [h]
                  omega
                · omega⟩, .inr ⟨rfl, by rw [H4.out, S4'.out, Hq.out, List.append_assoc, List.tail_drop]; rfl⟩, by have := Hql.out; omega, by omega⟩
              have HI5 := hide I5
              clear I5 hlo
              go_wp2
              go_roundw
              case rel => exact ⟨i + 1, [], [], q, by go_num, S9, HI5.out⟩
              case measure => simp [intOf]; omega
            · have hshI : ¬ (ct.length : Int) < (i : Int) + 1 := by omega
              have I5 : Si low high lc [] q (i + 1) := ⟨by
                rcases hlo with h | ⟨h, h'⟩
                · exact .inl h
                · exact .inr ⟨h, by omega⟩, .inr ⟨rfl, by rw [H4.out, S4'.out, Hq.out, List.append_assoc, List.tail_drop]; rfl⟩, by have := Hql.out; omega, by omega⟩
              have HI5 := hide I5
              clear I5 hlo
              go_wp2
              go_roundw
              case rel => exact ⟨i + 1, lc, [], q, by go_num, S, HI5.out⟩
              case measure => simp [intOf]; omega
    · have qh : (-1 : Int) = atZ hc i := by rw [hhc]; exact (atZ_out [] i (by simp)).symm
      have hl0 : ((hc.length : Int) == 0) = true := by rw [hhc]; rfl
      have Qh := hide qh
      have Hhc := hide hhc
      have H4 := hide h4
      have Hlow := hide hlow
      clear qh hhc h4 hlow
      by_cases hil : i < lc.length
      · cases hb : low.getD i false
        · have ql : (0 : Int) = atZ lc i := by rw [hget, if_pos hil, hb]; rfl
          have Ql := hide ql
          have Hb := hide hb
          clear ql hb hget
          have c0 := S.bl.cell 0
          have c1 := S.bl.cell 1
          have c2 := S.bh.cell 0
          have c3 := S.bh.cell 1
          simp only [List.getElem?_toArray, List.getElem?_cons_zero, List.getElem?_cons_succ] at c0 c1 c2 c3
          have l0 := later_cell c0
          have l1 := later_cell c1
          have l2 := later_cell c2
          have l3 := later_cell c3
          clear c0 c1 c2 c3
          go_wp2_with fail
          refine wp_region_later (by kernel_rfl) (by kernel_rfl) ?_
          iterate 3 go_big_quiet_step ((go_at_call 60; with_reducible exact later_of (atR lc _ 0 _ (by omega) Ql.out)))
          iterate 4 go_big_quiet_step ((go_at_call 60; with_reducible exact later_of (atR hc _ (-1) _ (by omega) Qh.out)))
          iterate 2 go_big_quiet_step (fail)
          refine wpQuiet_nil ?_
          intro W2 hw'
          obtain ⟨⟨W2', hb2⟩, hw''⟩ := hw'
          change W2 = W2' at hw''
          subst hw''
          have S2 := S.keep hb2
          clear l0 l1 l2 l3 hb2 S
          have c2 := S2.bh.cell 0
          have c3 := S2.bh.cell 1
          simp only [List.getElem?_toArray, List.getElem?_cons_zero, List.getElem?_cons_succ] at c2 c3
          go_wp2_with fail
          refine (lenR hc _).mono ?_
          rintro e W3 ⟨rfl, hb3⟩
          have S := S2.keep hb3
          clear c2 c3 hb3 S2
          obtain ⟨q, hq⟩ : ∃ q, q = short low high := ⟨_, rfl⟩
          have hfin : q = out ++ [true] := by rw [hq, H4.out]; exact congrArg (out ++ ·) (shO_one (by rw [drop_head]; exact Hb.out))
          have Hq := hide hq
          have Hfin := hide hfin
          clear hq hfin
          have d0 := S.bo.cell 0
          have d1 := S.bo.cell 1
          have d2 := S.b1.cell 0
          have d3 := S.b1.cell 1
          simp only [List.getElem?_toArray, List.getElem?_cons_zero, List.getElem?_cons_succ] at d0 d1 d2 d3
          go_wp2_with fail
          refine (and1 out q _ (by omega) Hfin.out).mono ?_
          rintro e W4 ⟨rfl, hb4⟩
          have S4 := S.keep hb4
          clear d0 d1 d2 d3 hb4 S
          have S := S4
          clear S4
          have hl0' := S.br.lt
          have f0 := S.br.cell 0
          have f1 := S.br.cell 1
          have f2 := S.br.frozen 0
          have f3 := S.br.frozen 1
          simp only [List.getElem?_toArray, List.getElem?_cons_zero, List.getElem?_cons_succ] at f0 f1
          go_wp2
          (try simp only [Exit.inBlock, Exit.then])
          refine bodyPost_ret (results_cell_row (P := Try.prog) (fn := Try.f41) rfl _ _ gr 50 #[.string (pk q), .int .i64 q.length] (0, 0) _ rfl ((S.br.set_ 0 _).set_ 1 _) Try.underlying50 rfl (by kernel_rfl)) rfl ?_
          have ho := S.ord
          exact ⟨by rw [← Hq.out], (S.be.setCell (by dsimp only; omega) _).setCell (by dsimp only; omega) _⟩
        · have hil2 : i < low.length := by
            rcases I.lo with h | ⟨h, _⟩
            · rw [h] at hil; exact hil
            · rw [h] at hil; simp at hil
          have ql : (1 : Int) = atZ lc i := by rw [hget, if_pos hil, hb]; rfl
          have Ql := hide ql
          have Hb := hide hb
          clear ql hb hget
          have c0 := S.bl.cell 0
          have c1 := S.bl.cell 1
          have c2 := S.bh.cell 0
          have c3 := S.bh.cell 1
          simp only [List.getElem?_toArray, List.getElem?_cons_zero, List.getElem?_cons_succ] at c0 c1 c2 c3
          have l0 := later_cell c0
          have l1 := later_cell c1
          have l2 := later_cell c2
          have l3 := later_cell c3
          clear c0 c1 c2 c3
          go_wp2_with fail
          refine wp_region_later (by kernel_rfl) (by kernel_rfl) ?_
          iterate 3 go_big_quiet_step ((go_at_call 60; with_reducible exact later_of (atR lc _ 1 _ (by omega) Ql.out)))
          iterate 4 go_big_quiet_step ((go_at_call 60; with_reducible exact later_of (atR hc _ (-1) _ (by omega) Qh.out)))
          iterate 2 go_big_quiet_step (fail)
          refine wpQuiet_nil ?_
          intro W2 hw'
          obtain ⟨⟨W2', hb2⟩, hw''⟩ := hw'
          change W2 = W2' at hw''
          subst hw''
          have S2 := S.keep hb2
          clear l0 l1 l2 l3 hb2 S
          have c2 := S2.bh.cell 0
          have c3 := S2.bh.cell 1
          simp only [List.getElem?_toArray, List.getElem?_cons_zero, List.getElem?_cons_succ] at c2 c3
          go_wp2_with fail
          refine (lenR hc _).mono ?_
          rintro e W3 ⟨rfl, hb3⟩
          have S := S2.keep hb3
          clear c2 c3 hb3 S2
          obtain ⟨q, hq⟩ : ∃ q, q = out ++ [true] := ⟨_, rfl⟩
          have hql : q.length = out.length + 1 := by rw [hq]; simp
          have Hq := hide hq
          have Hql := hide hql
          clear hq hql
          have d0 := S.bo.cell 0
          have d1 := S.bo.cell 1
          have d2 := S.b1.cell 0
          have d3 := S.b1.cell 1
          simp only [List.getElem?_toArray, List.getElem?_cons_zero, List.getElem?_cons_succ] at d0 d1 d2 d3
          go_wp2_with fail
          refine (and1 out q _ (by omega) Hq.out).mono ?_
          rintro e W4 ⟨rfl, hb4⟩
          have S4 := S.keep hb4
          clear d0 d1 d2 d3 hb4 S
          have S := S4
          clear S4
          have hl0' := S.bo.lt
          have f0 := S.bo.cell 0
          have f1 := S.bo.cell 1
          have f2 := S.bo.frozen 0
          have f3 := S.bo.frozen 1
          simp only [List.getElem?_toArray, List.getElem?_cons_zero, List.getElem?_cons_succ] at f0 f1
          have S5 := S.put9 q
          have hlo := I.lo
          have I5 : Si low high lc hc q (i + 1) := ⟨by
            rcases hlo with h | ⟨h, h'⟩
            · exact .inl h
            · exact .inr ⟨h, by omega⟩, .inr ⟨Hhc.out, by
            rw [H4.out, Hq.out, shO_on (by rw [drop_head]; exact Hb.out), List.append_assoc, List.tail_drop]; rfl⟩, by have := Hql.out; omega, by omega⟩
          have HI5 := hide I5
          clear I5 hlo
          go_wp2
          go_roundw
          case rel => exact ⟨i + 1, lc, hc, q, by go_num, S5, HI5.out⟩
          case measure => simp [intOf]; omega
      · have ql : (-1 : Int) = atZ lc i := by rw [hget, if_neg hil]
        have Ql := hide ql
        have hb := Hlow.out (by omega)
        have Hb := hide hb
        clear ql hb hget
        have c0 := S.bl.cell 0
        have c1 := S.bl.cell 1
        have c2 := S.bh.cell 0
        have c3 := S.bh.cell 1
        simp only [List.getElem?_toArray, List.getElem?_cons_zero, List.getElem?_cons_succ] at c0 c1 c2 c3
        have l0 := later_cell c0
        have l1 := later_cell c1
        have l2 := later_cell c2
        have l3 := later_cell c3
        clear c0 c1 c2 c3
        go_wp2_with fail
        refine wp_region_later (by kernel_rfl) (by kernel_rfl) ?_
        iterate 3 go_big_quiet_step ((go_at_call 60; with_reducible exact later_of (atR lc _ (-1) _ (by omega) Ql.out)))
        iterate 4 go_big_quiet_step ((go_at_call 60; with_reducible exact later_of (atR hc _ (-1) _ (by omega) Qh.out)))
        iterate 2 go_big_quiet_step (fail)
        refine wpQuiet_nil ?_
        intro W2 hw'
        obtain ⟨⟨W2', hb2⟩, hw''⟩ := hw'
        change W2 = W2' at hw''
        subst hw''
        have S2 := S.keep hb2
        clear l0 l1 l2 l3 hb2 S
        have c2 := S2.bh.cell 0
        have c3 := S2.bh.cell 1
        simp only [List.getElem?_toArray, List.getElem?_cons_zero, List.getElem?_cons_succ] at c2 c3
        go_wp2_with fail
        refine (lenR hc _).mono ?_
        rintro e W3 ⟨rfl, hb3⟩
        have S := S2.keep hb3
        clear c2 c3 hb3 S2
        obtain ⟨q, hq⟩ : ∃ q, q = short low high := ⟨_, rfl⟩
        have hfin : q = out ++ [true] := by rw [hq, H4.out]; exact congrArg (out ++ ·) (shO_one (by rw [drop_head]; exact Hb.out))
        have Hq := hide hq
        have Hfin := hide hfin
        clear hq hfin
        have d0 := S.bo.cell 0
        have d1 := S.bo.cell 1
        have d2 := S.b1.cell 0
        have d3 := S.b1.cell 1
        simp only [List.getElem?_toArray, List.getElem?_cons_zero, List.getElem?_cons_succ] at d0 d1 d2 d3
        go_wp2_with fail
        refine (and1 out q _ (by omega) Hfin.out).mono ?_
        rintro e W4 ⟨rfl, hb4⟩
        have S4 := S.keep hb4
        clear d0 d1 d2 d3 hb4 S
        have S := S4
        clear S4
        have hl0' := S.br.lt
        have f0 := S.br.cell 0
        have f1 := S.br.cell 1
        have f2 := S.br.frozen 0
        have f3 := S.br.frozen 1
        simp only [List.getElem?_toArray, List.getElem?_cons_zero, List.getElem?_cons_succ] at f0 f1
        go_wp2
        (try simp only [Exit.inBlock, Exit.then])
        refine bodyPost_ret (results_cell_row (P := Try.prog) (fn := Try.f41) rfl _ _ gr 50 #[.string (pk q), .int .i64 q.length] (0, 0) _ rfl ((S.br.set_ 0 _).set_ 1 _) Try.underlying50 rfl (by kernel_rfl)) rfl ?_
        have ho := S.ord
        exact ⟨by rw [← Hq.out], (S.be.setCell (by dsimp only; omega) _).setCell (by dsimp only; omega) _⟩
end Go.Proofs.Ytofbcgehemclbaa

