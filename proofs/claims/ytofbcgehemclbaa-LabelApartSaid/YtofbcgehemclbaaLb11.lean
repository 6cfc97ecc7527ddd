/- parchmentlaw03.awake: it returns true. -/
import Derived.Test.YtofbcgehemclbaaLb10
import Derived.Test.YtofbcgehemclbaaKit
namespace Go.Proofs.Ytofbcgehemclbaa
open Go.RowKit Bm
theorem isL_root : IsL [] [] := ⟨okS_nil, by simp [wr], rfl⟩
theorem vs_rd {W : World} {a : Option Addr} {ps : List Piece} (h : Rd W a (vsOf ps)) (i : Nat) (p : Piece) (hp : ps[i]? = some p) : ∃ b off, a = some ⟨b, off, none⟩ ∧ W.cell? ⟨b, off + i, none⟩ = some (.slice (some ⟨p.1, 0, none⟩) (nb p.2.2.length) p.2.1) :=
  Rd.cellAt h i _ (by simp [vsOf, hp])
theorem kids_awake (w : World) : Calls Try.prog 11 #[.slice none 0 0, .int .i64 3] w fun e w' => ∃ b off c g0 c0 g1 c1 g2 c2, e = .returned (.tuple #[.slice (some ⟨b, off, none⟩) 3 c, .int .i64 0]) ∧
    ((w'.cell? ⟨b, off, none⟩ = some (.slice (some ⟨g0, 0, none⟩) 1 c0) ∧ w'.cell? ⟨b, off + 1, none⟩ = some (.slice (some ⟨g1, 0, none⟩) 1 c1) ∧ w'.cell? ⟨b, off + 2, none⟩ = some (.slice (some ⟨g2, 0, none⟩) 1 c2)) ∧
      RdB w' (some ⟨g0, 0, none⟩) [176] ∧ RdB w' (some ⟨g1, 0, none⟩) [192] ∧ RdB w' (some ⟨g2, 0, none⟩) [240]) ∧ Below w.heap.size w w' := by
  refine (kids_any none [] [] 0 0 3 2 w (.inl rfl) rfl (by decide) isL_root (by decide) (by decide) (by decide)).mono ?_
  rintro e w' (⟨_, a, c, ps, hrs, rfl, hrd, hpc, hb, -⟩ | ⟨⟨r, hr, hbig⟩, _⟩)
  · obtain ⟨p0, p1, p2, hps⟩ : ∃ p0 p1 p2, ps = [p0, p1, p2] := by
      have hl : ps.length = 3 := by simpa [kidRows] using congrArg List.length hrs
      match ps, hl with
      | [x, y, z], _ => exact ⟨x, y, z, rfl⟩
    subst hps
    have h0 : p0.2.2 = [true, false, true, true, false] ∧ p1.2.2 = [true, true, false] ∧ p2.2.2 = [true, true, true, true, false] := by
      have e : kidRows [] 2 3 = [[true, false, true, true, false], [true, true, false], [true, true, true, true, false]] := by decide
      rw [e] at hrs
      simpa using hrs
    obtain ⟨g0, c0, r0⟩ := p0
    obtain ⟨g1, c1, r1⟩ := p1
    obtain ⟨g2, c2, r2⟩ := p2
    simp only at h0
    obtain ⟨rfl, rfl, rfl⟩ := h0
    obtain ⟨b, off, ha, k0⟩ := vs_rd hrd 0 _ rfl
    obtain ⟨b', off', ha', k1⟩ := vs_rd hrd 1 _ rfl
    obtain ⟨b'', off'', ha'', k2⟩ := vs_rd hrd 2 _ rfl
    subst ha
    injection ha' with ha'
    injection ha' with e1 e2
    subst e1 e2
    injection ha'' with ha''
    injection ha'' with e1 e2
    subst e1 e2
    have f0 := (hpc.fr (g0, c0, [true, false, true, true, false]) (by simp)).rd
    have f1 := (hpc.fr (g1, c1, [true, true, false]) (by simp)).rd
    have f2 := (hpc.fr (g2, c2, [true, true, true, true, false]) (by simp)).rd
    have n0 : nb [true, false, true, true, false].length = 1 := by decide
    have n1 : nb [true, true, false].length = 1 := by decide
    have n2 : nb [true, true, true, true, false].length = 1 := by decide
    have q0 : pkL [true, false, true, true, false] = [176] := by decide
    have q1 : pkL [true, true, false] = [192] := by decide
    have q2 : pkL [true, true, true, true, false] = [240] := by decide
    simp only [n0, n1, n2, q0, q1, q2, Nat.add_zero] at k0 k1 k2 f0 f1 f2
    exact ⟨b, off, c, g0, c0, g1, c1, g2, c2, rfl, ⟨⟨k0, k1, k2⟩, f0, f1, f2⟩, hb⟩
  · exfalso
    have e : kidRows [] 2 3 = [[true, false, true, true, false], [true, true, false], [true, true, true, true, false]] := by decide
    rw [e] at hr
    simp at hr
    rcases hr with rfl | rfl | rfl <;> simp at hbig
theorem isL_ex1 : IsL [176] ([] ++ [[false, true]]) := ⟨by intro s hs; simp at hs; subst hs; rfl, by decide, by decide⟩
theorem isL_ex2 : IsL [192] ([] ++ [[true]]) := ⟨by intro s hs; simp at hs; subst hs; rfl, by decide, by decide⟩
theorem isL_ex3 : IsL [188] [[false, true, true]] := ⟨by intro s hs; simp at hs; subst hs; rfl, by decide, by decide⟩
theorem between_awake (a b : Option Addr) (c d : Nat) (w : World) (ha : RdB w a [176]) (hb : RdB w b [192]) : Calls Try.prog 15 #[.slice none 0 0, .slice a 1 c, .slice b 1 d] w fun e w' =>
    ∃ g cap, e = .returned (.tuple #[.slice (some ⟨g, 0, none⟩) 1 cap, .int .i64 0]) ∧ RdB w' (some ⟨g, 0, none⟩) [188] ∧ Below w.heap.size w w' := by
  refine (between_any none a b [] [176] [192] [] [false, true] [true] [true, false, true, true, true, true, false] 0 0 1 c 1 d w (.inl rfl) ha hb rfl rfl rfl (by decide) (by decide) (by decide) isL_root (.inr isL_ex1) (.inr isL_ex2) (fun _ _ => rfl) (by decide)).mono ?_
  rintro e w' (⟨_, g, cap, rfl, hp, hb⟩ | ⟨h, _⟩)
  · exact ⟨g, cap, rfl, hp.rd, hb⟩
  · simp at h
theorem parent_awake (a : Option Addr) (c : Nat) (w : World) (ha : RdB w a [188]) : Calls Try.prog 20 #[.slice a 1 c] w fun e w' =>
    ∃ g cap, e = .returned (.tuple #[.slice (some ⟨g, 0, none⟩) 0 cap, .bool true]) ∧ True ∧ Below w.heap.size w w' :=
  (parent_yes a [188] [[false, true, true]] 1 c w ha rfl (by decide) isL_ex3 (by simp)).mono fun e w' ⟨g, cap, he, _, hb⟩ => ⟨g, cap, he, trivial, hb⟩
set_option maxRecDepth 100000 in
set_option maxHeartbeats 2000000 in
theorem awake_any (w : World) : Calls Try.prog 9 #[] w fun e w' => e = .returned (.bool true) ∧ Below w.heap.size w w' := by
  have hB := Below.refl w.heap.size w
  go_enter Try.func9, Try.ntmps9
  go_wp2_with fail
  refine (kids_awake _).mono ?_
  rintro e w1 ⟨b, off, c, g0, c0, g1, c1, g2, c2, rfl, ⟨⟨k0, k1, k2⟩, r0, r1, r2⟩, hb1⟩
  have hB1 := chain0 hB hb1
  have hix : ∀ (k : Nat) W, k < 3 → (Instr.indexAt 25 (.slice (some ⟨b, off, none⟩) 3 c) (.int .i64 (k : Int))).run Try.prog W = .ok (.pointer (some ⟨b, off + k, none⟩)) W := fun k W hk => by
    obtain ⟨j0, hj, _, hj1, _⟩ := info_parts pieceInfo
    have := run_ix Try.underlying25 hj hj1 b off 3 c k (k : Int) rfl hk W
    rwa [Nat.mul_one] at this
  have ix0 := fun W => hix 0 W (by decide)
  have ix1 := fun W => hix 1 W (by decide)
  have ix2 := fun W => hix 2 W (by decide)
  have hiy : ∀ g d (W : World), (Instr.indexAt 22 (.slice (some ⟨g, 0, none⟩) 1 d) (.int .i64 0)).run Try.prog W = .ok (.pointer (some ⟨g, 0, none⟩)) W := fun g d W => by
    obtain ⟨j0, hj, _, hj1, _⟩ := info_parts byteInfo
    exact run_ix Try.underlying22 hj hj1 g 0 1 d 0 0 rfl (by decide) W
  have iy0 := hiy g0 c0
  have iy1 := hiy g1 c1
  have iy2 := hiy g2 c2
  have s0 : w1.cell? ⟨g0, 0, none⟩ = some (.int .u8 176) := by
    obtain ⟨b', o', e, h⟩ := r0.cellAt 0 (by decide)
    injection e with e
    injection e with e1 e2
    subst e1 e2
    exact h
  have s1 : w1.cell? ⟨g1, 0, none⟩ = some (.int .u8 192) := by
    obtain ⟨b', o', e, h⟩ := r1.cellAt 0 (by decide)
    injection e with e
    injection e with e1 e2
    subst e1 e2
    exact h
  have s2 : w1.cell? ⟨g2, 0, none⟩ = some (.int .u8 240) := by
    obtain ⟨b', o', e, h⟩ := r2.cellAt 0 (by decide)
    injection e with e
    injection e with e1 e2
    subst e1 e2
    exact h
  simp only [Nat.add_zero, Int.natCast_zero, Int.natCast_one] at ix0 ix1 ix2
  clear hix hiy hB hb1
  go_wp2_with fail
  obtain ⟨ws, hws⟩ : ∃ W, W = w1 := ⟨_, rfl⟩
  have hB := hB1
  clear hB1
  have hk0 : ∀ W, RB w1.heap.size ⟨#[]⟩ 0 w1.drew W → W.cell? ⟨b, off, none⟩ = some (.slice (some ⟨g0, 0, none⟩) 1 c0) := fun W h => (h.be.cell (p := ⟨b, off, none⟩) (World.block_lt_of_cell? w1 _ (by rw [k0]))).trans k0
  have hk1 : ∀ W, RB w1.heap.size ⟨#[]⟩ 0 w1.drew W → W.cell? ⟨b, off + 1, none⟩ = some (.slice (some ⟨g1, 0, none⟩) 1 c1) := fun W h => (h.be.cell (p := ⟨b, off + 1, none⟩) (World.block_lt_of_cell? w1 _ (by rw [k1]))).trans k1
  clear k0 k1 k2 s0 s1 s2 ix2 iy0 iy1 iy2 r2 hws
  refine wp_region_facts (R := RB w1.heap.size (⟨#[]⟩) (0)) [eqF w1.heap.size (⟨#[]⟩) (0) 50 (.slice (some ⟨b, off, none⟩) 3 c), eqF w1.heap.size (⟨#[]⟩) (0) 51 (.pointer (some ⟨b, off, none⟩)), eqF w1.heap.size (⟨#[]⟩) (0) 52 (.slice (some ⟨g0, 0, none⟩) 1 c0), eqF w1.heap.size (⟨#[]⟩) (0) 53 (.slice (some ⟨b, off, none⟩) 3 c), eqF w1.heap.size (⟨#[]⟩) (0) 54 (.pointer (some ⟨b, off + 1, none⟩)), eqF w1.heap.size (⟨#[]⟩) (0) 55 (.slice (some ⟨g1, 0, none⟩) 1 c1), someF w1.heap.size ⟨#[]⟩ 0 56 (fun x : Nat × Nat => .tuple #[.slice (some ⟨x.1, 0, none⟩) 1 x.2, .int .i64 0]) (fun x W => RdB W (some ⟨x.1, 0, none⟩) [188]) (fun _ _ _ h k => h.rd k), someF w1.heap.size ⟨#[]⟩ 0 49 (fun x : Nat × Nat => .tuple #[.slice (some ⟨x.1, 0, none⟩) 1 x.2, .int .i64 0]) (fun x W => RdB W (some ⟨x.1, 0, none⟩) [188]) (fun _ _ _ h k => h.rd k), someF w1.heap.size ⟨#[]⟩ 0 57 (fun x : Nat × Nat => .slice (some ⟨x.1, 0, none⟩) 1 x.2) (fun x W => RdB W (some ⟨x.1, 0, none⟩) [188]) (fun _ _ _ h k => h.rd k), eqF w1.heap.size (⟨#[]⟩) (0) 58 (.int .i64 0), someF w1.heap.size ⟨#[]⟩ 0 3 (fun x : Nat × Nat => .slice (some ⟨x.1, 0, none⟩) 1 x.2) (fun x W => RdB W (some ⟨x.1, 0, none⟩) [188]) (fun _ _ _ h k => h.rd k), eqF w1.heap.size (⟨#[]⟩) (0) 4 (.int .i64 0)] (by kernel_rfl) (by kernel_rfl) (by kernel_rfl) (RB.refl (Nat.le_refl _)) (fun _ h => h.again) (fun _ _ _ h k => h.trans k) ?_ ?_
  · refine stepsU_cons rfl ?_ (stepsU_cons rfl ?_ (stepsU_cons rfl ?_ (stepsU_cons rfl ?_ (stepsU_cons rfl ?_ (stepsU_cons rfl ?_ (stepsU_cons rfl ?_ (stepsU_cons rfl ?_ (stepsU_cons rfl ?_ (stepsU_cons rfl ?_ (stepsU_cons rfl ?_ (stepsU_cons rfl ?_ (stepsU_nil))))))))))))
    · refine stepU_plain rfl fun u wr hR hK hD => ?_; exact upon_move _ _ rfl (hK 1 rfl) ⟨hR.again, rfl⟩
    · refine stepU_plain rfl fun u wr hR hK hD => ?_; have z : u 50 = _ := (hD 0 rfl); exact upon_val _ (by unfold execOp; simp [go_sem, evU, z, ix0]) ⟨hR.again, rfl⟩
    · refine stepU_plain rfl fun u wr hR hK hD => ?_; have z : u 51 = _ := (hD 1 rfl); have k := hk0 wr hR; exact upon_val _ (by unfold execOp; simp [go_sem, evU, z, k]) ⟨hR.again, rfl⟩
    · refine stepU_plain rfl fun u wr hR hK hD => ?_; exact upon_move _ _ rfl (hK 1 rfl) ⟨hR.again, rfl⟩
    · refine stepU_plain rfl fun u wr hR hK hD => ?_; have z : u 53 = _ := (hD 3 rfl); exact upon_val _ (by unfold execOp; simp [go_sem, evU, z, ix1]) ⟨hR.again, rfl⟩
    · refine stepU_plain rfl fun u wr hR hK hD => ?_; have z : u 54 = _ := (hD 4 rfl); have k := hk1 wr hR; exact upon_val _ (by unfold execOp; simp [go_sem, evU, z, k]) ⟨hR.again, rfl⟩
    · refine stepU_plain rfl fun u wr hR hK hD => ?_; exact upon_call3 _ _ _ _ _ _ _ Try.func15 (by kernel_rfl) rfl rfl (hD 2 rfl) (hD 5 rfl) ((between_awake _ _ c0 c1 wr (hR.rd r0) (hR.rd r1)).mono fun e wn ⟨g, cap, he, hr, hb⟩ => ⟨_, he, hR.next hb, ⟨(g, cap), rfl, hr⟩⟩)
    · refine stepU_plain rfl fun u wr hR hK hD => ?_; obtain ⟨x, h1, h2⟩ := (hD 6 rfl); exact upon_move _ _ rfl h1 ⟨hR.again, ⟨x, rfl, h2⟩⟩
    · refine stepU_plain rfl fun u wr hR hK hD => ?_; obtain ⟨x, h1, h2⟩ := (hD 7 rfl); exact upon_extract _ 0 _ _ rfl h1 rfl ⟨hR.again, ⟨x, rfl, h2⟩⟩
    · refine stepU_plain rfl fun u wr hR hK hD => ?_; obtain ⟨x, h1, h2⟩ := (hD 7 rfl); exact upon_extract _ 1 _ _ rfl h1 rfl ⟨hR.again, rfl⟩
    · refine stepU_plain rfl fun u wr hR hK hD => ?_; obtain ⟨x, h1, h2⟩ := (hD 8 rfl); exact upon_assign _ _ rfl h1 ⟨hR.again, ⟨x, rfl, h2⟩⟩
    · refine stepU_plain rfl fun u wr hR hK hD => ?_; exact upon_assign _ _ rfl (hD 9 rfl) ⟨hR.again, rfl⟩
  intro u w2 hR hF
  have e50 : u 50 = .slice (some ⟨b, off, none⟩) 3 c := hF 0 (by decide)
  have e51 : u 51 = .pointer (some ⟨b, off, none⟩) := hF 1 (by decide)
  have e52 : u 52 = .slice (some ⟨g0, 0, none⟩) 1 c0 := hF 2 (by decide)
  have e53 : u 53 = .slice (some ⟨b, off, none⟩) 3 c := hF 3 (by decide)
  have e54 : u 54 = .pointer (some ⟨b, off + 1, none⟩) := hF 4 (by decide)
  have e55 : u 55 = .slice (some ⟨g1, 0, none⟩) 1 c1 := hF 5 (by decide)
  have e58 : u 58 = .int .i64 0 := hF 9 (by decide)
  have e4 : u 4 = .int .i64 0 := hF 11 (by decide)
  obtain ⟨⟨a56, p56⟩, e56, r56⟩ := hF 6 (by decide)
  dsimp only at e56 r56
  obtain ⟨⟨a49, p49⟩, e49, r49⟩ := hF 7 (by decide)
  dsimp only at e49 r49
  obtain ⟨⟨a57, p57⟩, e57, r57⟩ := hF 8 (by decide)
  dsimp only at e57 r57
  obtain ⟨⟨a3, p3⟩, e3, r3⟩ := hF 10 (by decide)
  dsimp only at e3 r3
  simp only [finU, Act.put, List.setIfInBounds_toArray, List.set_cons_succ, List.set_cons_zero, e50, e51, e52, e53, e54, e55, e56, e49, e57, e58, e3, e4]
  clear hF e50 e51 e52 e53 e54 e55 e56 e49 e57 e58 e3 e4
  have hB2 : Below w.heap.size w w2 := chain hB.drew hB.size hR.be
  have hb_w2 : Below w1.heap.size w1 w2 := ⟨hR.be.os, hR.be.tape, hR.be.output, hR.be.size, hR.be.block⟩
  clear hB hR 
  have hB := hB2
  clear hB2
  clear r56 r49 r57 r0 r1 hk0 hk1 ix0 ix1
  go_wp2_with fail
  refine (parent_awake _ _ _ r3).mono ?_
  rintro e w3 ⟨gq, cq, rfl, hq, hb3⟩
  have hB2 : Below w.heap.size w w3 := by first | exact chain0 hB hb3 | exact chain1 hB hb3 | exact chain2 hB hb3 | exact chain3 hB hb3
  clear hB
  have hB := hB2
  clear hB2
  have r4 := r3.keep hb3
  clear r3 hq
  obtain ⟨b', o', e', h'⟩ := r4.cellAt 0 (by decide)
  injection e' with e'
  injection e' with e1 e2
  subst e1 e2
  have h'' : w3.cell? ⟨a3, 0, none⟩ = some (.int .u8 188) := h'
  have hiy : ∀ (W : World), (Instr.indexAt 22 (.slice (some ⟨a3, 0, none⟩) 1 p3) (.int .i64 0)).run Try.prog W = .ok (.pointer (some ⟨a3, 0, none⟩)) W := fun W => by
    obtain ⟨j0, hj, _, hj1, _⟩ := info_parts byteInfo
    exact run_ix Try.underlying22 hj hj1 a3 0 1 p3 0 0 rfl (by decide) W
  clear h'
  go_wp2_with fail
  refine (level_yes _ [188] [[false, true, true]] 1 _ _ r4 rfl (by decide) isL_ex3).mono ?_
  rintro e w4 ⟨rfl, hb4⟩
  have hB2 : Below w.heap.size w w4 := by first | exact chain0 hB hb4 | exact chain1 hB hb4 | exact chain2 hB hb4 | exact chain3 hB hb4
  clear hB
  have hB := hB2
  clear hB2
  have r5 := r4.keep hb4
  clear r4
  go_wp2_with fail
  refine (right_yesL _ [188] [[false, true, true]] 1 _ _ r5 rfl (by decide) isL_ex3).mono ?_
  rintro e w5 ⟨rfl, hb5⟩
  have hB2 : Below w.heap.size w w5 := by first | exact chain0 hB hb5 | exact chain1 hB hb5 | exact chain2 hB hb5 | exact chain3 hB hb5
  clear hB
  have hB := hB2
  clear hB2
  have r6 := r5.keep hb5
  clear r5
  go_wp2_with fail
  refine (above_both none _ [] [188] [] [[false, true, true]] 0 0 1 _ true _ (.inl rfl) r6 rfl rfl (by decide) (by decide) isL_root isL_ex3 rfl).mono ?_
  rintro e w6 ⟨rfl, hb6⟩
  have hB2 : Below w.heap.size w w6 := by first | exact chain0 hB hb6 | exact chain1 hB hb6 | exact chain2 hB hb6 | exact chain3 hB hb6
  clear hB
  have hB := hB2
  clear hB2
  go_wp2
  go_ret
  exact ⟨rfl, hB⟩
end Go.Proofs.Ytofbcgehemclbaa

