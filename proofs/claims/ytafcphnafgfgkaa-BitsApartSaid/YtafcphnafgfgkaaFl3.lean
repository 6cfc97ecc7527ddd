/- parchmentkit.flatBytes of pieces that lie apart. -/
import Derived.Test.YtafcphnafgfgkaaFl2
namespace Go.Proofs.Ytafcphnafgfgkaa
open Go.RowKit Bm
def mk1 (k : Nat) : Nat → Nat → List UInt8 := fun j n => if j < k then marks j n else []
def mk2 (k i : Nat) : Nat → Nat → List UInt8 := fun j n => if j = k then marks j i else if j < k then marks j n else []
structure F1 (Bz gl cl : Nat) (w W : World) (ps : List Pc) (f : Nat → Nat → List UInt8) : Prop where
  ls : Ls W gl cl ps
  al : All W ps f
  be : KeptB ps w W
set_option maxRecDepth 100000 in
set_option maxHeartbeats 4000000 in
theorem flatBytes_any (gl cl N : Nat) (ps : List Pc) (w : World) (hN : N = ps.length) (hN0 : ps ≠ []) (hNb : N ≤ 1000) (hls : Ls w gl cl ps) (hal : All w ps (fun _ _ => [])) (hd : Dist ps) (hsm : ∀ p ∈ ps, p.2.1 ≤ 1000 ∧ p.2.1 ≤ p.2.2) :
    Calls Try.prog 49 #[.slice (some ⟨gl, 0, none⟩) N cl] w fun e w' => e = .returned (.bool true) ∧ KeptB ps w w' := by
  have HN := hide hN
  have Hd := hide hd
  have Hsm := hide hsm
  have hF0 : F1 w.heap.size gl cl w w ps (mk1 0) := ⟨hls, hal.congr fun j p _ => by simp [mk1], KeptB.refl _ _⟩
  clear hN hd hsm hls hal
  go_enter Try.func49, Try.ntmps49
  go_wp2_with fail
  go_loopw [3] (fun x W => ∃ k : Nat, k ≤ N ∧ x = .int .i64 k ∧ F1 w.heap.size gl cl w W ps (mk1 k)) (fun x _ => N - (intOf x).toNat)
  case atStart => exact ⟨0, Nat.zero_le _, rfl, hF0⟩
  case round =>
    clear hF0
    obtain ⟨k, hk, rfl, F⟩ := hrel
    by_cases hkN : k < N
    · obtain ⟨p, hp⟩ : ∃ p, ps[k]? = some p := ⟨_, List.getElem?_eq_getElem (by rw [← HN.out]; exact hkN)⟩
      obtain ⟨b, n, c⟩ := p
      have hpm := List.mem_of_getElem? hp
      have hsz := Hsm.out _ hpm
      have hn1 : n ≤ 1000 := hsz.1
      have hnc : n ≤ c := hsz.2
      have hix := fun W => ix_pc gl 0 N cl k hkN W
      simp only [Nat.zero_add] at hix
      have hF1 : F1 w.heap.size gl cl w wr ps (mk2 k 0) := ⟨F.ls, F.al.congr fun j p hp => by
        unfold mk1 mk2
        by_cases e : j = k
        · subst e; simp [marks]
        · rw [if_neg e], F.be⟩
      have Hp := hide hp
      clear F hp hsz
      go_wp2_with fail
      go_loopw [4] (fun x W => ∃ i : Nat, i ≤ n ∧ x = .int .i64 i ∧ F1 w.heap.size gl cl w W ps (mk2 k i)) (fun x _ => n - (intOf x).toNat)
      case atStart => exact ⟨0, Nat.zero_le _, rfl, hF1⟩
      case round =>
        clear hF1
        obtain ⟨i, hi, rfl, F⟩ := hrel
        have hcl := F.ls.cell k _ Hp.out
        by_cases hin : i < n
        · have hct : Cont wr.drew (b, n, c) (marks k i) := by
            have h := (F.al k _ Hp.out).drew
            simpa [mk2] using h
          obtain ⟨g, hbg, hc1, hc2, hc3⟩ := hct.set (mkB k i) (by rw [length_marks]; exact Nat.lt_of_lt_of_le hin hnc)
          rw [length_marks] at hc1 hc2 hc3
          dsimp only at hbg
          subst hbg
          obtain ⟨w1, hw1⟩ : ∃ W, W = wr.drew.setCell ⟨g, i, none⟩ (.int .u8 ((mkB k i).toNat : Int)) := ⟨_, rfl⟩
          have hgr : wr.drew.grownBy w1 (some g) := by rw [hw1]; exact grown_setCell _ _ _
          have hgl : g ≠ gl := by
            rcases hct with ⟨h1, _⟩ | ⟨g', full, h1, h2, _⟩
            · cases h1
            · injection h1 with h1; subst h1; exact Ls.ne (W := wr.drew) F.ls h2 hN0
          have hls1 : Ls w1 gl cl ps := Ls.grown (W := wr.drew) F.ls hgr (by intro e; injection e with e; exact hgl e)
          rw [← hw1] at hc3
          have hF2 : F1 w.heap.size gl cl w w1 ps (mk2 k (i + 1)) := by
            refine ⟨hls1, ?_, F.be.drew.grown hgr fun b e => .inl ⟨_, hpm, by injection e with e; subst e; rfl⟩⟩
            have h1 : All wr.drew ps (mk2 k i) := F.al
            refine (h1.step Hd.out hgr k _ Hp.out (fun g' e => by injection e with e; subst e; exact .inl rfl) _ hc3).congr fun j p hp => ?_
            unfold mk2
            by_cases e : j = k
            · subst e; simp [marks_snoc]
            · simp [e]
          have hw : ∀ W, RS wr.drew w1 wr.drew W → W.cell? ⟨gl, k, none⟩ = some (.slice (some ⟨g, 0, none⟩) n c) ∧ (∃ v, W.cell? ⟨g, i, none⟩ = some v) ∧ W.frozen? ⟨g, i, none⟩ = false ∧ W.setCell ⟨g, i, none⟩ (.int .u8 ((mkB k i).toNat : Int)) = w1 := by
            intro W hW
            rcases hW.or with rfl | rfl
            · exact ⟨hcl, by cases h : wr.drew.cell? ⟨g, i, none⟩ with | none => exact absurd h hc1 | some v => exact ⟨v, rfl⟩, hc2, hw1.symm⟩
            · refine ⟨hls1.cell k _ Hp.out, ?_, ?_, by rw [hw1, setCell2]⟩
              · rcases hc3 with ⟨h1, _⟩ | ⟨g', full, h1, h2, h3, h4, h5, h6⟩
                · cases h1
                · injection h1 with h1; subst h1
                  rw [List.length_append, length_marks] at h6
                  exact ⟨_, h2.cell i (by rw [h3]; simp at h6; simp; omega)⟩
              · rcases hc3 with ⟨h1, _⟩ | ⟨g', full, h1, h2, h3, h4, h5, h6⟩
                · cases h1
                · injection h1 with h1; subst h1
                  rw [List.length_append, length_marks] at h6
                  exact h2.frozen i (by rw [h3]; simp at h6; simp; omega)
          have hiy : ∀ W, (Instr.indexAt 24 (.slice (some ⟨g, 0, none⟩) n c) (.int .i64 (i : Int))).run Try.prog W = .ok (.pointer (some ⟨g, i, none⟩)) W := fun W => by
            obtain ⟨j0, hj, _, hj1, _⟩ := info_parts byteInfo
            have := run_ix Try.underlying24 hj hj1 g 0 n c i (i : Int) rfl hin W
            simpa using this
          have hcl2 : wr.cell? ⟨gl, k, none⟩ = some (.slice (some ⟨g, 0, none⟩) n c) := hcl
          clear hct hc1 hc2 hc3 hgr hls1 F hw1 hcl
          go_wp2_with fail
          refine RV.wp_region_facts (R := RS wr.drew w1) [eqS wr.drew w1 31 (.slice (some ⟨gl, 0, none⟩) N cl), eqS wr.drew w1 32 (.int .i64 k), eqS wr.drew w1 33 (.pointer (some ⟨gl, k, none⟩)), eqS wr.drew w1 34 (.slice (some ⟨g, 0, none⟩) n c),
            eqS wr.drew w1 35 (.int .i64 i), eqS wr.drew w1 36 (.int .i64 k), eqS wr.drew w1 37 (.int .i64 i), eqS wr.drew w1 38 (.int .u8 ((mkB k i).toNat : Int)), eqS wr.drew w1 39 (.pointer (some ⟨g, i, none⟩)), doneS wr.drew w1] (by kernel_rfl) (by kernel_rfl) (by kernel_rfl) RS.refl0 (fun _ h => h.again) (fun _ _ _ h k => h.trans k) ?_ ?_
          · refine RV.stepsU_cons rfl ?_ (RV.stepsU_cons rfl ?_ (RV.stepsU_cons rfl ?_ (RV.stepsU_cons rfl ?_ (RV.stepsU_cons rfl ?_ (RV.stepsU_cons rfl ?_ (RV.stepsU_cons rfl ?_ (RV.stepsU_cons rfl ?_ (RV.stepsU_cons rfl ?_ (RV.stepsU_cons rfl ?_ RV.stepsU_nil)))))))))
            · refine RV.stepU_plain rfl fun u wr2 hR hK hD => ?_; exact upon_move _ _ rfl (hK 0 rfl) ⟨hR.again, rfl⟩
            · refine RV.stepU_plain rfl fun u wr2 hR hK hD => ?_; exact upon_move _ _ rfl (hK 3 rfl) ⟨hR.again, rfl⟩
            · refine RV.stepU_plain rfl fun u wr2 hR hK hD => ?_; have z1 : u 31 = _ := hD 0 rfl; have z2 : u 32 = _ := hD 1 rfl; exact upon_val _ (by unfold execOp; simp [go_sem, evU, z1, z2, hix]) ⟨hR.again, rfl⟩
            · refine RV.stepU_plain rfl fun u wr2 hR hK hD => ?_; have z1 : u 33 = _ := hD 2 rfl; have z2 := (hw wr2 hR).1; exact upon_val _ (by unfold execOp; simp [go_sem, evU, z1, z2]) ⟨hR.again, rfl⟩
            · refine RV.stepU_plain rfl fun u wr2 hR hK hD => ?_; exact upon_move _ _ rfl (hK 4 rfl) ⟨hR.again, rfl⟩
            · refine RV.stepU_plain rfl fun u wr2 hR hK hD => ?_; exact upon_move _ _ rfl (hK 3 rfl) ⟨hR.again, rfl⟩
            · refine RV.stepU_plain rfl fun u wr2 hR hK hD => ?_; exact upon_move _ _ rfl (hK 4 rfl) ⟨hR.again, rfl⟩
            · refine RV.stepU_plain rfl fun u wr2 hR hK hD => ?_; exact upon_call2 _ _ _ _ _ Try.func40 (by kernel_rfl) rfl (hD 5 rfl) (hD 6 rfl) ((markByte_any _ _ _).mono fun e wn ⟨he, hb⟩ => ⟨_, he, by rw [← hb]; exact hR.again, rfl⟩)
            · refine RV.stepU_plain rfl fun u wr2 hR hK hD => ?_; have z1 : u 34 = _ := hD 3 rfl; have z2 : u 35 = _ := hD 4 rfl; exact upon_val _ (by unfold execOp; simp [go_sem, evU, z1, z2, hiy]) ⟨hR.again, rfl⟩
            · refine RV.stepU_plain rfl fun u wr2 hR hK hD => ?_; obtain ⟨_, ⟨v, z1⟩, z2, z3⟩ := hw wr2 hR; exact upon_store8 _ _ g i _ v rfl (hD 8 rfl) (hD 7 rfl) z1 z2 (by rw [z3]; exact ⟨RS.to1 hR.or, rfl⟩)
          intro u w2 hR hF
          have e31 : u 31 = .slice (some ⟨gl, 0, none⟩) N cl := hF 0 (by decide)
          have hw2 : w2 = w1 := hF 9 (by decide)
          subst hw2
          simp only [finU, Act.put, List.setIfInBounds_toArray, List.set_cons_succ, List.set_cons_zero]
          clear hF hR hw e31
          go_wp2
          go_roundw
          case rel => exact ⟨i + 1, by omega, by go_num, hF2⟩
          case measure => simp [intOf]; omega
        · have hin' : i = n := by omega
          subst hin'
          have hF2 : F1 w.heap.size gl cl w wr ps (mk1 (k + 1)) := ⟨F.ls, F.al.congr fun j p hp => by
            unfold mk1 mk2
            by_cases e : j = k
            · subst e
              rw [Hp.out] at hp
              injection hp with hp
              rw [← hp]; simp
            · rw [if_neg e]
              by_cases h2 : j < k
              · rw [if_pos h2, if_pos (by omega)]
              · rw [if_neg h2, if_neg (by omega)], F.be⟩
          have hcl' : wr.cell? ⟨gl, k, none⟩ = some (.slice (pcA (b, i, c)) i c) := hcl
          clear F hcl
          go_wp2
          go_roundw
          case rel => exact ⟨k + 1, by omega, by go_num, hF2⟩
          case measure => simp [intOf]; omega
    · have hkN' : k = N := by omega
      subst hkN'
      -- all are marked; the grown ones
      have hal : All wr ps (fun j n => marks j n) := F.al.congr fun j p hp => by
        have := (List.getElem?_eq_some_iff.1 hp).1
        unfold mk1
        rw [if_pos (by rw [HN.out]; exact this)]
      have hmk := mk_list k (by omega) wr
      obtain ⟨gb, hgb⟩ : ∃ b, b = wr.heap.size := ⟨_, rfl⟩
      have hL : Lie w.heap.size gl gb ps := ⟨Hd.out, fun q hq g hg => by
          obtain ⟨j, hj⟩ := List.mem_iff_getElem?.1 hq
          rw [hgb]; exact (hal j q hj).lt g hg, by rw [hgb]; exact F.ls.lt, fun q hq e => by
          obtain ⟨j, hj⟩ := List.mem_iff_getElem?.1 hq
          rcases hal j q hj with ⟨h1, _⟩ | ⟨g, full, h1, h2, _⟩
          · rw [h1] at e; cases e
          · rw [h1] at e; injection e with e; exact F.ls.ne h2 hN0 e, by rw [hgb]; exact F.be.size⟩
      have hb1 := (Below.refl wr.heap.size wr).alloc (Nat.le_refl _) (.cells (List.replicate k (Value.slice none 0 0)).toArray 24)
      have hS : F2 ct2 w.heap.size gl cl gb w (wr.alloc (.cells (List.replicate k (Value.slice none 0 0)).toArray 24)) ps (List.replicate k (Value.slice none 0 0)) 0 (gb + 1) :=
        ⟨F.ls.keep hb1, hal.keep hb1, by rw [hgb]; exact Blk.new _ _ _, by rw [List.length_replicate]; exact HN.out, fun j p hj => absurd hj (by omega), by rw [hgb]; simp, Nat.le_refl _, F.be.keep hb1⟩
      rw [← hgb] at hmk
      obtain ⟨W1, hW1⟩ : ∃ W, W = wr.alloc (.cells (List.replicate k (Value.slice none 0 0)).toArray 24) := ⟨_, rfl⟩
      rw [← hW1] at hmk hS
      have HL := hide hL
      clear F hal hb1 hL hW1 hgb
      go_wp2_with fail
      clear hmk
      go_loopw [6] (fun x W => ∃ (m : Nat) (vs : List Value) (base : Nat), m ≤ k ∧ x = .int .i64 m ∧ F2 ct2 w.heap.size gl cl gb w W ps vs m base) (fun x _ => k - (intOf x).toNat)
      case atStart => exact ⟨0, _, _, Nat.zero_le _, rfl, hS⟩
      case round =>
        clear hS
        obtain ⟨m, vs, base0, hm, rfl, F0⟩ := hrel
        have F : F2 ct2 w.heap.size gl cl gb w wr ps vs m wr.heap.size := ⟨F0.ls, F0.al, F0.gs, F0.ln, fun j p hj hp => by
          obtain ⟨v, h1, h2, h3⟩ := F0.st j p hj hp
          exact ⟨v, h1, h2, fun b hb => Nat.lt_of_lt_of_le (h3 b hb) F0.bs⟩, Nat.le_refl _, Nat.le_trans F0.gb1 F0.bs, F0.be⟩
        clear F0
        by_cases hmk : m < k
        · obtain ⟨p, hp⟩ : ∃ p, ps[m]? = some p := ⟨_, List.getElem?_eq_getElem (by rw [← HN.out]; exact hmk)⟩
          obtain ⟨b, n, c⟩ := p
          have hpm := List.mem_of_getElem? hp
          have hsz := Hsm.out _ hpm
          have hn1 : n ≤ 1000 := hsz.1
          have hix := fun W => ix_pc gl 0 k cl m hmk W
          have hix2 := fun W => ix_pc gb 0 k k m hmk W
          simp only [Nat.zero_add] at hix hix2
          obtain ⟨base, hbase⟩ : ∃ x, x = wr.heap.size := ⟨_, rfl⟩
          rw [← hbase] at F
          have hG0 : Gr base wr (b, n, c) (pcV (b, n, c)) (marks m (n + 0)) := Gr.start (F.al m _ hp) (by rw [length_marks]; rfl)
          have hcl : wr.cell? ⟨gl, m, none⟩ = some (.slice (pcA (b, n, c)) n c) := F.ls.cell m _ hp
          have Hp := hide hp
          clear hp hsz
          go_wp2_with fail
          go_loopw [7, 8] (fun v x W => ∃ i : Nat, i ≤ 64 ∧ x = .int .i64 i ∧ F2 ct2 w.heap.size gl cl gb w W ps vs m base ∧ Gr base W (b, n, c) v (marks m (n + i))) (fun _ x _ => 64 - (intOf x).toNat)
          case atStart => exact ⟨0, by omega, rfl, F, hG0⟩
          case round =>
            clear F hG0 hcl hbase
            obtain ⟨i, hi, rfl, F, G⟩ := hrel
            obtain ⟨av, cv, hv, hrdv⟩ := G.form
            subst hv
            rw [length_marks]
            rw [length_marks] at G
            by_cases hi64 : i < 64
            · have hcl : wr.cell? ⟨gl, m, none⟩ = some (.slice (pcA (b, n, c)) n c) := F.ls.cell m _ Hp.out
              have hks := (Below.refl wr.heap.size wr).alloc (Nat.le_refl _) (.cells #[.int .u8 ((mkB m ((n : Int) + i)).toNat : Int)] 5)
              have hbz : w.heap.size ≤ wr.heap.size := Nat.le_trans (Nat.le_trans HL.out.b (by have := F.gb1; omega)) F.bs
              have hF1 := F.keep hks hbz
              have hG1 := G.keep hks
              have hbs := F.bs
              have hpb : ∀ g, b = some g → g < base := fun g hg => by have := HL.out.g _ hpm g hg; have := F.gb1; omega
              have hmm : marks m (n + i) ++ [mkB m ((n : Int) + i)] = marks m (n + (i + 1)) := by
                have := marks_snoc m (n + i)
                rw [show ((n + i : Nat) : Int) = (n : Int) + i from by omega] at this
                rw [← Nat.add_assoc]; exact this.symm
              have HF1 := hide hF1
              have HG1 := hide hG1
              have Hpb := hide hpb
              have Hmm := hide hmm
              clear F G hks hbz hF1 hG1 hpb hmm hrdv
              go_wp2_with fail
              refine (markByte_any _ _ _).mono ?_
              rintro e w' ⟨rfl, rfl⟩
              go_wp2_with (at_builtin; refine wpList_appG (B := base) (p := (b, n, c)) (xs := marks m (n + i)) (ys := [mkB m ((n : Int) + i)]) rfl _ _ rfl (some ⟨wr.heap.size, 0, none⟩) 1 1 rfl rfl ?a1 ?a2 rfl ?a3 ?a4 ?a5 ?_)
              case a1 => exact HG1.out
              case a2 => exact rd_one _ _ _ rfl
              case a3 => rw [length_marks]; simp; omega
              case a4 => simp; omega
              case a5 => exact Hpb.out
              intro v' W3 G3 hg3
              have F3 : F2 ct2 w.heap.size gl cl gb w W3 ps vs m base := HF1.out.app HL.out Hp.out HG1.out G3 (by rw [Hmm.out]; exact marks_take m _ n (by omega)) hg3
              rw [Hmm.out] at G3
              clear HF1 HG1 hg3 hcl
              go_wp2
              go_roundw
              case rel => exact ⟨i + 1, by omega, by go_num, F3, G3⟩
              case measure => simp [intOf]; omega
            · have hi' : i = 64 := by omega
              subst hi'
              have hmv : m < vs.length := by rw [F.ln, ← HN.out]; exact hmk
              have hcg : wr.cell? ⟨gb, m, none⟩ = some vs[m] := by rw [F.gs.cell m]; simp [hmv]
              have hfg := F.gs.frozen m
              have F' := F.put HL.out Hp.out G
              have hls := F'.bs
              clear F G hrdv
              go_wp2
              go_roundw
              case rel => exact ⟨m + 1, _, _, by omega, by go_num, F'⟩
              case measure => simp [intOf]; omega
        · have hmk' : m = k := by omega
          subst hmk'
          obtain ⟨base, hbase⟩ : ∃ x, x = wr.heap.size := ⟨_, rfl⟩
          rw [← hbase] at F
          clear hbase
          have hBzs : ∀ W vs base, F2 ct2 w.heap.size gl cl gb w W ps vs m base → w.heap.size ≤ W.heap.size := fun W vs base F => Nat.le_trans (Nat.le_trans HL.out.b (by have := F.gb1; omega)) F.bs
          have HBzs := hide hBzs
          clear hBzs
          go_wp2_with fail
          go_loopw [9] (fun x W => ∃ q : Nat, q ≤ m ∧ x = .int .i64 q ∧ F2 ct2 w.heap.size gl cl gb w W ps vs m base) (fun x _ => m - (intOf x).toNat)
          case atStart => exact ⟨0, Nat.zero_le _, rfl, F⟩
          case round =>
            clear F
            obtain ⟨q, hq, rfl, F⟩ := hrel
            by_cases hqm : q < m
            · obtain ⟨p, hp⟩ : ∃ p, ps[q]? = some p := ⟨_, List.getElem?_eq_getElem (by rw [← HN.out]; exact hqm)⟩
              obtain ⟨b, n, c⟩ := p
              have hpm := List.mem_of_getElem? hp
              have hsz := Hsm.out _ hpm
              have hn1 : n ≤ 1000 := hsz.1
              have hix := fun W => ix_pc gl 0 m cl q hqm W
              have hix2 := fun W => ix_pc gb 0 m m q hqm W
              simp only [Nat.zero_add] at hix hix2
              have Hp := hide hp
              clear hp hsz
              go_wp2_with fail
              go_loopw [10] (fun x W => ∃ i : Nat, i ≤ n + 64 ∧ x = .int .i64 i ∧ F2 ct2 w.heap.size gl cl gb w W ps vs m base) (fun x _ => n + 64 - (intOf x).toNat)
              case atStart => exact ⟨0, by omega, rfl, F⟩
              case round =>
                clear F
                obtain ⟨i, hi, rfl, F⟩ := hrel
                obtain ⟨av, cv, hcg, hrv⟩ := F.grownAt q _ hqm Hp.out
                dsimp only [ct2] at hcg hrv
                rw [length_marks] at hcg
                obtain ⟨nv, hnv⟩ : ∃ x, x = n + 64 := ⟨_, rfl⟩
                rw [← hnv] at hcg hrv hi
                have hnvb : nv ≤ 1064 := by omega
                have Hnv := hide hnv
                clear hnv
                by_cases hin : i < nv
                · obtain ⟨bv, ov, hav, hcv⟩ := mark_at hrv i hin
                  subst hav
                  have hiv := fun W => ix_u8 bv ov nv cv i hin W
                  have hcl : wr.cell? ⟨gl, q, none⟩ = some (.slice (pcA (b, n, c)) n c) := F.ls.cell q _ Hp.out
                  have l1 := later_cell hcg
                  have l2 := later_cell hcv
                  have l3 := later_cell hcl
                  have hdn : decide (i < nv) = true := decide_eq_true hin
                  by_cases hin2 : i < n
                  · have hd2 : decide (i < n) = true := decide_eq_true hin2
                    obtain ⟨bp, op, hap, hcp⟩ := mark_at (F.al q _ Hp.out).rd i hin2
                    rw [hap] at l3 hcl
                    have hip := fun W => ix_u8 bp op n c i hin2 W
                    have l4 := later_cell hcp
                    clear hcv hcp hrv hap
                    go_wp2_with fail
                    clear hcg hcl
                    refine wp_region_later (by kernel_rfl) (by kernel_rfl) ?_
                    repeat (go_big_quiet_step ((go_at_call 40; exact later_same (markByte_any _ _ _))))
                    clear l4
                    refine wpQuiet_nil ?_
                    intro w7 hw7
                    obtain ⟨⟨w7', hb7⟩, hw7'⟩ := hw7
                    change w7 = w7' at hw7'
                    subst hw7'
                    have F' := F.keep hb7 (HBzs.out _ _ _ F)
                    clear F l1 l2 l3 hb7
                    go_wp2
                    go_roundw
                    case rel => exact ⟨i + 1, by have := Hnv.out; omega, by go_num, F'⟩
                    case measure => simp [intOf]; have := Hnv.out; omega
                  · have hd2 : decide (i < n) = false := decide_eq_false hin2
                    clear hcv hrv
                    go_wp2_with fail
                    clear hcg hcl
                    refine wp_region_later (by kernel_rfl) (by kernel_rfl) ?_
                    repeat (go_big_quiet_step ((go_at_call 40; exact later_same (markByte_any _ _ _))))
                    refine wpQuiet_nil ?_
                    intro w7 hw7
                    obtain ⟨⟨w7', hb7⟩, hw7'⟩ := hw7
                    change w7 = w7' at hw7'
                    subst hw7'
                    have F' := F.keep hb7 (HBzs.out _ _ _ F)
                    clear F l1 l2 l3 hb7
                    go_wp2
                    go_roundw
                    case rel => exact ⟨i + 1, by have := Hnv.out; omega, by go_num, F'⟩
                    case measure => simp [intOf]; have := Hnv.out; omega
                · have hin' : i = nv := by omega
                  have hdn : decide (i < nv) = false := decide_eq_false (by omega)
                  clear hrv
                  go_wp2
                  go_roundw
                  case rel => exact ⟨q + 1, by omega, by go_num, F⟩
                  case measure => simp [intOf]; omega
            · have hqm' : q = m := by omega
              subst hqm'
              have F4 : F2 (ct4 q) w.heap.size gl cl gb w wr ps vs 0 base := ⟨F.ls, F.al, F.gs, F.ln, fun j p hj => absurd hj (by omega), F.bs, F.gb1, F.be⟩
              clear F HBzs
              go_wp2_with fail
              go_loopw [11] (fun x W => ∃ (m : Nat) (vs : List Value) (base : Nat), m ≤ q ∧ x = .int .i64 m ∧ F2 (ct4 q) w.heap.size gl cl gb w W ps vs m base) (fun x _ => q - (intOf x).toNat)
              case atStart => exact ⟨0, _, _, Nat.zero_le _, rfl, F4⟩
              case round =>
                clear F4
                obtain ⟨m, vs, base0, hm, rfl, F0⟩ := hrel
                have F : F2 (ct4 q) w.heap.size gl cl gb w wr ps vs m wr.heap.size := ⟨F0.ls, F0.al, F0.gs, F0.ln, fun j p hj hp => by
                  obtain ⟨v, h1, h2, h3⟩ := F0.st j p hj hp
                  exact ⟨v, h1, h2, fun b hb => Nat.lt_of_lt_of_le (h3 b hb) F0.bs⟩, Nat.le_refl _, Nat.le_trans F0.gb1 F0.bs, F0.be⟩
                clear F0
                by_cases hmq : m < q
                · obtain ⟨p, hp⟩ : ∃ p, ps[m]? = some p := ⟨_, List.getElem?_eq_getElem (by rw [← HN.out]; exact hmq)⟩
                  obtain ⟨b, n, c⟩ := p
                  have hpm := List.mem_of_getElem? hp
                  have hn1 : n ≤ 1000 := (Hsm.out _ hpm).1
                  obtain ⟨base, hbase⟩ : ∃ x, x = wr.heap.size := ⟨_, rfl⟩
                  have hmk : (Instr.makeSlice 24 (.int .i64 64) (.int .i64 64)).run Try.prog wr = .ok (.slice (some ⟨wr.heap.size, 0, none⟩) 64 64) (wr.alloc (.cells (Lib.byteCells (zeros 64)).toArray 5)) := run_mk 64 (by decide) wr
                  rw [← hbase] at F hmk
                  have hks := (Below.refl wr.heap.size wr).alloc (Nat.le_refl _) (.cells (Lib.byteCells (zeros 64)).toArray 5)
                  have hF1 := F.keep hks (Nat.le_trans (Nat.le_trans HL.out.b (by have := F.gb1; omega)) F.bs)
                  have hK1 : Bk (wr.alloc (.cells (Lib.byteCells (zeros 64)).toArray 5)) base (marks ((m : Int) + q) 0 ++ zeros (64 - 0)) := by
                    rw [hbase]
                    simp only [marks, List.range_zero, List.map_nil, List.nil_append]
                    exact Blk.new _ _ _
                  obtain ⟨W1, hW1⟩ : ∃ W, W = wr.alloc (.cells (Lib.byteCells (zeros 64)).toArray 5) := ⟨_, rfl⟩
                  rw [← hW1] at hmk hF1 hK1
                  have Hp := hide hp
                  clear F hks hbase hW1 hp
                  go_wp2_with fail
                  clear hmk
                  go_loopw [13] (fun x W => ∃ i : Nat, i ≤ 64 ∧ x = .int .i64 i ∧ F2 (ct4 q) w.heap.size gl cl gb w W ps vs m base ∧ Bk W base (marks ((m : Int) + q) i ++ zeros (64 - i))) (fun x _ => 64 - (intOf x).toNat)
                  case atStart => exact ⟨0, by omega, rfl, hF1, hK1⟩
                  case round =>
                    clear hF1 hK1
                    obtain ⟨i, hi, rfl, F, K⟩ := hrel
                    by_cases hi64 : i < 64
                    · have hlen : (marks ((m : Int) + q) i ++ zeros (64 - i)).length = 64 := by rw [List.length_append, length_marks]; simp [zeros]; omega
                      obtain ⟨full, hfull⟩ : ∃ x, x = marks ((m : Int) + q) i ++ zeros (64 - i) := ⟨_, rfl⟩
                      rw [← hfull] at hlen K
                      have hcm : wr.cell? ⟨base, i, none⟩ = some (.int .u8 ((full[i]'(by omega)).toNat : Int)) := (Rw.of_bk K).cell i (by omega)
                      have hfm := (Rw.of_bk K).frozen i (by omega)
                      have him := fun W => ix_u8 base 0 64 64 i hi64 W
                      simp only [Nat.zero_add] at him
                      have hF' := F.far HL.out (grown_setCell wr ⟨base, i, none⟩ (.int .u8 ((mkB ((m : Int) + q) i).toNat : Int))) (Nat.le_refl _)
                      have hK' := K.set_ i (mkB ((m : Int) + q) i)
                      rw [hfull, fill_set _ _ hi64] at hK'
                      clear F K hfull
                      go_wp2_with fail
                      refine (markByte_any _ _ _).mono ?_
                      rintro e w' ⟨rfl, rfl⟩
                      go_wp2
                      go_roundw
                      case rel => exact ⟨i + 1, by omega, by go_num, hF', hK'⟩
                      case measure => simp [intOf]; omega
                    · have hi' : i = 64 := by omega
                      subst hi'
                      have hG0 : Gr base wr (b, n, c) (.slice (pcA (b, n, c)) n c) (marks m n) := Gr.start (F.al m _ Hp.out) (by rw [length_marks])
                      have hrm : RdB wr (some ⟨base, 0, none⟩) (marks ((m : Int) + q) 64) := by
                        have := (Rw.of_bk K).rd 64
                        rwa [List.take_left' (length_marks _ _)] at this
                      have hcl : wr.cell? ⟨gl, m, none⟩ = some (.slice (pcA (b, n, c)) n c) := F.ls.cell m _ Hp.out
                      have hix := fun W => ix_pc gl 0 q cl m hmq W
                      have hix2 := fun W => ix_pc gb 0 q q m hmq W
                      simp only [Nat.zero_add] at hix hix2
                      have HF := hide F
                      have HG0 := hide hG0
                      have Hrm := hide hrm
                      clear F K hG0 hrm
                      go_wp2_with (at_builtin; refine wpList_appG (B := base) (p := (b, n, c)) (v := .slice (pcA (b, n, c)) n c) (xs := marks m n) (ys := marks ((m : Int) + q) 64) rfl _ _ rfl (some ⟨base, 0, none⟩) 64 64 rfl rfl ?b1 ?b2 ?b3 ?b4 ?b5 ?b6 ?_)
                      case b1 => exact HG0.out
                      case b2 => exact Hrm.out
                      case b3 => rw [length_marks]
                      case b4 => rw [length_marks, length_marks]; omega
                      case b5 => exact HF.out.bs
                      case b6 => intro g hg; have := HL.out.g _ hpm g hg; have := HF.out.gb1; omega
                      intro v' W3 G3 hg3
                      have F3 := HF.out.app HL.out Hp.out HG0.out G3 (List.take_left' (length_marks _ _)) hg3
                      obtain ⟨a', c', hv', _⟩ := G3.form
                      subst hv'
                      obtain ⟨l', hl'⟩ : ∃ x, x = (marks m n ++ marks ((m : Int) + q) 64).length := ⟨_, rfl⟩
                      rw [← hl']
                      rw [← hl'] at G3
                      have hmv : m < vs.length := by rw [F3.ln, ← HN.out]; exact hmq
                      have hcg : W3.cell? ⟨gb, m, none⟩ = some vs[m] := by rw [F3.gs.cell m]; simp [hmv]
                      have hfg := F3.gs.frozen m
                      have F' := F3.put HL.out Hp.out G3
                      have Hl' := hide hl'
                      clear F3 G3 hg3 HF HG0 Hrm hcl hl'
                      go_wp2
                      go_roundw
                      case rel => exact ⟨m + 1, _, _, by omega, by go_num, F'⟩
                      case measure => simp [intOf]; omega
                · have hmq' : m = q := by omega
                  subst hmq'
                  obtain ⟨base, hbase⟩ : ∃ x, x = wr.heap.size := ⟨_, rfl⟩
                  rw [← hbase] at F
                  clear hbase
                  have hBzs : ∀ W vs base, F2 (ct4 m) w.heap.size gl cl gb w W ps vs m base → w.heap.size ≤ W.heap.size := fun W vs base F => Nat.le_trans (Nat.le_trans HL.out.b (by have := F.gb1; omega)) F.bs
                  have HBzs := hide hBzs
                  clear hBzs
                  go_wp2_with fail
                  go_loopw [14] (fun x W => ∃ q : Nat, q ≤ m ∧ x = .int .i64 q ∧ F2 (ct4 m) w.heap.size gl cl gb w W ps vs m base) (fun x _ => m - (intOf x).toNat)
                  case atStart => exact ⟨0, Nat.zero_le _, rfl, F⟩
                  case round =>
                    clear F
                    obtain ⟨q, hq, rfl, F⟩ := hrel
                    by_cases hqm : q < m
                    · obtain ⟨p, hp⟩ : ∃ p, ps[q]? = some p := ⟨_, List.getElem?_eq_getElem (by rw [← HN.out]; exact hqm)⟩
                      obtain ⟨b, n, c⟩ := p
                      have hpm := List.mem_of_getElem? hp
                      have hn1 : n ≤ 1000 := (Hsm.out _ hpm).1
                      have hix := fun W => ix_pc gl 0 m cl q hqm W
                      have hix2 := fun W => ix_pc gb 0 m m q hqm W
                      simp only [Nat.zero_add] at hix hix2
                      have Hp := hide hp
                      clear hp
                      go_wp2_with fail
                      go_loopw [15] (fun x W => ∃ i : Nat, i ≤ n ∧ x = .int .i64 i ∧ F2 (ct4 m) w.heap.size gl cl gb w W ps vs m base) (fun x _ => n - (intOf x).toNat)
                      case atStart => exact ⟨0, by omega, rfl, F⟩
                      case round =>
                        clear F
                        obtain ⟨i, hi, rfl, F⟩ := hrel
                        have hcl : wr.cell? ⟨gl, q, none⟩ = some (.slice (pcA (b, n, c)) n c) := F.ls.cell q _ Hp.out
                        by_cases hin : i < n
                        · obtain ⟨av, cv, hcg, hrv⟩ := F.grownAt q _ hqm Hp.out
                          dsimp only [ct4] at hcg hrv
                          rw [List.length_append, length_marks, length_marks] at hcg
                          obtain ⟨nv, hnv⟩ : ∃ x, x = n + 64 := ⟨_, rfl⟩
                          rw [← hnv] at hcg
                          have hinv : i < nv := by omega
                          have hnvb : nv ≤ 1064 := by omega
                          have hrv2 : RdB wr av (marks q n) := by
                            have := RdB.takeB hrv n
                            rwa [List.take_left' (length_marks _ _)] at this
                          obtain ⟨bv, ov, hav, hcv⟩ := mark_at hrv2 i hin
                          subst hav
                          have hiv := fun W => ix_u8 bv ov nv cv i hinv W
                          obtain ⟨bp, op, hap, hcp⟩ := mark_at (F.al q _ Hp.out).rd i hin
                          rw [hap] at hcl
                          have hip := fun W => ix_u8 bp op n c i hin W
                          have l1 := later_cell hcg
                          have l2 := later_cell hcv
                          have l3 := later_cell hcl
                          have l4 := later_cell hcp
                          have hd2 : decide (i < n) = true := decide_eq_true hin
                          clear hnv hrv hrv2 hcv hcp hap
                          go_wp2_with fail
                          clear hcg hcl
                          refine wp_region_later (by kernel_rfl) (by kernel_rfl) ?_
                          repeat (go_big_quiet_step ((go_at_call 40; exact later_same (markByte_any _ _ _))))
                          refine wpQuiet_nil ?_
                          intro w7 hw7
                          obtain ⟨⟨w7', hb7⟩, hw7'⟩ := hw7
                          change w7 = w7' at hw7'
                          subst hw7'
                          have F' := F.keep hb7 (HBzs.out _ _ _ F)
                          clear F l1 l2 l3 l4 hb7
                          go_wp2
                          go_roundw
                          case rel => exact ⟨i + 1, by omega, by go_num, F'⟩
                          case measure => simp [intOf]; omega
                        · have hin' : i = n := by omega
                          have hd2 : decide (i < n) = false := decide_eq_false (by omega)
                          go_wp2
                          go_roundw
                          case rel => exact ⟨q + 1, by omega, by go_num, F⟩
                          case measure => simp [intOf]; omega
                    · have hqm' : q = m := by omega
                      subst hqm'
                      have hbe := F.be
                      clear F
                      go_wp2
                      go_ret
                      exact ⟨rfl, hbe⟩
end Go.Proofs.Ytafcphnafgfgkaa

