/- label: child. -/
import Derived.Test.YtofbcgehemclbaaLb6
namespace Go.Proofs.Ytofbcgehemclbaa
open Go.RowKit Bm
set_option maxRecDepth 100000 in
set_option maxHeartbeats 1000000 in
theorem child_none (a b : Option Addr) (n c d : Nat) (w : World) :
    Calls Try.prog 39 #[.slice a n c, .slice b 0 d] w fun e w' => e = .returned (.tuple #[.agg #[.string ⟨#[]⟩, .int .i64 0], .bool true]) ∧ Below w.heap.size w w' := by
  go_enter Try.func39, Try.ntmps39
  go_wp2
  (try simp only [Exit.inBlock, Exit.then])
  refine bodyPost_ret (v := .tuple #[.agg #[.string ⟨#[]⟩, .int .i64 0], .bool true]) (by simp [results, Try.results39, go_sem]) rfl ⟨rfl, ?_⟩
  exact (Below.refl _ _).alloc (Nat.le_refl _) _
/-- the label is no child of the steps pp -/
theorem child_no (a b : Option Addr) (pp : List (List Bool)) (bs : List UInt8) (n c m d : Nat) (w : World) (hp : RdS w a pp) (hr : RdB w b bs) (hn : n = pp.length) (hnl : n ≤ 1024) (hm : m = bs.length) (hm0 : 0 < m) (hle : (m : Int) ≤ 9223372036854775807)
    (hno : ¬ ∃ s, IsL bs (pp ++ [s])) :
    Calls Try.prog 39 #[.slice a n c, .slice b m d] w fun e w' => e = .returned (.tuple #[.agg #[.string ⟨#[]⟩, .int .i64 0], .bool false]) ∧ Below w.heap.size w w' := by
  have hB := Below.refl w.heap.size w
  have Hn := hide hn
  have Hm := hide hm
  have Hno := hide hno
  have hz : ((m : Int) == 0) = false := by simp; omega
  clear hn hm hno
  have Hz := hide hz
  clear hz
  by_cases hs : ∃ ss, IsL bs ss
  · obtain ⟨ss, hs⟩ := hs
    have hsl := wr_le hs.2.1
    by_cases hlen : ss.length = n + 1
    · have hlb : ((ss.length : Int) != (n : Int) + 1) = false := by simp [hlen]
      have hq : begS ss pp = false := by
        unfold begS
        rw [decide_eq_false_iff_not]
        intro e
        apply Hno.out
        have h1 : ss = ss.take pp.length ++ [ss[pp.length]'(by have := Hn.out; omega)] := by
          rw [← List.take_succ_eq_append_getElem, List.take_of_length_le]
          have := Hn.out; omega
        exact ⟨_, by rw [← e, ← h1] at *; exact hs⟩
      have Hq := hide hq
      have Hlen := hide hlen
      clear hq hlen
      have hcs := steps_yes b bs ss m d
      rw [Hlen.out] at hcs
      have Hcs := hide hcs
      clear hcs hlb
      have hz := Hz.out
      go_enter Try.func39, Try.ntmps39
      go_wp2_with fail
      refine (Hcs.out _ ((hr.alloc _)) Hm.out hle hs).mono ?_
      rintro e w1 ⟨a1, c1, rfl, ⟨h1, hc1⟩, hb1⟩
      have r1 := (Blk.new w 50 #[.string ⟨#[]⟩, .int .i64 0]).keep hb1
      have hB1 := chain1 hB hb1
      have hpp := (Rd.alloc hp (.cells #[.string ⟨#[]⟩, .int .i64 0] 50)).keep hb1
      clear hB hb1
      go_wp2_with fail
      refine (begins_any a1 a ss pp (n + 1) c1 n c false _ h1 hpp Hlen.out.symm Hn.out (by omega) (by omega) Hq.out.symm).mono ?_
      rintro e w2 ⟨rfl, hb2⟩
      have r2 := r1.keep hb2
      have hB := chain0 hB1 hb2
      clear r1 hB1 hb2 h1 hpp
      have hl0 := r2.lt
      have d0 := r2.cell 0
      have d1 := r2.cell 1
      have d2 := r2.frozen 0
      have d3 := r2.frozen 1
      simp only [List.getElem?_toArray, List.getElem?_cons_zero, List.getElem?_cons_succ] at d0 d1
      go_wp2
      have hend := (r2.set_ 0 (.string ⟨#[]⟩)).set_ 1 (.int .i64 0)
      have e0 := hend.cell 0
      have e1 := hend.cell 1
      simp only [List.setIfInBounds_toArray, List.set_cons_zero, List.set_cons_succ, List.getElem?_toArray, List.getElem?_cons_zero, List.getElem?_cons_succ] at e0 e1
      (try simp only [Exit.inBlock, Exit.then])
      refine bodyPost_ret (v := .tuple #[.agg #[.string ⟨#[]⟩, .int .i64 0], .bool false]) (by simp [results, Try.results39, go_sem, e0, e1]) rfl ⟨rfl, ?_⟩
      exact (hB.setCell (by dsimp only; omega) _).setCell (by dsimp only; omega) _
    · have hlb : ((ss.length : Int) != (n : Int) + 1) = true := by simp; omega
      have hz := Hz.out
      go_enter Try.func39, Try.ntmps39
      go_wp2_with fail
      refine (steps_yes b bs ss m d _ (hr.alloc _) Hm.out hle hs).mono ?_
      rintro e w1 ⟨a1, c1, rfl, ⟨h1, hc1⟩, hb1⟩
      have r1 := (Blk.new w 50 #[.string ⟨#[]⟩, .int .i64 0]).keep hb1
      have hB1 := chain1 hB hb1
      clear hB hb1 h1
      have hB := hB1
      clear hB1
      have hl0 := r1.lt
      have d0 := r1.cell 0
      have d1 := r1.cell 1
      have d2 := r1.frozen 0
      have d3 := r1.frozen 1
      simp only [List.getElem?_toArray, List.getElem?_cons_zero, List.getElem?_cons_succ] at d0 d1
      go_wp2
      have hend := (r1.set_ 0 (.string ⟨#[]⟩)).set_ 1 (.int .i64 0)
      have e0 := hend.cell 0
      have e1 := hend.cell 1
      simp only [List.setIfInBounds_toArray, List.set_cons_zero, List.set_cons_succ, List.getElem?_toArray, List.getElem?_cons_zero, List.getElem?_cons_succ] at e0 e1
      (try simp only [Exit.inBlock, Exit.then])
      refine bodyPost_ret (v := .tuple #[.agg #[.string ⟨#[]⟩, .int .i64 0], .bool false]) (by simp [results, Try.results39, go_sem, e0, e1]) rfl ⟨rfl, ?_⟩
      exact (hB.setCell (by dsimp only; omega) _).setCell (by dsimp only; omega) _
  · have Hs := hide hs
    clear hs
    have hz := Hz.out
    go_enter Try.func39, Try.ntmps39
    go_wp2_with fail
    refine (steps_no b bs m d _ (hr.alloc _) Hm.out hle Hs.out).mono ?_
    rintro e w1 ⟨rfl, hb1⟩
    have r1 := (Blk.new w 50 #[.string ⟨#[]⟩, .int .i64 0]).keep hb1
    have hB1 := chain1 hB hb1
    clear hB hb1
    have hB := hB1
    clear hB1
    have hl0 := r1.lt
    have d0 := r1.cell 0
    have d1 := r1.cell 1
    have d2 := r1.frozen 0
    have d3 := r1.frozen 1
    simp only [List.getElem?_toArray, List.getElem?_cons_zero, List.getElem?_cons_succ] at d0 d1
    go_wp2
    have hend := (r1.set_ 0 (.string ⟨#[]⟩)).set_ 1 (.int .i64 0)
    have e0 := hend.cell 0
    have e1 := hend.cell 1
    simp only [List.setIfInBounds_toArray, List.set_cons_zero, List.set_cons_succ, List.getElem?_toArray, List.getElem?_cons_zero, List.getElem?_cons_succ] at e0 e1
    (try simp only [Exit.inBlock, Exit.then])
    refine bodyPost_ret (v := .tuple #[.agg #[.string ⟨#[]⟩, .int .i64 0], .bool false]) (by simp [results, Try.results39, go_sem, e0, e1]) rfl ⟨rfl, ?_⟩
    exact (hB.setCell (by dsimp only; omega) _).setCell (by dsimp only; omega) _
set_option maxRecDepth 100000 in
set_option maxHeartbeats 1000000 in
theorem child_yes (a b : Option Addr) (pp : List (List Bool)) (bs : List UInt8) (s : List Bool) (n c m d : Nat) (w : World) (hp : RdS w a pp) (hr : RdB w b bs) (hn : n = pp.length) (hm : m = bs.length) (hle : (m : Int) ≤ 9223372036854775807)
    (hs : IsL bs (pp ++ [s])) :
    Calls Try.prog 39 #[.slice a n c, .slice b m d] w fun e w' => e = .returned (.tuple #[.agg #[.string (pk s), .int .i64 s.length], .bool true]) ∧ Below w.heap.size w w' := by
  have hB := Below.refl w.heap.size w
  have hpl : (pp ++ [s]).length = n + 1 := by rw [List.length_append, hn]; rfl
  have hnl : n ≤ 1024 := by have := wr_le hs.2.1; omega
  have hq : true = begS (pp ++ [s]) pp := by unfold begS; rw [List.take_left]; simp
  have hm0 : 0 < m := by
    rcases Nat.eq_zero_or_pos m with h | h
    · exfalso
      have h1 := congrArg List.length hs.2.2
      rw [← hm, h, length_pkL, wr_snoc, List.length_append, enc_length] at h1
      unfold nb at h1; omega
    · exact h
  have hz : ((m : Int) == 0) = false := by simp; omega
  have hlb : ((n : Int) + 1 != (n : Int) + 1) = false := by simp
  have hcs := steps_yes b bs (pp ++ [s]) m d
  rw [hpl] at hcs
  have Hn := hide hn
  have Hm := hide hm
  have Hq := hide hq
  have Hpl := hide hpl
  have Hz := hide hz
  have Hcs := hide hcs
  clear hn hm hq hpl hcs hz
  have hz := Hz.out
  go_enter Try.func39, Try.ntmps39
  go_wp2_with fail
  refine (Hcs.out _ ((hr.alloc _)) Hm.out hle hs).mono ?_
  rintro e w1 ⟨a1, c1, rfl, ⟨h1, hc1⟩, hb1⟩
  have r1 := (Blk.new w 50 #[.string ⟨#[]⟩, .int .i64 0]).keep hb1
  have hB1 := chain1 hB hb1
  have hpp := (Rd.alloc hp (.cells #[.string ⟨#[]⟩, .int .i64 0] 50)).keep hb1
  clear hB hb1
  go_wp2_with fail
  refine (begins_any a1 a (pp ++ [s]) pp (n + 1) c1 n c true _ h1 hpp Hpl.out.symm Hn.out (by omega) (by omega) Hq.out).mono ?_
  rintro e w2 ⟨rfl, hb2⟩
  have r2 := r1.keep hb2
  have hB := chain0 hB1 hb2
  have h2 := RdS.keep h1 hb2
  clear r1 hB1 hb2 h1 hpp
  obtain ⟨b1, o1, ha1, k0, k1⟩ := h2.row n s (by rw [Hn.out]; simp)
  subst ha1
  have hix : ∀ W, (Instr.indexAt 46 (.slice (some ⟨b1, o1, none⟩) (n + 1) c1) (.int .i64 (n : Int))).run Try.prog W = .ok (.pointer (some ⟨b1, o1 + n * 2, none⟩)) W := fun W => by
    obtain ⟨j0, hj, _, hj1, _⟩ := info_parts bitsInfo
    exact run_ix Try.underlying46 hj hj1 b1 o1 (n + 1) c1 n (n : Int) rfl (by omega) W
  have hl0 := r2.lt
  have d0 := r2.cell 0
  have d1 := r2.cell 1
  have d2 := r2.frozen 0
  have d3 := r2.frozen 1
  simp only [List.getElem?_toArray, List.getElem?_cons_zero, List.getElem?_cons_succ] at d0 d1
  go_wp2
  have hend := (r2.set_ 0 (.string (pk s))).set_ 1 (.int .i64 (s.length : Int))
  have e0 := hend.cell 0
  have e1 := hend.cell 1
  simp only [List.setIfInBounds_toArray, List.set_cons_zero, List.set_cons_succ, List.getElem?_toArray, List.getElem?_cons_zero, List.getElem?_cons_succ] at e0 e1
  (try simp only [Exit.inBlock, Exit.then])
  refine bodyPost_ret (v := .tuple #[.agg #[.string (pk s), .int .i64 (s.length : Int)], .bool true]) (by simp [results, Try.results39, go_sem, e0, e1]) rfl ⟨rfl, ?_⟩
  exact (hB.setCell (by dsimp only; omega) _).setCell (by dsimp only; omega) _
end Go.Proofs.Ytofbcgehemclbaa

