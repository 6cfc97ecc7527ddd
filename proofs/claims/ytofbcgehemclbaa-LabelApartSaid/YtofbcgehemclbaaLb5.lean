/- label: Above, Compare, of, child, After. -/
import Derived.Test.YtofbcgehemclbaaLb4
import Derived.Test.YtofbcgehemclbaaBw7
import Derived.ArgAppend
namespace Go.Proofs.Ytofbcgehemclbaa
open Go.RowKit Bm
def aboveS (ss tt : List (List Bool)) : Bool := decide (ss.length < tt.length) && begS tt ss
set_option maxRecDepth 100000 in
set_option maxHeartbeats 1000000 in
theorem above_both (a b : Option Addr) (xs ys : List UInt8) (ss tt : List (List Bool)) (n c m d : Nat) (q : Bool) (w : World) (hx : RdB w a xs) (hy : RdB w b ys) (hn : n = xs.length) (hm : m = ys.length)
    (hle : (n : Int) ≤ 9223372036854775807) (hle2 : (m : Int) ≤ 9223372036854775807) (hs : IsL xs ss) (ht : IsL ys tt) (hq : q = aboveS ss tt) :
    Calls Try.prog 31 #[.slice a n c, .slice b m d] w fun e w' => e = .returned (.bool q) ∧ Below w.heap.size w w' := by
  have hB := Below.refl w.heap.size w
  have Hn := hide hn
  have Hm := hide hm
  have Hq := hide hq
  have hsl := wr_le hs.2.1
  have htl := wr_le ht.2.1
  clear hn hm hq
  by_cases hlt : ss.length < tt.length
  · have hd : decide (ss.length < tt.length) = true := by simpa using hlt
    have hq2 : q = begS tt ss := by rw [Hq.out, aboveS, hd, Bool.true_and]
    have Hq2 := hide hq2
    clear hq2
    go_enter Try.func31, Try.ntmps31
    go_wp2_with fail
    refine (steps_yes a xs ss n c _ hx Hn.out hle hs).mono ?_
    rintro e w1 ⟨a1, c1, rfl, ⟨h1, hc1⟩, hb1⟩
    have hB2 : Below w.heap.size w w1 := by first | exact chain0 hB hb1 | exact chain1 hB hb1 | exact chain2 hB hb1 | exact chain3 hB hb1
    clear hB
    have hB := hB2
    clear hB2
    go_wp2_with fail
    refine (steps_yes b ys tt m d _ (hy.keep hB) Hm.out hle2 ht).mono ?_
    rintro e w2 ⟨a2, c2, rfl, ⟨h2, hc2⟩, hb2⟩
    have hB2 : Below w.heap.size w w2 := by first | exact chain0 hB hb2 | exact chain1 hB hb2 | exact chain2 hB hb2 | exact chain3 hB hb2
    clear hB
    have hB := hB2
    clear hB2
    go_wp2_with fail
    refine (begins_any a2 a1 tt ss _ c2 _ c1 q _ h2 (RdS.keep h1 hb2) rfl rfl (by omega) (by omega) Hq2.out).mono ?_
    rintro e w3 ⟨rfl, hb3⟩
    have hB2 : Below w.heap.size w w3 := by first | exact chain0 hB hb3 | exact chain1 hB hb3 | exact chain2 hB hb3 | exact chain3 hB hb3
    clear hB
    have hB := hB2
    clear hB2
    go_wp2
    go_ret
    exact ⟨rfl, hB⟩
  · have hd : decide (ss.length < tt.length) = false := by simpa using hlt
    have hq2 : q = false := by rw [Hq.out, aboveS, hd, Bool.false_and]
    subst hq2
    go_enter Try.func31, Try.ntmps31
    go_wp2_with fail
    refine (steps_yes a xs ss n c _ hx Hn.out hle hs).mono ?_
    rintro e w1 ⟨a1, c1, rfl, ⟨h1, hc1⟩, hb1⟩
    have hB2 : Below w.heap.size w w1 := by first | exact chain0 hB hb1 | exact chain1 hB hb1 | exact chain2 hB hb1 | exact chain3 hB hb1
    clear hB
    have hB := hB2
    clear hB2
    go_wp2_with fail
    refine (steps_yes b ys tt m d _ (hy.keep hB) Hm.out hle2 ht).mono ?_
    rintro e w2 ⟨a2, c2, rfl, ⟨h2, hc2⟩, hb2⟩
    have hB2 : Below w.heap.size w w2 := by first | exact chain0 hB hb2 | exact chain1 hB hb2 | exact chain2 hB hb2 | exact chain3 hB hb2
    clear hB
    have hB := hB2
    clear hB2
    go_wp2
    go_ret
    exact ⟨rfl, hB⟩
set_option maxRecDepth 100000 in
set_option maxHeartbeats 1000000 in
theorem above_not (a b : Option Addr) (xs ys : List UInt8) (n c m d : Nat) (w : World) (hx : RdB w a xs) (hy : RdB w b ys) (hn : n = xs.length) (hm : m = ys.length)
    (hle : (n : Int) ≤ 9223372036854775807) (hle2 : (m : Int) ≤ 9223372036854775807) (hs : (¬ ∃ ss, IsL xs ss) ∨ ¬ ∃ tt, IsL ys tt) :
    Calls Try.prog 31 #[.slice a n c, .slice b m d] w fun e w' => e = .returned (.bool false) ∧ Below w.heap.size w w' := by
  have hB := Below.refl w.heap.size w
  have Hn := hide hn
  have Hm := hide hm
  clear hn hm
  by_cases h1 : ∃ ss, IsL xs ss
  · have h2 : ¬ ∃ tt, IsL ys tt := by
      rcases hs with h | h
      · exact absurd h1 h
      · exact h
    obtain ⟨ss, h1⟩ := h1
    have H2 := hide h2
    clear hs h2
    go_enter Try.func31, Try.ntmps31
    go_wp2_with fail
    refine (steps_yes a xs ss n c _ hx Hn.out hle h1).mono ?_
    rintro e w1 ⟨a1, c1, rfl, ⟨h3, hc1⟩, hb1⟩
    have hB2 : Below w.heap.size w w1 := by first | exact chain0 hB hb1 | exact chain1 hB hb1 | exact chain2 hB hb1 | exact chain3 hB hb1
    clear hB
    have hB := hB2
    clear hB2
    go_wp2_with fail
    refine (steps_no b ys m d _ (hy.keep hB) Hm.out hle2 H2.out).mono ?_
    rintro e w2 ⟨rfl, hb2⟩
    have hB2 : Below w.heap.size w w2 := by first | exact chain0 hB hb2 | exact chain1 hB hb2 | exact chain2 hB hb2 | exact chain3 hB hb2
    clear hB
    have hB := hB2
    clear hB2
    go_wp2
    go_ret
    exact ⟨rfl, hB⟩
  · have H1 := hide h1
    clear hs h1
    by_cases h2 : ∃ tt, IsL ys tt
    · obtain ⟨tt, h2⟩ := h2
      go_enter Try.func31, Try.ntmps31
      go_wp2_with fail
      refine (steps_no a xs n c _ hx Hn.out hle H1.out).mono ?_
      rintro e w1 ⟨rfl, hb1⟩
      have hB2 : Below w.heap.size w w1 := by first | exact chain0 hB hb1 | exact chain1 hB hb1 | exact chain2 hB hb1 | exact chain3 hB hb1
      clear hB
      have hB := hB2
      clear hB2
      go_wp2_with fail
      refine (steps_yes b ys tt m d _ (hy.keep hB) Hm.out hle2 h2).mono ?_
      rintro e w2 ⟨a2, c2, rfl, ⟨h3, hc2⟩, hb2⟩
      have hB2 : Below w.heap.size w w2 := by first | exact chain0 hB hb2 | exact chain1 hB hb2 | exact chain2 hB hb2 | exact chain3 hB hb2
      clear hB
      have hB := hB2
      clear hB2
      go_wp2
      go_ret
      exact ⟨rfl, hB⟩
    · have H2 := hide h2
      clear h2
      go_enter Try.func31, Try.ntmps31
      go_wp2_with fail
      refine (steps_no a xs n c _ hx Hn.out hle H1.out).mono ?_
      rintro e w1 ⟨rfl, hb1⟩
      have hB2 : Below w.heap.size w w1 := by first | exact chain0 hB hb1 | exact chain1 hB hb1 | exact chain2 hB hb1 | exact chain3 hB hb1
      clear hB
      have hB := hB2
      clear hB2
      go_wp2_with fail
      refine (steps_no b ys m d _ (hy.keep hB) Hm.out hle2 H2.out).mono ?_
      rintro e w2 ⟨rfl, hb2⟩
      have hB2 : Below w.heap.size w w2 := by first | exact chain0 hB hb2 | exact chain1 hB hb2 | exact chain2 hB hb2 | exact chain3 hB hb2
      clear hB
      have hB := hB2
      clear hB2
      go_wp2
      go_ret
      exact ⟨rfl, hB⟩
/-- a slice of rows of bits, none of them the fresh row that this region writes -/
def rowsF (B : Nat) (p : ByteArray) (n : Int) (s m : Nat) (ss : List (List Bool)) : FactU (RB B p n) := ⟨[s], fun u w => ∃ (g cap : Nat) (cur : Array Value), u s = .slice (some ⟨g, 0, none⟩) m cap ∧ w.heap[g]? = some (Obj.cells cur 50 (0, 0)) ∧
    (.cells cur 50 (0, 0) : Obj) ≠ zB ∧ ∀ (i : Nat) (v : Value), (bcells ss)[i]? = some v → cur[i]? = some v,
  fun _ _ _ _ hs hR ⟨g, cap, cur, h1, h2, h3, h4⟩ => ⟨g, cap, cur, by rw [hs s (by simp)]; exact h1, hR.heap h2 h3, h3, h4⟩⟩
theorem rows_rd {w : World} {g : Nat} {cur : Array Value} {ss : List (List Bool)} (h : w.heap[g]? = some (Obj.cells cur 50 (0, 0))) (hc : ∀ (i : Nat) (v : Value), (bcells ss)[i]? = some v → cur[i]? = some v) : RdS w (some ⟨g, 0, none⟩) ss :=
  .inr ⟨g, 0, rfl, lt_of_heap h, fun i u hu => by
    rw [Nat.zero_add]
    simp [World.cell?, h, hc i u hu]⟩
theorem not_zB {cur : Array Value} {s : List Bool} (i : Nat) (h : cur[i]? = some (.int .i64 s.length)) (h0 : s ≠ []) (hi : i % 2 = 1) : (.cells cur 50 (0, 0) : Obj) ≠ zB := by
  intro e
  unfold zB at e
  injection e with e
  subst e
  match i, h with
  | 1, h => simp at h; exact h0 (List.length_eq_zero_iff.1 (by omega))
  | i + 2, h => simp at h
/-- append onto a slice that is read alone, at its end -/
theorem run_app_tight (w : World) (a : Option Addr) (ss : List (List Bool)) (s : List Bool) (n g c : Nat) (ty : TypeId) (hn : n = ss.length) (hr : RdS w a ss) (ha : a = none → n = 0) (hle : n ≤ 1048576) (h0 : s ≠ [])
    (hg : RdS w (some ⟨g, 0, none⟩) [s]) :
    ∃ v w', (Builtin.append_ #[46, 46] ty #[.slice a n n, .slice (some ⟨g, 0, none⟩) 1 c]).run Try.prog w = .ok v w' ∧ Below w.heap.size w w' ∧
      ∃ (g' cap : Nat) (cur : Array Value), v = .slice (some ⟨g', 0, none⟩) (n + 1) cap ∧ w'.heap[g']? = some (Obj.cells cur 50 (0, 0)) ∧ (.cells cur 50 (0, 0) : Obj) ≠ zB ∧ ∀ (i : Nat) (v : Value), (bcells (ss ++ [s]))[i]? = some v → cur[i]? = some v := by
  obtain ⟨i0, hi, hz0, hz1, hz2⟩ := info_parts bitsInfo
  have hone : ∀ u ∈ bcells [s], u.oneCell' = true := bcells_one _
  have key : ∃ v w', (Builtin.append_ #[46, 46] ty #[.slice a n n, .slice (some ⟨g, 0, none⟩) 1 c]).run Try.prog w = .ok v w' ∧ w'.ownsRow w.heap.size 50 2 v (n + 1) (bcells ss ++ bcells [s]) ∧ w.grownBy w' none := by
    cases a with
    | none =>
      have h1 := ha rfl
      subst h1
      have h2 : ss = [] := List.length_eq_zero_iff.1 hn.symm
      subst h2
      obtain ⟨v, w', h3, h4, h5, _⟩ := run_appR (w := w) (B := w.heap.size) (v := .slice none 0 0) (xs := []) (ys := bcells [s]) (n := 0) (m := 1) (a := some ⟨g, 0, none⟩) i0 _ 24 46 ty c Try.underlying46 hi hz0 hz1 hz2 rfl (by decide) hone (ow_nil _ _ _ _) hg rfl (by decide) (by decide) (Nat.le_refl _)
      exact ⟨v, w', h3, h4, h5⟩
    | some x =>
      by_cases hss : ss = []
      · subst hss
        simp only [List.length_nil] at hn
        subst hn
        obtain ⟨v, w', h3, h4, h5⟩ := run_append_arg_grows (P := Try.prog) w 46 ty 50 i0 _ 2 24 Try.underlying46 hi hz0 hz1 hz2 rfl (by decide) x 0 0 [] rfl (fun j u h => by simp at h) ⟨g, 0, none⟩ 1 c (bcells [s]) rfl (Rd.news hg) (by omega) (by unfold maxLen; omega) (by omega)
        exact ⟨v, w', h3, h4, h5⟩
      · obtain ⟨b, off, hx, _, _⟩ := Rd.addrAt hr (fun e => hss (by cases ss with | nil => rfl | cons y z => cases e))
        injection hx with hx
        subst hx
        obtain ⟨v, w', h3, h4, h5⟩ := run_append_arg_grows (P := Try.prog) w 46 ty 50 i0 _ 2 24 Try.underlying46 hi hz0 hz1 hz2 rfl (by decide) ⟨b, off, none⟩ n n (bcells ss) (by rw [bcells_length, hn]) (Rd.news hr) ⟨g, 0, none⟩ 1 c (bcells [s]) rfl (Rd.news hg) (by omega) (by unfold maxLen; omega) (by omega)
        exact ⟨v, w', h3, h4, h5⟩
  obtain ⟨v, w', hrun, ho, hgr⟩ := key
  refine ⟨v, w', hrun, ⟨hgr.os, hgr.tape, hgr.output, hgr.size, fun k hk => hgr.block k hk (by simp)⟩, ?_⟩
  rcases ho.2 with ⟨_, h⟩ | ⟨g', cap, cur, hv, _, hh, hnc, hcm, hsz, htk⟩
  · omega
  · have hcur : ∀ (i : Nat) (v : Value), (bcells (ss ++ [s]))[i]? = some v → cur[i]? = some v := by
      intro i v hv
      have e : bcells (ss ++ [s]) = bcells ss ++ bcells [s] := by simp [bcells]
      rw [e, ← htk, List.getElem?_take] at hv
      split at hv
      · simpa using hv
      · cases hv
    refine ⟨g', cap, cur, hv, hh, ?_, hcur⟩
    refine not_zB (s := s) (n * 2 + 1) (hcur _ _ ?_) h0 (by omega)
    exact (bcells_get (ss ++ [s]) n s (by rw [hn]; simp)).2
theorem run_sl3 (a : Option Addr) (ss : List (List Bool)) (n c : Nat) (w0 : World) (hr : RdS w0 a ss) (hn : n = ss.length) (hc : n ≤ c) (W : World) :
    (Instr.slice 46 (.slice a n c) none (some (.int .i64 (n : Int))) (some (.int .i64 (n : Int)))).run Try.prog W = .ok (.slice a n n) W := by
  obtain ⟨i0, hi, hz0, hz1, hz2⟩ := info_parts bitsInfo
  have h1 : (0 : Int) ≤ (n : Int) ∧ (n : Int) ≤ (c : Int) := by omega
  have hb : ∀ k d, (n : Nat) ≤ d → (Instr.sliceBound (.int .i64 (n : Int)) d k).run Try.prog W = .ok n W := by
    intro k d hd
    have : (0 : Int) ≤ (n : Int) ∧ (n : Int) ≤ (d : Int) := by omega
    simp [Instr.sliceBound, go_sem, this]
  have he : ¬ n = 0 → Option.map (fun x => x.add 0) a = a := by
    intro h
    obtain ⟨b, off, rfl, _⟩ := Rd.addrAt hr (fun e => h (by cases ss with | nil => simpa using hn | cons y z => cases e))
    simp [addr_add]
  simp [Instr.slice, Instr.sliceBounds, run_underlying Try.underlying46, sizeOf, typeInfo, hi, hb _ c hc, hb _ n (Nat.le_refl _)]
  exact he
section
variable {K : Value → World → Prop} {u : Nat → Value} {o : Oper} {w : World}
theorem upon_build1 (x : Operand) (p : ByteArray) (n : Int) (h : o.op = .buildSlice 46 1 #[(0, x)]) (hx : evU u x = .agg #[.string p, .int .i64 n])
    (hk : K (.slice (some ⟨w.heap.size, 0, none⟩) 1 1) (w.alloc (.cells #[.string p, .int .i64 n] 50 (0, 0)))) : uponU K Try.prog ((execOp (evU u) o).run Try.prog w) := by
  have hr : (execOp (evU u) o).run Try.prog w = .ok (.value (.slice (some ⟨w.heap.size, 0, none⟩) 1 1)) (w.alloc (.cells #[.string p, .int .i64 n] 50 (0, 0))) := by
    unfold execOp
    simp [go_sem, h, hx]
  rw [hr]; exact hk
theorem upon_append (x y : Operand) (t : TypeId) (v1 v2 v : Value) (w' : World) (h : o.op = .call { callee := .builtin .append, args := #[x, y], argTypes := #[t, t] }) (h1 : evU u x = v1) (h2 : evU u y = v2)
    (hr : (Builtin.append_ #[t, t] o.type #[v1, v2]).run Try.prog w = .ok v w') (hk : K v w') : uponU K Try.prog ((execOp (evU u) o).run Try.prog w) := by
  have hr' : (execOp (evU u) o).run Try.prog w = .ok (.value v) w' := by
    unfold execOp
    simp only [h, resolve, invoke, builtin, Sem.run_bind, Sem.run_pure, Result.andThen_ok, List.map_toArray, List.map_cons, List.map_nil, h1, h2, hr]
  rw [hr']; exact hk
end
theorem row_is (a : Option Addr) (tt : List (List Bool)) (r : List Bool) (n c : Nat) (w : World) (hr : RdS w a tt) (hn : n = tt.length) (hle : r.length ≤ 1000000) (hnl : n ≤ 1048576) (hrr : r = wr tt) :
    Calls Try.prog 45 #[.slice a n c] w fun e w' => e = .returned (.agg #[.string (pk r), .int .i64 r.length]) ∧ Below w.heap.size w w' := by
  subst hrr; exact row_any a tt n c w hr hn (by omega) hnl
/-- what of returns -/
def OfPost (w : World) (r : List Bool) (e : Ending) (w' : World) : Prop :=
  (r.length ≤ 1024 ∧ ∃ g cap, e = .returned (.tuple #[.slice (some ⟨g, 0, none⟩) (nb r.length) cap, .bool true]) ∧ Fr w.heap.size w' g cap (pkL r) ∧ Below w.heap.size w w') ∨
  (1024 < r.length ∧ e = .returned (.tuple #[.slice none 0 0, .bool false]) ∧ Below w.heap.size w w')
set_option maxRecDepth 100000 in
set_option maxHeartbeats 1000000 in
theorem of_any (a : Option Addr) (ss : List (List Bool)) (s r : List Bool) (n c : Nat) (w : World) (hr : RdS w a ss) (ha : a = none → n = 0) (hn : n = ss.length) (hc : n ≤ c) (hsz : n ≤ 2000) (h0 : s ≠ []) (hrr : r = wr (ss ++ [s])) (hrl : r.length ≤ 1000000) :
    Calls Try.prog 36 #[.slice a n c, .agg #[.string (pk s), .int .i64 s.length]] w (OfPost w r) := by
  have hB := Below.refl w.heap.size w
  have Hn := hide hn
  have Hr := hide hrr
  have Ha := hide ha
  have H0 := hide h0
  have Hc := hide hc
  have Hrd := hide hr
  go_enter Try.func36, Try.ntmps36
  go_wp2_with fail
  have hsl := run_sl3 a ss n c w hr hn hc
  obtain ⟨w1, hw1⟩ : ∃ W, W = w.alloc (.cells #[.string (pk s), .int .i64 s.length] 50) := ⟨_, rfl⟩
  have x_S : Blk w1 w.heap.size 50 #[.string (pk s), .int .i64 s.length] := by rw [hw1]; exact Blk.new _ _ _
  have hB1 : Below w.heap.size w w1 := by rw [hw1]; exact hB.alloc (Nat.le_refl _) _
  have hr1 : RdS w1 a ss := RdS.keep hr hB1
  rw [← hw1]
  clear hw1 hB hr hn hrr ha h0 hc Hrd
  have hB := hB1
  clear hB1
  have x_S : Blk w1 w.heap.size 50 #[.string (pk s), .int .i64 s.length] := x_S
  refine wp_region_facts (R := RB w1.heap.size (pk r) (r.length)) [eqF w1.heap.size (pk r) (r.length) 7 (.slice a n c), eqF w1.heap.size (pk r) (r.length) 8 (.slice a n c), eqF w1.heap.size (pk r) (r.length) 9 (.int .i64 n), eqF w1.heap.size (pk r) (r.length) 10 (.slice a n c), eqF w1.heap.size (pk r) (r.length) 11 (.int .i64 n), eqF w1.heap.size (pk r) (r.length) 12 (.slice a n n), eqF w1.heap.size (pk r) (r.length) 13 (.agg #[.string (pk s), .int .i64 s.length]), rowsF w1.heap.size (pk r) r.length 14 1 [s], rowsF w1.heap.size (pk r) r.length 15 (n + 1) (ss ++ [s]), eqF w1.heap.size (pk r) (r.length) 16 (.agg #[.string (pk r), .int .i64 r.length]), newF w1.heap.size (pk r) (r.length) 6, putF w1.heap.size (pk r) (r.length) 6] (by kernel_rfl) (by kernel_rfl) (by kernel_rfl) (RB.refl (Nat.le_refl _)) (fun _ h => h.again) (fun _ _ _ h k => h.trans k) ?_ ?_
  · refine stepsU_cons rfl ?_ (stepsU_cons rfl ?_ (stepsU_cons rfl ?_ (stepsU_cons rfl ?_ (stepsU_cons rfl ?_ (stepsU_cons rfl ?_ (stepsU_cons rfl ?_ (stepsU_cons rfl ?_ (stepsU_cons rfl ?_ (stepsU_cons rfl ?_ (stepsU_cons rfl ?_ (stepsU_cons rfl ?_ (stepsU_nil))))))))))))
    · refine stepU_plain rfl fun u wr hR hK hD => ?_; exact upon_move _ _ rfl (hK 0 rfl) ⟨hR.again, rfl⟩
    · refine stepU_plain rfl fun u wr hR hK hD => ?_; exact upon_move _ _ rfl (hK 0 rfl) ⟨hR.again, rfl⟩
    · refine stepU_plain rfl fun u wr hR hK hD => ?_; have z8 : u 8 = _ := (hD 1 rfl); exact upon_val _ (by unfold execOp; simp [go_sem, evU, z8]) ⟨hR.again, rfl⟩
    · refine stepU_plain rfl fun u wr hR hK hD => ?_; exact upon_move _ _ rfl (hK 0 rfl) ⟨hR.again, rfl⟩
    · refine stepU_plain rfl fun u wr hR hK hD => ?_; have z10 : u 10 = _ := (hD 3 rfl); exact upon_val _ (by unfold execOp; simp [go_sem, evU, z10]) ⟨hR.again, rfl⟩
    · refine stepU_plain rfl fun u wr hR hK hD => ?_; have h1 : u 7 = _ := (hD 0 rfl); have h2 : u 9 = _ := (hD 2 rfl); have h3 : u 11 = _ := (hD 4 rfl); exact upon_val _ (by unfold execOp; simp [go_sem, evU, h1, h2, h3, hsl]) ⟨hR.again, rfl⟩
    · refine stepU_plain rfl fun u wr hR hK hD => ?_; exact upon_loadB _ _ _ _ rfl (hK 3 rfl) (hR.old x_S.lt x_S) ⟨hR.again, rfl⟩
    · refine stepU_plain rfl fun u wr hR hK hD => ?_; exact upon_build1 _ _ _ rfl (hD 6 rfl) ⟨hR.next ((Below.refl _ _).alloc (Nat.le_refl _) _), ⟨_, 1, _, rfl, heap_alloc_new _ _, not_zB (s := s) 1 rfl H0.out rfl, fun i v hv => by simpa [bcells] using hv⟩⟩
    · refine stepU_plain rfl fun u wr hR hK hD => ?_; obtain ⟨g, cap, cur, k1, k2, k3, k4⟩ := (hD 7 rfl); obtain ⟨v, w', k5, k6, g', cap', cur', k7, k8, k9, k10⟩ := run_app_tight wr a ss s n g cap _ Hn.out (RdS.keep hr1 ⟨hR.be.os, hR.be.tape, hR.be.output, hR.be.size, hR.be.block⟩) Ha.out (by omega) H0.out (rows_rd k2 k4); exact upon_append _ _ 46 _ _ _ _ rfl (hD 5 rfl) k1 k5 ⟨hR.next k6, ⟨g', cap', cur', k7, k8, k9, k10⟩⟩
    · refine stepU_plain rfl fun u wr hR hK hD => ?_; obtain ⟨g, cap, cur, k1, k2, k3, k4⟩ := (hD 8 rfl); exact upon_call1 _ _ _ Try.func45 (by kernel_rfl) rfl k1 ((row_is (some ⟨g, 0, none⟩) (ss ++ [s]) r (n + 1) cap wr (rows_rd k2 k4) (by rw [Hn.out]; simp) hrl (by omega) Hr.out).mono fun e wn ⟨he, hb⟩ => ⟨_, he, hR.next hb, rfl⟩)
    · refine stepU_plain rfl fun u wr hR hK hD => ?_; exact upon_allocB rfl ⟨hR.next ((Below.refl _ _).alloc (Nat.le_refl _) _), ⟨_, rfl, Nat.le_trans hR.hB hR.be.size, .inl (heap_alloc_new _ _)⟩⟩
    · refine stepU_plain rfl fun u wr hR hK hD => ?_; obtain ⟨g, hg, hgB, hbl⟩ := hD 10 rfl; exact upon_storeB _ _ g rfl hg hgB hbl (hD 9 rfl) (Nat.le_trans hR.hB hR.be.size) fun w2 hR2 hb2 => ⟨hR2, ⟨g, hg, hgB, hb2⟩⟩
  intro u w2 hR hF
  have e7 : u 7 = .slice a n c := hF 0 (by decide)
  have e8 : u 8 = .slice a n c := hF 1 (by decide)
  have e9 : u 9 = .int .i64 n := hF 2 (by decide)
  have e10 : u 10 = .slice a n c := hF 3 (by decide)
  have e11 : u 11 = .int .i64 n := hF 4 (by decide)
  have e12 : u 12 = .slice a n n := hF 5 (by decide)
  have e13 : u 13 = .agg #[.string (pk s), .int .i64 s.length] := hF 6 (by decide)
  have e16 : u 16 = .agg #[.string (pk r), .int .i64 r.length] := hF 9 (by decide)
  obtain ⟨a14, p14, q14, e14, r14⟩ := hF 7 (by decide)
  obtain ⟨a15, p15, q15, e15, r15⟩ := hF 8 (by decide)
  obtain ⟨g6, e6, hg6, x_g6⟩ := hF 11 (by decide)
  simp only [finU, Act.put, List.setIfInBounds_toArray, List.set_cons_succ, List.set_cons_zero, e7, e8, e9, e10, e11, e12, e13, e14, e15, e16, e6]
  clear hF e7 e8 e9 e10 e11 e12 e13 e14 e15 e16 e6
  have hB2 : Below w.heap.size w w2 := chain hB.drew hB.size hR.be
  have hb_w2 : Below w1.heap.size w1 w2 := ⟨hR.be.os, hR.be.tape, hR.be.output, hR.be.size, hR.be.block⟩
  have y_S : Blk w2 w.heap.size 50 #[.string (pk s), .int .i64 s.length] := hR.old x_S.lt x_S
  clear hB hR x_S
  have hB := hB2
  clear hB2
  have x_S := y_S
  clear y_S
  clear r14 r15
  have hle : r.length ≤ 1024 ∨ 1024 < r.length := by omega
  rcases hle with hle | hle
  · have hleI : (r.length : Int) ≤ 1024 := by omega
    have c_S0_0 := x_S.cell 0
    have c_S1_0 := x_S.cell 1
    have c_g60_0 := x_g6.cell 0
    have c_g61_0 := x_g6.cell 1
    simp only [List.getElem?_toArray, List.getElem?_cons_zero, List.getElem?_cons_succ] at c_S0_0 c_S1_0 c_g60_0 c_g61_0
    go_wp2_with fail
    refine (lenR r _).mono ?_
    rintro e w3 ⟨rfl, hb3⟩
    have hB2 : Below w.heap.size w w3 := by first | exact chain0 hB hb3 | exact chain1 hB hb3 | exact chain2 hB hb3 | exact chain3 hB hb3
    clear hB
    have hB := hB2
    clear hB2
    have y_S : Blk w3 w.heap.size 50 #[.string (pk s), .int .i64 s.length] := by first | exact x_S.keep hb3 | exact (x_S.alloc _).keep hb3 | exact ((x_S.alloc _).alloc _).keep hb3 | exact (((x_S.alloc _).alloc _).alloc _).keep hb3
    have y_g6 : Blk w3 g6 50 #[.string (pk r), .int .i64 (r.length)] := by first | exact x_g6.keep hb3 | exact (x_g6.alloc _).keep hb3 | exact ((x_g6.alloc _).alloc _).keep hb3 | exact (((x_g6.alloc _).alloc _).alloc _).keep hb3
    clear x_S x_g6
    have x_S := y_S
    have x_g6 := y_g6
    clear y_S y_g6
    have c_S0_0 := x_S.cell 0
    have c_S1_0 := x_S.cell 1
    have c_g60_0 := x_g6.cell 0
    have c_g61_0 := x_g6.cell 1
    simp only [List.getElem?_toArray, List.getElem?_cons_zero, List.getElem?_cons_succ] at c_S0_0 c_S1_0 c_g60_0 c_g61_0
    have hz2 := hB.size
    go_wp2_with fail
    refine (packR r _).mono ?_
    rintro e w4 ⟨g, cap, rfl, hp, hb4⟩
    have hB2 : Below w.heap.size w w4 := by first | exact chain0 hB hb4 | exact chain1 hB hb4 | exact chain2 hB hb4 | exact chain3 hB hb4
    clear hB
    have hB := hB2
    clear hB2
    have y_S : Blk w4 w.heap.size 50 #[.string (pk s), .int .i64 s.length] := by first | exact x_S.keep hb4 | exact (x_S.alloc _).keep hb4 | exact ((x_S.alloc _).alloc _).keep hb4 | exact (((x_S.alloc _).alloc _).alloc _).keep hb4
    have y_g6 : Blk w4 g6 50 #[.string (pk r), .int .i64 (r.length)] := by first | exact x_g6.keep hb4 | exact (x_g6.alloc _).keep hb4 | exact ((x_g6.alloc _).alloc _).keep hb4 | exact (((x_g6.alloc _).alloc _).alloc _).keep hb4
    clear x_S x_g6
    have x_S := y_S
    have x_g6 := y_g6
    clear y_S y_g6
    go_wp2
    go_ret2
    exact .inl ⟨hle, g, cap, rfl, hp.mono hz2, hB⟩
  · have hleI : (1024 : Int) < r.length := by omega
    have c_S0_0 := x_S.cell 0
    have c_S1_0 := x_S.cell 1
    have c_g60_0 := x_g6.cell 0
    have c_g61_0 := x_g6.cell 1
    simp only [List.getElem?_toArray, List.getElem?_cons_zero, List.getElem?_cons_succ] at c_S0_0 c_S1_0 c_g60_0 c_g61_0
    go_wp2_with fail
    refine (lenR r _).mono ?_
    rintro e w3 ⟨rfl, hb3⟩
    have hB2 : Below w.heap.size w w3 := by first | exact chain0 hB hb3 | exact chain1 hB hb3 | exact chain2 hB hb3 | exact chain3 hB hb3
    clear hB
    have hB := hB2
    clear hB2
    have y_S : Blk w3 w.heap.size 50 #[.string (pk s), .int .i64 s.length] := by first | exact x_S.keep hb3 | exact (x_S.alloc _).keep hb3 | exact ((x_S.alloc _).alloc _).keep hb3 | exact (((x_S.alloc _).alloc _).alloc _).keep hb3
    have y_g6 : Blk w3 g6 50 #[.string (pk r), .int .i64 (r.length)] := by first | exact x_g6.keep hb3 | exact (x_g6.alloc _).keep hb3 | exact ((x_g6.alloc _).alloc _).keep hb3 | exact (((x_g6.alloc _).alloc _).alloc _).keep hb3
    clear x_S x_g6
    have x_S := y_S
    have x_g6 := y_g6
    clear y_S y_g6
    go_wp2
    go_ret2
    exact .inr ⟨hle, rfl, hB⟩
end Go.Proofs.Ytofbcgehemclbaa

