/- label: child, After, Compare. -/
import Derived.Test.YtofbcgehemclbaaLb5
namespace Go.Proofs.Ytofbcgehemclbaa
open Go.RowKit Bm
theorem of1 (w : World) : Calls Try.prog 35 #[.string ⟨#[49]⟩] w fun e w' => e = .returned (.tuple #[.agg #[.string ⟨#[128]⟩, .int .i64 1], .bool true]) ∧ Below w.heap.size w w' := of_ok [true] w (by decide)
theorem of0 (w : World) : Calls Try.prog 35 #[.string ⟨#[48]⟩] w fun e w' => e = .returned (.tuple #[.agg #[.string ⟨#[0]⟩, .int .i64 1], .bool true]) ∧ Below w.heap.size w w' := of_ok [false] w (by decide)
theorem and1 (l q : List Bool) (w : World) (h : l.length ≤ 1000000) (hq : q = l ++ [true]) :
    Calls Try.prog 51 #[.agg #[.string (pk l), .int .i64 l.length], .agg #[.string ⟨#[128]⟩, .int .i64 1]] w fun e w' => e = .returned (.agg #[.string (pk q), .int .i64 q.length]) ∧ Below w.heap.size w w' := by
  subst hq; exact and_ok l [true] w (by simp; omega)
theorem and0 (l q : List Bool) (w : World) (h : l.length ≤ 1000000) (hq : q = l ++ [false]) :
    Calls Try.prog 51 #[.agg #[.string (pk l), .int .i64 l.length], .agg #[.string ⟨#[0]⟩, .int .i64 1]] w fun e w' => e = .returned (.agg #[.string (pk q), .int .i64 q.length]) ∧ Below w.heap.size w w' := by
  subst hq; exact and_ok l [false] w (by simp; omega)
theorem compareL (a b : Option Addr) (xs ys : List UInt8) (n c m d : Nat) (q : Int) (w : World) (hx : RdB w a xs) (hy : RdB w b ys) (hn : n = xs.length) (hm : m = ys.length) (hq : q = Lib.compareBytes xs ys) :
    Calls Try.prog 29 #[.slice a n c, .slice b m d] w fun e w' => e = .returned (.int .i64 q) ∧ Below w.heap.size w w' := by
  have hB := Below.refl w.heap.size w
  have Hn := hide hn
  have Hm := hide hm
  have Hq := hide hq
  clear hn hm hq
  go_enter Try.func29, Try.ntmps29
  go_wp2_with fail
  refine (bytesCompare_any a b xs ys n c m d w hx hy Hn.out Hm.out).mono ?_
  rintro e w' ⟨rfl, rfl⟩
  go_wp2
  go_ret
  exact ⟨ret_int Hq.out.symm, hB⟩
set_option maxRecDepth 100000 in
set_option maxHeartbeats 1000000 in
theorem after_no (a : Option Addr) (bs : List UInt8) (n c : Nat) (w : World) (hr : RdB w a bs) (hn : n = bs.length) (hle : (n : Int) ≤ 9223372036854775807) (hs : IsL bs [] ∨ ¬ ∃ ss, IsL bs ss) :
    Calls Try.prog 22 #[.slice a n c] w fun e w' => e = .returned (.slice none 0 0) ∧ Below w.heap.size w w' := by
  have hB := Below.refl w.heap.size w
  have Hn := hide hn
  clear hn
  rcases hs with hs | hs
  · have hcs := steps_yes a bs [] n c
    rw [show ([] : List (List Bool)).length = 0 from rfl] at hcs
    have Hcs := hide hcs
    clear hcs
    go_enter Try.func22, Try.ntmps22
    go_wp2_with fail
    refine (Hcs.out _ hr Hn.out hle hs).mono ?_
    rintro e w1 ⟨a1, c1, rfl, ⟨h1, hc1⟩, hb1⟩
    have hB2 : Below w.heap.size w w1 := by first | exact chain0 hB hb1 | exact chain1 hB hb1 | exact chain2 hB hb1 | exact chain3 hB hb1
    clear hB
    have hB := hB2
    clear hB2
    go_wp2
    go_ret
    exact ⟨rfl, hB⟩
  · have Hs := hide hs
    clear hs
    go_enter Try.func22, Try.ntmps22
    go_wp2_with fail
    refine (steps_no a bs n c _ hr Hn.out hle Hs.out).mono ?_
    rintro e w1 ⟨rfl, hb1⟩
    have hB2 : Below w.heap.size w w1 := by first | exact chain0 hB hb1 | exact chain1 hB hb1 | exact chain2 hB hb1 | exact chain3 hB hb1
    clear hB
    have hB := hB2
    clear hB2
    go_wp2
    go_ret
    exact ⟨rfl, hB⟩
set_option maxRecDepth 100000 in
set_option maxHeartbeats 1000000 in
theorem after_yes (a : Option Addr) (bs : List UInt8) (ss : List (List Bool)) (q : List Bool) (n c : Nat) (w : World) (hr : RdB w a bs) (hn : n = bs.length) (hle : (n : Int) ≤ 9223372036854775807) (hs : IsL bs ss) (h0 : ss ≠ [])
    (hq : q = (wr ss).dropLast ++ [true]) :
    Calls Try.prog 22 #[.slice a n c] w fun e w' => ∃ g cap, e = .returned (.slice (some ⟨g, 0, none⟩) (nb q.length) cap) ∧ Fr w.heap.size w' g cap (pkL q) ∧ Below w.heap.size w w' := by
  have hB := Below.refl w.heap.size w
  obtain ⟨k, hk⟩ : ∃ k, ss.length = k + 1 := ⟨ss.length - 1, by have := List.length_pos_iff.2 h0; omega⟩
  obtain ⟨r, hr2⟩ : ∃ r, r = wr ss := ⟨_, rfl⟩
  have hrl : r.length ≤ 1024 := by rw [hr2]; exact hs.2.1
  obtain ⟨m, hm⟩ : ∃ m, r.length = m + 1 := ⟨r.length - 1, by
    cases ss with
    | nil => exact absurd rfl h0
    | cons x y => rw [hr2, wr_cons, List.length_append, enc_length]; omega⟩
  obtain ⟨d, hd⟩ : ∃ d, d = r.dropLast := ⟨_, rfl⟩
  have hdt : d = (r.drop 0).take m := by rw [hd, List.dropLast_eq_take, hm]; rfl
  have hdl : d.length ≤ 1024 := by rw [hdt]; simp; omega
  have hkl : k ≤ 1024 := by have := wr_le hs.2.1; omega
  rw [← hr2, ← hd] at hq
  have hmi : IntKind.i64.wrap ((r.length : Int) - 1) = (m : Int) := by rw [IntKind.wrap_i64]; omega
  have Hn := hide hn
  have Hk := hide hk
  have Hr2 := hide hr2
  have Hm := hide hm
  have Hdt := hide hdt
  have Hq := hide hq
  have Hmi := hide hmi
  have hcs := steps_yes a bs ss n c
  rw [hk] at hcs
  have Hcs := hide hcs
  clear hn hk hr2 hm hd hdt hq h0 hcs hmi
  go_enter Try.func22, Try.ntmps22
  go_wp2_with fail
  refine (Hcs.out _ hr Hn.out hle hs).mono ?_
  rintro e w1 ⟨a1, c1, rfl, ⟨h1, hc1⟩, hb1⟩
  have hB2 : Below w.heap.size w w1 := by first | exact chain0 hB hb1 | exact chain1 hB hb1 | exact chain2 hB hb1 | exact chain3 hB hb1
  clear hB
  have hB := hB2
  clear hB2
  go_wp2_with fail
  refine (row_is a1 ss r _ _ _ h1 Hk.out.symm (by omega) (by omega) Hr2.out).mono ?_
  rintro e w2 ⟨rfl, hb2⟩
  have hB2 : Below w.heap.size w w2 := by first | exact chain0 hB hb2 | exact chain1 hB hb2 | exact chain2 hB hb2 | exact chain3 hB hb2
  clear hB
  have hB := hB2
  clear hB2
  go_wp2_with fail
  obtain ⟨w3, hw3⟩ : ∃ W, W = w2.alloc (.cells #[.string (pk r), .int .i64 r.length] 50) := ⟨_, rfl⟩
  have y_R : Blk w3 w2.heap.size 50 #[.string (pk r), .int .i64 r.length] := by rw [hw3]; exact Blk.new _ _ _
  have hB2 : Below w.heap.size w w3 := by rw [hw3]; exact hB.alloc hB.size _
  rw [← hw3]
  clear hB hw3 
  have hB := hB2
  clear hB2
  have x_R := y_R
  clear y_R
  refine wp_region_facts (R := RB w3.heap.size (pk d) (d.length)) [eqF w3.heap.size (pk d) (d.length) 25 (.agg #[.string (pk r), .int .i64 r.length]), eqF w3.heap.size (pk d) (d.length) 26 (.agg #[.string (pk r), .int .i64 r.length]), eqF w3.heap.size (pk d) (d.length) 27 (.int .i64 r.length), eqF w3.heap.size (pk d) (d.length) 28 (.int .i64 m), eqF w3.heap.size (pk d) (d.length) 29 (.tuple #[.agg #[.string (pk d), .int .i64 d.length], .bool true]), eqF w3.heap.size (pk d) (d.length) 24 (.tuple #[.agg #[.string (pk d), .int .i64 d.length], .bool true]), eqF w3.heap.size (pk d) (d.length) 30 (.agg #[.string (pk d), .int .i64 d.length]), eqF w3.heap.size (pk d) (d.length) 31 (.bool true), newF w3.heap.size (pk d) (d.length) 6, putF w3.heap.size (pk d) (d.length) 6, eqF w3.heap.size (pk d) (d.length) 7 (.bool true)] (by kernel_rfl) (by kernel_rfl) (by kernel_rfl) (RB.refl (Nat.le_refl _)) (fun _ h => h.again) (fun _ _ _ h k => h.trans k) ?_ ?_
  · refine stepsU_cons rfl ?_ (stepsU_cons rfl ?_ (stepsU_cons rfl ?_ (stepsU_cons rfl ?_ (stepsU_cons rfl ?_ (stepsU_cons rfl ?_ (stepsU_cons rfl ?_ (stepsU_cons rfl ?_ (stepsU_cons rfl ?_ (stepsU_cons rfl ?_ (stepsU_cons rfl ?_ (stepsU_nil)))))))))))
    · refine stepU_plain rfl fun u wr hR hK hD => ?_; exact upon_loadB _ _ _ _ rfl (hK 5 rfl) (hR.old x_R.lt x_R) ⟨hR.again, rfl⟩
    · refine stepU_plain rfl fun u wr hR hK hD => ?_; exact upon_loadB _ _ _ _ rfl (hK 5 rfl) (hR.old x_R.lt x_R) ⟨hR.again, rfl⟩
    · refine stepU_plain rfl fun u wr hR hK hD => ?_; exact upon_call1 _ _ _ Try.func50 (by kernel_rfl) rfl (hD 1 rfl) ((lenR r wr).mono fun e wn ⟨he, hb⟩ => ⟨_, he, hR.next hb, rfl⟩)
    · refine stepU_plain rfl fun u wr hR hK hD => ?_; have h1 : u 27 = _ := (hD 2 rfl); exact upon_val _ (by unfold execOp; simp [go_sem, evU, h1]; exact Hmi.out) ⟨hR.again, rfl⟩
    · refine stepU_plain rfl fun u wr hR hK hD => ?_; exact upon_call3 _ _ _ _ _ _ _ Try.func49 (by kernel_rfl) rfl (hD 0 rfl) rfl (hD 3 rfl) ((cutR r d 0 m 0 m wr rfl (by omega) (by omega) (by have := Hm.out; omega) Hdt.out).mono fun e wn ⟨he, hb⟩ => ⟨_, he, hR.next hb, rfl⟩)
    · refine stepU_plain rfl fun u wr hR hK hD => ?_; exact upon_move _ _ rfl (hD 4 rfl) ⟨hR.again, rfl⟩
    · refine stepU_plain rfl fun u wr hR hK hD => ?_; exact upon_extract _ 0 _ _ rfl (hD 5 rfl) rfl ⟨hR.again, rfl⟩
    · refine stepU_plain rfl fun u wr hR hK hD => ?_; exact upon_extract _ 1 _ _ rfl (hD 5 rfl) rfl ⟨hR.again, rfl⟩
    · refine stepU_plain rfl fun u wr hR hK hD => ?_; exact upon_allocB rfl ⟨hR.next ((Below.refl _ _).alloc (Nat.le_refl _) _), ⟨_, rfl, Nat.le_trans hR.hB hR.be.size, .inl (heap_alloc_new _ _)⟩⟩
    · refine stepU_plain rfl fun u wr hR hK hD => ?_; obtain ⟨g, hg, hgB, hbl⟩ := hD 8 rfl; exact upon_storeB _ _ g rfl hg hgB hbl (hD 6 rfl) (Nat.le_trans hR.hB hR.be.size) fun w2 hR2 hb2 => ⟨hR2, ⟨g, hg, hgB, hb2⟩⟩
    · refine stepU_plain rfl fun u wr hR hK hD => ?_; exact upon_assign _ _ rfl (hD 7 rfl) ⟨hR.again, rfl⟩
  intro u w4 hR hF
  have e25 : u 25 = .agg #[.string (pk r), .int .i64 r.length] := hF 0 (by decide)
  have e26 : u 26 = .agg #[.string (pk r), .int .i64 r.length] := hF 1 (by decide)
  have e27 : u 27 = .int .i64 r.length := hF 2 (by decide)
  have e28 : u 28 = .int .i64 m := hF 3 (by decide)
  have e29 : u 29 = .tuple #[.agg #[.string (pk d), .int .i64 d.length], .bool true] := hF 4 (by decide)
  have e24 : u 24 = .tuple #[.agg #[.string (pk d), .int .i64 d.length], .bool true] := hF 5 (by decide)
  have e30 : u 30 = .agg #[.string (pk d), .int .i64 d.length] := hF 6 (by decide)
  have e31 : u 31 = .bool true := hF 7 (by decide)
  have e7 : u 7 = .bool true := hF 10 (by decide)
  obtain ⟨g6, e6, hg6, x_g6⟩ := hF 9 (by decide)
  simp only [finU, Act.put, List.setIfInBounds_toArray, List.set_cons_succ, List.set_cons_zero, e25, e26, e27, e28, e29, e24, e30, e31, e6, e7]
  clear hF e25 e26 e27 e28 e29 e24 e30 e31 e6 e7
  have hB2 : Below w.heap.size w w4 := chain hB.drew hB.size hR.be
  have hb_w4 : Below w3.heap.size w3 w4 := ⟨hR.be.os, hR.be.tape, hR.be.output, hR.be.size, hR.be.block⟩
  have y_R : Blk w4 w2.heap.size 50 #[.string (pk r), .int .i64 r.length] := hR.old x_R.lt x_R
  clear hB hR x_R
  have hB := hB2
  clear hB2
  have x_R := y_R
  clear y_R
  go_wp2_with fail
  refine (of1 _).mono ?_
  rintro e w5 ⟨rfl, hb5⟩
  have hB2 : Below w.heap.size w w5 := by first | exact chain0 hB hb5 | exact chain1 hB hb5 | exact chain2 hB hb5 | exact chain3 hB hb5
  clear hB
  have hB := hB2
  clear hB2
  have y_R : Blk w5 w2.heap.size 50 #[.string (pk r), .int .i64 r.length] := by first | exact x_R.keep hb5 | exact (x_R.alloc _).keep hb5 | exact ((x_R.alloc _).alloc _).keep hb5 | exact (((x_R.alloc _).alloc _).alloc _).keep hb5
  have y_g6 : Blk w5 g6 50 #[.string (pk d), .int .i64 (d.length)] := by first | exact x_g6.keep hb5 | exact (x_g6.alloc _).keep hb5 | exact ((x_g6.alloc _).alloc _).keep hb5 | exact (((x_g6.alloc _).alloc _).alloc _).keep hb5
  clear x_R x_g6
  have x_R := y_R
  have x_g6 := y_g6
  clear y_R y_g6
  have c_R0_1 := fun o0 => (x_R.alloc o0).cell 0
  have c_R1_1 := fun o0 => (x_R.alloc o0).cell 1
  have c_g60_1 := fun o0 => (x_g6.alloc o0).cell 0
  have c_g61_1 := fun o0 => (x_g6.alloc o0).cell 1
  simp only [List.getElem?_toArray, List.getElem?_cons_zero, List.getElem?_cons_succ] at c_R0_1 c_R1_1 c_g60_1 c_g61_1
  go_wp2_with fail
  refine (and1 d q _ (by omega) Hq.out).mono ?_
  rintro e w7 ⟨rfl, hb7⟩
  have hB2 : Below w.heap.size w w7 := by first | exact chain0 hB hb7 | exact chain1 hB hb7 | exact chain2 hB hb7 | exact chain3 hB hb7
  clear hB
  have hB := hB2
  clear hB2
  have y_R : Blk w7 w2.heap.size 50 #[.string (pk r), .int .i64 r.length] := by first | exact x_R.keep hb7 | exact (x_R.alloc _).keep hb7 | exact ((x_R.alloc _).alloc _).keep hb7 | exact (((x_R.alloc _).alloc _).alloc _).keep hb7
  have y_g6 : Blk w7 g6 50 #[.string (pk d), .int .i64 (d.length)] := by first | exact x_g6.keep hb7 | exact (x_g6.alloc _).keep hb7 | exact ((x_g6.alloc _).alloc _).keep hb7 | exact (((x_g6.alloc _).alloc _).alloc _).keep hb7
  clear x_R x_g6
  have x_R := y_R
  have x_g6 := y_g6
  clear y_R y_g6
  have hz2 := hB.size
  go_wp2_with fail
  refine (packR q _).mono ?_
  rintro e w8 ⟨g, cap, rfl, hp, hb8⟩
  have hB2 : Below w.heap.size w w8 := by first | exact chain0 hB hb8 | exact chain1 hB hb8 | exact chain2 hB hb8 | exact chain3 hB hb8
  clear hB
  have hB := hB2
  clear hB2
  have y_R : Blk w8 w2.heap.size 50 #[.string (pk r), .int .i64 r.length] := by first | exact x_R.keep hb8 | exact (x_R.alloc _).keep hb8 | exact ((x_R.alloc _).alloc _).keep hb8 | exact (((x_R.alloc _).alloc _).alloc _).keep hb8
  have y_g6 : Blk w8 g6 50 #[.string (pk d), .int .i64 (d.length)] := by first | exact x_g6.keep hb8 | exact (x_g6.alloc _).keep hb8 | exact ((x_g6.alloc _).alloc _).keep hb8 | exact (((x_g6.alloc _).alloc _).alloc _).keep hb8
  clear x_R x_g6
  have x_R := y_R
  have x_g6 := y_g6
  clear y_R y_g6
  go_wp2
  go_ret
  exact ⟨g, cap, rfl, hp.mono hz2, hB⟩
end Go.Proofs.Ytofbcgehemclbaa

