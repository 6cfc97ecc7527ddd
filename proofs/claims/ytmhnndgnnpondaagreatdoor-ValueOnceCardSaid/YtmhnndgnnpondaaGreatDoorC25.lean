/- SameItems at two rows of one item; is. is: does an operation make this one number? value.substring: 'motor', from 2 on, three of it. value.known at 'substring' of three. value.Call: 'substring' of 'motor', 2, 3. -/
import Derived.Test.YtmhnndgnnpondaaGreatDoorC13
import Derived.Test.YtmhnndgnnpondaaGreatDoorRgi
import Derived.Test.YtmhnndgnnpondaaGreatDoorC00
import Derived.Test.YtmhnndgnnpondaaGreatDoorC01
namespace Go.Proofs.YtmhnndgnnpondaaGreatDoor
open Go.RowKit
set_option maxRecDepth 100000 in
set_option maxHeartbeats 4000000 in
theorem same_one (g1 g2 c1 c2 k : Nat) (a d : Int) (t : ByteArray) (w : World) (h1 : RdI w (some ⟨g1, 0, none⟩) [⟨k, a, t, d⟩]) (h2 : RdI w (some ⟨g2, 0, none⟩) [⟨k, a, t, d⟩]) :
  Calls Tryz.prog 8 #[.slice (some ⟨g1, 0, none⟩) 1 c1, .slice (some ⟨g2, 0, none⟩) 1 c2] w fun e w' => e = .returned (.bool true) ∧ Below w.heap.size w w' := by
 have i10 := ix_item0 g1 1 c1 (by decide)
 have i20 := ix_item0 g2 1 c2 (by decide)
 obtain ⟨a_0, a_1, a_2, a_3⟩ := h1.z0 _ rfl
 obtain ⟨b_0, b_1, b_2, b_3⟩ := h2.z0 _ rfl
 have A_0 : w.drew.cell? ⟨g1, 0, none⟩ = some (.int .u8 k) := a_0
 have A_1 : w.drew.cell? ⟨g1, 1, none⟩ = some (.int .i64 a) := a_1
 have A_2 : w.drew.cell? ⟨g1, 2, none⟩ = some (.string t) := a_2
 have A_3 : w.drew.cell? ⟨g1, 3, none⟩ = some (.int .i64 d) := a_3
 have B_0 : w.drew.cell? ⟨g2, 0, none⟩ = some (.int .u8 k) := b_0
 have B_1 : w.drew.cell? ⟨g2, 1, none⟩ = some (.int .i64 a) := b_1
 have B_2 : w.drew.cell? ⟨g2, 2, none⟩ = some (.string t) := b_2
 have B_3 : w.drew.cell? ⟨g2, 3, none⟩ = some (.int .i64 d) := b_3
 clear h1 h2 a_0 a_1 a_2 a_3 b_0 b_1 b_2 b_3
 go_enter Tryz.func8, Tryz.ntmps8
 go_wp2_with fail
 refine wp_loop_rounds 3 ?_
 rw [rounds_succ]
 go_wp2_with fail
 go_region
 go_wp2_with fail
 rw [rounds_succ]
 go_wp2
 go_ret
 exact ⟨rfl, Below.drew (Below.refl _ _)⟩
end Go.Proofs.YtmhnndgnnpondaaGreatDoor
namespace Go.Proofs.YtmhnndgnnpondaaGreatDoor
open Go.RowKit
set_option maxRecDepth 100000 in
set_option maxHeartbeats 4000000 in
theorem is_any (s : ByteArray) (k1 k2 : Nat) (a1 a2 d1 d2 x y v1 n : Int) (t1 t2 : ByteArray) (w : World) (hg1 : Good ⟨k1, a1, t1, d1⟩) (hg2 : Good ⟨k2, a2, t2, d2⟩) (hnx : IsNum k1 a1 t1 d1 x) (hny : IsNum k2 a2 t2 d2 y) (hm1 : Made s 1 1 v1 0) (hm : Made s x y n 0) :
  Calls Tryz.prog 25 #[.string s, .agg #[.int .u8 k1, .int .i64 a1, .string t1, .int .i64 d1], .agg #[.int .u8 k2, .int .i64 a2, .string t2, .int .i64 d2], .int .i64 n] w fun e w' => e = .returned (.bool true) ∧ Below w.heap.size w w' := by
 have harith := arith_ok s
 have Hg1 := hide hg1
 have Hg2 := hide hg2
 have Hnx := hide hnx
 have Hny := hide hny
 have Hm1 := hide hm1
 have Hm := hide hm
 have Ha := hide harith
 clear hg1 hg2 hnx hny hm1 hm harith
 have x_a : Blk ((w.alloc (.cells #[.int .u8 k1, .int .i64 a1, .string t1, .int .i64 d1] 31)).alloc (.cells #[.int .u8 k2, .int .i64 a2, .string t2, .int .i64 d2] 31)) w.heap.size 31 #[.int .u8 k1, .int .i64 a1, .string t1, .int .i64 d1] := (Blk.new w _ _).alloc _
 have x_b : Blk ((w.alloc (.cells #[.int .u8 k1, .int .i64 a1, .string t1, .int .i64 d1] 31)).alloc (.cells #[.int .u8 k2, .int .i64 a2, .string t2, .int .i64 d2] 31)) (w.heap.size + 1) 31 #[.int .u8 k2, .int .i64 a2, .string t2, .int .i64 d2] := by
  have := Blk.new (w.alloc (.cells #[.int .u8 k1, .int .i64 a1, .string t1, .int .i64 d1] 31)) 31 #[.int .u8 k2, .int .i64 a2, .string t2, .int .i64 d2]
  simpa using this
 have hB : Below w.heap.size w ((w.alloc (.cells #[.int .u8 k1, .int .i64 a1, .string t1, .int .i64 d1] 31)).alloc (.cells #[.int .u8 k2, .int .i64 a2, .string t2, .int .i64 d2] 31)) := ((Below.refl _ _).alloc (Nat.le_refl _) _).alloc (by simp) _
 go_enter Tryz.func25, Tryz.ntmps25
 go_wp2_with fail
 generalize ((w.alloc (.cells #[.int .u8 k1, .int .i64 a1, .string t1, .int .i64 d1] 31)).alloc (.cells #[.int .u8 k2, .int .i64 a2, .string t2, .int .i64 d2] 31)) = w1 at *
 refine wp_region_facts (R := RB w1.heap.size (⟨#[]⟩) (0)) [eqF _ _ _ 12 (.string s), eqF _ _ _ 13 (.agg #[.int .u8 k1, .int .i64 a1, .string t1, .int .i64 d1]), itsF w1.heap.size ⟨#[]⟩ 0 14 1 1 [⟨k1, a1, t1, d1⟩], itsF w1.heap.size ⟨#[]⟩ 0 15 1 1 [⟨k1, a1, t1, d1⟩], eqF _ _ _ 16 (.agg #[.int .u8 k2, .int .i64 a2, .string t2, .int .i64 d2]), itsF w1.heap.size ⟨#[]⟩ 0 17 1 1 [⟨k2, a2, t2, d2⟩], itsF w1.heap.size ⟨#[]⟩ 0 18 1 1 [⟨k2, a2, t2, d2⟩], someF w1.heap.size ⟨#[]⟩ 0 19 (fun x : Nat × Nat => .tuple #[.slice (some ⟨x.1, 0, none⟩) 1 1, .int .i64 0]) (fun x W => RdI W (some ⟨x.1, 0, none⟩) [⟨2, n, ⟨#[]⟩, 0⟩]) (fun _ _ _ h k => h.rdi k), someF w1.heap.size ⟨#[]⟩ 0 11 (fun x : Nat × Nat => .tuple #[.slice (some ⟨x.1, 0, none⟩) 1 1, .int .i64 0]) (fun x W => RdI W (some ⟨x.1, 0, none⟩) [⟨2, n, ⟨#[]⟩, 0⟩]) (fun _ _ _ h k => h.rdi k), someF w1.heap.size ⟨#[]⟩ 0 20 (fun x : Nat × Nat => .slice (some ⟨x.1, 0, none⟩) 1 1) (fun x W => RdI W (some ⟨x.1, 0, none⟩) [⟨2, n, ⟨#[]⟩, 0⟩]) (fun _ _ _ h k => h.rdi k), eqF _ _ _ 21 (.int .i64 0), someF w1.heap.size ⟨#[]⟩ 0 9 (fun x : Nat × Nat => .slice (some ⟨x.1, 0, none⟩) 1 1) (fun x W => RdI W (some ⟨x.1, 0, none⟩) [⟨2, n, ⟨#[]⟩, 0⟩]) (fun _ _ _ h k => h.rdi k), eqF _ _ _ 10 (.int .i64 0)] (by kernel_rfl) (by kernel_rfl) (by kernel_rfl) (RB.refl (Nat.le_refl _)) (fun _ h => h.again) (fun _ _ _ h k => h.trans k) ?_ ?_
 ·refine stepsU_cons rfl ?_ (stepsU_cons rfl ?_ (stepsU_cons rfl ?_ (stepsU_cons rfl ?_ (stepsU_cons rfl ?_ (stepsU_cons rfl ?_ (stepsU_cons rfl ?_ (stepsU_cons rfl ?_ (stepsU_cons rfl ?_ (stepsU_cons rfl ?_ (stepsU_cons rfl ?_ (stepsU_cons rfl ?_ (stepsU_cons rfl ?_ (stepsU_nil)))))))))))))
  ·refine stepU_plain rfl fun u wr hR hK hD => ?_; exact upon_move _ _ rfl (hK 0 rfl) ⟨hR.again, rfl⟩
  ·refine stepU_plain rfl fun u wr hR hK hD => ?_; exact upon_loadIt _ _ _ _ _ _ rfl (hK 5 rfl) (hR.old x_a.lt x_a) ⟨hR.again, rfl⟩
  ·refine stepU_plain rfl fun u wr hR hK hD => ?_; exact upon_buildIt _ _ _ _ _ rfl (hD 1 rfl) ⟨hR.next ((Below.refl _ _).alloc (Nat.le_refl _) _), ⟨_, rfl, Nat.le_trans hR.hB hR.be.size, RdI.new _ _ [⟨k1, a1, t1, d1⟩]⟩⟩
  ·refine stepU_plain rfl fun u wr hR hK hD => ?_; obtain ⟨g, h1, h2, h3⟩ := (hD 2 rfl); exact upon_call1 _ _ _ Tryz.func20 (by kernel_rfl) rfl h1 ((lrow_any _ _ _ _).mono fun e wn ⟨he, hw⟩ => ⟨_, he, by subst hw; exact ⟨hR.again, ⟨g, rfl, h2, h3⟩⟩⟩)
  ·refine stepU_plain rfl fun u wr hR hK hD => ?_; exact upon_loadIt _ _ _ _ _ _ rfl (hK 6 rfl) (hR.old x_b.lt x_b) ⟨hR.again, rfl⟩
  ·refine stepU_plain rfl fun u wr hR hK hD => ?_; exact upon_buildIt _ _ _ _ _ rfl (hD 4 rfl) ⟨hR.next ((Below.refl _ _).alloc (Nat.le_refl _) _), ⟨_, rfl, Nat.le_trans hR.hB hR.be.size, RdI.new _ _ [⟨k2, a2, t2, d2⟩]⟩⟩
  ·refine stepU_plain rfl fun u wr hR hK hD => ?_; obtain ⟨g, h1, h2, h3⟩ := (hD 5 rfl); exact upon_call1 _ _ _ Tryz.func20 (by kernel_rfl) rfl h1 ((lrow_any _ _ _ _).mono fun e wn ⟨he, hw⟩ => ⟨_, he, by subst hw; exact ⟨hR.again, ⟨g, rfl, h2, h3⟩⟩⟩)
  ·refine stepU_plain rfl fun u wr hR hK hD => ?_; obtain ⟨g1, h1, h2, h3⟩ := (hD 3 rfl); obtain ⟨g2, m1, m2, m3⟩ := (hD 6 rfl); exact upon_call3 _ _ _ _ _ _ _ Tryz.func11 (by kernel_rfl) rfl (hD 0 rfl) h1 m1 ((Ha.out g1 g2 1 1 k1 k2 a1 a2 d1 d2 x y n v1 t1 t2 wr h3 m3 Hg1.out Hg2.out Hnx.out Hny.out Hm1.out Hm.out).mono fun e wn ⟨g, he, hg, hr, hb⟩ => ⟨_, he, hR.next hb, ⟨(g, 0), rfl, hr⟩⟩)
  ·refine stepU_plain rfl fun u wr hR hK hD => ?_; obtain ⟨x, h1, h2⟩ := (hD 7 rfl); exact upon_move _ _ rfl h1 ⟨hR.again, ⟨x, rfl, h2⟩⟩
  ·refine stepU_plain rfl fun u wr hR hK hD => ?_; obtain ⟨x, h1, h2⟩ := (hD 8 rfl); exact upon_extract _ 0 _ _ rfl h1 rfl ⟨hR.again, ⟨x, rfl, h2⟩⟩
  ·refine stepU_plain rfl fun u wr hR hK hD => ?_; obtain ⟨x, h1, h2⟩ := (hD 8 rfl); exact upon_extract _ 1 _ _ rfl h1 rfl ⟨hR.again, rfl⟩
  ·refine stepU_plain rfl fun u wr hR hK hD => ?_; obtain ⟨x, h1, h2⟩ := (hD 9 rfl); exact upon_assign _ _ rfl h1 ⟨hR.again, ⟨x, rfl, h2⟩⟩
  ·refine stepU_plain rfl fun u wr hR hK hD => ?_; exact upon_assign _ _ rfl (hD 10 rfl) ⟨hR.again, rfl⟩
 intro u w2 hR hF
 have e12 : u 12 = .string s := hF 0 (by decide)
 have e13 : u 13 = .agg #[.int .u8 k1, .int .i64 a1, .string t1, .int .i64 d1] := hF 1 (by decide)
 have e16 : u 16 = .agg #[.int .u8 k2, .int .i64 a2, .string t2, .int .i64 d2] := hF 4 (by decide)
 have e21 : u 21 = .int .i64 0 := hF 10 (by decide)
 have e10 : u 10 = .int .i64 0 := hF 12 (by decide)
 obtain ⟨a14, e14, p14, r14⟩ := hF 2 (by decide)
 obtain ⟨a15, e15, p15, r15⟩ := hF 3 (by decide)
 obtain ⟨a17, e17, p17, r17⟩ := hF 5 (by decide)
 obtain ⟨a18, e18, p18, r18⟩ := hF 6 (by decide)
 obtain ⟨⟨a19, p19⟩, e19, r19⟩ := hF 7 (by decide)
 dsimp only at e19 r19
 obtain ⟨⟨a11, p11⟩, e11, r11⟩ := hF 8 (by decide)
 dsimp only at e11 r11
 obtain ⟨⟨a20, p20⟩, e20, r20⟩ := hF 9 (by decide)
 dsimp only at e20 r20
 obtain ⟨⟨a9, p9⟩, e9, r9⟩ := hF 11 (by decide)
 dsimp only at e9 r9
 simp only [finU, Act.put, List.setIfInBounds_toArray, List.set_cons_succ, List.set_cons_zero, e12, e13, e14, e15, e16, e17, e18, e19, e11, e20, e21, e9, e10]
 clear hF e12 e13 e14 e15 e16 e17 e18 e19 e11 e20 e21 e9 e10
 have hB2 : Below w.heap.size w w2 := chain hB.drew hB.size hR.be
 have hb_w2 : Below w1.heap.size w1 w2 := ⟨hR.be.os, hR.be.tape, hR.be.output, hR.be.size, hR.be.block⟩
 clear hB hR
 have hB := hB2
 clear hB2
 have R9 := hide r9
 clear r9 r20 r19 r18 r17 r15 r14 r11 p18 p17 p15 p14 Ha Hg1 Hg2 Hnx Hny Hm1 Hm
 go_wp2_with fail
 refine (lwhole_any n _).mono ?_
 rintro e w3 ⟨rfl, hb3⟩
 have hB3 := chain0 hB hb3
 have R93 := hide (R9.out.keep hb3)
 clear hb3 R9
 go_wp2_with fail
 refine (lrow_any _ _ _ _).mono ?_
 rintro e w4 ⟨rfl, rfl⟩
 go_wp2_with fail
 refine (same_one a9 w3.heap.size 1 1 2 n 0 ⟨#[]⟩ _ (R93.out.alloc _) (RdI.new w3 31 [⟨2, n, ⟨#[]⟩, 0⟩])).mono ?_
 rintro e w5 ⟨rfl, hb5⟩
 have hB5 := chain1 hB3 hb5
 clear hb5
 go_wp2
 go_ret
 exact ⟨rfl, hB5⟩
end Go.Proofs.YtmhnndgnnpondaaGreatDoor
namespace Go.Proofs.YtmhnndgnnpondaaGreatDoor
open Go.RowKit
theorem ix_row0 (a c : Nat) (W : World) : (Instr.indexAt 33 (.slice (some ⟨a, 0, none⟩) 3 c) (.int .i64 0)).run Tryz.prog W = .ok (.pointer (some ⟨a, 0, none⟩)) W := ix_row a 0 3 c 0 (by decide) W
theorem ix_row1 (a c : Nat) (W : World) : (Instr.indexAt 33 (.slice (some ⟨a, 0, none⟩) 3 c) (.int .i64 1)).run Tryz.prog W = .ok (.pointer (some ⟨a, 1, none⟩)) W := by
 have := ix_row a 0 3 c 1 (by decide) W
 rwa [Nat.zero_add] at this
theorem ix_row2 (a c : Nat) (W : World) : (Instr.indexAt 33 (.slice (some ⟨a, 0, none⟩) 3 c) (.int .i64 2)).run Tryz.prog W = .ok (.pointer (some ⟨a, 2, none⟩)) W := by
 have := ix_row a 0 3 c 2 (by decide) W
 rwa [Nat.zero_add] at this
def motorS : ByteArray := ⟨#[109, 111, 116, 111, 114]⟩
def cutM : Nat → List UInt8
 | 0 => []
 | 1 => []
 | 2 => [111]
 | 3 => [111, 116]
 | _ => [111, 116, 111]
theorem cutM_le (k : Nat) : (cutM k).length ≤ 3 := by
 match k with
 | 0 => decide
 | 1 => decide
 | 2 => decide
 | 3 => decide
 | k + 4 => exact Nat.le_refl 3
theorem ascii_motor : Ascii motorS := by unfold Ascii motorS; decide
theorem next_motor (W : World) (it k : Nat) (r : Int) (ty : TypeId) (hit : W.heap[it]? = some (.stringIter motorS k)) (hk : k < 5) (hr : ((motorS[k]'hk).toNat : Int) = r) :
  (Instr.next (.pointer (some ⟨it, 0, none⟩)) true ty).run Tryz.prog W = .ok (.tuple #[.bool true, .int .i64 k, .int .i32 r]) (W.iterAt it motorS (k + 1)) := by
 rw [Lib.run_next_ascii_at W it motorS k ty hit hk (by have := ascii_motor k hk; omega), hr]
theorem bld_new (w : World) (B b : Nat) (hB : B ≤ b) (h : Blk w b 146 #[.pointer none, .slice none 0 0]) : Lib.IsBuilderF 146 5 B b [] w :=
 .of (.inl ⟨hB, .slice none 0 0, h, ⟨by simp, .inl ⟨rfl, rfl⟩⟩, by simp [Value.ownBlock]⟩)
set_option maxRecDepth 100000 in
set_option maxHeartbeats 4000000 in
theorem substring_motor (a c g1 g2 g3 c1 c2 c3 : Nat) (w : World) (hr : Rd w (some ⟨a, 0, none⟩) [.slice (some ⟨g1, 0, none⟩) 1 c1, .slice (some ⟨g2, 0, none⟩) 1 c2, .slice (some ⟨g3, 0, none⟩) 1 c3])
  (h1 : RdI w (some ⟨g1, 0, none⟩) [⟨3, 0, motorS, 0⟩]) (h2 : RdI w (some ⟨g2, 0, none⟩) [⟨2, 2, ⟨#[]⟩, 0⟩]) (h3 : RdI w (some ⟨g3, 0, none⟩) [⟨2, 3, ⟨#[]⟩, 0⟩]) :
  Calls Tryz.prog 65 #[.slice (some ⟨a, 0, none⟩) 3 c] w fun e w' =>
   ∃ g, e = .returned (.tuple #[.slice (some ⟨g, 0, none⟩) 1 1, .int .i64 0]) ∧ w.heap.size ≤ g ∧ RdI w' (some ⟨g, 0, none⟩) [⟨3, 0, ⟨#[111, 116, 111]⟩, 0⟩] ∧ Below w.heap.size w w' := by
 have i0 := ix_row0 a c
 have i1 := ix_row1 a c
 have i2 := ix_row2 a c
 have a0 : w.cell? ⟨a, 0, none⟩ = some (.slice (some ⟨g1, 0, none⟩) 1 c1) := by
  obtain ⟨b, off, e, hx⟩ := hr.cellAt 0 _ rfl
  injection e with e; injection e with e1 e2; subst e1 e2; exact hx
 have a1 : w.cell? ⟨a, 1, none⟩ = some (.slice (some ⟨g2, 0, none⟩) 1 c2) := by
  obtain ⟨b, off, e, hx⟩ := hr.cellAt 1 _ rfl
  injection e with e; injection e with e1 e2; subst e1 e2; exact hx
 have a2 : w.cell? ⟨a, 2, none⟩ = some (.slice (some ⟨g3, 0, none⟩) 1 c3) := by
  obtain ⟨b, off, e, hx⟩ := hr.cellAt 2 _ rfl
  injection e with e; injection e with e1 e2; subst e1 e2; exact hx
 have H1 := hide h1
 have H2 := hide h2
 have H3 := hide h3
 have A1 := hide a1
 have A2 := hide a2
 clear h1 h2 h3 hr a1 a2
 go_enter Tryz.func65, Tryz.ntmps65
 go_wp2_with fail
 refine (string_str g1 c1 motorS _ H1.out ascii_motor (by decide)).mono ?_
 rintro e w1 ⟨rfl, hb1⟩
 have b1 := cell_keep hb1 A1.out
 clear a0
 go_wp2_with fail
 refine (one_num g2 c2 2 2 0 2 _ _ (H2.out.keep hb1) (isNum_int 2)).mono ?_
 rintro e w2 ⟨rfl, hb2⟩
 have hB2 := chain0 hb1 hb2
 have b2 := cell_keep hB2 A2.out
 clear b1 hb2
 go_wp2_with fail
 refine (one_num g3 c3 2 3 0 3 _ _ (H3.out.keep hB2) (isNum_int 3)).mono ?_
 rintro e w3 ⟨rfl, hb3⟩
 have hB3 := chain0 hB2 hb3
 clear b2 hb3
 have ew : wrap64 (2 + 3) = 5 := by kernel_rfl
 have ef : fit (2 + 3) = true := by kernel_rfl
 go_wp2_with fail
 refine (plus_any 2 3 (by unfold R64; decide) (by unfold R64; decide) _).mono ?_
 rintro e w4 ⟨rfl, rfl⟩
 rw [ew, ef]
 clear ew ef
 have hne : (w3.heap.size + 1) ≠ w3.heap.size := by omega
 have hbw : w.heap.size ≤ w3.heap.size := hB3.size
 have hiw : w.heap.size ≤ (w3.heap.size + 1) := by omega
 have hk := Blk.new w3 146 #[.pointer none, .slice none 0 0]
 have hbd0 := bld_new _ w.heap.size w3.heap.size hbw hk
 have hB5 := hB3.alloc hB3.size (.cells #[.pointer none, .slice none 0 0] 146)
 go_wp2_with fail
 go_loopw [11, 13] (fun p _ W => ∃ k : Nat, k ≤ 5 ∧ p = .int .i64 k ∧ W.heap[(w3.heap.size + 1)]? = some (.stringIter motorS k) ∧ Lib.IsBuilderF 146 5 w.heap.size w3.heap.size (Lib.byteCells (cutM k)) W ∧ Below w.heap.size w W) (fun _ _ W => 5 - W.iterPos (w3.heap.size + 1))
 case atStart => exact ⟨0, by decide, rfl, heap_new _ _ _ (by simp), hbd0.alloc _, hB5.alloc hB5.size _⟩
 case round =>
  obtain ⟨k, hk, rfl, hit, hbd, hB⟩ := hrel
  match k, hk with
  | 0, _ =>
   have hnx : ∀ ty, (Instr.next (.pointer (some ⟨(w3.heap.size + 1), 0, none⟩)) true ty).run Tryz.prog wr = _ := fun ty => next_motor wr (w3.heap.size + 1) 0 109 ty hit (by decide) (by decide)
   have hit2 := Lib.iterAt_heap wr (w3.heap.size + 1) motorS 0 (0 + 1) hit
   have hB2 := Lib.below_iterAt hB (k := (w3.heap.size + 1)) (by omega) motorS (0 + 1)
   have hbd2 := hbd.iterAt hit (0 + 1)
   go_wp2
   go_roundw
   case rel => exact ⟨0 + 1, by decide, rfl, hit2, hbd2, hB2⟩
   case measure =>
    have e1 : wr.iterPos (w3.heap.size + 1) = 0 := by simp [World.iterPos, hit]
    have e2 : (wr.iterAt (w3.heap.size + 1) motorS (0 + 1)).iterPos (w3.heap.size + 1) = 0 + 1 := by simp [World.iterPos, hit2]
    rw [e1, e2]; decide
  | 1, _ =>
   have hnx : ∀ ty, (Instr.next (.pointer (some ⟨(w3.heap.size + 1), 0, none⟩)) true ty).run Tryz.prog wr = _ := fun ty => next_motor wr (w3.heap.size + 1) 1 111 ty hit (by decide) (by decide)
   have hit2 := Lib.iterAt_heap wr (w3.heap.size + 1) motorS 1 (1 + 1) hit
   have hB2 := Lib.below_iterAt hB (k := (w3.heap.size + 1)) (by omega) motorS (1 + 1)
   have hbd2 := hbd.iterAt hit (1 + 1)
   have hsz := Lib.iterAt_size wr (w3.heap.size + 1) motorS (1 + 1)
   have hs2 := hB.size
   go_wp2_with fail
   refine (wr_any w.heap.size w3.heap.size (Lib.byteCells (cutM 1)) 111 (by decide) (by decide) _ hbd2 ?l1 ?l2).mono ?_
   case l1 => have := cutM_le 1; rw [Lib.byteCells_length]; omega
   case l2 => rw [hsz]; exact hs2
   rintro e w9 ⟨rfl, hbd9, hb9, hk9⟩
   have hB9 := hB2.trans hb9
   have hit9 := hk9.iter hit2 hne
   clear hb9 hk9 hnx
   go_wp2
   go_roundw
   case rel => exact ⟨1 + 1, by decide, rfl, hit9, .inr hbd9, hB9⟩
   case measure =>
    have e1 : wr.iterPos (w3.heap.size + 1) = 1 := by simp [World.iterPos, hit]
    have e2 : w9.iterPos (w3.heap.size + 1) = 1 + 1 := by simp [World.iterPos, hit9]
    rw [e1, e2]; decide
  | 2, _ =>
   have hnx : ∀ ty, (Instr.next (.pointer (some ⟨(w3.heap.size + 1), 0, none⟩)) true ty).run Tryz.prog wr = _ := fun ty => next_motor wr (w3.heap.size + 1) 2 116 ty hit (by decide) (by decide)
   have hit2 := Lib.iterAt_heap wr (w3.heap.size + 1) motorS 2 (2 + 1) hit
   have hB2 := Lib.below_iterAt hB (k := (w3.heap.size + 1)) (by omega) motorS (2 + 1)
   have hbd2 := hbd.iterAt hit (2 + 1)
   have hsz := Lib.iterAt_size wr (w3.heap.size + 1) motorS (2 + 1)
   have hs2 := hB.size
   go_wp2_with fail
   refine (wr_any w.heap.size w3.heap.size (Lib.byteCells (cutM 2)) 116 (by decide) (by decide) _ hbd2 ?l1 ?l2).mono ?_
   case l1 => have := cutM_le 2; rw [Lib.byteCells_length]; omega
   case l2 => rw [hsz]; exact hs2
   rintro e w9 ⟨rfl, hbd9, hb9, hk9⟩
   have hB9 := hB2.trans hb9
   have hit9 := hk9.iter hit2 hne
   clear hb9 hk9 hnx
   go_wp2
   go_roundw
   case rel => exact ⟨2 + 1, by decide, rfl, hit9, .inr hbd9, hB9⟩
   case measure =>
    have e1 : wr.iterPos (w3.heap.size + 1) = 2 := by simp [World.iterPos, hit]
    have e2 : w9.iterPos (w3.heap.size + 1) = 2 + 1 := by simp [World.iterPos, hit9]
    rw [e1, e2]; decide
  | 3, _ =>
   have hnx : ∀ ty, (Instr.next (.pointer (some ⟨(w3.heap.size + 1), 0, none⟩)) true ty).run Tryz.prog wr = _ := fun ty => next_motor wr (w3.heap.size + 1) 3 111 ty hit (by decide) (by decide)
   have hit2 := Lib.iterAt_heap wr (w3.heap.size + 1) motorS 3 (3 + 1) hit
   have hB2 := Lib.below_iterAt hB (k := (w3.heap.size + 1)) (by omega) motorS (3 + 1)
   have hbd2 := hbd.iterAt hit (3 + 1)
   have hsz := Lib.iterAt_size wr (w3.heap.size + 1) motorS (3 + 1)
   have hs2 := hB.size
   go_wp2_with fail
   refine (wr_any w.heap.size w3.heap.size (Lib.byteCells (cutM 3)) 111 (by decide) (by decide) _ hbd2 ?l1 ?l2).mono ?_
   case l1 => have := cutM_le 3; rw [Lib.byteCells_length]; omega
   case l2 => rw [hsz]; exact hs2
   rintro e w9 ⟨rfl, hbd9, hb9, hk9⟩
   have hB9 := hB2.trans hb9
   have hit9 := hk9.iter hit2 hne
   clear hb9 hk9 hnx
   go_wp2
   go_roundw
   case rel => exact ⟨3 + 1, by decide, rfl, hit9, .inr hbd9, hB9⟩
   case measure =>
    have e1 : wr.iterPos (w3.heap.size + 1) = 3 := by simp [World.iterPos, hit]
    have e2 : w9.iterPos (w3.heap.size + 1) = 3 + 1 := by simp [World.iterPos, hit9]
    rw [e1, e2]; decide
  | 4, _ =>
   have hnx : ∀ ty, (Instr.next (.pointer (some ⟨(w3.heap.size + 1), 0, none⟩)) true ty).run Tryz.prog wr = _ := fun ty => next_motor wr (w3.heap.size + 1) 4 114 ty hit (by decide) (by decide)
   have hit2 := Lib.iterAt_heap wr (w3.heap.size + 1) motorS 4 (4 + 1) hit
   have hB2 := Lib.below_iterAt hB (k := (w3.heap.size + 1)) (by omega) motorS (4 + 1)
   have hbd2 := hbd.iterAt hit (4 + 1)
   go_wp2
   go_roundw
   case rel => exact ⟨4 + 1, by decide, rfl, hit2, hbd2, hB2⟩
   case measure =>
    have e1 : wr.iterPos (w3.heap.size + 1) = 4 := by simp [World.iterPos, hit]
    have e2 : (wr.iterAt (w3.heap.size + 1) motorS (4 + 1)).iterPos (w3.heap.size + 1) = 4 + 1 := by simp [World.iterPos, hit2]
    rw [e1, e2]; decide
  | 5, _ =>
   have hnx : ∀ ty, (Instr.next (.pointer (some ⟨(w3.heap.size + 1), 0, none⟩)) true ty).run Tryz.prog wr = _ := fun ty => Lib.run_next_end_at wr (w3.heap.size + 1) motorS 5 ty hit (by decide)
   go_wp2_with fail
   refine (Tryz.Builder_String_any_k w.heap.size w3.heap.size (cutM 5) _ hbd hB.size).mono ?_
   rintro e w9 ⟨rfl, _, hb9, _⟩
   have hB9 := hB.trans hb9
   clear hb9 hnx
   go_wp2_with fail
   refine (joined_one ⟨(cutM 5).toArray⟩ _ (by decide)).mono ?_
   rintro e w10 ⟨g, rfl, hg, hr, hb10⟩
   have hB10 := chain0 hB9 hb10
   have Hr := hide hr
   have Hg := hide (Nat.le_trans hB9.size hg)
   clear hb10 hg hr
   go_wp2
   go_ret2
   exact ⟨g, rfl, Hg.out, Hr.out, hB10⟩
end Go.Proofs.YtmhnndgnnpondaaGreatDoor
namespace Go.Proofs.YtmhnndgnnpondaaGreatDoor
open Go.RowKit
def cntS0 : ByteArray := ⟨#[32, 116, 114, 117, 101, 32, 102, 97, 108, 115, 101, 32]⟩
def cntS1 : ByteArray := ⟨#[32, 99, 111, 117, 110, 116, 32, 101, 109, 112, 116, 121, 32, 101, 120, 105, 115, 116, 115, 32, 110, 111, 116, 32, 98, 111, 111, 108, 101, 97, 110, 32, 115, 116, 114, 105, 110, 103, 32, 115, 116, 114, 105, 110, 103, 45, 108, 101, 110, 103, 116, 104, 32, 110, 111, 114, 109, 97, 108, 105, 122, 101, 45, 115, 112, 97, 99, 101, 32, 117, 112, 112, 101, 114, 45, 99, 97, 115, 101, 32, 108, 111, 119, 101, 114, 45, 99, 97, 115, 101, 32, 110, 117, 109, 98, 101, 114, 32, 115, 117, 109, 32, 109, 105, 110, 32, 109, 97, 120, 32, 97, 98, 115, 32, 100, 105, 115, 116, 105, 110, 99, 116, 45, 118, 97, 108, 117, 101, 115, 32, 114, 101, 118, 101, 114, 115, 101, 32]⟩
def cntS2 : ByteArray := ⟨#[32, 99, 111, 110, 116, 97, 105, 110, 115, 32, 115, 116, 97, 114, 116, 115, 45, 119, 105, 116, 104, 32, 101, 110, 100, 115, 45, 119, 105, 116, 104, 32]⟩
def cntS3 : ByteArray := ⟨#[32, 115, 116, 114, 105, 110, 103, 45, 106, 111, 105, 110, 32]⟩
def cntS4 : ByteArray := ⟨#[32, 115, 117, 98, 115, 116, 114, 105, 110, 103, 32]⟩
def cntS5 : ByteArray := ⟨#[32, 99, 111, 110, 99, 97, 116, 32]⟩
def cntC : List Value := [.int .i64 0, .int .i64 0, .string cntS0, .int .i64 1, .int .i64 1, .string cntS1, .int .i64 2, .int .i64 2, .string cntS2, .int .i64 1, .int .i64 2, .string cntS3, .int .i64 2, .int .i64 3, .string cntS4, .int .i64 2, .int .i64 60, .string cntS5]
def Counts (w : World) : Prop := ∀ (j : Nat) v, cntC[j]? = some v → w.cell? ⟨0, j, none⟩ = some v
theorem Counts.keep {w w' : World} (h : Counts w) (hb : Below w.heap.size w w') : Counts w' := fun j v hv => cell_keep hb (h j v hv)
theorem contains_is (s sub : ByteArray) (b : Bool) (m : Int) (w : World) (hb : Lib.contains s.data.toList sub.data.toList = b) (hs : s.size < 4294967281) (hm : w.cell? ⟨3, 0, none⟩ = some (.int .i64 m)) :
  Calls Tryz.prog 41 #[.string s, .string sub] w fun e w' => e = .returned (.bool b) ∧ Below w.heap.size w w' := by
 refine (Tryz.strings_Contains s sub m w hs hm).mono ?_
 rintro e w' ⟨rfl, rfl⟩
 exact ⟨by rw [hb], Below.refl _ _⟩
set_option maxRecDepth 100000 in
set_option maxHeartbeats 4000000 in
theorem known_sub (m : Int) (w : World) (hm : w.cell? ⟨3, 0, none⟩ = some (.int .i64 m)) (hc : Counts w) :
  Calls Tryz.prog 33 #[.string ⟨#[115, 117, 98, 115, 116, 114, 105, 110, 103]⟩, .int .i64 3] w fun e w' => e = .returned (.bool true) ∧ Below w.heap.size w w' := by
 have Hm := hide hm
 have Hc := hide hc
 clear hm hc
 go_enter Tryz.func33, Tryz.ntmps33
 go_wp2_with fail
 refine (contains_is _ _ false m _ ?b0 ?s0 Hm.out).mono ?_
 case b0 => kernel_rfl
 case s0 => decide
 rintro e w1 ⟨rfl, hb1⟩
 have c0 := Hc.out.keep hb1 0 _ rfl
 have c1 := Hc.out.keep hb1 1 _ rfl
 have c2 := Hc.out.keep hb1 2 _ rfl
 have c3 := Hc.out.keep hb1 3 _ rfl
 have c4 := Hc.out.keep hb1 4 _ rfl
 have c5 := Hc.out.keep hb1 5 _ rfl
 have c6 := Hc.out.keep hb1 6 _ rfl
 have c7 := Hc.out.keep hb1 7 _ rfl
 have c8 := Hc.out.keep hb1 8 _ rfl
 have c9 := Hc.out.keep hb1 9 _ rfl
 have c10 := Hc.out.keep hb1 10 _ rfl
 have c11 := Hc.out.keep hb1 11 _ rfl
 have c12 := Hc.out.keep hb1 12 _ rfl
 have c13 := Hc.out.keep hb1 13 _ rfl
 have c14 := Hc.out.keep hb1 14 _ rfl
 have c15 := Hc.out.keep hb1 15 _ rfl
 have c16 := Hc.out.keep hb1 16 _ rfl
 have c17 := Hc.out.keep hb1 17 _ rfl
 simp only [cntS0, cntS1, cntS2, cntS3, cntS4, cntS5] at c2 c5 c8 c11 c14 c17
 have ix0 : ∀ W : World, (Instr.index 101 (.agg #[.int .i64 0, .int .i64 0, .string ⟨#[32, 116, 114, 117, 101, 32, 102, 97, 108, 115, 101, 32]⟩, .int .i64 1, .int .i64 1, .string ⟨#[32, 99, 111, 117, 110, 116, 32, 101, 109, 112, 116, 121, 32, 101, 120, 105, 115, 116, 115, 32, 110, 111, 116, 32, 98, 111, 111, 108, 101, 97, 110, 32, 115, 116, 114, 105, 110, 103, 32, 115, 116, 114, 105, 110, 103, 45, 108, 101, 110, 103, 116, 104, 32, 110, 111, 114, 109, 97, 108, 105, 122, 101, 45, 115, 112, 97, 99, 101, 32, 117, 112, 112, 101, 114, 45, 99, 97, 115, 101, 32, 108, 111, 119, 101, 114, 45, 99, 97, 115, 101, 32, 110, 117, 109, 98, 101, 114, 32, 115, 117, 109, 32, 109, 105, 110, 32, 109, 97, 120, 32, 97, 98, 115, 32, 100, 105, 115, 116, 105, 110, 99, 116, 45, 118, 97, 108, 117, 101, 115, 32, 114, 101, 118, 101, 114, 115, 101, 32]⟩, .int .i64 2, .int .i64 2, .string ⟨#[32, 99, 111, 110, 116, 97, 105, 110, 115, 32, 115, 116, 97, 114, 116, 115, 45, 119, 105, 116, 104, 32, 101, 110, 100, 115, 45, 119, 105, 116, 104, 32]⟩, .int .i64 1, .int .i64 2, .string ⟨#[32, 115, 116, 114, 105, 110, 103, 45, 106, 111, 105, 110, 32]⟩, .int .i64 2, .int .i64 3, .string ⟨#[32, 115, 117, 98, 115, 116, 114, 105, 110, 103, 32]⟩, .int .i64 2, .int .i64 60, .string ⟨#[32, 99, 111, 110, 99, 97, 116, 32]⟩]) (.int .i64 0)).run Tryz.prog W = .ok (.agg #[.int .i64 0, .int .i64 0, .string ⟨#[32, 116, 114, 117, 101, 32, 102, 97, 108, 115, 101, 32]⟩]) W := fun _ => by kernel_rfl
 have ix1 : ∀ W : World, (Instr.index 101 (.agg #[.int .i64 0, .int .i64 0, .string ⟨#[32, 116, 114, 117, 101, 32, 102, 97, 108, 115, 101, 32]⟩, .int .i64 1, .int .i64 1, .string ⟨#[32, 99, 111, 117, 110, 116, 32, 101, 109, 112, 116, 121, 32, 101, 120, 105, 115, 116, 115, 32, 110, 111, 116, 32, 98, 111, 111, 108, 101, 97, 110, 32, 115, 116, 114, 105, 110, 103, 32, 115, 116, 114, 105, 110, 103, 45, 108, 101, 110, 103, 116, 104, 32, 110, 111, 114, 109, 97, 108, 105, 122, 101, 45, 115, 112, 97, 99, 101, 32, 117, 112, 112, 101, 114, 45, 99, 97, 115, 101, 32, 108, 111, 119, 101, 114, 45, 99, 97, 115, 101, 32, 110, 117, 109, 98, 101, 114, 32, 115, 117, 109, 32, 109, 105, 110, 32, 109, 97, 120, 32, 97, 98, 115, 32, 100, 105, 115, 116, 105, 110, 99, 116, 45, 118, 97, 108, 117, 101, 115, 32, 114, 101, 118, 101, 114, 115, 101, 32]⟩, .int .i64 2, .int .i64 2, .string ⟨#[32, 99, 111, 110, 116, 97, 105, 110, 115, 32, 115, 116, 97, 114, 116, 115, 45, 119, 105, 116, 104, 32, 101, 110, 100, 115, 45, 119, 105, 116, 104, 32]⟩, .int .i64 1, .int .i64 2, .string ⟨#[32, 115, 116, 114, 105, 110, 103, 45, 106, 111, 105, 110, 32]⟩, .int .i64 2, .int .i64 3, .string ⟨#[32, 115, 117, 98, 115, 116, 114, 105, 110, 103, 32]⟩, .int .i64 2, .int .i64 60, .string ⟨#[32, 99, 111, 110, 99, 97, 116, 32]⟩]) (.int .i64 1)).run Tryz.prog W = .ok (.agg #[.int .i64 1, .int .i64 1, .string ⟨#[32, 99, 111, 117, 110, 116, 32, 101, 109, 112, 116, 121, 32, 101, 120, 105, 115, 116, 115, 32, 110, 111, 116, 32, 98, 111, 111, 108, 101, 97, 110, 32, 115, 116, 114, 105, 110, 103, 32, 115, 116, 114, 105, 110, 103, 45, 108, 101, 110, 103, 116, 104, 32, 110, 111, 114, 109, 97, 108, 105, 122, 101, 45, 115, 112, 97, 99, 101, 32, 117, 112, 112, 101, 114, 45, 99, 97, 115, 101, 32, 108, 111, 119, 101, 114, 45, 99, 97, 115, 101, 32, 110, 117, 109, 98, 101, 114, 32, 115, 117, 109, 32, 109, 105, 110, 32, 109, 97, 120, 32, 97, 98, 115, 32, 100, 105, 115, 116, 105, 110, 99, 116, 45, 118, 97, 108, 117, 101, 115, 32, 114, 101, 118, 101, 114, 115, 101, 32]⟩]) W := fun _ => by kernel_rfl
 have ix2 : ∀ W : World, (Instr.index 101 (.agg #[.int .i64 0, .int .i64 0, .string ⟨#[32, 116, 114, 117, 101, 32, 102, 97, 108, 115, 101, 32]⟩, .int .i64 1, .int .i64 1, .string ⟨#[32, 99, 111, 117, 110, 116, 32, 101, 109, 112, 116, 121, 32, 101, 120, 105, 115, 116, 115, 32, 110, 111, 116, 32, 98, 111, 111, 108, 101, 97, 110, 32, 115, 116, 114, 105, 110, 103, 32, 115, 116, 114, 105, 110, 103, 45, 108, 101, 110, 103, 116, 104, 32, 110, 111, 114, 109, 97, 108, 105, 122, 101, 45, 115, 112, 97, 99, 101, 32, 117, 112, 112, 101, 114, 45, 99, 97, 115, 101, 32, 108, 111, 119, 101, 114, 45, 99, 97, 115, 101, 32, 110, 117, 109, 98, 101, 114, 32, 115, 117, 109, 32, 109, 105, 110, 32, 109, 97, 120, 32, 97, 98, 115, 32, 100, 105, 115, 116, 105, 110, 99, 116, 45, 118, 97, 108, 117, 101, 115, 32, 114, 101, 118, 101, 114, 115, 101, 32]⟩, .int .i64 2, .int .i64 2, .string ⟨#[32, 99, 111, 110, 116, 97, 105, 110, 115, 32, 115, 116, 97, 114, 116, 115, 45, 119, 105, 116, 104, 32, 101, 110, 100, 115, 45, 119, 105, 116, 104, 32]⟩, .int .i64 1, .int .i64 2, .string ⟨#[32, 115, 116, 114, 105, 110, 103, 45, 106, 111, 105, 110, 32]⟩, .int .i64 2, .int .i64 3, .string ⟨#[32, 115, 117, 98, 115, 116, 114, 105, 110, 103, 32]⟩, .int .i64 2, .int .i64 60, .string ⟨#[32, 99, 111, 110, 99, 97, 116, 32]⟩]) (.int .i64 2)).run Tryz.prog W = .ok (.agg #[.int .i64 2, .int .i64 2, .string ⟨#[32, 99, 111, 110, 116, 97, 105, 110, 115, 32, 115, 116, 97, 114, 116, 115, 45, 119, 105, 116, 104, 32, 101, 110, 100, 115, 45, 119, 105, 116, 104, 32]⟩]) W := fun _ => by kernel_rfl
 have ix3 : ∀ W : World, (Instr.index 101 (.agg #[.int .i64 0, .int .i64 0, .string ⟨#[32, 116, 114, 117, 101, 32, 102, 97, 108, 115, 101, 32]⟩, .int .i64 1, .int .i64 1, .string ⟨#[32, 99, 111, 117, 110, 116, 32, 101, 109, 112, 116, 121, 32, 101, 120, 105, 115, 116, 115, 32, 110, 111, 116, 32, 98, 111, 111, 108, 101, 97, 110, 32, 115, 116, 114, 105, 110, 103, 32, 115, 116, 114, 105, 110, 103, 45, 108, 101, 110, 103, 116, 104, 32, 110, 111, 114, 109, 97, 108, 105, 122, 101, 45, 115, 112, 97, 99, 101, 32, 117, 112, 112, 101, 114, 45, 99, 97, 115, 101, 32, 108, 111, 119, 101, 114, 45, 99, 97, 115, 101, 32, 110, 117, 109, 98, 101, 114, 32, 115, 117, 109, 32, 109, 105, 110, 32, 109, 97, 120, 32, 97, 98, 115, 32, 100, 105, 115, 116, 105, 110, 99, 116, 45, 118, 97, 108, 117, 101, 115, 32, 114, 101, 118, 101, 114, 115, 101, 32]⟩, .int .i64 2, .int .i64 2, .string ⟨#[32, 99, 111, 110, 116, 97, 105, 110, 115, 32, 115, 116, 97, 114, 116, 115, 45, 119, 105, 116, 104, 32, 101, 110, 100, 115, 45, 119, 105, 116, 104, 32]⟩, .int .i64 1, .int .i64 2, .string ⟨#[32, 115, 116, 114, 105, 110, 103, 45, 106, 111, 105, 110, 32]⟩, .int .i64 2, .int .i64 3, .string ⟨#[32, 115, 117, 98, 115, 116, 114, 105, 110, 103, 32]⟩, .int .i64 2, .int .i64 60, .string ⟨#[32, 99, 111, 110, 99, 97, 116, 32]⟩]) (.int .i64 3)).run Tryz.prog W = .ok (.agg #[.int .i64 1, .int .i64 2, .string ⟨#[32, 115, 116, 114, 105, 110, 103, 45, 106, 111, 105, 110, 32]⟩]) W := fun _ => by kernel_rfl
 have ix4 : ∀ W : World, (Instr.index 101 (.agg #[.int .i64 0, .int .i64 0, .string ⟨#[32, 116, 114, 117, 101, 32, 102, 97, 108, 115, 101, 32]⟩, .int .i64 1, .int .i64 1, .string ⟨#[32, 99, 111, 117, 110, 116, 32, 101, 109, 112, 116, 121, 32, 101, 120, 105, 115, 116, 115, 32, 110, 111, 116, 32, 98, 111, 111, 108, 101, 97, 110, 32, 115, 116, 114, 105, 110, 103, 32, 115, 116, 114, 105, 110, 103, 45, 108, 101, 110, 103, 116, 104, 32, 110, 111, 114, 109, 97, 108, 105, 122, 101, 45, 115, 112, 97, 99, 101, 32, 117, 112, 112, 101, 114, 45, 99, 97, 115, 101, 32, 108, 111, 119, 101, 114, 45, 99, 97, 115, 101, 32, 110, 117, 109, 98, 101, 114, 32, 115, 117, 109, 32, 109, 105, 110, 32, 109, 97, 120, 32, 97, 98, 115, 32, 100, 105, 115, 116, 105, 110, 99, 116, 45, 118, 97, 108, 117, 101, 115, 32, 114, 101, 118, 101, 114, 115, 101, 32]⟩, .int .i64 2, .int .i64 2, .string ⟨#[32, 99, 111, 110, 116, 97, 105, 110, 115, 32, 115, 116, 97, 114, 116, 115, 45, 119, 105, 116, 104, 32, 101, 110, 100, 115, 45, 119, 105, 116, 104, 32]⟩, .int .i64 1, .int .i64 2, .string ⟨#[32, 115, 116, 114, 105, 110, 103, 45, 106, 111, 105, 110, 32]⟩, .int .i64 2, .int .i64 3, .string ⟨#[32, 115, 117, 98, 115, 116, 114, 105, 110, 103, 32]⟩, .int .i64 2, .int .i64 60, .string ⟨#[32, 99, 111, 110, 99, 97, 116, 32]⟩]) (.int .i64 4)).run Tryz.prog W = .ok (.agg #[.int .i64 2, .int .i64 3, .string ⟨#[32, 115, 117, 98, 115, 116, 114, 105, 110, 103, 32]⟩]) W := fun _ => by kernel_rfl
 go_wp2_with fail
 refine wp_loop_rounds 7 ?_
 rw [rounds_succ]
 go_wp2_with fail
 refine (contains_is _ _ false m _ ?b1 ?s1 (cell_keep ((Below.refl _ _).alloc (by exact Nat.le_refl _) _) (cell_keep hb1 Hm.out))).mono ?_
 case b1 => kernel_rfl
 case s1 => decide
 rintro e w2 ⟨rfl, hc2⟩
 have hb2 := chain1 hb1 hc2
 clear hc2
 go_wp2_with fail
 rw [rounds_succ]
 go_wp2_with fail
 refine (contains_is _ _ false m _ ?b2 ?s2 (cell_keep ((Below.refl _ _).alloc (by exact Nat.le_refl _) _) (cell_keep hb2 Hm.out))).mono ?_
 case b2 => kernel_rfl
 case s2 => decide
 rintro e w3 ⟨rfl, hc3⟩
 have hb3 := chain1 hb2 hc3
 clear hc3
 go_wp2_with fail
 rw [rounds_succ]
 go_wp2_with fail
 refine (contains_is _ _ false m _ ?b3 ?s3 (cell_keep ((Below.refl _ _).alloc (by exact Nat.le_refl _) _) (cell_keep hb3 Hm.out))).mono ?_
 case b3 => kernel_rfl
 case s3 => decide
 rintro e w4 ⟨rfl, hc4⟩
 have hb4 := chain1 hb3 hc4
 clear hc4
 go_wp2_with fail
 rw [rounds_succ]
 go_wp2_with fail
 refine (contains_is _ _ false m _ ?b4 ?s4 (cell_keep ((Below.refl _ _).alloc (by exact Nat.le_refl _) _) (cell_keep hb4 Hm.out))).mono ?_
 case b4 => kernel_rfl
 case s4 => decide
 rintro e w5 ⟨rfl, hc5⟩
 have hb5 := chain1 hb4 hc5
 clear hc5
 go_wp2_with fail
 rw [rounds_succ]
 go_wp2_with fail
 refine (contains_is _ _ true m _ ?b5 ?s5 (cell_keep ((Below.refl _ _).alloc (by exact Nat.le_refl _) _) (cell_keep hb5 Hm.out))).mono ?_
 case b5 => kernel_rfl
 case s5 => decide
 rintro e w6 ⟨rfl, hc6⟩
 have hb6 := chain1 hb5 hc6
 have hk := Blk.keep (Blk.new _ _ _) hc6
 have d0 := hk.cell 0
 have d1 := hk.cell 1
 clear hc6
 simp only [List.getElem?_toArray, List.getElem?_cons_zero, List.getElem?_cons_succ] at d0 d1
 clear hk ix0 ix1 ix2 ix3 ix4 c0 c1 c2 c3 c4 c5 c6 c7 c8 c9 c10 c11 c12 c13 c14 c15 c16 c17
 go_wp2
 go_ret
 exact ⟨rfl, hb6⟩
end Go.Proofs.YtmhnndgnnpondaaGreatDoor
namespace Go.Proofs.YtmhnndgnnpondaaGreatDoor
set_option maxRecDepth 100000
set_option maxHeartbeats 4000000
open Go.RowKit
theorem ofItems_sub (a c g1 g2 g3 c1 c2 c3 : Nat) (w : World) (hr : Rd w (some ⟨a, 0, none⟩) [.slice (some ⟨g1, 0, none⟩) 1 c1, .slice (some ⟨g2, 0, none⟩) 1 c2, .slice (some ⟨g3, 0, none⟩) 1 c3])
  (h1 : RdI w (some ⟨g1, 0, none⟩) [⟨3, 0, motorS, 0⟩]) (h2 : RdI w (some ⟨g2, 0, none⟩) [⟨2, 2, ⟨#[]⟩, 0⟩]) (h3 : RdI w (some ⟨g3, 0, none⟩) [⟨2, 3, ⟨#[]⟩, 0⟩]) :
  Calls Tryz.prog 34 #[.string ⟨#[115, 117, 98, 115, 116, 114, 105, 110, 103]⟩, .slice (some ⟨a, 0, none⟩) 3 c] w fun e w' =>
   ∃ g, e = .returned (.tuple #[.slice (some ⟨g, 0, none⟩) 1 1, .int .i64 0, .bool true]) ∧ w.heap.size ≤ g ∧ RdI w' (some ⟨g, 0, none⟩) [⟨3, 0, ⟨#[111, 116, 111]⟩, 0⟩] ∧ Below w.heap.size w w' := by
 have i0 := ix_row0 a c
 have a0 : w.cell? ⟨a, 0, none⟩ = some (.slice (some ⟨g1, 0, none⟩) 1 c1) := by
  obtain ⟨b, off, e, hx⟩ := hr.cellAt 0 _ rfl
  injection e with e; injection e with e1 e2; subst e1 e2; exact hx
 have H1 := hide h1
 have H2 := hide h2
 have H3 := hide h3
 have Hr := hide hr
 clear h1 h2 h3 hr
 go_enter Tryz.func34, Tryz.ntmps34
 go_wp2_with fail
 refine (substring_motor a c g1 g2 g3 c1 c2 c3 _ Hr.out H1.out H2.out H3.out).mono ?_
 rintro e w1 ⟨g, rfl, hg, hr, hb1⟩
 have Hi := hide hr
 have Hg := hide hg
 clear hg hr a0
 go_wp2
 go_ret3
 exact ⟨g, rfl, Hg.out, Hi.out, hb1⟩
theorem call_sub (m : Int) (a c g1 g2 g3 c1 c2 c3 : Nat) (w : World) (hm : w.cell? ⟨3, 0, none⟩ = some (.int .i64 m)) (hc : Counts w) (hr : Rd w (some ⟨a, 0, none⟩) [.slice (some ⟨g1, 0, none⟩) 1 c1, .slice (some ⟨g2, 0, none⟩) 1 c2, .slice (some ⟨g3, 0, none⟩) 1 c3])
  (h1 : RdI w (some ⟨g1, 0, none⟩) [⟨3, 0, motorS, 0⟩]) (h2 : RdI w (some ⟨g2, 0, none⟩) [⟨2, 2, ⟨#[]⟩, 0⟩]) (h3 : RdI w (some ⟨g3, 0, none⟩) [⟨2, 3, ⟨#[]⟩, 0⟩]) :
  Calls Tryz.prog 9 #[.string ⟨#[115, 117, 98, 115, 116, 114, 105, 110, 103]⟩, .slice (some ⟨a, 0, none⟩) 3 c] w fun e w' =>
   ∃ g, e = .returned (.tuple #[.slice (some ⟨g, 0, none⟩) 1 1, .int .i64 0]) ∧ w.heap.size ≤ g ∧ RdI w' (some ⟨g, 0, none⟩) [⟨3, 0, ⟨#[111, 116, 111]⟩, 0⟩] ∧ Below w.heap.size w w' := by
 have hok : OkLs w [⟨some ⟨g1, 0, none⟩, [⟨3, 0, motorS, 0⟩], c1⟩, ⟨some ⟨g2, 0, none⟩, [⟨2, 2, ⟨#[]⟩, 0⟩], c2⟩, ⟨some ⟨g3, 0, none⟩, [⟨2, 3, ⟨#[]⟩, 0⟩], c3⟩] := by
  intro x hx
  simp only [List.mem_cons, List.not_mem_nil, or_false] at hx
  rcases hx with rfl | rfl | rfl
  ·exact ⟨h1, good_one (.str motorS ascii_motor (by decide)), by simp⟩
  ·exact ⟨h2, good_one (.int 2), by simp⟩
  ·exact ⟨h3, good_one (.int 3), by simp⟩
 have Hok := hide hok
 have Hm := hide hm
 have Hc := hide hc
 have H1 := hide h1
 have H2 := hide h2
 have H3 := hide h3
 have Hr := hide hr
 clear h1 h2 h3 hr hm hc hok
 go_enter Tryz.func9, Tryz.ntmps9
 go_wp2_with fail
 refine (right_ok (some ⟨a, 0, none⟩) 3 c _ _ rfl (by decide) Hr.out Hok.out).mono ?_
 rintro e w1 ⟨rfl, hb1⟩
 go_wp2_with fail
 refine (known_sub m _ (cell_keep hb1 Hm.out) (Hc.out.keep hb1)).mono ?_
 rintro e w2 ⟨rfl, hb2⟩
 have hB2 := chain0 hb1 hb2
 clear hb2
 go_wp2_with fail
 refine (ofItems_sub a c g1 g2 g3 c1 c2 c3 _ (Hr.out.keep hB2) (H1.out.keep hB2) (H2.out.keep hB2) (H3.out.keep hB2)).mono ?_
 rintro e w3 ⟨g, rfl, hg, hr, hb3⟩
 have hB3 := chain0 hB2 hb3
 have Hi := hide hr
 have Hg := hide (Nat.le_trans hB2.size hg)
 clear hg hr hb3
 go_wp2
 go_ret2
 exact ⟨g, rfl, Hg.out, Hi.out, hB3⟩
end Go.Proofs.YtmhnndgnnpondaaGreatDoor
