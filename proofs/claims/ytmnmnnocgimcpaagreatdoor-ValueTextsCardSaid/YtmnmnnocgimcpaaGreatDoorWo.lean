/- is: does an operation make this one number? -/
import Derived.Test.YtmnmnnocgimcpaaGreatDoorRgi
import Derived.Test.YtmnmnnocgimcpaaGreatDoorWi
namespace Go.Proofs.YtmnmnnocgimcpaaGreatDoor
open Go.RowKit
set_option maxRecDepth 100000 in
set_option maxHeartbeats 4000000 in
theorem is_any (s : ByteArray) (k1 k2 : Nat) (a1 a2 d1 d2 x y v1 n : Int) (t1 t2 : ByteArray) (w : World) (hg1 : Good ⟨k1, a1, t1, d1⟩) (hg2 : Good ⟨k2, a2, t2, d2⟩) (hnx : IsNum k1 a1 t1 d1 x) (hny : IsNum k2 a2 t2 d2 y) (hm1 : Made s 1 1 v1 0) (hm : Made s x y n 0) :
    Calls Tryz.prog 24 #[.string s, .agg #[.int .u8 k1, .int .i64 a1, .string t1, .int .i64 d1], .agg #[.int .u8 k2, .int .i64 a2, .string t2, .int .i64 d2], .int .i64 n] w fun e w' => e = .returned (.bool true) ∧ Below w.heap.size w w' := by
  have harith := arith_ok s
  have Hg1 := hide hg1
  have Hg2 := hide hg2
  have Hnx := hide hnx
  have Hny := hide hny
  have Hm1 := hide hm1
  have Hm := hide hm
  have Ha := hide harith
  clear hg1 hg2 hnx hny hm1 hm harith
  have x_a : Blk ((w.alloc (.cells #[.int .u8 k1, .int .i64 a1, .string t1, .int .i64 d1] 37)).alloc (.cells #[.int .u8 k2, .int .i64 a2, .string t2, .int .i64 d2] 37)) w.heap.size 37 #[.int .u8 k1, .int .i64 a1, .string t1, .int .i64 d1] := (Blk.new w _ _).alloc _
  have x_b : Blk ((w.alloc (.cells #[.int .u8 k1, .int .i64 a1, .string t1, .int .i64 d1] 37)).alloc (.cells #[.int .u8 k2, .int .i64 a2, .string t2, .int .i64 d2] 37)) (w.heap.size + 1) 37 #[.int .u8 k2, .int .i64 a2, .string t2, .int .i64 d2] := by
    have := Blk.new (w.alloc (.cells #[.int .u8 k1, .int .i64 a1, .string t1, .int .i64 d1] 37)) 37 #[.int .u8 k2, .int .i64 a2, .string t2, .int .i64 d2]
    simpa using this
  have hB : Below w.heap.size w ((w.alloc (.cells #[.int .u8 k1, .int .i64 a1, .string t1, .int .i64 d1] 37)).alloc (.cells #[.int .u8 k2, .int .i64 a2, .string t2, .int .i64 d2] 37)) := ((Below.refl _ _).alloc (Nat.le_refl _) _).alloc (by simp) _
  go_enter Tryz.func24, Tryz.ntmps24
  go_wp2_with fail
  generalize ((w.alloc (.cells #[.int .u8 k1, .int .i64 a1, .string t1, .int .i64 d1] 37)).alloc (.cells #[.int .u8 k2, .int .i64 a2, .string t2, .int .i64 d2] 37)) = w1 at *
  refine wp_region_facts (R := RB w1.heap.size (⟨#[]⟩) (0)) [eqF w1.heap.size (⟨#[]⟩) (0) 12 (.string s), eqF w1.heap.size (⟨#[]⟩) (0) 13 (.agg #[.int .u8 k1, .int .i64 a1, .string t1, .int .i64 d1]), itsF w1.heap.size ⟨#[]⟩ 0 14 1 1 [⟨k1, a1, t1, d1⟩], itsF w1.heap.size ⟨#[]⟩ 0 15 1 1 [⟨k1, a1, t1, d1⟩], eqF w1.heap.size (⟨#[]⟩) (0) 16 (.agg #[.int .u8 k2, .int .i64 a2, .string t2, .int .i64 d2]), itsF w1.heap.size ⟨#[]⟩ 0 17 1 1 [⟨k2, a2, t2, d2⟩], itsF w1.heap.size ⟨#[]⟩ 0 18 1 1 [⟨k2, a2, t2, d2⟩], someF w1.heap.size ⟨#[]⟩ 0 19 (fun x : Nat × Nat => .tuple #[.slice (some ⟨x.1, 0, none⟩) 1 1, .int .i64 0]) (fun x W => RdI W (some ⟨x.1, 0, none⟩) [⟨2, n, ⟨#[]⟩, 0⟩]) (fun _ _ _ h k => h.rdi k), someF w1.heap.size ⟨#[]⟩ 0 11 (fun x : Nat × Nat => .tuple #[.slice (some ⟨x.1, 0, none⟩) 1 1, .int .i64 0]) (fun x W => RdI W (some ⟨x.1, 0, none⟩) [⟨2, n, ⟨#[]⟩, 0⟩]) (fun _ _ _ h k => h.rdi k), someF w1.heap.size ⟨#[]⟩ 0 20 (fun x : Nat × Nat => .slice (some ⟨x.1, 0, none⟩) 1 1) (fun x W => RdI W (some ⟨x.1, 0, none⟩) [⟨2, n, ⟨#[]⟩, 0⟩]) (fun _ _ _ h k => h.rdi k), eqF w1.heap.size (⟨#[]⟩) (0) 21 (.int .i64 0), someF w1.heap.size ⟨#[]⟩ 0 9 (fun x : Nat × Nat => .slice (some ⟨x.1, 0, none⟩) 1 1) (fun x W => RdI W (some ⟨x.1, 0, none⟩) [⟨2, n, ⟨#[]⟩, 0⟩]) (fun _ _ _ h k => h.rdi k), eqF w1.heap.size (⟨#[]⟩) (0) 10 (.int .i64 0)] (by kernel_rfl) (by kernel_rfl) (by kernel_rfl) (RB.refl (Nat.le_refl _)) (fun _ h => h.again) (fun _ _ _ h k => h.trans k) ?_ ?_
  · refine stepsU_cons rfl ?_ (stepsU_cons rfl ?_ (stepsU_cons rfl ?_ (stepsU_cons rfl ?_ (stepsU_cons rfl ?_ (stepsU_cons rfl ?_ (stepsU_cons rfl ?_ (stepsU_cons rfl ?_ (stepsU_cons rfl ?_ (stepsU_cons rfl ?_ (stepsU_cons rfl ?_ (stepsU_cons rfl ?_ (stepsU_cons rfl ?_ (stepsU_nil)))))))))))))
    · refine stepU_plain rfl fun u wr hR hK hD => ?_; exact upon_move _ _ rfl (hK 0 rfl) ⟨hR.again, rfl⟩
    · refine stepU_plain rfl fun u wr hR hK hD => ?_; exact upon_loadIt _ _ _ _ _ _ rfl (hK 5 rfl) (hR.old x_a.lt x_a) ⟨hR.again, rfl⟩
    · refine stepU_plain rfl fun u wr hR hK hD => ?_; exact upon_buildIt _ _ _ _ _ rfl (hD 1 rfl) ⟨hR.next ((Below.refl _ _).alloc (Nat.le_refl _) _), ⟨_, rfl, Nat.le_trans hR.hB hR.be.size, RdI.new _ _ [⟨k1, a1, t1, d1⟩]⟩⟩
    · refine stepU_plain rfl fun u wr hR hK hD => ?_; obtain ⟨g, h1, h2, h3⟩ := (hD 2 rfl); exact upon_call1 _ _ _ Tryz.func14 (by kernel_rfl) rfl h1 ((lrow_any _ _ _ _).mono fun e wn ⟨he, hw⟩ => ⟨_, he, by subst hw; exact ⟨hR.again, ⟨g, rfl, h2, h3⟩⟩⟩)
    · refine stepU_plain rfl fun u wr hR hK hD => ?_; exact upon_loadIt _ _ _ _ _ _ rfl (hK 6 rfl) (hR.old x_b.lt x_b) ⟨hR.again, rfl⟩
    · refine stepU_plain rfl fun u wr hR hK hD => ?_; exact upon_buildIt _ _ _ _ _ rfl (hD 4 rfl) ⟨hR.next ((Below.refl _ _).alloc (Nat.le_refl _) _), ⟨_, rfl, Nat.le_trans hR.hB hR.be.size, RdI.new _ _ [⟨k2, a2, t2, d2⟩]⟩⟩
    · refine stepU_plain rfl fun u wr hR hK hD => ?_; obtain ⟨g, h1, h2, h3⟩ := (hD 5 rfl); exact upon_call1 _ _ _ Tryz.func14 (by kernel_rfl) rfl h1 ((lrow_any _ _ _ _).mono fun e wn ⟨he, hw⟩ => ⟨_, he, by subst hw; exact ⟨hR.again, ⟨g, rfl, h2, h3⟩⟩⟩)
    · refine stepU_plain rfl fun u wr hR hK hD => ?_; obtain ⟨g1, h1, h2, h3⟩ := (hD 3 rfl); obtain ⟨g2, m1, m2, m3⟩ := (hD 6 rfl); exact upon_call3 _ _ _ _ _ _ _ Tryz.func64 (by kernel_rfl) rfl (hD 0 rfl) h1 m1 ((Ha.out g1 g2 1 1 k1 k2 a1 a2 d1 d2 x y n v1 t1 t2 wr h3 m3 Hg1.out Hg2.out Hnx.out Hny.out Hm1.out Hm.out).mono fun e wn ⟨g, he, hg, hr, hb⟩ => ⟨_, he, hR.next hb, ⟨(g, 0), rfl, hr⟩⟩)
    · refine stepU_plain rfl fun u wr hR hK hD => ?_; obtain ⟨x, h1, h2⟩ := (hD 7 rfl); exact upon_move _ _ rfl h1 ⟨hR.again, ⟨x, rfl, h2⟩⟩
    · refine stepU_plain rfl fun u wr hR hK hD => ?_; obtain ⟨x, h1, h2⟩ := (hD 8 rfl); exact upon_extract _ 0 _ _ rfl h1 rfl ⟨hR.again, ⟨x, rfl, h2⟩⟩
    · refine stepU_plain rfl fun u wr hR hK hD => ?_; obtain ⟨x, h1, h2⟩ := (hD 8 rfl); exact upon_extract _ 1 _ _ rfl h1 rfl ⟨hR.again, rfl⟩
    · refine stepU_plain rfl fun u wr hR hK hD => ?_; obtain ⟨x, h1, h2⟩ := (hD 9 rfl); exact upon_assign _ _ rfl h1 ⟨hR.again, ⟨x, rfl, h2⟩⟩
    · refine stepU_plain rfl fun u wr hR hK hD => ?_; exact upon_assign _ _ rfl (hD 10 rfl) ⟨hR.again, rfl⟩
  intro u w2 hR hF
  have e12 : u 12 = .string s := hF 0 (by decide)
  have e13 : u 13 = .agg #[.int .u8 k1, .int .i64 a1, .string t1, .int .i64 d1] := hF 1 (by decide)
  have e16 : u 16 = .agg #[.int .u8 k2, .int .i64 a2, .string t2, .int .i64 d2] := hF 4 (by decide)
  have e21 : u 21 = .int .i64 0 := hF 10 (by decide)
  have e10 : u 10 = .int .i64 0 := hF 12 (by decide)
  obtain ⟨a14, e14, p14, r14⟩ := hF 2 (by decide)
  obtain ⟨a15, e15, p15, r15⟩ := hF 3 (by decide)
  obtain ⟨a17, e17, p17, r17⟩ := hF 5 (by decide)
  obtain ⟨a18, e18, p18, r18⟩ := hF 6 (by decide)
  obtain ⟨⟨a19, p19⟩, e19, r19⟩ := hF 7 (by decide)
  dsimp only at e19 r19
  obtain ⟨⟨a11, p11⟩, e11, r11⟩ := hF 8 (by decide)
  dsimp only at e11 r11
  obtain ⟨⟨a20, p20⟩, e20, r20⟩ := hF 9 (by decide)
  dsimp only at e20 r20
  obtain ⟨⟨a9, p9⟩, e9, r9⟩ := hF 11 (by decide)
  dsimp only at e9 r9
  simp only [finU, Act.put, List.setIfInBounds_toArray, List.set_cons_succ, List.set_cons_zero, e12, e13, e14, e15, e16, e17, e18, e19, e11, e20, e21, e9, e10]
  clear hF e12 e13 e14 e15 e16 e17 e18 e19 e11 e20 e21 e9 e10
  have hB2 : Below w.heap.size w w2 := chain hB.drew hB.size hR.be
  have hb_w2 : Below w1.heap.size w1 w2 := ⟨hR.be.os, hR.be.tape, hR.be.output, hR.be.size, hR.be.block⟩
  clear hB hR 
  have hB := hB2
  clear hB2
  have R9 := hide r9
  clear r9 r20 r19 r18 r17 r15 r14 r11 p18 p17 p15 p14 Ha Hg1 Hg2 Hnx Hny Hm1 Hm
  go_wp2_with fail
  refine (lwhole_any n _).mono ?_
  rintro e w3 ⟨rfl, hb3⟩
  have hB3 := chain0 hB hb3
  have R93 := hide (R9.out.keep hb3)
  clear hb3 R9
  go_wp2_with fail
  refine (lrow_any _ _ _ _).mono ?_
  rintro e w4 ⟨rfl, rfl⟩
  go_wp2_with fail
  refine (same_one a9 w3.heap.size 1 1 2 n 0 ⟨#[]⟩ _ (R93.out.alloc _) (RdI.new w3 37 [⟨2, n, ⟨#[]⟩, 0⟩])).mono ?_
  rintro e w5 ⟨rfl, hb5⟩
  have hB5 := chain1 hB3 hb5
  clear hb5
  go_wp2
  go_ret
  exact ⟨rfl, hB5⟩
end Go.Proofs.YtmnmnnocgimcpaaGreatDoor
