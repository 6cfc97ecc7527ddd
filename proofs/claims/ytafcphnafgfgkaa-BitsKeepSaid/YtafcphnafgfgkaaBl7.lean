/- BitsKeep: the walk. -/
import Derived.Test.YtafcphnafgfgkaaBl6
import Derived.Test.YtafcphnafgfgkaaBl5b
import Derived.Test.YtafcphnafgfgkaaReg
import Derived.Outline
namespace Go.Proofs.Ytafcphnafgfgkaa
open Go.RowKit Bm
theorem len_is (l : List Bool) (w : World) : Calls Try.prog 13 #[.agg #[.string (pk l), .int .i64 l.length]] w fun e w' => e = .returned (.int .i64 l.length) ∧ Below w.heap.size w w' := len_any l w
/-- packed and unpacked -/
theorem unpack_back (l : List Bool) (a : Option Addr) (cap : Nat) (w : World) (hl : l.length ≤ 200) (hr : RdB w a (pkL l)) :
    Calls Try.prog 22 #[.slice a (nb l.length) cap, .int .i64 l.length] w fun e w' => e = .returned (.tuple #[.agg #[.string (pk l), .int .i64 l.length], .bool true]) ∧ Below w.heap.size w w' := unpack_row l a cap w (by omega) hr
theorem and_is (l m q : List Bool) (w : World) (hl : l.length ≤ 1000) (hm : m.length ≤ 1000) (hq : q = l ++ m) :
    Calls Try.prog 14 #[.agg #[.string (pk l), .int .i64 l.length], .agg #[.string (pk m), .int .i64 m.length]] w fun e w' => e = .returned (.agg #[.string (pk q), .int .i64 q.length]) ∧ Below w.heap.size w w' := by
  subst hq; exact and_ok l m w (by omega)
theorem and_is1 (l q : List Bool) (w : World) (hl : l.length ≤ 1000) (hq : q = l ++ [true]) :
    Calls Try.prog 14 #[.agg #[.string (pk l), .int .i64 l.length], .agg #[.string ⟨#[128]⟩, .int .i64 1]] w fun e w' => e = .returned (.agg #[.string (pk q), .int .i64 q.length]) ∧ Below w.heap.size w w' :=
  and_bit l q true hq (by omega) _ rfl w
theorem cmp_is (l m : List Bool) (q : Int) (w : World) (hl : l.length ≤ 3000) (hm : m.length ≤ 3000) (hq : q = lexB l m) :
    Calls Try.prog 31 #[.agg #[.string (pk l), .int .i64 l.length], .agg #[.string (pk m), .int .i64 m.length]] w fun e w' => e = .returned (.int .i64 q) ∧ Below w.heap.size w w' := by
  subst hq; exact compare_lex l m w (by omega) (by omega)
theorem txt_is (l : List Bool) (s : ByteArray) (w : World) (hl : l.length ≤ 3000) (hs : s = txS l) :
    Calls Try.prog 16 #[.agg #[.string (pk l), .int .i64 l.length]] w fun e w' => e = .returned (.string s) ∧ Below w.heap.size w w' := by
  subst hs; exact text_row l w (by omega)
theorem begins_is (l m : List Bool) (w : World) (hl : l.length ≤ 3000) (hm : m.length ≤ 3000) (h : l.take m.length = m) :
    Calls Try.prog 33 #[.agg #[.string (pk l), .int .i64 l.length], .agg #[.string (pk m), .int .i64 m.length]] w fun e w' => e = .returned (.bool true) ∧ Below w.heap.size w w' := by
  have := begins_any l m w (by omega) (by omega)
  rw [decide_eq_true h] at this
  exact this
theorem cut_is (l q : List Bool) (x : Int) (k : Nat) (w : World) (hx : x = k) (hl : l.length ≤ 3000) (hk : k ≤ l.length) (hq : q = l.take k) :
    Calls Try.prog 30 #[.agg #[.string (pk l), .int .i64 l.length], .int .i64 0, .int .i64 x] w fun e w' => e = .returned (.tuple #[.agg #[.string (pk q), .int .i64 q.length], .bool true]) ∧ Below w.heap.size w w' := by
  subst hq; exact cut_okZ l 0 x 0 k w rfl (by omega) (by omega) (by omega)
theorem sign_is (xs ys : List Bool) (a b : Option Addr) (c d : Nat) (q : Int) (w : World) (hx : RdB w a (pkL xs)) (hy : RdB w b (pkL ys)) (hl : xs.length ≤ 3000) (hq : q = Lib.compareBytes (pkL xs) (pkL ys)) :
    Calls Try.prog 35 #[.slice a (nb xs.length) c, .slice b (nb ys.length) d] w fun e w' => e = .returned (.int .i64 q) ∧ Below w.heap.size w w' :=
  sign_any a b _ _ _ c _ d w hx hy (length_pkL _).symm (length_pkL _).symm (by unfold nb; omega) q hq
attribute [local irreducible] pk txS lexB
set_option maxRecDepth 100000 in
set_option maxHeartbeats 1000000 in
theorem bitsKeep_walk (a0 : Option Addr) (len0 cap0 : Nat) (z0 : List Int) (a1 : Option Addr) (len1 cap1 : Nat) (z1 : List Int) (a2 : Option Addr) (len2 cap2 : Nat) (z2 : List Int) (w : World)
    (w0 : IsRow .u8 w a0 len0 cap0 z0) (w1 : IsRow .u8 w a1 len1 cap1 z1) (w2 : IsRow .u8 w a2 len2 cap2 z2) :
    Calls Try.prog 9 #[.slice a0 len0 cap0, .slice a1 len1 cap1, .slice a2 len2 cap2] w fun e w' => e = .returned (.bool true) ∧ Below w.heap.size w w' := by
  have hB := Below.refl w.heap.size w
  obtain ⟨b0, hl0, hr0, hz0⟩ := rd_of_row w0
  obtain ⟨b1, hl1, hr1, hz1⟩ := rd_of_row w1
  obtain ⟨b2, hl2, hr2, hz2⟩ := rd_of_row w2
  clear w0 w1 w2
  obtain ⟨x, hx, hxl⟩ : ∃ x, x = rowOf b0 ∧ x.length ≤ 200 := ⟨_, rfl, rowOf_len _⟩
  obtain ⟨y, hy, hyl⟩ : ∃ y, y = rowOf b1 ∧ y.length ≤ 200 := ⟨_, rfl, rowOf_len _⟩
  obtain ⟨z, hz, hzl⟩ : ∃ z, z = rowOf b2 ∧ z.length ≤ 200 := ⟨_, rfl, rowOf_len _⟩
  have HX := hide hx
  have HY := hide hy
  have HZ := hide hz
  have HL0 := hide hl0
  have HL1 := hide hl1
  have HL2 := hide hl2
  clear hx hy hz hl0 hl1 hl2
  go_enter Try.func9, Try.ntmps9
  go_wp2_with fail
  refine (awake_any _).mono ?_
  rintro e w1 ⟨rfl, hb1⟩
  have hB2 : Below w.heap.size w w1 := by first | exact chain0 hB hb1 | exact chain1 hB hb1 | exact chain2 hB hb1 | exact chain3 hB hb1
  clear hB
  have hB := hB2
  clear hB2
  go_wp2_with fail
  refine (row_is a0 b0 _ _ x _ (hr0.keep hB) HL0.out hz0 HX.out).mono ?_
  rintro e w2 ⟨rfl, hb2⟩
  have hB2 : Below w.heap.size w w2 := by first | exact chain0 hB hb2 | exact chain1 hB hb2 | exact chain2 hB hb2 | exact chain3 hB hb2
  clear hB
  have hB := hB2
  clear hB2
  go_wp2_with fail
  refine (row_is a1 b1 _ _ y _ (hr1.keep hB) HL1.out hz1 HY.out).mono ?_
  rintro e w3 ⟨rfl, hb3⟩
  have hB2 : Below w.heap.size w w3 := by first | exact chain0 hB hb3 | exact chain1 hB hb3 | exact chain2 hB hb3 | exact chain3 hB hb3
  clear hB
  have hB := hB2
  clear hB2
  go_wp2_with fail
  refine (row_is a2 b2 _ _ z _ (hr2.keep hB) HL2.out hz2 HZ.out).mono ?_
  rintro e w4 ⟨rfl, hb4⟩
  have hB2 : Below w.heap.size w w4 := by first | exact chain0 hB hb4 | exact chain1 hB hb4 | exact chain2 hB hb4 | exact chain3 hB hb4
  clear hB
  have hB := hB2
  clear hB2
  go_wp2_with fail
  obtain ⟨wz, hwz⟩ : ∃ wz, wz = (((w4.alloc (.cells #[.string (pk x), .int .i64 x.length] 26)).alloc (.cells #[.string (pk y), .int .i64 y.length] 26)).alloc (.cells #[.string (pk z), .int .i64 z.length] 26)) := ⟨_, rfl⟩
  have x_X : Blk wz w4.heap.size 26 #[.string (pk x), .int .i64 x.length] := by rw [hwz]; exact ((Blk.new w4 _ _).alloc _).alloc _
  have x_Y : Blk wz (w4.heap.size + 1) 26 #[.string (pk y), .int .i64 y.length] := by rw [hwz]; exact Blk.alloc (by simp [blk_alloc_at]) _
  have x_Z : Blk wz (w4.heap.size + 1 + 1) 26 #[.string (pk z), .int .i64 z.length] := by rw [hwz]; simp [blk_alloc_at]
  have hs4 := hB.size
  have hBz : Below w.heap.size w wz := by rw [hwz]; exact ((hB.alloc hs4 _).alloc (by simp; omega) _).alloc (by simp; omega) _
  rw [← hwz]
  clear hwz hB
  have hB := hBz
  clear hBz
  have x_X : Blk wz w4.heap.size 26 #[.string (pk x), .int .i64 x.length] := x_X
  have x_Y : Blk wz (w4.heap.size + 1) 26 #[.string (pk y), .int .i64 y.length] := x_Y
  have x_Z : Blk wz (w4.heap.size + 1 + 1) 26 #[.string (pk z), .int .i64 z.length] := x_Z
  refine wp_region_facts (R := RB wz.heap.size (pk x) (x.length)) [eqF wz.heap.size (pk x) (x.length) 28 (.agg #[.string (pk x), .int .i64 x.length]), rdF wz.heap.size (pk x) (x.length) 29 (nb x.length) (pkL x), eqF wz.heap.size (pk x) (x.length) 30 (.agg #[.string (pk x), .int .i64 x.length]), eqF wz.heap.size (pk x) (x.length) 31 (.int .i64 x.length), eqF wz.heap.size (pk x) (x.length) 32 (.tuple #[.agg #[.string (pk x), .int .i64 x.length], .bool true]), eqF wz.heap.size (pk x) (x.length) 27 (.tuple #[.agg #[.string (pk x), .int .i64 x.length], .bool true]), eqF wz.heap.size (pk x) (x.length) 33 (.agg #[.string (pk x), .int .i64 x.length]), eqF wz.heap.size (pk x) (x.length) 34 (.bool true), newF wz.heap.size (pk x) (x.length) 10, putF wz.heap.size (pk x) (x.length) 10, eqF wz.heap.size (pk x) (x.length) 11 (.bool true)] (by kernel_rfl) (by kernel_rfl) (by kernel_rfl) (RB.refl (Nat.le_refl _)) (fun _ h => h.again) (fun _ _ _ h k => h.trans k) ?_ ?_
  · refine stepsU_cons rfl ?_ (stepsU_cons rfl ?_ (stepsU_cons rfl ?_ (stepsU_cons rfl ?_ (stepsU_cons rfl ?_ (stepsU_cons rfl ?_ (stepsU_cons rfl ?_ (stepsU_cons rfl ?_ (stepsU_cons rfl ?_ (stepsU_cons rfl ?_ (stepsU_cons rfl ?_ (stepsU_nil)))))))))))
    · refine stepU_plain rfl fun u wr hR hK hD => ?_; exact upon_loadB _ _ _ _ rfl (hK 7 rfl) (hR.old x_X.lt x_X) ⟨hR.again, rfl⟩
    · refine stepU_plain rfl fun u wr hR hK hD => ?_; exact upon_call1 _ _ _ Try.func18 (by kernel_rfl) rfl (hD 0 rfl) ((pack_row x wr).mono fun e wn ⟨g, cap, he, hr, hb⟩ => ⟨_, he, hR.next hb, ⟨_, cap, rfl, hr⟩⟩)
    · refine stepU_plain rfl fun u wr hR hK hD => ?_; exact upon_loadB _ _ _ _ rfl (hK 7 rfl) (hR.old x_X.lt x_X) ⟨hR.again, rfl⟩
    · refine stepU_plain rfl fun u wr hR hK hD => ?_; exact upon_call1 _ _ _ Try.func13 (by kernel_rfl) rfl (hD 2 rfl) ((len_is x wr).mono fun e wn ⟨he, hb⟩ => ⟨_, he, hR.next hb, rfl⟩)
    · refine stepU_plain rfl fun u wr hR hK hD => ?_; obtain ⟨a, cap, h1, h2⟩ := (hD 1 rfl); exact upon_call2 _ _ _ _ _ Try.func22 (by kernel_rfl) rfl h1 (hD 3 rfl) ((unpack_back x a cap wr hxl h2).mono fun e wn ⟨he, hb⟩ => ⟨_, he, hR.next hb, rfl⟩)
    · refine stepU_plain rfl fun u wr hR hK hD => ?_; exact upon_move _ _ rfl (hD 4 rfl) ⟨hR.again, rfl⟩
    · refine stepU_plain rfl fun u wr hR hK hD => ?_; exact upon_extract _ 0 _ _ rfl (hD 5 rfl) rfl ⟨hR.again, rfl⟩
    · refine stepU_plain rfl fun u wr hR hK hD => ?_; exact upon_extract _ 1 _ _ rfl (hD 5 rfl) rfl ⟨hR.again, rfl⟩
    · refine stepU_plain rfl fun u wr hR hK hD => ?_; exact upon_allocB rfl ⟨hR.next ((Below.refl _ _).alloc (Nat.le_refl _) _), ⟨_, rfl, Nat.le_trans hR.hB hR.be.size, .inl (heap_alloc_new _ _)⟩⟩
    · refine stepU_plain rfl fun u wr hR hK hD => ?_; obtain ⟨g, hg, hgB, hbl⟩ := hD 8 rfl; exact upon_storeB _ _ g rfl hg hgB hbl (hD 6 rfl) (Nat.le_trans hR.hB hR.be.size) fun w2 hR2 hb2 => ⟨hR2, ⟨g, hg, hgB, hb2⟩⟩
    · refine stepU_plain rfl fun u wr hR hK hD => ?_; exact upon_assign _ _ rfl (hD 7 rfl) ⟨hR.again, rfl⟩
  intro u w5 hR hF
  have e28 : u 28 = .agg #[.string (pk x), .int .i64 x.length] := hF 0 (by decide)
  have e30 : u 30 = .agg #[.string (pk x), .int .i64 x.length] := hF 2 (by decide)
  have e31 : u 31 = .int .i64 x.length := hF 3 (by decide)
  have e32 : u 32 = .tuple #[.agg #[.string (pk x), .int .i64 x.length], .bool true] := hF 4 (by decide)
  have e27 : u 27 = .tuple #[.agg #[.string (pk x), .int .i64 x.length], .bool true] := hF 5 (by decide)
  have e33 : u 33 = .agg #[.string (pk x), .int .i64 x.length] := hF 6 (by decide)
  have e34 : u 34 = .bool true := hF 7 (by decide)
  have e11 : u 11 = .bool true := hF 10 (by decide)
  obtain ⟨a29, p29, e29, r29⟩ := hF 1 (by decide)
  obtain ⟨g10, e10, hg10, x_g10⟩ := hF 9 (by decide)
  simp only [finU, Act.put, List.setIfInBounds_toArray, List.set_cons_succ, List.set_cons_zero, e28, e29, e30, e31, e32, e27, e33, e34, e10, e11]
  clear hF e28 e29 e30 e31 e32 e27 e33 e34 e10 e11
  have hB2 : Below w.heap.size w w5 := chain hB.drew hB.size hR.be
  have y_X : Blk w5 w4.heap.size 26 #[.string (pk x), .int .i64 x.length] := hR.old x_X.lt x_X
  have y_Y : Blk w5 (w4.heap.size + 1) 26 #[.string (pk y), .int .i64 y.length] := hR.old x_Y.lt x_Y
  have y_Z : Blk w5 (w4.heap.size + 1 + 1) 26 #[.string (pk z), .int .i64 z.length] := hR.old x_Z.lt x_Z
  clear hB hR x_X x_Y x_Z
  have hB := hB2
  clear hB2
  have x_X := y_X
  have x_Y := y_Y
  have x_Z := y_Z
  clear y_X y_Y y_Z
  have x_X : Blk w5 w4.heap.size 26 #[.string (pk x), .int .i64 x.length] := x_X
  have x_Y : Blk w5 (w4.heap.size + 1) 26 #[.string (pk y), .int .i64 y.length] := x_Y
  have x_Z : Blk w5 (w4.heap.size + 1 + 1) 26 #[.string (pk z), .int .i64 z.length] := x_Z
  have x_B : Blk w5 g10 26 #[.string (pk x), .int .i64 x.length] := x_g10
  clear x_g10
  obtain ⟨sx, hsx⟩ : ∃ s, s = txS x := ⟨_, rfl⟩
  have Hsx := hide hsx
  clear hsx
  go_wp2_with fail
  refine wp_region_facts (R := RB w5.heap.size (⟨#[]⟩) (0)) [eqF w5.heap.size (⟨#[]⟩) (0) 35 (.bool true), eqF w5.heap.size (⟨#[]⟩) (0) 36 (.bool false), eqF w5.heap.size (⟨#[]⟩) (0) 37 (.bool false), eqF w5.heap.size (⟨#[]⟩) (0) 38 (.agg #[.string (pk x), .int .i64 x.length]), eqF w5.heap.size (⟨#[]⟩) (0) 39 (.string sx), eqF w5.heap.size (⟨#[]⟩) (0) 40 (.agg #[.string (pk x), .int .i64 x.length]), eqF w5.heap.size (⟨#[]⟩) (0) 41 (.string sx), eqF w5.heap.size (⟨#[]⟩) (0) 42 (.bool false), eqF w5.heap.size (⟨#[]⟩) (0) 43 (.bool false), eqF w5.heap.size (⟨#[]⟩) (0) 44 (.bool false), eqF w5.heap.size (⟨#[]⟩) (0) 45 (.agg #[.string (pk x), .int .i64 x.length]), eqF w5.heap.size (⟨#[]⟩) (0) 46 (.agg #[.string (pk x), .int .i64 x.length]), eqF w5.heap.size (⟨#[]⟩) (0) 47 (.int .i64 0), eqF w5.heap.size (⟨#[]⟩) (0) 48 (.bool false), eqF w5.heap.size (⟨#[]⟩) (0) 49 (.bool false)] (by kernel_rfl) (by kernel_rfl) (by kernel_rfl) (RB.refl (Nat.le_refl _)) (fun _ h => h.again) (fun _ _ _ h k => h.trans k) ?_ ?_
  · refine stepsU_cons rfl ?_ (stepsU_cons rfl ?_ (stepsU_cons rfl ?_ (stepsU_cons rfl ?_ (stepsU_cons rfl ?_ (stepsU_cons rfl ?_ (stepsU_cons rfl ?_ (stepsU_cons rfl ?_ (stepsU_cons rfl ?_ (stepsU_cons rfl ?_ (stepsU_cons rfl ?_ (stepsU_cons rfl ?_ (stepsU_cons rfl ?_ (stepsU_cons rfl ?_ (stepsU_cons rfl ?_ (stepsU_nil)))))))))))))))
    · refine stepU_plain rfl fun u wr hR hK hD => ?_; exact upon_move _ _ rfl (hK 11 rfl) ⟨hR.again, rfl⟩
    · refine stepU_plain rfl fun u wr hR hK hD => ?_; have z35 : u 35 = _ := (hD 0 rfl); exact upon_val _ (by unfold execOp; simp [go_sem, evU, z35]) ⟨hR.again, rfl⟩
    · refine stepU_plain rfl fun u wr hR hK hD => ?_; exact upon_move _ _ rfl (hD 1 rfl) ⟨hR.again, rfl⟩
    · refine stepU_yes 2 37 false rfl rfl (fun u wr hK hD => hD 2 rfl) fun u wr hR hK hD => ?_; exact upon_loadB _ _ _ _ rfl (hK 10 rfl) (hR.old x_B.lt x_B) ⟨hR.again, rfl⟩
    · refine stepU_yes 2 37 false rfl rfl (fun u wr hK hD => hD 2 rfl) fun u wr hR hK hD => ?_; exact upon_call1 _ _ _ Try.func16 (by kernel_rfl) rfl (hD 3 rfl) ((text_is x sx wr hxl Hsx.out).mono fun e wn ⟨he, hb⟩ => ⟨_, he, hR.next hb, rfl⟩)
    · refine stepU_yes 2 37 false rfl rfl (fun u wr hK hD => hD 2 rfl) fun u wr hR hK hD => ?_; exact upon_loadB _ _ _ _ rfl (hK 7 rfl) (hR.old x_X.lt x_X) ⟨hR.again, rfl⟩
    · refine stepU_yes 2 37 false rfl rfl (fun u wr hK hD => hD 2 rfl) fun u wr hR hK hD => ?_; exact upon_call1 _ _ _ Try.func16 (by kernel_rfl) rfl (hD 5 rfl) ((text_is x sx wr hxl Hsx.out).mono fun e wn ⟨he, hb⟩ => ⟨_, he, hR.next hb, rfl⟩)
    · refine stepU_yes 2 37 false rfl rfl (fun u wr hK hD => hD 2 rfl) fun u wr hR hK hD => ?_; have z39 : u 39 = _ := (hD 4 rfl); have z41 : u 41 = _ := (hD 6 rfl); exact upon_val _ (by unfold execOp; simp [go_sem, evU, z39, z41]) ⟨hR.again, rfl⟩
    · refine stepU_plain rfl fun u wr hR hK hD => ?_; exact upon_pick _ _ _ _ _ rfl (hD 2 rfl) (by first | rfl | exact rfl | exact (hD 7 rfl)) ⟨hR.again, rfl⟩
    · refine stepU_plain rfl fun u wr hR hK hD => ?_; exact upon_move _ _ rfl (hD 8 rfl) ⟨hR.again, rfl⟩
    · refine stepU_yes 9 44 false rfl rfl (fun u wr hK hD => hD 9 rfl) fun u wr hR hK hD => ?_; exact upon_loadB _ _ _ _ rfl (hK 10 rfl) (hR.old x_B.lt x_B) ⟨hR.again, rfl⟩
    · refine stepU_yes 9 44 false rfl rfl (fun u wr hK hD => hD 9 rfl) fun u wr hR hK hD => ?_; exact upon_loadB _ _ _ _ rfl (hK 7 rfl) (hR.old x_X.lt x_X) ⟨hR.again, rfl⟩
    · refine stepU_yes 9 44 false rfl rfl (fun u wr hK hD => hD 9 rfl) fun u wr hR hK hD => ?_; exact upon_call2 _ _ _ _ _ Try.func31 (by kernel_rfl) rfl (hD 10 rfl) (hD 11 rfl) ((compare_is x x 0 wr hxl hxl (lex_refl x).symm).mono fun e wn ⟨he, hb⟩ => ⟨_, he, hR.next hb, rfl⟩)
    · refine stepU_yes 9 44 false rfl rfl (fun u wr hK hD => hD 9 rfl) fun u wr hR hK hD => ?_; have z47 : u 47 = _ := (hD 12 rfl); exact upon_val _ (by unfold execOp; simp [go_sem, evU, z47]) ⟨hR.again, rfl⟩
    · refine stepU_plain rfl fun u wr hR hK hD => ?_; exact upon_pick _ _ _ _ _ rfl (hD 9 rfl) (by first | rfl | exact rfl | exact (hD 13 rfl)) ⟨hR.again, rfl⟩
  intro u w6 hR hF
  have e35 : u 35 = .bool true := hF 0 (by decide)
  have e36 : u 36 = .bool false := hF 1 (by decide)
  have e37 : u 37 = .bool false := hF 2 (by decide)
  have e38 : u 38 = .agg #[.string (pk x), .int .i64 x.length] := hF 3 (by decide)
  have e39 : u 39 = .string sx := hF 4 (by decide)
  have e40 : u 40 = .agg #[.string (pk x), .int .i64 x.length] := hF 5 (by decide)
  have e41 : u 41 = .string sx := hF 6 (by decide)
  have e42 : u 42 = .bool false := hF 7 (by decide)
  have e43 : u 43 = .bool false := hF 8 (by decide)
  have e44 : u 44 = .bool false := hF 9 (by decide)
  have e45 : u 45 = .agg #[.string (pk x), .int .i64 x.length] := hF 10 (by decide)
  have e46 : u 46 = .agg #[.string (pk x), .int .i64 x.length] := hF 11 (by decide)
  have e47 : u 47 = .int .i64 0 := hF 12 (by decide)
  have e48 : u 48 = .bool false := hF 13 (by decide)
  have e49 : u 49 = .bool false := hF 14 (by decide)
  simp only [finU, Act.put, List.setIfInBounds_toArray, List.set_cons_succ, List.set_cons_zero, e35, e36, e37, e38, e39, e40, e41, e42, e43, e44, e45, e46, e47, e48, e49]
  clear hF e35 e36 e37 e38 e39 e40 e41 e42 e43 e44 e45 e46 e47 e48 e49
  have hB2 : Below w.heap.size w w6 := chain hB.drew hB.size hR.be
  have y_X : Blk w6 w4.heap.size 26 #[.string (pk x), .int .i64 x.length] := hR.old x_X.lt x_X
  have y_Y : Blk w6 (w4.heap.size + 1) 26 #[.string (pk y), .int .i64 y.length] := hR.old x_Y.lt x_Y
  have y_Z : Blk w6 (w4.heap.size + 1 + 1) 26 #[.string (pk z), .int .i64 z.length] := hR.old x_Z.lt x_Z
  have y_B : Blk w6 g10 26 #[.string (pk x), .int .i64 x.length] := hR.old x_B.lt x_B
  clear hB hR x_X x_Y x_Z x_B
  have hB := hB2
  clear hB2
  have x_X := y_X
  have x_Y := y_Y
  have x_Z := y_Z
  have x_B := y_B
  clear y_X y_Y y_Z y_B
  obtain ⟨xy, hxy, hxyl⟩ : ∃ l, l = x ++ y ∧ l.length ≤ 400 := ⟨_, rfl, by simp; omega⟩
  obtain ⟨yz, hyz, hyzl⟩ : ∃ l, l = y ++ z ∧ l.length ≤ 400 := ⟨_, rfl, by simp; omega⟩
  obtain ⟨xyz, hxyz, hxyzl⟩ : ∃ l, l = xy ++ z ∧ l.length ≤ 600 := ⟨_, rfl, by simp; omega⟩
  have hxyz2 : xyz = x ++ yz := by rw [hxyz, hxy, hyz, List.append_assoc]
  obtain ⟨st, hst⟩ : ∃ s, s = txS xyz := ⟨_, rfl⟩
  have hbg : xy.take x.length = x := by rw [hxy, List.take_left]
  obtain ⟨c7, hc7⟩ : ∃ c, c = lexB x xy := ⟨_, rfl⟩
  obtain ⟨mn, hmn, hmn2⟩ : ∃ m : Int, (if (1 : Int) < (y.length : Int) then (1 : Int) else (y.length : Int)) = m ∧ IntKind.i64.wrap (-m) = c7 := ⟨_, rfl, by
    rw [hc7, hxy, lex_app, IntKind.wrap_i64]
    by_cases h : y = []
    · have h0 : y.length = 0 := by rw [h]; rfl
      rw [if_pos h, h0]; rfl
    · have : 0 < y.length := List.length_pos_iff.2 h
      rw [if_neg h]; omega⟩
  have Hxy := hide hxy
  have Hyz := hide hyz
  have Hxyz := hide hxyz
  have Hxyz2 := hide hxyz2
  have Hst := hide hst
  have Hbg := hide hbg
  have Hc7 := hide hc7
  have Hmn := hide hmn
  clear hxy hyz hxyz hxyz2 hst hbg hc7 hmn
  go_wp2_with fail
  refine wp_region_facts (R := RB w6.heap.size (⟨#[]⟩) (0)) [eqF w6.heap.size (⟨#[]⟩) (0) 50 (.agg #[.string (pk x), .int .i64 x.length]), eqF w6.heap.size (⟨#[]⟩) (0) 51 (.agg #[.string (pk y), .int .i64 y.length]), eqF w6.heap.size (⟨#[]⟩) (0) 52 (.agg #[.string (pk xy), .int .i64 xy.length]), eqF w6.heap.size (⟨#[]⟩) (0) 53 (.agg #[.string (pk z), .int .i64 z.length]), eqF w6.heap.size (⟨#[]⟩) (0) 54 (.agg #[.string (pk xyz), .int .i64 xyz.length]), eqF w6.heap.size (⟨#[]⟩) (0) 55 (.string st), eqF w6.heap.size (⟨#[]⟩) (0) 56 (.agg #[.string (pk x), .int .i64 x.length]), eqF w6.heap.size (⟨#[]⟩) (0) 57 (.agg #[.string (pk y), .int .i64 y.length]), eqF w6.heap.size (⟨#[]⟩) (0) 58 (.agg #[.string (pk z), .int .i64 z.length]), eqF w6.heap.size (⟨#[]⟩) (0) 59 (.agg #[.string (pk yz), .int .i64 yz.length]), eqF w6.heap.size (⟨#[]⟩) (0) 60 (.agg #[.string (pk xyz), .int .i64 xyz.length]), eqF w6.heap.size (⟨#[]⟩) (0) 61 (.string st), eqF w6.heap.size (⟨#[]⟩) (0) 62 (.bool false), eqF w6.heap.size (⟨#[]⟩) (0) 63 (.bool false), eqF w6.heap.size (⟨#[]⟩) (0) 64 (.agg #[.string (pk x), .int .i64 x.length]), eqF w6.heap.size (⟨#[]⟩) (0) 65 (.agg #[.string (pk y), .int .i64 y.length]), eqF w6.heap.size (⟨#[]⟩) (0) 66 (.agg #[.string (pk xy), .int .i64 xy.length]), eqF w6.heap.size (⟨#[]⟩) (0) 67 (.agg #[.string (pk x), .int .i64 x.length]), eqF w6.heap.size (⟨#[]⟩) (0) 68 (.bool true), eqF w6.heap.size (⟨#[]⟩) (0) 69 (.bool false), eqF w6.heap.size (⟨#[]⟩) (0) 70 (.bool false), eqF w6.heap.size (⟨#[]⟩) (0) 71 (.bool false), eqF w6.heap.size (⟨#[]⟩) (0) 72 (.agg #[.string (pk x), .int .i64 x.length]), eqF w6.heap.size (⟨#[]⟩) (0) 73 (.agg #[.string (pk x), .int .i64 x.length]), eqF w6.heap.size (⟨#[]⟩) (0) 74 (.agg #[.string (pk y), .int .i64 y.length]), eqF w6.heap.size (⟨#[]⟩) (0) 75 (.agg #[.string (pk xy), .int .i64 xy.length]), eqF w6.heap.size (⟨#[]⟩) (0) 76 (.int .i64 c7), eqF w6.heap.size (⟨#[]⟩) (0) 77 (.agg #[.string (pk y), .int .i64 y.length]), eqF w6.heap.size (⟨#[]⟩) (0) 78 (.int .i64 y.length), eqF w6.heap.size (⟨#[]⟩) (0) 79 (.int .i64 mn), eqF w6.heap.size (⟨#[]⟩) (0) 80 (.int .i64 c7), eqF w6.heap.size (⟨#[]⟩) (0) 81 (.bool false), eqF w6.heap.size (⟨#[]⟩) (0) 82 (.bool false)] (by kernel_rfl) (by kernel_rfl) (by kernel_rfl) (RB.refl (Nat.le_refl _)) (fun _ h => h.again) (fun _ _ _ h k => h.trans k) ?_ ?_
  · refine stepsU_cons rfl ?_ (stepsU_cons rfl ?_ (stepsU_cons rfl ?_ (stepsU_cons rfl ?_ (stepsU_cons rfl ?_ (stepsU_cons rfl ?_ (stepsU_cons rfl ?_ (stepsU_cons rfl ?_ (stepsU_cons rfl ?_ (stepsU_cons rfl ?_ (stepsU_cons rfl ?_ (stepsU_cons rfl ?_ (stepsU_cons rfl ?_ (stepsU_cons rfl ?_ (stepsU_cons rfl ?_ (stepsU_cons rfl ?_ (stepsU_cons rfl ?_ (stepsU_cons rfl ?_ (stepsU_cons rfl ?_ (stepsU_cons rfl ?_ (stepsU_cons rfl ?_ (stepsU_cons rfl ?_ (stepsU_cons rfl ?_ (stepsU_cons rfl ?_ (stepsU_cons rfl ?_ (stepsU_cons rfl ?_ (stepsU_cons rfl ?_ (stepsU_cons rfl ?_ (stepsU_cons rfl ?_ (stepsU_cons rfl ?_ (stepsU_cons rfl ?_ (stepsU_cons rfl ?_ (stepsU_cons rfl ?_ (stepsU_nil)))))))))))))))))))))))))))))))))
    · refine stepU_plain rfl fun u wr hR hK hD => ?_; exact upon_loadB _ _ _ _ rfl (hK 7 rfl) (hR.old x_X.lt x_X) ⟨hR.again, rfl⟩
    · refine stepU_plain rfl fun u wr hR hK hD => ?_; exact upon_loadB _ _ _ _ rfl (hK 8 rfl) (hR.old x_Y.lt x_Y) ⟨hR.again, rfl⟩
    · refine stepU_plain rfl fun u wr hR hK hD => ?_; exact upon_call2 _ _ _ _ _ Try.func14 (by kernel_rfl) rfl (hD 0 rfl) (hD 1 rfl) ((and_is x y xy wr (by omega) (by omega) Hxy.out).mono fun e wn ⟨he, hb⟩ => ⟨_, he, hR.next hb, rfl⟩)
    · refine stepU_plain rfl fun u wr hR hK hD => ?_; exact upon_loadB _ _ _ _ rfl (hK 9 rfl) (hR.old x_Z.lt x_Z) ⟨hR.again, rfl⟩
    · refine stepU_plain rfl fun u wr hR hK hD => ?_; exact upon_call2 _ _ _ _ _ Try.func14 (by kernel_rfl) rfl (hD 2 rfl) (hD 3 rfl) ((and_is xy z xyz wr (by omega) (by omega) Hxyz.out).mono fun e wn ⟨he, hb⟩ => ⟨_, he, hR.next hb, rfl⟩)
    · refine stepU_plain rfl fun u wr hR hK hD => ?_; exact upon_call1 _ _ _ Try.func16 (by kernel_rfl) rfl (hD 4 rfl) ((txt_is xyz st wr (by omega) Hst.out).mono fun e wn ⟨he, hb⟩ => ⟨_, he, hR.next hb, rfl⟩)
    · refine stepU_plain rfl fun u wr hR hK hD => ?_; exact upon_loadB _ _ _ _ rfl (hK 7 rfl) (hR.old x_X.lt x_X) ⟨hR.again, rfl⟩
    · refine stepU_plain rfl fun u wr hR hK hD => ?_; exact upon_loadB _ _ _ _ rfl (hK 8 rfl) (hR.old x_Y.lt x_Y) ⟨hR.again, rfl⟩
    · refine stepU_plain rfl fun u wr hR hK hD => ?_; exact upon_loadB _ _ _ _ rfl (hK 9 rfl) (hR.old x_Z.lt x_Z) ⟨hR.again, rfl⟩
    · refine stepU_plain rfl fun u wr hR hK hD => ?_; exact upon_call2 _ _ _ _ _ Try.func14 (by kernel_rfl) rfl (hD 7 rfl) (hD 8 rfl) ((and_is y z yz wr (by omega) (by omega) Hyz.out).mono fun e wn ⟨he, hb⟩ => ⟨_, he, hR.next hb, rfl⟩)
    · refine stepU_plain rfl fun u wr hR hK hD => ?_; exact upon_call2 _ _ _ _ _ Try.func14 (by kernel_rfl) rfl (hD 6 rfl) (hD 9 rfl) ((and_is x yz xyz wr (by omega) (by omega) Hxyz2.out).mono fun e wn ⟨he, hb⟩ => ⟨_, he, hR.next hb, rfl⟩)
    · refine stepU_plain rfl fun u wr hR hK hD => ?_; exact upon_call1 _ _ _ Try.func16 (by kernel_rfl) rfl (hD 10 rfl) ((txt_is xyz st wr (by omega) Hst.out).mono fun e wn ⟨he, hb⟩ => ⟨_, he, hR.next hb, rfl⟩)
    · refine stepU_plain rfl fun u wr hR hK hD => ?_; have z55 : u 55 = _ := (hD 5 rfl); have z61 : u 61 = _ := (hD 11 rfl); exact upon_val _ (by unfold execOp; simp [go_sem, evU, z55, z61]) ⟨hR.again, rfl⟩
    · refine stepU_plain rfl fun u wr hR hK hD => ?_; exact upon_move _ _ rfl (hD 12 rfl) ⟨hR.again, rfl⟩
    · refine stepU_yes 13 63 false rfl rfl (fun u wr hK hD => hD 13 rfl) fun u wr hR hK hD => ?_; exact upon_loadB _ _ _ _ rfl (hK 7 rfl) (hR.old x_X.lt x_X) ⟨hR.again, rfl⟩
    · refine stepU_yes 13 63 false rfl rfl (fun u wr hK hD => hD 13 rfl) fun u wr hR hK hD => ?_; exact upon_loadB _ _ _ _ rfl (hK 8 rfl) (hR.old x_Y.lt x_Y) ⟨hR.again, rfl⟩
    · refine stepU_yes 13 63 false rfl rfl (fun u wr hK hD => hD 13 rfl) fun u wr hR hK hD => ?_; exact upon_call2 _ _ _ _ _ Try.func14 (by kernel_rfl) rfl (hD 14 rfl) (hD 15 rfl) ((and_is x y xy wr (by omega) (by omega) Hxy.out).mono fun e wn ⟨he, hb⟩ => ⟨_, he, hR.next hb, rfl⟩)
    · refine stepU_yes 13 63 false rfl rfl (fun u wr hK hD => hD 13 rfl) fun u wr hR hK hD => ?_; exact upon_loadB _ _ _ _ rfl (hK 7 rfl) (hR.old x_X.lt x_X) ⟨hR.again, rfl⟩
    · refine stepU_yes 13 63 false rfl rfl (fun u wr hK hD => hD 13 rfl) fun u wr hR hK hD => ?_; exact upon_call2 _ _ _ _ _ Try.func33 (by kernel_rfl) rfl (hD 16 rfl) (hD 17 rfl) ((begins_is xy x wr (by omega) (by omega) Hbg.out).mono fun e wn ⟨he, hb⟩ => ⟨_, he, hR.next hb, rfl⟩)
    · refine stepU_yes 13 63 false rfl rfl (fun u wr hK hD => hD 13 rfl) fun u wr hR hK hD => ?_; have z68 : u 68 = _ := (hD 18 rfl); exact upon_val _ (by unfold execOp; simp [go_sem, evU, z68]) ⟨hR.again, rfl⟩
    · refine stepU_plain rfl fun u wr hR hK hD => ?_; exact upon_pick _ _ _ _ _ rfl (hD 13 rfl) (by first | rfl | exact rfl | exact (hD 19 rfl)) ⟨hR.again, rfl⟩
    · refine stepU_plain rfl fun u wr hR hK hD => ?_; exact upon_move _ _ rfl (hD 20 rfl) ⟨hR.again, rfl⟩
    · refine stepU_yes 21 71 false rfl rfl (fun u wr hK hD => hD 21 rfl) fun u wr hR hK hD => ?_; exact upon_loadB _ _ _ _ rfl (hK 7 rfl) (hR.old x_X.lt x_X) ⟨hR.again, rfl⟩
    · refine stepU_yes 21 71 false rfl rfl (fun u wr hK hD => hD 21 rfl) fun u wr hR hK hD => ?_; exact upon_loadB _ _ _ _ rfl (hK 7 rfl) (hR.old x_X.lt x_X) ⟨hR.again, rfl⟩
    · refine stepU_yes 21 71 false rfl rfl (fun u wr hK hD => hD 21 rfl) fun u wr hR hK hD => ?_; exact upon_loadB _ _ _ _ rfl (hK 8 rfl) (hR.old x_Y.lt x_Y) ⟨hR.again, rfl⟩
    · refine stepU_yes 21 71 false rfl rfl (fun u wr hK hD => hD 21 rfl) fun u wr hR hK hD => ?_; exact upon_call2 _ _ _ _ _ Try.func14 (by kernel_rfl) rfl (hD 23 rfl) (hD 24 rfl) ((and_is x y xy wr (by omega) (by omega) Hxy.out).mono fun e wn ⟨he, hb⟩ => ⟨_, he, hR.next hb, rfl⟩)
    · refine stepU_yes 21 71 false rfl rfl (fun u wr hK hD => hD 21 rfl) fun u wr hR hK hD => ?_; exact upon_call2 _ _ _ _ _ Try.func31 (by kernel_rfl) rfl (hD 22 rfl) (hD 25 rfl) ((cmp_is x xy c7 wr (by omega) (by omega) Hc7.out).mono fun e wn ⟨he, hb⟩ => ⟨_, he, hR.next hb, rfl⟩)
    · refine stepU_yes 21 71 false rfl rfl (fun u wr hK hD => hD 21 rfl) fun u wr hR hK hD => ?_; exact upon_loadB _ _ _ _ rfl (hK 8 rfl) (hR.old x_Y.lt x_Y) ⟨hR.again, rfl⟩
    · refine stepU_yes 21 71 false rfl rfl (fun u wr hK hD => hD 21 rfl) fun u wr hR hK hD => ?_; exact upon_call1 _ _ _ Try.func13 (by kernel_rfl) rfl (hD 27 rfl) ((len_is y wr).mono fun e wn ⟨he, hb⟩ => ⟨_, he, hR.next hb, rfl⟩)
    · refine stepU_yes 21 71 false rfl rfl (fun u wr hK hD => hD 21 rfl) fun u wr hR hK hD => ?_; have z78 : u 78 = _ := (hD 28 rfl); exact upon_val _ (by unfold execOp; simp [go_sem, evU, z78, Hmn.out]) ⟨hR.again, rfl⟩
    · refine stepU_yes 21 71 false rfl rfl (fun u wr hK hD => hD 21 rfl) fun u wr hR hK hD => ?_; have z79 : u 79 = _ := (hD 29 rfl); exact upon_val _ (by unfold execOp; simp [go_sem, evU, z79, hmn2]) ⟨hR.again, rfl⟩
    · refine stepU_yes 21 71 false rfl rfl (fun u wr hK hD => hD 21 rfl) fun u wr hR hK hD => ?_; have z76 : u 76 = _ := (hD 26 rfl); have z80 : u 80 = _ := (hD 30 rfl); exact upon_val _ (by unfold execOp; simp [go_sem, evU, z76, z80]) ⟨hR.again, rfl⟩
    · refine stepU_plain rfl fun u wr hR hK hD => ?_; exact upon_pick _ _ _ _ _ rfl (hD 21 rfl) (by first | rfl | exact rfl | exact (hD 31 rfl)) ⟨hR.again, rfl⟩
  intro u w7 hR hF
  have e50 : u 50 = .agg #[.string (pk x), .int .i64 x.length] := hF 0 (by decide)
  have e51 : u 51 = .agg #[.string (pk y), .int .i64 y.length] := hF 1 (by decide)
  have e52 : u 52 = .agg #[.string (pk xy), .int .i64 xy.length] := hF 2 (by decide)
  have e53 : u 53 = .agg #[.string (pk z), .int .i64 z.length] := hF 3 (by decide)
  have e54 : u 54 = .agg #[.string (pk xyz), .int .i64 xyz.length] := hF 4 (by decide)
  have e55 : u 55 = .string st := hF 5 (by decide)
  have e56 : u 56 = .agg #[.string (pk x), .int .i64 x.length] := hF 6 (by decide)
  have e57 : u 57 = .agg #[.string (pk y), .int .i64 y.length] := hF 7 (by decide)
  have e58 : u 58 = .agg #[.string (pk z), .int .i64 z.length] := hF 8 (by decide)
  have e59 : u 59 = .agg #[.string (pk yz), .int .i64 yz.length] := hF 9 (by decide)
  have e60 : u 60 = .agg #[.string (pk xyz), .int .i64 xyz.length] := hF 10 (by decide)
  have e61 : u 61 = .string st := hF 11 (by decide)
  have e62 : u 62 = .bool false := hF 12 (by decide)
  have e63 : u 63 = .bool false := hF 13 (by decide)
  have e64 : u 64 = .agg #[.string (pk x), .int .i64 x.length] := hF 14 (by decide)
  have e65 : u 65 = .agg #[.string (pk y), .int .i64 y.length] := hF 15 (by decide)
  have e66 : u 66 = .agg #[.string (pk xy), .int .i64 xy.length] := hF 16 (by decide)
  have e67 : u 67 = .agg #[.string (pk x), .int .i64 x.length] := hF 17 (by decide)
  have e68 : u 68 = .bool true := hF 18 (by decide)
  have e69 : u 69 = .bool false := hF 19 (by decide)
  have e70 : u 70 = .bool false := hF 20 (by decide)
  have e71 : u 71 = .bool false := hF 21 (by decide)
  have e72 : u 72 = .agg #[.string (pk x), .int .i64 x.length] := hF 22 (by decide)
  have e73 : u 73 = .agg #[.string (pk x), .int .i64 x.length] := hF 23 (by decide)
  have e74 : u 74 = .agg #[.string (pk y), .int .i64 y.length] := hF 24 (by decide)
  have e75 : u 75 = .agg #[.string (pk xy), .int .i64 xy.length] := hF 25 (by decide)
  have e76 : u 76 = .int .i64 c7 := hF 26 (by decide)
  have e77 : u 77 = .agg #[.string (pk y), .int .i64 y.length] := hF 27 (by decide)
  have e78 : u 78 = .int .i64 y.length := hF 28 (by decide)
  have e79 : u 79 = .int .i64 mn := hF 29 (by decide)
  have e80 : u 80 = .int .i64 c7 := hF 30 (by decide)
  have e81 : u 81 = .bool false := hF 31 (by decide)
  have e82 : u 82 = .bool false := hF 32 (by decide)
  simp only [finU, Act.put, List.setIfInBounds_toArray, List.set_cons_succ, List.set_cons_zero, e50, e51, e52, e53, e54, e55, e56, e57, e58, e59, e60, e61, e62, e63, e64, e65, e66, e67, e68, e69, e70, e71, e72, e73, e74, e75, e76, e77, e78, e79, e80, e81, e82]
  clear hF e50 e51 e52 e53 e54 e55 e56 e57 e58 e59 e60 e61 e62 e63 e64 e65 e66 e67 e68 e69 e70 e71 e72 e73 e74 e75 e76 e77 e78 e79 e80 e81 e82
  have hB2 : Below w.heap.size w w7 := chain hB.drew hB.size hR.be
  have y_X : Blk w7 w4.heap.size 26 #[.string (pk x), .int .i64 x.length] := hR.old x_X.lt x_X
  have y_Y : Blk w7 (w4.heap.size + 1) 26 #[.string (pk y), .int .i64 y.length] := hR.old x_Y.lt x_Y
  have y_Z : Blk w7 (w4.heap.size + 1 + 1) 26 #[.string (pk z), .int .i64 z.length] := hR.old x_Z.lt x_Z
  have y_B : Blk w7 g10 26 #[.string (pk x), .int .i64 x.length] := hR.old x_B.lt x_B
  clear hB hR x_X x_Y x_Z x_B
  have hB := hB2
  clear hB2
  have x_X := y_X
  have x_Y := y_Y
  have x_Z := y_Z
  have x_B := y_B
  clear y_X y_Y y_Z y_B
  clear hmn2 Hmn Hst Hbg Hc7 Hyz Hxyz Hxyz2 Hxy
  go_wp2_with fail
  refine (of_1 _).mono ?_
  rintro e w8 ⟨rfl, hb8⟩
  have hB2 : Below w.heap.size w w8 := by first | exact chain0 hB hb8 | exact chain1 hB hb8 | exact chain2 hB hb8 | exact chain3 hB hb8
  clear hB
  have hB := hB2
  clear hB2
  have y_X : Blk w8 w4.heap.size 26 #[.string (pk x), .int .i64 x.length] := by first | exact x_X.keep hb8 | exact (x_X.alloc _).keep hb8 | exact ((x_X.alloc _).alloc _).keep hb8 | exact (((x_X.alloc _).alloc _).alloc _).keep hb8
  have y_Y : Blk w8 (w4.heap.size + 1) 26 #[.string (pk y), .int .i64 y.length] := by first | exact x_Y.keep hb8 | exact (x_Y.alloc _).keep hb8 | exact ((x_Y.alloc _).alloc _).keep hb8 | exact (((x_Y.alloc _).alloc _).alloc _).keep hb8
  have y_Z : Blk w8 (w4.heap.size + 1 + 1) 26 #[.string (pk z), .int .i64 z.length] := by first | exact x_Z.keep hb8 | exact (x_Z.alloc _).keep hb8 | exact ((x_Z.alloc _).alloc _).keep hb8 | exact (((x_Z.alloc _).alloc _).alloc _).keep hb8
  have y_B : Blk w8 g10 26 #[.string (pk x), .int .i64 x.length] := by first | exact x_B.keep hb8 | exact (x_B.alloc _).keep hb8 | exact ((x_B.alloc _).alloc _).keep hb8 | exact (((x_B.alloc _).alloc _).alloc _).keep hb8
  clear x_X x_Y x_Z x_B
  have x_X := y_X
  have x_Y := y_Y
  have x_Z := y_Z
  have x_B := y_B
  clear y_X y_Y y_Z y_B
  go_wp2_with fail
  obtain ⟨w9, hw9⟩ : ∃ W, W = w8.alloc (.cells #[.string ⟨#[128]⟩, .int .i64 1] 26) := ⟨_, rfl⟩
  have y_X : Blk w9 w4.heap.size 26 #[.string (pk x), .int .i64 x.length] := by rw [hw9]; exact x_X.alloc _
  have y_Y : Blk w9 (w4.heap.size + 1) 26 #[.string (pk y), .int .i64 y.length] := by rw [hw9]; exact x_Y.alloc _
  have y_Z : Blk w9 (w4.heap.size + 1 + 1) 26 #[.string (pk z), .int .i64 z.length] := by rw [hw9]; exact x_Z.alloc _
  have y_B : Blk w9 g10 26 #[.string (pk x), .int .i64 x.length] := by rw [hw9]; exact x_B.alloc _
  have y_O : Blk w9 w8.heap.size 26 #[.string ⟨#[128]⟩, .int .i64 1] := by rw [hw9]; exact Blk.new _ _ _
  have hB2 : Below w.heap.size w w9 := by rw [hw9]; exact hB.alloc hB.size _
  rw [← hw9]
  clear hB hw9 x_X x_Y x_Z x_B
  have hB := hB2
  clear hB2
  have x_X := y_X
  have x_Y := y_Y
  have x_Z := y_Z
  have x_B := y_B
  have x_O := y_O
  clear y_X y_Y y_Z y_B y_O
  obtain ⟨x1, hx1, hx1l⟩ : ∃ l, l = x ++ [true] ∧ l.length ≤ 400 := ⟨_, rfl, by simp; omega⟩
  obtain ⟨lo, hlo, hlol⟩ : ∃ l, l = x1 ++ y ∧ l.length ≤ 800 := ⟨_, rfl, by simp; omega⟩
  have hc11 : -1 = lexB x lo := by rw [hlo, hx1, List.append_assoc, lex_app, if_neg (by simp)]
  have hs11 : -1 = Lib.compareBytes (pkL x) (pkL lo) := by rw [hlo, hx1, pk_longer]
  have Hx1 := hide hx1
  have Hlo := hide hlo
  have Hc11 := hide hc11
  have Hs11 := hide hs11
  clear hx1 hlo hc11 hs11
  refine wp_region_facts (R := RB w9.heap.size (pk lo) (lo.length)) [eqF w9.heap.size (pk lo) (lo.length) 87 (.agg #[.string (pk x), .int .i64 x.length]), eqF w9.heap.size (pk lo) (lo.length) 88 (.agg #[.string ⟨#[128]⟩, .int .i64 1]), eqF w9.heap.size (pk lo) (lo.length) 89 (.agg #[.string (pk x1), .int .i64 x1.length]), eqF w9.heap.size (pk lo) (lo.length) 90 (.agg #[.string (pk y), .int .i64 y.length]), eqF w9.heap.size (pk lo) (lo.length) 91 (.agg #[.string (pk lo), .int .i64 lo.length]), newF w9.heap.size (pk lo) (lo.length) 14, putF w9.heap.size (pk lo) (lo.length) 14] (by kernel_rfl) (by kernel_rfl) (by kernel_rfl) (RB.refl (Nat.le_refl _)) (fun _ h => h.again) (fun _ _ _ h k => h.trans k) ?_ ?_
  · refine stepsU_cons rfl ?_ (stepsU_cons rfl ?_ (stepsU_cons rfl ?_ (stepsU_cons rfl ?_ (stepsU_cons rfl ?_ (stepsU_cons rfl ?_ (stepsU_cons rfl ?_ (stepsU_nil)))))))
    · refine stepU_plain rfl fun u wr hR hK hD => ?_; exact upon_loadB _ _ _ _ rfl (hK 7 rfl) (hR.old x_X.lt x_X) ⟨hR.again, rfl⟩
    · refine stepU_plain rfl fun u wr hR hK hD => ?_; exact upon_loadB _ _ _ _ rfl (hK 12 rfl) (hR.old x_O.lt x_O) ⟨hR.again, rfl⟩
    · refine stepU_plain rfl fun u wr hR hK hD => ?_; exact upon_call2 _ _ _ _ _ Try.func14 (by kernel_rfl) rfl (hD 0 rfl) (hD 1 rfl) ((and_is1 x x1 wr (by omega) Hx1.out).mono fun e wn ⟨he, hb⟩ => ⟨_, he, hR.next hb, rfl⟩)
    · refine stepU_plain rfl fun u wr hR hK hD => ?_; exact upon_loadB _ _ _ _ rfl (hK 8 rfl) (hR.old x_Y.lt x_Y) ⟨hR.again, rfl⟩
    · refine stepU_plain rfl fun u wr hR hK hD => ?_; exact upon_call2 _ _ _ _ _ Try.func14 (by kernel_rfl) rfl (hD 2 rfl) (hD 3 rfl) ((and_is x1 y lo wr (by omega) (by omega) Hlo.out).mono fun e wn ⟨he, hb⟩ => ⟨_, he, hR.next hb, rfl⟩)
    · refine stepU_plain rfl fun u wr hR hK hD => ?_; exact upon_allocB rfl ⟨hR.next ((Below.refl _ _).alloc (Nat.le_refl _) _), ⟨_, rfl, Nat.le_trans hR.hB hR.be.size, .inl (heap_alloc_new _ _)⟩⟩
    · refine stepU_plain rfl fun u wr hR hK hD => ?_; obtain ⟨g, hg, hgB, hbl⟩ := hD 5 rfl; exact upon_storeB _ _ g rfl hg hgB hbl (hD 4 rfl) (Nat.le_trans hR.hB hR.be.size) fun w2 hR2 hb2 => ⟨hR2, ⟨g, hg, hgB, hb2⟩⟩
  intro u w10 hR hF
  have e87 : u 87 = .agg #[.string (pk x), .int .i64 x.length] := hF 0 (by decide)
  have e88 : u 88 = .agg #[.string ⟨#[128]⟩, .int .i64 1] := hF 1 (by decide)
  have e89 : u 89 = .agg #[.string (pk x1), .int .i64 x1.length] := hF 2 (by decide)
  have e90 : u 90 = .agg #[.string (pk y), .int .i64 y.length] := hF 3 (by decide)
  have e91 : u 91 = .agg #[.string (pk lo), .int .i64 lo.length] := hF 4 (by decide)
  obtain ⟨g14, e14, hg14, x_g14⟩ := hF 6 (by decide)
  simp only [finU, Act.put, List.setIfInBounds_toArray, List.set_cons_succ, List.set_cons_zero, e87, e88, e89, e90, e91, e14]
  clear hF e87 e88 e89 e90 e91 e14
  have hB2 : Below w.heap.size w w10 := chain hB.drew hB.size hR.be
  have y_X : Blk w10 w4.heap.size 26 #[.string (pk x), .int .i64 x.length] := hR.old x_X.lt x_X
  have y_Y : Blk w10 (w4.heap.size + 1) 26 #[.string (pk y), .int .i64 y.length] := hR.old x_Y.lt x_Y
  have y_Z : Blk w10 (w4.heap.size + 1 + 1) 26 #[.string (pk z), .int .i64 z.length] := hR.old x_Z.lt x_Z
  have y_B : Blk w10 g10 26 #[.string (pk x), .int .i64 x.length] := hR.old x_B.lt x_B
  have y_O : Blk w10 w8.heap.size 26 #[.string ⟨#[128]⟩, .int .i64 1] := hR.old x_O.lt x_O
  clear hB hR x_X x_Y x_Z x_B x_O
  have hB := hB2
  clear hB2
  have x_X := y_X
  have x_Y := y_Y
  have x_Z := y_Z
  have x_B := y_B
  have x_O := y_O
  clear y_X y_Y y_Z y_B y_O
  clear Hx1 Hlo
  go_wp2_with fail
  refine wp_region_facts (R := RB w10.heap.size (⟨#[]⟩) (0)) [eqF w10.heap.size (⟨#[]⟩) (0) 92 (.agg #[.string (pk x), .int .i64 x.length]), eqF w10.heap.size (⟨#[]⟩) (0) 93 (.agg #[.string (pk lo), .int .i64 lo.length]), eqF w10.heap.size (⟨#[]⟩) (0) 94 (.int .i64 (-1)), eqF w10.heap.size (⟨#[]⟩) (0) 95 (.bool false), eqF w10.heap.size (⟨#[]⟩) (0) 96 (.bool false), eqF w10.heap.size (⟨#[]⟩) (0) 97 (.agg #[.string (pk x), .int .i64 x.length]), rdF w10.heap.size (⟨#[]⟩) (0) 98 (nb x.length) (pkL x), eqF w10.heap.size (⟨#[]⟩) (0) 99 (.agg #[.string (pk lo), .int .i64 lo.length]), rdF w10.heap.size (⟨#[]⟩) (0) 100 (nb lo.length) (pkL lo), eqF w10.heap.size (⟨#[]⟩) (0) 101 (.int .i64 (-1)), eqF w10.heap.size (⟨#[]⟩) (0) 102 (.bool false), eqF w10.heap.size (⟨#[]⟩) (0) 103 (.bool false)] (by kernel_rfl) (by kernel_rfl) (by kernel_rfl) (RB.refl (Nat.le_refl _)) (fun _ h => h.again) (fun _ _ _ h k => h.trans k) ?_ ?_
  · refine stepsU_cons rfl ?_ (stepsU_cons rfl ?_ (stepsU_cons rfl ?_ (stepsU_cons rfl ?_ (stepsU_cons rfl ?_ (stepsU_cons rfl ?_ (stepsU_cons rfl ?_ (stepsU_cons rfl ?_ (stepsU_cons rfl ?_ (stepsU_cons rfl ?_ (stepsU_cons rfl ?_ (stepsU_cons rfl ?_ (stepsU_nil))))))))))))
    · refine stepU_plain rfl fun u wr hR hK hD => ?_; exact upon_loadB _ _ _ _ rfl (hK 7 rfl) (hR.old x_X.lt x_X) ⟨hR.again, rfl⟩
    · refine stepU_plain rfl fun u wr hR hK hD => ?_; exact upon_loadB _ _ _ _ rfl (hK 14 rfl) (hR.old x_g14.lt x_g14) ⟨hR.again, rfl⟩
    · refine stepU_plain rfl fun u wr hR hK hD => ?_; exact upon_call2 _ _ _ _ _ Try.func31 (by kernel_rfl) rfl (hD 0 rfl) (hD 1 rfl) ((cmp_is x lo (-1) wr (by omega) (by omega) Hc11.out).mono fun e wn ⟨he, hb⟩ => ⟨_, he, hR.next hb, rfl⟩)
    · refine stepU_plain rfl fun u wr hR hK hD => ?_; have z94 : u 94 = _ := (hD 2 rfl); exact upon_val _ (by unfold execOp; simp [go_sem, evU, z94]) ⟨hR.again, rfl⟩
    · refine stepU_plain rfl fun u wr hR hK hD => ?_; exact upon_move _ _ rfl (hD 3 rfl) ⟨hR.again, rfl⟩
    · refine stepU_yes 4 96 false rfl rfl (fun u wr hK hD => hD 4 rfl) fun u wr hR hK hD => ?_; exact upon_loadB _ _ _ _ rfl (hK 7 rfl) (hR.old x_X.lt x_X) ⟨hR.again, rfl⟩
    · refine stepU_yes 4 96 false rfl rfl (fun u wr hK hD => hD 4 rfl) fun u wr hR hK hD => ?_; exact upon_call1 _ _ _ Try.func18 (by kernel_rfl) rfl (hD 5 rfl) ((pack_row x wr).mono fun e wn ⟨g, cap, he, hr, hb⟩ => ⟨_, he, hR.next hb, ⟨_, cap, rfl, hr⟩⟩)
    · refine stepU_yes 4 96 false rfl rfl (fun u wr hK hD => hD 4 rfl) fun u wr hR hK hD => ?_; exact upon_loadB _ _ _ _ rfl (hK 14 rfl) (hR.old x_g14.lt x_g14) ⟨hR.again, rfl⟩
    · refine stepU_yes 4 96 false rfl rfl (fun u wr hK hD => hD 4 rfl) fun u wr hR hK hD => ?_; exact upon_call1 _ _ _ Try.func18 (by kernel_rfl) rfl (hD 7 rfl) ((pack_row lo wr).mono fun e wn ⟨g, cap, he, hr, hb⟩ => ⟨_, he, hR.next hb, ⟨_, cap, rfl, hr⟩⟩)
    · refine stepU_yes 4 96 false rfl rfl (fun u wr hK hD => hD 4 rfl) fun u wr hR hK hD => ?_; obtain ⟨a, c, h1, h2⟩ := (hD 6 rfl); obtain ⟨b, d, k1, k2⟩ := (hD 8 rfl); exact upon_call2 _ _ _ _ _ Try.func35 (by kernel_rfl) rfl h1 k1 ((sign_is x lo a b c d (-1) wr h2 k2 (by omega) Hs11.out).mono fun e wn ⟨he, hb⟩ => ⟨_, he, hR.next hb, rfl⟩)
    · refine stepU_yes 4 96 false rfl rfl (fun u wr hK hD => hD 4 rfl) fun u wr hR hK hD => ?_; have z101 : u 101 = _ := (hD 9 rfl); exact upon_val _ (by unfold execOp; simp [go_sem, evU, z101]) ⟨hR.again, rfl⟩
    · refine stepU_plain rfl fun u wr hR hK hD => ?_; exact upon_pick _ _ _ _ _ rfl (hD 4 rfl) (by first | rfl | exact rfl | exact (hD 10 rfl)) ⟨hR.again, rfl⟩
  intro u w11 hR hF
  have e92 : u 92 = .agg #[.string (pk x), .int .i64 x.length] := hF 0 (by decide)
  have e93 : u 93 = .agg #[.string (pk lo), .int .i64 lo.length] := hF 1 (by decide)
  have e94 : u 94 = .int .i64 (-1) := hF 2 (by decide)
  have e95 : u 95 = .bool false := hF 3 (by decide)
  have e96 : u 96 = .bool false := hF 4 (by decide)
  have e97 : u 97 = .agg #[.string (pk x), .int .i64 x.length] := hF 5 (by decide)
  have e99 : u 99 = .agg #[.string (pk lo), .int .i64 lo.length] := hF 7 (by decide)
  have e101 : u 101 = .int .i64 (-1) := hF 9 (by decide)
  have e102 : u 102 = .bool false := hF 10 (by decide)
  have e103 : u 103 = .bool false := hF 11 (by decide)
  obtain ⟨a98, p98, e98, r98⟩ := hF 6 (by decide)
  obtain ⟨a100, p100, e100, r100⟩ := hF 8 (by decide)
  simp only [finU, Act.put, List.setIfInBounds_toArray, List.set_cons_succ, List.set_cons_zero, e92, e93, e94, e95, e96, e97, e98, e99, e100, e101, e102, e103]
  clear hF e92 e93 e94 e95 e96 e97 e98 e99 e100 e101 e102 e103
  have hB2 : Below w.heap.size w w11 := chain hB.drew hB.size hR.be
  have y_X : Blk w11 w4.heap.size 26 #[.string (pk x), .int .i64 x.length] := hR.old x_X.lt x_X
  have y_Y : Blk w11 (w4.heap.size + 1) 26 #[.string (pk y), .int .i64 y.length] := hR.old x_Y.lt x_Y
  have y_Z : Blk w11 (w4.heap.size + 1 + 1) 26 #[.string (pk z), .int .i64 z.length] := hR.old x_Z.lt x_Z
  have y_B : Blk w11 g10 26 #[.string (pk x), .int .i64 x.length] := hR.old x_B.lt x_B
  have y_O : Blk w11 w8.heap.size 26 #[.string ⟨#[128]⟩, .int .i64 1] := hR.old x_O.lt x_O
  have y_g14 : Blk w11 g14 26 #[.string (pk lo), .int .i64 (lo.length)] := hR.old x_g14.lt x_g14
  clear hB hR x_X x_Y x_Z x_B x_O x_g14
  have hB := hB2
  clear hB2
  have x_X := y_X
  have x_Y := y_Y
  have x_Z := y_Z
  have x_B := y_B
  have x_O := y_O
  have x_g14 := y_g14
  clear y_X y_Y y_Z y_B y_O y_g14
  clear Hc11 Hs11
  go_wp2_with fail
  obtain ⟨k, hk, hk2⟩ : ∃ k : Nat, (if y.length < x.length then (y.length : Int) else (x.length : Int)) = (k : Int) ∧ k = min x.length y.length := ⟨min x.length y.length, by split <;> omega, rfl⟩
  obtain ⟨ki, hki⟩ : ∃ i : Int, i = (k : Int) := ⟨_, rfl⟩
  rw [← hki] at hk
  obtain ⟨fx, hfx⟩ : ∃ l, l = x.take k := ⟨_, rfl⟩
  obtain ⟨fy, hfy⟩ : ∃ l, l = y.take k := ⟨_, rfl⟩
  have hfxl : fx.length ≤ 200 := by rw [hfx]; simp; omega
  have hfyl : fy.length ≤ 200 := by rw [hfy]; simp; omega
  have hkx : k ≤ x.length := by omega
  have hky : k ≤ y.length := by omega
  obtain ⟨q15, hq15⟩ : ∃ q, q = lexB fx fy := ⟨_, rfl⟩
  have hz15 : q15 = 0 ∨ lexB x y = Lib.compareBytes (pkL x) (pkL y) := by
    by_cases h : q15 = 0
    · exact .inl h
    · right
      refine pk_stand x y fun e => h ?_
      rw [hq15, hfx, hfy, hk2, e, lex_refl]
  obtain ⟨q17, hq17⟩ : ∃ q, q = lexB x y := ⟨_, rfl⟩
  rw [← hq17] at hz15
  have Hk := hide hk
  have Hk2 := hide hk2
  have Hki := hide hki
  have Hfx := hide hfx
  have Hfy := hide hfy
  have Hq15 := hide hq15
  have Hq17 := hide hq17
  have Hz15 := hide hz15
  clear hk hk2 hki hfx hfy hq15 hq17 hz15
  refine wp_region_facts (R := RB w11.heap.size (pk fx) (fx.length)) [eqF w11.heap.size (pk fx) (fx.length) 105 (.agg #[.string (pk x), .int .i64 x.length]), eqF w11.heap.size (pk fx) (fx.length) 106 (.agg #[.string (pk x), .int .i64 x.length]), eqF w11.heap.size (pk fx) (fx.length) 107 (.int .i64 x.length), eqF w11.heap.size (pk fx) (fx.length) 108 (.agg #[.string (pk y), .int .i64 y.length]), eqF w11.heap.size (pk fx) (fx.length) 109 (.int .i64 y.length), eqF w11.heap.size (pk fx) (fx.length) 110 (.int .i64 ki), eqF w11.heap.size (pk fx) (fx.length) 111 (.tuple #[.agg #[.string (pk fx), .int .i64 fx.length], .bool true]), eqF w11.heap.size (pk fx) (fx.length) 104 (.tuple #[.agg #[.string (pk fx), .int .i64 fx.length], .bool true]), eqF w11.heap.size (pk fx) (fx.length) 112 (.agg #[.string (pk fx), .int .i64 fx.length]), eqF w11.heap.size (pk fx) (fx.length) 113 (.bool true), newF w11.heap.size (pk fx) (fx.length) 15, putF w11.heap.size (pk fx) (fx.length) 15, eqF w11.heap.size (pk fx) (fx.length) 16 (.bool true)] (by kernel_rfl) (by kernel_rfl) (by kernel_rfl) (RB.refl (Nat.le_refl _)) (fun _ h => h.again) (fun _ _ _ h k => h.trans k) ?_ ?_
  · refine stepsU_cons rfl ?_ (stepsU_cons rfl ?_ (stepsU_cons rfl ?_ (stepsU_cons rfl ?_ (stepsU_cons rfl ?_ (stepsU_cons rfl ?_ (stepsU_cons rfl ?_ (stepsU_cons rfl ?_ (stepsU_cons rfl ?_ (stepsU_cons rfl ?_ (stepsU_cons rfl ?_ (stepsU_cons rfl ?_ (stepsU_cons rfl ?_ (stepsU_nil)))))))))))))
    · refine stepU_plain rfl fun u wr hR hK hD => ?_; exact upon_loadB _ _ _ _ rfl (hK 7 rfl) (hR.old x_X.lt x_X) ⟨hR.again, rfl⟩
    · refine stepU_plain rfl fun u wr hR hK hD => ?_; exact upon_loadB _ _ _ _ rfl (hK 7 rfl) (hR.old x_X.lt x_X) ⟨hR.again, rfl⟩
    · refine stepU_plain rfl fun u wr hR hK hD => ?_; exact upon_call1 _ _ _ Try.func13 (by kernel_rfl) rfl (hD 1 rfl) ((len_is x wr).mono fun e wn ⟨he, hb⟩ => ⟨_, he, hR.next hb, rfl⟩)
    · refine stepU_plain rfl fun u wr hR hK hD => ?_; exact upon_loadB _ _ _ _ rfl (hK 8 rfl) (hR.old x_Y.lt x_Y) ⟨hR.again, rfl⟩
    · refine stepU_plain rfl fun u wr hR hK hD => ?_; exact upon_call1 _ _ _ Try.func13 (by kernel_rfl) rfl (hD 3 rfl) ((len_is y wr).mono fun e wn ⟨he, hb⟩ => ⟨_, he, hR.next hb, rfl⟩)
    · refine stepU_plain rfl fun u wr hR hK hD => ?_; have z107 : u 107 = _ := (hD 2 rfl); have z109 : u 109 = _ := (hD 4 rfl); exact upon_val _ (by unfold execOp; simp [go_sem, evU, z107, z109, Hk.out]) ⟨hR.again, rfl⟩
    · refine stepU_plain rfl fun u wr hR hK hD => ?_; exact upon_call3 _ _ _ _ _ _ _ Try.func30 (by kernel_rfl) rfl (hD 0 rfl) rfl (hD 5 rfl) ((cut_is x fx ki k wr Hki.out (by omega) hkx Hfx.out).mono fun e wn ⟨he, hb⟩ => ⟨_, he, hR.next hb, rfl⟩)
    · refine stepU_plain rfl fun u wr hR hK hD => ?_; exact upon_move _ _ rfl (hD 6 rfl) ⟨hR.again, rfl⟩
    · refine stepU_plain rfl fun u wr hR hK hD => ?_; exact upon_extract _ 0 _ _ rfl (hD 7 rfl) rfl ⟨hR.again, rfl⟩
    · refine stepU_plain rfl fun u wr hR hK hD => ?_; exact upon_extract _ 1 _ _ rfl (hD 7 rfl) rfl ⟨hR.again, rfl⟩
    · refine stepU_plain rfl fun u wr hR hK hD => ?_; exact upon_allocB rfl ⟨hR.next ((Below.refl _ _).alloc (Nat.le_refl _) _), ⟨_, rfl, Nat.le_trans hR.hB hR.be.size, .inl (heap_alloc_new _ _)⟩⟩
    · refine stepU_plain rfl fun u wr hR hK hD => ?_; obtain ⟨g, hg, hgB, hbl⟩ := hD 10 rfl; exact upon_storeB _ _ g rfl hg hgB hbl (hD 8 rfl) (Nat.le_trans hR.hB hR.be.size) fun w2 hR2 hb2 => ⟨hR2, ⟨g, hg, hgB, hb2⟩⟩
    · refine stepU_plain rfl fun u wr hR hK hD => ?_; exact upon_assign _ _ rfl (hD 9 rfl) ⟨hR.again, rfl⟩
  intro u w12 hR hF
  have e105 : u 105 = .agg #[.string (pk x), .int .i64 x.length] := hF 0 (by decide)
  have e106 : u 106 = .agg #[.string (pk x), .int .i64 x.length] := hF 1 (by decide)
  have e107 : u 107 = .int .i64 x.length := hF 2 (by decide)
  have e108 : u 108 = .agg #[.string (pk y), .int .i64 y.length] := hF 3 (by decide)
  have e109 : u 109 = .int .i64 y.length := hF 4 (by decide)
  have e110 : u 110 = .int .i64 ki := hF 5 (by decide)
  have e111 : u 111 = .tuple #[.agg #[.string (pk fx), .int .i64 fx.length], .bool true] := hF 6 (by decide)
  have e104 : u 104 = .tuple #[.agg #[.string (pk fx), .int .i64 fx.length], .bool true] := hF 7 (by decide)
  have e112 : u 112 = .agg #[.string (pk fx), .int .i64 fx.length] := hF 8 (by decide)
  have e113 : u 113 = .bool true := hF 9 (by decide)
  have e16 : u 16 = .bool true := hF 12 (by decide)
  obtain ⟨g15, e15, hg15, x_g15⟩ := hF 11 (by decide)
  simp only [finU, Act.put, List.setIfInBounds_toArray, List.set_cons_succ, List.set_cons_zero, e105, e106, e107, e108, e109, e110, e111, e104, e112, e113, e15, e16]
  clear hF e105 e106 e107 e108 e109 e110 e111 e104 e112 e113 e15 e16
  have hB2 : Below w.heap.size w w12 := chain hB.drew hB.size hR.be
  have y_X : Blk w12 w4.heap.size 26 #[.string (pk x), .int .i64 x.length] := hR.old x_X.lt x_X
  have y_Y : Blk w12 (w4.heap.size + 1) 26 #[.string (pk y), .int .i64 y.length] := hR.old x_Y.lt x_Y
  have y_Z : Blk w12 (w4.heap.size + 1 + 1) 26 #[.string (pk z), .int .i64 z.length] := hR.old x_Z.lt x_Z
  have y_B : Blk w12 g10 26 #[.string (pk x), .int .i64 x.length] := hR.old x_B.lt x_B
  have y_O : Blk w12 w8.heap.size 26 #[.string ⟨#[128]⟩, .int .i64 1] := hR.old x_O.lt x_O
  have y_g14 : Blk w12 g14 26 #[.string (pk lo), .int .i64 (lo.length)] := hR.old x_g14.lt x_g14
  clear hB hR x_X x_Y x_Z x_B x_O x_g14
  have hB := hB2
  clear hB2
  have x_X := y_X
  have x_Y := y_Y
  have x_Z := y_Z
  have x_B := y_B
  have x_O := y_O
  have x_g14 := y_g14
  clear y_X y_Y y_Z y_B y_O y_g14
  go_wp2_with fail
  refine wp_region_facts (R := RB w12.heap.size (pk fy) (fy.length)) [eqF w12.heap.size (pk fy) (fy.length) 115 (.agg #[.string (pk y), .int .i64 y.length]), eqF w12.heap.size (pk fy) (fy.length) 116 (.agg #[.string (pk x), .int .i64 x.length]), eqF w12.heap.size (pk fy) (fy.length) 117 (.int .i64 x.length), eqF w12.heap.size (pk fy) (fy.length) 118 (.agg #[.string (pk y), .int .i64 y.length]), eqF w12.heap.size (pk fy) (fy.length) 119 (.int .i64 y.length), eqF w12.heap.size (pk fy) (fy.length) 120 (.int .i64 ki), eqF w12.heap.size (pk fy) (fy.length) 121 (.tuple #[.agg #[.string (pk fy), .int .i64 fy.length], .bool true]), eqF w12.heap.size (pk fy) (fy.length) 114 (.tuple #[.agg #[.string (pk fy), .int .i64 fy.length], .bool true]), eqF w12.heap.size (pk fy) (fy.length) 122 (.agg #[.string (pk fy), .int .i64 fy.length]), eqF w12.heap.size (pk fy) (fy.length) 123 (.bool true), newF w12.heap.size (pk fy) (fy.length) 17, putF w12.heap.size (pk fy) (fy.length) 17, eqF w12.heap.size (pk fy) (fy.length) 18 (.bool true)] (by kernel_rfl) (by kernel_rfl) (by kernel_rfl) (RB.refl (Nat.le_refl _)) (fun _ h => h.again) (fun _ _ _ h k => h.trans k) ?_ ?_
  · refine stepsU_cons rfl ?_ (stepsU_cons rfl ?_ (stepsU_cons rfl ?_ (stepsU_cons rfl ?_ (stepsU_cons rfl ?_ (stepsU_cons rfl ?_ (stepsU_cons rfl ?_ (stepsU_cons rfl ?_ (stepsU_cons rfl ?_ (stepsU_cons rfl ?_ (stepsU_cons rfl ?_ (stepsU_cons rfl ?_ (stepsU_cons rfl ?_ (stepsU_nil)))))))))))))
    · refine stepU_plain rfl fun u wr hR hK hD => ?_; exact upon_loadB _ _ _ _ rfl (hK 8 rfl) (hR.old x_Y.lt x_Y) ⟨hR.again, rfl⟩
    · refine stepU_plain rfl fun u wr hR hK hD => ?_; exact upon_loadB _ _ _ _ rfl (hK 7 rfl) (hR.old x_X.lt x_X) ⟨hR.again, rfl⟩
    · refine stepU_plain rfl fun u wr hR hK hD => ?_; exact upon_call1 _ _ _ Try.func13 (by kernel_rfl) rfl (hD 1 rfl) ((len_is x wr).mono fun e wn ⟨he, hb⟩ => ⟨_, he, hR.next hb, rfl⟩)
    · refine stepU_plain rfl fun u wr hR hK hD => ?_; exact upon_loadB _ _ _ _ rfl (hK 8 rfl) (hR.old x_Y.lt x_Y) ⟨hR.again, rfl⟩
    · refine stepU_plain rfl fun u wr hR hK hD => ?_; exact upon_call1 _ _ _ Try.func13 (by kernel_rfl) rfl (hD 3 rfl) ((len_is y wr).mono fun e wn ⟨he, hb⟩ => ⟨_, he, hR.next hb, rfl⟩)
    · refine stepU_plain rfl fun u wr hR hK hD => ?_; have z117 : u 117 = _ := (hD 2 rfl); have z119 : u 119 = _ := (hD 4 rfl); exact upon_val _ (by unfold execOp; simp [go_sem, evU, z117, z119, Hk.out]) ⟨hR.again, rfl⟩
    · refine stepU_plain rfl fun u wr hR hK hD => ?_; exact upon_call3 _ _ _ _ _ _ _ Try.func30 (by kernel_rfl) rfl (hD 0 rfl) rfl (hD 5 rfl) ((cut_is y fy ki k wr Hki.out (by omega) hky Hfy.out).mono fun e wn ⟨he, hb⟩ => ⟨_, he, hR.next hb, rfl⟩)
    · refine stepU_plain rfl fun u wr hR hK hD => ?_; exact upon_move _ _ rfl (hD 6 rfl) ⟨hR.again, rfl⟩
    · refine stepU_plain rfl fun u wr hR hK hD => ?_; exact upon_extract _ 0 _ _ rfl (hD 7 rfl) rfl ⟨hR.again, rfl⟩
    · refine stepU_plain rfl fun u wr hR hK hD => ?_; exact upon_extract _ 1 _ _ rfl (hD 7 rfl) rfl ⟨hR.again, rfl⟩
    · refine stepU_plain rfl fun u wr hR hK hD => ?_; exact upon_allocB rfl ⟨hR.next ((Below.refl _ _).alloc (Nat.le_refl _) _), ⟨_, rfl, Nat.le_trans hR.hB hR.be.size, .inl (heap_alloc_new _ _)⟩⟩
    · refine stepU_plain rfl fun u wr hR hK hD => ?_; obtain ⟨g, hg, hgB, hbl⟩ := hD 10 rfl; exact upon_storeB _ _ g rfl hg hgB hbl (hD 8 rfl) (Nat.le_trans hR.hB hR.be.size) fun w2 hR2 hb2 => ⟨hR2, ⟨g, hg, hgB, hb2⟩⟩
    · refine stepU_plain rfl fun u wr hR hK hD => ?_; exact upon_assign _ _ rfl (hD 9 rfl) ⟨hR.again, rfl⟩
  intro u w13 hR hF
  have e115 : u 115 = .agg #[.string (pk y), .int .i64 y.length] := hF 0 (by decide)
  have e116 : u 116 = .agg #[.string (pk x), .int .i64 x.length] := hF 1 (by decide)
  have e117 : u 117 = .int .i64 x.length := hF 2 (by decide)
  have e118 : u 118 = .agg #[.string (pk y), .int .i64 y.length] := hF 3 (by decide)
  have e119 : u 119 = .int .i64 y.length := hF 4 (by decide)
  have e120 : u 120 = .int .i64 ki := hF 5 (by decide)
  have e121 : u 121 = .tuple #[.agg #[.string (pk fy), .int .i64 fy.length], .bool true] := hF 6 (by decide)
  have e114 : u 114 = .tuple #[.agg #[.string (pk fy), .int .i64 fy.length], .bool true] := hF 7 (by decide)
  have e122 : u 122 = .agg #[.string (pk fy), .int .i64 fy.length] := hF 8 (by decide)
  have e123 : u 123 = .bool true := hF 9 (by decide)
  have e18 : u 18 = .bool true := hF 12 (by decide)
  obtain ⟨g17, e17, hg17, x_g17⟩ := hF 11 (by decide)
  simp only [finU, Act.put, List.setIfInBounds_toArray, List.set_cons_succ, List.set_cons_zero, e115, e116, e117, e118, e119, e120, e121, e114, e122, e123, e17, e18]
  clear hF e115 e116 e117 e118 e119 e120 e121 e114 e122 e123 e17 e18
  have hB2 : Below w.heap.size w w13 := chain hB.drew hB.size hR.be
  have y_X : Blk w13 w4.heap.size 26 #[.string (pk x), .int .i64 x.length] := hR.old x_X.lt x_X
  have y_Y : Blk w13 (w4.heap.size + 1) 26 #[.string (pk y), .int .i64 y.length] := hR.old x_Y.lt x_Y
  have y_Z : Blk w13 (w4.heap.size + 1 + 1) 26 #[.string (pk z), .int .i64 z.length] := hR.old x_Z.lt x_Z
  have y_B : Blk w13 g10 26 #[.string (pk x), .int .i64 x.length] := hR.old x_B.lt x_B
  have y_O : Blk w13 w8.heap.size 26 #[.string ⟨#[128]⟩, .int .i64 1] := hR.old x_O.lt x_O
  have y_g14 : Blk w13 g14 26 #[.string (pk lo), .int .i64 (lo.length)] := hR.old x_g14.lt x_g14
  have y_g15 : Blk w13 g15 26 #[.string (pk fx), .int .i64 (fx.length)] := hR.old x_g15.lt x_g15
  clear hB hR x_X x_Y x_Z x_B x_O x_g14 x_g15
  have hB := hB2
  clear hB2
  have x_X := y_X
  have x_Y := y_Y
  have x_Z := y_Z
  have x_B := y_B
  have x_O := y_O
  have x_g14 := y_g14
  have x_g15 := y_g15
  clear y_X y_Y y_Z y_B y_O y_g14 y_g15
  have c_X0_0 := x_X.cell 0
  have c_X1_0 := x_X.cell 1
  have c_Y0_0 := x_Y.cell 0
  have c_Y1_0 := x_Y.cell 1
  have c_Z0_0 := x_Z.cell 0
  have c_Z1_0 := x_Z.cell 1
  have c_B0_0 := x_B.cell 0
  have c_B1_0 := x_B.cell 1
  have c_O0_0 := x_O.cell 0
  have c_O1_0 := x_O.cell 1
  have c_g140_0 := x_g14.cell 0
  have c_g141_0 := x_g14.cell 1
  have c_g150_0 := x_g15.cell 0
  have c_g151_0 := x_g15.cell 1
  have c_g170_0 := x_g17.cell 0
  have c_g171_0 := x_g17.cell 1
  simp only [List.getElem?_toArray, List.getElem?_cons_zero, List.getElem?_cons_succ] at c_X0_0 c_X1_0 c_Y0_0 c_Y1_0 c_Z0_0 c_Z1_0 c_B0_0 c_B1_0 c_O0_0 c_O1_0 c_g140_0 c_g141_0 c_g150_0 c_g151_0 c_g170_0 c_g171_0
  go_wp2_with fail
  refine (cmp_is fx fy q15 _ (by omega) (by omega) Hq15.out).mono ?_
  rintro e w14 ⟨rfl, hb14⟩
  have hB2 : Below w.heap.size w w14 := by first | exact chain0 hB hb14 | exact chain1 hB hb14 | exact chain2 hB hb14 | exact chain3 hB hb14
  clear hB
  have hB := hB2
  clear hB2
  have y_X : Blk w14 w4.heap.size 26 #[.string (pk x), .int .i64 x.length] := by first | exact x_X.keep hb14 | exact (x_X.alloc _).keep hb14 | exact ((x_X.alloc _).alloc _).keep hb14 | exact (((x_X.alloc _).alloc _).alloc _).keep hb14
  have y_Y : Blk w14 (w4.heap.size + 1) 26 #[.string (pk y), .int .i64 y.length] := by first | exact x_Y.keep hb14 | exact (x_Y.alloc _).keep hb14 | exact ((x_Y.alloc _).alloc _).keep hb14 | exact (((x_Y.alloc _).alloc _).alloc _).keep hb14
  have y_Z : Blk w14 (w4.heap.size + 1 + 1) 26 #[.string (pk z), .int .i64 z.length] := by first | exact x_Z.keep hb14 | exact (x_Z.alloc _).keep hb14 | exact ((x_Z.alloc _).alloc _).keep hb14 | exact (((x_Z.alloc _).alloc _).alloc _).keep hb14
  have y_B : Blk w14 g10 26 #[.string (pk x), .int .i64 x.length] := by first | exact x_B.keep hb14 | exact (x_B.alloc _).keep hb14 | exact ((x_B.alloc _).alloc _).keep hb14 | exact (((x_B.alloc _).alloc _).alloc _).keep hb14
  have y_O : Blk w14 w8.heap.size 26 #[.string ⟨#[128]⟩, .int .i64 1] := by first | exact x_O.keep hb14 | exact (x_O.alloc _).keep hb14 | exact ((x_O.alloc _).alloc _).keep hb14 | exact (((x_O.alloc _).alloc _).alloc _).keep hb14
  have y_g14 : Blk w14 g14 26 #[.string (pk lo), .int .i64 (lo.length)] := by first | exact x_g14.keep hb14 | exact (x_g14.alloc _).keep hb14 | exact ((x_g14.alloc _).alloc _).keep hb14 | exact (((x_g14.alloc _).alloc _).alloc _).keep hb14
  have y_g15 : Blk w14 g15 26 #[.string (pk fx), .int .i64 (fx.length)] := by first | exact x_g15.keep hb14 | exact (x_g15.alloc _).keep hb14 | exact ((x_g15.alloc _).alloc _).keep hb14 | exact (((x_g15.alloc _).alloc _).alloc _).keep hb14
  have y_g17 : Blk w14 g17 26 #[.string (pk fy), .int .i64 (fy.length)] := by first | exact x_g17.keep hb14 | exact (x_g17.alloc _).keep hb14 | exact ((x_g17.alloc _).alloc _).keep hb14 | exact (((x_g17.alloc _).alloc _).alloc _).keep hb14
  clear x_X x_Y x_Z x_B x_O x_g14 x_g15 x_g17
  have x_X := y_X
  have x_Y := y_Y
  have x_Z := y_Z
  have x_B := y_B
  have x_O := y_O
  have x_g14 := y_g14
  have x_g15 := y_g15
  have x_g17 := y_g17
  clear y_X y_Y y_Z y_B y_O y_g14 y_g15 y_g17
  rcases Hz15.out with h0 | h1
  · subst h0
    go_wp2
    go_ret
    exact ⟨rfl, hB⟩
  · have hs : q17 = Lib.compareBytes (pkL x) (pkL y) := h1
    have Hs := hide hs
    clear h1 hs
    by_cases h0 : q15 = 0
    · subst h0
      go_wp2
      go_ret
      exact ⟨rfl, hB⟩
    · have hne : (q15 == 0) = false := by simpa using h0
      clear h0
      go_wp2_with fail
      refine wp_region_facts (R := RB w14.heap.size (⟨#[]⟩) (0)) [eqF w14.heap.size (⟨#[]⟩) (0) 128 (.agg #[.string (pk x), .int .i64 x.length]), eqF w14.heap.size (⟨#[]⟩) (0) 129 (.agg #[.string (pk y), .int .i64 y.length]), eqF w14.heap.size (⟨#[]⟩) (0) 130 (.int .i64 q17), eqF w14.heap.size (⟨#[]⟩) (0) 131 (.agg #[.string (pk x), .int .i64 x.length]), rdF w14.heap.size (⟨#[]⟩) (0) 132 (nb x.length) (pkL x), eqF w14.heap.size (⟨#[]⟩) (0) 133 (.agg #[.string (pk y), .int .i64 y.length]), rdF w14.heap.size (⟨#[]⟩) (0) 134 (nb y.length) (pkL y), eqF w14.heap.size (⟨#[]⟩) (0) 135 (.int .i64 q17), eqF w14.heap.size (⟨#[]⟩) (0) 136 (.bool true), eqF w14.heap.size (⟨#[]⟩) (0) 6 (.bool true)] (by kernel_rfl) (by kernel_rfl) (by kernel_rfl) (RB.refl (Nat.le_refl _)) (fun _ h => h.again) (fun _ _ _ h k => h.trans k) ?_ ?_
      · refine stepsU_cons rfl ?_ (stepsU_cons rfl ?_ (stepsU_cons rfl ?_ (stepsU_cons rfl ?_ (stepsU_cons rfl ?_ (stepsU_cons rfl ?_ (stepsU_cons rfl ?_ (stepsU_cons rfl ?_ (stepsU_cons rfl ?_ (stepsU_cons rfl ?_ (stepsU_nil))))))))))
        · refine stepU_plain rfl fun u wr hR hK hD => ?_; exact upon_loadB _ _ _ _ rfl (hK 7 rfl) (hR.old x_X.lt x_X) ⟨hR.again, rfl⟩
        · refine stepU_plain rfl fun u wr hR hK hD => ?_; exact upon_loadB _ _ _ _ rfl (hK 8 rfl) (hR.old x_Y.lt x_Y) ⟨hR.again, rfl⟩
        · refine stepU_plain rfl fun u wr hR hK hD => ?_; exact upon_call2 _ _ _ _ _ Try.func31 (by kernel_rfl) rfl (hD 0 rfl) (hD 1 rfl) ((cmp_is x y q17 wr (by omega) (by omega) Hq17.out).mono fun e wn ⟨he, hb⟩ => ⟨_, he, hR.next hb, rfl⟩)
        · refine stepU_plain rfl fun u wr hR hK hD => ?_; exact upon_loadB _ _ _ _ rfl (hK 7 rfl) (hR.old x_X.lt x_X) ⟨hR.again, rfl⟩
        · refine stepU_plain rfl fun u wr hR hK hD => ?_; exact upon_call1 _ _ _ Try.func18 (by kernel_rfl) rfl (hD 3 rfl) ((pack_row x wr).mono fun e wn ⟨g, cap, he, hr, hb⟩ => ⟨_, he, hR.next hb, ⟨_, cap, rfl, hr⟩⟩)
        · refine stepU_plain rfl fun u wr hR hK hD => ?_; exact upon_loadB _ _ _ _ rfl (hK 8 rfl) (hR.old x_Y.lt x_Y) ⟨hR.again, rfl⟩
        · refine stepU_plain rfl fun u wr hR hK hD => ?_; exact upon_call1 _ _ _ Try.func18 (by kernel_rfl) rfl (hD 5 rfl) ((pack_row y wr).mono fun e wn ⟨g, cap, he, hr, hb⟩ => ⟨_, he, hR.next hb, ⟨_, cap, rfl, hr⟩⟩)
        · refine stepU_plain rfl fun u wr hR hK hD => ?_; obtain ⟨a, c, h1, h2⟩ := (hD 4 rfl); obtain ⟨b, d, k1, k2⟩ := (hD 6 rfl); exact upon_call2 _ _ _ _ _ Try.func35 (by kernel_rfl) rfl h1 k1 ((sign_is x y a b c d q17 wr h2 k2 (by omega) Hs.out).mono fun e wn ⟨he, hb⟩ => ⟨_, he, hR.next hb, rfl⟩)
        · refine stepU_plain rfl fun u wr hR hK hD => ?_; have z130 : u 130 = _ := (hD 2 rfl); have z135 : u 135 = _ := (hD 7 rfl); exact upon_val _ (by unfold execOp; simp [go_sem, evU, z130, z135]) ⟨hR.again, rfl⟩
        · refine stepU_plain rfl fun u wr hR hK hD => ?_; exact upon_assign _ _ rfl (hD 8 rfl) ⟨hR.again, rfl⟩
      intro u w15 hR hF
      have e128 : u 128 = .agg #[.string (pk x), .int .i64 x.length] := hF 0 (by decide)
      have e129 : u 129 = .agg #[.string (pk y), .int .i64 y.length] := hF 1 (by decide)
      have e130 : u 130 = .int .i64 q17 := hF 2 (by decide)
      have e131 : u 131 = .agg #[.string (pk x), .int .i64 x.length] := hF 3 (by decide)
      have e133 : u 133 = .agg #[.string (pk y), .int .i64 y.length] := hF 5 (by decide)
      have e135 : u 135 = .int .i64 q17 := hF 7 (by decide)
      have e136 : u 136 = .bool true := hF 8 (by decide)
      have e6 : u 6 = .bool true := hF 9 (by decide)
      obtain ⟨a132, p132, e132, r132⟩ := hF 4 (by decide)
      obtain ⟨a134, p134, e134, r134⟩ := hF 6 (by decide)
      simp only [finU, Act.put, List.setIfInBounds_toArray, List.set_cons_succ, List.set_cons_zero, e128, e129, e130, e131, e132, e133, e134, e135, e136, e6]
      clear hF e128 e129 e130 e131 e132 e133 e134 e135 e136 e6
      have hB2 : Below w.heap.size w w15 := chain hB.drew hB.size hR.be
      have y_X : Blk w15 w4.heap.size 26 #[.string (pk x), .int .i64 x.length] := hR.old x_X.lt x_X
      have y_Y : Blk w15 (w4.heap.size + 1) 26 #[.string (pk y), .int .i64 y.length] := hR.old x_Y.lt x_Y
      have y_Z : Blk w15 (w4.heap.size + 1 + 1) 26 #[.string (pk z), .int .i64 z.length] := hR.old x_Z.lt x_Z
      have y_B : Blk w15 g10 26 #[.string (pk x), .int .i64 x.length] := hR.old x_B.lt x_B
      have y_O : Blk w15 w8.heap.size 26 #[.string ⟨#[128]⟩, .int .i64 1] := hR.old x_O.lt x_O
      have y_g14 : Blk w15 g14 26 #[.string (pk lo), .int .i64 (lo.length)] := hR.old x_g14.lt x_g14
      have y_g15 : Blk w15 g15 26 #[.string (pk fx), .int .i64 (fx.length)] := hR.old x_g15.lt x_g15
      have y_g17 : Blk w15 g17 26 #[.string (pk fy), .int .i64 (fy.length)] := hR.old x_g17.lt x_g17
      clear hB hR x_X x_Y x_Z x_B x_O x_g14 x_g15 x_g17
      have hB := hB2
      clear hB2
      have x_X := y_X
      have x_Y := y_Y
      have x_Z := y_Z
      have x_B := y_B
      have x_O := y_O
      have x_g14 := y_g14
      have x_g15 := y_g15
      have x_g17 := y_g17
      clear y_X y_Y y_Z y_B y_O y_g14 y_g15 y_g17
      go_wp2
      go_ret
      exact ⟨rfl, hB⟩
end Go.Proofs.Ytafcphnafgfgkaa

