/- value.Compare at what awake asks. One item, alone. value.made. value.Arith at two single items. Texts of items; texts put together; value.substring at plain text. Items alone, in blocks of their own (str, whole, truth); texts put together (joined). Rows that functions hand out, and whether they lie apart. -/
import Derived.Test.YtmhnndgnnpondaaGreatDoorC04
import Derived.Test.YtmhnndgnnpondaaGreatDoorC12
import Derived.Test.YtmhnndgnnpondaaGreatDoorC01
import Derived.Test.YtmhnndgnnpondaaGreatDoorHk
namespace Go.Proofs.YtmhnndgnnpondaaGreatDoor
set_option maxRecDepth 100000
set_option maxHeartbeats 4000000
open Go.RowKit
theorem RdI.z {w : World} {g : Nat} {l : List It} (h : RdI w (some ⟨g, 0, none⟩) l) (i : Nat) (x : It) (hx : l[i]? = some x) :
  w.cell? ⟨g, i * 4, none⟩ = some (.int .u8 x.kind) ∧ w.cell? ⟨g, i * 4 + 1, none⟩ = some (.int .i64 x.num) ∧ w.cell? ⟨g, i * 4 + 2, none⟩ = some (.string x.text) ∧ w.cell? ⟨g, i * 4 + 3, none⟩ = some (.int .i64 x.node) := by
 obtain ⟨b, off, e, h0, h1, h2, h3⟩ := h.at i x hx
 injection e with e
 injection e with e1 e2
 subst e1 e2
 rw [Nat.zero_add] at h0 h1 h2 h3
 exact ⟨h0, h1, h2, h3⟩
theorem RdI.z0 {w : World} {g : Nat} {l : List It} (h : RdI w (some ⟨g, 0, none⟩) l) (x : It) (hx : l[0]? = some x) :
  w.cell? ⟨g, 0, none⟩ = some (.int .u8 x.kind) ∧ w.cell? ⟨g, 1, none⟩ = some (.int .i64 x.num) ∧ w.cell? ⟨g, 2, none⟩ = some (.string x.text) ∧ w.cell? ⟨g, 3, none⟩ = some (.int .i64 x.node) := h.z 0 x hx
theorem RdI.z1 {w : World} {g : Nat} {l : List It} (h : RdI w (some ⟨g, 0, none⟩) l) (x : It) (hx : l[1]? = some x) :
  w.cell? ⟨g, 4, none⟩ = some (.int .u8 x.kind) ∧ w.cell? ⟨g, 5, none⟩ = some (.int .i64 x.num) ∧ w.cell? ⟨g, 6, none⟩ = some (.string x.text) ∧ w.cell? ⟨g, 7, none⟩ = some (.int .i64 x.node) := h.z 1 x hx
theorem ix_item0 (g n c : Nat) (h : 0 < n) (W : World) : (Instr.indexAt 22 (.slice (some ⟨g, 0, none⟩) n c) (.int .i64 0)).run Tryz.prog W = .ok (.pointer (some ⟨g, 0, none⟩)) W := ix_item g 0 n c 0 h W
theorem ix_item1 (g n c : Nat) (h : 1 < n) (W : World) : (Instr.indexAt 22 (.slice (some ⟨g, 0, none⟩) n c) (.int .i64 1)).run Tryz.prog W = .ok (.pointer (some ⟨g, 4, none⟩)) W := ix_item g 0 n c 1 h W
theorem ascii_two : Ascii ⟨#[50]⟩ := by unfold Ascii; decide
theorem ascii_x : Ascii ⟨#[120]⟩ := by unfold Ascii; decide
theorem le8_one {a : UInt8} : (ByteArray.mk #[a]).size ≤ 8 := by simp [ByteArray.size]
theorem right_two (g1 g2 c1 c2 : Nat) (l1 l2 : List It) (W : World) (h1 : RdI W (some ⟨g1, 0, none⟩) l1) (h2 : RdI W (some ⟨g2, 0, none⟩) l2) (k1 : ∀ y ∈ l1, Good y) (k2 : ∀ y ∈ l2, Good y) (n1 : l1.length ≤ 8) (n2 : l2.length ≤ 8) (m1 m2 : Nat) (e1 : m1 = l1.length) (e2 : m2 = l2.length) :
  Calls Tryz.prog 26 #[.slice (some ⟨W.heap.size, 0, none⟩) 2 2] (W.alloc (.cells #[.slice (some ⟨g1, 0, none⟩) m1 c1, .slice (some ⟨g2, 0, none⟩) m2 c2] 22)) fun e w' => e = .returned (.bool true) ∧ Below W.heap.size W w' := by
 subst e1 e2
 refine (right_ok (some ⟨W.heap.size, 0, none⟩) 2 2 [⟨some ⟨g1, 0, none⟩, l1, c1⟩, ⟨some ⟨g2, 0, none⟩, l2, c2⟩] _ rfl (by decide) (Rd.new W 22 [.slice (some ⟨g1, 0, none⟩) l1.length c1, .slice (some ⟨g2, 0, none⟩) l2.length c2]) ?_).mono ?_
 ·intro x hx
  simp only [List.mem_cons, List.not_mem_nil, or_false] at hx
  rcases hx with rfl | rfl
  ·exact ⟨h1.alloc _, k1, n1⟩
  ·exact ⟨h2.alloc _, k2, n2⟩
 ·rintro e w' ⟨rfl, hb⟩
  exact ⟨rfl, chain1 (Below.refl _ _) hb⟩
theorem right_one (g1 c1 : Nat) (l1 : List It) (W : World) (h1 : RdI W (some ⟨g1, 0, none⟩) l1) (k1 : ∀ y ∈ l1, Good y) (n1 : l1.length ≤ 8) (m1 : Nat) (e1 : m1 = l1.length) :
  Calls Tryz.prog 26 #[.slice (some ⟨W.heap.size, 0, none⟩) 1 1] (W.alloc (.cells #[.slice (some ⟨g1, 0, none⟩) m1 c1] 22)) fun e w' => e = .returned (.bool true) ∧ Below W.heap.size W w' := by
 subst e1
 refine (right_ok (some ⟨W.heap.size, 0, none⟩) 1 1 [⟨some ⟨g1, 0, none⟩, l1, c1⟩] _ rfl (by decide) (Rd.new W 22 [.slice (some ⟨g1, 0, none⟩) l1.length c1]) ?_).mono ?_
 ·intro x hx
  simp only [List.mem_cons, List.not_mem_nil, or_false] at hx
  subst hx
  exact ⟨h1.alloc _, k1, n1⟩
 ·rintro e w' ⟨rfl, hb⟩
  exact ⟨rfl, chain1 (Below.refl _ _) hb⟩
def xEq1 : List It := [⟨2, 1, ⟨#[]⟩, 0⟩, ⟨1, 0, ⟨#[50]⟩, 3⟩]
def xEq2 : List It := [⟨3, 0, ⟨#[50]⟩, 0⟩]
def xLt2 : List It := [⟨3, 0, ⟨#[120]⟩, 0⟩]
def xOne : List It := [⟨2, 1, ⟨#[]⟩, 0⟩]
theorem compare_eq (g1 g2 c1 c2 : Nat) (w : World) (h1 : RdI w (some ⟨g1, 0, none⟩) xEq1) (h2 : RdI w (some ⟨g2, 0, none⟩) xEq2) :
  Calls Tryz.prog 19 #[.string ⟨#[61]⟩, .slice (some ⟨g1, 0, none⟩) 2 c1, .slice (some ⟨g2, 0, none⟩) 1 c2] w fun e w' => e = .returned (.tuple #[.bool true, .int .i64 0]) ∧ Below w.heap.size w w' := by
 have k1 : ∀ y ∈ xEq1, Good y := by
  intro y hy
  simp only [xEq1, List.mem_cons, List.not_mem_nil, or_false] at hy
  rcases hy with rfl | rfl
  ·exact .int 1
  ·exact .node ⟨#[50]⟩ 3 ascii_two le8_one
 have k2 : ∀ y ∈ xEq2, Good y := by
  intro y hy
  simp only [xEq2, List.mem_cons, List.not_mem_nil, or_false] at hy
  subst hy
  exact .str ⟨#[50]⟩ ascii_two le8_one
 have H1 := hide h1
 have H2 := hide h2
 clear h1 h2
 have i10 := ix_item0 g1 2 c1 (by decide)
 have i11 := ix_item1 g1 2 c1 (by decide)
 have i20 := ix_item0 g2 1 c2 (by decide)
 go_enter Tryz.func19, Tryz.ntmps19
 go_wp2_with fail
 refine (holds_eq 0 true w rfl).mono ?_
 rintro e w1 ⟨rfl, rfl⟩
 go_wp2_with fail
 refine (right_two g1 g2 c1 c2 xEq1 xEq2 w H1.out H2.out k1 k2 (by decide) (by decide) 2 1 rfl rfl).mono ?_
 rintro e w1 ⟨rfl, hb1⟩
 obtain ⟨a_0, a_1, a_2, a_3⟩ := (H1.out.keep hb1).z0 _ rfl
 obtain ⟨b_0, b_1, b_2, b_3⟩ := ((H2.out.keep hb1).alloc (.cells #[.int .u8 2, .int .i64 1, .string ⟨#[]⟩, .int .i64 0] 31)).z0 _ rfl
 go_wp2_with fail
 refine wp_loop_rounds 3 ?_
 rw [rounds_succ]
 go_wp2_with fail
 refine wp_loop_rounds 3 ?_
 rw [rounds_succ]
 go_wp2_with fail
 refine (order_one_two 1 _).mono ?_
 rintro e w2 ⟨rfl, hb2⟩
 have hB2 := chain0 hb1 (chain2 (Below.refl _ _) hb2)
 have hc2 : cmpInt 1 2 = -1 := rfl
 simp only [hc2]
 clear hb2 a_0 a_1 a_2 a_3 b_0 b_1 b_2 b_3
 go_wp2_with fail
 refine (holds_eq (-1) false w2 rfl).mono ?_
 rintro e w3 ⟨rfl, rfl⟩
 go_wp2_with fail
 rw [rounds_succ]
 go_wp2_with fail
 rw [rounds_succ]
 obtain ⟨a_0, a_1, a_2, a_3⟩ := (H1.out.keep hB2).z1 _ rfl
 obtain ⟨b_0, b_1, b_2, b_3⟩ := ((H2.out.keep hB2).alloc (.cells #[.int .u8 1, .int .i64 0, .string ⟨#[50]⟩, .int .i64 3] 31)).z0 _ rfl
 go_wp2_with fail
 refine wp_loop_rounds 3 ?_
 rw [rounds_succ]
 go_wp2_with fail
 refine (order_node_two 3 _).mono ?_
 rintro e w3 ⟨rfl, hb3⟩
 have hB3 := chain0 hB2 (chain2 (Below.refl _ _) hb3)
 clear hb3 a_0 a_1 a_2 a_3 b_0 b_1 b_2 b_3
 go_wp2_with fail
 refine (holds_eq 0 true w3 rfl).mono ?_
 rintro e w4 ⟨rfl, rfl⟩
 go_wp2
 go_ret2
 exact ⟨rfl, hB3⟩
theorem compare_lt (g1 g2 c1 c2 : Nat) (ev : Value) (w : World) (hv : w.cell? ⟨5, 0, none⟩ = some ev) (hev : ev = .nilIface ∨ ∃ te pe, ev = .iface te pe) (h1 : RdI w (some ⟨g1, 0, none⟩) xOne) (h2 : RdI w (some ⟨g2, 0, none⟩) xLt2) :
  Calls Tryz.prog 19 #[.string ⟨#[60]⟩, .slice (some ⟨g1, 0, none⟩) 1 c1, .slice (some ⟨g2, 0, none⟩) 1 c2] w fun e w' => e = .returned (.tuple #[.bool false, .int .i64 250]) ∧ Below w.heap.size w w' := by
 have k1 : ∀ y ∈ xOne, Good y := by
  intro y hy
  simp only [xOne, List.mem_cons, List.not_mem_nil, or_false] at hy
  subst hy
  exact .int 1
 have k2 : ∀ y ∈ xLt2, Good y := by
  intro y hy
  simp only [xLt2, List.mem_cons, List.not_mem_nil, or_false] at hy
  subst hy
  exact .str ⟨#[120]⟩ ascii_x le8_one
 have H1 := hide h1
 have H2 := hide h2
 have Hv := hide hv
 clear h1 h2 hv
 have i10 := ix_item0 g1 1 c1 (by decide)
 have i20 := ix_item0 g2 1 c2 (by decide)
 go_enter Tryz.func19, Tryz.ntmps19
 go_wp2_with fail
 refine (holds_lt 0 false w rfl).mono ?_
 rintro e w1 ⟨rfl, rfl⟩
 go_wp2_with fail
 refine (right_two g1 g2 c1 c2 xOne xLt2 w H1.out H2.out k1 k2 (by decide) (by decide) 1 1 rfl rfl).mono ?_
 rintro e w1 ⟨rfl, hb1⟩
 obtain ⟨a_0, a_1, a_2, a_3⟩ := (H1.out.keep hb1).z0 _ rfl
 obtain ⟨b_0, b_1, b_2, b_3⟩ := ((H2.out.keep hb1).alloc (.cells #[.int .u8 2, .int .i64 1, .string ⟨#[]⟩, .int .i64 0] 31)).z0 _ rfl
 go_wp2_with fail
 refine wp_loop_rounds 2 ?_
 rw [rounds_succ]
 go_wp2_with fail
 refine wp_loop_rounds 2 ?_
 rw [rounds_succ]
 go_wp2_with fail
 refine (order_one_x 1 ev _ (cell_keep (((Below.refl _ _).alloc (by exact Nat.le_refl _) _).alloc (by simp) _) (cell_keep hb1 Hv.out)) hev).mono ?_
 rintro e w2 ⟨rfl, hb2⟩
 have hB2 := chain0 hb1 (chain2 (Below.refl _ _) hb2)
 clear hb2 a_0 a_1 a_2 a_3 b_0 b_1 b_2 b_3
 go_wp2
 go_ret2
 exact ⟨rfl, hB2⟩
end Go.Proofs.YtmhnndgnnpondaaGreatDoor
namespace Go.Proofs.YtmhnndgnnpondaaGreatDoor
set_option maxRecDepth 100000
set_option maxHeartbeats 4000000
open Go.RowKit
theorem vwhole_any (n : Int) (w : World) : Calls Tryz.prog 38 #[.int .i64 n] w fun e w' => ∃ g, e = .returned (.slice (some ⟨g, 0, none⟩) 1 1) ∧ w.heap.size ≤ g ∧ RdI w' (some ⟨g, 0, none⟩) [⟨2, n, ⟨#[]⟩, 0⟩] ∧ Below w.heap.size w w' := by
 have hk := (Below.refl w.heap.size w).alloc (Nat.le_refl _) (.cells #[.int .u8 2, .int .i64 n, .string ⟨#[]⟩, .int .i64 0] 31)
 have hr : RdI (w.alloc (.cells #[.int .u8 2, .int .i64 n, .string ⟨#[]⟩, .int .i64 0] 31)) (some ⟨w.heap.size, 0, none⟩) [⟨2, n, ⟨#[]⟩, 0⟩] := RdI.new w 31 [⟨2, n, ⟨#[]⟩, 0⟩]
 go_enter Tryz.func38, Tryz.ntmps38
 go_wp2
 go_ret
 exact ⟨w.heap.size, rfl, Nat.le_refl _, hr, hk⟩
theorem vstr_any (s : ByteArray) (w : World) : Calls Tryz.prog 71 #[.string s] w fun e w' => ∃ g, e = .returned (.slice (some ⟨g, 0, none⟩) 1 1) ∧ w.heap.size ≤ g ∧ RdI w' (some ⟨g, 0, none⟩) [⟨3, 0, s, 0⟩] ∧ Below w.heap.size w w' := by
 have hk := (Below.refl w.heap.size w).alloc (Nat.le_refl _) (.cells #[.int .u8 3, .int .i64 0, .string s, .int .i64 0] 31)
 have hr : RdI (w.alloc (.cells #[.int .u8 3, .int .i64 0, .string s, .int .i64 0] 31)) (some ⟨w.heap.size, 0, none⟩) [⟨3, 0, s, 0⟩] := RdI.new w 31 [⟨3, 0, s, 0⟩]
 go_enter Tryz.func71, Tryz.ntmps71
 go_wp2
 go_ret
 exact ⟨w.heap.size, rfl, Nat.le_refl _, hr, hk⟩
theorem lrow_any (a : Option Addr) (n c : Nat) (w : World) : Calls Tryz.prog 20 #[.slice a n c] w fun e w' => e = .returned (.slice a n c) ∧ w = w' := by
 go_enter Tryz.func20, Tryz.ntmps20
 go_wp2
 go_ret
 exact ⟨rfl, rfl⟩
theorem lwhole_any (n : Int) (w : World) : Calls Tryz.prog 21 #[.int .i64 n] w fun e w' => e = .returned (.agg #[.int .u8 2, .int .i64 n, .string ⟨#[]⟩, .int .i64 0]) ∧ Below w.heap.size w w' := by
 have hk := (Below.refl w.heap.size w).alloc (Nat.le_refl _) (.cells #[.int .u8 2, .int .i64 n, .string ⟨#[]⟩, .int .i64 0] 31)
 go_enter Tryz.func21, Tryz.ntmps21
 go_wp2
 (try simp only [Exit.inBlock, Exit.then])
 refine bodyPost_ret (results_cell_row (P := Tryz.prog) (fn := Tryz.f21) rfl _ _ w.heap.size 31 #[.int .u8 2, .int .i64 n, .string ⟨#[]⟩, .int .i64 0] (0, 0) _ rfl (Blk.new w 31 #[.int .u8 2, .int .i64 n, .string ⟨#[]⟩, .int .i64 0]) Tryz.underlying31 rfl (by kernel_rfl)) rfl ?_
 exact ⟨rfl, hk⟩
theorem lstr_any (s : ByteArray) (w : World) : Calls Tryz.prog 23 #[.string s] w fun e w' => e = .returned (.agg #[.int .u8 3, .int .i64 0, .string s, .int .i64 0]) ∧ Below w.heap.size w w' := by
 have hk := (Below.refl w.heap.size w).alloc (Nat.le_refl _) (.cells #[.int .u8 3, .int .i64 0, .string s, .int .i64 0] 31)
 go_enter Tryz.func23, Tryz.ntmps23
 go_wp2
 (try simp only [Exit.inBlock, Exit.then])
 refine bodyPost_ret (results_cell_row (P := Tryz.prog) (fn := Tryz.f23) rfl _ _ w.heap.size 31 #[.int .u8 3, .int .i64 0, .string s, .int .i64 0] (0, 0) _ rfl (Blk.new w 31 #[.int .u8 3, .int .i64 0, .string s, .int .i64 0]) Tryz.underlying31 rfl (by kernel_rfl)) rfl ?_
 exact ⟨rfl, hk⟩
theorem lnode_any (n : Int) (s : ByteArray) (w : World) : Calls Tryz.prog 22 #[.int .i64 n, .string s] w fun e w' => e = .returned (.agg #[.int .u8 1, .int .i64 0, .string s, .int .i64 n]) ∧ Below w.heap.size w w' := by
 have hk := (Below.refl w.heap.size w).alloc (Nat.le_refl _) (.cells #[.int .u8 1, .int .i64 0, .string s, .int .i64 n] 31)
 go_enter Tryz.func22, Tryz.ntmps22
 go_wp2
 (try simp only [Exit.inBlock, Exit.then])
 refine bodyPost_ret (results_cell_row (P := Tryz.prog) (fn := Tryz.f22) rfl _ _ w.heap.size 31 #[.int .u8 1, .int .i64 0, .string s, .int .i64 n] (0, 0) _ rfl (Blk.new w 31 #[.int .u8 1, .int .i64 0, .string s, .int .i64 n]) Tryz.underlying31 rfl (by kernel_rfl)) rfl ?_
 exact ⟨rfl, hk⟩
end Go.Proofs.YtmhnndgnnpondaaGreatDoor
namespace Go.Proofs.YtmhnndgnnpondaaGreatDoor
set_option maxRecDepth 100000
set_option maxHeartbeats 4000000
open Go.RowKit
def mkV (ok : Bool) (n : Int) : Int := if ok then n else 0
def erV (ok : Bool) : Int := if ok then 0 else 251
theorem mkV_yes {ok : Bool} {n : Int} (h : ok = true) : mkV ok n = n := by unfold mkV; rw [if_pos h]
theorem mkV_no {ok : Bool} {n : Int} (h : ok = false) : mkV ok n = 0 := by unfold mkV; rw [h]; rfl
theorem erV_yes {ok : Bool} (h : ok = true) : erV ok = 0 := by unfold erV; rw [if_pos h]
theorem erV_no {ok : Bool} (h : ok = false) : erV ok = 251 := by unfold erV; rw [h]; rfl
def Made (s : ByteArray) (x y v r : Int) : Prop := ∀ w, Calls Tryz.prog 49 #[.string s, .int .i64 x, .int .i64 y] w fun e w' => e = .returned (.tuple #[.int .i64 v, .int .i64 r]) ∧ w = w'
theorem made_plus (a b : Int) (ha : R64 a) (hb : R64 b) : Made ⟨#[43]⟩ a b (mkV (fit (a + b)) (a + b)) (erV (fit (a + b))) := by
 intro w
 have Ha := hide ha
 have Hb := hide hb
 clear ha hb
 rcases Bool.eq_false_or_eq_true (fit (a + b)) with hf | hf
 ·rw [mkV_yes hf, erV_yes hf]
  have Hw := hide (wrap_fit hf)
  go_enter Tryz.func49, Tryz.ntmps49
  go_wp2_with fail
  refine (plus_any a b Ha.out Hb.out _).mono ?_
  rintro e w1 ⟨rfl, rfl⟩
  rw [Hw.out]
  go_wp2
  go_ret2
  exact ⟨rfl, rfl⟩
 ·rw [mkV_no hf, erV_no hf]
  go_enter Tryz.func49, Tryz.ntmps49
  go_wp2_with fail
  refine (plus_any a b Ha.out Hb.out _).mono ?_
  rintro e w1 ⟨rfl, rfl⟩
  go_wp2
  go_ret2
  exact ⟨rfl, rfl⟩
theorem made_times (a b : Int) (ha : R64 a) (hb : R64 b) : Made ⟨#[42]⟩ a b (mkV (fit (a * b)) (a * b)) (erV (fit (a * b))) := by
 intro w
 have Ha := hide ha
 have Hb := hide hb
 clear ha hb
 rcases Bool.eq_false_or_eq_true (fit (a * b)) with hf | hf
 ·rw [mkV_yes hf, erV_yes hf]
  have Hw := hide (wrap_fit hf)
  go_enter Tryz.func49, Tryz.ntmps49
  go_wp2_with fail
  refine (times_any a b Ha.out Hb.out _).mono ?_
  rintro e w1 ⟨rfl, rfl⟩
  rw [Hw.out]
  go_wp2
  go_ret2
  exact ⟨rfl, rfl⟩
 ·rw [mkV_no hf, erV_no hf]
  go_enter Tryz.func49, Tryz.ntmps49
  go_wp2_with fail
  refine (times_any a b Ha.out Hb.out _).mono ?_
  rintro e w1 ⟨rfl, rfl⟩
  go_wp2
  go_ret2
  exact ⟨rfl, rfl⟩
theorem made_minus (a b : Int) (ha : R64 a) (hb : R64 b) : Made ⟨#[45]⟩ a b (mkV (fit (a - b)) (a - b)) (erV (fit (a - b))) := by
 intro w
 have H := hide (minus_law a b ha hb)
 clear ha hb
 rcases Bool.eq_false_or_eq_true (fit (a - b)) with hf | hf
 ·rw [mkV_yes hf, erV_yes hf]
  have Hw := hide (wrap_fit hf)
  have hq : decide (0 ≤ bits .and .i64 (bits .xor .i64 a b) (bits .xor .i64 a (wrap64 (a - b)))) = true := by rw [H.out, hf]
  go_enter Tryz.func49, Tryz.ntmps49
  go_wp2
  go_ret2
  exact ⟨by rw [Hw.out]; rfl, rfl⟩
 ·rw [mkV_no hf, erV_no hf]
  have hq : decide (0 ≤ bits .and .i64 (bits .xor .i64 a b) (bits .xor .i64 a (wrap64 (a - b)))) = false := by rw [H.out, hf]
  go_enter Tryz.func49, Tryz.ntmps49
  go_wp2
  go_ret2
  exact ⟨rfl, rfl⟩
theorem tdiv_R (a b : Int) (ha : R64 a) (hb : R64 b) (h : b ≠ -1 ∨ a ≠ -9223372036854775808) : R64 (a.tdiv b) := by
 have h1 := Int.natAbs_tdiv_le_natAbs a b
 unfold R64 at *
 rcases Decidable.em (b = -1) with e | e
 ·subst e
  have : a.tdiv (-1) = -a := by rw [Int.tdiv_neg, Int.tdiv_one]
  omega
 ·rcases Decidable.em (a = -9223372036854775808) with e2 | e2
  ·subst e2
   rcases Decidable.em (b = 1) with e3 | e3
   ·subst e3; simp
   ·rcases Decidable.em (b = 0) with e4 | e4
    ·subst e4; simp
    ·have h2 : (Int.tdiv (-9223372036854775808) b).natAbs = 9223372036854775808 / b.natAbs := by rw [Int.natAbs_tdiv]; rfl
     have h3 : 9223372036854775808 / b.natAbs ≤ 9223372036854775808 / 2 := Nat.div_le_div_left (by omega) (by decide)
     omega
  ·omega
theorem div_fit (a b : Int) (ha : R64 a) (hb : R64 b) : fit (a.tdiv b) = !(b == -1 && a == -9223372036854775808) := by
 rcases Decidable.em (b = -1 ∧ a = -9223372036854775808) with ⟨h1, h2⟩ | h
 ·subst h1 h2; decide
 ·have := (fit_iff _).2 (tdiv_R a b ha hb (by omega))
  rw [this]
  simp only [Bool.true_eq, Bool.not_eq_true', Bool.and_eq_false_iff, beq_eq_false_iff_ne]
  omega
theorem made_div (a b : Int) (ha : R64 a) (hb : R64 b) (h0 : b ≠ 0) : Made ⟨#[100, 105, 118]⟩ a b (mkV (fit (a.tdiv b)) (a.tdiv b)) (erV (fit (a.tdiv b))) := by
 intro w
 have H := hide (div_fit a b ha hb)
 clear ha hb
 have h0' : (b == 0) = false := by simpa using h0
 by_cases h1 : b = -1
 ·subst h1
  by_cases h2 : a = -9223372036854775808
  ·subst h2
   have hf : fit (Int.tdiv (-9223372036854775808) (-1)) = false := by decide
   rw [mkV_no hf, erV_no hf]
   go_enter Tryz.func49, Tryz.ntmps49
   go_wp2
   go_ret2
   exact ⟨rfl, rfl⟩
  ·have hf : fit (a.tdiv (-1)) = true := by rw [H.out]; simp [h2]
   rw [mkV_yes hf, erV_yes hf]
   have Hw := hide (wrap_fit hf)
   have hm : (a != -9223372036854775808) = true := by simpa using h2
   have ht : Hid (a.tdiv (-1) = -a) := by show a.tdiv (-1) = -a; rw [Int.tdiv_neg, Int.tdiv_one]
   rw [ht.out] at Hw ⊢
   go_enter Tryz.func49, Tryz.ntmps49
   go_wp2
   go_ret2
   exact ⟨by rw [Hw.out]; rfl, rfl⟩
 ·have hf : fit (a.tdiv b) = true := by rw [H.out]; simp [h1]
  rw [mkV_yes hf, erV_yes hf]
  have Hw := hide (wrap_fit hf)
  have hm : (b != -1) = true := by simpa using h1
  go_enter Tryz.func49, Tryz.ntmps49
  go_wp2
  go_ret2
  exact ⟨by rw [Hw.out]; rfl, rfl⟩
theorem made_mod (a b : Int) (_ha : R64 a) (_hb : R64 b) (h0 : b ≠ 0) : Made ⟨#[109, 111, 100]⟩ a b (a.tmod b) 0 := by
 intro w
 have h0' : (b == 0) = false := by simpa using h0
 go_enter Tryz.func49, Tryz.ntmps49
 go_wp2
 go_ret2
 exact ⟨rfl, rfl⟩
theorem made_div0 (a : Int) : Made ⟨#[100, 105, 118]⟩ a 0 0 252 := by
 intro w
 go_enter Tryz.func49, Tryz.ntmps49
 go_wp2
 go_ret2
 exact ⟨rfl, rfl⟩
theorem made_mod0 (a : Int) : Made ⟨#[109, 111, 100]⟩ a 0 0 252 := by
 intro w
 go_enter Tryz.func49, Tryz.ntmps49
 go_wp2
 go_ret2
 exact ⟨rfl, rfl⟩
end Go.Proofs.YtmhnndgnnpondaaGreatDoor
namespace Go.Proofs.YtmhnndgnnpondaaGreatDoor
open Go.RowKit
def IsNum (k : Nat) (a : Int) (t : ByteArray) (d : Int) (n : Int) : Prop := ∀ w, Calls Tryz.prog 50 #[.agg #[.int .u8 k, .int .i64 a, .string t, .int .i64 d]] w fun e w' => e = .returned (.tuple #[.int .i64 n, .int .i64 0]) ∧ Below w.heap.size w w'
theorem isNum_int (n : Int) : IsNum 2 n ⟨#[]⟩ 0 n := fun w => number_int n 0 ⟨#[]⟩ w
def One (w : World) (v : Value) (x : It) : Prop := ∃ g c, v = .slice (some ⟨g, 0, none⟩) 1 c ∧ RdI w (some ⟨g, 0, none⟩) [x]
theorem good_one {x : It} (h : Good x) : ∀ y ∈ [x], Good y := by
 intro y hy
 simp only [List.mem_cons, List.not_mem_nil, or_false] at hy
 subst hy; exact h
set_option maxRecDepth 100000 in
set_option maxHeartbeats 2000000 in
theorem arith_ok (s : ByteArray) (g1 g2 c1 c2 k1 k2 : Nat) (a1 a2 d1 d2 x y v v1 : Int) (t1 t2 : ByteArray) (w : World) (h1 : RdI w (some ⟨g1, 0, none⟩) [⟨k1, a1, t1, d1⟩]) (h2 : RdI w (some ⟨g2, 0, none⟩) [⟨k2, a2, t2, d2⟩])
  (hg1 : Good ⟨k1, a1, t1, d1⟩) (hg2 : Good ⟨k2, a2, t2, d2⟩) (hnx : IsNum k1 a1 t1 d1 x) (hny : IsNum k2 a2 t2 d2 y) (hm1 : Made s 1 1 v1 0) (hm : Made s x y v 0) :
  Calls Tryz.prog 11 #[.string s, .slice (some ⟨g1, 0, none⟩) 1 c1, .slice (some ⟨g2, 0, none⟩) 1 c2] w fun e w' => ∃ g, e = .returned (.tuple #[.slice (some ⟨g, 0, none⟩) 1 1, .int .i64 0]) ∧ w.heap.size ≤ g ∧ RdI w' (some ⟨g, 0, none⟩) [⟨2, v, ⟨#[]⟩, 0⟩] ∧ Below w.heap.size w w' := by
 have H1 := hide h1
 have H2 := hide h2
 have Hm1 := hide hm1
 have Hm := hide hm
 have Hnx := hide hnx
 have Hny := hide hny
 clear h1 h2 hm1 hm hnx hny
 have i10 := ix_item0 g1 1 c1 (by decide)
 have i20 := ix_item0 g2 1 c2 (by decide)
 go_enter Tryz.func11, Tryz.ntmps11
 go_wp2_with fail
 refine (Hm1.out _).mono ?_
 rintro e w1 ⟨rfl, rfl⟩
 go_wp2_with fail
 refine (right_two g1 g2 c1 c2 [⟨k1, a1, t1, d1⟩] [⟨k2, a2, t2, d2⟩] w H1.out H2.out (good_one hg1) (good_one hg2) (by simp) (by simp) 1 1 rfl rfl).mono ?_
 rintro e w1 ⟨rfl, hb1⟩
 obtain ⟨a_0, a_1, a_2, a_3⟩ := (H1.out.keep hb1).z0 _ rfl
 go_wp2_with fail
 refine (Hnx.out _).mono ?_
 rintro e w2 ⟨rfl, hb2⟩
 have hB2 := chain0 hb1 hb2
 clear hb2 a_0 a_1 a_2 a_3
 obtain ⟨a_0, a_1, a_2, a_3⟩ := (H2.out.keep hB2).z0 _ rfl
 go_wp2_with fail
 refine (Hny.out _).mono ?_
 rintro e w3 ⟨rfl, hb3⟩
 have hB3 := chain0 hB2 hb3
 clear hb3 hB2 a_0 a_1 a_2 a_3
 go_wp2_with fail
 refine (Hm.out _).mono ?_
 rintro e w4 ⟨rfl, rfl⟩
 go_wp2_with fail
 refine (vwhole_any v _).mono ?_
 rintro e w5 ⟨g, rfl, hgs, hr5, hb5⟩
 have hB5 := chain0 hB3 hb5
 have Hr5 := hide hr5
 have Hgs := hide (Nat.le_trans hB3.size hgs)
 clear hb5 hgs hr5
 go_wp2
 go_ret2
 exact ⟨g, rfl, Hgs.out, Hr5.out, hB5⟩
end Go.Proofs.YtmhnndgnnpondaaGreatDoor
namespace Go.Proofs.YtmhnndgnnpondaaGreatDoor
set_option maxRecDepth 100000
set_option maxHeartbeats 4000000
open Go.RowKit
theorem text_str (n d : Int) (s : ByteArray) (w : World) : Calls Tryz.prog 64 #[.agg #[.int .u8 3, .int .i64 n, .string s, .int .i64 d]] w fun e w' => e = .returned (.string s) ∧ Below w.heap.size w w' := by
 go_enter Tryz.func64, Tryz.ntmps64
 go_wp2
 go_ret
 exact ⟨rfl, (Below.refl _ _).alloc (Nat.le_refl _) _⟩
theorem string_str (g c : Nat) (s : ByteArray) (w : World) (h : RdI w (some ⟨g, 0, none⟩) [⟨3, 0, s, 0⟩]) (ha : Ascii s) (hs : s.size ≤ 8) : Calls Tryz.prog 36 #[.slice (some ⟨g, 0, none⟩) 1 c] w fun e w' => e = .returned (.tuple #[.string s, .int .i64 0]) ∧ Below w.heap.size w w' := by
 have H := hide h
 have hg := good_one (.str s ha hs)
 clear h
 have i10 := ix_item0 g 1 c (by decide)
 go_enter Tryz.func36, Tryz.ntmps36
 go_wp2_with fail
 refine (right_one g c [⟨3, 0, s, 0⟩] w H.out hg (by simp) 1 rfl).mono ?_
 rintro e w1 ⟨rfl, hb1⟩
 obtain ⟨a_0, a_1, a_2, a_3⟩ := (H.out.keep hb1).z0 _ rfl
 go_wp2_with fail
 refine (text_str 0 0 s _).mono ?_
 rintro e w2 ⟨rfl, hb2⟩
 have hB2 := chain0 hb1 hb2
 clear hb2 a_0 a_1 a_2 a_3
 go_wp2
 go_ret2
 exact ⟨rfl, hB2⟩
theorem one_num (g c k : Nat) (a d n : Int) (t : ByteArray) (w : World) (h : RdI w (some ⟨g, 0, none⟩) [⟨k, a, t, d⟩]) (hn : IsNum k a t d n) : Calls Tryz.prog 70 #[.slice (some ⟨g, 0, none⟩) 1 c] w fun e w' => e = .returned (.tuple #[.int .i64 n, .int .i64 0]) ∧ Below w.heap.size w w' := by
 have H := hide h
 have Hn := hide hn
 clear h hn
 have i10 := ix_item0 g 1 c (by decide)
 obtain ⟨a_0, a_1, a_2, a_3⟩ := H.out.z0 _ rfl
 go_enter Tryz.func70, Tryz.ntmps70
 go_wp2_with fail
 refine (Hn.out _).mono ?_
 rintro e w1 ⟨rfl, hb1⟩
 clear a_0 a_1 a_2 a_3
 go_wp2
 go_ret2
 exact ⟨rfl, hb1⟩
theorem join_one (s : ByteArray) : Lib.join ([s].map (·.data.toList)) (ByteArray.mk #[]).data.toList = s.data.toList := by
 show List.intercalate [] [s.data.toList] = s.data.toList
 simp [List.intercalate]
theorem ix_str0 (g n c : Nat) (h : 0 < n) (W : World) : (Instr.indexAt 57 (.slice (some ⟨g, 0, none⟩) n c) (.int .i64 0)).run Tryz.prog W = .ok (.pointer (some ⟨g, 0, none⟩)) W := by
 have e : (Tryz.prog.info? 9).map (fun i => (i.zero, i.size, i.bytes)) = some (some (.string ⟨#[]⟩), 1, 16) := by kernel_rfl
 obtain ⟨j0, hj, _, hj1, _⟩ := info_parts e
 have := run_ix Tryz.underlying57 hj hj1 g 0 n c 0 0 rfl h W
 rwa [Nat.zero_mul, Nat.zero_add] at this
theorem joined_one (s : ByteArray) (w : World) (hs : s.size ≤ 65536) : Calls Tryz.prog 37 #[.string ⟨#[]⟩, .slice (some ⟨w.heap.size, 0, none⟩) 1 1] (w.alloc (.cells #[.string s] 9)) fun e w' =>
  ∃ g, e = .returned (.tuple #[.slice (some ⟨g, 0, none⟩) 1 1, .int .i64 0]) ∧ w.heap.size ≤ g ∧ RdI w' (some ⟨g, 0, none⟩) [⟨3, 0, s, 0⟩] ∧ Below w.heap.size w w' := by
 have i10 := ix_str0 w.heap.size 1 1 (by decide)
 have hk := Blk.new w 9 #[.string s]
 have a0 := hk.cell 0
 have n1 : ¬ (65536 : Int) < (s.size : Int) := by omega
 have Hk := hide hk
 have Hs := hide hs
 clear hk hs
 go_enter Tryz.func37, Tryz.ntmps37
 go_wp2_with fail
 refine wp_loop_rounds 3 ?_
 rw [rounds_succ]
 go_wp2_with fail
 rw [rounds_succ]
 go_wp2_with fail
 refine (Tryz.strings_Join w.heap.size 0 1 [s] ⟨#[]⟩ _ ?j1 ?j2 (by simp) (by simp) ?j3).mono ?_
 case j1 =>
  intro j x hx
  match j, hx with
  | 0, hx => simp at hx; subst hx; exact Hk.out.cell 0
  | j + 1, hx => simp at hx
 case j2 => simp
 case j3 =>
  have e : (Lib.join ([s].map (·.data.toList)) (ByteArray.mk #[]).data.toList).length = s.size := by
   rw [join_one s]; exact Array.length_toList
  have := Hs.out
  rw [e]; omega
 rintro e w1 ⟨rfl, hb1⟩
 have hj : (⟨(Lib.join ([s].map (·.data.toList)) (ByteArray.mk #[]).data.toList).toArray⟩ : ByteArray) = s := by rw [join_one s]
 rw [hj]
 have hB1 := chain1 (Below.refl w.heap.size w) hb1
 clear hb1 hj
 go_wp2_with fail
 refine (vstr_any s _).mono ?_
 rintro e w2 ⟨g, rfl, hg, hr, hb2⟩
 have hB2 := chain0 hB1 hb2
 have Hr := hide hr
 have Hg := hide (Nat.le_trans hB1.size hg)
 clear hb2 hg hr
 go_wp2
 go_ret2
 exact ⟨g, rfl, Hg.out, Hr.out, hB2⟩
end Go.Proofs.YtmhnndgnnpondaaGreatDoor
namespace Go.Proofs.YtmhnndgnnpondaaGreatDoor
open Go.RowKit
def Res (w : World) (L : List It) (E : Int) : Ending → World → Prop := fun e w' => ∃ v, e = .returned (.tuple #[v, .int .i64 E]) ∧ OwI w' w.heap.size v L ∧ Below w.heap.size w w'
theorem OwI.nil (w : World) (B : Nat) : OwI w B (.slice none 0 0) [] := ow_nil w B _ _
theorem OwI.keep {w w' : World} {B : Nat} {v : Value} {l : List It} (h : OwI w B v l) (hb : Below w.heap.size w w') : OwI w' B v l := ow_keep h hb
theorem OwI.mono {w : World} {B B' : Nat} {v : Value} {l : List It} (h : OwI w B v l) (hB : B' ≤ B) : OwI w B' v l := ow_mono h hB
theorem OwI.one (w : World) (B : Nat) (hB : B ≤ w.heap.size) (x : It) : OwI (w.alloc (.cells #[.int .u8 x.kind, .int .i64 x.num, .string x.text, .int .i64 x.node] 31)) B (.slice (some ⟨w.heap.size, 0, none⟩) 1 1) [x] :=
 ⟨rfl, .inr ⟨w.heap.size, 1, #[.int .u8 x.kind, .int .i64 x.num, .string x.text, .int .i64 x.node], rfl, hB, heap_alloc_new _ _, Nat.le_refl _, by decide, rfl, rfl⟩⟩
set_option maxRecDepth 100000 in
set_option maxHeartbeats 1000000 in
theorem vwhole_own (n : Int) (w : World) : Calls Tryz.prog 38 #[.int .i64 n] w fun e w' => ∃ v, e = .returned v ∧ OwI w' w.heap.size v [⟨2, n, ⟨#[]⟩, 0⟩] ∧ Below w.heap.size w w' := by
 have hk := (Below.refl w.heap.size w).alloc (Nat.le_refl _) (.cells #[.int .u8 2, .int .i64 n, .string ⟨#[]⟩, .int .i64 0] 31)
 have hr := OwI.one w w.heap.size (Nat.le_refl _) ⟨2, n, ⟨#[]⟩, 0⟩
 go_enter Tryz.func38, Tryz.ntmps38
 go_wp2
 go_ret
 exact ⟨_, rfl, hr, hk⟩
end Go.Proofs.YtmhnndgnnpondaaGreatDoor
namespace Go.Proofs.YtmhnndgnnpondaaGreatDoor
open Go.RowKit
def OwZ (W : World) (B : Nat) (v : Value) (l : List It) : Prop := OwI W B v l ∨ (l = [] ∧ ∃ a, v = .slice a 0 0)
section
variable {W W' : World} {B : Nat} {v : Value} {l : List It}
theorem OwZ.keep (h : OwZ W B v l) (hb : Below W.heap.size W W') : OwZ W' B v l := h.imp (fun h => OwI.keep h hb) id
theorem OwZ.mono {B' : Nat} (h : OwZ W B v l) (hB : B' ≤ B) : OwZ W B' v l := h.imp (fun h => OwI.mono h hB) id
theorem OwZ.form (h : OwZ W B v l) : ∃ a c, v = .slice a l.length c ∧ RdI W a l := by
 rcases h with h | ⟨rfl, a, h⟩
 ·obtain ⟨a, c, hv⟩ := ow_forms h
  subst hv
  exact ⟨a, c, rfl, ow_rd h⟩
 ·exact ⟨a, 0, h, .inl rfl⟩
theorem OwZ.other {g : Nat} (h : OwZ W B v l) (hg : W.grownBy W' (some g)) (hgB : g < B) : OwZ W' B v l := by
 refine h.imp (fun h => World.ownsRow.kept h hg ?_) id
 cases hv : v.ownBlock with
 | none => exact .inl rfl
 | some b =>
  have := (ow_lt h b hv).1
  exact .inr fun e => by injection e with e; omega
theorem OwZ.piece (h : OwZ W B v l) : ∃ p : PcI, piV p = v ∧ ContI W p [] ∧ p.2.1 = l.length ∧ p.2.1 ≤ p.2.2.1 ∧ ∀ g, p.1 = some g → B ≤ g ∧ g < W.heap.size := by
 rcases h with h | ⟨rfl, a, h⟩
 ·have hl := ow_lt h
  rcases h.2 with ⟨rfl, e⟩ | ⟨g, cap, cur, rfl, hB, hh, hn, hm, hs, ht⟩
  ·exact ⟨(none, 0, 0, none), rfl, .inl ⟨rfl, rfl, rfl, rfl⟩, e.symm, Nat.le_refl _, fun g hg => by cases hg⟩
  ·refine ⟨(some g, l.length, cap, some ⟨g, 0, none⟩), rfl, .inr ⟨g, rfl, rfl, hn, rfl, .inr ⟨g, cap, cur, rfl, Nat.zero_le _, hh, Nat.zero_le _, hm, hs, by simp [icells]⟩⟩, rfl, hn, fun g' hg => ?_⟩
   injection hg with hg
   subst hg
   exact hl g rfl
 ·exact ⟨(none, 0, 0, a), h.symm, .inl ⟨rfl, rfl, rfl, rfl⟩, rfl, Nat.le_refl _, fun g hg => by cases hg⟩
end
def OwE (W : World) (B E : Nat) (v : Value) (l : List It) : Prop := (OwI W B v l ∧ ∀ g, v.ownBlock = some g → g < E) ∨ (l = [] ∧ ∃ a, v = .slice a 0 0)
section
variable {W W' : World} {B E : Nat} {v : Value} {l : List It}
theorem OwZ.ends (h : OwZ W B v l) : OwE W B W.heap.size v l := h.imp (fun h => ⟨h, fun g hg => (ow_lt h g hg).2⟩) id
theorem OwE.keep (h : OwE W B E v l) (hb : Below W.heap.size W W') : OwE W' B E v l := h.imp (fun h => ⟨OwI.keep h.1 hb, h.2⟩) id
theorem OwE.z (h : OwE W B E v l) : OwZ W B v l := h.imp (fun h => h.1) id
theorem OwE.mono {B' : Nat} (h : OwE W B E v l) (hB : B' ≤ B) : OwE W B' E v l := h.imp (fun h => ⟨OwI.mono h.1 hB, h.2⟩) id
theorem OwE.other {g : Nat} (h : OwE W B E v l) (hg : W.grownBy W' (some g)) (hgB : g < B) : OwE W' B E v l := by
 refine h.imp (fun h => ⟨World.ownsRow.kept h.1 hg ?_, h.2⟩) id
 cases hv : v.ownBlock with
 | none => exact .inl rfl
 | some b =>
  have := (ow_lt h.1 b hv).1
  exact .inr fun e => by injection e with e; omega
theorem OwE.piece (h : OwE W B E v l) : ∃ p : PcI, piV p = v ∧ ContI W p [] ∧ p.2.1 = l.length ∧ p.2.1 ≤ p.2.2.1 ∧ ∀ g, p.1 = some g → B ≤ g ∧ g < E := by
 rcases h with ⟨h, hE⟩ | ⟨rfl, a, h⟩
 ·have hl := ow_lt h
  rcases h.2 with ⟨rfl, e⟩ | ⟨g, cap, cur, rfl, hB, hh, hn, hm, hs, ht⟩
  ·exact ⟨(none, 0, 0, none), rfl, .inl ⟨rfl, rfl, rfl, rfl⟩, e.symm, Nat.le_refl _, fun g hg => by cases hg⟩
  ·refine ⟨(some g, l.length, cap, some ⟨g, 0, none⟩), rfl, .inr ⟨g, rfl, rfl, hn, rfl, .inr ⟨g, cap, cur, rfl, Nat.zero_le _, hh, Nat.zero_le _, hm, hs, by simp [icells]⟩⟩, rfl, hn, fun g' hg => ?_⟩
   injection hg with hg
   subst hg
   exact ⟨hB, hE g rfl⟩
 ·exact ⟨(none, 0, 0, a), h.symm, .inl ⟨rfl, rfl, rfl, rfl⟩, rfl, Nat.le_refl _, fun g hg => by cases hg⟩
end
def Apart2 (p q : PcI) : Prop := ∀ g, p.1 = some g → q.1 ≠ some g
theorem dist_of {ps : List PcI} (h : ps.Pairwise Apart2) : Dist ps := by
 intro j k p q g hp hq hjk h1 h2
 obtain ⟨hj, rfl⟩ := List.getElem?_eq_some_iff.1 hp
 obtain ⟨hk, rfl⟩ := List.getElem?_eq_some_iff.1 hq
 rcases Nat.lt_or_ge j k with h3 | h3
 ·exact List.pairwise_iff_getElem.1 h j k hj hk h3 g h1 h2
 ·exact List.pairwise_iff_getElem.1 h k j hk hj (by omega) g h2 h1
structure Hd where
 B : Nat
 E : Nat
 v : Value
 l : List It
theorem pieces_of (W : World) (B0 : Nat) : ∀ (xs : List Hd), (∀ x ∈ xs, OwE W x.B x.E x.v x.l ∧ x.l.length ≤ 1000 ∧ B0 ≤ x.B) → xs.Pairwise (fun x y => x.E ≤ y.B) →
  ∃ ps : List PcI, ps.map piV = xs.map (fun x => x.v) ∧ (∀ p ∈ ps, ContI W p []) ∧ (∀ p ∈ ps, p.2.1 ≤ 1000 ∧ p.2.1 ≤ p.2.2.1) ∧ (∀ p ∈ ps, ∀ g, p.1 = some g → B0 ≤ g ∧ ∃ x ∈ xs, x.B ≤ g ∧ g < x.E) ∧ ps.Pairwise Apart2
 | [], _, _ => ⟨[], rfl, fun p hp => (by cases hp), fun p hp => (by cases hp), fun p hp => (by cases hp), List.Pairwise.nil⟩
 | x :: xs, h, hp => by
  obtain ⟨ps, h1, h2, h3, h4, h5⟩ := pieces_of W B0 xs (fun y hy => h y (by simp [hy])) (List.pairwise_cons.1 hp).2
  obtain ⟨hx, hxl, hxB⟩ := h x (by simp)
  obtain ⟨p, q1, q2, q3, q4, q5⟩ := hx.piece
  refine ⟨p :: ps, by simp [q1, h1], ?_, ?_, ?_, ?_⟩
  ·intro r hr
   rcases List.mem_cons.1 hr with rfl | hr
   ·exact q2
   ·exact h2 r hr
  ·intro r hr
   rcases List.mem_cons.1 hr with rfl | hr
   ·exact ⟨by omega, q4⟩
   ·exact h3 r hr
  ·intro r hr g hg
   rcases List.mem_cons.1 hr with rfl | hr
   ·exact ⟨Nat.le_trans hxB (q5 g hg).1, x, by simp, q5 g hg⟩
   ·obtain ⟨hb, y, hy, hy2⟩ := h4 r hr g hg
    exact ⟨hb, y, by simp [hy], hy2⟩
  ·refine List.pairwise_cons.2 ⟨fun r hr g h1 h2 => ?_, h5⟩
   obtain ⟨_, y, hy, hy2⟩ := h4 r hr g h2
   have := q5 g h1
   have := (List.pairwise_cons.1 hp).1 y hy
   omega
theorem apart_of (a : Option Addr) (N c : Nat) (xs : List Hd) (B0 : Nat) (w : World) (hr : Rd w a (xs.map (fun x => x.v))) (hN : N = xs.length) (hN0 : xs ≠ []) (hNb : N ≤ 1000) (hB0 : B0 ≤ w.heap.size)
  (h : ∀ x ∈ xs, OwE w x.B x.E x.v x.l ∧ x.l.length ≤ 1000 ∧ B0 ≤ x.B) (hp : xs.Pairwise (fun x y => x.E ≤ y.B)) :
  Calls Tryz.prog 18 #[.slice a N c] w fun e w' => e = .returned (.bool true) ∧ Below B0 w w' := by
 obtain ⟨ps, h1, h2, h3, h4, h5⟩ := pieces_of w B0 xs h hp
 have hl : ps.length = xs.length := by simpa using congrArg List.length h1
 refine (apartItems_any a N c ps w (by rw [h1]; exact hr) (by omega) (fun e => hN0 (List.length_eq_zero_iff.1 (by rw [← hl, e]; rfl))) hNb (fun j p hj => h2 p (List.mem_of_getElem? hj)) (dist_of h5) h3).mono ?_
 rintro e w' ⟨rfl, hk⟩
 exact ⟨rfl, hk.below hB0 fun p hp g hg => (h4 p hp g hg).1⟩
end Go.Proofs.YtmhnndgnnpondaaGreatDoor
