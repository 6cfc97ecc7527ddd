/- value.Compare at what awake asks. -/
import Derived.Test.YtmnmnnocgimcpaaGreatDoorVh
import Derived.Test.YtmnmnnocgimcpaaGreatDoorVi
import Derived.Test.YtmnmnnocgimcpaaGreatDoorVe
namespace Go.Proofs.YtmnmnnocgimcpaaGreatDoor
open Go.RowKit
theorem RdI.z {w : World} {g : Nat} {l : List It} (h : RdI w (some ⟨g, 0, none⟩) l) (i : Nat) (x : It) (hx : l[i]? = some x) :
    w.cell? ⟨g, i * 4, none⟩ = some (.int .u8 x.kind) ∧ w.cell? ⟨g, i * 4 + 1, none⟩ = some (.int .i64 x.num) ∧ w.cell? ⟨g, i * 4 + 2, none⟩ = some (.string x.text) ∧ w.cell? ⟨g, i * 4 + 3, none⟩ = some (.int .i64 x.node) := by
  obtain ⟨b, off, e, h0, h1, h2, h3⟩ := h.at i x hx
  injection e with e
  injection e with e1 e2
  subst e1 e2
  rw [Nat.zero_add] at h0 h1 h2 h3
  exact ⟨h0, h1, h2, h3⟩
theorem RdI.z0 {w : World} {g : Nat} {l : List It} (h : RdI w (some ⟨g, 0, none⟩) l) (x : It) (hx : l[0]? = some x) :
    w.cell? ⟨g, 0, none⟩ = some (.int .u8 x.kind) ∧ w.cell? ⟨g, 1, none⟩ = some (.int .i64 x.num) ∧ w.cell? ⟨g, 2, none⟩ = some (.string x.text) ∧ w.cell? ⟨g, 3, none⟩ = some (.int .i64 x.node) := h.z 0 x hx
theorem RdI.z1 {w : World} {g : Nat} {l : List It} (h : RdI w (some ⟨g, 0, none⟩) l) (x : It) (hx : l[1]? = some x) :
    w.cell? ⟨g, 4, none⟩ = some (.int .u8 x.kind) ∧ w.cell? ⟨g, 5, none⟩ = some (.int .i64 x.num) ∧ w.cell? ⟨g, 6, none⟩ = some (.string x.text) ∧ w.cell? ⟨g, 7, none⟩ = some (.int .i64 x.node) := h.z 1 x hx
theorem ix_item0 (g n c : Nat) (h : 0 < n) (W : World) : (Instr.indexAt 25 (.slice (some ⟨g, 0, none⟩) n c) (.int .i64 0)).run Tryz.prog W = .ok (.pointer (some ⟨g, 0, none⟩)) W := ix_item g 0 n c 0 h W
theorem ix_item1 (g n c : Nat) (h : 1 < n) (W : World) : (Instr.indexAt 25 (.slice (some ⟨g, 0, none⟩) n c) (.int .i64 1)).run Tryz.prog W = .ok (.pointer (some ⟨g, 4, none⟩)) W := ix_item g 0 n c 1 h W
theorem ascii_two : Ascii ⟨#[50]⟩ := by unfold Ascii; decide
theorem ascii_x : Ascii ⟨#[120]⟩ := by unfold Ascii; decide
theorem le8_one {a : UInt8} : (ByteArray.mk #[a]).size ≤ 8 := by simp [ByteArray.size]
/-- two lists, one behind the other, in a block of their own: right -/
theorem right_two (g1 g2 c1 c2 : Nat) (l1 l2 : List It) (W : World) (h1 : RdI W (some ⟨g1, 0, none⟩) l1) (h2 : RdI W (some ⟨g2, 0, none⟩) l2) (k1 : ∀ y ∈ l1, Good y) (k2 : ∀ y ∈ l2, Good y) (n1 : l1.length ≤ 8) (n2 : l2.length ≤ 8) (m1 m2 : Nat) (e1 : m1 = l1.length) (e2 : m2 = l2.length) :
    Calls Tryz.prog 26 #[.slice (some ⟨W.heap.size, 0, none⟩) 2 2] (W.alloc (.cells #[.slice (some ⟨g1, 0, none⟩) m1 c1, .slice (some ⟨g2, 0, none⟩) m2 c2] 25)) fun e w' => e = .returned (.bool true) ∧ Below W.heap.size W w' := by
  subst e1 e2
  refine (right_ok (some ⟨W.heap.size, 0, none⟩) 2 2 [⟨some ⟨g1, 0, none⟩, l1, c1⟩, ⟨some ⟨g2, 0, none⟩, l2, c2⟩] _ rfl (by decide) (Rd.new W 25 [.slice (some ⟨g1, 0, none⟩) l1.length c1, .slice (some ⟨g2, 0, none⟩) l2.length c2]) ?_).mono ?_
  · intro x hx
    simp only [List.mem_cons, List.not_mem_nil, or_false] at hx
    rcases hx with rfl | rfl
    · exact ⟨h1.alloc _, k1, n1⟩
    · exact ⟨h2.alloc _, k2, n2⟩
  · rintro e w' ⟨rfl, hb⟩
    exact ⟨rfl, chain1 (Below.refl _ _) hb⟩
theorem right_one (g1 c1 : Nat) (l1 : List It) (W : World) (h1 : RdI W (some ⟨g1, 0, none⟩) l1) (k1 : ∀ y ∈ l1, Good y) (n1 : l1.length ≤ 8) (m1 : Nat) (e1 : m1 = l1.length) :
    Calls Tryz.prog 26 #[.slice (some ⟨W.heap.size, 0, none⟩) 1 1] (W.alloc (.cells #[.slice (some ⟨g1, 0, none⟩) m1 c1] 25)) fun e w' => e = .returned (.bool true) ∧ Below W.heap.size W w' := by
  subst e1
  refine (right_ok (some ⟨W.heap.size, 0, none⟩) 1 1 [⟨some ⟨g1, 0, none⟩, l1, c1⟩] _ rfl (by decide) (Rd.new W 25 [.slice (some ⟨g1, 0, none⟩) l1.length c1]) ?_).mono ?_
  · intro x hx
    simp only [List.mem_cons, List.not_mem_nil, or_false] at hx
    subst hx
    exact ⟨h1.alloc _, k1, n1⟩
  · rintro e w' ⟨rfl, hb⟩
    exact ⟨rfl, chain1 (Below.refl _ _) hb⟩
def xEq1 : List It := [⟨2, 1, ⟨#[]⟩, 0⟩, ⟨1, 0, ⟨#[50]⟩, 3⟩]
def xEq2 : List It := [⟨3, 0, ⟨#[50]⟩, 0⟩]
def xLt2 : List It := [⟨3, 0, ⟨#[120]⟩, 0⟩]
def xOne : List It := [⟨2, 1, ⟨#[]⟩, 0⟩]
set_option maxRecDepth 100000 in
set_option maxHeartbeats 4000000 in
theorem compare_eq (g1 g2 c1 c2 : Nat) (w : World) (h1 : RdI w (some ⟨g1, 0, none⟩) xEq1) (h2 : RdI w (some ⟨g2, 0, none⟩) xEq2) :
    Calls Tryz.prog 21 #[.string ⟨#[61]⟩, .slice (some ⟨g1, 0, none⟩) 2 c1, .slice (some ⟨g2, 0, none⟩) 1 c2] w fun e w' => e = .returned (.tuple #[.bool true, .int .i64 0]) ∧ Below w.heap.size w w' := by
  have k1 : ∀ y ∈ xEq1, Good y := by
    intro y hy
    simp only [xEq1, List.mem_cons, List.not_mem_nil, or_false] at hy
    rcases hy with rfl | rfl
    · exact .int 1
    · exact .node ⟨#[50]⟩ 3 ascii_two le8_one
  have k2 : ∀ y ∈ xEq2, Good y := by
    intro y hy
    simp only [xEq2, List.mem_cons, List.not_mem_nil, or_false] at hy
    subst hy
    exact .str ⟨#[50]⟩ ascii_two le8_one
  have H1 := hide h1
  have H2 := hide h2
  clear h1 h2
  have i10 := ix_item0 g1 2 c1 (by decide)
  have i11 := ix_item1 g1 2 c1 (by decide)
  have i20 := ix_item0 g2 1 c2 (by decide)
  go_enter Tryz.func21, Tryz.ntmps21
  go_wp2_with fail
  refine (holds_eq 0 true w rfl).mono ?_
  rintro e w1 ⟨rfl, rfl⟩
  go_wp2_with fail
  refine (right_two g1 g2 c1 c2 xEq1 xEq2 w H1.out H2.out k1 k2 (by decide) (by decide) 2 1 rfl rfl).mono ?_
  rintro e w1 ⟨rfl, hb1⟩
  obtain ⟨a_0, a_1, a_2, a_3⟩ := (H1.out.keep hb1).z0 _ rfl
  obtain ⟨b_0, b_1, b_2, b_3⟩ := ((H2.out.keep hb1).alloc (.cells #[.int .u8 2, .int .i64 1, .string ⟨#[]⟩, .int .i64 0] 37)).z0 _ rfl
  go_wp2_with fail
  refine wp_loop_rounds 3 ?_
  rw [rounds_succ]
  go_wp2_with fail
  refine wp_loop_rounds 3 ?_
  rw [rounds_succ]
  go_wp2_with fail
  refine (order_one_two 1 _).mono ?_
  rintro e w2 ⟨rfl, hb2⟩
  have hB2 := chain0 hb1 (chain2 (Below.refl _ _) hb2)
  have hc2 : cmpInt 1 2 = -1 := rfl
  simp only [hc2]
  clear hb2 a_0 a_1 a_2 a_3 b_0 b_1 b_2 b_3
  go_wp2_with fail
  refine (holds_eq (-1) false w2 rfl).mono ?_
  rintro e w3 ⟨rfl, rfl⟩
  go_wp2_with fail
  rw [rounds_succ]
  go_wp2_with fail
  rw [rounds_succ]
  obtain ⟨a_0, a_1, a_2, a_3⟩ := (H1.out.keep hB2).z1 _ rfl
  obtain ⟨b_0, b_1, b_2, b_3⟩ := ((H2.out.keep hB2).alloc (.cells #[.int .u8 1, .int .i64 0, .string ⟨#[50]⟩, .int .i64 3] 37)).z0 _ rfl
  go_wp2_with fail
  refine wp_loop_rounds 3 ?_
  rw [rounds_succ]
  go_wp2_with fail
  refine (order_node_two 3 _).mono ?_
  rintro e w3 ⟨rfl, hb3⟩
  have hB3 := chain0 hB2 (chain2 (Below.refl _ _) hb3)
  clear hb3 a_0 a_1 a_2 a_3 b_0 b_1 b_2 b_3
  go_wp2_with fail
  refine (holds_eq 0 true w3 rfl).mono ?_
  rintro e w4 ⟨rfl, rfl⟩
  go_wp2
  go_ret2
  exact ⟨rfl, hB3⟩
set_option maxRecDepth 100000 in
set_option maxHeartbeats 4000000 in
theorem compare_lt (g1 g2 c1 c2 : Nat) (ev : Value) (w : World) (hv : w.cell? ⟨5, 0, none⟩ = some ev) (hev : ev = .nilIface ∨ ∃ te pe, ev = .iface te pe) (h1 : RdI w (some ⟨g1, 0, none⟩) xOne) (h2 : RdI w (some ⟨g2, 0, none⟩) xLt2) :
    Calls Tryz.prog 21 #[.string ⟨#[60]⟩, .slice (some ⟨g1, 0, none⟩) 1 c1, .slice (some ⟨g2, 0, none⟩) 1 c2] w fun e w' => e = .returned (.tuple #[.bool false, .int .i64 250]) ∧ Below w.heap.size w w' := by
  have k1 : ∀ y ∈ xOne, Good y := by
    intro y hy
    simp only [xOne, List.mem_cons, List.not_mem_nil, or_false] at hy
    subst hy
    exact .int 1
  have k2 : ∀ y ∈ xLt2, Good y := by
    intro y hy
    simp only [xLt2, List.mem_cons, List.not_mem_nil, or_false] at hy
    subst hy
    exact .str ⟨#[120]⟩ ascii_x le8_one
  have H1 := hide h1
  have H2 := hide h2
  have Hv := hide hv
  clear h1 h2 hv
  have i10 := ix_item0 g1 1 c1 (by decide)
  have i20 := ix_item0 g2 1 c2 (by decide)
  go_enter Tryz.func21, Tryz.ntmps21
  go_wp2_with fail
  refine (holds_lt 0 false w rfl).mono ?_
  rintro e w1 ⟨rfl, rfl⟩
  go_wp2_with fail
  refine (right_two g1 g2 c1 c2 xOne xLt2 w H1.out H2.out k1 k2 (by decide) (by decide) 1 1 rfl rfl).mono ?_
  rintro e w1 ⟨rfl, hb1⟩
  obtain ⟨a_0, a_1, a_2, a_3⟩ := (H1.out.keep hb1).z0 _ rfl
  obtain ⟨b_0, b_1, b_2, b_3⟩ := ((H2.out.keep hb1).alloc (.cells #[.int .u8 2, .int .i64 1, .string ⟨#[]⟩, .int .i64 0] 37)).z0 _ rfl
  go_wp2_with fail
  refine wp_loop_rounds 2 ?_
  rw [rounds_succ]
  go_wp2_with fail
  refine wp_loop_rounds 2 ?_
  rw [rounds_succ]
  go_wp2_with fail
  refine (order_one_x 1 ev _ (cell_keep (((Below.refl _ _).alloc (by exact Nat.le_refl _) _).alloc (by simp) _) (cell_keep hb1 Hv.out)) hev).mono ?_
  rintro e w2 ⟨rfl, hb2⟩
  have hB2 := chain0 hb1 (chain2 (Below.refl _ _) hb2)
  clear hb2 a_0 a_1 a_2 a_3 b_0 b_1 b_2 b_3
  go_wp2
  go_ret2
  exact ⟨rfl, hB2⟩
end Go.Proofs.YtmnmnnocgimcpaaGreatDoor
