/- The law's call: the one item that a function answers. -/
import Derived.Test.YtmnmnnocgimcpaaGreatDoorKc
import Derived.Test.YtmnmnnocgimcpaaGreatDoorVf
import Derived.Test.YtmnmnnocgimcpaaGreatDoorHv
namespace Go.Proofs.YtmnmnnocgimcpaaGreatDoor
open Go.RowKit
def zeroI : It := ⟨0, 0, ⟨#[]⟩, 0⟩
def callI (v : List It × Int) : It := if v.2 = 0 then (match v.1 with | [x] => x | _ => zeroI) else zeroI
def itA (x : It) : Value := .agg #[.int .u8 x.kind, .int .i64 x.num, .string x.text, .int .i64 x.node]
set_option maxRecDepth 100000 in
set_option maxHeartbeats 2000000 in
theorem lcall_any (name : ByteArray) (p : Option Addr) (n c : Nat) (v : List It × Int) (w : World) (hv : v.1.length ≤ 1) (h : ∀ W, Below w.heap.size w W → Calls Tryz.prog 8 #[.string name, .slice p n c] W (Res W v.1 v.2)) :
    Calls Tryz.prog 16 #[.string name, .slice p n c] w fun e w' => e = .returned (itA (callI v)) ∧ Below w.heap.size w w' := by
  have hb0 : Below w.heap.size w (w.alloc (.cells #[.int .u8 0, .int .i64 0, .string ⟨#[]⟩, .int .i64 0] 37)) := (Below.refl _ _).alloc (Nat.le_refl _) _
  have x_r := Blk.new w 37 #[.int .u8 0, .int .i64 0, .string ⟨#[]⟩, .int .i64 0]
  have H := hide (h _ hb0)
  have X_r := hide x_r
  clear h x_r
  obtain ⟨L, E⟩ := v
  dsimp only at H hv
  have hL : L = [] ∨ ∃ x, L = [x] := by
    match L, hv with
    | [], _ => exact .inl rfl
    | [x], _ => exact .inr ⟨x, rfl⟩
  clear hv
  go_enter Tryz.func16, Tryz.ntmps16
  go_wp2_with fail
  refine H.out.mono ?_
  rintro e w1 ⟨u, rfl, ho, hb1⟩
  have y_r := X_r.out.keep hb1
  have hB1 := chain0 hb0 hb1
  have c0 := y_r.cell 0
  have c1 := y_r.cell 1
  have c2 := y_r.cell 2
  have c3 := y_r.cell 3
  have f0 := y_r.frozen 0
  have f1 := y_r.frozen 1
  have f2 := y_r.frozen 2
  have f3 := y_r.frozen 3
  simp only [List.getElem?_toArray, List.getElem?_cons_zero, List.getElem?_cons_succ] at c0 c1 c2 c3
  have Ho := hide ho
  clear ho hb1 hb0
  by_cases hE : E = 0
  · subst hE
    rcases hL with rfl | ⟨x, rfl⟩
    · have HC : Hid (callI ([], 0) = zeroI) := by show _ = _; rfl
      obtain ⟨a, cap, rfl⟩ := ow_forms Ho.out
      dsimp only [List.length_nil]
      go_wp2
      (try simp only [Exit.inBlock, Exit.then])
      refine bodyPost_ret (results_cell_row (P := Tryz.prog) (fn := Tryz.f16) rfl _ _ w.heap.size 37 #[.int .u8 0, .int .i64 0, .string ⟨#[]⟩, .int .i64 0] (0, 0) _ rfl ((((y_r.set_ 0 _).set_ 1 _).set_ 2 _).set_ 3 _) Tryz.underlying37 rfl (by kernel_rfl)) rfl ?_
      exact ⟨by rw [HC.out]; rfl, (((hB1.setCell (p := ⟨w.heap.size, 0, none⟩) (Nat.le_refl _) _).setCell (p := ⟨w.heap.size, 1, none⟩) (Nat.le_refl _) _).setCell (p := ⟨w.heap.size, 2, none⟩) (Nat.le_refl _) _).setCell (p := ⟨w.heap.size, 3, none⟩) (Nat.le_refl _) _⟩
    · have HC : Hid (callI ([x], 0) = x) := by show _ = _; rfl
      obtain ⟨g, cap, rfl, hg, hgl, hcap⟩ := ow_form Ho.out (by simp)
      have hrd : RdI w1 (some ⟨g, 0, none⟩) [x] := Ho.out.rd
      obtain ⟨b2, o2, e2, d0, d1, d2, d3⟩ := at0 hrd
      injection e2 with e2
      injection e2 with e2 e3
      subst e2 e3
      obtain ⟨xk, xa, xt, xd⟩ := x
      dsimp only at d0 d1 d2 d3
      have hix := ix_at0 g 0 1 cap (by omega)
      have hne : g ≠ w.heap.size := by simp at hg; omega
      clear hrd
      go_wp2
      (try simp only [Exit.inBlock, Exit.then])
      refine bodyPost_ret (results_cell_row (P := Tryz.prog) (fn := Tryz.f16) rfl _ _ w.heap.size 37 #[.int .u8 xk, .int .i64 xa, .string xt, .int .i64 xd] (0, 0) _ rfl ((((y_r.set_ 0 _).set_ 1 _).set_ 2 _).set_ 3 _) Tryz.underlying37 rfl (by kernel_rfl)) rfl ?_
      exact ⟨by rw [HC.out]; rfl, (((hB1.setCell (p := ⟨w.heap.size, 0, none⟩) (Nat.le_refl _) _).setCell (p := ⟨w.heap.size, 1, none⟩) (Nat.le_refl _) _).setCell (p := ⟨w.heap.size, 2, none⟩) (Nat.le_refl _) _).setCell (p := ⟨w.heap.size, 3, none⟩) (Nat.le_refl _) _⟩
  · have HC : Hid (callI (L, E) = zeroI) := by show _ = _; unfold callI; rw [if_neg hE]
    have hE1 : (E != 0) = true := by simpa using hE
    clear hE hL
    go_wp2
    (try simp only [Exit.inBlock, Exit.then])
    refine bodyPost_ret (results_cell_row (P := Tryz.prog) (fn := Tryz.f16) rfl _ _ w.heap.size 37 #[.int .u8 0, .int .i64 0, .string ⟨#[]⟩, .int .i64 0] (0, 0) _ rfl ((((y_r.set_ 0 _).set_ 1 _).set_ 2 _).set_ 3 _) Tryz.underlying37 rfl (by kernel_rfl)) rfl ?_
    exact ⟨by rw [HC.out]; rfl, (((hB1.setCell (p := ⟨w.heap.size, 0, none⟩) (Nat.le_refl _) _).setCell (p := ⟨w.heap.size, 1, none⟩) (Nat.le_refl _) _).setCell (p := ⟨w.heap.size, 2, none⟩) (Nat.le_refl _) _).setCell (p := ⟨w.heap.size, 3, none⟩) (Nat.le_refl _) _⟩
end Go.Proofs.YtmnmnnocgimcpaaGreatDoor
