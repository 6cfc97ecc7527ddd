/- value.substring: 'motor', from 2 on, three of it. -/
import Derived.Test.YtaieiogmolaebaaGreatDoorC13
namespace Go.Proofs.YtaieiogmolaebaaGreatDoor
open Go.RowKit
theorem ix_row0 (a c : Nat) (W : World) : (Instr.indexAt 22 (.slice (some ⟨a, 0, none⟩) 3 c) (.int .i64 0)).run Tryz.prog W = .ok (.pointer (some ⟨a, 0, none⟩)) W := ix_row a 0 3 c 0 (by decide) W
theorem ix_row1 (a c : Nat) (W : World) : (Instr.indexAt 22 (.slice (some ⟨a, 0, none⟩) 3 c) (.int .i64 1)).run Tryz.prog W = .ok (.pointer (some ⟨a, 1, none⟩)) W := by
 have := ix_row a 0 3 c 1 (by decide) W
 rwa [Nat.zero_add] at this
theorem ix_row2 (a c : Nat) (W : World) : (Instr.indexAt 22 (.slice (some ⟨a, 0, none⟩) 3 c) (.int .i64 2)).run Tryz.prog W = .ok (.pointer (some ⟨a, 2, none⟩)) W := by
 have := ix_row a 0 3 c 2 (by decide) W
 rwa [Nat.zero_add] at this
def motorS : ByteArray := ⟨#[109, 111, 116, 111, 114]⟩
def cutM : Nat → List UInt8
 | 0 => []
 | 1 => []
 | 2 => [111]
 | 3 => [111, 116]
 | _ => [111, 116, 111]
theorem cutM_le (k : Nat) : (cutM k).length ≤ 3 := by
 match k with
 | 0 => decide
 | 1 => decide
 | 2 => decide
 | 3 => decide
 | k + 4 => exact Nat.le_refl 3
theorem ascii_motor : Ascii motorS := by unfold Ascii motorS; decide
theorem next_motor (W : World) (it k : Nat) (r : Int) (ty : TypeId) (hit : W.heap[it]? = some (.stringIter motorS k)) (hk : k < 5) (hr : ((motorS[k]'hk).toNat : Int) = r) :
  (Instr.next (.pointer (some ⟨it, 0, none⟩)) true ty).run Tryz.prog W = .ok (.tuple #[.bool true, .int .i64 k, .int .i32 r]) (W.iterAt it motorS (k + 1)) := by
 rw [Lib.run_next_ascii_at W it motorS k ty hit hk (by have := ascii_motor k hk; omega), hr]
theorem bld_new (w : World) (B b : Nat) (hB : B ≤ b) (h : Blk w b 149 #[.pointer none, .slice none 0 0]) : Lib.IsBuilderF 149 5 B b [] w :=
 .of (.inl ⟨hB, .slice none 0 0, h, ⟨by simp, .inl ⟨rfl, rfl⟩⟩, by simp [Value.ownBlock]⟩)
set_option maxRecDepth 100000 in
set_option maxHeartbeats 4000000 in
theorem substring_motor (a c g1 g2 g3 c1 c2 c3 : Nat) (w : World) (hr : Rd w (some ⟨a, 0, none⟩) [.slice (some ⟨g1, 0, none⟩) 1 c1, .slice (some ⟨g2, 0, none⟩) 1 c2, .slice (some ⟨g3, 0, none⟩) 1 c3])
  (h1 : RdI w (some ⟨g1, 0, none⟩) [⟨3, 0, motorS, 0⟩]) (h2 : RdI w (some ⟨g2, 0, none⟩) [⟨2, 2, ⟨#[]⟩, 0⟩]) (h3 : RdI w (some ⟨g3, 0, none⟩) [⟨2, 3, ⟨#[]⟩, 0⟩]) :
  Calls Tryz.prog 58 #[.slice (some ⟨a, 0, none⟩) 3 c] w fun e w' =>
   ∃ g, e = .returned (.tuple #[.slice (some ⟨g, 0, none⟩) 1 1, .int .i64 0]) ∧ w.heap.size ≤ g ∧ RdI w' (some ⟨g, 0, none⟩) [⟨3, 0, ⟨#[111, 116, 111]⟩, 0⟩] ∧ Below w.heap.size w w' := by
 have i0 := ix_row0 a c
 have i1 := ix_row1 a c
 have i2 := ix_row2 a c
 have a0 : w.cell? ⟨a, 0, none⟩ = some (.slice (some ⟨g1, 0, none⟩) 1 c1) := by
  obtain ⟨b, off, e, hx⟩ := hr.cellAt 0 _ rfl
  injection e with e; injection e with e1 e2; subst e1 e2; exact hx
 have a1 : w.cell? ⟨a, 1, none⟩ = some (.slice (some ⟨g2, 0, none⟩) 1 c2) := by
  obtain ⟨b, off, e, hx⟩ := hr.cellAt 1 _ rfl
  injection e with e; injection e with e1 e2; subst e1 e2; exact hx
 have a2 : w.cell? ⟨a, 2, none⟩ = some (.slice (some ⟨g3, 0, none⟩) 1 c3) := by
  obtain ⟨b, off, e, hx⟩ := hr.cellAt 2 _ rfl
  injection e with e; injection e with e1 e2; subst e1 e2; exact hx
 have H1 := hide h1
 have H2 := hide h2
 have H3 := hide h3
 have A1 := hide a1
 have A2 := hide a2
 clear h1 h2 h3 hr a1 a2
 go_enter Tryz.func58, Tryz.ntmps58
 go_wp2_with fail
 refine (string_str g1 c1 motorS _ H1.out ascii_motor (by decide)).mono ?_
 rintro e w1 ⟨rfl, hb1⟩
 have b1 := cell_keep hb1 A1.out
 clear a0
 go_wp2_with fail
 refine (one_num g2 c2 2 2 0 2 _ _ (H2.out.keep hb1) (isNum_int 2)).mono ?_
 rintro e w2 ⟨rfl, hb2⟩
 have hB2 := chain0 hb1 hb2
 have b2 := cell_keep hB2 A2.out
 clear b1 hb2
 go_wp2_with fail
 refine (one_num g3 c3 2 3 0 3 _ _ (H3.out.keep hB2) (isNum_int 3)).mono ?_
 rintro e w3 ⟨rfl, hb3⟩
 have hB3 := chain0 hB2 hb3
 clear b2 hb3
 have ew : wrap64 (2 + 3) = 5 := by kernel_rfl
 have ef : fit (2 + 3) = true := by kernel_rfl
 go_wp2_with fail
 refine (plus_any 2 3 (by unfold R64; decide) (by unfold R64; decide) _).mono ?_
 rintro e w4 ⟨rfl, rfl⟩
 rw [ew, ef]
 clear ew ef
 have hne : (w3.heap.size + 1) ≠ w3.heap.size := by omega
 have hbw : w.heap.size ≤ w3.heap.size := hB3.size
 have hiw : w.heap.size ≤ (w3.heap.size + 1) := by omega
 have hk := Blk.new w3 149 #[.pointer none, .slice none 0 0]
 have hbd0 := bld_new _ w.heap.size w3.heap.size hbw hk
 have hB5 := hB3.alloc hB3.size (.cells #[.pointer none, .slice none 0 0] 149)
 go_wp2_with fail
 go_loopw [11, 13] (fun p _ W => ∃ k : Nat, k ≤ 5 ∧ p = .int .i64 k ∧ W.heap[(w3.heap.size + 1)]? = some (.stringIter motorS k) ∧ Lib.IsBuilderF 149 5 w.heap.size w3.heap.size (Lib.byteCells (cutM k)) W ∧ Below w.heap.size w W) (fun _ _ W => 5 - W.iterPos (w3.heap.size + 1))
 case atStart => exact ⟨0, by decide, rfl, heap_new _ _ _ (by simp), hbd0.alloc _, hB5.alloc hB5.size _⟩
 case round =>
  obtain ⟨k, hk, rfl, hit, hbd, hB⟩ := hrel
  match k, hk with
  | 0, _ =>
   have hnx : ∀ ty, (Instr.next (.pointer (some ⟨(w3.heap.size + 1), 0, none⟩)) true ty).run Tryz.prog wr = _ := fun ty => next_motor wr (w3.heap.size + 1) 0 109 ty hit (by decide) (by decide)
   have hit2 := Lib.iterAt_heap wr (w3.heap.size + 1) motorS 0 (0 + 1) hit
   have hB2 := Lib.below_iterAt hB (k := (w3.heap.size + 1)) (by omega) motorS (0 + 1)
   have hbd2 := hbd.iterAt hit (0 + 1)
   go_wp2
   go_roundw
   case rel => exact ⟨0 + 1, by decide, rfl, hit2, hbd2, hB2⟩
   case measure =>
    have e1 : wr.iterPos (w3.heap.size + 1) = 0 := by simp [World.iterPos, hit]
    have e2 : (wr.iterAt (w3.heap.size + 1) motorS (0 + 1)).iterPos (w3.heap.size + 1) = 0 + 1 := by simp [World.iterPos, hit2]
    rw [e1, e2]; decide
  | 1, _ =>
   have hnx : ∀ ty, (Instr.next (.pointer (some ⟨(w3.heap.size + 1), 0, none⟩)) true ty).run Tryz.prog wr = _ := fun ty => next_motor wr (w3.heap.size + 1) 1 111 ty hit (by decide) (by decide)
   have hit2 := Lib.iterAt_heap wr (w3.heap.size + 1) motorS 1 (1 + 1) hit
   have hB2 := Lib.below_iterAt hB (k := (w3.heap.size + 1)) (by omega) motorS (1 + 1)
   have hbd2 := hbd.iterAt hit (1 + 1)
   have hsz := Lib.iterAt_size wr (w3.heap.size + 1) motorS (1 + 1)
   have hs2 := hB.size
   go_wp2_with fail
   refine (wr_any w.heap.size w3.heap.size (Lib.byteCells (cutM 1)) 111 (by decide) (by decide) _ hbd2 ?l1 ?l2).mono ?_
   case l1 => have := cutM_le 1; rw [Lib.byteCells_length]; omega
   case l2 => rw [hsz]; exact hs2
   rintro e w9 ⟨rfl, hbd9, hb9, hk9⟩
   have hB9 := hB2.trans hb9
   have hit9 := hk9.iter hit2 hne
   clear hb9 hk9 hnx
   go_wp2
   go_roundw
   case rel => exact ⟨1 + 1, by decide, rfl, hit9, .inr hbd9, hB9⟩
   case measure =>
    have e1 : wr.iterPos (w3.heap.size + 1) = 1 := by simp [World.iterPos, hit]
    have e2 : w9.iterPos (w3.heap.size + 1) = 1 + 1 := by simp [World.iterPos, hit9]
    rw [e1, e2]; decide
  | 2, _ =>
   have hnx : ∀ ty, (Instr.next (.pointer (some ⟨(w3.heap.size + 1), 0, none⟩)) true ty).run Tryz.prog wr = _ := fun ty => next_motor wr (w3.heap.size + 1) 2 116 ty hit (by decide) (by decide)
   have hit2 := Lib.iterAt_heap wr (w3.heap.size + 1) motorS 2 (2 + 1) hit
   have hB2 := Lib.below_iterAt hB (k := (w3.heap.size + 1)) (by omega) motorS (2 + 1)
   have hbd2 := hbd.iterAt hit (2 + 1)
   have hsz := Lib.iterAt_size wr (w3.heap.size + 1) motorS (2 + 1)
   have hs2 := hB.size
   go_wp2_with fail
   refine (wr_any w.heap.size w3.heap.size (Lib.byteCells (cutM 2)) 116 (by decide) (by decide) _ hbd2 ?l1 ?l2).mono ?_
   case l1 => have := cutM_le 2; rw [Lib.byteCells_length]; omega
   case l2 => rw [hsz]; exact hs2
   rintro e w9 ⟨rfl, hbd9, hb9, hk9⟩
   have hB9 := hB2.trans hb9
   have hit9 := hk9.iter hit2 hne
   clear hb9 hk9 hnx
   go_wp2
   go_roundw
   case rel => exact ⟨2 + 1, by decide, rfl, hit9, .inr hbd9, hB9⟩
   case measure =>
    have e1 : wr.iterPos (w3.heap.size + 1) = 2 := by simp [World.iterPos, hit]
    have e2 : w9.iterPos (w3.heap.size + 1) = 2 + 1 := by simp [World.iterPos, hit9]
    rw [e1, e2]; decide
  | 3, _ =>
   have hnx : ∀ ty, (Instr.next (.pointer (some ⟨(w3.heap.size + 1), 0, none⟩)) true ty).run Tryz.prog wr = _ := fun ty => next_motor wr (w3.heap.size + 1) 3 111 ty hit (by decide) (by decide)
   have hit2 := Lib.iterAt_heap wr (w3.heap.size + 1) motorS 3 (3 + 1) hit
   have hB2 := Lib.below_iterAt hB (k := (w3.heap.size + 1)) (by omega) motorS (3 + 1)
   have hbd2 := hbd.iterAt hit (3 + 1)
   have hsz := Lib.iterAt_size wr (w3.heap.size + 1) motorS (3 + 1)
   have hs2 := hB.size
   go_wp2_with fail
   refine (wr_any w.heap.size w3.heap.size (Lib.byteCells (cutM 3)) 111 (by decide) (by decide) _ hbd2 ?l1 ?l2).mono ?_
   case l1 => have := cutM_le 3; rw [Lib.byteCells_length]; omega
   case l2 => rw [hsz]; exact hs2
   rintro e w9 ⟨rfl, hbd9, hb9, hk9⟩
   have hB9 := hB2.trans hb9
   have hit9 := hk9.iter hit2 hne
   clear hb9 hk9 hnx
   go_wp2
   go_roundw
   case rel => exact ⟨3 + 1, by decide, rfl, hit9, .inr hbd9, hB9⟩
   case measure =>
    have e1 : wr.iterPos (w3.heap.size + 1) = 3 := by simp [World.iterPos, hit]
    have e2 : w9.iterPos (w3.heap.size + 1) = 3 + 1 := by simp [World.iterPos, hit9]
    rw [e1, e2]; decide
  | 4, _ =>
   have hnx : ∀ ty, (Instr.next (.pointer (some ⟨(w3.heap.size + 1), 0, none⟩)) true ty).run Tryz.prog wr = _ := fun ty => next_motor wr (w3.heap.size + 1) 4 114 ty hit (by decide) (by decide)
   have hit2 := Lib.iterAt_heap wr (w3.heap.size + 1) motorS 4 (4 + 1) hit
   have hB2 := Lib.below_iterAt hB (k := (w3.heap.size + 1)) (by omega) motorS (4 + 1)
   have hbd2 := hbd.iterAt hit (4 + 1)
   go_wp2
   go_roundw
   case rel => exact ⟨4 + 1, by decide, rfl, hit2, hbd2, hB2⟩
   case measure =>
    have e1 : wr.iterPos (w3.heap.size + 1) = 4 := by simp [World.iterPos, hit]
    have e2 : (wr.iterAt (w3.heap.size + 1) motorS (4 + 1)).iterPos (w3.heap.size + 1) = 4 + 1 := by simp [World.iterPos, hit2]
    rw [e1, e2]; decide
  | 5, _ =>
   have hnx : ∀ ty, (Instr.next (.pointer (some ⟨(w3.heap.size + 1), 0, none⟩)) true ty).run Tryz.prog wr = _ := fun ty => Lib.run_next_end_at wr (w3.heap.size + 1) motorS 5 ty hit (by decide)
   go_wp2_with fail
   refine (Tryz.Builder_String_any_k w.heap.size w3.heap.size (cutM 5) _ hbd hB.size).mono ?_
   rintro e w9 ⟨rfl, _, hb9, _⟩
   have hB9 := hB.trans hb9
   clear hb9 hnx
   go_wp2_with fail
   refine (joined_one ⟨(cutM 5).toArray⟩ _ (by decide)).mono ?_
   rintro e w10 ⟨g, rfl, hg, hr, hb10⟩
   have hB10 := chain0 hB9 hb10
   have Hr := hide hr
   have Hg := hide (Nat.le_trans hB9.size hg)
   clear hb10 hg hr
   go_wp2
   go_ret2
   exact ⟨g, rfl, Hg.out, Hr.out, hB10⟩
end Go.Proofs.YtaieiogmolaebaaGreatDoor
