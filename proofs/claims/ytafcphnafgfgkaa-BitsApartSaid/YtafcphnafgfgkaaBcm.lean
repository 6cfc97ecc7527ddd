/- Contract of bits.Compare. -/
import Derived.Test.YtafcphnafgfgkaaBw4
import Derived.Test.YtafcphnafgfgkaaBpk
import Derived.Test.YtafcphnafgfgkaaBw7
import Derived.Deep.RegionHeld3
namespace Go.Proofs.Ytafcphnafgfgkaa
open Go.RowKit Bm
/-- how two rows stand -/
def cmpB (l m : List Bool) : Int :=
  orInt (Lib.compareBytes (pkL (l.take (min l.length m.length))) (pkL (m.take (min l.length m.length)))) (cmpInt l.length m.length)
set_option maxRecDepth 100000 in
set_option maxHeartbeats 1000000 in
theorem compare_any (l m : List Bool) (w : World) (hl : l.length ≤ 1048576) (hm : m.length ≤ 1048576) :
    Calls Try.prog 31 #[bitsV l, bitsV m] w fun e w' => e = .returned (.int .i64 (cmpB l m)) ∧ Below w.heap.size w w' := by
  have hcut1 : ∀ (x : Int) W, x = min (l.length : Int) m.length → Calls Try.prog 30 #[.agg #[.string (pk l), .int .i64 (l.length : Int)], .int .i64 0, .int .i64 x] W fun e w' => e = .returned (.tuple #[.agg #[.string (pk (l.take (min l.length m.length))), .int .i64 ((l.take (min l.length m.length)).length : Int)], .bool true]) ∧ Below W.heap.size W w' :=
    fun x W hx => cut_okZ l 0 x 0 (min l.length m.length) W rfl (by omega) hl (by omega)
  have hcut2 : ∀ (x : Int) W, x = min (l.length : Int) m.length → Calls Try.prog 30 #[.agg #[.string (pk m), .int .i64 (m.length : Int)], .int .i64 0, .int .i64 x] W fun e w' => e = .returned (.tuple #[.agg #[.string (pk (m.take (min l.length m.length))), .int .i64 ((m.take (min l.length m.length)).length : Int)], .bool true]) ∧ Below W.heap.size W w' :=
    fun x W hx => cut_okZ m 0 x 0 (min l.length m.length) W rfl (by omega) hm (by omega)
  rw [show bitsV l = .agg #[.string (pk l), .int .i64 (l.length : Int)] from rfl, show bitsV m = .agg #[.string (pk m), .int .i64 (m.length : Int)] from rfl]
  have hfin : cmpB l m = orInt (Lib.compareBytes (pkL (l.take (min l.length m.length))) (pkL (m.take (min l.length m.length)))) (cmpInt l.length m.length) := rfl
  have Hcut1 := hide hcut1
  have Hcut2 := hide hcut2
  generalize l.take (min l.length m.length) = x at *
  generalize m.take (min l.length m.length) = y at *
  have Hfin := hide hfin
  clear hcut1 hcut2 hfin
  rcases (by omega : (m.length : Int) < l.length ∨ (l.length : Int) ≤ m.length) with hmn | hmn
  all_goals
    go_enter Try.func31, Try.ntmps31
    go_wp2_with fail
    refine (Hcut1.out _ _ (by omega)).mono ?_
    rintro e w1 ⟨rfl, hb1⟩
    have h1 : Blk w1 (w.heap.size + 1) 26 #[.string (pk m), .int .i64 m.length] := Blk.keep (by simp [blk_alloc_at]) hb1
    have h0 : Blk w1 w.heap.size 26 #[.string (pk l), .int .i64 l.length] := Blk.keep ((Blk.new w _ _).alloc _) hb1
    have hsz := hb1.size
    simp only [World.size_alloc] at hsz
    have hb := (((Below.refl _ _).alloc (Nat.le_refl _) _).alloc (by simp) _).trans (hb1.mono (B' := w.heap.size) (by simp; omega))
    have hc0 := fun o => (h1.alloc o).cell 0
    have hc1 := fun o => (h1.alloc o).cell 1
    simp only [List.getElem?_toArray, List.getElem?_cons_zero, List.getElem?_cons_succ] at hc0 hc1
    clear hb1
    go_wp2_with fail
    refine (Hcut2.out _ _ (by omega)).mono ?_
    rintro e w2 ⟨rfl, hb2⟩
    have h12 := (h1.alloc _).keep hb2
    have h02 := (h0.alloc _).keep hb2
    have hx2 := Blk.keep (Blk.new w1 26 #[.string (pk x), .int .i64 x.length]) hb2
    have hb3 := (hb.alloc (by omega) _).trans (hb2.mono (B' := w.heap.size) (by simp; omega))
    have hsz2 := hb2.size
    simp only [World.size_alloc] at hsz2
    clear hc0 hc1 hb hb2 h0 h1
    go_wp2_with fail
    obtain ⟨w3, hw3⟩ : ∃ w3, w3 = w2.alloc (.cells #[.string (pk y), .int .i64 y.length] 26) := ⟨_, rfl⟩
    have q1 : w3.cell? ⟨w1.heap.size, 0, none⟩ = some (.string (pk x)) := by rw [hw3]; exact (hx2.alloc _).cell 0
    have q2 : w3.cell? ⟨w1.heap.size, 1, none⟩ = some (.int .i64 x.length) := by rw [hw3]; exact (hx2.alloc _).cell 1
    have q3 : w3.cell? ⟨w2.heap.size, 0, none⟩ = some (.string (pk y)) := by rw [hw3]; exact (Blk.new _ _ _).cell 0
    have q4 : w3.cell? ⟨w2.heap.size, 1, none⟩ = some (.int .i64 y.length) := by rw [hw3]; exact (Blk.new _ _ _).cell 1
    have q5 : w3.cell? ⟨w.heap.size, 1, none⟩ = some (.int .i64 l.length) := by rw [hw3]; exact (h02.alloc _).cell 1
    have q6 : w3.cell? ⟨w.heap.size + 1, 1, none⟩ = some (.int .i64 m.length) := by rw [hw3]; exact (h12.alloc _).cell 1
    have hb4 : Below w.heap.size w w3 := by rw [hw3]; exact hb3.alloc (by omega) _
    have hsz3 : w.heap.size ≤ w3.heap.size := hb4.size
    rw [← hw3]
    clear hw3 hb3 h12 h02 hx2
    go_region_held3 (fun w' => w'.cell? ⟨w1.heap.size, 0, none⟩ = some (.string (pk x)) ∧ w'.cell? ⟨w1.heap.size, 1, none⟩ = some (.int .i64 x.length) ∧ w'.cell? ⟨w2.heap.size, 0, none⟩ = some (.string (pk y)) ∧
        w'.cell? ⟨w2.heap.size, 1, none⟩ = some (.int .i64 y.length) ∧ w'.cell? ⟨w.heap.size, 1, none⟩ = some (.int .i64 l.length) ∧ w'.cell? ⟨w.heap.size + 1, 1, none⟩ = some (.int .i64 m.length))
      (first | go_keep | (go_split_ands; (refine ⟨?_, ?_, ?_, ?_, ?_, ?_⟩) <;> exact cell_keep (by assumption) (by assumption)))
      (first
        | (go_at_call_of 18 (Value.agg #[Value.string (pk x), Value.int IntKind.i64 (x.length : Int)])
           refine (pack_any x _).mono ?_
           rintro e w4 ⟨fx, gx, rfl, hx1, hx2, hx3, hx4, hx5⟩)
        | (go_at_call_of 18 (Value.agg #[Value.string (pk y), Value.int IntKind.i64 (y.length : Int)])
           refine (pack_any y _).mono ?_
           rintro e w5 ⟨fy, gy, rfl, hy1, hy2, hy3, hy4, hy5⟩)
        | (go_at_call 42
           refine (bytesCompare_any _ _ (pkL x) (pkL y) _ _ _ _ _ (by have := (hx1.keep hy5).rd (nb x.length); rw [hx3] at this; exact this) (by have := hy1.rd (nb y.length); rw [hy3] at this; exact this) (length_pkL x).symm (length_pkL y).symm).mono ?_
           rintro e w6 ⟨rfl, rfl⟩)
        | (go_at_call 43
           refine (cmpCompare_any _ _ _).mono ?_
           rintro e w7 ⟨rfl, rfl⟩)
        | (go_at_call 41
           refine (cmpOr_any _ _ _ _ (Blk.new _ _ _)).mono ?_
           rintro e w8 ⟨rfl, rfl⟩))
    go_wp2
    go_ret
    refine ⟨ret_int Hfin.out.symm, ?_⟩
    have k4 := chain hb4.drew hsz3 hx5
    have k5 := chain k4 (Nat.le_trans hsz3 hx5.size) hy5
    exact k5.alloc (Nat.le_trans hsz3 (Nat.le_trans hx5.size hy5.size)) _
end Go.Proofs.Ytafcphnafgfgkaa
