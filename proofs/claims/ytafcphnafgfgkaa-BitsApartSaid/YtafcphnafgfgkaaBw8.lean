/- Contract of bits.Begins. -/
import Derived.Test.YtafcphnafgfgkaaBw4
import Derived.Test.YtafcphnafgfgkaaBw5
import Derived.Test.YtafcphnafgfgkaaBw6
import Derived.Test.YtafcphnafgfgkaaBcm
import Derived.Test.YtafcphnafgfgkaaBeq
namespace Go.Proofs.Ytafcphnafgfgkaa
open Go.RowKit Bm
set_option maxRecDepth 100000 in
set_option maxHeartbeats 400000 in
theorem begins_any (l m : List Bool) (w : World) (hl : l.length ≤ 1048576) (hm : m.length ≤ 1048576) :
    Calls Try.prog 33 #[bitsV l, bitsV m] w fun e w' => e = .returned (.bool (decide (l.take m.length = m))) ∧ Below w.heap.size w w' := by
  by_cases h : m.length ≤ l.length
  · have hx : ((l.drop 0).take m.length).length = m.length := by simp; omega
    have heq := fun W => run_eqBits ((l.drop 0).take m.length) m W
    rw [List.drop_zero] at heq
    rw [show bitsV l = .agg #[.string (pk l), .int .i64 (l.length : Int)] from rfl, show bitsV m = .agg #[.string (pk m), .int .i64 (m.length : Int)] from rfl]
    have hcut : ∀ W, Calls Try.prog 30 #[.agg #[.string (pk l), .int .i64 (l.length : Int)], .int .i64 0, .int .i64 m.length] W fun e w' => e = .returned (.tuple #[.agg #[.string (pk (l.take m.length)), .int .i64 ((l.take m.length).length : Int)], .bool true]) ∧ Below W.heap.size W w' :=
      fun W => cut_okZ l 0 m.length 0 m.length W rfl (by omega) hl (by omega)
    have Hcut := hide hcut
    generalize l.take m.length = x at *
    have Hx := hide hx
    clear hx hcut
    go_enter Try.func33, Try.ntmps33
    go_wp2_with fail
    refine (Hcut.out _).mono ?_
    rintro e w1 ⟨rfl, hb1⟩
    have h1 : Blk w1 (w.heap.size + 1) 26 #[.string (pk m), .int .i64 m.length] := Blk.keep (by simp [blk_alloc_at]) hb1
    have hsz := hb1.size
    simp only [World.size_alloc] at hsz
    have hb := (((Below.refl _ _).alloc (Nat.le_refl _) _).alloc (by simp) _).trans (hb1.mono (B' := w.heap.size) (by simp; omega))
    have hc0 := fun o => (h1.alloc o).cell 0
    have hc1 := fun o => (h1.alloc o).cell 1
    simp only [List.getElem?_toArray, List.getElem?_cons_zero, List.getElem?_cons_succ] at hc0 hc1
    clear hb1 h1
    go_wp2
    go_ret
    exact ⟨rfl, hb.alloc (by omega) _⟩
  · have hne : ¬ (l.take m.length = m) := by
      intro e
      have : (l.take m.length).length = m.length := by rw [e]
      simp at this; omega
    rw [show decide (l.take m.length = m) = false from by simp [hne]]
    rw [show bitsV l = .agg #[.string (pk l), .int .i64 (l.length : Int)] from rfl, show bitsV m = .agg #[.string (pk m), .int .i64 (m.length : Int)] from rfl]
    have hlt : (l.length : Int) < m.length := by omega
    have hcut : ∀ W, Calls Try.prog 30 #[.agg #[.string (pk l), .int .i64 (l.length : Int)], .int .i64 0, .int .i64 m.length] W fun e w' => e = .returned (.tuple #[.agg #[.string ⟨#[]⟩, .int .i64 0], .bool false]) ∧ Below W.heap.size W w' :=
      fun W => cut_no l 0 m.length W hl (.inr (.inr hlt))
    have Hcut := hide hcut
    clear hcut h hne
    go_enter Try.func33, Try.ntmps33
    go_wp2_with fail
    refine (Hcut.out _).mono ?_
    rintro e w1 ⟨rfl, hb1⟩
    have hsz := hb1.size
    simp only [World.size_alloc] at hsz
    have hb := (((Below.refl _ _).alloc (Nat.le_refl _) _).alloc (by simp) _).trans (hb1.mono (B' := w.heap.size) (by simp; omega))
    clear hb1
    go_wp2
    go_ret
    exact ⟨rfl, hb.alloc (by omega) _⟩
end Go.Proofs.Ytafcphnafgfgkaa
