/- Contract of parchmentkit.OverBytes. -/
import Derived.Test.YtafcphnafgfgkaaKit
namespace Go.Proofs.Ytafcphnafgfgkaa
open Go.RowKit
theorem only_cell {a w : World} {g : Nat} (h : a.grownBy w (some g)) (i : Nat) (u : Value) : a.grownBy (w.setCell ⟨g, i, none⟩ u) (some g) :=
  ⟨h.os, h.tape, h.output, by simpa [World.setCell] using h.size, fun k hk hne => (Below.heap_setCell w ⟨g, i, none⟩ u k (by
    intro e
    exact hne (by rw [e]))).trans (h.block k hk hne)⟩
set_option maxRecDepth 100000 in
set_option maxHeartbeats 400000 in
theorem over_any (g n : Nat) (full : List UInt8) (w : World) (hx : Rw w g full) (hn : full.length = n + 12) (hle : n ≤ 1048576) :
    Calls Try.prog 25 #[.slice (some ⟨g, 0, none⟩) n (n + 12)] w fun e w' => e = .returned (.tuple #[]) ∧ w.grownBy w' (some g) := by
  have Hn := hide hn
  clear hn
  go_enter Try.func25, Try.ntmps25
  go_wp2_with fail
  go_loopw [3] (fun x wr => ∃ (k : Nat) (fl : List UInt8), k ≤ n + 12 ∧ x = .int .i64 k ∧ Rw wr g fl ∧ fl.length = full.length ∧ w.grownBy wr (some g)) (fun x _ => n + 12 - (intOf x).toNat)
  case atStart => exact ⟨0, full, Nat.zero_le _, rfl, hx, rfl, World.grownBy.refl _ _⟩
  case round =>
    obtain ⟨k, fl, hk, rfl, hr, hl, hb⟩ := hrel
    have Hl := hide hl
    clear hl
    by_cases hlt : k < n + 12
    · have hkf : k < fl.length := by have := Hl.out; have := Hn.out; omega
      have hc := hr.cell k hkf
      have hf := hr.frozen k hkf
      go_wp2_with (go_at_call 40; refine (markByte_any _ _ _).mono ?_; rintro e w' ⟨rfl, rfl⟩)
      go_roundw
      case rel =>
        refine ⟨k + 1, fl.set k (mkB 2 k), by omega, by go_num, hr.set_ k _, by rw [List.length_set]; exact Hl.out, only_cell hb _ _⟩
      case measure => simp [intOf]; omega
    · go_wp2
      go_end0
      exact ⟨rfl, hb⟩
end Go.Proofs.Ytafcphnafgfgkaa
