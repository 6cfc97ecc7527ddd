/- Contract of bits: Pack. -/
import Derived.Test.YtafcphnafgfgkaaBw1
namespace Go.Proofs.Ytafcphnafgfgkaa
open Go.RowKit Bm
set_option maxRecDepth 100000 in
set_option maxHeartbeats 400000 in
theorem pack_any (l : List Bool) (w : World) :
    Calls Try.prog 18 #[bitsV l] w fun e w' => ∃ full g, e = .returned (.slice (some ⟨g, 0, none⟩) (nb l.length) full.length) ∧ Rw w' g full ∧ w.heap.size ≤ g ∧
      full.take (nb l.length) = pkL l ∧ nb l.length ≤ full.length ∧ Below w.heap.size w w' := by
  obtain ⟨full, w2, hrun, hrw, htk, hle, hsz, hb⟩ := run_to_bytes (w.alloc (.cells #[.string (pk l), .int .i64 (l.length : Int)] 26)) (pk l)
  rw [size_pk, pk_list] at htk
  rw [size_pk] at hrun hle
  simp only [World.size_alloc] at hrun hrw
  have Hend : Hid (Rw w2 (w.heap.size + 1) full ∧ w.heap.size ≤ w.heap.size + 1 ∧ full.take (nb l.length) = pkL l ∧ nb l.length ≤ full.length ∧ Below w.heap.size w w2) :=
    ⟨hrw, by omega, htk, hle, ((Below.refl _ _).alloc (Nat.le_refl _) _).trans (hb.mono (by simp))⟩
  clear hrw htk hle hsz hb
  rw [show bitsV l = .agg #[.string (pk l), .int .i64 (l.length : Int)] from rfl]
  go_enter Try.func18, Try.ntmps18
  go_wp2
  go_ret
  exact ⟨full, w.heap.size + 1, rfl, Hend.out⟩
end Go.Proofs.Ytafcphnafgfgkaa
