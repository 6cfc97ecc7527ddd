/- Two rows held against each other. -/
import Derived.Test.YtofbcgehemclbaaBw1
namespace Go.Proofs.Ytofbcgehemclbaa
open Go.RowKit Bm
set_option maxHeartbeats 400000 in
theorem run_eqBits (l m : List Bool) (w : World) : (binOp .eql 50 (.agg #[.string (pk l), .int .i64 (l.length : Int)]) (.agg #[.string (pk m), .int .i64 (m.length : Int)])).run Try.prog w = .ok (.bool (decide (l = m))) w := by
  have hu := Try.underlying50
  have hs := Try.underlying9
  have hi := Try.underlying3
  go_simp
  by_cases h : l = m
  · subst h; simp
  · by_cases h1 : (pk l).toList = (pk m).toList
    · have h2 : ¬ ((l.length : Int) = m.length) := by
        intro e
        apply h
        refine pkL_inj l m (by omega) ?_
        have := h1
        rw [Lib.toList_data, Lib.toList_data, pk_list, pk_list] at this
        exact this
      rw [if_pos h1, if_neg h2]; simp [h]
    · rw [if_neg h1]; simp [h]
end Go.Proofs.Ytofbcgehemclbaa
