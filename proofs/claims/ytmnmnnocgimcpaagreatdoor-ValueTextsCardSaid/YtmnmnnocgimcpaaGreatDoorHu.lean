/- Plain laws: what is told by hand of a text (ref05.Next, Texts) is what ValidString and the ranges over its runes tell. -/
import Derived.Test.YtmnmnnocgimcpaaGreatDoorTt
import Derived.Test.YtmnmnnocgimcpaaGreatDoorHU
namespace Go.Proofs.YtmnmnnocgimcpaaGreatDoor
open Go.RowKit
theorem rchr_eq (r : Nat) : rchr r = chr (r : Int) := by
  unfold rchr chr
  rw [Bool.eq_iff_iff]
  simp only [Bool.or_eq_true, Bool.and_eq_true, decide_eq_true_eq, beq_iff_eq, Bool.not_eq_true', Bool.or_eq_false_iff, Bool.and_eq_false_iff, decide_eq_false_iff_not, bne_iff_ne, ne_eq]
  omega
theorem rTf_eq (s : ByteArray) : ∀ (n k : Nat), rTf s n k = (scan s n k && vSf n (s.extract k s.size))
  | 0, k => rfl
  | n + 1, k => by
    unfold rTf scan vSf
    have hsz := ext_size s k
    by_cases hk : k < s.size
    · have hne : ¬ (s.extract k s.size).size = 0 := by omega
      rw [if_pos hk, if_pos hk, if_neg hne]
      have hv := nxt_vnum s k hk
      by_cases h0 : (nxt s k).2 = 0
      · rw [if_pos h0, if_pos (by rw [← hv]; exact h0), Bool.and_false]
      · rw [if_neg h0, if_neg (by rw [← hv]; exact h0), rTf_eq s n, rchr_eq, ← hv, ext_ext]
        rw [nxt_dec s k hk h0, Bool.and_assoc]
    · have he : (s.extract k s.size).size = 0 := by omega
      rw [if_neg hk, if_neg hk, if_pos he]; rfl
theorem rT_eq (s : ByteArray) : rTf s s.size 0 = tS s := by
  rw [rTf_eq]
  unfold tS vS
  have e : s.extract 0 s.size = s := by
    apply ByteArray.ext
    rw [ByteArray.data_extract]
    exact Array.extract_size
  rw [e]
end Go.Proofs.YtmnmnnocgimcpaaGreatDoor
