/- Contract of bits.Unpack. -/
import Derived.Test.YtofbcgehemclbaaBpk
namespace Go.Proofs.Ytofbcgehemclbaa
open Go.RowKit Bm
set_option maxRecDepth 100000 in
set_option maxHeartbeats 400000 in
theorem unpack_ok (l : List Bool) (a : Option Addr) (cap : Nat) (w : World) (hl : l.length ≤ 1048576) (hr : RdB w a (pkL l)) :
    Calls Try.prog 58 #[.slice a (nb l.length) cap, .int .i64 l.length] w fun e w' => e = .returned (.tuple #[bitsV l, .bool true]) ∧ Below w.heap.size w w' := by
  have hcv := (hr.alloc (.cells #[.string ⟨#[]⟩, .int .i64 0] 50)).str (nb l.length) cap (length_pkL l).symm
  have hnb : ((nb l.length : Nat) : Int) = ((l.length : Int) + 7) / 8 := by unfold nb; omega
  have hne : (((nb l.length : Nat) : Int) != ((l.length : Int) + 7) / 8) = false := by simp [hnb]
  have Hnb := hide hnb
  clear hnb
  by_cases h8 : l.length % 8 = 0
  · have h8b : ((l.length : Int) % 8 != 0) = false := by rw [bne_eq_false_iff_eq]; omega
    clear h8 hr
    go_enter Try.func58, Try.ntmps58
    go_wp2
    exact bodyPost_ret (v := .tuple #[bitsV l, .bool true]) (by simp [results, Try.results58, go_sem]; rfl) rfl ⟨rfl, (Below.refl _ _).alloc (Nat.le_refl _) _⟩
  · have h8b : ((l.length : Int) % 8 != 0) = true := by rw [bne_iff_ne]; omega
    have hpos : 0 < nb l.length := by unfold nb; omega
    obtain ⟨b, off, rfl, hlt, hc⟩ : ∃ b off, a = some ⟨b, off, none⟩ ∧ b < w.heap.size ∧ ∀ i (h : i < (pkL l).length), w.cell? ⟨b, off + i, none⟩ = some (.int .u8 (((pkL l)[i]'h).toNat : Int)) := by
      rcases hr with h | h
      · have := length_pkL l; rw [h] at this; simp at this; omega
      · exact h
    obtain ⟨x, hlast, hx⟩ : ∃ x : Nat, w.cell? ⟨b, off + (nb l.length - 1), none⟩ = some (.int .u8 (x : Int)) ∧ x = byteN l (nb l.length - 1) :=
      ⟨_, hc (nb l.length - 1) (by rw [length_pkL]; omega), wk_get l (nb l.length) (nb l.length - 1) (by rw [length_wk]; omega)⟩
    have hz : ((x : Int) * 2 ^ (l.length % 8) % 256 != 0) = false := by
      have h0 := (tail_zero x (l.length % 8) (by omega) (by rw [hx]; exact byteN_lt _ _)).2 (fun j hj hj8 => by
        rw [hx, byteN_bit l _ j hj8, getD_ge _ _ (by unfold nb; omega)]; rfl)
      have e : ((x : Int) * 2 ^ (l.length % 8) % 256) = ((x * 2 ^ (l.length % 8) % 256 : Nat) : Int) := by push_cast; rfl
      rw [e, h0]; rfl
    have hup : nb l.length ≤ 131072 := by unfold nb; omega
    clear hr hc hx h8
    go_enter Try.func58, Try.ntmps58
    go_wp2
    exact bodyPost_ret (v := .tuple #[bitsV l, .bool true]) (by simp [results, Try.results58, go_sem]; rfl) rfl ⟨rfl, (Below.refl _ _).alloc (Nat.le_refl _) _⟩
/-- what Unpack refuses -/
def noBits (bs : List UInt8) (n : Int) : Prop :=
  n < 0 ∨ 1048576 < n ∨ bs.length ≠ nb n.toNat ∨ (n % 8 ≠ 0 ∧ bs.length ≠ 0 ∧ (bs.getD (bs.length - 1) 0).toNat * 2 ^ (n.toNat % 8) % 256 ≠ 0)
set_option maxRecDepth 100000 in
set_option maxHeartbeats 400000 in
theorem unpack_no (bs : List UInt8) (a : Option Addr) (len cap : Nat) (n : Int) (w : World) (hlen : len = bs.length) (hr : RdB w a bs) (hm : (len : Int) ≤ 9223372036854775807) (h : noBits bs n) :
    Calls Try.prog 58 #[.slice a len cap, .int .i64 n] w fun e w' => e = .returned (.tuple #[bitsV [], .bool false]) ∧ Below w.heap.size w w' := by
  by_cases h1 : n < 0
  · clear h hr
    go_enter Try.func58, Try.ntmps58
    go_wp2
    exact bodyPost_ret (v := .tuple #[bitsV [], .bool false]) (by simp [results, Try.results58, go_sem]; rfl) rfl ⟨rfl, (Below.refl _ _).alloc (Nat.le_refl _) _⟩
  · have h1' : 0 ≤ n := by omega
    by_cases h2 : 1048576 < n
    · clear h hr h1
      go_enter Try.func58, Try.ntmps58
      go_wp2
      exact bodyPost_ret (v := .tuple #[bitsV [], .bool false]) (by simp [results, Try.results58, go_sem]; rfl) rfl ⟨rfl, (Below.refl _ _).alloc (Nat.le_refl _) _⟩
    · have h2' : n ≤ 1048576 := by omega
      by_cases h3 : len = nb n.toNat
      · obtain ⟨m, rfl⟩ := Int.eq_ofNat_of_zero_le h1'
        rw [Int.toNat_natCast] at h3
        have h4 : ((m : Int) % 8 ≠ 0 ∧ bs.length ≠ 0 ∧ (bs.getD (bs.length - 1) 0).toNat * 2 ^ (m % 8) % 256 ≠ 0) := by
          rcases h with h | h | h | h
          · omega
          · omega
          · rw [Int.toNat_natCast] at h; omega
          · rw [Int.toNat_natCast] at h; exact h
        obtain ⟨h5, h6, h7⟩ := h4
        have h8b : ((m : Int) % 8 != 0) = true := by rw [bne_iff_ne]; exact h5
        have hne : ((len : Int) != ((m : Int) + 7) / 8) = false := by
          rw [bne_eq_false_iff_eq]; rw [h3]; unfold nb; omega
        obtain ⟨b, off, rfl, hlt, hc⟩ : ∃ b off, a = some ⟨b, off, none⟩ ∧ b < w.heap.size ∧ ∀ i (h : i < bs.length), w.cell? ⟨b, off + i, none⟩ = some (.int .u8 ((bs[i]'h).toNat : Int)) := by
          rcases hr with h | h
          · rw [h] at h6; simp at h6
          · exact h
        obtain ⟨x, hlast, hx⟩ : ∃ x : Nat, w.cell? ⟨b, off + (len - 1), none⟩ = some (.int .u8 (x : Int)) ∧ x = (bs.getD (bs.length - 1) 0).toNat := by
          refine ⟨_, by rw [hlen]; exact hc (bs.length - 1) (by omega), ?_⟩
          rw [List.getD_eq_getElem?_getD, List.getElem?_eq_getElem (by omega)]; rfl
        have hz : ((x : Int) * 2 ^ (m % 8) % 256 != 0) = true := by
          have e : ((x : Int) * 2 ^ (m % 8) % 256) = ((x * 2 ^ (m % 8) % 256 : Nat) : Int) := by push_cast; rfl
          rw [e, bne_iff_ne, hx]
          intro h; exact h7 (by omega)
        have hup : len ≤ 131072 := by rw [h3]; unfold nb; omega
        have hpos : 0 < len := by omega
        clear h h1 h2 h3 h5 h6 h7 hx hc hr hlen
        go_enter Try.func58, Try.ntmps58
        go_wp2
        exact bodyPost_ret (v := .tuple #[bitsV [], .bool false]) (by simp [results, Try.results58, go_sem]; rfl) rfl ⟨rfl, (Below.refl _ _).alloc (Nat.le_refl _) _⟩
      · have hne : ((len : Int) != (n + 7) / 8) = true := by
          rw [bne_iff_ne]
          intro e; apply h3; unfold nb; omega
        clear h hr h1 h2 h3 hlen
        go_enter Try.func58, Try.ntmps58
        go_wp2
        exact bodyPost_ret (v := .tuple #[bitsV [], .bool false]) (by simp [results, Try.results58, go_sem]; rfl) rfl ⟨rfl, (Below.refl _ _).alloc (Nat.le_refl _) _⟩
/-- what is not refused is a row, packed -/
theorem yesBits (bs : List UInt8) (n : Int) (h : ¬ noBits bs n) : ∃ l, (l.length : Int) = n ∧ l.length ≤ 1048576 ∧ pkL l = bs := by
  unfold noBits at h
  obtain ⟨m, rfl⟩ := Int.eq_ofNat_of_zero_le (show 0 ≤ n by omega)
  rw [Int.toNat_natCast] at h
  have hl : bs.length = nb m := by omega
  refine ⟨(unb bs).take m, ?_⟩
  obtain ⟨h1, h2⟩ := unb_pk bs m hl (fun i hi hi8 => by
    have h8 : m % 8 ≠ 0 := by
      intro e; rw [hl] at hi8; unfold nb at hi8; omega
    have hk : i / 8 = bs.length - 1 := by rw [hl] at hi8 ⊢; unfold nb at hi8 ⊢; omega
    rw [hk]
    have hz : (bs.getD (bs.length - 1) 0).toNat * 2 ^ (m % 8) % 256 = 0 := by
      by_cases e : (bs.getD (bs.length - 1) 0).toNat * 2 ^ (m % 8) % 256 = 0
      · exact e
      · exfalso; apply h; right; right; right; exact ⟨by omega, by omega, e⟩
    exact (tail_zero _ (m % 8) (by omega) (UInt8.toNat_lt _)).1 hz (i % 8) (by rw [hl] at hi8; unfold nb at hi8; omega) (by omega))
  exact ⟨by omega, by omega, h2⟩
end Go.Proofs.Ytofbcgehemclbaa
