/- walk.Text behind its call of below. -/
import Derived.Test.YtfjjoaihhafenaaGreatDoorS10
namespace Go.Proofs.YtfjjoaihhafenaaGreatDoor
open Go.RowKit
structure HeldR where
  la : Option Addr
  ll : Nat
  lc : Nat
  k : Nat
  nm : ByteArray
  s : ByteArray
def HeldR.cells (r : HeldR) : List Value := [.slice r.la r.ll r.lc, .int .u8 (r.k : Int), .string r.nm, .string r.s]
/-- the texts of the first i rows, one behind the other -/
def catH (row : Nat → HeldR) : Nat → List UInt8
  | 0 => []
  | i + 1 => catH row i ++ (if (row i).k = 4 then (row i).s.data.toList else [])
theorem catH_le (row : Nat → HeldR) (n : Nat) : ∀ i, i ≤ n → (catH row i).length ≤ (catH row n).length := by
  induction n with
  | zero => intro i h; rw [Nat.le_zero.1 h]; exact Nat.le_refl _
  | succ n ih =>
    intro i h
    rcases Nat.lt_or_ge i (n + 1) with h' | h'
    · exact Nat.le_trans (ih i (by omega)) (by simp [catH])
    · rw [show i = n + 1 by omega]; exact Nat.le_refl _
def HeldRows (w : World) (c off n : Nat) (row : Nat → HeldR) : Prop :=
  ∀ i, i < n → ∀ j v, (row i).cells[j]? = some v → w.cell? ⟨c, off + i * 4 + j, none⟩ = some v
set_option maxRecDepth 100000 in
set_option maxHeartbeats 800000 in
theorem text_any {b l : Value} {w : World} {L : List UInt8} {R : World → Prop} (hl : L.length ≤ 140737488355328) (h0 : L ≠ [])
    (hcall : Calls Tryz.prog 24 #[b, l] w fun e w1 => ∃ c off n cap row, 0 < n ∧ n ≤ cap ∧ n ≤ 281474976710656 ∧ (row 0 : HeldR).k = 1 ∧ catH row n = L ∧ e = .returned (.tuple #[.slice (some ⟨c, off, none⟩) n cap, .int .i64 0]) ∧ c < w1.heap.size ∧ HeldRows w1 c off n row ∧ R w1) :
    Calls Tryz.prog 7 #[b, l] w fun e w' => ∃ w1, R w1 ∧ e = .returned (.tuple #[.string ⟨L.toArray⟩, .int .i64 0]) ∧ Below w1.heap.size w1 w' := by
  have HC := hide hcall
  clear hcall
  go_enter Tryz.func7, Tryz.ntmps7
  go_wp2_with (go_at_call 24; refine HC.out.mono ?_)
  rintro e w1 ⟨c, off, n, cap, row, hn, hcap, hbig, hk, hcat, rfl, hc, hrows, hR⟩
  subst hcat
  have HL := hide hl
  clear hl
  have HK := hide hk
  clear hk
  have HR := hide hR
  clear hR
  have HW := hide hrows
  have c1 : w1.cell? ⟨c, off + 1, none⟩ = some (.int .u8 1) := by have := hrows 0 hn 1 (.int .u8 1) (by simp [HeldR.cells, HK.out]); simpa using this
  have d1 : decide (0 < n) = true := by simpa using hn
  clear hrows
  go_wp2
  clear c1 d1
  go_loopw [37] (fun x wr => ∃ k : Nat, k ≤ n ∧ x = .int .i64 k ∧ Lib.IsBuilder 67 5 w1.heap.size w1.heap.size (Lib.byteCells (catH row k)) wr ∧ Below w1.heap.size w1 wr) (fun x _ => n - (intOf x).toNat)
  case atStart => exact ⟨0, Nat.zero_le _, rfl, Lib.fresh_isBuilder _ _ _, (Below.refl _ _).alloc (Nat.le_refl _) _⟩
  case round =>
    obtain ⟨k, hk, rfl, hb, hbel⟩ := hrel
    have HB := hide hb
    clear hb
    have HW1 := hide hbel
    clear hbel
    by_cases hkn : k = n
    · have H0 := hide (hkn ▸ HB.out)
      have HN := hide hkn
      have hd : decide (k < n) = false := by simp; omega
      clear hkn
      go_wp2_with (go_at_call 26; refine (bs_any _ _ _ _ H0.out h0).mono ?_)
      rintro e w' ⟨rfl, hbel'⟩
      go_wp2
      go_ret2
      exact ⟨w1, HR.out, rfl, HW1.out.trans hbel'⟩
    · have hlt : k < n := by omega
      have hd : decide (k < n) = true := by simpa using hlt
      have hat : ∀ j v, (row k).cells[j]? = some v → wr.cell? ⟨c, off + k * 4 + j, none⟩ = some v := fun j v h => by
        have := HW.out k hlt j v h
        simp only [World.cell?] at this ⊢
        rw [HW1.out.block c hc]; exact this
      have e0 : wr.cell? ⟨c, off + k * 4, none⟩ = some (.slice (row k).la (row k).ll (row k).lc) := hat 0 _ rfl
      have e1 : wr.cell? ⟨c, off + k * 4 + 1, none⟩ = some (.int .u8 ((row k).k : Int)) := hat 1 _ rfl
      have e2 : wr.cell? ⟨c, off + k * 4 + 2, none⟩ = some (.string (row k).nm) := hat 2 _ rfl
      have e3 : wr.cell? ⟨c, off + k * 4 + 3, none⟩ = some (.string (row k).s) := hat 3 _ rfl
      clear hat
      have hw : IntKind.i64.wrap ((k : Int) + 1) = ((k + 1 : Nat) : Int) := by rw [IntKind.wrap_i64]; omega
      have HN := hide hkn
      clear hkn
      have hw1s : w1.heap.size ≤ wr.heap.size := HW1.out.size
      by_cases h4 : (row k).k = 4
      · have b4 : (((row k).k : Int) == 4) = true := by simp [h4]
        have H4 := hide h4
        clear h4
        go_wp2_with (go_at_call 25; refine (ws_any _ _ _ _ _ (bld_keep HB.out (Below.alloc (Below.refl _ _) (Nat.le_refl _) _)) ?_ ?_).mono ?_)
        · have h5 := catH_le row n (k + 1) (by omega)
          have h6 := HL.out
          simp only [catH, if_pos H4.out, List.length_append] at h5
          rw [Lib.byteCells_length]
          have h7 : (row k).s.size = (row k).s.data.toList.length := Array.length_toList.symm
          omega
        · simp; omega
        rintro e w2 ⟨rfl, hb2, hbel2⟩
        go_wp2
        exact ⟨⟨k + 1, by omega, rfl, by rw [catH, if_pos H4.out, Lib.byteCells_append]; exact .inr hb2, (HW1.out.alloc hw1s _).trans hbel2⟩, by show n - (((k + 1 : Nat) : Int)).toNat < n - ((k : Int)).toNat; omega⟩
      · have b4 : (((row k).k : Int) == 4) = false := by simp; omega
        have H4 := hide h4
        clear h4
        go_wp2
        exact ⟨⟨k + 1, by omega, rfl, by rw [catH, if_neg H4.out, List.append_nil]; exact bld_keep HB.out (Below.alloc (Below.refl _ _) (Nat.le_refl _) _), HW1.out.alloc hw1s _⟩, by show n - (((k + 1 : Nat) : Int)).toNat < n - ((k : Int)).toNat; omega⟩
end Go.Proofs.YtfjjoaihhafenaaGreatDoor
