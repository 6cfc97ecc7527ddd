/- LabelGoesOn: words for its walk. -/
import Derived.Test.YtofbcgehemclbaaLg1
import Derived.Test.YtofbcgehemclbaaRv
import Derived.Test.YtofbcgehemclbaaLo2
import Derived.Test.YtofbcgehemclbaaLl1
import Derived.Test.YtofbcgehemclbaaLb11
namespace Go.Proofs.Ytofbcgehemclbaa
open Go.RowKit Bm
theorem intInfo : (Try.prog.info? 3).map (fun i => (i.zero, i.size, i.bytes)) = some (some (.int .i64 0), 1, 8) := by kernel_rfl
/-- an element of a slice of integers that came in -/
theorem int_at {w : World} {a : Option Addr} {len cap : Nat} {zs : List Int} (h : IsRow .i64 w a len cap zs) (i : Nat) (hi : i < len) :
    ∃ b off z, a = some ⟨b, off, none⟩ ∧ w.cell? ⟨b, off + i, none⟩ = some (.int .i64 z) := by
  rcases h with ⟨_, h, _, _⟩ | ⟨x, rfl, hl, hm, hz, hc, hw⟩
  · omega
  · have h1 := hc i (by omega)
    obtain ⟨b, off, spot⟩ := x
    have hspot : spot = none := by
      have := World.cell?_spot (hc 0 (by omega))
      simpa [Addr.add] using this
    subst hspot
    exact ⟨b, off, _, rfl, by rw [← addr_add]; exact h1⟩
theorem row_len {k : IntKind} {w : World} {a : Option Addr} {len cap : Nat} {zs : List Int} (h : IsRow k w a len cap zs) : len ≤ 140737488351232 := by
  rcases h with ⟨_, h, _, _⟩ | ⟨x, rfl, hl, hm, _⟩ <;> omega
theorem ix_int (b off n c i : Nat) (hlt : i < n) (W : World) : (Instr.indexAt 42 (.slice (some ⟨b, off, none⟩) n c) (.int .i64 (i : Int))).run Try.prog W = .ok (.pointer (some ⟨b, off + i, none⟩)) W := by
  obtain ⟨j0, hj, _, hj1, _⟩ := info_parts intInfo
  have := run_ix Try.underlying42 hj hj1 b off n c i (i : Int) rfl hlt W
  rwa [Nat.mul_one] at this
theorem run_slTo (a : Option Addr) (xs : List Value) (n c k : Nat) (w0 : World) (hr : Rd w0 a xs) (hn : n = xs.length) (hk : k ≤ n) (hc : n ≤ c) :
    ∃ a', (∀ W, (Instr.slice 25 (.slice a n c) none (some (.int .i64 (k : Int))) none).run Try.prog W = .ok (.slice a' k c) W) ∧ ∀ W, Rd W a xs → Rd W a' (xs.take k) := by
  obtain ⟨i0, hi, hz0, hz1, hz2⟩ := info_parts pieceInfo
  have hb : ∀ W cd, (Instr.sliceBound (.int .i64 (k : Int)) c cd).run Try.prog W = .ok k W := by
    intro W cd
    have : (0 : Int) ≤ (k : Int) ∧ (k : Int) ≤ (c : Int) := by omega
    simp [Instr.sliceBound, go_sem, this]
  by_cases hc0 : c = 0
  · refine ⟨a, fun W => ?_, fun W h => h.take k⟩
    have hk0 : k = 0 := by omega
    subst hc0 hk0
    have hn0 : n = 0 := by omega
    subst hn0
    simp [Instr.slice, Instr.sliceBounds, run_underlying Try.underlying25, sizeOf, typeInfo, hi, Instr.sliceBound, go_sem]
  · refine ⟨a.map (·.add (0 * 1)), fun W => ?_, fun W h => ?_⟩
    · simp [Instr.slice, Instr.sliceBounds, run_underlying Try.underlying25, sizeOf, typeInfo, hi, hb, hc0]
    · rcases h.take k with h1 | ⟨b, off, rfl, h2, h3⟩
      · exact .inl h1
      · exact .inr ⟨b, off, by simp [addr_add], h2, h3⟩
theorem Rd.drop {w : World} {a : Option Addr} {xs : List Value} (h : Rd w a xs) (k : Nat) : Rd w (a.map (·.add (k * 1))) (xs.drop k) := by
  rcases h with rfl | ⟨b, off, rfl, hlt, hc⟩
  · exact .inl (by simp)
  · refine .inr ⟨b, off + k, by simp [addr_add], hlt, fun i u hu => ?_⟩
    rw [List.getElem?_drop] at hu
    have := hc (k + i) u hu
    rwa [Nat.add_assoc]
theorem run_slFrom (a : Option Addr) (xs : List Value) (n c k : Nat) (w0 : World) (hr : Rd w0 a xs) (hn : n = xs.length) (hk : k ≤ n) (hc : n ≤ c) :
    ∃ a', (∀ W, (Instr.slice 25 (.slice a n c) (some (.int .i64 (k : Int))) none none).run Try.prog W = .ok (.slice a' (n - k) (c - k)) W) ∧ ∀ W, Rd W a xs → Rd W a' (xs.drop k) := by
  obtain ⟨i0, hi, hz0, hz1, hz2⟩ := info_parts pieceInfo
  have hb : ∀ W cd, (Instr.sliceBound (.int .i64 (k : Int)) n cd).run Try.prog W = .ok k W := by
    intro W cd
    have : (0 : Int) ≤ (k : Int) ∧ (k : Int) ≤ (n : Int) := by omega
    simp [Instr.sliceBound, go_sem, this]
  by_cases hc0 : c = k
  · refine ⟨a, fun W => ?_, fun W h => .inl (by rw [List.drop_eq_nil_iff]; omega)⟩
    simp [Instr.slice, Instr.sliceBounds, run_underlying Try.underlying25, sizeOf, typeInfo, hi, hb, hc0]
  · refine ⟨a.map (·.add (k * 1)), fun W => ?_, fun W h => h.drop k⟩
    simp [Instr.slice, Instr.sliceBounds, run_underlying Try.underlying25, sizeOf, typeInfo, hi, hb, hc0, hz1]
theorem copyB_any (a : Option Addr) (bs : List UInt8) (n c : Nat) (w : World) (hr : RdB w a bs) (hn : n = bs.length) (hle : n ≤ 1048576) :
    Calls Try.prog 18 #[.slice a n c] w fun e w' => ∃ a' c', e = .returned (.slice a' n c') ∧ OwB w' w.heap.size (.slice a' n c') bs ∧ Below w.heap.size w w' := by
  have Hn := hide hn
  clear hn
  go_enter Try.func18, Try.ntmps18
  go_wp2_with (at_builtin; refine wpList_appB rfl _ _ rfl w.heap.size _ [] a n c bs rfl rfl ?c1 ?c2 ?c3 ?c4 ?c5 ?_)
  case c1 => exact OwB.nil _ _
  case c2 => exact hr
  case c3 => exact Hn.out
  case c4 => have := Hn.out; simp; omega
  case c5 => simp
  intro v' W3 hown3 hg3 _
  have hb3 : Below w.heap.size w W3 := (Below.refl _ _).grown hg3 (Nat.le_refl _) (by simp [Value.ownBlock])
  try rw [List.nil_append] at hown3
  obtain ⟨a3, c3, hv⟩ := hown3.forms
  subst hv
  rw [← Hn.out] at hown3
  have Hown := hide hown3
  rw [← Hn.out]
  clear hown3 hg3
  go_wp2
  go_ret
  exact ⟨a3, c3, rfl, Hown.out, hb3⟩
end Go.Proofs.Ytofbcgehemclbaa

