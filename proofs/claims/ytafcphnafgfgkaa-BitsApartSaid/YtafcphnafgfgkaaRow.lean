/- What a law's walk is told of a slice of integers that came in. -/
import Derived.Test.YtafcphnafgfgkaaMem
import Derived.OpenShut
namespace Go.Proofs.Ytafcphnafgfgkaa
open Go.RowKit
/-- nil, or a row of cap cells, the first len of them its elements -/
def IsRow (k : IntKind) (w : World) (a : Option Addr) (len cap : Nat) (zs : List Int) : Prop :=
  (a = none ∧ len = 0 ∧ cap = 0 ∧ zs = []) ∨
  ∃ x, a = some x ∧ len ≤ cap ∧ cap ≤ 140737488351232 ∧ zs.length = cap ∧ (∀ i, i < zs.length → w.cell? (x.add i) = some (.int k (zs.getD i 0))) ∧ ∀ n ∈ zs, (Lit.int k n).wf = true
theorem rd_of_row {w : World} {a : Option Addr} {len cap : Nat} {zs : List Int} (h : IsRow .u8 w a len cap zs) :
    ∃ bs : List UInt8, bs.length = len ∧ RdB w a bs ∧ len ≤ 140737488351232 := by
  rcases h with ⟨rfl, rfl, rfl, rfl⟩ | ⟨x, rfl, hl, hm, hz, hc, hw⟩
  · exact ⟨[], rfl, .inl rfl, by omega⟩
  · have hlen : len ≤ 140737488351232 := by omega
    refine ⟨(zs.take len).map fun n => UInt8.ofNat n.toNat, by simp; omega, ?_, hlen⟩
    by_cases h0 : len = 0
    · subst h0; exact .inl (by simp)
    · have hcell : ∀ i, i < len → ∃ n : Int, zs.getD i 0 = n ∧ 0 ≤ n ∧ n < 256 ∧ w.cell? (x.add i) = some (.int .u8 n) := by
        intro i hi
        have hmem : zs.getD i 0 ∈ zs := by
          rw [List.getD_eq_getElem?_getD, List.getElem?_eq_getElem (by omega)]
          exact List.getElem_mem _
        have := hw _ hmem
        refine ⟨_, rfl, ?_, ?_, hc i (by omega)⟩
        · exact (bounds_u8 this).1
        · have := (bounds_u8 this).2; omega
      obtain ⟨b, off, spot⟩ := x
      obtain ⟨n, _, _, _, hc0⟩ := hcell 0 (by omega)
      have hspot : spot = none := by simpa [Addr.add] using World.cell?_spot hc0
      subst hspot
      have hb : b < w.heap.size := by
        rcases Nat.lt_or_ge b w.heap.size with h | h
        · exact h
        · simp [Addr.add, World.cell?, Array.getElem?_eq_none h] at hc0
      refine .inr ⟨b, off, rfl, hb, fun i hi => ?_⟩
      have hi' : i < len := by simp at hi; omega
      obtain ⟨m, hm1, hm2, hm3, hm4⟩ := hcell i hi'
      rw [show (Addr.mk b off none).add i = ⟨b, off + i, none⟩ from by unfold Addr.add; split <;> simp_all] at hm4
      rw [hm4]
      have hg : zs[i]'(by omega) = m := by
        rw [← hm1, List.getD_eq_getElem?_getD, List.getElem?_eq_getElem (by omega)]; rfl
      simp only [List.getElem_map, List.getElem_take, hg]
      obtain ⟨q, hq⟩ := Int.eq_ofNat_of_zero_le hm2
      rw [hq, Int.toNat_natCast, UInt8.toNat_ofNat', Nat.mod_eq_of_lt (by omega)]
end Go.Proofs.Ytafcphnafgfgkaa
