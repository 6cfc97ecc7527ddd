/- great, and how long the rows are where it is false. -/
import Derived.Test.YtnhjphjdncaimaaGreatDoorTp
namespace Go.Proofs.YtnhjphjdncaimaaGreatDoor
open Go.RowKit
def gq2 (b : Bool) : Nat := if b = true then 0 else 1
theorem gq2_eq (b : Bool) : (gq2 b == 0) = b := by cases b <;> rfl
theorem take_next {α : Type} {P : α → Prop} {l : List α} {i : Nat} {x : α} (h : ∀ y ∈ l.take i, P y) (hx : l[i]? = some x) (hp : P x) : ∀ y ∈ l.take (i + 1), P y := by
  rw [List.take_add_one, hx]
  intro y hy
  rcases List.mem_append.1 hy with h1 | h1
  · exact h y h1
  · simp at h1; subst h1; exact hp
set_option maxRecDepth 100000 in
set_option maxHeartbeats 4000000 in
theorem great_len (p : Option Addr) (n c : Nat) (ls : List Lst) (w : World) (hn : n = ls.length) (hle : n < 9223372036854775807) (hr : Rd w p (ls.map Lst.v)) (hok : OkAs w ls) :
    Calls Tryz.prog 4 #[.slice p n c] w fun e w' => (∃ q : Nat, e = .returned (.bool (q == 0)) ∧ (q ≠ 0 → ∀ x ∈ ls, x.l.length ≤ 300)) ∧ Below w.heap.size w w' := by
  have Hn := hide hn
  have Hr := hide hr
  have Hok := hide hok
  clear hn hr hok
  go_enter Tryz.func4, Tryz.ntmps4
  go_wp2_with fail
  go_loopw [3, 4] (fun nv iv W => ∃ (z : Int) (i : Nat), i ≤ n ∧ nv = .int .i64 z ∧ iv = .int .i64 i ∧ Hid (∀ x ∈ ls.take i, x.l.length ≤ 300) ∧ Below w.heap.size w W) (fun _ iv _ => n - (intOf iv).toNat)
  case atStart => exact ⟨0, 0, Nat.zero_le _, rfl, rfl, hide (by simp), Below.refl _ _⟩
  case round =>
    obtain ⟨z, i, hi, rfl, rfl, Htk, hB⟩ := hrel
    by_cases hlt : i < n
    · have hI : (i : Int) < (n : Int) := by omega
      obtain ⟨x, hx⟩ : ∃ x, ls[i]? = some x := ⟨_, List.getElem?_eq_getElem (by have := Hn.out; omega)⟩
      obtain ⟨b, off, rfl, hc⟩ := Hr.out.cellAt i x.v (by simp [hx])
      have hix := ix_row b off n c i hlt
      have Hx := hide (Hok.out x (List.mem_of_getElem? hx))
      have Hnx := hide hx
      clear hx
      obtain ⟨xa, xl, xc⟩ := x
      obtain ⟨m, hm⟩ : ∃ m, m = xl.length := ⟨_, rfl⟩
      have hml : m < 9223372036854775807 := by rw [hm]; exact Hx.out.2.2
      have hc : w.cell? ⟨b, off + i, none⟩ = some (.slice xa m xc) := by rw [hm]; exact hc
      have Hc := hide hc
      have Hm := hide hm
      clear hc hm
      go_wp2_with fail
      go_loopw [3, 5] (fun nv kv W => ∃ (z : Int) (k : Nat), k ≤ m ∧ nv = .int .i64 z ∧ kv = .int .i64 k ∧ Below w.heap.size w W) (fun _ kv _ => m - (intOf kv).toNat)
      case atStart => exact ⟨z, 0, Nat.zero_le _, rfl, rfl, hB⟩
      case round =>
        clear hB
        obtain ⟨z, k, hk, rfl, rfl, hB⟩ := hrel
        have hcell := cell_keep hB Hc.out
        by_cases hlk : k < m
        · have hI2 : (k : Int) < (m : Int) := by omega
          by_cases hz : z < 100000
          · obtain ⟨y, hy⟩ : ∃ y, xl[k]? = some y := ⟨_, List.getElem?_eq_getElem (by have := Hm.out; omega)⟩
            obtain ⟨b2, off2, e2, c0, c1, c2, c3⟩ := (Hx.out.1.keep hB).at k y hy
            dsimp only at e2
            subst e2
            have hix2 := ix_item b2 off2 m xc k hlk
            clear hy
            go_wp2
            go_roundw
            case rel => exact ⟨_, k + 1, by omega, rfl, by simp, hB⟩
            case measure => simp [intOf]; omega
          · have hzd : decide (z < 100000) = false := by simpa using hz
            clear hz
            by_cases h3 : (300 : Int) < (m : Int)
            · go_wp2
              go_ret
              exact ⟨⟨0, rfl, fun h => absurd rfl h⟩, hB⟩
            · have h3d : decide ((300 : Int) < (m : Int)) = false := by simpa using h3
              go_wp2
              go_roundw
              case rel => exact ⟨z, i + 1, by omega, rfl, by simp, hide (take_next Htk.out Hnx.out (by have := Hm.out; show xl.length ≤ 300; omega)), hB⟩
              case measure => simp [intOf]; omega
        · have hI2 : decide ((k : Int) < (m : Int)) = false := by simp; omega
          have hI3 : ¬ (k : Int) < (m : Int) := by omega
          by_cases h3 : (300 : Int) < (m : Int)
          · go_wp2
            go_ret
            exact ⟨⟨0, rfl, fun h => absurd rfl h⟩, hB⟩
          · have h3d : decide ((300 : Int) < (m : Int)) = false := by simpa using h3
            go_wp2
            go_roundw
            case rel => exact ⟨z, i + 1, by omega, rfl, by simp, hide (take_next Htk.out Hnx.out (by have := Hm.out; show xl.length ≤ 300; omega)), hB⟩
            case measure => simp [intOf]; omega
    · have hI : ¬ (i : Int) < (n : Int) := by omega
      go_wp2
      go_ret
      refine ⟨⟨gq2 (decide (100000 ≤ z)), by rw [gq2_eq]; rfl, fun _ x hx => Htk.out x ?_⟩, hB⟩
      rw [List.take_of_length_le (by have := Hn.out; omega)]; exact hx
end Go.Proofs.YtnhjphjdncaimaaGreatDoor
