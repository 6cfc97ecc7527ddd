/- The law's holds; great. -/
import Derived.Test.YtfbliaonfkalfaaGreatDoorTp
namespace Go.Proofs.YtfbliaonfkalfaaGreatDoor
open Go.RowKit
set_option maxRecDepth 100000 in
set_option maxHeartbeats 2000000 in
theorem lholds_any (op : ByteArray) (hf : Int → Bool) (pa pb : Option Addr) (na nb ca cb : Nat) (la lb : List It) (w : World) (he : Env w) (hh : Sign op hf) (ha : OkA w ⟨pa, la, ca⟩) (hb : OkA w ⟨pb, lb, cb⟩) (hna : na = la.length) (hnb : nb = lb.length) :
    Calls Tryz.prog 8 #[.string op, .slice pa na ca, .slice pb nb cb] w fun e w' => e = .returned (.tuple #[.bool (cmpA hf ⟨pa, la, ca⟩ ⟨pb, lb, cb⟩).1, .bool ((cmpA hf ⟨pa, la, ca⟩ ⟨pb, lb, cb⟩).2 == 0)]) ∧ Below w.heap.size w w' := by
  have Hc := hide (compare_any op hf pa pb na nb ca cb la lb w he hh ha hb hna hnb)
  clear he hh ha hb hna hnb
  generalize cmpA hf ⟨pa, la, ca⟩ ⟨pb, lb, cb⟩ = v at *
  obtain ⟨v1, v2⟩ := v
  go_enter Tryz.func8, Tryz.ntmps8
  go_wp2_with fail
  refine Hc.out.mono ?_
  rintro e w1 ⟨rfl, hb1⟩
  go_wp2
  go_ret2
  exact ⟨rfl, hb1⟩
/-- one item held against one: does the sign hold, and may they be held against each other? -/
def pk (x y : It) : Bool := oE x y == 0
def pv (hf : Int → Bool) (x y : It) : Bool := pk x y && hf (oV x y)
theorem lholds_one (op : ByteArray) (hf : Int → Bool) (ga gb ca cb : Nat) (x y : It) (w : World) (he : Env w) (hh : Sign op hf) (ha : RdI w (some ⟨ga, 0, none⟩) [x]) (hb : RdI w (some ⟨gb, 0, none⟩) [y]) (hx : okI x = true) (hy : okI y = true) (sx : x.text.size ≤ 140737488355328) (sy : y.text.size ≤ 140737488355328) :
    Calls Tryz.prog 8 #[.string op, .slice (some ⟨ga, 0, none⟩) 1 ca, .slice (some ⟨gb, 0, none⟩) 1 cb] w fun e w' => e = .returned (.tuple #[.bool (pv hf x y), .bool (pk x y)]) ∧ Below w.heap.size w w' := by
  refine (lholds_any op hf (some ⟨ga, 0, none⟩) (some ⟨gb, 0, none⟩) 1 1 ca cb [x] [y] w he hh ⟨ha, ?_, by simp⟩ ⟨hb, ?_, by simp⟩ rfl rfl).mono ?_
  · intro z hz; rw [List.mem_singleton] at hz; subst hz; exact sx
  · intro z hz; rw [List.mem_singleton] at hz; subst hz; exact sy
  · rintro e w' ⟨rfl, hb⟩
    refine ⟨?_, hb⟩
    rw [cmp_one hf _ _ _ _ x y hx hy]
    unfold pv pk
    by_cases h : oE x y = 0
    · rw [if_pos h, h]; rfl
    · have h2 : (oE x y == 0) = false := by simpa using h
      rw [if_neg h, h2]; simp
def gq (b : Bool) : Nat := if b = true then 0 else 1
theorem gq_eq (b : Bool) : (gq b == 0) = b := by cases b <;> rfl
set_option maxRecDepth 100000 in
set_option maxHeartbeats 4000000 in
theorem great_any (p : Option Addr) (n c : Nat) (ls : List Lst) (w : World) (hn : n = ls.length) (hle : n < 9223372036854775807) (hr : Rd w p (ls.map Lst.v)) (hok : OkAs w ls) :
    Calls Tryz.prog 5 #[.slice p n c] w fun e w' => (∃ q : Nat, e = .returned (.bool (q == 0))) ∧ Below w.heap.size w w' := by
  have Hn := hide hn
  have Hr := hide hr
  have Hok := hide hok
  clear hn hr hok
  go_enter Tryz.func5, Tryz.ntmps5
  go_wp2_with fail
  go_loopw [3, 4] (fun nv iv W => ∃ (z : Int) (i : Nat), i ≤ n ∧ nv = .int .i64 z ∧ iv = .int .i64 i ∧ Below w.heap.size w W) (fun _ iv _ => n - (intOf iv).toNat)
  case atStart => exact ⟨0, 0, Nat.zero_le _, rfl, rfl, Below.refl _ _⟩
  case round =>
    obtain ⟨z, i, hi, rfl, rfl, hB⟩ := hrel
    by_cases hlt : i < n
    · have hI : (i : Int) < (n : Int) := by omega
      obtain ⟨x, hx⟩ : ∃ x, ls[i]? = some x := ⟨_, List.getElem?_eq_getElem (by have := Hn.out; omega)⟩
      obtain ⟨b, off, rfl, hc⟩ := Hr.out.cellAt i x.v (by simp [hx])
      have hix := ix_row b off n c i hlt
      have Hx := hide (Hok.out x (List.mem_of_getElem? hx))
      clear hx
      obtain ⟨xa, xl, xc⟩ := x
      obtain ⟨m, hm⟩ : ∃ m, m = xl.length := ⟨_, rfl⟩
      have hml : m < 9223372036854775807 := by rw [hm]; exact Hx.out.2.2
      have hc : w.cell? ⟨b, off + i, none⟩ = some (.slice xa m xc) := by rw [hm]; exact hc
      have Hc := hide hc
      have Hm := hide hm
      clear hc hm
      go_wp2_with fail
      go_loopw [3, 5] (fun nv kv W => ∃ (z : Int) (k : Nat), k ≤ m ∧ nv = .int .i64 z ∧ kv = .int .i64 k ∧ Below w.heap.size w W) (fun _ kv _ => m - (intOf kv).toNat)
      case atStart => exact ⟨z, 0, Nat.zero_le _, rfl, rfl, hB⟩
      case round =>
        clear hB
        obtain ⟨z, k, hk, rfl, rfl, hB⟩ := hrel
        have hcell := cell_keep hB Hc.out
        by_cases hlk : k < m
        · have hI2 : (k : Int) < (m : Int) := by omega
          by_cases hz : z < 100000
          · obtain ⟨y, hy⟩ : ∃ y, xl[k]? = some y := ⟨_, List.getElem?_eq_getElem (by have := Hm.out; omega)⟩
            obtain ⟨b2, off2, e2, c0, c1, c2, c3⟩ := (Hx.out.1.keep hB).at k y hy
            dsimp only at e2
            subst e2
            have hix2 := ix_item b2 off2 m xc k hlk
            clear hy
            go_wp2
            go_roundw
            case rel => exact ⟨_, k + 1, by omega, rfl, by simp, hB⟩
            case measure => simp [intOf]; omega
          · have hzd : decide (z < 100000) = false := by simpa using hz
            clear hz
            by_cases h3 : (300 : Int) < (m : Int)
            · go_wp2
              go_ret
              refine ⟨?_, hB⟩; first | exact ⟨0, rfl⟩ | exact ⟨gq (decide (100000 ≤ z)), by rw [gq_eq]; rfl⟩
            · have h3d : decide ((300 : Int) < (m : Int)) = false := by simpa using h3
              go_wp2
              go_roundw
              case rel => exact ⟨z, i + 1, by omega, rfl, by simp, hB⟩
              case measure => simp [intOf]; omega
        · have hI2 : decide ((k : Int) < (m : Int)) = false := by simp; omega
          have hI3 : ¬ (k : Int) < (m : Int) := by omega
          by_cases h3 : (300 : Int) < (m : Int)
          · go_wp2
            go_ret
            refine ⟨?_, hB⟩; first | exact ⟨0, rfl⟩ | exact ⟨gq (decide (100000 ≤ z)), by rw [gq_eq]; rfl⟩
          · have h3d : decide ((300 : Int) < (m : Int)) = false := by simpa using h3
            go_wp2
            go_roundw
            case rel => exact ⟨z, i + 1, by omega, rfl, by simp, hB⟩
            case measure => simp [intOf]; omega
    · have hI : ¬ (i : Int) < (n : Int) := by omega
      go_wp2
      go_ret
      refine ⟨?_, hB⟩; first | exact ⟨0, rfl⟩ | exact ⟨gq (decide (100000 ≤ z)), by rw [gq_eq]; rfl⟩
end Go.Proofs.YtfbliaonfkalfaaGreatDoor

