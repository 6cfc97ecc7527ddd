/- parchmentlaw21.fits at one step. -/
import Derived.Test.YtolpoidofhcnlaaGreatDoorMem
namespace Go.Proofs.YtolpoidofhcnlaaGreatDoor
open Go.RowKit
def fitB (lab : Nat) (nm vl : ByteArray) : Bool := decide (vl.size ≤ 5000) && (decide (nm.size ≤ 1000) && decide (lab ≤ 1000))
set_option maxRecDepth 100000 in
set_option maxHeartbeats 800000 in
theorem fits_one (g n c : Nat) (base : Option Addr) (cp : Nat) (nm vl : ByteArray) (w : World) (h1 : w.cell? ⟨g, 1, none⟩ = some (.slice base n c)) (h3 : w.cell? ⟨g, 3, none⟩ = some (.string nm)) (h4 : w.cell? ⟨g, 4, none⟩ = some (.string vl)) (h5 : w.cell? ⟨g, 5, none⟩ = some (.slice none 0 0)) :
    Calls Tryz.prog 5 #[.slice (some ⟨g, 0, none⟩) 1 cp] w fun e w' => e = .returned (.bool (fitB n nm vl)) ∧ w' = w := by
  by_cases a1 : vl.size ≤ 5000
  · by_cases a2 : nm.size ≤ 1000
    · by_cases a3 : n ≤ 1000
      · have e1 : decide ((5000 : Int) < (vl.size : Int)) = false := by simp; omega
        have e2 : decide ((1000 : Int) < (nm.size : Int)) = false := by simp; omega
        have e3 : decide ((1000 : Int) < (n : Int)) = false := by simp; omega
        have H : Hid (fitB n nm vl = true) := (by simp [fitB, a1, a2, a3] : fitB n nm vl = true)
        clear a1 a2 a3
        go_enter Tryz.func5, Tryz.ntmps5
        go_wp2
        go_loopw [3] (fun v wr => (v = .int .i64 0 ∨ v = .int .i64 1) ∧ w = wr) (fun v _ => match v with | .int _ k => 1 - k.toNat | _ => 0)
        case atStart => exact ⟨.inl rfl, rfl⟩
        case round =>
          obtain ⟨rfl | rfl, rfl⟩ := hrel
          · go_wp2
            exact ⟨⟨.inr rfl, trivial⟩, by decide⟩
          · go_wp2
            go_ret
            exact ⟨by rw [H.out]; rfl, rfl⟩
      · have e1 : decide ((5000 : Int) < (vl.size : Int)) = false := by simp; omega
        have e2 : decide ((1000 : Int) < (nm.size : Int)) = false := by simp; omega
        have e3 : decide ((1000 : Int) < (n : Int)) = true := by simp; omega
        have H : Hid (fitB n nm vl = false) := (by simp [fitB, a1, a2, a3] : fitB n nm vl = false)
        clear a1 a2 a3
        go_enter Tryz.func5, Tryz.ntmps5
        go_wp2
        go_loopw [3] (fun v wr => v = .int .i64 0 ∧ w = wr) (fun v _ => match v with | .int _ k => 1 - k.toNat | _ => 0)
        case atStart => exact ⟨rfl, rfl⟩
        case round =>
          obtain ⟨rfl, rfl⟩ := hrel
          go_wp2
          go_ret
          exact ⟨by rw [H.out]; rfl, rfl⟩
    · have e1 : decide ((5000 : Int) < (vl.size : Int)) = false := by simp; omega
      have e2 : decide ((1000 : Int) < (nm.size : Int)) = true := by simp; omega
      have H : Hid (fitB n nm vl = false) := (by simp [fitB, a1, a2] : fitB n nm vl = false)
      clear a1 a2
      go_enter Tryz.func5, Tryz.ntmps5
      go_wp2
      go_loopw [3] (fun v wr => v = .int .i64 0 ∧ w = wr) (fun v _ => match v with | .int _ k => 1 - k.toNat | _ => 0)
      case atStart => exact ⟨rfl, rfl⟩
      case round =>
        obtain ⟨rfl, rfl⟩ := hrel
        go_wp2
        go_ret
        exact ⟨by rw [H.out]; rfl, rfl⟩
  · have e1 : decide ((5000 : Int) < (vl.size : Int)) = true := by simp; omega
    have H : Hid (fitB n nm vl = false) := (by simp [fitB, a1] : fitB n nm vl = false)
    clear a1
    go_enter Tryz.func5, Tryz.ntmps5
    go_wp2
    go_loopw [3] (fun v wr => v = .int .i64 0 ∧ w = wr) (fun v _ => match v with | .int _ k => 1 - k.toNat | _ => 0)
    case atStart => exact ⟨rfl, rfl⟩
    case round =>
      obtain ⟨rfl, rfl⟩ := hrel
      go_wp2
      go_ret
      exact ⟨by rw [H.out]; rfl, rfl⟩
end Go.Proofs.YtolpoidofhcnlaaGreatDoor
