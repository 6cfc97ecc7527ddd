/- value.ofItems, value.ofNumbers at functions of texts. -/
import Derived.Test.YtmnmnnocgimcpaaGreatDoorKB
import Derived.Test.YtmnmnnocgimcpaaGreatDoorKc
import Derived.Test.YtmnmnnocgimcpaaGreatDoorHv
import Derived.Test.YtmnmnnocgimcpaaGreatDoorHa
namespace Go.Proofs.YtmnmnnocgimcpaaGreatDoor
open Go.RowKit
theorem ix_rowA (b off n c : Nat) (h : 0 < n) (W : World) : (Instr.indexAt 22 (.slice (some ⟨b, off, none⟩) n c) (.int .i64 0)).run Tryz.prog W = .ok (.pointer (some ⟨b, off, none⟩)) W := by
  have := ix_row b off n c 0 h W
  simpa using this
theorem txt_small (x : It) (hR : R64 x.num) (hs : x.text.size ≤ 100000) : (txt x).size ≤ 100000 := by
  unfold txt
  split
  · show (Lib.itoa x.num).toArray.size ≤ 100000
    have h1 : (Lib.itoa x.num).length ≤ 20 := by
      unfold Lib.itoa
      unfold R64 at hR
      split
      · rw [List.length_cons, Lib.decDigits_length]
        have := nDig_le (u := x.num.natAbs) (by omega)
        omega
      · rw [Lib.decDigits_length]
        have := nDig_le (u := x.num.toNat) (by omega)
        omega
    rw [List.size_toArray]; omega
  · split
    · split <;> decide
    · exact hs
theorem strV_small (l : List It) (hR : ∀ y ∈ l, R64 y.num) (hs : ∀ y ∈ l, y.text.size ≤ 100000) : (strV l).1.size ≤ 100000 := by
  unfold strV
  split
  · match l, hR, hs with
    | [], _, _ => decide
    | x :: r, hR, hs =>
      dsimp only
      split
      · exact txt_small x (hR x (by simp)) (hs x (by simp))
      · decide
  · decide
theorem len_two {α : Type} : ∀ {l : List α}, l.length = 2 → ∃ a b, l = [a, b]
  | [a, b], _ => ⟨a, b, rfl⟩
/-- the texts of rows; what is refused of them -/
def txs (ls : List Lst) : List ByteArray := ls.map fun x => (strV x.l).1
def errS : List Lst → Int
  | [] => 0
  | x :: r => if (strV x.l).2 = 0 then errS r else (strV x.l).2
theorem errS_no : ∀ ls : List Lst, (∀ x ∈ ls, (strV x.l).2 = 0) → errS ls = 0
  | [], _ => rfl
  | x :: r, h => by unfold errS; rw [if_pos (h x (by simp))]; exact errS_no r fun y hy => h y (by simp [hy])
theorem errS_at : ∀ (ls : List Lst) (k : Nat) (x : Lst), (∀ y ∈ ls.take k, (strV y.l).2 = 0) → ls[k]? = some x → (strV x.l).2 ≠ 0 → errS ls = (strV x.l).2
  | [], k, x, _, h, _ => by simp at h
  | y :: r, 0, x, _, h, h2 => by simp at h; subst h; unfold errS; rw [if_neg h2]
  | y :: r, k + 1, x, h1, h, h2 => by
    unfold errS
    rw [if_pos (h1 y (by simp))]
    exact errS_at r k x (fun z hz => h1 z (by simp [hz])) (by simpa using h) h2
/-- what a function of texts answers -/
def callT (nm : List UInt8) (f : List ByteArray → List It × Int) (ls : List Lst) : List It × Int :=
  if rightL ls = true then (if knV nm ls.length = true then (if errS ls = 0 then f (txs ls) else ([], errS ls)) else ([], 241)) else ([], 2)
set_option maxRecDepth 100000 in
set_option maxHeartbeats 1000000 in
theorem ofItems_no_string (b off n c : Nat) (v : Value) (w : World) (hn : 0 < n) (h0 : w.cell? ⟨b, off, none⟩ = some v) (hv : ∃ a k d, v = .slice a k d) : Calls Tryz.prog 28 #[.string ⟨#[115, 116, 114, 105, 110, 103]⟩, .slice (some ⟨b, off, none⟩) n c] w fun e w' => e = .returned (.tuple #[.slice none 0 0, .int .i64 0, .bool false]) ∧ w = w' := by
  have hix := ix_rowA b off n c hn
  have hn1 : ¬ (n : Int) = 0 := by omega
  have hn2 : ((n : Int) == 0) = false := by simpa using hn1
  have hn3 : ¬ n = 0 := by omega
  obtain ⟨a, k, d, rfl⟩ := hv
  clear hn
  go_enter Tryz.func28, Tryz.ntmps28
  go_wp2
  go_ret3
  exact ⟨rfl, rfl⟩
set_option maxRecDepth 100000 in
set_option maxHeartbeats 1000000 in
theorem ofNumbers_no_string (v : Value) (w : World) : Calls Tryz.prog 29 #[.string ⟨#[115, 116, 114, 105, 110, 103]⟩, v] w fun e w' => e = .returned (.tuple #[.slice none 0 0, .int .i64 0, .bool false]) ∧ w = w' := by
  go_enter Tryz.func29, Tryz.ntmps29
  go_wp2
  go_ret3
  exact ⟨rfl, rfl⟩
set_option maxRecDepth 100000 in
set_option maxHeartbeats 1000000 in
theorem ofItems_no_string_length (b off n c : Nat) (v : Value) (w : World) (hn : 0 < n) (h0 : w.cell? ⟨b, off, none⟩ = some v) (hv : ∃ a k d, v = .slice a k d) : Calls Tryz.prog 28 #[.string ⟨#[115, 116, 114, 105, 110, 103, 45, 108, 101, 110, 103, 116, 104]⟩, .slice (some ⟨b, off, none⟩) n c] w fun e w' => e = .returned (.tuple #[.slice none 0 0, .int .i64 0, .bool false]) ∧ w = w' := by
  have hix := ix_rowA b off n c hn
  have hn1 : ¬ (n : Int) = 0 := by omega
  have hn2 : ((n : Int) == 0) = false := by simpa using hn1
  have hn3 : ¬ n = 0 := by omega
  obtain ⟨a, k, d, rfl⟩ := hv
  clear hn
  go_enter Tryz.func28, Tryz.ntmps28
  go_wp2
  go_ret3
  exact ⟨rfl, rfl⟩
set_option maxRecDepth 100000 in
set_option maxHeartbeats 1000000 in
theorem ofNumbers_no_string_length (v : Value) (w : World) : Calls Tryz.prog 29 #[.string ⟨#[115, 116, 114, 105, 110, 103, 45, 108, 101, 110, 103, 116, 104]⟩, v] w fun e w' => e = .returned (.tuple #[.slice none 0 0, .int .i64 0, .bool false]) ∧ w = w' := by
  go_enter Tryz.func29, Tryz.ntmps29
  go_wp2
  go_ret3
  exact ⟨rfl, rfl⟩
set_option maxRecDepth 100000 in
set_option maxHeartbeats 1000000 in
theorem ofItems_no_concat (b off n c : Nat) (v : Value) (w : World) (hn : 0 < n) (h0 : w.cell? ⟨b, off, none⟩ = some v) (hv : ∃ a k d, v = .slice a k d) : Calls Tryz.prog 28 #[.string ⟨#[99, 111, 110, 99, 97, 116]⟩, .slice (some ⟨b, off, none⟩) n c] w fun e w' => e = .returned (.tuple #[.slice none 0 0, .int .i64 0, .bool false]) ∧ w = w' := by
  have hix := ix_rowA b off n c hn
  have hn1 : ¬ (n : Int) = 0 := by omega
  have hn2 : ((n : Int) == 0) = false := by simpa using hn1
  have hn3 : ¬ n = 0 := by omega
  obtain ⟨a, k, d, rfl⟩ := hv
  clear hn
  go_enter Tryz.func28, Tryz.ntmps28
  go_wp2
  go_ret3
  exact ⟨rfl, rfl⟩
set_option maxRecDepth 100000 in
set_option maxHeartbeats 1000000 in
theorem ofNumbers_no_concat (v : Value) (w : World) : Calls Tryz.prog 29 #[.string ⟨#[99, 111, 110, 99, 97, 116]⟩, v] w fun e w' => e = .returned (.tuple #[.slice none 0 0, .int .i64 0, .bool false]) ∧ w = w' := by
  go_enter Tryz.func29, Tryz.ntmps29
  go_wp2
  go_ret3
  exact ⟨rfl, rfl⟩
set_option maxRecDepth 100000 in
set_option maxHeartbeats 1000000 in
theorem ofItems_no_contains (b off n c : Nat) (v : Value) (w : World) (hn : 0 < n) (h0 : w.cell? ⟨b, off, none⟩ = some v) (hv : ∃ a k d, v = .slice a k d) : Calls Tryz.prog 28 #[.string ⟨#[99, 111, 110, 116, 97, 105, 110, 115]⟩, .slice (some ⟨b, off, none⟩) n c] w fun e w' => e = .returned (.tuple #[.slice none 0 0, .int .i64 0, .bool false]) ∧ w = w' := by
  have hix := ix_rowA b off n c hn
  have hn1 : ¬ (n : Int) = 0 := by omega
  have hn2 : ((n : Int) == 0) = false := by simpa using hn1
  have hn3 : ¬ n = 0 := by omega
  obtain ⟨a, k, d, rfl⟩ := hv
  clear hn
  go_enter Tryz.func28, Tryz.ntmps28
  go_wp2
  go_ret3
  exact ⟨rfl, rfl⟩
set_option maxRecDepth 100000 in
set_option maxHeartbeats 1000000 in
theorem ofNumbers_no_contains (v : Value) (w : World) : Calls Tryz.prog 29 #[.string ⟨#[99, 111, 110, 116, 97, 105, 110, 115]⟩, v] w fun e w' => e = .returned (.tuple #[.slice none 0 0, .int .i64 0, .bool false]) ∧ w = w' := by
  go_enter Tryz.func29, Tryz.ntmps29
  go_wp2
  go_ret3
  exact ⟨rfl, rfl⟩
set_option maxRecDepth 100000 in
set_option maxHeartbeats 1000000 in
theorem ofItems_no_starts_with (b off n c : Nat) (v : Value) (w : World) (hn : 0 < n) (h0 : w.cell? ⟨b, off, none⟩ = some v) (hv : ∃ a k d, v = .slice a k d) : Calls Tryz.prog 28 #[.string ⟨#[115, 116, 97, 114, 116, 115, 45, 119, 105, 116, 104]⟩, .slice (some ⟨b, off, none⟩) n c] w fun e w' => e = .returned (.tuple #[.slice none 0 0, .int .i64 0, .bool false]) ∧ w = w' := by
  have hix := ix_rowA b off n c hn
  have hn1 : ¬ (n : Int) = 0 := by omega
  have hn2 : ((n : Int) == 0) = false := by simpa using hn1
  have hn3 : ¬ n = 0 := by omega
  obtain ⟨a, k, d, rfl⟩ := hv
  clear hn
  go_enter Tryz.func28, Tryz.ntmps28
  go_wp2
  go_ret3
  exact ⟨rfl, rfl⟩
set_option maxRecDepth 100000 in
set_option maxHeartbeats 1000000 in
theorem ofNumbers_no_starts_with (v : Value) (w : World) : Calls Tryz.prog 29 #[.string ⟨#[115, 116, 97, 114, 116, 115, 45, 119, 105, 116, 104]⟩, v] w fun e w' => e = .returned (.tuple #[.slice none 0 0, .int .i64 0, .bool false]) ∧ w = w' := by
  go_enter Tryz.func29, Tryz.ntmps29
  go_wp2
  go_ret3
  exact ⟨rfl, rfl⟩
set_option maxRecDepth 100000 in
set_option maxHeartbeats 1000000 in
theorem ofItems_no_ends_with (b off n c : Nat) (v : Value) (w : World) (hn : 0 < n) (h0 : w.cell? ⟨b, off, none⟩ = some v) (hv : ∃ a k d, v = .slice a k d) : Calls Tryz.prog 28 #[.string ⟨#[101, 110, 100, 115, 45, 119, 105, 116, 104]⟩, .slice (some ⟨b, off, none⟩) n c] w fun e w' => e = .returned (.tuple #[.slice none 0 0, .int .i64 0, .bool false]) ∧ w = w' := by
  have hix := ix_rowA b off n c hn
  have hn1 : ¬ (n : Int) = 0 := by omega
  have hn2 : ((n : Int) == 0) = false := by simpa using hn1
  have hn3 : ¬ n = 0 := by omega
  obtain ⟨a, k, d, rfl⟩ := hv
  clear hn
  go_enter Tryz.func28, Tryz.ntmps28
  go_wp2
  go_ret3
  exact ⟨rfl, rfl⟩
set_option maxRecDepth 100000 in
set_option maxHeartbeats 1000000 in
theorem ofNumbers_no_ends_with (v : Value) (w : World) : Calls Tryz.prog 29 #[.string ⟨#[101, 110, 100, 115, 45, 119, 105, 116, 104]⟩, v] w fun e w' => e = .returned (.tuple #[.slice none 0 0, .int .i64 0, .bool false]) ∧ w = w' := by
  go_enter Tryz.func29, Tryz.ntmps29
  go_wp2
  go_ret3
  exact ⟨rfl, rfl⟩
set_option maxRecDepth 100000 in
set_option maxHeartbeats 1000000 in
theorem ofItems_no_upper_case (b off n c : Nat) (v : Value) (w : World) (hn : 0 < n) (h0 : w.cell? ⟨b, off, none⟩ = some v) (hv : ∃ a k d, v = .slice a k d) : Calls Tryz.prog 28 #[.string ⟨#[117, 112, 112, 101, 114, 45, 99, 97, 115, 101]⟩, .slice (some ⟨b, off, none⟩) n c] w fun e w' => e = .returned (.tuple #[.slice none 0 0, .int .i64 0, .bool false]) ∧ w = w' := by
  have hix := ix_rowA b off n c hn
  have hn1 : ¬ (n : Int) = 0 := by omega
  have hn2 : ((n : Int) == 0) = false := by simpa using hn1
  have hn3 : ¬ n = 0 := by omega
  obtain ⟨a, k, d, rfl⟩ := hv
  clear hn
  go_enter Tryz.func28, Tryz.ntmps28
  go_wp2
  go_ret3
  exact ⟨rfl, rfl⟩
set_option maxRecDepth 100000 in
set_option maxHeartbeats 1000000 in
theorem ofNumbers_no_upper_case (v : Value) (w : World) : Calls Tryz.prog 29 #[.string ⟨#[117, 112, 112, 101, 114, 45, 99, 97, 115, 101]⟩, v] w fun e w' => e = .returned (.tuple #[.slice none 0 0, .int .i64 0, .bool false]) ∧ w = w' := by
  go_enter Tryz.func29, Tryz.ntmps29
  go_wp2
  go_ret3
  exact ⟨rfl, rfl⟩
set_option maxRecDepth 100000 in
set_option maxHeartbeats 1000000 in
theorem ofItems_no_lower_case (b off n c : Nat) (v : Value) (w : World) (hn : 0 < n) (h0 : w.cell? ⟨b, off, none⟩ = some v) (hv : ∃ a k d, v = .slice a k d) : Calls Tryz.prog 28 #[.string ⟨#[108, 111, 119, 101, 114, 45, 99, 97, 115, 101]⟩, .slice (some ⟨b, off, none⟩) n c] w fun e w' => e = .returned (.tuple #[.slice none 0 0, .int .i64 0, .bool false]) ∧ w = w' := by
  have hix := ix_rowA b off n c hn
  have hn1 : ¬ (n : Int) = 0 := by omega
  have hn2 : ((n : Int) == 0) = false := by simpa using hn1
  have hn3 : ¬ n = 0 := by omega
  obtain ⟨a, k, d, rfl⟩ := hv
  clear hn
  go_enter Tryz.func28, Tryz.ntmps28
  go_wp2
  go_ret3
  exact ⟨rfl, rfl⟩
set_option maxRecDepth 100000 in
set_option maxHeartbeats 1000000 in
theorem ofNumbers_no_lower_case (v : Value) (w : World) : Calls Tryz.prog 29 #[.string ⟨#[108, 111, 119, 101, 114, 45, 99, 97, 115, 101]⟩, v] w fun e w' => e = .returned (.tuple #[.slice none 0 0, .int .i64 0, .bool false]) ∧ w = w' := by
  go_enter Tryz.func29, Tryz.ntmps29
  go_wp2
  go_ret3
  exact ⟨rfl, rfl⟩
set_option maxRecDepth 100000 in
set_option maxHeartbeats 1000000 in
theorem ofItems_no_normalize_space (b off n c : Nat) (v : Value) (w : World) (hn : 0 < n) (h0 : w.cell? ⟨b, off, none⟩ = some v) (hv : ∃ a k d, v = .slice a k d) : Calls Tryz.prog 28 #[.string ⟨#[110, 111, 114, 109, 97, 108, 105, 122, 101, 45, 115, 112, 97, 99, 101]⟩, .slice (some ⟨b, off, none⟩) n c] w fun e w' => e = .returned (.tuple #[.slice none 0 0, .int .i64 0, .bool false]) ∧ w = w' := by
  have hix := ix_rowA b off n c hn
  have hn1 : ¬ (n : Int) = 0 := by omega
  have hn2 : ((n : Int) == 0) = false := by simpa using hn1
  have hn3 : ¬ n = 0 := by omega
  obtain ⟨a, k, d, rfl⟩ := hv
  clear hn
  go_enter Tryz.func28, Tryz.ntmps28
  go_wp2
  go_ret3
  exact ⟨rfl, rfl⟩
set_option maxRecDepth 100000 in
set_option maxHeartbeats 1000000 in
theorem ofNumbers_no_normalize_space (v : Value) (w : World) : Calls Tryz.prog 29 #[.string ⟨#[110, 111, 114, 109, 97, 108, 105, 122, 101, 45, 115, 112, 97, 99, 101]⟩, v] w fun e w' => e = .returned (.tuple #[.slice none 0 0, .int .i64 0, .bool false]) ∧ w = w' := by
  go_enter Tryz.func29, Tryz.ntmps29
  go_wp2
  go_ret3
  exact ⟨rfl, rfl⟩
end Go.Proofs.YtmnmnnocgimcpaaGreatDoor
