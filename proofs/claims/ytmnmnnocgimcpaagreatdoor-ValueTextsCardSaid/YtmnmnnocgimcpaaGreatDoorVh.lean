/- value.right at rows of plain items. -/
import Derived.Test.YtmnmnnocgimcpaaGreatDoorVb
import Derived.Deep.Cut
namespace Go.Proofs.YtmnmnnocgimcpaaGreatDoor
open Go.RowKit
theorem itemInfo : (Tryz.prog.info? 37).map (fun i => (i.zero, i.size, i.bytes)) = some (some (.agg #[.int .u8 0, .int .i64 0, .string ⟨#[]⟩, .int .i64 0]), 4, 40) := by kernel_rfl
theorem rowInfo : (Tryz.prog.info? 25).map (fun i => (i.zero, i.size, i.bytes)) = some (some (.slice none 0 0), 1, 24) := by kernel_rfl
theorem ix_item (b off n c i : Nat) (hlt : i < n) (W : World) : (Instr.indexAt 25 (.slice (some ⟨b, off, none⟩) n c) (.int .i64 (i : Int))).run Tryz.prog W = .ok (.pointer (some ⟨b, off + i * 4, none⟩)) W := by
  obtain ⟨j0, hj, _, hj1, _⟩ := info_parts itemInfo
  exact run_ix Tryz.underlying25 hj hj1 b off n c i (i : Int) rfl hlt W
theorem ix_row (b off n c i : Nat) (hlt : i < n) (W : World) : (Instr.indexAt 22 (.slice (some ⟨b, off, none⟩) n c) (.int .i64 (i : Int))).run Tryz.prog W = .ok (.pointer (some ⟨b, off + i, none⟩)) W := by
  obtain ⟨j0, hj, _, hj1, _⟩ := info_parts rowInfo
  have := run_ix Tryz.underlying22 hj hj1 b off n c i (i : Int) rfl hlt W
  rwa [Nat.mul_one] at this
/-- an item that is right, and whose text is plain and short -/
inductive Good : It → Prop
  | node (s : ByteArray) (d : Nat) (h : Ascii s) (hs : s.size ≤ 8) : Good ⟨1, 0, s, d⟩
  | int (n : Int) : Good ⟨2, n, ⟨#[]⟩, 0⟩
  | str (s : ByteArray) (h : Ascii s) (hs : s.size ≤ 8) : Good ⟨3, 0, s, 0⟩
/-- a row of items: where it lies, what it holds -/
structure Lst where
  a : Option Addr
  l : List It
  c : Nat
def Lst.v (x : Lst) : Value := .slice x.a x.l.length x.c
def OkL (w : World) (x : Lst) : Prop := RdI w x.a x.l ∧ (∀ y ∈ x.l, Good y) ∧ x.l.length ≤ 8
def OkLs (w : World) (ls : List Lst) : Prop := ∀ x ∈ ls, OkL w x
theorem OkLs.keep {w w' : World} {ls : List Lst} (h : OkLs w ls) (hb : Below w.heap.size w w') : OkLs w' ls := fun x hx => ⟨(h x hx).1.keep hb, (h x hx).2⟩
theorem zero_le8 : ByteArray.size ⟨#[]⟩ ≤ 8 := by decide
theorem ascii_nil : Ascii ⟨#[]⟩ := fun i h => absurd h (by simp [ByteArray.size])
set_option maxRecDepth 100000 in
set_option maxHeartbeats 4000000 in
theorem right_ok (p : Option Addr) (n c : Nat) (ls : List Lst) (w : World) (hn : n = ls.length) (hle : n ≤ 8) (hr : Rd w p (ls.map Lst.v)) (hok : OkLs w ls) :
    Calls Tryz.prog 26 #[.slice p n c] w fun e w' => e = .returned (.bool true) ∧ Below w.heap.size w w' := by
  have Hn := hide hn
  have Hr := hide hr
  have Hok := hide hok
  clear hn hr hok
  go_enter Tryz.func26, Tryz.ntmps26
  go_wp2_with fail
  go_loopw [10] (fun i W => ∃ k : Nat, k ≤ n ∧ i = .int .i64 k ∧ Below w.heap.size w W) (fun i _ => n - (intOf i).toNat)
  case atStart => exact ⟨0, Nat.zero_le _, rfl, Below.refl _ _⟩
  case round =>
    obtain ⟨k, hk, rfl, hB⟩ := hrel
    by_cases hlt : k < n
    · have hI : (k : Int) < (n : Int) := by omega
      obtain ⟨x, hx⟩ : ∃ x, ls[k]? = some x := ⟨_, List.getElem?_eq_getElem (by have := Hn.out; omega)⟩
      obtain ⟨b, off, rfl, hc⟩ := Hr.out.cellAt k x.v (by simp [hx])
      have hcell : wr.cell? ⟨b, off + k, none⟩ = some (.slice x.a x.l.length x.c) := cell_keep hB hc
      have hix := ix_row b off n c k hlt
      have hokx := hide (Hok.out x (List.mem_of_getElem? hx))
      have hxl : x.l.length ≤ 8 := hokx.out.2.2
      clear hx hc
      obtain ⟨xa, xl, xc⟩ := x
      dsimp only at hcell hxl
      obtain ⟨m, hm⟩ : ∃ m, m = xl.length := ⟨_, rfl⟩
      rw [← hm] at hcell hxl
      have Hm := hide hm
      clear hm
      go_wp2_with fail
      go_loopw [16] (fun i W => ∃ j : Nat, j ≤ m ∧ i = .int .i64 j ∧ Below w.heap.size w W) (fun i _ => m - (intOf i).toNat)
      case atStart => exact ⟨0, Nat.zero_le _, rfl, hB⟩
      case round =>
        obtain ⟨j, hj, rfl, hB2⟩ := hrel
        by_cases hlj : j < m
        · have hI2 : (j : Int) < (m : Int) := by omega
          obtain ⟨y, hy⟩ : ∃ y, xl[j]? = some y := ⟨_, List.getElem?_eq_getElem (by have := Hm.out; omega)⟩
          have hg := hokx.out.2.1 y (List.mem_of_getElem? hy)
          obtain ⟨b2, off2, rfl, c0, c1, c2, c3⟩ := (hokx.out.1.keep hB2).at j y hy
          have hix2 := ix_item b2 off2 m xc j hlj
          clear hy
          cases hg with
          | node s d hs hss =>
            have hd0 : ¬ (d : Int) < 0 := by omega
            go_wp2_with fail
            go_region
            go_wp2_with fail
            refine (texts_ascii s _ hs hss).mono ?_
            rintro e w3 ⟨rfl, hb3⟩
            have hB3 : Below w.heap.size w w3 := chain hB2 hB2.size (Below.trans (((Below.refl wr.heap.size wr).alloc (Nat.le_refl _) _).alloc (by simp) _).drew (hb3.mono (by simp; omega)))
            clear hb3
            go_wp2
            go_roundw
            case rel => exact ⟨j + 1, by omega, by simp, hB3⟩
            case measure => simp [intOf]; omega
          | int z =>
            go_wp2_with fail
            refine (texts_ascii _ _ ascii_nil zero_le8).mono ?_
            rintro e w3 ⟨rfl, hb3⟩
            have hB3 := chain0 hB2 (chain2 (Below.refl _ _) hb3)
            clear hb3
            go_wp2
            go_roundw
            case rel => exact ⟨j + 1, by omega, by simp, hB3⟩
            case measure => simp [intOf]; omega
          | str s hs hss =>
            go_wp2_with fail
            refine (texts_ascii s _ hs hss).mono ?_
            rintro e w3 ⟨rfl, hb3⟩
            have hB3 := chain0 hB2 (chain2 (Below.refl _ _) hb3)
            clear hb3
            go_wp2
            go_roundw
            case rel => exact ⟨j + 1, by omega, by simp, hB3⟩
            case measure => simp [intOf]; omega
        · have hI2 : ¬ (j : Int) < (m : Int) := by omega
          go_wp2
          go_roundw
          case rel => exact ⟨k + 1, by omega, by simp, hB2⟩
          case measure => simp [intOf]; omega
    · have hI : ¬ (k : Int) < (n : Int) := by omega
      go_wp2
      go_ret
      exact ⟨rfl, hB⟩
end Go.Proofs.YtmnmnnocgimcpaaGreatDoor
