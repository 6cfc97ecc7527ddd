/- Lists of byte slices: read, told the same. -/
import Derived.Test.YtafcphnafgfgkaaOwn
import Derived.Test.YtafcphnafgfgkaaBcm
import Derived.Test.YtafcphnafgfgkaaKit
import Derived.ArgAppend
namespace Go.Proofs.Ytafcphnafgfgkaa
open Go.RowKit Bm
theorem pieceInfo : (Try.prog.info? 24).map (fun i => (i.zero, i.size, i.bytes)) = some (some (.slice none 0 0), 1, 24) := by kernel_rfl
/-- a piece: where, its room, its bytes -/
abbrev PcV := Option Addr × Nat × List UInt8
def vsP (ps : List PcV) : List Value := ps.map fun p => .slice p.1 p.2.2.length p.2.1
def RdP (W : World) (a : Option Addr) (bss : List (List UInt8)) : Prop := ∃ ps : List PcV, ps.map (·.2.2) = bss ∧ Rd W a (vsP ps) ∧ ∀ p ∈ ps, RdB W p.1 p.2.2
theorem RdP.keep {W W' : World} {a : Option Addr} {bss : List (List UInt8)} (h : RdP W a bss) (hb : Below W.heap.size W W') : RdP W' a bss := by
  obtain ⟨ps, h1, h2, h3⟩ := h
  exact ⟨ps, h1, h2.keep hb, fun p hp => (h3 p hp).keep hb⟩
theorem RdP.alloc {W : World} {a : Option Addr} {bss : List (List UInt8)} (h : RdP W a bss) (o : Obj) : RdP (W.alloc o) a bss := h.keep ((Below.refl _ _).alloc (Nat.le_refl _) _)
theorem RdP.drew {W : World} {a : Option Addr} {bss : List (List UInt8)} (h : RdP W a bss) : RdP W.drew a bss := h
theorem RdP.nil (W : World) (a : Option Addr) : RdP W a [] := ⟨[], rfl, Rd.nil _ _, fun p hp => absurd hp (by simp)⟩
/-- the i-th piece -/
theorem RdP.at {W : World} {a : Option Addr} {bss : List (List UInt8)} (h : RdP W a bss) (i : Nat) (bs : List UInt8) (hi : bss[i]? = some bs) :
    ∃ b off p c, a = some ⟨b, off, none⟩ ∧ W.cell? ⟨b, off + i, none⟩ = some (.slice p bs.length c) ∧ RdB W p bs := by
  obtain ⟨ps, rfl, h2, h3⟩ := h
  rw [List.getElem?_map] at hi
  obtain ⟨p, hp, rfl⟩ := Option.map_eq_some_iff.1 hi
  obtain ⟨b, off, h4, h5⟩ := Rd.cellAt h2 i (.slice p.1 p.2.2.length p.2.1) (by simp [vsP, hp])
  exact ⟨b, off, p.1, p.2.1, h4, h5, h3 p (List.mem_of_getElem? hp)⟩
theorem ix_pc (b off n c i : Nat) (hlt : i < n) (W : World) : (Instr.indexAt 36 (.slice (some ⟨b, off, none⟩) n c) (.int .i64 (i : Int))).run Try.prog W = .ok (.pointer (some ⟨b, off + i, none⟩)) W := by
  obtain ⟨j0, hj, _, hj1, _⟩ := info_parts pieceInfo
  have := run_ix Try.underlying36 hj hj1 b off n c i (i : Int) rfl hlt W
  rwa [Nat.mul_one] at this
end Go.Proofs.Ytafcphnafgfgkaa
