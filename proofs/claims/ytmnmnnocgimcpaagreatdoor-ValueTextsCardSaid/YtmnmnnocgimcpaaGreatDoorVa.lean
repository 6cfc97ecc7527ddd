/- Items: rows of four cells (kind, number, text, node). -/
import Derived.Test.YtmnmnnocgimcpaaGreatDoorOwn
namespace Go.Proofs.YtmnmnnocgimcpaaGreatDoor
open Go.RowKit
structure It where
  kind : Nat
  num : Int
  text : ByteArray
  node : Int
def itC (x : It) : List Value := [.int .u8 x.kind, .int .i64 x.num, .string x.text, .int .i64 x.node]
def itV (x : It) : Value := .agg (itC x).toArray
def icells (l : List It) : List Value := l.flatMap itC
/-- an address: its cells read as the items l -/
def RdI (w : World) (a : Option Addr) (l : List It) : Prop := Rd w a (icells l)
theorem icells_cons (x : It) (l : List It) : icells (x :: l) = itC x ++ icells l := rfl
theorem icells_length : ∀ (l : List It), (icells l).length = l.length * 4
  | [] => rfl
  | x :: l => by rw [icells_cons, List.length_append, icells_length l]; simp [itC]; omega
theorem icells_get : ∀ (l : List It) (i j : Nat) (x : It), l[i]? = some x → j < 4 → (icells l)[i * 4 + j]? = (itC x)[j]?
  | [], i, j, x, h, _ => by simp at h
  | y :: l, 0, j, x, h, hj => by
    simp at h; subst h
    rw [icells_cons, List.getElem?_append_left (by simp [itC]; omega)]
    simp
  | y :: l, i + 1, j, x, h, hj => by
    rw [icells_cons, List.getElem?_append_right (by simp [itC]; omega)]
    have := icells_get l i j x (by simpa using h) hj
    rw [← this]
    congr 1
    simp [itC]; omega
theorem RdI.keep {w w' : World} {a : Option Addr} {l : List It} (h : RdI w a l) (hb : Below w.heap.size w w') : RdI w' a l := Rd.keep h hb
theorem RdI.alloc {w : World} {a : Option Addr} {l : List It} (h : RdI w a l) (o : Obj) : RdI (w.alloc o) a l := Rd.alloc h o
/-- the i-th item -/
theorem RdI.at {w : World} {a : Option Addr} {l : List It} (h : RdI w a l) (i : Nat) (x : It) (hx : l[i]? = some x) :
    ∃ b off, a = some ⟨b, off, none⟩ ∧ w.cell? ⟨b, off + i * 4, none⟩ = some (.int .u8 x.kind) ∧ w.cell? ⟨b, off + i * 4 + 1, none⟩ = some (.int .i64 x.num) ∧ w.cell? ⟨b, off + i * 4 + 2, none⟩ = some (.string x.text) ∧ w.cell? ⟨b, off + i * 4 + 3, none⟩ = some (.int .i64 x.node) := by
  have hne : icells l ≠ [] := by
    intro e
    have h1 := icells_length l
    rw [e] at h1
    have h2 := (List.getElem?_eq_some_iff.1 hx).1
    simp at h1
    omega
  obtain ⟨b, off, ha, _, hc⟩ := Rd.addrAt h hne
  refine ⟨b, off, ha, ?_, ?_, ?_, ?_⟩
  · exact hc (i * 4) _ (by have := icells_get l i 0 x hx (by decide); simpa [itC] using this)
  · rw [Nat.add_assoc]; exact hc (i * 4 + 1) _ (by have := icells_get l i 1 x hx (by decide); simpa [itC] using this)
  · rw [Nat.add_assoc]; exact hc (i * 4 + 2) _ (by have := icells_get l i 2 x hx (by decide); simpa [itC] using this)
  · rw [Nat.add_assoc]; exact hc (i * 4 + 3) _ (by have := icells_get l i 3 x hx (by decide); simpa [itC] using this)
/-- one item in a block of its own -/
theorem RdI.new (w : World) (t : TypeId) (l : List It) : RdI (w.alloc (.cells (icells l).toArray t)) (some ⟨w.heap.size, 0, none⟩) l := Rd.new w t (icells l)
/-- plain text: bytes of ASCII, no control among them -/
def Ascii (s : ByteArray) : Prop := ∀ (i : Nat) (h : i < s.size), 32 ≤ (s[i]'h).toNat ∧ (s[i]'h).toNat < 127
end Go.Proofs.YtmnmnnocgimcpaaGreatDoor
