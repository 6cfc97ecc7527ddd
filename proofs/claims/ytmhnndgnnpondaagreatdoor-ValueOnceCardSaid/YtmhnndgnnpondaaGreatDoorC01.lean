/- Words for memory: a block that is known whole; a string's iterator; small facts on worlds. append on bytes: laws in the words of Mem. Rows of cells of any element type: what reads as a row, what the call itself owns, append. Items: rows of four cells (kind, number, text, node). unicode/utf8's word: eight bytes as a number. chars at plain text. -/
import Derived.Test.YtmhnndgnnpondaaGreatDoorRows
import Derived.WalkKit
import Derived.WalkSpells
import Derived.WalkLawsBesides
import Derived.Deep.QuietTactic
import Derived.BigQuiet
import Derived.Deep.Draws
import Derived.Laws.OwnMore
import Derived.Laws.Rows
import Derived.Lib.OthersKept
import Derived.Lib.BufferWrite
import Derived.Maps.AppendAt
namespace Go.Proofs.YtmhnndgnnpondaaGreatDoor
open Go.RowKit
theorem ret_int {k : IntKind} {a b : Int} (h : a = b) : Ending.returned (.int k a) = .returned (.int k b) := by rw [h]
theorem hide {p : Prop} (h : p) : Hid p := h
def Blk (w : World) (g : Nat) (t : TypeId) (cs : Array Value) : Prop := w.heap[g]? = some (.cells cs t (0, 0))
section
variable {w w' : World} {g : Nat} {t : TypeId} {cs : Array Value}
theorem lt_of_heap {o : Obj} (h : w.heap[g]? = some o) : g < w.heap.size := by
 rcases Nat.lt_or_ge g w.heap.size with hlt | hge
 ·exact hlt
 ·rw [Array.getElem?_eq_none hge] at h; cases h
theorem Blk.lt (h : Blk w g t cs) : g < w.heap.size := lt_of_heap h
theorem Blk.cell (h : Blk w g t cs) (i : Nat) : w.cell? ⟨g, i, none⟩ = cs[i]? := cell_of_row w g i cs t (0, 0) h
theorem Blk.frozen (h : Blk w g t cs) (i : Nat) : w.frozen? ⟨g, i, none⟩ = false := by
 unfold Blk at h
 simp [World.frozen?, h]
theorem Blk.new (w : World) (t : TypeId) (cs : Array Value) : Blk (w.alloc (.cells cs t)) w.heap.size t cs := heap_alloc_new w _
theorem Blk.drew (h : Blk w g t cs) : Blk w.drew g t cs := h
theorem Blk.drewN (h : Blk w g t cs) (n : Nat) : Blk (w.drewN n) g t cs := h
theorem Blk.alloc (h : Blk w g t cs) (o : Obj) : Blk (w.alloc o) g t cs := (Below.heap_alloc w o g h.lt).trans h
theorem Blk.set_ (h : Blk w g t cs) (i : Nat) (u : Value) : Blk (w.setCell ⟨g, i, none⟩ u) g t (cs.setIfInBounds i u) := by
 unfold Blk at h ⊢
 simp [World.setCell, Array.getElem?_modify, h]
theorem Blk.far (h : Blk w g t cs) {p : Addr} (hp : g ≠ p.block) (u : Value) : Blk (w.setCell p u) g t cs := (Below.heap_setCell w p u g hp).trans h
theorem Blk.below {B : Nat} (h : Blk w g t cs) (hb : Below B w w') (hg : g < B) : Blk w' g t cs := (hb.block g hg).trans h
theorem Blk.keep (h : Blk w g t cs) (hb : Below w.heap.size w w') : Blk w' g t cs := (hb.block g h.lt).trans h
theorem Blk.iterAt (h : Blk w g t cs) {k : Nat} (hk : g ≠ k) (s : ByteArray) (pos : Nat) : Blk (w.iterAt k s pos) g t cs := (Lib.iterAt_other w k g s pos hk).trans h
theorem heap_new (w : World) (o : Obj) (k : Nat) (h : k = w.heap.size) : (w.alloc o).heap[k]? = some o := by subst h; exact heap_alloc_new w o
theorem heap_keep {o : Obj} (h : w.heap[g]? = some o) (hb : Below w.heap.size w w') : w'.heap[g]? = some o := (hb.block g (lt_of_heap h)).trans h
theorem heap_alloc {o : Obj} (h : w.heap[g]? = some o) (o' : Obj) : (w.alloc o').heap[g]? = some o := (Below.heap_alloc w o' g (lt_of_heap h)).trans h
theorem heap_set {o : Obj} (h : w.heap[g]? = some o) {p : Addr} (hp : g ≠ p.block) (u : Value) : (w.setCell p u).heap[g]? = some o := (Below.heap_setCell w p u g hp).trans h
end
theorem cell_keep {w w' : World} {p : Addr} {v : Value} (hb : Below w.heap.size w w') (h : w.cell? p = some v) : w'.cell? p = some v := by
 rw [hb.cell (by
  rcases Nat.lt_or_ge p.block w.heap.size with hlt | hge
  ·exact hlt
  ·simp [World.cell?, Array.getElem?_eq_none hge] at h)]
 exact h
theorem chain {B : Nat} {a w w' : World} (h : Below B a w) (hB : B ≤ w.heap.size) (k : Below w.heap.size w w') : Below B a w' := h.trans (k.mono hB)
theorem chain0 {a w w' : World} (h : Below a.heap.size a w) (k : Below w.heap.size w w') : Below a.heap.size a w' := chain h h.size k
theorem chain1 {a w w' : World} {o : Obj} (h : Below a.heap.size a w) (k : Below (w.alloc o).heap.size (w.alloc o) w') : Below a.heap.size a w' := chain0 (h.alloc h.size _) k
theorem chain2 {a w w' : World} {o o' : Obj} (h : Below a.heap.size a w) (k : Below ((w.alloc o).alloc o').heap.size ((w.alloc o).alloc o') w') : Below a.heap.size a w' := chain1 (h.alloc h.size _) k
def Later (w : World) := { w' : World // Below w.heap.size w w' }
instance later_some (w : World) : Nonempty (Later w) := ⟨⟨w, Below.refl _ _⟩⟩
def Bk (w : World) (g : Nat) (bs : List UInt8) : Prop := Blk w g 5 (Lib.byteCells bs).toArray
section
variable {w w' : World} {g : Nat} {bs : List UInt8}
theorem Bk.blk (h : Bk w g bs) : Blk w g 5 (Lib.byteCells bs).toArray := h
theorem Bk.cell (h : Bk w g bs) (i : Nat) (hi : i < bs.length) : w.cell? ⟨g, i, none⟩ = some (.int .u8 ((bs[i]'hi).toNat : Int)) := by
 rw [h.blk.cell i]
 simp [Lib.byteCells, hi]
theorem Bk.set_ (h : Bk w g bs) (i : Nat) (u : UInt8) : Bk (w.setCell ⟨g, i, none⟩ (.int .u8 (u.toNat : Int))) g (bs.set i u) := by
 have := h.blk.set_ i (.int .u8 (u.toNat : Int))
 unfold Bk
 rw [show (Lib.byteCells (bs.set i u)).toArray = (Lib.byteCells bs).toArray.setIfInBounds i (.int .u8 (u.toNat : Int)) from by simp [Lib.byteCells, List.map_set]]
 exact this
theorem Bk.str (h : Bk w g bs) (n cap : Nat) (hn : n = bs.length) : (convert 144 9 (.slice (some ⟨g, 0, none⟩) n cap)).run Tryz.prog w = .ok (.string ⟨bs.toArray⟩) w := by
 subst hn
 exact run_convert_bytes_back w 144 9 5 ⟨g, 0, none⟩ cap bs Tryz.underlying144 Tryz.underlying5 Tryz.underlying9 fun j hj => by
  rw [show (Addr.mk g 0 none).add j = ⟨g, j, none⟩ from by unfold Addr.add; split <;> simp_all]
  exact h.cell j hj
end
section
variable {w w' : World} {g : Nat}
theorem Bk.row (bs bs' : List UInt8) (h : Bk w g bs) : Bk (w.setRow g (Lib.byteCells bs').toArray) g bs' := by
 unfold Bk Blk at h ⊢
 simp [World.setRow, Array.getElem?_modify, h]
theorem grown_setRow (w : World) (g : Nat) (cs : Array Value) : w.grownBy (w.setRow g cs) (some g) :=
 ⟨rfl, rfl, rfl, by simp [World.setRow], fun k _ hne => by
  simp only [World.setRow, Array.getElem?_modify]
  rw [if_neg (fun e => hne (by rw [e]))]⟩
end
def RdB (w : World) (a : Option Addr) (bs : List UInt8) : Prop :=
 bs = [] ∨ ∃ b off, a = some ⟨b, off, none⟩ ∧ b < w.heap.size ∧ ∀ i (h : i < bs.length), w.cell? ⟨b, off + i, none⟩ = some (.int .u8 ((bs[i]'h).toNat : Int))
def Rw (w : World) (g : Nat) (full : List UInt8) : Prop :=
 ∃ fz : Nat × Nat, w.heap[g]? = some (.cells (Lib.byteCells full).toArray 5 fz) ∧ ∀ i, i < full.length → (decide (fz.1 ≤ i) && decide (i < fz.2)) = false
section
variable {w w' : World} {g : Nat} {bs full : List UInt8} {a : Option Addr}
theorem RdB.keep (h : RdB w a bs) (hb : Below w.heap.size w w') : RdB w' a bs := by
 rcases h with h | ⟨b, off, ha, hlt, hc⟩
 ·exact .inl h
 ·exact .inr ⟨b, off, ha, Nat.lt_of_lt_of_le hlt hb.size, fun i hi => (hb.cell (p := ⟨b, off + i, none⟩) hlt).trans (hc i hi)⟩
theorem RdB.alloc (h : RdB w a bs) (o : Obj) : RdB (w.alloc o) a bs := h.keep ((Below.refl _ _).alloc (Nat.le_refl _) _)
theorem RdB.drew (h : RdB w a bs) : RdB w.drew a bs := h
theorem Rw.lt (h : Rw w g full) : g < w.heap.size := by obtain ⟨fz, h, _⟩ := h; exact lt_of_heap h
theorem Rw.cell (h : Rw w g full) (i : Nat) (hi : i < full.length) : w.cell? ⟨g, i, none⟩ = some (.int .u8 ((full[i]'hi).toNat : Int)) := by
 obtain ⟨fz, h, _⟩ := h
 simp [World.cell?, h, Lib.byteCells, hi]
theorem Rw.frozen (h : Rw w g full) (i : Nat) (hi : i < full.length) : w.frozen? ⟨g, i, none⟩ = false := by
 obtain ⟨fz, h, hf⟩ := h
 have := hf i hi
 simpa [World.frozen?, h] using this
theorem Rw.keep (h : Rw w g full) (hb : Below w.heap.size w w') : Rw w' g full := by
 obtain ⟨fz, h, hf⟩ := h
 exact ⟨fz, heap_keep h hb, hf⟩
theorem Rw.below {B : Nat} (h : Rw w g full) (hb : Below B w w') (hg : g < B) : Rw w' g full := by
 obtain ⟨fz, h, hf⟩ := h
 exact ⟨fz, (hb.block g hg).trans h, hf⟩
theorem Rw.far (h : Rw w g full) {p : Addr} (hp : g ≠ p.block) (u : Value) : Rw (w.setCell p u) g full := by
 obtain ⟨fz, h, hf⟩ := h
 exact ⟨fz, heap_set h hp u, hf⟩
theorem Rw.set_ (h : Rw w g full) (i : Nat) (u : UInt8) : Rw (w.setCell ⟨g, i, none⟩ (.int .u8 (u.toNat : Int))) g (full.set i u) := by
 obtain ⟨fz, h, hf⟩ := h
 refine ⟨fz, ?_, fun j hj => hf j (by simpa using hj)⟩
 rw [show (Lib.byteCells (full.set i u)).toArray = (Lib.byteCells full).toArray.setIfInBounds i (.int .u8 (u.toNat : Int)) from by simp [Lib.byteCells, List.map_set]]
 simp [World.setCell, Array.getElem?_modify, h]
theorem Rw.rd (h : Rw w g full) (n : Nat) : RdB w (some ⟨g, 0, none⟩) (full.take n) :=
 .inr ⟨g, 0, rfl, h.lt, fun i hi => by
  rw [Nat.zero_add, h.cell i (by simp at hi; omega)]
  simp⟩
theorem RdB.str (h : RdB w a bs) (n cap : Nat) (hn : n = bs.length) : (convert 144 9 (.slice a n cap)).run Tryz.prog w = .ok (.string ⟨bs.toArray⟩) w := by
 subst hn
 rcases h with rfl | ⟨b, off, rfl, hlt, hc⟩
 ·cases a with
  | none =>
   simp [convert, run_underlying Tryz.underlying144, run_underlying Tryz.underlying9, run_underlying Tryz.underlying5, Conv.bytesToString]
   rfl
  | some x => exact run_convert_bytes_back w 144 9 5 x cap [] Tryz.underlying144 Tryz.underlying5 Tryz.underlying9 fun j hj => absurd hj (by simp)
 ·exact run_convert_bytes_back w 144 9 5 ⟨b, off, none⟩ cap bs Tryz.underlying144 Tryz.underlying5 Tryz.underlying9 fun j hj => by
   rw [show (Addr.mk b off none).add j = ⟨b, off + j, none⟩ from by unfold Addr.add; split <;> simp_all]
   exact hc j hj
end
end Go.Proofs.YtmhnndgnnpondaaGreatDoor
namespace Go.Proofs.YtmhnndgnnpondaaGreatDoor
open Go.RowKit
def OwB (w : World) (B : Nat) (v : Value) (xs : List UInt8) : Prop := w.ownsRow B 5 1 v xs.length (Lib.byteCells xs)
section
variable {w w' : World} {B g : Nat} {v : Value} {xs ys : List UInt8} {a : Option Addr}
theorem OwB.nil (w : World) (B : Nat) : OwB w B (.slice none 0 0) [] := ⟨by simp [Lib.byteCells], .inl ⟨rfl, rfl⟩⟩
theorem length_byteCells (l : List UInt8) : (Lib.byteCells l).length = l.length := by simp [Lib.byteCells]
theorem OwB.form (h : OwB w B v xs) (h0 : xs ≠ []) : ∃ g cap, v = .slice (some ⟨g, 0, none⟩) xs.length cap ∧ B ≤ g ∧ g < w.heap.size ∧ xs.length ≤ cap := by
 rcases h.2 with ⟨_, h1⟩ | ⟨g, cap, cur, hv, hg, hh, hc, _⟩
 ·exact absurd (List.length_eq_zero_iff.1 h1) h0
 ·exact ⟨g, cap, hv, hg, lt_of_heap hh, hc⟩
theorem OwB.rd {cap n : Nat} (h : OwB w B (.slice a n cap) xs) : RdB w a xs := by
 by_cases h0 : xs = []
 ·exact .inl h0
 ·rcases h.2 with ⟨_, h1⟩ | ⟨g, cap', cur, hv, hg, hh, r⟩
  ·exact absurd (List.length_eq_zero_iff.1 h1) h0
  ·injection hv with hv
   subst hv
   refine .inr ⟨g, 0, rfl, lt_of_heap hh, fun i hi => ?_⟩
   have hv' : n = xs.length := by
    rcases h.2 with ⟨e1, e2⟩ | ⟨g, cap, cur, e, _⟩
    ·cases e1
    ·injection e
   subst hv'
   have := h.cells (g := g) rfl i (.int .u8 (xs[i].toNat : Int)) (by simp [Lib.byteCells, hi])
   rw [show (Addr.mk g 0 none).add i = ⟨g, 0 + i, none⟩ from by unfold Addr.add; split <;> simp_all] at this
   exact this
theorem OwB.keep (h : OwB w B v xs) (hb : Below w.heap.size w w') : OwB w' B v xs := by
 obtain ⟨h1, h2⟩ := h
 refine ⟨h1, ?_⟩
 rcases h2 with h2 | ⟨g, cap, cur, hv, hg, hh, r⟩
 ·exact .inl h2
 ·exact .inr ⟨g, cap, cur, hv, hg, heap_keep hh hb, r⟩
theorem OwB.lt (h : OwB w B v xs) : ∀ k, v.ownBlock = some k → B ≤ k ∧ k < w.heap.size := World.ownsRow.lt h
theorem OwB.cell {n cap : Nat} (h : OwB w B (.slice (some ⟨g, 0, none⟩) n cap) xs) (i : Nat) (hi : i < xs.length) : w.cell? ⟨g, i, none⟩ = some (.int .u8 ((xs[i]'hi).toNat : Int)) := by
 rcases h.rd with h | ⟨b, off, e, _, hc⟩
 ·subst h; simp at hi
 ·injection e with e
  injection e with e1 e2
  subst e1 e2
  have := hc i hi
  rwa [Nat.zero_add] at this
theorem OwB.frozen {n cap : Nat} (h : OwB w B (.slice (some ⟨g, 0, none⟩) n cap) xs) (i : Nat) : w.frozen? ⟨g, i, none⟩ = false := by
 rcases h.2 with ⟨e, _⟩ | ⟨g', cap', cur, e, _, hh, _⟩
 ·cases e
 ·injection e with e1 e2 e3
  injection e1 with e1
  injection e1 with e1
  subst e1
  simp [World.frozen?, hh]
theorem OwB.set_ {n cap : Nat} (h : OwB w B (.slice (some ⟨g, 0, none⟩) n cap) xs) (i : Nat) (u : UInt8) : OwB (w.setCell ⟨g, i, none⟩ (.int .u8 (u.toNat : Int))) B (.slice (some ⟨g, 0, none⟩) n cap) (xs.set i u) := by
 have hn : n = xs.length := by
  rcases h.2 with ⟨e1, e2⟩ | ⟨g', cap', cur, e, _⟩
  ·cases e1
  ·injection e
 by_cases hi : i < xs.length
 ·refine ⟨by simp [Lib.byteCells], ?_⟩
  rcases h.2 with ⟨e, _⟩ | ⟨g', cap', cur, e, hg, hh, h1, h2, h3, h4⟩
  ·cases e
  ·injection e with e1 e2 e3
   injection e1 with e1
   injection e1 with e1
   subst e1 e3
   refine .inr ⟨g, cap, cur.setIfInBounds i (.int .u8 (u.toNat : Int)), by rw [List.length_set, hn], hg, ?_, by rw [List.length_set]; exact h1, h2, by simpa using h3, ?_⟩
   ·simp [World.setCell, Array.getElem?_modify, hh]
   ·rw [List.length_set, Array.toList_setIfInBounds, List.take_set, h4]
    simp [Lib.byteCells, List.map_set]
 ·rw [List.set_eq_of_length_le (by omega)]
  rcases h.2 with ⟨e, _⟩ | ⟨g', cap', cur, e, hg, hh, h1, h2, h3, h4⟩
  ·cases e
  ·injection e with e1 e2 e3
   injection e1 with e1
   injection e1 with e1
   subst e1 e3
   refine ⟨h.1, .inr ⟨g, cap, cur.setIfInBounds i (.int .u8 (u.toNat : Int)), by rw [hn], hg, ?_, h1, h2, by simpa using h3, ?_⟩⟩
   ·simp [World.setCell, Array.getElem?_modify, hh]
   ·rw [Array.toList_setIfInBounds, List.take_set, h4]
    rw [List.set_eq_of_length_le (by rw [length_byteCells]; omega)]
end
end Go.Proofs.YtmhnndgnnpondaaGreatDoor
namespace Go.Proofs.YtmhnndgnnpondaaGreatDoor
open Go.RowKit
def Rd (w : World) (a : Option Addr) (xs : List Value) : Prop :=
 xs = [] ∨ ∃ b off, a = some ⟨b, off, none⟩ ∧ b < w.heap.size ∧ ∀ i u, xs[i]? = some u → w.cell? ⟨b, off + i, none⟩ = some u
theorem addr_add (b off i : Nat) : (Addr.mk b off none).add i = ⟨b, off + i, none⟩ := by unfold Addr.add; split <;> simp_all
section
variable {w w' : World} {a : Option Addr} {xs ys : List Value} {B g n m size cap : Nat} {e : TypeId} {v : Value}
theorem Rd.keep (h : Rd w a xs) (hb : Below w.heap.size w w') : Rd w' a xs := by
 rcases h with h | ⟨b, off, ha, hlt, hc⟩
 ·exact .inl h
 ·exact .inr ⟨b, off, ha, Nat.lt_of_lt_of_le hlt hb.size, fun i u hu => (hb.cell (p := ⟨b, off + i, none⟩) hlt).trans (hc i u hu)⟩
theorem Rd.alloc (h : Rd w a xs) (o : Obj) : Rd (w.alloc o) a xs := h.keep ((Below.refl _ _).alloc (Nat.le_refl _) _)
theorem Rd.drew (h : Rd w a xs) : Rd w.drew a xs := h
theorem Rd.cellAt (h : Rd w a xs) (i : Nat) (u : Value) (hu : xs[i]? = some u) : ∃ b off, a = some ⟨b, off, none⟩ ∧ w.cell? ⟨b, off + i, none⟩ = some u := by
 rcases h with rfl | ⟨b, off, ha, _, hc⟩
 ·simp at hu
 ·exact ⟨b, off, ha, hc i u hu⟩
theorem Rd.addrAt (h : Rd w a xs) (h0 : xs ≠ []) : ∃ b off, a = some ⟨b, off, none⟩ ∧ b < w.heap.size ∧ ∀ i u, xs[i]? = some u → w.cell? ⟨b, off + i, none⟩ = some u := by
 rcases h with h | h
 ·exact absurd h h0
 ·exact h
theorem Rd.take (h : Rd w a xs) (k : Nat) : Rd w a (xs.take k) := by
 rcases h with rfl | ⟨b, off, ha, hlt, hc⟩
 ·exact .inl (by simp)
 ·refine .inr ⟨b, off, ha, hlt, fun i u hu => hc i u ?_⟩
  rw [List.getElem?_take] at hu
  split at hu
  ·exact hu
  ·cases hu
theorem Rd.nil (w : World) (a : Option Addr) : Rd w a [] := .inl rfl
theorem Rd.news (h : Rd w (some ⟨g, n, none⟩) xs) : ∀ j u, xs[j]? = some u → w.cell? ((Addr.mk g n none).add j) = some u := by
 intro j u hu
 rw [addr_add]
 rcases h with rfl | ⟨b, off, ha, _, hc⟩
 ·simp at hu
 ·injection ha with ha
  injection ha with h1 h2
  subst h1 h2
  exact hc j u hu
theorem Rd.new (w : World) (t : TypeId) (cs : List Value) : Rd (w.alloc (.cells cs.toArray t)) (some ⟨w.heap.size, 0, none⟩) cs :=
 .inr ⟨w.heap.size, 0, rfl, by simp, fun i u hu => by
  rw [Nat.zero_add]
  have := (Blk.new w t cs.toArray).cell i
  rw [this]
  simpa using hu⟩
theorem Blk.grown {t : TypeId} {cs : Array Value} {k : Nat} (h : Blk w g t cs) (hg : w.grownBy w' (some k)) (hne : g ≠ k) : Blk w' g t cs :=
 (hg.block g h.lt (by intro e; injection e with e; exact hne e)).trans h
theorem ow_keep (h : w.ownsRow B e size v n xs) (hb : Below w.heap.size w w') : w'.ownsRow B e size v n xs := by
 obtain ⟨h1, h2⟩ := h
 refine ⟨h1, ?_⟩
 rcases h2 with h2 | ⟨g, cap, cur, hv, hg, hh, r⟩
 ·exact .inl h2
 ·exact .inr ⟨g, cap, cur, hv, hg, heap_keep hh hb, r⟩
theorem ow_nil (w : World) (B : Nat) (e : TypeId) (size : Nat) : w.ownsRow B e size (.slice none 0 0) 0 [] := ⟨by simp, .inl ⟨rfl, rfl⟩⟩
theorem ow_forms (h : w.ownsRow B e size v n xs) : ∃ a cap, v = .slice a n cap := by
 rcases h.2 with ⟨h1, h2⟩ | ⟨g, cap, cur, hv, _⟩
 ·exact ⟨none, 0, by rw [h1, h2]⟩
 ·exact ⟨_, cap, hv⟩
theorem ow_form (h : w.ownsRow B e size v n xs) (h0 : n ≠ 0) : ∃ g cap, v = .slice (some ⟨g, 0, none⟩) n cap ∧ B ≤ g ∧ g < w.heap.size ∧ n ≤ cap := by
 rcases h.2 with ⟨_, h1⟩ | ⟨g, cap, cur, hv, hg, hh, hc, _⟩
 ·exact absurd h1 h0
 ·exact ⟨g, cap, hv, hg, lt_of_heap hh, hc⟩
theorem ow_rd (h : w.ownsRow B e size (.slice a n cap) n xs) : Rd w a xs := by
 by_cases h0 : xs = []
 ·exact .inl h0
 ·rcases h.2 with ⟨h1, h2⟩ | ⟨g, cap', cur, hv, hg, hh, r⟩
  ·exact absurd (List.length_eq_zero_iff.1 (by rw [h.1, h2, Nat.zero_mul])) h0
  ·injection hv with hv
   subst hv
   refine .inr ⟨g, 0, rfl, lt_of_heap hh, fun i u hu => ?_⟩
   have := h.cells (g := g) rfl i u hu
   rwa [addr_add] at this
theorem ow_cell (h : w.ownsRow B e size (.slice (some ⟨g, 0, none⟩) m cap) n xs) (i : Nat) (u : Value) (hu : xs[i]? = some u) : w.cell? ⟨g, i, none⟩ = some u := by
 have := h.cells (g := g) rfl i u hu
 rw [addr_add, Nat.zero_add] at this
 exact this
theorem ow_frozen (h : w.ownsRow B e size (.slice (some ⟨g, 0, none⟩) m cap) n xs) (i : Nat) : w.frozen? ⟨g, i, none⟩ = false := by
 rcases h.2 with ⟨e, _⟩ | ⟨g', cap', cur, e, _, hh, _⟩
 ·cases e
 ·injection e with e1 e2 e3
  injection e1 with e1
  injection e1 with e1
  subst e1
  simp [World.frozen?, hh]
theorem ow_lt (h : w.ownsRow B e size v n xs) : ∀ k, v.ownBlock = some k → B ≤ k ∧ k < w.heap.size := World.ownsRow.lt h
theorem ow_mono {B' : Nat} (h : w.ownsRow B e size v n xs) (hB : B' ≤ B) : w.ownsRow B' e size v n xs := by
 refine ⟨h.1, ?_⟩
 rcases h.2 with h2 | ⟨g, cap, cur, hv, hg, r⟩
 ·exact .inl h2
 ·exact .inr ⟨g, cap, cur, hv, by omega, r⟩
theorem run_appR (i0 : TypeInfo) (z : Value) (bytes : Nat) (t ty : TypeId) (c : Nat) (ht : Tryz.prog.underlying t = some (.slice e)) (hi : Tryz.prog.info? e = some i0) (hz0 : i0.zero = some z) (hz1 : i0.size = size) (hz2 : i0.bytes = bytes)
  (hzs : z.cells.size = size) (hsz : 0 < size) (hone : ∀ u ∈ ys, u.oneCell' = true) (hown : w.ownsRow B e size v n xs) (hr : Rd w a ys) (hm : ys.length = m * size) (hle : (n + m) * bytes ≤ 140737488355328) (h63 : n + m ≤ 140737488355328) (hB : B ≤ w.heap.size) :
  ∃ v' w', (Builtin.append_ #[t, t] ty #[v, .slice a m c]).run Tryz.prog w = .ok v' w' ∧ w'.ownsRow B e size v' (n + m) (xs ++ ys) ∧ w.grownBy w' v.ownBlock ∧ (v'.ownBlock = v.ownBlock ∨ v'.ownBlock = some w.heap.size) := by
 by_cases h0 : ys = []
 ·subst h0
  have hm0 : m = 0 := by
   have h1 : 0 = m * size := by simpa using hm
   rcases Nat.mul_eq_zero.1 h1.symm with h | h
   ·exact h
   ·omega
  subst hm0
  refine ⟨v, w, ?_, by rw [List.append_nil]; exact hown, World.grownBy.refl w _, .inl rfl⟩
  rcases hown.2 with ⟨rfl, _⟩ | ⟨g, cap, cur, rfl, _, _, hnc, _⟩
  ·cases a <;> simp [Builtin.append_, run_underlying ht, sizeOf, typeInfo, hi, Builtin.lenOf, Builtin.firstCells, loadCells, loadCellsFrom]
  ·cases a <;> simp [Builtin.append_, run_underlying ht, sizeOf, typeInfo, hi, Builtin.lenOf, Builtin.firstCells, hnc, storeCells, loadCells, loadCellsFrom]
 ·obtain ⟨b, off, rfl, hlt, hc⟩ := hr.addrAt h0
  obtain ⟨v', w', hrun, h2, h3, _, h5⟩ := run_append_own_at (P := Tryz.prog) w B t ty e i0 z size bytes ht hi hz0 hz1 hz2 hzs hsz v n xs hown ⟨b, off, none⟩ m c ys hm (hr.news) hone (by unfold maxLen; omega) hle hB
  exact ⟨v', w', hrun, h2, h3, h5⟩
theorem wpList_appR {ops : Array Oper} {rest : List Oper} {o : Oper} {ac : Act} {Q : Exit → Act → World → Prop} (hgd : o.guard = none) (s x : Operand) (t : TypeId)
  (ho : o.op = .call { callee := .builtin .append, args := #[s, x], argTypes := #[t, t] })
  (i0 : TypeInfo) (z : Value) (bytes : Nat) (c : Nat) (ht : Tryz.prog.underlying t = some (.slice e)) (hi : Tryz.prog.info? e = some i0) (hz0 : i0.zero = some z) (hz1 : i0.size = size) (hz2 : i0.bytes = bytes)
  (hzs : z.cells.size = size) (hsz : 0 < size) (hs : ac.eval s = v) (hx : ac.eval x = .slice a m c) (hone : ∀ u ∈ ys, u.oneCell' = true) (hown : w.ownsRow B e size v n xs) (hr : Rd w a ys) (hm : ys.length = m * size)
  (hle : (n + m) * bytes ≤ 140737488355328) (h63 : n + m ≤ 140737488355328) (hB : B ≤ w.heap.size)
  (K : ∀ v' w', w'.ownsRow B e size v' (n + m) (xs ++ ys) → w.grownBy w' v.ownBlock → (v'.ownBlock = v.ownBlock ∨ v'.ownBlock = some w.heap.size) → wpList Tryz.prog ops Q rest (ac.put o.dst v') w') :
  wpList Tryz.prog ops Q (o :: rest) ac w := by
 refine wpList_plain hgd fun K' hK => ?_
 obtain ⟨v', w', hrun, h2, h3, h4⟩ := run_appR (w := w) i0 z bytes t o.type c ht hi hz0 hz1 hz2 hzs hsz hone hown hr hm hle h63 hB
 have := hK _ _ (K v' w' h2 h3 h4)
 unfold Oper.wp execOp
 simp only [ho, resolve, invoke, builtin, Sem.run_bind, Sem.run_pure, Result.andThen_ok, List.map_toArray, List.map_cons, List.map_nil, hs, hx, hrun]
 exact this
end
theorem run_ix {t e : TypeId} {i0 : TypeInfo} {size : Nat} (ht : Tryz.prog.underlying t = some (.slice e)) (hi : Tryz.prog.info? e = some i0) (hz : i0.size = size) (g off n c k : Nat) (x : Int) (hx : x = k) (hk : k < n) (W : World) :
  (Instr.indexAt t (.slice (some ⟨g, off, none⟩) n c) (.int .i64 x)).run Tryz.prog W = .ok (.pointer (some ⟨g, off + k * size, none⟩)) W := by
 subst hx hz
 have h1 : (0 : Int) ≤ (k : Int) ∧ (k : Int) < (n : Int) := by omega
 simp [Instr.indexAt, go_sem, run_underlying ht, sizeOf, typeInfo, hi, h1, addr_add]
 intro h; omega
end Go.Proofs.YtmhnndgnnpondaaGreatDoor
namespace Go.Proofs.YtmhnndgnnpondaaGreatDoor
open Go.RowKit
structure It where
 kind : Nat
 num : Int
 text : ByteArray
 node : Int
instance : Inhabited It := ⟨⟨0, 0, ⟨#[]⟩, 0⟩⟩
def itC (x : It) : List Value := [.int .u8 x.kind, .int .i64 x.num, .string x.text, .int .i64 x.node]
def itV (x : It) : Value := .agg (itC x).toArray
def icells (l : List It) : List Value := l.flatMap itC
def RdI (w : World) (a : Option Addr) (l : List It) : Prop := Rd w a (icells l)
theorem icells_cons (x : It) (l : List It) : icells (x :: l) = itC x ++ icells l := rfl
theorem icells_length : ∀ (l : List It), (icells l).length = l.length * 4
 | [] => rfl
 | x :: l => by rw [icells_cons, List.length_append, icells_length l]; simp [itC]; omega
theorem icells_get : ∀ (l : List It) (i j : Nat) (x : It), l[i]? = some x → j < 4 → (icells l)[i * 4 + j]? = (itC x)[j]?
 | [], i, j, x, h, _ => by simp at h
 | y :: l, 0, j, x, h, hj => by
  simp at h; subst h
  rw [icells_cons, List.getElem?_append_left (by simp [itC]; omega)]
  simp
 | y :: l, i + 1, j, x, h, hj => by
  rw [icells_cons, List.getElem?_append_right (by simp [itC]; omega)]
  have := icells_get l i j x (by simpa using h) hj
  rw [← this]
  congr 1
  simp [itC]; omega
theorem RdI.keep {w w' : World} {a : Option Addr} {l : List It} (h : RdI w a l) (hb : Below w.heap.size w w') : RdI w' a l := Rd.keep h hb
theorem RdI.alloc {w : World} {a : Option Addr} {l : List It} (h : RdI w a l) (o : Obj) : RdI (w.alloc o) a l := Rd.alloc h o
theorem RdI.at {w : World} {a : Option Addr} {l : List It} (h : RdI w a l) (i : Nat) (x : It) (hx : l[i]? = some x) :
  ∃ b off, a = some ⟨b, off, none⟩ ∧ w.cell? ⟨b, off + i * 4, none⟩ = some (.int .u8 x.kind) ∧ w.cell? ⟨b, off + i * 4 + 1, none⟩ = some (.int .i64 x.num) ∧ w.cell? ⟨b, off + i * 4 + 2, none⟩ = some (.string x.text) ∧ w.cell? ⟨b, off + i * 4 + 3, none⟩ = some (.int .i64 x.node) := by
 have hne : icells l ≠ [] := by
  intro e
  have h1 := icells_length l
  rw [e] at h1
  have h2 := (List.getElem?_eq_some_iff.1 hx).1
  simp at h1
  omega
 obtain ⟨b, off, ha, _, hc⟩ := Rd.addrAt h hne
 refine ⟨b, off, ha, ?_, ?_, ?_, ?_⟩
 ·exact hc (i * 4) _ (by have := icells_get l i 0 x hx (by decide); simpa [itC] using this)
 ·rw [Nat.add_assoc]; exact hc (i * 4 + 1) _ (by have := icells_get l i 1 x hx (by decide); simpa [itC] using this)
 ·rw [Nat.add_assoc]; exact hc (i * 4 + 2) _ (by have := icells_get l i 2 x hx (by decide); simpa [itC] using this)
 ·rw [Nat.add_assoc]; exact hc (i * 4 + 3) _ (by have := icells_get l i 3 x hx (by decide); simpa [itC] using this)
theorem RdI.new (w : World) (t : TypeId) (l : List It) : RdI (w.alloc (.cells (icells l).toArray t)) (some ⟨w.heap.size, 0, none⟩) l := Rd.new w t (icells l)
def Ascii (s : ByteArray) : Prop := ∀ (i : Nat) (h : i < s.size), 32 ≤ (s[i]'h).toNat ∧ (s[i]'h).toNat < 127
end Go.Proofs.YtmhnndgnnpondaaGreatDoor
namespace Go.Proofs.YtmhnndgnnpondaaGreatDoor
open Go.RowKit
def bt (s : ByteArray) (i : Nat) : Int := ((s.data[i]?.getD 0).toNat : Int)
theorem bt_get (s : ByteArray) (i : Nat) (h : i < s.size) : (((s[i]'h).toNat : Nat) : Int) = bt s i := by
 have h' : i < s.data.size := h
 unfold bt
 rw [Array.getElem?_eq_getElem h']
 rfl
def Zm (z : Int) : Prop := bits .and .u64 z 9259542123273814144 = 0
instance (z : Int) : Decidable (Zm z) := by unfold Zm; exact inferInstance
theorem wrap_u64_nat (r : BitVec 64) : IntKind.u64.wrap (r.toNat : Int) = (r.toNat : Int) := by
 rw [IntKind.wrap_u64]
 have := r.isLt
 omega
theorem and_u64 (x y : Int) : bits .and .u64 x y = ((BitVec.ofInt 64 x &&& BitVec.ofInt 64 y).toNat : Int) := wrap_u64_nat _
theorem or_u64 (x y : Int) : bits .or .u64 x y = ((BitVec.ofInt 64 x ||| BitVec.ofInt 64 y).toNat : Int) := wrap_u64_nat _
theorem Zm_or {x y : Int} (h : Zm (bits .or .u64 x y)) : Zm x ∧ Zm y := by
 unfold Zm at *
 rw [and_u64] at *
 rw [or_u64] at h
 rw [and_u64]
 have e : BitVec.ofInt 64 ((BitVec.ofInt 64 x ||| BitVec.ofInt 64 y).toNat : Int) = BitVec.ofInt 64 x ||| BitVec.ofInt 64 y := by
  rw [BitVec.ofInt_natCast, BitVec.ofNat_toNat, BitVec.setWidth_eq]
 rw [e] at h
 generalize BitVec.ofInt 64 x = a at *
 generalize BitVec.ofInt 64 y = b at *
 generalize BitVec.ofInt 64 9259542123273814144 = m at *
 have h0 : (a ||| b) &&& m = 0#64 := BitVec.eq_of_toNat_eq (by simpa using h)
 have hb : ∀ i, ((a.getLsbD i || b.getLsbD i) && m.getLsbD i) = false := fun i => by
  have := congrArg (fun z => z.getLsbD i) h0
  simpa using this
 constructor
 ·have : a &&& m = 0#64 := BitVec.eq_of_getLsbD_eq fun i _ => by
   have := hb i
   rw [BitVec.getLsbD_and, BitVec.getLsbD_zero]
   revert this
   cases a.getLsbD i <;> cases b.getLsbD i <;> cases m.getLsbD i <;> simp
  rw [this]; rfl
 ·have : b &&& m = 0#64 := BitVec.eq_of_getLsbD_eq fun i _ => by
   have := hb i
   rw [BitVec.getLsbD_and, BitVec.getLsbD_zero]
   revert this
   cases a.getLsbD i <;> cases b.getLsbD i <;> cases m.getLsbD i <;> simp
  rw [this]; rfl
def wordZ (b0 b1 b2 b3 b4 b5 b6 b7 : Int) : Int := bits .or .u64 (bits .or .u64 (bits .or .u64 (bits .or .u64 (bits .or .u64 (bits .or .u64 (bits .or .u64 (IntKind.u64.wrap b0) (IntKind.u64.wrap (IntKind.u64.wrap b1 * 256))) (IntKind.u64.wrap (IntKind.u64.wrap b2 * 65536))) (IntKind.u64.wrap (IntKind.u64.wrap b3 * 16777216))) (IntKind.u64.wrap (IntKind.u64.wrap b4 * 4294967296))) (IntKind.u64.wrap (IntKind.u64.wrap b5 * 1099511627776))) (IntKind.u64.wrap (IntKind.u64.wrap b6 * 281474976710656))) (IntKind.u64.wrap (IntKind.u64.wrap b7 * 72057594037927936))
def wz (s : ByteArray) : Int := wordZ (bt s 0) (bt s 1) (bt s 2) (bt s 3) (bt s 4) (bt s 5) (bt s 6) (bt s 7)
theorem zm0 : ∀ b : Nat, b < 256 → Zm (IntKind.u64.wrap (b : Int)) → b < 128 := by decide +kernel
theorem zm1 : ∀ b : Nat, b < 256 → Zm (IntKind.u64.wrap (IntKind.u64.wrap (b : Int) * 256)) → b < 128 := by decide +kernel
theorem zm2 : ∀ b : Nat, b < 256 → Zm (IntKind.u64.wrap (IntKind.u64.wrap (b : Int) * 65536)) → b < 128 := by decide +kernel
theorem zm3 : ∀ b : Nat, b < 256 → Zm (IntKind.u64.wrap (IntKind.u64.wrap (b : Int) * 16777216)) → b < 128 := by decide +kernel
theorem zm4 : ∀ b : Nat, b < 256 → Zm (IntKind.u64.wrap (IntKind.u64.wrap (b : Int) * 4294967296)) → b < 128 := by decide +kernel
theorem zm5 : ∀ b : Nat, b < 256 → Zm (IntKind.u64.wrap (IntKind.u64.wrap (b : Int) * 1099511627776)) → b < 128 := by decide +kernel
theorem zm6 : ∀ b : Nat, b < 256 → Zm (IntKind.u64.wrap (IntKind.u64.wrap (b : Int) * 281474976710656)) → b < 128 := by decide +kernel
theorem zm7 : ∀ b : Nat, b < 256 → Zm (IntKind.u64.wrap (IntKind.u64.wrap (b : Int) * 72057594037927936)) → b < 128 := by decide +kernel
theorem bt_nat (s : ByteArray) (i : Nat) : ∃ n : Nat, n < 256 ∧ bt s i = (n : Int) := ⟨_, UInt8.toNat_lt _, rfl⟩
theorem wz_ascii (s : ByteArray) (h : Zm (wz s)) : ∀ i, i < 8 → bt s i < 128 := by
 unfold wz wordZ at h
 obtain ⟨h, h7⟩ := Zm_or h
 obtain ⟨h, h6⟩ := Zm_or h
 obtain ⟨h, h5⟩ := Zm_or h
 obtain ⟨h, h4⟩ := Zm_or h
 obtain ⟨h, h3⟩ := Zm_or h
 obtain ⟨h, h2⟩ := Zm_or h
 obtain ⟨h0, h1⟩ := Zm_or h
 intro i hi
 match i, hi with
 | 0, _ => obtain ⟨n, hn, e⟩ := bt_nat s 0; rw [e] at h0 ⊢; have := zm0 n hn h0; omega
 | 1, _ => obtain ⟨n, hn, e⟩ := bt_nat s 1; rw [e] at h1 ⊢; have := zm1 n hn h1; omega
 | 2, _ => obtain ⟨n, hn, e⟩ := bt_nat s 2; rw [e] at h2 ⊢; have := zm2 n hn h2; omega
 | 3, _ => obtain ⟨n, hn, e⟩ := bt_nat s 3; rw [e] at h3 ⊢; have := zm3 n hn h3; omega
 | 4, _ => obtain ⟨n, hn, e⟩ := bt_nat s 4; rw [e] at h4 ⊢; have := zm4 n hn h4; omega
 | 5, _ => obtain ⟨n, hn, e⟩ := bt_nat s 5; rw [e] at h5 ⊢; have := zm5 n hn h5; omega
 | 6, _ => obtain ⟨n, hn, e⟩ := bt_nat s 6; rw [e] at h6 ⊢; have := zm6 n hn h6; omega
 | 7, _ => obtain ⟨n, hn, e⟩ := bt_nat s 7; rw [e] at h7 ⊢; have := zm7 n hn h7; omega
set_option maxRecDepth 100000 in
set_option maxHeartbeats 4000000 in
theorem word_any (s : ByteArray) (w : World) (hs : 8 ≤ s.size) : Calls Tryz.prog 154 #[.string s] w fun e w' => e = .returned (.int .u64 (wz s)) ∧ ∃ n, w' = w.drewN n := by
 have h0 : 0 < s.size := by omega
 have i0 : (0 : Int) < (s.size : Int) := by omega
 have h1 : 1 < s.size := by omega
 have i1 : (1 : Int) < (s.size : Int) := by omega
 have h2 : 2 < s.size := by omega
 have i2 : (2 : Int) < (s.size : Int) := by omega
 have h3 : 3 < s.size := by omega
 have i3 : (3 : Int) < (s.size : Int) := by omega
 have h4 : 4 < s.size := by omega
 have i4 : (4 : Int) < (s.size : Int) := by omega
 have h5 : 5 < s.size := by omega
 have i5 : (5 : Int) < (s.size : Int) := by omega
 have h6 : 6 < s.size := by omega
 have i6 : (6 : Int) < (s.size : Int) := by omega
 have h7 : 7 < s.size := by omega
 have i7 : (7 : Int) < (s.size : Int) := by omega
 have hw : wz s = wordZ (s[0]'h0).toNat (s[1]'h1).toNat (s[2]'h2).toNat (s[3]'h3).toNat (s[4]'h4).toNat (s[5]'h5).toNat (s[6]'h6).toNat (s[7]'h7).toNat := by
  rw [bt_get, bt_get, bt_get, bt_get, bt_get, bt_get, bt_get, bt_get]; rfl
 have Hw := hide hw
 clear hw
 go_enter Tryz.func154, Tryz.ntmps154
 go_wp2_with fail
 go_quiet (fail)
 go_wp2
 go_ret
 exact ⟨by rw [Hw.out]; rfl, _, rfl⟩
end Go.Proofs.YtmhnndgnnpondaaGreatDoor
namespace Go.Proofs.YtmhnndgnnpondaaGreatDoor
set_option maxRecDepth 100000
set_option maxHeartbeats 4000000
open Go.RowKit
theorem char_ascii (r : Int) (w : World) (h1 : 32 ≤ r) (h2 : r < 127) : Calls Tryz.prog 107 #[.int .i32 r] w fun e w' => e = .returned (.bool true) ∧ w = w' := by
 have e1 : (r == 9) = false := by simp; omega
 have e2 : (r == 10) = false := by simp; omega
 have e3 : (r == 13) = false := by simp; omega
 have n1 : ¬ r < 32 := by omega
 have n2 : ¬ 55296 ≤ r := by omega
 have n3 : ¬ 1114111 < r := by omega
 have e4 : (r == 65534) = false := by simp; omega
 have e5 : (r == 65535) = false := by simp; omega
 have e6 : (r != 65534) = true := by simp; omega
 have e7 : (r != 65535) = true := by simp; omega
 clear h1 h2
 go_enter Tryz.func107, Tryz.ntmps107
 go_wp2
 go_ret
 exact ⟨rfl, rfl⟩
theorem Ascii.tail {t : ByteArray} (h : Ascii t) : Ascii (t.extract 1 t.size) := by
 intro i hi
 have hi2 : i < t.size - 1 := by simpa [ByteArray.size_extract] using hi
 have := h (1 + i) (by omega)
 rw [ByteArray.getElem_extract]
 exact this
def sizeS : Value → Nat
 | .string s => s.size
 | _ => 0
theorem valid_ascii (s : ByteArray) (w : World) (hs : Ascii s) (hl : s.size ≤ 8) : Calls Tryz.prog 108 #[.string s] w fun e w' => e = .returned (.bool true) ∧ w = w' := by
 have Hs := hide hs
 clear hs
 go_enter Tryz.func108, Tryz.ntmps108
 go_wp2_with fail
 go_loop [0] (fun v => ∃ t : ByteArray, v = .string t ∧ Hid (Ascii t) ∧ t.size ≤ 8) (fun v => sizeS v)
 case atStart => exact ⟨s, rfl, Hs, hl⟩
 case round =>
  obtain ⟨t, rfl, ht, htl⟩ := hrel
  by_cases h0 : 0 < t.size
  ·have hI : (0 : Int) < t.size := by omega
   have hb := ht.out 0 h0
   have hb2 : ((t[0]'h0).toNat : Int) < 128 := by omega
   have hts : (t.extract 1 t.size).size = t.size - 1 := by simp [ByteArray.size_extract]
   have h8 : ¬ (8 : Int) < ((t.extract 1 t.size).size : Int) := by omega
   have ht2 := hide (Ascii.tail ht.out)
   clear hb
   go_wp2
   go_round
   case rel => exact ⟨_, rfl, ht2, by omega⟩
   case measure => simp [sizeS]; omega
  ·have hI : ¬ (0 : Int) < t.size := by omega
   go_wp2
   go_ret
   exact ⟨rfl, rfl⟩
theorem texts_ascii (s : ByteArray) (w : World) (hs : Ascii s) (hl : s.size ≤ 8) : Calls Tryz.prog 59 #[.string s] w fun e w' => e = .returned (.bool true) ∧ Below w.heap.size w w' := by
 have Hs := hide hs
 clear hs
 go_enter Tryz.func59, Tryz.ntmps59
 go_wp2_with fail
 go_loopw [4] (fun _ W => ∃ k : Nat, k ≤ s.size ∧ W.heap[w.heap.size]? = some (.stringIter s k) ∧ Below w.heap.size w W) (fun _ W => s.size - W.iterPos w.heap.size)
 case atStart => exact ⟨0, Nat.zero_le _, heap_new _ _ _ rfl, (Below.refl _ _).alloc (Nat.le_refl _) _⟩
 case round =>
  obtain ⟨k, hk, hit, hB⟩ := hrel
  by_cases hlt : k < s.size
  ·have hb := Hs.out k hlt
   have hnx : ∀ ty, (Instr.next (.pointer (some ⟨w.heap.size, 0, none⟩)) true ty).run Tryz.prog wr = _ := fun ty => Lib.run_next_ascii_at wr w.heap.size s k ty hit hlt (by omega)
   have hit2 := Lib.iterAt_heap wr w.heap.size s k (k + 1) hit
   have hB2 := Lib.below_iterAt hB (k := w.heap.size) (Nat.le_refl _) s (k + 1)
   go_wp2_with fail
   refine (char_ascii _ _ (by omega) (by omega)).mono ?_
   rintro e W1 ⟨rfl, rfl⟩
   clear hnx
   go_wp2
   go_roundw
   case rel => exact ⟨k + 1, by omega, hit2, hB2⟩
   case measure =>
    have e1 : wr.iterPos w.heap.size = k := by simp [World.iterPos, hit]
    have e2 : (wr.iterAt w.heap.size s (k + 1)).iterPos w.heap.size = k + 1 := by simp [World.iterPos, hit2]
    rw [e1, e2]; omega
  ·have hnx : ∀ ty, (Instr.next (.pointer (some ⟨w.heap.size, 0, none⟩)) true ty).run Tryz.prog wr = _ := fun ty => Lib.run_next_end_at wr w.heap.size s k ty hit hlt
   clear hk
   go_wp2_with fail
   refine (valid_ascii s _ Hs.out hl).mono ?_
   rintro e W1 ⟨rfl, rfl⟩
   go_wp2
   go_ret
   exact ⟨rfl, hB⟩
end Go.Proofs.YtmhnndgnnpondaaGreatDoor
