/- Words for memory: a block that is known whole; a string's iterator; small facts on worlds. -/
import Derived.Test.YtobdajealbhjmaaGreatDoorRows
import Derived.WalkKit
import Derived.WalkSpells
import Derived.WalkLawsBesides
import Derived.Deep.QuietTactic
import Derived.BigQuiet
import Derived.Deep.Draws
import Derived.Laws.OwnMore
import Derived.Laws.Rows
import Derived.Lib.OthersKept
import Derived.Lib.BufferWrite
namespace Go.Proofs.YtobdajealbhjmaaGreatDoor
open Go.RowKit
theorem ret_int {k : IntKind} {a b : Int} (h : a = b) : Ending.returned (.int k a) = .returned (.int k b) := by rw [h]
theorem ret_bool {a b : Bool} (h : a = b) : Ending.returned (.bool a) = .returned (.bool b) := by rw [h]
theorem ret_str {a b : ByteArray} (h : a = b) : Ending.returned (.string a) = .returned (.string b) := by rw [h]
theorem hide {p : Prop} (h : p) : Hid p := h

/-- block g is the cells cs of element type t, none of them frozen -/
def Blk (w : World) (g : Nat) (t : TypeId) (cs : Array Value) : Prop := w.heap[g]? = some (.cells cs t (0, 0))
section
variable {w w' : World} {g : Nat} {t : TypeId} {cs : Array Value}
theorem lt_of_heap {o : Obj} (h : w.heap[g]? = some o) : g < w.heap.size := by
  rcases Nat.lt_or_ge g w.heap.size with hlt | hge
  · exact hlt
  · rw [Array.getElem?_eq_none hge] at h; cases h
theorem Blk.lt (h : Blk w g t cs) : g < w.heap.size := lt_of_heap h
theorem Blk.cell (h : Blk w g t cs) (i : Nat) : w.cell? ⟨g, i, none⟩ = cs[i]? := cell_of_row w g i cs t (0, 0) h
theorem Blk.frozen (h : Blk w g t cs) (i : Nat) : w.frozen? ⟨g, i, none⟩ = false := by
  unfold Blk at h
  simp [World.frozen?, h]
theorem Blk.new (w : World) (t : TypeId) (cs : Array Value) : Blk (w.alloc (.cells cs t)) w.heap.size t cs := heap_alloc_new w _
theorem Blk.drew (h : Blk w g t cs) : Blk w.drew g t cs := h
theorem Blk.drewN (h : Blk w g t cs) (n : Nat) : Blk (w.drewN n) g t cs := h
theorem Blk.alloc (h : Blk w g t cs) (o : Obj) : Blk (w.alloc o) g t cs := (Below.heap_alloc w o g h.lt).trans h
theorem Blk.set_ (h : Blk w g t cs) (i : Nat) (u : Value) : Blk (w.setCell ⟨g, i, none⟩ u) g t (cs.setIfInBounds i u) := by
  unfold Blk at h ⊢
  simp [World.setCell, Array.getElem?_modify, h]
theorem Blk.far (h : Blk w g t cs) {p : Addr} (hp : g ≠ p.block) (u : Value) : Blk (w.setCell p u) g t cs := (Below.heap_setCell w p u g hp).trans h
theorem Blk.below {B : Nat} (h : Blk w g t cs) (hb : Below B w w') (hg : g < B) : Blk w' g t cs := (hb.block g hg).trans h
theorem Blk.keep (h : Blk w g t cs) (hb : Below w.heap.size w w') : Blk w' g t cs := (hb.block g h.lt).trans h
theorem Blk.iterAt (h : Blk w g t cs) {k : Nat} (hk : g ≠ k) (s : ByteArray) (pos : Nat) : Blk (w.iterAt k s pos) g t cs := (Lib.iterAt_other w k g s pos hk).trans h
theorem heap_new (w : World) (o : Obj) (k : Nat) (h : k = w.heap.size) : (w.alloc o).heap[k]? = some o := by subst h; exact heap_alloc_new w o
theorem heap_alloc_at (w : World) (o : Obj) (k : Nat) : (w.alloc o).heap[k]? = if k = w.heap.size then some o else w.heap[k]? := by
  show (w.heap.push o)[k]? = _
  rw [Array.getElem?_push]
theorem heap_keep {o : Obj} (h : w.heap[g]? = some o) (hb : Below w.heap.size w w') : w'.heap[g]? = some o := (hb.block g (lt_of_heap h)).trans h
theorem heap_alloc {o : Obj} (h : w.heap[g]? = some o) (o' : Obj) : (w.alloc o').heap[g]? = some o := (Below.heap_alloc w o' g (lt_of_heap h)).trans h
theorem heap_set {o : Obj} (h : w.heap[g]? = some o) {p : Addr} (hp : g ≠ p.block) (u : Value) : (w.setCell p u).heap[g]? = some o := (Below.heap_setCell w p u g hp).trans h
end
theorem blk_alloc_at (w : World) (o : Obj) (g : Nat) (t : TypeId) (cs : Array Value) : Blk (w.alloc o) g t cs ↔ (if g = w.heap.size then o = .cells cs t (0, 0) else Blk w g t cs) := by
  unfold Blk
  rw [heap_alloc_at]
  split <;> simp
theorem blk_size_ne (w : World) (t : TypeId) (cs : Array Value) (k : Nat) (h : w.heap.size ≤ k) : ¬ Blk w k t cs := fun hb => by have := hb.lt; omega
theorem cell_keep {w w' : World} {p : Addr} {v : Value} (hb : Below w.heap.size w w') (h : w.cell? p = some v) : w'.cell? p = some v := by
  rw [hb.cell (by
    rcases Nat.lt_or_ge p.block w.heap.size with hlt | hge
    · exact hlt
    · simp [World.cell?, Array.getElem?_eq_none hge] at h)]
  exact h
/-- a world that has only grown: chains -/
theorem chain {B : Nat} {a w w' : World} (h : Below B a w) (hB : B ≤ w.heap.size) (k : Below w.heap.size w w') : Below B a w' := h.trans (k.mono hB)

theorem chain0 {a w w' : World} (h : Below a.heap.size a w) (k : Below w.heap.size w w') : Below a.heap.size a w' := chain h h.size k
theorem chain1 {a w w' : World} {o : Obj} (h : Below a.heap.size a w) (k : Below (w.alloc o).heap.size (w.alloc o) w') : Below a.heap.size a w' := chain0 (h.alloc h.size _) k
theorem chain2 {a w w' : World} {o o' : Obj} (h : Below a.heap.size a w) (k : Below ((w.alloc o).alloc o').heap.size ((w.alloc o).alloc o') w') : Below a.heap.size a w' := chain1 (h.alloc h.size _) k
theorem chain3 {a w w' : World} {o o' o'' : Obj} (h : Below a.heap.size a w) (k : Below (((w.alloc o).alloc o').alloc o'').heap.size (((w.alloc o).alloc o').alloc o'') w') : Below a.heap.size a w' := chain2 (h.alloc h.size _) k
/-- the worlds in which all blocks of w stand as they stood -/
def Later (w : World) := { w' : World // Below w.heap.size w w' }
instance later_some (w : World) : Nonempty (Later w) := ⟨⟨w, Below.refl _ _⟩⟩
/-- a region that draws its order, whose operations read and whose callees make memory at most: one walk, in the order of the text -/
theorem wp_region_later {P : Program} {id : Nat} {Q : Exit → Act → World → Prop} {a : Act} {w : World} {l : List Oper} (hm : P.follows .mixedOrders = true) (hB : Region.lexB .any l.toArray = true)
    (h : wpQuiet P l.toArray (fun w' => ∃ x : Later w, w' = x.1) (fun a' => ∀ w', (∃ x : Later w, w' = x.1) → Q .normal a' w') l a) : (Code.region id l.toArray true).wp P Q a w :=
  wp_region_quiet (C := fun w' => ∃ x : Later w, w' = x.1) hm hB ⟨⟨w.drew, (Below.refl _ _).drew⟩, rfl⟩ (by simpa using h)
theorem later_of {P : Program} {f : FuncId} {args : Array Value} {w : World} {x : Later w} {v : Value}
    (h : Calls P f args x.1 fun e w' => e = .returned v ∧ Below x.1.heap.size x.1 w') : Calls P f args x.1 fun e w'' => e = .returned v ∧ ∃ y : Later w, w'' = y.1 :=
  h.mono fun _ w'' ⟨he, hb⟩ => ⟨he, ⟨w'', chain0 x.2 hb⟩, rfl⟩
theorem later_same {P : Program} {f : FuncId} {args : Array Value} {w : World} {x : Later w} {v : Value}
    (h : Calls P f args x.1 fun e w' => e = .returned v ∧ x.1 = w') : Calls P f args x.1 fun e w'' => e = .returned v ∧ ∃ y : Later w, w'' = y.1 :=
  h.mono fun _ _ ⟨he, hb⟩ => ⟨he, x, hb.symm⟩
theorem later_cell {w : World} {p : Addr} {v : Value} (h : w.cell? p = some v) (x : Later w) : x.1.cell? p = some v := cell_keep x.2 h
theorem byteInfo : (Tryz.prog.info? 5).map (fun i => (i.zero, i.size, i.bytes)) = some (some (.int .u8 0), 1, 1) := by kernel_rfl
/-- block g is just these bytes -/
def Bk (w : World) (g : Nat) (bs : List UInt8) : Prop := Blk w g 5 (Lib.byteCells bs).toArray
section
variable {w w' : World} {g : Nat} {bs : List UInt8}
theorem Bk.blk (h : Bk w g bs) : Blk w g 5 (Lib.byteCells bs).toArray := h
theorem Bk.cell (h : Bk w g bs) (i : Nat) (hi : i < bs.length) : w.cell? ⟨g, i, none⟩ = some (.int .u8 ((bs[i]'hi).toNat : Int)) := by
  rw [h.blk.cell i]
  simp [Lib.byteCells, hi]
theorem Bk.set_ (h : Bk w g bs) (i : Nat) (u : UInt8) : Bk (w.setCell ⟨g, i, none⟩ (.int .u8 (u.toNat : Int))) g (bs.set i u) := by
  have := h.blk.set_ i (.int .u8 (u.toNat : Int))
  unfold Bk
  rw [show (Lib.byteCells (bs.set i u)).toArray = (Lib.byteCells bs).toArray.setIfInBounds i (.int .u8 (u.toNat : Int)) from by simp [Lib.byteCells, List.map_set]]
  exact this
def zeros (n : Nat) : List UInt8 := List.replicate n 0
theorem made_zeros (n : Nat) : madeCells (Value.int .u8 0).cells (n * 1) = (Lib.byteCells (zeros n)).toArray := by
  have : Lib.byteCells (zeros n) = List.replicate n (.int .u8 0) := by simp [Lib.byteCells, zeros, List.map_replicate]
  rw [this]
  apply Array.ext
  · simp [size_madeCells]
  · intro i h1 h2
    simp [madeCells, Value.cells, Nat.mod_one]
/-- make([]byte, n) -/
theorem run_mk (n : Nat) (hn : n ≤ 281474976710656) (W : World) :
    (Instr.makeSlice 24 (.int .i64 (n : Int)) (.int .i64 (n : Int))).run Tryz.prog W = .ok (.slice (some ⟨W.heap.size, 0, none⟩) n n) (W.alloc (.cells (Lib.byteCells (zeros n)).toArray 5)) := by
  obtain ⟨i0, hi, hz0, hz1, hz2⟩ := info_parts byteInfo
  have hr := run_make (P := Tryz.prog) W 24 5 i0 (.int .u8 0) Tryz.underlying24 hi hz0 .i64 .i64 (n : Int) (n : Int) (by omega) (by omega) (by rw [hz2]; omega) (by omega)
  simp only [Int.toNat_natCast, hz1] at hr
  rw [made_zeros] at hr
  exact hr
/-- string(b), b a whole block of bytes -/
theorem Bk.str (h : Bk w g bs) (n cap : Nat) (hn : n = bs.length) : (convert 24 9 (.slice (some ⟨g, 0, none⟩) n cap)).run Tryz.prog w = .ok (.string ⟨bs.toArray⟩) w := by
  subst hn
  exact run_convert_bytes_back w 24 9 5 ⟨g, 0, none⟩ cap bs Tryz.underlying24 Tryz.underlying5 Tryz.underlying9 fun j hj => by
    rw [show (Addr.mk g 0 none).add j = ⟨g, j, none⟩ from by unfold Addr.add; split <;> simp_all]
    exact h.cell j hj
end
section
variable {w w' : World} {g : Nat}
theorem Bk.row (bs bs' : List UInt8) (h : Bk w g bs) : Bk (w.setRow g (Lib.byteCells bs').toArray) g bs' := by
  unfold Bk Blk at h ⊢
  simp [World.setRow, Array.getElem?_modify, h]
theorem grown_setRow (w : World) (g : Nat) (cs : Array Value) : w.grownBy (w.setRow g cs) (some g) :=
  ⟨rfl, rfl, rfl, by simp [World.setRow], fun k _ hne => by
    simp only [World.setRow, Array.getElem?_modify]
    rw [if_neg (fun e => hne (by rw [e]))]⟩
theorem run_copy_str (g n c : Nat) (s : ByteArray) (bs : List UInt8) (ty : TypeId) (h : Bk w g bs) (hn : n = bs.length) (hle : s.size ≤ n) :
    ∃ w', (Builtin.copy_ #[24, 9] ty #[.slice (some ⟨g, 0, none⟩) n c, .string s]).run Tryz.prog w = .ok (.int .i64 s.size) w' ∧
      Bk w' g (s.data.toList ++ bs.drop s.size) ∧ w.grownBy w' (some g) := by
  obtain ⟨i0, hi, hz0, hz1, hz2⟩ := info_parts byteInfo
  have hlen : (Lib.byteCells bs).length = bs.length := by simp [Lib.byteCells]
  refine ⟨_, Lib.run_copy_row_string w _ _ ty 5 g 0 n c s (Lib.byteCells bs).toArray 5 Tryz.underlying24 (by rw [hi]; simp [hz1]) h hle (by simp; omega), ?_, grown_setRow _ _ _⟩
  have e : (((Lib.byteCells bs).toArray.toList.take 0 ++ Lib.byteCells s.data.toList ++ (Lib.byteCells bs).toArray.toList.drop (0 + s.size)).toArray) = (Lib.byteCells (s.data.toList ++ bs.drop s.size)).toArray := by
    simp [Lib.byteCells]
  rw [e]
  exact Bk.row bs _ h
theorem wpList_copy_str {ops : Array Oper} {rest : List Oper} {o : Oper} {a : Act} {Q : Exit → Act → World → Prop} (hgd : o.guard = none) (d s : Operand)
    (ho : o.op = .call { callee := .builtin .copy, args := #[d, s], argTypes := #[24, 9] })
    (n c : Nat) (t : ByteArray) (bs : List UInt8) (hd : a.eval d = .slice (some ⟨g, 0, none⟩) n c) (hs : a.eval s = .string t)
    (h : Bk w g bs) (hn : n = bs.length) (hle : t.size ≤ n)
    (K : ∀ w', Bk w' g (t.data.toList ++ bs.drop t.size) → w.grownBy w' (some g) → wpList Tryz.prog ops Q rest (a.put o.dst (.int .i64 t.size)) w') :
    wpList Tryz.prog ops Q (o :: rest) a w := by
  refine wpList_plain hgd fun K' hK => ?_
  obtain ⟨w', hr, h1, h2⟩ := run_copy_str g n c t bs o.type h hn hle
  have := hK _ _ (K w' h1 h2)
  unfold Oper.wp execOp
  simp only [ho, resolve, invoke, builtin, Sem.run_bind, Sem.run_pure, Result.andThen_ok, List.map_toArray, List.map_cons, List.map_nil, hd, hs, hr]
  exact this
end
/-- a slice's address: its bytes read as bs -/
def RdB (w : World) (a : Option Addr) (bs : List UInt8) : Prop :=
  bs = [] ∨ ∃ b off, a = some ⟨b, off, none⟩ ∧ b < w.heap.size ∧ ∀ i (h : i < bs.length), w.cell? ⟨b, off + i, none⟩ = some (.int .u8 ((bs[i]'h).toNat : Int))
/-- block g is these bytes, none of which is frozen (a place behind them may be) -/
def Rw (w : World) (g : Nat) (full : List UInt8) : Prop :=
  ∃ fz : Nat × Nat, w.heap[g]? = some (.cells (Lib.byteCells full).toArray 5 fz) ∧ ∀ i, i < full.length → (decide (fz.1 ≤ i) && decide (i < fz.2)) = false
section
variable {w w' : World} {g : Nat} {bs full : List UInt8} {a : Option Addr}
theorem RdB.keep (h : RdB w a bs) (hb : Below w.heap.size w w') : RdB w' a bs := by
  rcases h with h | ⟨b, off, ha, hlt, hc⟩
  · exact .inl h
  · exact .inr ⟨b, off, ha, Nat.lt_of_lt_of_le hlt hb.size, fun i hi => (hb.cell (p := ⟨b, off + i, none⟩) hlt).trans (hc i hi)⟩
theorem RdB.alloc (h : RdB w a bs) (o : Obj) : RdB (w.alloc o) a bs := h.keep ((Below.refl _ _).alloc (Nat.le_refl _) _)
theorem RdB.drew (h : RdB w a bs) : RdB w.drew a bs := h
theorem Rw.of_bk (h : Bk w g bs) : Rw w g bs := ⟨(0, 0), h, fun i _ => by simp⟩
theorem Rw.lt (h : Rw w g full) : g < w.heap.size := by obtain ⟨fz, h, _⟩ := h; exact lt_of_heap h
theorem Rw.cell (h : Rw w g full) (i : Nat) (hi : i < full.length) : w.cell? ⟨g, i, none⟩ = some (.int .u8 ((full[i]'hi).toNat : Int)) := by
  obtain ⟨fz, h, _⟩ := h
  simp [World.cell?, h, Lib.byteCells, hi]
theorem Rw.frozen (h : Rw w g full) (i : Nat) (hi : i < full.length) : w.frozen? ⟨g, i, none⟩ = false := by
  obtain ⟨fz, h, hf⟩ := h
  have := hf i hi
  simpa [World.frozen?, h] using this
theorem Rw.keep (h : Rw w g full) (hb : Below w.heap.size w w') : Rw w' g full := by
  obtain ⟨fz, h, hf⟩ := h
  exact ⟨fz, heap_keep h hb, hf⟩
theorem Rw.below {B : Nat} (h : Rw w g full) (hb : Below B w w') (hg : g < B) : Rw w' g full := by
  obtain ⟨fz, h, hf⟩ := h
  exact ⟨fz, (hb.block g hg).trans h, hf⟩
theorem Rw.far (h : Rw w g full) {p : Addr} (hp : g ≠ p.block) (u : Value) : Rw (w.setCell p u) g full := by
  obtain ⟨fz, h, hf⟩ := h
  exact ⟨fz, heap_set h hp u, hf⟩
theorem Rw.set_ (h : Rw w g full) (i : Nat) (u : UInt8) : Rw (w.setCell ⟨g, i, none⟩ (.int .u8 (u.toNat : Int))) g (full.set i u) := by
  obtain ⟨fz, h, hf⟩ := h
  refine ⟨fz, ?_, fun j hj => hf j (by simpa using hj)⟩
  rw [show (Lib.byteCells (full.set i u)).toArray = (Lib.byteCells full).toArray.setIfInBounds i (.int .u8 (u.toNat : Int)) from by simp [Lib.byteCells, List.map_set]]
  simp [World.setCell, Array.getElem?_modify, h]
theorem Rw.rd (h : Rw w g full) (n : Nat) : RdB w (some ⟨g, 0, none⟩) (full.take n) :=
  .inr ⟨g, 0, rfl, h.lt, fun i hi => by
    rw [Nat.zero_add, h.cell i (by simp at hi; omega)]
    simp⟩
/-- string(b) -/
theorem RdB.str (h : RdB w a bs) (n cap : Nat) (hn : n = bs.length) : (convert 24 9 (.slice a n cap)).run Tryz.prog w = .ok (.string ⟨bs.toArray⟩) w := by
  subst hn
  rcases h with rfl | ⟨b, off, rfl, hlt, hc⟩
  · cases a with
    | none =>
      simp [convert, run_underlying Tryz.underlying24, run_underlying Tryz.underlying9, run_underlying Tryz.underlying5, Conv.bytesToString]
      rfl
    | some x => exact run_convert_bytes_back w 24 9 5 x cap [] Tryz.underlying24 Tryz.underlying5 Tryz.underlying9 fun j hj => absurd hj (by simp)
  · exact run_convert_bytes_back w 24 9 5 ⟨b, off, none⟩ cap bs Tryz.underlying24 Tryz.underlying5 Tryz.underlying9 fun j hj => by
      rw [show (Addr.mk b off none).add j = ⟨b, off + j, none⟩ from by unfold Addr.add; split <;> simp_all]
      exact hc j hj
/-- []byte(s) -/
theorem run_to_bytes (w : World) (s : ByteArray) : ∃ full w', (convert 9 24 (.string s)).run Tryz.prog w = .ok (.slice (some ⟨w.heap.size, 0, none⟩) s.size full.length) w' ∧
    Rw w' w.heap.size full ∧ full.take s.size = s.data.toList ∧ s.size ≤ full.length ∧ w'.heap.size = w.heap.size + 1 ∧ Below w.heap.size w w' := by
  have hcap : s.size ≤ grownCap w s.size 0 5 := by unfold grownCap Question.cut; exact Nat.le_add_right _ _
  have hlen : s.data.toList.length = s.size := by rw [Array.length_toList]; rfl
  have hrow : bytesRow s (grownCap w s.size 0 5) = (Lib.byteCells (s.data.toList ++ List.replicate (grownCap w s.size 0 5 - s.size) 0)).toArray := by
    unfold bytesRow
    apply Array.ext'
    simp [Lib.byteCells]
  have hfl : (s.data.toList ++ List.replicate (grownCap w s.size 0 5 - s.size) (0 : UInt8)).length = grownCap w s.size 0 5 := by simp [hlen]; omega
  refine ⟨s.data.toList ++ List.replicate (grownCap w s.size 0 5 - s.size) 0, w.drew.alloc (.cells (bytesRow s (grownCap w s.size 0 5)) 5 ((bytesRow s (grownCap w s.size 0 5)).size, (bytesRow s (grownCap w s.size 0 5)).size + 1)), ?_, ?_, ?_, ?_, ?_, ?_⟩
  · rw [hfl]
    exact run_bytes_of_string w 9 24 5 s Tryz.underlying9 Tryz.underlying24 Tryz.underlying5
  · refine ⟨((bytesRow s (grownCap w s.size 0 5)).size, (bytesRow s (grownCap w s.size 0 5)).size + 1), ?_, ?_⟩
    · rw [← hrow]; exact heap_new _ _ _ (by simp)
    · intro i hi
      rw [hfl] at hi
      have : (bytesRow s (grownCap w s.size 0 5)).size = grownCap w s.size 0 5 := by rw [hrow]; simp [Lib.byteCells]; omega
      rw [this]; simp; omega
  · rw [← hlen, List.take_left]
  · rw [hfl]; exact hcap
  · simp
  · exact ((Below.refl _ _).drew).alloc (by simp) _
end
end Go.Proofs.YtobdajealbhjmaaGreatDoor
