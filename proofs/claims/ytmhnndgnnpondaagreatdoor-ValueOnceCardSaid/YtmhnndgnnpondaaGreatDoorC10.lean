/- parchmentkit.flatItems: words for its walk. Two items held against each other. -/
import Derived.Test.YtmhnndgnnpondaaGreatDoorC09
import Derived.Test.YtmhnndgnnpondaaGreatDoorHk
import Derived.Laws.StructEq
import Derived.Shelf.SlicesQ.Contains
namespace Go.Proofs.YtmhnndgnnpondaaGreatDoor
open Go.RowKit
def imk (k : Int) (n : Nat) : List It := (List.range n).map fun (i : Nat) => mkI k (i : Int)
theorem imk_snoc (k : Int) (n : Nat) : imk k (n + 1) = imk k n ++ [mkI k (n : Int)] := by simp [imk, List.range_succ]
theorem length_imk (k : Int) (n : Nat) : (imk k n).length = n := by simp [imk]
theorem imk_get (k : Int) (n i : Nat) (h : i < n) : (imk k n)[i]? = some (mkI k (i : Int)) := by
 unfold imk
 rw [List.getElem?_map, List.getElem?_range h]
 rfl
theorem imk_take (k : Int) (a b : Nat) (h : b ≤ a) : (imk k a).take b = imk k b := by
 unfold imk
 rw [← List.map_take, List.take_range, Nat.min_eq_left h]
theorem RdI.takeI {w : World} {a : Option Addr} {l : List It} (h : RdI w a l) (k : Nat) : RdI w a (l.take k) := by
 unfold RdI at h ⊢
 rw [icells_take]
 exact Rd.take h _
structure RJ (g : Nat) (c1 : Obj) (w w' : World) : Prop where
 os : w'.os = w.os
 tape : w'.tape = w.tape
 output : w'.output = w.output
 size : w.heap.size ≤ w'.heap.size
 block : ∀ k, k < w.heap.size → k ≠ g → w'.heap[k]? = w.heap[k]?
 row : w'.heap[g]? = w.heap[g]? ∨ w'.heap[g]? = some c1
section
variable {g : Nat} {c1 : Obj} {w w1 w' : World}
theorem RJ.refl (w : World) : RJ g c1 w w := ⟨rfl, rfl, rfl, Nat.le_refl _, fun _ _ _ => rfl, .inl rfl⟩
theorem RJ.trans (h : RJ g c1 w w1) (k : RJ g c1 w1 w') : RJ g c1 w w' :=
 ⟨k.os.trans h.os, k.tape.trans h.tape, k.output.trans h.output, Nat.le_trans h.size k.size, fun j hj hne => (k.block j (Nat.lt_of_lt_of_le hj h.size) hne).trans (h.block j hj hne), by
  rcases k.row with e | e
  ·rcases h.row with e2 | e2
   ·exact .inl (e.trans e2)
   ·exact .inr (e.trans e2)
  ·exact .inr e⟩
theorem RJ.below (hg : g < w.heap.size) (hb : Below w.heap.size w w') : RJ g c1 w w' := ⟨hb.os, hb.tape, hb.output, hb.size, fun k hk _ => hb.block k hk, .inl (hb.block g hg)⟩
theorem RJ.lt (h : RJ g c1 w w') (hg : g < w.heap.size) : g < w'.heap.size := Nat.lt_of_lt_of_le hg h.size
theorem RJ.grown (h : RJ g c1 w w') : w.grownBy w' (some g) := ⟨h.os, h.tape, h.output, h.size, fun k hk hne => h.block k hk fun e => hne (by rw [e])⟩
theorem RJ.cell (h : RJ g c1 w w') {b o : Nat} {v : Value} (hc : w.cell? ⟨b, o, none⟩ = some v) (hne : b ≠ g) : w'.cell? ⟨b, o, none⟩ = some v := h.grown.cell hc (by intro e; injection e with e; exact hne e)
theorem RJ.store {cs : Array Value} {t : TypeId} {old : Array Value} (ho : w.heap[g]? = some (.cells old t (0, 0))) : RJ g (.cells cs t (0, 0)) w (w.setRow g cs) :=
 ⟨rfl, rfl, rfl, by simp, fun k _ hne => setRow_other w g k cs hne, .inr (setRow_heap w g old cs t (0, 0) ho)⟩
end
def eqJ (g : Nat) (c1 : Obj) (s : Nat) (v : Value) : FactU (RJ g c1) := ⟨[s], fun u _ => u s = v, fun _ _ _ _ hs _ hf => by rw [hs s (by simp)]; exact hf⟩
def doneJ (g : Nat) (c1 : Obj) : FactU (RJ g c1) := ⟨[], fun _ w => w.heap[g]? = some c1, fun _ _ w w' _ hR hf => by
 rcases hR.row with e | e
 ·rw [e]; exact hf
 ·exact e⟩
section
variable {K : Value → World → Prop} {u : Nat → Value} {o : Oper} {w : World}
theorem run_storeI {ρ : Operand → Value} (x y : Operand) (g i : Nat) (z : It) (cs : Array Value) (h : o.op = .store 31 x y) (hx : ρ x = .pointer (some ⟨g, i, none⟩)) (hy : ρ y = itV z)
  (hr : (storeCells ⟨g, i, none⟩ (itC z) 0).run Tryz.prog w = .ok () (w.setRow g cs)) : (execOp ρ o).run Tryz.prog w = .ok .skip (w.setRow g cs) := by
 unfold execOp
 simp [go_sem, h, hx, hy, itV, itC_len, hr]
theorem upon_storeI (x y : Operand) (g i : Nat) (z : It) (cs : Array Value) (h : o.op = .store 31 x y) (hx : evU u x = .pointer (some ⟨g, i, none⟩)) (hy : evU u y = itV z)
  (hr : (storeCells ⟨g, i, none⟩ (itC z) 0).run Tryz.prog w = .ok () (w.setRow g cs)) (hk : K undef (w.setRow g cs)) : uponU K Tryz.prog ((execOp (evU u) o).run Tryz.prog w) := by
 have hs := run_storeI x y g i z cs h hx hy hr
 rw [hs]; exact hk
end
/-! ### all pieces -/
def All (W : World) (ps : List PcI) (f : Nat → Nat → List It) : Prop := ∀ j p, ps[j]? = some p → ContI W p (f j p.2.1)
def Dist (ps : List PcI) : Prop := ∀ (j k : Nat) (p q : PcI) (g : Nat), ps[j]? = some p → ps[k]? = some q → j ≠ k → p.1 = some g → q.1 ≠ some g
def Ls (W : World) (gl cl : Nat) (ps : List PcI) : Prop := W.ownsRow 0 22 1 (.slice (some ⟨gl, 0, none⟩) ps.length cl) ps.length (ps.map piV)
section
variable {W W' : World} {ps : List PcI} {f f' : Nat → Nat → List It} {gl cl : Nat}
theorem All.keep (h : All W ps f) (hb : Below W.heap.size W W') : All W' ps f := fun j p hp => (h j p hp).keep hb
theorem All.congr (h : All W ps f) (e : ∀ j p, ps[j]? = some p → f j p.2.1 = f' j p.2.1) : All W ps f' := fun j p hp => by rw [← e j p hp]; exact h j p hp
theorem All.step {r : Option Nat} (h : All W ps f) (hd : Dist ps) (hg : W.grownBy W' r) (k : Nat) (p : PcI) (hk : ps[k]? = some p) (hr : ∀ g, r = some g → p.1 = some g ∨ ∀ q ∈ ps, q.1 ≠ some g) (ys : List It) (hc : ContI W' p ys) : All W' ps (fun j n => if j = k then ys else f j n) := by
 intro j q hq
 by_cases e : j = k
 ·subst e
  rw [hk] at hq
  injection hq with hq
  subst hq
  show ContI W' p (if j = j then ys else f j p.2.1)
  rw [if_pos rfl]; exact hc
 ·show ContI W' q (if j = k then ys else f j q.2.1)
  rw [if_neg e]
  refine (h j q hq).other hg fun g hg' er => ?_
  rcases hr g er with h1 | h1
  ·exact hd k j p q g hk hq (fun e' => e e'.symm) h1 hg'
  ·exact h1 q (List.mem_of_getElem? hq) hg'
theorem Ls.ne (h : Ls W gl cl ps) {g n cap : Nat} {xs : List Value} (hr : W.ownsRow 0 31 4 (.slice (some ⟨g, 0, none⟩) n cap) n xs) : g ≠ gl := by
 rintro rfl
 obtain ⟨cur, _, h1, _⟩ := own_parts hr
 obtain ⟨cur2, _, h2, _⟩ := own_parts h
 rw [h1] at h2
 simp at h2
theorem Ls.grown {r : Option Nat} (h : Ls W gl cl ps) (hg : W.grownBy W' r) (hne : r ≠ some gl) : Ls W' gl cl ps := by
 refine ⟨h.1, ?_⟩
 rcases h.2 with h1 | ⟨g, cap, cur, hv, hB, hh, rest⟩
 ·exact .inl h1
 ·refine .inr ⟨g, cap, cur, hv, hB, (hg.block g (lt_of_heap hh) fun e => hne ?_).trans hh, rest⟩
  injection hv with e1
  injection e1 with e1
  injection e1 with e1
  rw [e1, e]
theorem Ls.keep (h : Ls W gl cl ps) (hb : Below W.heap.size W W') : Ls W' gl cl ps := ow_keep h hb
theorem Ls.cell (h : Ls W gl cl ps) (k : Nat) (p : PcI) (hk : ps[k]? = some p) : W.cell? ⟨gl, k, none⟩ = some (piV p) := ow_cell h k _ (by simp [hk])
theorem Ls.lt (h : Ls W gl cl ps) : gl < W.heap.size := by
 have := ow_lt h gl rfl
 exact this.2
end
theorem mk_list (n : Nat) (hn : n ≤ 1048576) (W : World) : (Instr.makeSlice 33 (.int .i64 (n : Int)) (.int .i64 (n : Int))).run Tryz.prog W = .ok (.slice (some ⟨W.heap.size, 0, none⟩) n n) (W.alloc (.cells (List.replicate n (Value.slice none 0 0)).toArray 22)) := by
 obtain ⟨i0, hi, hz0, hz1, hz2⟩ := info_parts rowInfo
 have hr := run_make (P := Tryz.prog) W 33 22 i0 (.slice none 0 0) Tryz.underlying33 hi hz0 .i64 .i64 (n : Int) (n : Int) (by omega) (by omega) (by rw [hz2]; omega) (by omega)
 simp only [Int.toNat_natCast, hz1, Nat.mul_one] at hr
 have e : madeCells (Value.slice none 0 0).cells n = (List.replicate n (Value.slice none 0 0)).toArray := by
  apply Array.ext
  ·simp [madeCells]
  ·intro i h1 h2
   simp [madeCells, Value.cells, Nat.mod_one]
 rw [e] at hr
 exact hr
theorem GrI.other {B : Nat} {W W' : World} {p : PcI} {v : Value} {xs : List It} {r : Option Nat} (h : GrI B W p v xs) (hg : W.grownBy W' r) (hr : ∀ g, r = some g → p.1 ≠ some g ∧ rowB v ≠ some g) : GrI B W' p v xs := by
 rcases h with ⟨h1, h2, h3, h4⟩ | ⟨⟨h0, hx⟩ | h0, h2, h3⟩
 ·exact .inl ⟨h1, h2, h3, h4.other hg fun g hg' e => (hr g e).1 hg'⟩
 ·refine .inr ⟨.inl ⟨World.ownsRow.kept h0 hg ?_, hx⟩, h2, h3.other hg fun g hg' e => (hr g e).1 hg'⟩
  cases hv : v.ownBlock with
  | none => exact .inl rfl
  | some b => exact .inr fun e => (hr b e.symm).2 (by rw [own_rowB h0 hx, hv])
 ·exact .inr ⟨.inr h0, h2, h3.other hg fun g hg' e => (hr g e).1 hg'⟩
theorem wpList_appGI {B : Nat} {W : World} {p : PcI} {v : Value} {xs ys : List It} {ops : Array Oper} {rest : List Oper} {o : Oper} {ac : Act} {Q : Exit → Act → World → Prop} (hgd : o.guard = none) (s x : Operand)
  (ho : o.op = .call { callee := .builtin .append, args := #[s, x], argTypes := #[22, 22] })
  (src : Option Addr) (m c : Nat) (hs : ac.eval s = v) (hx : ac.eval x = .slice src m c)
  (h : GrI B W p v xs) (hr : RdI W src ys) (hm : m = ys.length) (hle : xs.length + ys.length ≤ 1000000) (hB : B ≤ W.heap.size) (hpB : ∀ g, p.1 = some g → g < B)
  (K : ∀ v' w', GrI B w' p v' (xs ++ ys) → W.grownBy w' (rowB v) → wpList Tryz.prog ops Q rest (ac.put o.dst v') w') :
  wpList Tryz.prog ops Q (o :: rest) ac W := by
 refine wpList_plain hgd fun K' hK => ?_
 obtain ⟨v', w', hrun, h2, h3⟩ := run_appGI src m c o.type h hr hm hle hB hpB
 have := hK _ _ (K v' w' h2 h3)
 unfold Oper.wp execOp
 simp only [ho, resolve, invoke, builtin, Sem.run_bind, Sem.run_pure, Result.andThen_ok, List.map_toArray, List.map_cons, List.map_nil, hs, hx, hrun]
 exact this
theorem GrI.mono {B B' : Nat} {W : World} {p : PcI} {v : Value} {xs : List It} (h : GrI B W p v xs) (hB : B' ≤ B) : GrI B' W p v xs :=
 h.imp id fun ⟨h1, h2, h3⟩ => ⟨h1.imp (fun h => ⟨ow_mono h.1 hB, h.2⟩) id, h2, h3⟩
theorem Blk.other {W W' : World} {g : Nat} {t : TypeId} {cs : Array Value} {r : Option Nat} (h : Blk W g t cs) (hg : W.grownBy W' r) (hne : r ≠ some g) : Blk W' g t cs :=
 (hg.block g h.lt fun e => hne e.symm).trans h
structure KeptI (ps : List PcI) (w W : World) : Prop where
 os : W.os = w.os
 tape : W.tape = w.tape
 output : W.output = w.output
 size : w.heap.size ≤ W.heap.size
 block : ∀ g, g < w.heap.size → (∀ p ∈ ps, p.1 ≠ some g) → W.heap[g]? = w.heap[g]?
theorem KeptI.refl (ps : List PcI) (w : World) : KeptI ps w w := ⟨rfl, rfl, rfl, Nat.le_refl _, fun _ _ _ => rfl⟩
theorem KeptI.drew {ps : List PcI} {w W : World} (h : KeptI ps w W) : KeptI ps w W.drew := ⟨h.os, h.tape, h.output, h.size, h.block⟩
theorem KeptI.grown {ps : List PcI} {w W W' : World} {r : Option Nat} (h : KeptI ps w W) (hg : W.grownBy W' r) (hr : ∀ b, r = some b → (∃ p ∈ ps, p.1 = some b) ∨ w.heap.size ≤ b) : KeptI ps w W' :=
 ⟨hg.os.trans h.os, hg.tape.trans h.tape, hg.output.trans h.output, Nat.le_trans h.size hg.size, fun g hg1 hp => (hg.block g (Nat.lt_of_lt_of_le hg1 h.size) fun e => by
  rcases hr g e.symm with ⟨p, h1, h2⟩ | h1
  ·exact hp p h1 h2
  ·omega).trans (h.block g hg1 hp)⟩
theorem KeptI.keep {ps : List PcI} {w W W' : World} (h : KeptI ps w W) (hb : Below W.heap.size W W') : KeptI ps w W' :=
 h.grown (r := none) ⟨hb.os, hb.tape, hb.output, hb.size, fun k hk _ => hb.block k hk⟩ fun b e => by cases e
theorem KeptI.below {ps : List PcI} {w W : World} {B : Nat} (h : KeptI ps w W) (hB : B ≤ w.heap.size) (hp : ∀ p ∈ ps, ∀ g, p.1 = some g → B ≤ g) : Below B w W :=
 ⟨h.os, h.tape, h.output, h.size, fun k hk => h.block k (by omega) fun p h1 h2 => by have := hp p h1 k h2; omega⟩
structure F2 (ct : Nat → Nat → List It) (Bz gl cl gb : Nat) (w W : World) (ps : List PcI) (vs : List Value) (k base : Nat) : Prop where
 ls : Ls W gl cl ps
 al : All W ps (fun j n => imk j n)
 gs : Blk W gb 22 vs.toArray
 ln : vs.length = ps.length
 st : ∀ (j : Nat) (p : PcI), j < k → ps[j]? = some p → ∃ v, vs[j]? = some v ∧ GrI (gb + 1) W p v (ct j p.2.1) ∧ ∀ b, rowB v = some b → b < base
 bs : base ≤ W.heap.size
 gb1 : gb + 1 ≤ base
 be : KeptI ps w W
structure Lie (Bz gl gb : Nat) (ps : List PcI) : Prop where
 d : Dist ps
 g : ∀ q ∈ ps, ∀ g, q.1 = some g → g < gb
 l : gl < gb
 n : ∀ q ∈ ps, q.1 ≠ some gl
 b : Bz ≤ gb
section
variable {ct : Nat → Nat → List It} {Bz gl cl gb k base : Nat} {w W W' : World} {ps : List PcI} {vs : List Value} {p : PcI} {v v' : Value} {xs ys : List It}
theorem F2.keep (F : F2 ct Bz gl cl gb w W ps vs k base) (hb : Below W.heap.size W W') (_hz : Bz ≤ W.heap.size) : F2 ct Bz gl cl gb w W' ps vs k base :=
 ⟨F.ls.keep hb, F.al.keep hb, F.gs.keep hb, F.ln, fun j p hj hp => by
  obtain ⟨v, h1, h2, h3⟩ := F.st j p hj hp
  exact ⟨v, h1, h2.keep hb, h3⟩, Nat.le_trans F.bs hb.size, F.gb1, F.be.keep hb⟩
theorem F2.app (F : F2 ct Bz gl cl gb w W ps vs k base) (L : Lie w.heap.size gl gb ps) (hp : ps[k]? = some p) (hG : GrI base W p v xs) (hG' : GrI base W' p v' (xs ++ ys)) (hx : (xs ++ ys).take p.2.1 = imk k p.2.1) (hg : W.grownBy W' (rowB v)) : F2 ct Bz gl cl gb w W' ps vs k base := by
 have hpm := List.mem_of_getElem? hp
 have hgb := F.gb1
 have hlg := L.l
 have hblk : ∀ b, rowB v = some b → p.1 = some b ∨ base ≤ b := fun b hb => (hG.blk b hb).imp id fun h => h.1
 refine ⟨F.ls.grown hg fun e => ?_, ?_, F.gs.other hg fun e => ?_, F.ln, fun j q hj hq => ?_, Nat.le_trans F.bs hg.size, F.gb1, F.be.grown hg fun b hb => ?_⟩
 ·rcases hblk _ e with h | h
  ·exact L.n p hpm h
  ·omega
 ·refine (F.al.step L.d hg k p hp (fun b hb => ?_) _ (by have := hG'.cont; rw [hx] at this; exact this)).congr fun j q hq => ?_
  ·rcases hblk b hb with h | h
   ·exact .inl h
   ·exact .inr fun q hq e => by have := L.g q hq b e; omega
  ·by_cases e : j = k
   ·subst e; rw [hp] at hq; injection hq with hq; subst hq; simp
   ·simp [e]
 ·rcases hblk _ e with h | h
  ·have := L.g p hpm _ h; omega
  ·omega
 ·obtain ⟨v2, h1, h2, h3⟩ := F.st j q hj hq
  refine ⟨v2, h1, h2.other hg fun b hb => ?_, h3⟩
  have hqm := List.mem_of_getElem? hq
  rcases hblk b hb with h | h
  ·have hbg := L.g p hpm b h
   refine ⟨L.d k j p q b hp hq (by omega) h, fun e => ?_⟩
   rcases h2.blk b e with h4 | h4
   ·exact L.d k j p q b hp hq (by omega) h h4
   ·omega
  ·refine ⟨fun e => ?_, fun e => ?_⟩
   ·have := L.g q hqm b e; omega
   ·have := h3 b e; omega
 ·rcases hblk b hb with h | h
  ·exact .inl ⟨p, hpm, h⟩
  ·right; have := L.b; omega
theorem F2.put (F : F2 ct Bz gl cl gb w W ps vs k base) (L : Lie w.heap.size gl gb ps) (hp : ps[k]? = some p) (hG : GrI base W p v (ct k p.2.1)) : F2 ct Bz gl cl gb w (W.setCell ⟨gb, k, none⟩ v) ps (vs.set k v) (k + 1) W.heap.size := by
 have hpm := List.mem_of_getElem? hp
 have hgb := F.gb1
 have hg : W.grownBy (W.setCell ⟨gb, k, none⟩ v) (some gb) := grown_setCell W ⟨gb, k, none⟩ v
 have hlt : ∀ q ∈ ps, q.1 ≠ some gb := fun q hq e => by have := L.g q hq gb e; omega
 have hgr : ∀ (q : PcI) (v2 : Value) (zs : List It), q ∈ ps → GrI (gb + 1) W q v2 zs → GrI (gb + 1) (W.setCell ⟨gb, k, none⟩ v) q v2 zs := fun q v2 zs hq h => h.other hg fun b e => by
  injection e with e
  subst e
  refine ⟨hlt q hq, fun e => ?_⟩
  rcases h.blk gb e with h4 | h4
  ·exact hlt q hq h4
  ·omega
 refine ⟨F.ls.grown hg fun e => ?_, fun j q hq => (F.al j q hq).other hg fun g h1 h2 => ?_, ?_, by rw [List.length_set]; exact F.ln, fun j q hj hq => ?_, by simp [World.setCell], Nat.le_trans F.gb1 F.bs, ?_⟩
 ·injection e with e; have := L.l; omega
 ·injection h2 with h2; subst h2; exact hlt q (List.mem_of_getElem? hq) h1
 ·have := F.gs.set_ k v
  rwa [show vs.toArray.setIfInBounds k v = (vs.set k v).toArray from by simp] at this
 ·by_cases e : j = k
  ·subst e
   rw [hp] at hq
   injection hq with hq
   subst hq
   have hl : j < vs.length := by rw [F.ln]; exact (List.getElem?_eq_some_iff.1 hp).1
   refine ⟨v, by simp [hl], hgr _ _ _ hpm (hG.mono hgb), fun b hb => ?_⟩
   rcases hG.blk b hb with h | h
   ·have := L.g p hpm b h; have := F.bs; omega
   ·exact h.2
  ·obtain ⟨v2, h1, h2, h3⟩ := F.st j q (by omega) hq
   exact ⟨v2, by rw [List.getElem?_set_ne (fun e' => e e'.symm)]; exact h1, hgr _ _ _ (List.mem_of_getElem? hq) h2, fun b hb => by have := h3 b hb; have := F.bs; omega⟩
 ·exact F.be.grown hg fun b e => .inr (by injection e with e; subst e; exact L.b)
end
theorem mark_at {W : World} {a : Option Addr} {k : Int} {n : Nat} (h : RdI W a (imk k n)) (i : Nat) (hi : i < n) : ∃ b off, a = some ⟨b, off, none⟩ ∧ W.cell? ⟨b, off + i * 4, none⟩ = some (.int .u8 (0 : Nat)) ∧ W.cell? ⟨b, off + i * 4 + 1, none⟩ = some (.int .i64 0) ∧ W.cell? ⟨b, off + i * 4 + 2, none⟩ = some (.string ⟨#[]⟩) ∧ W.cell? ⟨b, off + i * 4 + 3, none⟩ = some (.int .i64 (markZ k (i : Int))) := by
 obtain ⟨b, off, h1, h2, h3, h4, h5⟩ := h.at i (mkI k (i : Int)) (imk_get k n i hi)
 exact ⟨b, off, h1, h2, h3, h4, h5⟩
theorem F2.grownAt {ct : Nat → Nat → List It} {Bz gl cl gb k base : Nat} {w W : World} {ps : List PcI} {vs : List Value} (F : F2 ct Bz gl cl gb w W ps vs k base) (j : Nat) (p : PcI) (hj : j < k) (hp : ps[j]? = some p) :
  ∃ a c, W.cell? ⟨gb, j, none⟩ = some (.slice a (ct j p.2.1).length c) ∧ RdI W a (ct j p.2.1) := by
 obtain ⟨v, h1, h2, _⟩ := F.st j p hj hp
 obtain ⟨a, c, h3, h4⟩ := h2.form
 refine ⟨a, c, ?_, h4⟩
 rw [F.gs.cell j]
 simp [h1, h3]
def ct2 : Nat → Nat → List It := fun j n => imk j (n + 64)
def ct4 (N : Nat) : Nat → Nat → List It := fun j n => imk j n ++ imk ((j : Int) + N) 64
theorem F2.far {ct : Nat → Nat → List It} {Bz gl cl gb k base g : Nat} {w W W' : World} {ps : List PcI} {vs : List Value} (F : F2 ct Bz gl cl gb w W ps vs k base) (L : Lie w.heap.size gl gb ps) (hg : W.grownBy W' (some g)) (hgb : base ≤ g) : F2 ct Bz gl cl gb w W' ps vs k base := by
 have hg1 := F.gb1
 have hlg := L.l
 refine ⟨F.ls.grown hg fun e => by injection e with e; omega, fun j q hq => (F.al j q hq).other hg fun b h1 h2 => ?_, F.gs.other hg fun e => by injection e with e; omega, F.ln, fun j q hj hq => ?_, Nat.le_trans F.bs hg.size, F.gb1, F.be.grown hg fun b hb => ?_⟩
 ·injection h2 with h2; subst h2; have := L.g q (List.mem_of_getElem? hq) _ h1; omega
 ·obtain ⟨v2, h1, h2, h3⟩ := F.st j q hj hq
  refine ⟨v2, h1, h2.other hg fun b hb => ?_, h3⟩
  injection hb with hb
  subst hb
  exact ⟨fun e => by have := L.g q (List.mem_of_getElem? hq) _ e; omega, fun e => by have := h3 _ e; omega⟩
 ·injection hb with hb; subst hb; right; have := L.b; omega
theorem wpList_storeI {w : World} {ops : Array Oper} {rest : List Oper} {o : Oper} {ac : Act} {Q : Exit → Act → World → Prop} (hgd : o.guard = none) (x y : Operand) (ho : o.op = .store 31 x y)
  (g i : Nat) (z : It) (cs : Array Value) (hx : ac.eval x = .pointer (some ⟨g, i, none⟩)) (hy : ac.eval y = itV z) (hr : (storeCells ⟨g, i, none⟩ (itC z) 0).run Tryz.prog w = .ok () (w.setRow g cs))
  (K : wpList Tryz.prog ops Q rest (ac.put o.dst undef) (w.setRow g cs)) : wpList Tryz.prog ops Q (o :: rest) ac w := by
 refine wpList_plain hgd fun K' hK => ?_
 have := hK _ _ K
 have hs := run_storeI x y g i z cs ho hx hy hr
 unfold Oper.wp
 rw [hs]
 exact this
theorem mk_items (n : Nat) (hn : n ≤ 1048576) (W : World) : ∃ cs : Array Value, cs.size = n * 4 ∧ (Instr.makeSlice 22 (.int .i64 (n : Int)) (.int .i64 (n : Int))).run Tryz.prog W = .ok (.slice (some ⟨W.heap.size, 0, none⟩) n n) (W.alloc (.cells cs 31)) := by
 obtain ⟨i0, hi, hz0, hz1, hz2⟩ := info_parts itemInfo
 have hr := run_make (P := Tryz.prog) W 22 31 i0 _ Tryz.underlying22 hi hz0 .i64 .i64 (n : Int) (n : Int) (by omega) (by omega) (by rw [hz2]; omega) (by omega)
 simp only [Int.toNat_natCast, hz1] at hr
 exact ⟨_, by simp [madeCells], hr⟩
theorem ContI.made {W : World} {cs : Array Value} {n : Nat} (hn : cs.size = n * 4) (hm : n ≤ maxLen) : ContI (W.alloc (.cells cs 31)) (some W.heap.size, n, n, some ⟨W.heap.size, 0, none⟩) [] :=
 .inr ⟨W.heap.size, rfl, rfl, Nat.le_refl _, rfl, .inr ⟨W.heap.size, n, cs, rfl, Nat.zero_le _, heap_alloc_new W _, Nat.zero_le _, hm, hn, by simp [icells]⟩⟩
end Go.Proofs.YtmhnndgnnpondaaGreatDoor
namespace Go.Proofs.YtmhnndgnnpondaaGreatDoor
open Go.RowKit Go.Shelf Go.Lib
def eqI (x y : It) : Bool := decide (x.kind = y.kind) && (decide (x.num = y.num) && (decide (x.text = y.text) && decide (x.node = y.node)))
theorem eqI_iff (x y : It) : eqI x y = true ↔ x = y := by
 obtain ⟨a, b, c, d⟩ := x
 obtain ⟨a2, b2, c2, d2⟩ := y
 simp [eqI]
theorem toList_inj (s t : ByteArray) : s.toList = t.toList ↔ s = t := by
 constructor
 ·intro h
  rw [ByteArray.toList_eq, ByteArray.toList_eq] at h
  exact ByteArray.ext (Array.toList_inj.1 h)
 ·intro h; rw [h]
set_option maxHeartbeats 1000000 in
theorem eqItem : EqlAt Tryz.prog 31 (fun x : It => .agg (itC x).toArray) eqI := by
 refine ⟨fun x y w => ?_, GuardAt.agg _ (by kernel_rfl)⟩
 have u1 := Tryz.underlying3
 have a1 := Tryz.isAgg3
 have z1 := Tryz.sizeOf3
 have u2 := Tryz.underlying2
 have a2 := Tryz.isAgg2
 have z2 := Tryz.sizeOf2
 have u3 := Tryz.underlying9
 have a3 := Tryz.isAgg9
 have z3 := Tryz.sizeOf9
 have u4 := Tryz.underlying29
 have a4 := Tryz.isAgg29
 have z4 := Tryz.sizeOf29
 have hS : Tryz.prog.underlying 31 = some (.struct (Tryz.prog.fieldsOf 31)) := by kernel_rfl
 have hp : Tryz.prog.stoodInHeld 31 = false := by kernel_rfl
 simp only [itC]
 rw [run_eql_struct, show (10000 : Nat) = 9999 + 1 from rfl, run_equalIn_agg w 9999 31 _ _ hS hp]
 simp only [Program.fieldsOf, Tryz.underlying31]
 go_simp
 unfold eqI
 by_cases h1 : x.kind = y.kind <;> by_cases h2 : x.num = y.num <;> by_cases h3 : x.text = y.text <;> by_cases h4 : x.node = y.node <;> simp [h1, h2, h3, h4, toList_inj, Int.natCast_inj]
theorem eqI_same (x : It) : eqI x x = true := (eqI_iff x x).2 rfl
theorem run_eqI (x y : It) (w : World) : (binOp .eql 31 (itV x) (itV y)).run Tryz.prog w = .ok (.bool (eqI x y)) w := eqItem.1 x y w
section
variable {K : Value → World → Prop} {u : Nat → Value} {o : Oper} {w : World}
theorem upon_eqI (x y : Operand) (a b : It) (h : o.op = .binOp .eql 31 x y 31) (hx : evU u x = itV a) (hy : evU u y = itV b) (hk : K (.bool (eqI a b)) w) : uponU K Tryz.prog ((execOp (evU u) o).run Tryz.prog w) := by
 refine upon_val _ ?_ hk
 have hr := run_eqI a b w
 have hg : (eqGuard .eql 31 x y (itV a) (itV b)).run Tryz.prog w = .ok () w := eqItem.2 .eql x y a b w
 unfold execOp
 simp only [h, hx, hy]
 simp [go_sem, hr, hg]
theorem upon_eqI_same (x y : Operand) (a : It) (h : o.op = .binOp .eql 31 x y 31) (hx : evU u x = itV a) (hy : evU u y = itV a) (hk : K (.bool true) w) : uponU K Tryz.prog ((execOp (evU u) o).run Tryz.prog w) :=
 upon_eqI x y a a h hx hy (by rw [eqI_same]; exact hk)
end
end Go.Proofs.YtmhnndgnnpondaaGreatDoor
