/- parchmentkit.flatBytes: words for its walk. -/
import Derived.Test.YtofbcgehemclbaaFl1
import Derived.Test.YtofbcgehemclbaaRv
namespace Go.Proofs.Ytofbcgehemclbaa
open Go.RowKit Bm
theorem setCell2 (w : World) (g i : Nat) (v : Value) : (w.setCell ⟨g, i, none⟩ v).setCell ⟨g, i, none⟩ v = w.setCell ⟨g, i, none⟩ v := by
  have h : ∀ (h : Array Obj) (f : Obj → Obj), (∀ o, f (f o) = f o) → (h.modify g f).modify g f = h.modify g f := by
    intro h f hf
    apply Array.ext_getElem?
    intro k
    rw [Array.getElem?_modify, Array.getElem?_modify]
    by_cases e : g = k
    · subst e
      simp only [if_true, Option.map_map]
      congr 1
      funext o
      exact hf o
    · simp [e]
  unfold World.setCell
  simp only
  rw [h]
  intro o
  cases o <;> simp
/-- two worlds, the second one behind the region's one store -/
def RS (w0 w1 w w' : World) : Prop := (w = w0 ∧ (w' = w0 ∨ w' = w1)) ∨ (w = w1 ∧ w' = w1)
section
variable {w0 w1 w w' : World}
theorem RS.refl0 : RS w0 w1 w0 w0 := .inl ⟨rfl, .inl rfl⟩
theorem RS.again (h : RS w0 w1 w0 w) : RS w0 w1 w w := by
  rcases h with ⟨_, rfl | rfl⟩ | ⟨_, rfl⟩
  · exact .inl ⟨rfl, .inl rfl⟩
  · exact .inr ⟨rfl, rfl⟩
  · exact .inr ⟨rfl, rfl⟩
theorem RS.or (h : RS w0 w1 w0 w) : w = w0 ∨ w = w1 := by
  rcases h with ⟨_, h⟩ | ⟨_, h⟩
  · exact h
  · exact .inr h
theorem RS.trans {w2 w3 w4 : World} (h : RS w0 w1 w2 w3) (k : RS w0 w1 w3 w4) : RS w0 w1 w2 w4 := by
  rcases h with ⟨rfl, rfl | rfl⟩ | ⟨rfl, rfl⟩
  · rcases k with ⟨_, k⟩ | ⟨_, k⟩
    · exact .inl ⟨rfl, k⟩
    · exact .inl ⟨rfl, .inr k⟩
  · rcases k with ⟨_, k⟩ | ⟨_, k⟩
    · exact .inl ⟨rfl, k⟩
    · exact .inl ⟨rfl, .inr k⟩
  · rcases k with ⟨e, k⟩ | ⟨_, k⟩
    · subst e
      rcases k with k | k
      · exact .inl ⟨rfl, .inl k⟩
      · exact .inr ⟨rfl, k⟩
    · exact .inr ⟨rfl, k⟩
theorem RS.to1 (h : w = w0 ∨ w = w1) : RS w0 w1 w w1 := by
  rcases h with rfl | rfl
  · exact .inl ⟨rfl, .inr rfl⟩
  · exact .inr ⟨rfl, rfl⟩
theorem RS.from1 (h : RS w0 w1 w1 w') : w' = w0 ∧ w1 = w0 ∨ w' = w1 := by
  rcases h with ⟨e, h | h⟩ | ⟨_, h⟩
  · exact .inl ⟨h, e⟩
  · exact .inr h
  · exact .inr h
end
def eqS (w0 w1 : World) (s : Nat) (v : Value) : FactU (RS w0 w1) := ⟨[s], fun u _ => u s = v, fun _ _ _ _ hs _ hf => by rw [hs s (by simp)]; exact hf⟩
def doneS (w0 w1 : World) : FactU (RS w0 w1) := ⟨[], fun _ w => w = w1, fun _ _ w w' _ hR hf => by
  subst hf
  rcases hR.from1 with ⟨h1, h2⟩ | h
  · rw [h1, h2]
  · exact h⟩
section
variable {K : Value → World → Prop} {u : Nat → Value} {o : Oper} {w : World}
theorem upon_store8 (x y : Operand) (g i : Nat) (b : Int) (v : Value) (h : o.op = .store 5 x y) (hx : evU u x = .pointer (some ⟨g, i, none⟩)) (hy : evU u y = .int .u8 b)
    (hc : w.cell? ⟨g, i, none⟩ = some v) (hf : w.frozen? ⟨g, i, none⟩ = false) (hk : K undef (w.setCell ⟨g, i, none⟩ (.int .u8 b))) : uponU K Try.prog ((execOp (evU u) o).run Try.prog w) := by
  have hr : (execOp (evU u) o).run Try.prog w = .ok .skip (w.setCell ⟨g, i, none⟩ (.int .u8 b)) := by
    unfold execOp
    simp [go_sem, h, hx, hy, hc, hf, Try.underlying5]
  rw [hr]; exact hk
end
/-! ### all pieces -/
def All (W : World) (ps : List Pc) (f : Nat → Nat → List UInt8) : Prop := ∀ j p, ps[j]? = some p → Cont W p (f j p.2.1)
def Dist (ps : List Pc) : Prop := ∀ (j k : Nat) (p q : Pc) (g : Nat), ps[j]? = some p → ps[k]? = some q → j ≠ k → p.1 = some g → q.1 ≠ some g
/-- the list that holds the pieces -/
def Ls (W : World) (gl cl : Nat) (ps : List Pc) : Prop := W.ownsRow 0 22 1 (.slice (some ⟨gl, 0, none⟩) ps.length cl) ps.length (ps.map pcV)
section
variable {W W' : World} {ps : List Pc} {f f' : Nat → Nat → List UInt8} {gl cl : Nat}
theorem All.keep (h : All W ps f) (hb : Below W.heap.size W W') : All W' ps f := fun j p hp => (h j p hp).keep hb
theorem All.congr (h : All W ps f) (e : ∀ j p, ps[j]? = some p → f j p.2.1 = f' j p.2.1) : All W ps f' := fun j p hp => by rw [← e j p hp]; exact h j p hp
theorem All.step {r : Option Nat} (h : All W ps f) (hd : Dist ps) (hg : W.grownBy W' r) (k : Nat) (p : Pc) (hk : ps[k]? = some p) (hr : ∀ g, r = some g → p.1 = some g ∨ ∀ q ∈ ps, q.1 ≠ some g) (ys : List UInt8) (hc : Cont W' p ys) : All W' ps (fun j n => if j = k then ys else f j n) := by
  intro j q hq
  by_cases e : j = k
  · subst e
    rw [hk] at hq
    injection hq with hq
    subst hq
    show Cont W' p (if j = j then ys else f j p.2.1)
    rw [if_pos rfl]; exact hc
  · show Cont W' q (if j = k then ys else f j q.2.1)
    rw [if_neg e]
    refine (h j q hq).other hg fun g hg' er => ?_
    rcases hr g er with h1 | h1
    · exact hd k j p q g hk hq (fun e' => e e'.symm) h1 hg'
    · exact h1 q (List.mem_of_getElem? hq) hg'
theorem Ls.ne (h : Ls W gl cl ps) {g : Nat} {full : List UInt8} (hr : Rw W g full) (h0 : ps ≠ []) : g ≠ gl := by
  rintro rfl
  obtain ⟨fz, hh, _⟩ := hr
  rcases h.2 with ⟨_, e⟩ | ⟨g', cap, cur, hv, _, hh', _⟩
  · exact h0 (List.length_eq_zero_iff.1 e)
  · injection hv with e1
    injection e1 with e1
    injection e1 with e1
    subst e1
    rw [hh] at hh'
    simp at hh'
theorem Ls.grown {r : Option Nat} (h : Ls W gl cl ps) (hg : W.grownBy W' r) (hne : r ≠ some gl) : Ls W' gl cl ps := by
  refine ⟨h.1, ?_⟩
  rcases h.2 with h1 | ⟨g, cap, cur, hv, hB, hh, rest⟩
  · exact .inl h1
  · refine .inr ⟨g, cap, cur, hv, hB, (hg.block g (lt_of_heap hh) fun e => hne ?_).trans hh, rest⟩
    injection hv with e1
    injection e1 with e1
    injection e1 with e1
    rw [e1, e]
theorem Ls.keep (h : Ls W gl cl ps) (hb : Below W.heap.size W W') : Ls W' gl cl ps := ow_keep h hb
theorem Ls.cell (h : Ls W gl cl ps) (k : Nat) (p : Pc) (hk : ps[k]? = some p) : W.cell? ⟨gl, k, none⟩ = some (pcV p) := ow_cell h k _ (by simp [hk])
theorem Ls.lt (h : Ls W gl cl ps) : gl < W.heap.size := by
  have := ow_lt h gl rfl
  exact this.2
end
theorem mk_list (n : Nat) (hn : n ≤ 1048576) (W : World) : (Instr.makeSlice 25 (.int .i64 (n : Int)) (.int .i64 (n : Int))).run Try.prog W = .ok (.slice (some ⟨W.heap.size, 0, none⟩) n n) (W.alloc (.cells (List.replicate n (Value.slice none 0 0)).toArray 22)) := by
  obtain ⟨i0, hi, hz0, hz1, hz2⟩ := info_parts pieceInfo
  have hr := run_make (P := Try.prog) W 25 22 i0 (.slice none 0 0) Try.underlying25 hi hz0 .i64 .i64 (n : Int) (n : Int) (by omega) (by omega) (by rw [hz2]; omega) (by omega)
  simp only [Int.toNat_natCast, hz1, Nat.mul_one] at hr
  have e : madeCells (Value.slice none 0 0).cells n = (List.replicate n (Value.slice none 0 0)).toArray := by
    apply Array.ext
    · simp [madeCells]
    · intro i h1 h2
      simp [madeCells, Value.cells, Nat.mod_one]
  rw [e] at hr
  exact hr
theorem Gr.other {B : Nat} {W W' : World} {p : Pc} {v : Value} {xs : List UInt8} {r : Option Nat} (h : Gr B W p v xs) (hg : W.grownBy W' r) (hr : ∀ g, r = some g → p.1 ≠ some g ∧ v.ownBlock ≠ some g) : Gr B W' p v xs := by
  rcases h with ⟨h1, h2, h3, h4⟩ | ⟨h1, h2, h3⟩
  · exact .inl ⟨h1, h2, h3, h4.other hg fun g hg' e => (hr g e).1 hg'⟩
  · refine .inr ⟨World.ownsRow.kept h1 hg ?_, h2, h3.other hg fun g hg' e => (hr g e).1 hg'⟩
    cases hv : v.ownBlock with
    | none => exact .inl rfl
    | some b => exact .inr fun e => (hr b e.symm).2 hv
theorem wpList_appG {B : Nat} {W : World} {p : Pc} {v : Value} {xs ys : List UInt8} {ops : Array Oper} {rest : List Oper} {o : Oper} {ac : Act} {Q : Exit → Act → World → Prop} (hgd : o.guard = none) (s x : Operand)
    (ho : o.op = .call { callee := .builtin .append, args := #[s, x], argTypes := #[22, 22] })
    (src : Option Addr) (m c : Nat) (hs : ac.eval s = v) (hx : ac.eval x = .slice src m c)
    (h : Gr B W p v xs) (hr : RdB W src ys) (hm : m = ys.length) (hle : xs.length + ys.length ≤ 1000000) (hB : B ≤ W.heap.size) (hpB : ∀ g, p.1 = some g → g < B)
    (K : ∀ v' w', Gr B w' p v' (xs ++ ys) → W.grownBy w' v.ownBlock → wpList Try.prog ops Q rest (ac.put o.dst v') w') :
    wpList Try.prog ops Q (o :: rest) ac W := by
  refine wpList_plain hgd fun K' hK => ?_
  obtain ⟨v', w', hrun, h2, h3⟩ := run_appG src m c o.type h hr hm hle hB hpB
  have := hK _ _ (K v' w' h2 h3)
  unfold Oper.wp execOp
  simp only [ho, resolve, invoke, builtin, Sem.run_bind, Sem.run_pure, Result.andThen_ok, List.map_toArray, List.map_cons, List.map_nil, hs, hx, hrun]
  exact this
theorem Gr.mono {B B' : Nat} {W : World} {p : Pc} {v : Value} {xs : List UInt8} (h : Gr B W p v xs) (hB : B' ≤ B) : Gr B' W p v xs :=
  h.imp id fun ⟨h1, h2, h3⟩ => ⟨ow_mono h1 hB, h2, h3⟩
theorem Blk.other {W W' : World} {g : Nat} {t : TypeId} {cs : Array Value} {r : Option Nat} (h : Blk W g t cs) (hg : W.grownBy W' r) (hne : r ≠ some g) : Blk W' g t cs :=
  (hg.block g h.lt fun e => hne e.symm).trans h
/-- all but the pieces' blocks stays -/
structure KeptB (ps : List Pc) (w W : World) : Prop where
  os : W.os = w.os
  tape : W.tape = w.tape
  output : W.output = w.output
  size : w.heap.size ≤ W.heap.size
  block : ∀ g, g < w.heap.size → (∀ p ∈ ps, p.1 ≠ some g) → W.heap[g]? = w.heap[g]?
theorem KeptB.refl (ps : List Pc) (w : World) : KeptB ps w w := ⟨rfl, rfl, rfl, Nat.le_refl _, fun _ _ _ => rfl⟩
theorem KeptB.drew {ps : List Pc} {w W : World} (h : KeptB ps w W) : KeptB ps w W.drew := ⟨h.os, h.tape, h.output, h.size, h.block⟩
theorem KeptB.grown {ps : List Pc} {w W W' : World} {r : Option Nat} (h : KeptB ps w W) (hg : W.grownBy W' r) (hr : ∀ b, r = some b → (∃ p ∈ ps, p.1 = some b) ∨ w.heap.size ≤ b) : KeptB ps w W' :=
  ⟨hg.os.trans h.os, hg.tape.trans h.tape, hg.output.trans h.output, Nat.le_trans h.size hg.size, fun g hg1 hp => (hg.block g (Nat.lt_of_lt_of_le hg1 h.size) fun e => by
    rcases hr g e.symm with ⟨p, h1, h2⟩ | h1
    · exact hp p h1 h2
    · omega).trans (h.block g hg1 hp)⟩
theorem KeptB.keep {ps : List Pc} {w W W' : World} (h : KeptB ps w W) (hb : Below W.heap.size W W') : KeptB ps w W' :=
  h.grown (r := none) ⟨hb.os, hb.tape, hb.output, hb.size, fun k hk _ => hb.block k hk⟩ fun b e => by cases e
theorem KeptB.below {ps : List Pc} {w W : World} {B : Nat} (h : KeptB ps w W) (hB : B ≤ w.heap.size) (hp : ∀ p ∈ ps, ∀ g, p.1 = some g → B ≤ g) : Below B w W :=
  ⟨h.os, h.tape, h.output, h.size, fun k hk => h.block k (by omega) fun p h1 h2 => by have := hp p h1 k h2; omega⟩
/-- k of the lists have been grown; vs: the grown ones -/
structure F2 (ct : Nat → Nat → List UInt8) (Bz gl cl gb : Nat) (w W : World) (ps : List Pc) (vs : List Value) (k base : Nat) : Prop where
  ls : Ls W gl cl ps
  al : All W ps (fun j n => marks j n)
  gs : Blk W gb 22 vs.toArray
  ln : vs.length = ps.length
  st : ∀ (j : Nat) (p : Pc), j < k → ps[j]? = some p → ∃ v, vs[j]? = some v ∧ Gr (gb + 1) W p v (ct j p.2.1) ∧ ∀ b, v.ownBlock = some b → b < base
  bs : base ≤ W.heap.size
  gb1 : gb + 1 ≤ base
  be : KeptB ps w W
/-- where all lies -/
structure Lie (Bz gl gb : Nat) (ps : List Pc) : Prop where
  d : Dist ps
  g : ∀ q ∈ ps, ∀ g, q.1 = some g → g < gb
  l : gl < gb
  n : ∀ q ∈ ps, q.1 ≠ some gl
  b : Bz ≤ gb
section
variable {ct : Nat → Nat → List UInt8} {Bz gl cl gb k base : Nat} {w W W' : World} {ps : List Pc} {vs : List Value} {p : Pc} {v v' : Value} {xs ys : List UInt8}
theorem F2.keep (F : F2 ct Bz gl cl gb w W ps vs k base) (hb : Below W.heap.size W W') (hz : Bz ≤ W.heap.size) : F2 ct Bz gl cl gb w W' ps vs k base :=
  ⟨F.ls.keep hb, F.al.keep hb, F.gs.keep hb, F.ln, fun j p hj hp => by
    obtain ⟨v, h1, h2, h3⟩ := F.st j p hj hp
    exact ⟨v, h1, h2.keep hb, h3⟩, Nat.le_trans F.bs hb.size, F.gb1, F.be.keep hb⟩
theorem F2.app (F : F2 ct Bz gl cl gb w W ps vs k base) (L : Lie w.heap.size gl gb ps) (hp : ps[k]? = some p) (hG : Gr base W p v xs) (hG' : Gr base W' p v' (xs ++ ys)) (hx : (xs ++ ys).take p.2.1 = marks k p.2.1) (hg : W.grownBy W' v.ownBlock) : F2 ct Bz gl cl gb w W' ps vs k base := by
  have hpm := List.mem_of_getElem? hp
  have hgb := F.gb1
  have hlg := L.l
  have hblk : ∀ b, v.ownBlock = some b → p.1 = some b ∨ base ≤ b := fun b hb => (hG.blk b hb).imp id fun h => h.1
  refine ⟨F.ls.grown hg fun e => ?_, ?_, F.gs.other hg fun e => ?_, F.ln, fun j q hj hq => ?_, Nat.le_trans F.bs hg.size, F.gb1, F.be.grown hg fun b hb => ?_⟩
  · rcases hblk _ e with h | h
    · exact L.n p hpm h
    · omega
  · refine (F.al.step L.d hg k p hp (fun b hb => ?_) _ (by have := hG'.cont; rw [hx] at this; exact this)).congr fun j q hq => ?_
    · rcases hblk b hb with h | h
      · exact .inl h
      · exact .inr fun q hq e => by have := L.g q hq b e; omega
    · by_cases e : j = k
      · subst e; rw [hp] at hq; injection hq with hq; subst hq; simp
      · simp [e]
  · rcases hblk _ e with h | h
    · have := L.g p hpm _ h; omega
    · omega
  · obtain ⟨v2, h1, h2, h3⟩ := F.st j q hj hq
    refine ⟨v2, h1, h2.other hg fun b hb => ?_, h3⟩
    have hqm := List.mem_of_getElem? hq
    rcases hblk b hb with h | h
    · have hbg := L.g p hpm b h
      refine ⟨L.d k j p q b hp hq (by omega) h, fun e => ?_⟩
      rcases h2.blk b e with h4 | h4
      · exact L.d k j p q b hp hq (by omega) h h4
      · omega
    · refine ⟨fun e => ?_, fun e => ?_⟩
      · have := L.g q hqm b e; omega
      · have := h3 b e; omega
  · rcases hblk b hb with h | h
    · exact .inl ⟨p, hpm, h⟩
    · right; have := L.b; omega
theorem F2.put (F : F2 ct Bz gl cl gb w W ps vs k base) (L : Lie w.heap.size gl gb ps) (hp : ps[k]? = some p) (hG : Gr base W p v (ct k p.2.1)) : F2 ct Bz gl cl gb w (W.setCell ⟨gb, k, none⟩ v) ps (vs.set k v) (k + 1) W.heap.size := by
  have hpm := List.mem_of_getElem? hp
  have hgb := F.gb1
  have hg : W.grownBy (W.setCell ⟨gb, k, none⟩ v) (some gb) := grown_setCell W ⟨gb, k, none⟩ v
  have hlt : ∀ q ∈ ps, q.1 ≠ some gb := fun q hq e => by have := L.g q hq gb e; omega
  have hgr : ∀ (q : Pc) (v2 : Value) (zs : List UInt8), q ∈ ps → Gr (gb + 1) W q v2 zs → Gr (gb + 1) (W.setCell ⟨gb, k, none⟩ v) q v2 zs := fun q v2 zs hq h => h.other hg fun b e => by
    injection e with e
    subst e
    refine ⟨hlt q hq, fun e => ?_⟩
    rcases h.blk gb e with h4 | h4
    · exact hlt q hq h4
    · omega
  refine ⟨F.ls.grown hg fun e => ?_, fun j q hq => (F.al j q hq).other hg fun g h1 h2 => ?_, ?_, by rw [List.length_set]; exact F.ln, fun j q hj hq => ?_, by simp [World.setCell], Nat.le_trans F.gb1 F.bs, ?_⟩
  · injection e with e; have := L.l; omega
  · injection h2 with h2; subst h2; exact hlt q (List.mem_of_getElem? hq) h1
  · have := F.gs.set_ k v
    rwa [show vs.toArray.setIfInBounds k v = (vs.set k v).toArray from by simp] at this
  · by_cases e : j = k
    · subst e
      rw [hp] at hq
      injection hq with hq
      subst hq
      have hl : j < vs.length := by rw [F.ln]; exact (List.getElem?_eq_some_iff.1 hp).1
      refine ⟨v, by simp [hl], hgr _ _ _ hpm (hG.mono hgb), fun b hb => ?_⟩
      rcases hG.blk b hb with h | h
      · have := L.g p hpm b h; have := F.bs; omega
      · exact h.2
    · obtain ⟨v2, h1, h2, h3⟩ := F.st j q (by omega) hq
      exact ⟨v2, by rw [List.getElem?_set_ne (fun e' => e e'.symm)]; exact h1, hgr _ _ _ (List.mem_of_getElem? hq) h2, fun b hb => by have := h3 b hb; have := F.bs; omega⟩
  · exact F.be.grown hg fun b e => .inr (by injection e with e; subst e; exact L.b)
end
theorem marks_take (k : Int) (a b : Nat) (h : b ≤ a) : (marks k a).take b = marks k b := by
  unfold marks
  rw [← List.map_take, List.take_range, Nat.min_eq_left h]
theorem ix_u8 (b off n c i : Nat) (hlt : i < n) (W : World) : (Instr.indexAt 22 (.slice (some ⟨b, off, none⟩) n c) (.int .i64 (i : Int))).run Try.prog W = .ok (.pointer (some ⟨b, off + i, none⟩)) W := by
  obtain ⟨j0, hj, _, hj1, _⟩ := info_parts byteInfo
  have := run_ix Try.underlying22 hj hj1 b off n c i (i : Int) rfl hlt W
  simpa using this
/-- a byte of a marked row -/
theorem mark_at {W : World} {a : Option Addr} {k : Int} {n : Nat} (h : RdB W a (marks k n)) (i : Nat) (hi : i < n) : ∃ b off, a = some ⟨b, off, none⟩ ∧ W.cell? ⟨b, off + i, none⟩ = some (.int .u8 ((mkB k (i : Int)).toNat : Int)) := by
  obtain ⟨b, off, h1, h2⟩ := h.cellAt i (by rw [length_marks]; exact hi)
  rw [marks_get] at h2
  exact ⟨b, off, h1, h2⟩
/-- what the grown list's place holds -/
theorem F2.grownAt {ct : Nat → Nat → List UInt8} {Bz gl cl gb k base : Nat} {w W : World} {ps : List Pc} {vs : List Value} (F : F2 ct Bz gl cl gb w W ps vs k base) (j : Nat) (p : Pc) (hj : j < k) (hp : ps[j]? = some p) :
    ∃ a c, W.cell? ⟨gb, j, none⟩ = some (.slice a (ct j p.2.1).length c) ∧ RdB W a (ct j p.2.1) := by
  obtain ⟨v, h1, h2, _⟩ := F.st j p hj hp
  obtain ⟨a, c, h3, h4⟩ := h2.form
  refine ⟨a, c, ?_, h4⟩
  rw [F.gs.cell j]
  simp [h1, h3]
def ct2 : Nat → Nat → List UInt8 := fun j n => marks j (n + 64)
def ct4 (N : Nat) : Nat → Nat → List UInt8 := fun j n => marks j n ++ marks ((j : Int) + N) 64
theorem F2.far {ct : Nat → Nat → List UInt8} {Bz gl cl gb k base g : Nat} {w W W' : World} {ps : List Pc} {vs : List Value} (F : F2 ct Bz gl cl gb w W ps vs k base) (L : Lie w.heap.size gl gb ps) (hg : W.grownBy W' (some g)) (hgb : base ≤ g) : F2 ct Bz gl cl gb w W' ps vs k base := by
  have hg1 := F.gb1
  have hlg := L.l
  refine ⟨F.ls.grown hg fun e => by injection e with e; omega, fun j q hq => (F.al j q hq).other hg fun b h1 h2 => ?_, F.gs.other hg fun e => by injection e with e; omega, F.ln, fun j q hj hq => ?_, Nat.le_trans F.bs hg.size, F.gb1, F.be.grown hg fun b hb => ?_⟩
  · injection h2 with h2; subst h2; have := L.g q (List.mem_of_getElem? hq) _ h1; omega
  · obtain ⟨v2, h1, h2, h3⟩ := F.st j q hj hq
    refine ⟨v2, h1, h2.other hg fun b hb => ?_, h3⟩
    injection hb with hb
    subst hb
    exact ⟨fun e => by have := L.g q (List.mem_of_getElem? hq) _ e; omega, fun e => by have := h3 _ e; omega⟩
  · injection hb with hb; subst hb; right; have := L.b; omega
theorem fill_set (κ : Int) (i : Nat) (hi : i < 64) : (marks κ i ++ zeros (64 - i)).set i (mkB κ (i : Int)) = marks κ (i + 1) ++ zeros (64 - (i + 1)) := by
  rw [marks_snoc, List.set_append_right _ _ (by rw [length_marks]; exact Nat.le_refl _), length_marks, Nat.sub_self, List.append_assoc]
  congr 1
  rw [show 64 - i = 64 - (i + 1) + 1 from by omega]
  simp [zeros, List.replicate_succ]
theorem RdB.takeB {W : World} {a : Option Addr} {bs : List UInt8} (h : RdB W a bs) (k : Nat) : RdB W a (bs.take k) := by
  rcases h with rfl | ⟨b, off, ha, hlt, hc⟩
  · exact .inl (by simp)
  · refine .inr ⟨b, off, ha, hlt, fun i hi => ?_⟩
    rw [List.length_take] at hi
    rw [List.getElem_take]
    exact hc i (by omega)
end Go.Proofs.Ytofbcgehemclbaa

