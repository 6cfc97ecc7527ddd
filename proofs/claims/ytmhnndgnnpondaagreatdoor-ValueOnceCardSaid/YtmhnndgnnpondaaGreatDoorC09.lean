/- Rows of items with room behind: what is written into them, appended to them. A region that draws its order, as in Reg: an operation knows a slot that only an operation behind it writes, too. -/
import Derived.Test.YtmhnndgnnpondaaGreatDoorHk
import Derived.ArgAppend
import Derived.Test.YtmhnndgnnpondaaGreatDoorRgi
namespace Go.Proofs.YtmhnndgnnpondaaGreatDoor
open Go.RowKit
abbrev PcI := Option Nat × Nat × Nat × Option Addr
def piV (p : PcI) : Value := .slice p.2.2.2 p.2.1 p.2.2.1
def ContI (W : World) (p : PcI) (xs : List It) : Prop :=
 (p.1 = none ∧ p.2.1 = 0 ∧ p.2.2.1 = 0 ∧ xs = []) ∨ ∃ g, p.1 = some g ∧ p.2.2.2 = some ⟨g, 0, none⟩ ∧ p.2.1 ≤ p.2.2.1 ∧ W.ownsRow 0 31 4 (.slice (some ⟨g, 0, none⟩) xs.length p.2.2.1) xs.length (icells xs)
theorem icells_take : ∀ (l : List It) (k : Nat), icells (l.take k) = (icells l).take (k * 4)
 | [], k => by simp [icells]
 | x :: l, 0 => by simp [icells]
 | x :: l, k + 1 => by
  rw [List.take_succ_cons, icells_cons, icells_cons, icells_take l k, show (k + 1) * 4 = (itC x).length + k * 4 from by simp [itC]; omega, List.take_length_add_append]
theorem own_parts {w : World} {B g n cap : Nat} {e : TypeId} {size : Nat} {xs : List Value} (h : w.ownsRow B e size (.slice (some ⟨g, 0, none⟩) n cap) n xs) :
  ∃ cur, B ≤ g ∧ w.heap[g]? = some (.cells cur e (0, 0)) ∧ n ≤ cap ∧ cap ≤ maxLen ∧ cur.size = cap * size ∧ cur.toList.take (n * size) = xs := by
 rcases h.2 with ⟨e1, _⟩ | ⟨g', cap', cur, e1, h1, h2⟩
 ·injection e1 with e1; cases e1
 ·injection e1 with e1 e2 e3
  injection e1 with e1
  injection e1 with e1
  subst e1 e3
  exact ⟨cur, h1, h2⟩
section
variable {W W' : World} {p : PcI} {xs : List It}
theorem ContI.keep (h : ContI W p xs) (hb : Below W.heap.size W W') : ContI W' p xs :=
 h.imp id fun ⟨g, h1, ha, h2, h3⟩ => ⟨g, h1, ha, h2, ow_keep h3 hb⟩
theorem ContI.other {r : Option Nat} (h : ContI W p xs) (hg : W.grownBy W' r) (hne : ∀ g, p.1 = some g → r ≠ some g) : ContI W' p xs :=
 h.imp id fun ⟨g, h1, ha, h2, h3⟩ => ⟨g, h1, ha, h2, World.ownsRow.kept h3 hg (.inr fun e => hne g h1 (by rw [← e]; rfl))⟩
theorem ContI.rd (h : ContI W p xs) : RdI W p.2.2.2 xs := by
 rcases h with ⟨h1, h2, h3, h4⟩ | ⟨g, h1, ha, h2, h3⟩
 ·subst h4; exact .inl rfl
 ·rw [ha]; exact ow_rd h3
theorem ContI.lt (h : ContI W p xs) (g : Nat) (hg : p.1 = some g) : g < W.heap.size := by
 rcases h with ⟨h1, _⟩ | ⟨g', h1, ha, h2, h3⟩
 ·rw [h1] at hg; cases hg
 ·rw [h1] at hg; injection hg with hg; subst hg; exact (ow_lt h3 g' rfl).2
theorem ContI.take (h : ContI W p xs) (k : Nat) : ContI W p (xs.take k) := by
 rcases h with ⟨h1, h2, h3, h4⟩ | ⟨g, h1, ha, h2, h3⟩
 ·exact .inl ⟨h1, h2, h3, by simp [h4]⟩
 ·refine .inr ⟨g, h1, ha, h2, ?_⟩
  obtain ⟨cur, q1, q2, q3, q4, q5, q6⟩ := own_parts h3
  refine ⟨icells_length _, .inr ⟨g, p.2.2.1, cur, rfl, q1, q2, by rw [List.length_take]; omega, q4, q5, ?_⟩⟩
  rw [icells_take, ← q6, List.take_take, List.length_take]
  congr 1
  omega
theorem ContI.set (h : ContI W p xs) (y : It) (hlt : xs.length < p.2.2.1) : ∃ g cur cur1, p.1 = some g ∧ p.2.2.2 = some ⟨g, 0, none⟩ ∧ W.heap[g]? = some (.cells cur 31 (0, 0)) ∧
  (∀ W' : World, W'.heap[g]? = some (.cells cur 31 (0, 0)) ∨ W'.heap[g]? = some (.cells cur1 31 (0, 0)) → (storeCells ⟨g, xs.length * 4, none⟩ (itC y) 0).run Tryz.prog W' = .ok () (W'.setRow g cur1)) ∧
  (∀ W' : World, W'.heap[g]? = some (.cells cur1 31 (0, 0)) → ContI W' p (xs ++ [y])) := by
 rcases h with ⟨h1, h2, h3, h4⟩ | ⟨g, h1, ha, h2, h3⟩
 ·omega
 ·obtain ⟨cur, q1, q2, q3, q4, q5, q6⟩ := own_parts h3
  have hn : (itC y).length = 4 := rfl
  have hfit : xs.length * 4 + 0 + (itC y).length ≤ cur.size := by rw [hn, q5]; omega
  have h14 : ∀ v ∈ itC y, v.oneCell' = true := fun v hv => one_items [y] v (by simpa [icells] using hv)
  have hcl : cur.toList.length = cur.size := Array.length_toList
  have hl0 : (cur.toList.take (xs.length * 4)).length = xs.length * 4 := by rw [List.length_take]; omega
  refine ⟨g, cur, (cur.toList.take (xs.length * 4) ++ itC y ++ cur.toList.drop (xs.length * 4 + (itC y).length)).toArray, h1, ha, q2, ?_, ?_⟩
  ·intro W' hW'
   rcases hW' with hW' | hW'
   ·have := run_storeCells_at Tryz.prog g (xs.length * 4) 31 (itC y) 0 cur W' hW' hfit h14
    simpa using this
   ·have := run_storeCells_at Tryz.prog g (xs.length * 4) 31 (itC y) 0 _ W' hW' (by simp only [List.size_toArray, List.length_append, hl0, hn, List.length_drop, hcl]; omega) h14
    rw [this]
    congr 2
    apply congrArg
    simp only [Nat.add_zero]
    have e1 : List.take (xs.length * 4) (cur.toList.take (xs.length * 4) ++ itC y ++ cur.toList.drop (xs.length * 4 + (itC y).length)) = cur.toList.take (xs.length * 4) := by
     rw [List.append_assoc, List.take_left' hl0]
    have e2 : List.drop (xs.length * 4 + (itC y).length) (cur.toList.take (xs.length * 4) ++ itC y ++ cur.toList.drop (xs.length * 4 + (itC y).length)) = cur.toList.drop (xs.length * 4 + (itC y).length) := by
     rw [List.drop_left' (by rw [List.length_append, hl0])]
    rw [e1, e2]
  ·intro W' hW'
   refine .inr ⟨g, h1, ha, by omega, icells_length _, .inr ⟨g, p.2.2.1, _, rfl, Nat.zero_le _, hW', by rw [List.length_append, List.length_singleton]; omega, q4, ?_, ?_⟩⟩
   ·simp only [List.size_toArray, List.length_append, hl0, hn, List.length_drop, hcl]; omega
   ·show List.take ((xs ++ [y]).length * 4) (cur.toList.take (xs.length * 4) ++ itC y ++ cur.toList.drop (xs.length * 4 + (itC y).length)) = _
    rw [List.take_left' (by rw [List.length_append, hl0, hn, List.length_append, List.length_singleton]; omega), icells_append, q6]
    simp [icells]
end
theorem grown_setCell (W : World) (a : Addr) (v : Value) : W.grownBy (W.setCell a v) (some a.block) := by
 refine ⟨rfl, rfl, rfl, by simp [World.setCell], fun k _ hne => ?_⟩
 simp only [World.setCell, Array.getElem?_modify]
 rw [if_neg (fun e => hne (by rw [e]))]
theorem itC_len (z : It) : (itC z).length = 4 := rfl
theorem grown_trans {W W1 W2 : World} {r : Option Nat} (h : W.grownBy W1 r) (k : W1.grownBy W2 r) : W.grownBy W2 r :=
 ⟨k.os.trans h.os, k.tape.trans h.tape, k.output.trans h.output, Nat.le_trans h.size k.size, fun j hj hne => (k.block j (Nat.lt_of_lt_of_le hj h.size) hne).trans (h.block j hj hne)⟩
theorem grown_none {W W' : World} {r : Option Nat} (h : W.grownBy W' none) : W.grownBy W' r := ⟨h.os, h.tape, h.output, h.size, fun k hk _ => h.block k hk (by simp)⟩
theorem grown_below {W W' : World} (h : W.grownBy W' none) : Below W.heap.size W W' := ⟨h.os, h.tape, h.output, h.size, fun k hk => h.block k hk (by simp)⟩
theorem below_grown {W W' : World} {r : Option Nat} (h : Below W.heap.size W W') : W.grownBy W' r := ⟨h.os, h.tape, h.output, h.size, fun k hk _ => h.block k hk⟩
def GrI (B : Nat) (W : World) (p : PcI) (v : Value) (xs : List It) : Prop :=
 (v = .slice p.2.2.2 xs.length p.2.2.1 ∧ p.1 ≠ none ∧ p.2.1 ≤ xs.length ∧ ContI W p xs) ∨ (((OwI W B v xs ∧ xs ≠ []) ∨ (xs = [] ∧ ∃ a, v = .slice a 0 0)) ∧ p.2.1 ≤ xs.length ∧ ContI W p (xs.take p.2.1))
theorem GrI.start {B : Nat} {W : World} {p : PcI} {xs : List It} (h : ContI W p xs) (hl : xs.length = p.2.1) : GrI B W p (piV p) xs := by
 rcases h with ⟨h1, h2, h3, h4⟩ | h
 ·right
  subst h4
  exact ⟨.inr ⟨rfl, p.2.2.2, by rw [piV, h2, h3]⟩, by omega, .inl ⟨h1, h2, h3, by simp⟩⟩
 ·left
  refine ⟨by rw [piV, hl], by obtain ⟨g, h, _⟩ := h; rw [h]; simp, by omega, .inr h⟩
theorem GrI.keep {B : Nat} {W W' : World} {p : PcI} {v : Value} {xs : List It} (h : GrI B W p v xs) (hb : Below W.heap.size W W') : GrI B W' p v xs :=
 h.imp (fun ⟨h1, h2, h3, h4⟩ => ⟨h1, h2, h3, h4.keep hb⟩) fun ⟨h1, h2, h3⟩ => ⟨h1.imp (fun h => ⟨ow_keep h.1 hb, h.2⟩) id, h2, h3.keep hb⟩
theorem GrI.cont {B : Nat} {W : World} {p : PcI} {v : Value} {xs : List It} (h : GrI B W p v xs) : ContI W p (xs.take p.2.1) := by
 rcases h with ⟨_, _, _, h⟩ | ⟨_, _, h⟩
 ·exact h.take _
 ·exact h
theorem GrI.form {B : Nat} {W : World} {p : PcI} {v : Value} {xs : List It} (h : GrI B W p v xs) : ∃ a cap, v = .slice a xs.length cap ∧ RdI W a xs := by
 rcases h with ⟨h1, _, _, h⟩ | ⟨⟨h, _⟩ | ⟨rfl, a, h⟩, _, _⟩
 ·exact ⟨_, _, h1, h.rd⟩
 ·obtain ⟨a, c, hv⟩ := ow_forms h
  subst hv
  exact ⟨a, c, rfl, ow_rd h⟩
 ·exact ⟨a, 0, h, .inl rfl⟩
def rowB (v : Value) : Option Nat := match v with
 | .slice _ _ 0 => none
 | v => v.ownBlock
theorem rowB_room {a : Option Addr} {n c : Nat} (h : 0 < c) : rowB (.slice a n c) = (Value.slice a n c).ownBlock := by
 cases c with
 | zero => omega
 | succ c => rfl
theorem own_rowB {W : World} {B : Nat} {v : Value} {xs : List It} (h : OwI W B v xs) (h0 : xs ≠ []) : rowB v = v.ownBlock := by
 have hl : 0 < xs.length := List.length_pos_iff.2 h0
 rcases h.2 with ⟨_, e⟩ | ⟨g, cap, cur, e1, _, _, q3, _⟩
 ·omega
 ·rw [e1]; exact rowB_room (by omega)
theorem GrI.blk {B : Nat} {W : World} {p : PcI} {v : Value} {xs : List It} (h : GrI B W p v xs) (k : Nat) (hk : rowB v = some k) : p.1 = some k ∨ (B ≤ k ∧ k < W.heap.size) := by
 have hk' : v.ownBlock = some k := by
  unfold rowB at hk
  split at hk
  ·cases hk
  ·exact hk
 rcases h with ⟨h1, h2, _, h⟩ | ⟨⟨h, _⟩ | ⟨_, a, h⟩, _, _⟩
 ·left
  rcases h with ⟨h3, _⟩ | ⟨g, h3, ha, _⟩
  ·exact absurd h3 h2
  ·rw [h1, ha] at hk'
   rw [h3]; simpa [Value.ownBlock] using hk'
 ·exact .inr (ow_lt h k hk')
 ·rw [h] at hk; cases hk
theorem run_appGI {B : Nat} {W : World} {p : PcI} {v : Value} {xs ys : List It} (src : Option Addr) (m c : Nat) (ty : TypeId) (h : GrI B W p v xs) (hr : RdI W src ys) (hm : m = ys.length) (hle : xs.length + ys.length ≤ 1000000) (hB : B ≤ W.heap.size) (hpB : ∀ g, p.1 = some g → g < B) :
  ∃ v' W', (Builtin.append_ #[22, 22] ty #[v, .slice src m c]).run Tryz.prog W = .ok v' W' ∧ GrI B W' p v' (xs ++ ys) ∧ W.grownBy W' (rowB v) := by
 obtain ⟨i0, hi, hz0, hz1, hz2⟩ := info_parts itemInfo
 subst hm
 by_cases hys : ys = []
 ·subst hys
  refine ⟨v, W, ?_, by rw [List.append_nil]; exact h, World.grownBy.refl W _⟩
  obtain ⟨a, cap, hv, hcap⟩ : ∃ a cap, v = .slice a xs.length cap ∧ (a = none → xs.length = 0 ∧ cap = 0) ∧ xs.length ≤ cap := by
   rcases h with ⟨h1, h2, _, h⟩ | ⟨⟨h, _⟩ | ⟨rfl, a, h⟩, _, _⟩
   ·rcases h with ⟨h3, _⟩ | ⟨g, h3, ha, h4, h5⟩
    ·exact absurd h3 h2
    ·obtain ⟨cur, _, _, q3, _⟩ := own_parts h5
     exact ⟨_, _, h1, by rw [ha]; simp, q3⟩
   ·rcases h.2 with ⟨e1, e2⟩ | ⟨g, cap, cur, e1, _, _, q3, _⟩
    ·exact ⟨none, 0, by rw [e1, e2], fun _ => ⟨e2, rfl⟩, by omega⟩
    ·exact ⟨_, _, e1, by simp, q3⟩
   ·exact ⟨a, 0, h, fun _ => ⟨rfl, rfl⟩, Nat.le_refl _⟩
  obtain ⟨hc1, hc2⟩ := hcap
  rw [hv]
  cases a with
  | none =>
   obtain ⟨e1, e2⟩ := hc1 rfl
   rw [e1, e2]
   cases src <;> simp [Builtin.append_, run_underlying Tryz.underlying22, sizeOf, typeInfo, hi, Builtin.lenOf, Builtin.firstCells, loadCells, loadCellsFrom]
  | some a => cases src <;> simp [Builtin.append_, run_underlying Tryz.underlying22, sizeOf, typeInfo, hi, Builtin.lenOf, Builtin.firstCells, hc2, storeCells, loadCells, loadCellsFrom]
 have hne : icells ys ≠ [] := by
  intro e
  have h1 := icells_length ys
  rw [e] at h1
  exact hys (List.length_eq_zero_iff.1 (by simp at h1; omega))
 obtain ⟨b, off, rfl, hlt, hcc⟩ := Rd.addrAt hr hne
 have hy0 : 0 < ys.length := List.length_pos_iff.2 hys
 rcases h with ⟨hv, hp, hpl, hc⟩ | ⟨⟨hown, hx0⟩ | ⟨rfl, a, hv⟩, hpl, hc⟩
 ·rcases hc with ⟨h1, _⟩ | ⟨g, h1, ha, h2, h3⟩
  ·exact absurd h1 hp
  ·have hva : v = .slice (some ⟨g, 0, none⟩) xs.length p.2.2.1 := by rw [hv, ha]
   have hgB := hpB g h1
   obtain ⟨cur, q1, q2, q3, q4, q5, q6⟩ := own_parts h3
   by_cases hroom : xs.length + ys.length ≤ p.2.2.1
   ·have hrun := run_append_room (P := Tryz.prog) W 22 ty 31 i0 Tryz.underlying22 hi g xs.length p.2.2.1 cur q2 ⟨b, off, none⟩ ys.length c (icells ys) (by rw [icells_length, hz1]) (Rd.news hr) (one_items ys) hroom (by rw [hz1, icells_length, q5]; omega)
    rw [hz1] at hrun
    have hcl : cur.toList.length = cur.size := Array.length_toList
    have hl0 : (cur.toList.take (xs.length * 4)).length = xs.length * 4 := by rw [List.length_take]; omega
    refine ⟨_, _, by rw [hva]; exact hrun, .inl ⟨by rw [ha, List.length_append], hp, by rw [List.length_append]; omega, .inr ⟨g, h1, ha, h2, icells_length _, .inr ⟨g, p.2.2.1, _, rfl, Nat.zero_le _, setRow_heap W g _ _ _ _ q2, by rw [List.length_append]; exact hroom, q4, ?_, ?_⟩⟩⟩, ?_⟩
    ·simp only [List.size_toArray, List.length_append, hl0, icells_length, List.length_drop, hcl]; omega
    ·show List.take ((xs ++ ys).length * 4) (cur.toList.take (xs.length * 4) ++ icells ys ++ cur.toList.drop (xs.length * 4 + (icells ys).length)) = _
     rw [List.take_left' (by rw [List.length_append, hl0, icells_length, List.length_append]; omega), icells_append, q6]
    ·rw [hva, rowB_room (by omega)]
     exact ⟨rfl, rfl, rfl, by simp, fun k hk hne => setRow_other W g k _ fun e => hne (by rw [e]; rfl)⟩
   ·obtain ⟨v', w', hrun, r2, r3⟩ := run_append_arg_grows (P := Tryz.prog) W 22 ty 31 i0 _ 4 40 Tryz.underlying22 hi hz0 hz1 hz2 rfl (by decide) ⟨g, 0, none⟩ xs.length p.2.2.1 (icells xs) (by rw [icells_length]) (World.ownsRow.cells h3 (g := g) rfl) ⟨b, off, none⟩ ys.length c (icells ys) (by rw [icells_length]) (Rd.news hr) (by omega) (by unfold maxLen; omega) (by omega)
    have hk : ContI W p (xs.take p.2.1) := (show ContI W p xs from .inr ⟨g, h1, ha, h2, h3⟩).take _
    refine ⟨v', w', by rw [hva]; exact hrun, .inr ⟨.inl ⟨?_, by simp [hys]⟩, by rw [List.length_append]; omega, ?_⟩, grown_none r3⟩
    ·unfold OwI; rw [icells_append, List.length_append]; exact ow_mono r2 hB
    ·rw [List.take_append_of_le_length hpl]
     exact hk.keep (grown_below r3)
 ·obtain ⟨v', W', q1, q2, q3, q4⟩ := run_appR (w := W) i0 _ 40 22 ty c Tryz.underlying22 hi hz0 hz1 hz2 rfl (by decide) (one_items ys) hown hr (by rw [icells_length]) (by omega) (by omega) hB
  rw [← own_rowB hown hx0] at q3
  refine ⟨v', W', q1, .inr ⟨.inl ⟨?_, by simp [hys]⟩, by rw [List.length_append]; omega, ?_⟩, q3⟩
  ·unfold OwI; rw [icells_append, List.length_append]; exact q2
  rw [List.take_append_of_le_length hpl]
  rw [own_rowB hown hx0] at q3
  refine hc.other q3 fun g hg e => ?_
  have := (ow_lt hown g e).1
  have := hpB g hg
  omega
 ·subst hv
  have hn0 : p.2.1 = 0 := by simpa using hpl
  cases a with
  | none =>
   have hown : W.ownsRow B 31 4 (.slice none 0 0) 0 (icells []) := ow_nil _ _ _ _
   obtain ⟨v', W', q1, q2, q3, q4⟩ := run_appR (w := W) i0 _ 40 22 ty c Tryz.underlying22 hi hz0 hz1 hz2 rfl (by decide) (one_items ys) hown hr (by rw [icells_length]) (by omega) (by omega) hB
   refine ⟨v', W', q1, .inr ⟨.inl ⟨?_, by simp [hys]⟩, by omega, ?_⟩, q3⟩
   ·unfold OwI; rw [List.nil_append]; rw [Nat.zero_add] at q2; exact q2
   ·rw [hn0]
    rw [hn0] at hc
    exact hc.keep (grown_below q3)
  | some a =>
   obtain ⟨v', w', hrun, r2, r3⟩ := run_append_arg_grows (P := Tryz.prog) W 22 ty 31 i0 _ 4 40 Tryz.underlying22 hi hz0 hz1 hz2 rfl (by decide) a 0 0 [] rfl (by simp) ⟨b, off, none⟩ ys.length c (icells ys) (by rw [icells_length]) (Rd.news hr) (by omega) (by unfold maxLen; omega) (by omega)
   refine ⟨v', w', hrun, .inr ⟨.inl ⟨?_, by simp [hys]⟩, by omega, ?_⟩, grown_none r3⟩
   ·unfold OwI; rw [Nat.zero_add] at r2; exact ow_mono r2 hB
   ·rw [hn0]
    rw [hn0] at hc
    exact hc.keep (grown_below r3)
end Go.Proofs.YtmhnndgnnpondaaGreatDoor
namespace Go.Proofs.YtmhnndgnnpondaaGreatDoor.RV
open Go.RowKit
section
variable {P : Program} {l : List Oper} {Q : Exit → Act → World → Prop}
def reachB (l : List Oper) : Nat → Nat → Nat → Bool
 | 0, _, _ => false
 | n + 1, j, i => match l[j]? with
  | some o => o.after.toList.any fun e => Region.binds .any e && (e.on == i || reachB l n e.on i)
  | none => false
def keepI (l : List Oper) (i s : Nat) : Bool := (List.range l.length).all fun j => match l[j]? with
 | some o => o.dst != some s || reachB l l.length j i
 | none => true
theorem reach_done {D : Array Bool} (hdn : ∀ k o i, l[k]? = some o → D.getD k false = true → waitsB o i = true → D.getD i false = true) : ∀ n j i, reachB l n j i = true → D.getD j false = true → D.getD i false = true
 | 0, _, _, h, _ => by cases h
 | n + 1, j, i, h, hj => by
  unfold reachB at h
  cases ho : l[j]? with
  | none => rw [ho] at h; cases h
  | some o =>
   rw [ho] at h
   obtain ⟨e, he, hb⟩ := List.any_eq_true.1 h
   simp only [Bool.and_eq_true, Bool.or_eq_true, beq_iff_eq] at hb
   have hw : waitsB o e.on = true := by
    unfold waitsB
    rw [List.any_eq_true]
    exact ⟨e, he, by simp [hb.1]⟩
   have h2 := hdn j o e.on ho hj hw
   rcases hb.2 with h3 | h3
   ·rw [← h3]; exact h2
   ·exact reach_done hdn n e.on i h3 h2
def stepU (P : Program) (l : List Oper) (R : World → World → Prop) (w0 : World) (u0 : Nat → Value) (Fs : List ((Nat → Value) → World → Prop)) (i : Nat) (o : Oper) : Prop :=
 ∀ u w, R w0 w → (∀ s, keepI l i s = true → u s = u0 s) → (∀ k, waitsB o k = true → factsU Fs k u w) →
  if Region.wanted o (yldU l u) then uponU (fun v w' => R w w' ∧ factsU Fs i (updU u o.dst v) w') P ((execOp (evU u) o).run P w) else factsU Fs i (updU u o.dst undef) w
def stepsU (P : Program) (l : List Oper) (R : World → World → Prop) (w0 : World) (u0 : Nat → Value) (Fs : List ((Nat → Value) → World → Prop)) : Nat → List Oper → Prop
 | _, [] => True
 | i, o :: rest => stepU P l R w0 u0 Fs i o ∧ stepsU P l R w0 u0 Fs (i + 1) rest
theorem stepsU_at {R : World → World → Prop} {w0 : World} {u0 : Nat → Value} {Fs : List ((Nat → Value) → World → Prop)} : ∀ (m : List Oper) (n : Nat), stepsU P l R w0 u0 Fs n m → ∀ i o, m[i]? = some o → stepU P l R w0 u0 Fs (n + i) o
 | [], _, _, i, o, h => by simp at h
 | x :: m, n, hs, 0, o, h => by simp at h; subst h; exact hs.1
 | x :: m, n, hs, i + 1, o, h => by
  have := stepsU_at m (n + 1) hs.2 i o (by simpa using h)
  rwa [show n + 1 + i = n + (i + 1) from by omega] at this
structure AtU (l : List Oper) (R : World → World → Prop) (w0 : World) (a0 : Act) (Fs : List ((Nat → Value) → World → Prop)) (D : Array Bool) (a : Act) (w : World) : Prop where
 sz : a.tmps.size = a0.tmps.size
 df : a.defers = a0.defers
 kp : ∀ s, (∀ o ∈ l, o.dst ≠ some s) → a.tmps.getD s undef = a0.tmps.getD s undef
 un : ∀ s, (∀ j o, l[j]? = some o → o.dst = some s → D.getD j false = false) → a.tmps.getD s undef = a0.tmps.getD s undef
 ww : R w0 w
 dn : ∀ k o i, l[k]? = some o → D.getD k false = true → waitsB o i = true → D.getD i false = true
 fa : ∀ k, D.getD k false = true → factsU Fs k (fun s => a.tmps.getD s undef) w
theorem wpAny_facts {R : World → World → Prop} {w0 : World} {a0 : Act} {Fs : List ((Nat → Value) → World → Prop)} {sl : List (List Nat)}
  (hE : edgesB l a0.tmps.size = true) (hO : ownB l sl = true) (hrf : ∀ w1, R w0 w1 → R w1 w1) (htr : ∀ w1 w2 w3, R w1 w2 → R w2 w3 → R w1 w3)
  (hloc : ∀ k u u' w w', k < l.length → (∀ s ∈ (sl[k]?).getD [], u' s = u s) → R w w' → factsU Fs k u w → factsU Fs k u' w')
  (hs : stepsU P l R w0 (fun s => a0.tmps.getD s undef) Fs 0 l)
  (hQ : ∀ u w, R w0 w → (∀ k, k < l.length → factsU Fs k u w) → Q .normal (finU l u a0) w) :
  ∀ (fuel : Nat) (D : Array Bool) (a : Act) (w : World), D.size = l.length → (D.toList.filter (!·)).length ≤ fuel → AtU l R w0 a0 Fs D a w → wpAny P .any l.toArray Q fuel D a w := by
 have hrefl : ∀ w1 w2, R w1 w2 → ∀ k u u', k < l.length → (∀ s ∈ (sl[k]?).getD [], u' s = u s) → factsU Fs k u w1 → factsU Fs k u' w2 := fun w1 w2 h k u u' hk hu hf => hloc k u u' w1 w2 hk hu h hf
 have hsp : ∀ i o, l[i]? = some o → stepU P l R w0 (fun s => a0.tmps.getD s undef) Fs i o := fun i o ho => by
  have := stepsU_at l 0 hs i o ho
  rwa [Nat.zero_add] at this
 have hEi : ∀ i o, l[i]? = some o → (∀ e ∈ o.after, Region.binds .any e = true → e.on < i) ∧ (∀ d, o.dst = some d → d < a0.tmps.size) := by
  intro i o ho
  have hi : i < l.length := (List.getElem?_eq_some_iff.1 ho).1
  have h1 := List.all_eq_true.1 hE i (by simpa using hi)
  simp only [ho, Bool.and_eq_true] at h1
  refine ⟨fun e he hb => ?_, fun d hd => ?_⟩
  ·have := (List.all_eq_true.1 h1.1) e (Array.mem_toList_iff.2 he)
   simpa [hb] using this
  ·have := h1.2
   rw [hd] at this
   simpa using this
 have hfin : ∀ D a w, D.size = l.length → Region.ready .any l.toArray D = [] → AtU l R w0 a0 Fs D a w → Q .normal a w := by
  intro D a w hD hr ha
  have hall : ∀ k, k < l.length → D.getD k false = true := by
   intro k
   induction k using Nat.strongRecOn with
   | ind k ih =>
    intro hk
    rcases Bool.eq_false_or_eq_true (D.getD k false) with h | h
    ·exact h
    ·exfalso
     obtain ⟨o, ho⟩ : ∃ o, l[k]? = some o := ⟨l[k], List.getElem?_eq_getElem hk⟩
     have hm : k ∈ Region.ready .any l.toArray D := by
      simp only [Region.ready, List.mem_filter, List.mem_range, List.size_toArray]
      refine ⟨hk, ?_⟩
      have h2 : D.getD k true = false := by
       simp only [Array.getD_eq_getD_getElem?] at h ⊢
       rw [Array.getElem?_eq_getElem (by omega)] at h ⊢
       exact h
      simp only [h2, List.getElem?_toArray, ho, Option.map_some, Option.getD_some, Bool.not_false, Bool.true_and]
      rw [Array.all_eq_true']
      intro e he
      by_cases hb : Region.binds .any e = true
      ·have := (hEi k o ho).1 e he hb
       simp [hb]
       have h3 := ih e.on this (by omega)
       simpa [Array.getD_eq_getD_getElem?] using h3
      ·simp [hb]
     rw [hr] at hm
     cases hm
  have hf : a = finU l (fun s => a.tmps.getD s undef) a0 := fin_spec (fun _ => rfl) ha.sz ha.df ha.kp
  rw [hf]
  exact hQ _ _ ha.ww fun k hk => ha.fa k (hall k hk)
 intro fuel
 induction fuel with
 | zero =>
  intro D a w hD hn ha
  have hr : Region.ready .any l.toArray D = [] := by
   simp only [Region.ready, List.filter_eq_nil_iff]
   intro i hi
   simp only [List.mem_range, List.size_toArray] at hi
   have h0 : D.toList.filter (!·) = [] := List.length_eq_zero_iff.1 (by omega)
   rw [List.filter_eq_nil_iff] at h0
   have h1 := h0 (D[i]'(by omega)) (by simp)
   simp only [Bool.not_eq_true', Bool.not_eq_false] at h1
   simp [Array.getD_eq_getD_getElem?, show i < D.size from by omega, h1]
  exact ⟨hr, hfin D a w hD hr ha⟩
 | succ fuel ih =>
  intro D a w hD hn ha
  refine ⟨fun hr => hfin D a w hD hr ha, fun i hi => ?_⟩
  simp only [Region.ready, List.mem_filter, List.mem_range, List.size_toArray, Bool.and_eq_true] at hi
  obtain ⟨hlt, hun, haf⟩ := hi
  obtain ⟨o, ho⟩ : ∃ o, l[i]? = some o := ⟨l[i], List.getElem?_eq_getElem hlt⟩
  simp only [List.getElem?_toArray, ho, Option.map_some, Option.getD_some, Array.all_eq_true'] at haf
  have hDi : D[i]'(by omega) = false := by
   simpa [Array.getD_eq_getD_getElem?, show i < D.size from by omega] using hun
  have hcnt : ((D.setIfInBounds i true).toList.filter (!·)).length ≤ fuel := by
   have h1 : D.toList = D.toList.take i ++ false :: D.toList.drop (i + 1) := by
    have h3 : i < D.toList.length := by simp; omega
    have h2 := List.drop_eq_getElem_cons h3
    rw [Array.getElem_toList, hDi] at h2
    rw [← h2, List.take_append_drop]
   have h2 : (D.setIfInBounds i true).toList = D.toList.take i ++ true :: D.toList.drop (i + 1) := by
    rw [Array.toList_setIfInBounds, List.set_eq_take_append_cons_drop, if_pos (by simp; omega)]
   rw [h1] at hn
   rw [h2]
   simp only [List.filter_append, List.length_append, List.filter_cons, Bool.not_false, if_true, List.length_cons, Bool.not_true, Bool.false_eq_true, if_false] at hn ⊢
   omega
  have hdeps : ∀ k, waitsB o k = true → factsU Fs k (fun s => a.tmps.getD s undef) w := by
   intro k hk
   unfold waitsB at hk
   rw [List.any_eq_true] at hk
   obtain ⟨e, he, hb⟩ := hk
   have he := Array.mem_toList_iff.1 he
   simp only [Bool.and_eq_true, beq_iff_eq] at hb
   obtain ⟨hb1, hb2⟩ := hb
   have := haf e he
   rw [hb1, hb2] at this
   exact ha.fa k (by simpa using this)
  have hst := hsp i o ho (fun s => a.tmps.getD s undef) w ha.ww (fun s hs => ha.un s fun j oj hj hd => by
   cases hDj : D.getD j false with
   | false => rfl
   | true =>
    exfalso
    have hjl : j < l.length := (List.getElem?_eq_some_iff.1 hj).1
    have h1 := List.all_eq_true.1 hs j (by simpa using hjl)
    rw [hj] at h1
    simp only [Bool.or_eq_true] at h1
    rcases h1 with h1 | h1
    ·simp [hd] at h1
    ·have h2 := reach_done ha.dn _ _ _ h1 hDj
     simp [Array.getD_eq_getD_getElem?, show i < D.size from by omega, hDi] at h2) hdeps
  have hdl : ∀ x, o.dst = some x → x < a.tmps.size := fun x hx => by rw [ha.sz]; exact (hEi i o ho).2 x hx
  have hnext : ∀ v w', R w w' ∧ factsU Fs i (updU (fun s => a.tmps.getD s undef) o.dst v) w' → AtU l R w0 a0 Fs (D.setIfInBounds i true) (a.put o.dst v) w' := by
   intro v w' ⟨hR, hF⟩
   have hg := put_getD (a := a) (u := fun s => a.tmps.getD s undef) (fun _ => rfl) o.dst v hdl
   have hgf : (fun s => (a.put o.dst v).tmps.getD s undef) = updU (fun s => a.tmps.getD s undef) o.dst v := funext hg
   refine ⟨?_, ?_, ?_, ?_, htr _ _ _ ha.ww hR, ?_, ?_⟩
   ·rw [← ha.sz]; cases o.dst <;> simp [Act.put]
   ·rw [← ha.df]; cases o.dst <;> simp [Act.put]
   ·intro s hs'
    rw [hg s, ← ha.kp s hs']
    have := hs' o (List.mem_of_getElem? ho)
    simp [updU, this]
   ·intro s hs'
    have hso : o.dst ≠ some s := fun hd => by
     have := hs' i o ho hd
     simp [Array.getD_eq_getD_getElem?, show i < D.size from by omega] at this
    rw [hg s, ← ha.un s fun j oj hj hd => by
     have h2 := hs' j oj hj hd
     by_cases e' : i = j
     ·subst e'; rw [ho] at hj; injection hj with hj; subst hj; exact absurd hd hso
     ·simpa [Array.getD_eq_getD_getElem?, Array.getElem?_setIfInBounds, e'] using h2]
    simp [updU, hso]
   ·intro k ok j hok hk hw
    by_cases e : i = k
    ·subst e
     rw [ho] at hok
     injection hok with hok
     subst hok
     unfold waitsB at hw
     rw [List.any_eq_true] at hw
     obtain ⟨e, he, hb⟩ := hw
     have he := Array.mem_toList_iff.1 he
     simp only [Bool.and_eq_true, beq_iff_eq] at hb
     obtain ⟨hb1, hb2⟩ := hb
     have h1 := haf e he
     rw [hb1, hb2] at h1
     have h2 : D.getD j false = true := by simpa using h1
     by_cases e' : i = j
     ·subst e'; simp [Array.getD_eq_getD_getElem?, show i < D.size from by omega]
     ·simpa [Array.getD_eq_getD_getElem?, Array.getElem?_setIfInBounds, e'] using h2
    ·have hkD : D.getD k false = true := by
      simpa [Array.getD_eq_getD_getElem?, Array.getElem?_setIfInBounds, e] using hk
     have h2 := ha.dn k ok j hok hkD hw
     by_cases e' : i = j
     ·subst e'; simp [Array.getD_eq_getD_getElem?, show i < D.size from by omega]
     ·simpa [Array.getD_eq_getD_getElem?, Array.getElem?_setIfInBounds, e'] using h2
   ·intro k hk
    rw [hgf]
    by_cases e : i = k
    ·subst e; exact hF
    ·have hkD : D.getD k false = true := by
      simpa [Array.getD_eq_getD_getElem?, Array.getElem?_setIfInBounds, e] using hk
     have hkl : k < l.length := by
      rcases Nat.lt_or_ge k l.length with h | h
      ·exact h
      ·rw [Array.getD_eq_getD_getElem?, Array.getElem?_eq_none (by omega)] at hkD; cases hkD
     refine hloc k _ _ w w' hkl (fun s hs' => ?_) hR (ha.fa k hkD)
     unfold updU
     split
     ·rename_i hds
      exfalso
      have h1 := List.all_eq_true.1 hO k (by simpa using hkl)
      have h2 := List.all_eq_true.1 h1 i (by simpa using hlt)
      obtain ⟨ok, hok⟩ : ∃ ok, l[k]? = some ok := ⟨l[k], List.getElem?_eq_getElem hkl⟩
      simp only [ho, hok, hds, Bool.or_eq_true, beq_iff_eq, Bool.not_eq_true'] at h2
      rcases h2 with h2 | h2 | h2
      ·exact e h2
      ·rw [List.contains_eq_mem] at h2; simp [hs'] at h2
      ·-- k waits for i, k has come up, i has not: what a fact needs has come up
       have h3 := ha.dn k ok i hok hkD h2
       simp [Array.getD_eq_getD_getElem?, show i < D.size from by omega, hDi] at h3
     ·rfl
  unfold wpOp
  simp only [List.getElem?_toArray, ho]
  rw [yldU_of (u := fun s => a.tmps.getD s undef) (fun _ => rfl)]
  split
  ·rename_i hw
   rw [if_pos hw] at hst
   refine .inl ?_
   unfold Oper.wp
   rw [evU_of (u := fun s => a.tmps.getD s undef) (fun _ => rfl)]
   generalize (execOp (evU fun s => a.tmps.getD s undef) o).run P w = r at *
   cases r with
   | ok n w' =>
    cases n <;> simp only [uponU] at hst <;> simp only [Oper.upon]
    case value v => exact ih _ _ _ (by simpa using hD) hcnt (hnext _ _ hst)
    case skip => exact ih _ _ _ (by simpa using hD) hcnt (hnext _ _ hst)
    case enter f args =>
     refine hst.mono ?_
     rintro e w'' ⟨v, rfl, h⟩
     exact ih _ _ _ (by simpa using hD) hcnt (hnext _ _ h)
   | halt x w' => simp only [uponU] at hst
  ·rename_i hw
   rw [if_neg hw] at hst
   exact ih _ _ _ (by simpa using hD) hcnt (hnext _ _ ⟨hrf _ ha.ww, hst⟩)
theorem norep (n k : Nat) : ¬ (Array.replicate n false).getD k false = true := by
 rw [Array.getD_eq_getD_getElem?, Array.getElem?_replicate]
 split <;> simp
theorem wp_region_facts {R : World → World → Prop} (Fs : List (FactU R)) {id : Nat} {a0 : Act} {w : World} (hm : P.follows .mixedOrders = true)
  (hE : edgesB l a0.tmps.size = true) (hO : ownB l (Fs.map FactU.sl) = true) (h0 : R w.drew w.drew) (hrf : ∀ w1, R w.drew w1 → R w1 w1) (htr : ∀ w1 w2 w3, R w1 w2 → R w2 w3 → R w1 w3)
  (hs : stepsU P l R w.drew (fun s => a0.tmps.getD s undef) (Fs.map FactU.F) 0 l)
  (hQ : ∀ u w', R w.drew w' → (∀ k, k < l.length → factsU (Fs.map FactU.F) k u w') → Q .normal (finU l u a0) w') :
  (Code.region id l.toArray true).wp P Q a0 w := by
 refine wp_region_any hm ?_
 have := wpAny_facts (P := P) (Q := Q) (R := R) (w0 := w.drew) (a0 := a0) (Fs := Fs.map FactU.F) (sl := Fs.map FactU.sl) hE hO hrf htr (fun k u u' w1 w2 hk hu hR hF => by
  unfold factsU at *
  rw [List.getElem?_map] at *
  cases h : Fs[k]? with
  | none => trivial
  | some f =>
   rw [h] at hF hu
   exact f.loc u u' w1 w2 hu hR hF) hs hQ l.length (Array.replicate l.length false) a0 w.drew (by simp) (by simp) ⟨rfl, rfl, fun _ _ => rfl, fun _ _ => rfl, h0, fun k _ _ _ hk => absurd hk (norep _ k), fun k hk => absurd hk (norep _ k)⟩
 simpa using this
section
variable {R : World → World → Prop} {w0 : World} {u0 : Nat → Value} {Fs : List ((Nat → Value) → World → Prop)} {i : Nat} {o : Oper}
theorem stepsU_cons {rest : List Oper} {j : Nat} (hj : i + 1 = j) (h : stepU P l R w0 u0 Fs i o) (h' : stepsU P l R w0 u0 Fs j rest) : stepsU P l R w0 u0 Fs i (o :: rest) := by
 subst hj; exact ⟨h, h'⟩
theorem stepsU_nil : stepsU P l R w0 u0 Fs i [] := trivial
theorem stepU_plain (hg : o.guard = none) (h : ∀ u w, R w0 w → (∀ s, keepI l i s = true → u s = u0 s) → (∀ k, waitsB o k = true → factsU Fs k u w) →
  uponU (fun v w' => R w w' ∧ factsU Fs i (updU u o.dst v) w') P ((execOp (evU u) o).run P w)) : stepU P l R w0 u0 Fs i o := by
 intro u w h1 h2 h3
 rw [if_pos (by simp [Region.wanted, hg])]
 exact h u w h1 h2 h3
theorem stepU_yes (j d : Nat) (b : Bool) (hg : o.guard = some (j, b)) (hd : (l[j]?).bind (·.dst) = some d)
  (hy : ∀ u w, (∀ s, keepI l i s = true → u s = u0 s) → (∀ k, waitsB o k = true → factsU Fs k u w) → u d = .bool b)
  (h : ∀ u w, R w0 w → (∀ s, keepI l i s = true → u s = u0 s) → (∀ k, waitsB o k = true → factsU Fs k u w) →
   uponU (fun v w' => R w w' ∧ factsU Fs i (updU u o.dst v) w') P ((execOp (evU u) o).run P w)) : stepU P l R w0 u0 Fs i o := by
 intro u w h1 h2 h3
 rw [if_pos (by simp [Region.wanted, hg, yldU, hd, hy u w h2 h3])]
 exact h u w h1 h2 h3
theorem stepU_no (j d : Nat) (b c : Bool) (hg : o.guard = some (j, b)) (hd : (l[j]?).bind (·.dst) = some d) (hbc : (c == b) = false)
  (hy : ∀ u w, (∀ s, keepI l i s = true → u s = u0 s) → (∀ k, waitsB o k = true → factsU Fs k u w) → u d = .bool c)
  (h : ∀ u w, factsU Fs i (updU u o.dst undef) w) : stepU P l R w0 u0 Fs i o := by
 intro u w h1 h2 h3
 rw [if_neg (by simp only [Region.wanted, hg, yldU, hd, hy u w h2 h3]; simpa using hbc)]
 exact h u w
end
end
end Go.Proofs.YtmhnndgnnpondaaGreatDoor.RV
