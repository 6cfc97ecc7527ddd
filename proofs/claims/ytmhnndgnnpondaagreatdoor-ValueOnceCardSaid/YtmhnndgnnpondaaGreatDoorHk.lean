/- parchmentkit on items: LentItems, KeptItems. -/
import Derived.Test.YtmhnndgnnpondaaGreatDoorC05
import Derived.Test.YtmhnndgnnpondaaGreatDoorRgi
namespace Go.Proofs.YtmhnndgnnpondaaGreatDoor
set_option maxRecDepth 100000
set_option maxHeartbeats 4000000
open Go.RowKit
def markZ (k i : Int) : Int := wrap64 (wrap64 (1000003 * wrap64 (k + 7)) + i)
def mkI (k i : Int) : It := ⟨0, 0, ⟨#[]⟩, markZ k i⟩
def OwI (w : World) (B : Nat) (v : Value) (l : List It) : Prop := w.ownsRow B 31 4 v l.length (icells l)
theorem icells_append (a b : List It) : icells (a ++ b) = icells a ++ icells b := by simp [icells]
theorem OwI.rd {w : World} {B n cap : Nat} {a : Option Addr} {l : List It} (h : OwI w B (.slice a n cap) l) : RdI w a l := by
 have hn : n = l.length := by
  rcases h.2 with ⟨e1, e2⟩ | ⟨g, cap', cur, e, _⟩
  ·injection e1 with e0 e3 e4; rw [e3, e2]
  ·injection e
 subst hn
 exact ow_rd h
theorem one_items (l : List It) : ∀ u ∈ icells l, u.oneCell' = true := by
 intro u hu
 simp only [icells, List.mem_flatMap] at hu
 obtain ⟨x, _, hx⟩ := hu
 simp only [itC, List.mem_cons, List.not_mem_nil, or_false] at hx
 rcases hx with rfl | rfl | rfl | rfl <;> rfl
def imarks (n : Nat) : List It := (List.range n).map fun (i : Nat) => mkI 1 (i : Int)
def lentI (l : List It) : List It := l ++ imarks 12
theorem imarks_snoc (n : Nat) : imarks (n + 1) = imarks n ++ [mkI 1 (n : Int)] := by simp [imarks, List.range_succ]
theorem length_imarks (n : Nat) : (imarks n).length = n := by simp [imarks]
theorem wpList_appI_fits {w : World} {ops : Array Oper} {rest : List Oper} {o : Oper} {ac : Act} {Q : Exit → Act → World → Prop} (hgd : o.guard = none) (s x : Operand)
  (ho : o.op = .call { callee := .builtin .append, args := #[s, x], argTypes := #[22, 22] })
  (B g n cap : Nat) (xs : List It) (a : Option Addr) (m c : Nat) (ys : List It) (hs : ac.eval s = .slice (some ⟨g, 0, none⟩) n cap) (hx : ac.eval x = .slice a m c)
  (hn : n = xs.length) (hown : OwI w B (.slice (some ⟨g, 0, none⟩) n cap) xs) (hr : RdI w a ys) (hm : m = ys.length) (hfit : n + m ≤ cap)
  (K : ∀ w', OwI w' B (.slice (some ⟨g, 0, none⟩) (n + m) cap) (xs ++ ys) → w.grownBy w' (some g) → wpList Tryz.prog ops Q rest (ac.put o.dst (.slice (some ⟨g, 0, none⟩) (n + m) cap)) w') :
  wpList Tryz.prog ops Q (o :: rest) ac w := by
 obtain ⟨i0, hi, hz0, hz1, hz2⟩ := info_parts itemInfo
 subst hm hn
 by_cases h0 : ys = []
 ·subst h0
  refine wpList_plain hgd fun K' hK => ?_
  have := hK _ _ (K w (by rw [List.append_nil]; exact hown) (World.grownBy.refl w _))
  have hnc : xs.length ≤ cap := by simp at hfit; exact hfit
  have hrun : (Builtin.append_ #[22, 22] o.type #[.slice (some ⟨g, 0, none⟩) xs.length cap, .slice a ([] : List It).length c]).run Tryz.prog w = .ok (.slice (some ⟨g, 0, none⟩) (xs.length + ([] : List It).length) cap) w := by
   cases a <;> simp [Builtin.append_, run_underlying Tryz.underlying22, sizeOf, typeInfo, hi, Builtin.lenOf, Builtin.firstCells, hnc, storeCells, loadCells, loadCellsFrom]
  unfold Oper.wp execOp
  simp only [ho, resolve, invoke, builtin, Sem.run_bind, Sem.run_pure, Result.andThen_ok, List.map_toArray, List.map_cons, List.map_nil, hs, hx, hrun]
  exact this
 ·have hne : icells ys ≠ [] := by
   intro e
   have h1 := icells_length ys
   rw [e] at h1
   exact h0 (List.length_eq_zero_iff.1 (by simp at h1; omega))
  obtain ⟨b, off, rfl, hlt, hc⟩ := Rd.addrAt hr hne
  refine wpList_append_fits w hgd s x 22 ho B 31 i0 4 Tryz.underlying22 hi hz1 g xs.length cap (icells xs) hs hown ⟨b, off, none⟩ ys.length c (icells ys) hx (by rw [icells_length]) (Rd.news hr) (one_items ys) hfit fun w' h1 h2 => K w' ?_ h2
  unfold OwI
  rw [icells_append, List.length_append]
  exact h1
theorem mark_any (k i : Int) (w : World) : Calls Tryz.prog 79 #[.int .i64 k, .int .i64 i] w fun e w' => e = .returned (.int .i64 (markZ k i)) ∧ w = w' := by
 have hfin : Hid (markZ k i = wrap64 (wrap64 (1000003 * wrap64 (k + 7)) + i)) := by show markZ k i = _; rfl
 go_enter Tryz.func79, Tryz.ntmps79
 go_wp2
 go_ret
 exact ⟨by rw [hfin.out]; rfl, rfl⟩
theorem markItem_any (k i : Int) (w : World) : Calls Tryz.prog 48 #[.int .i64 k, .int .i64 i] w fun e w' => e = .returned (.agg #[.int .u8 0, .int .i64 0, .string ⟨#[]⟩, .int .i64 (markZ k i)]) ∧ Below w.heap.size w w' := by
 go_enter Tryz.func48, Tryz.ntmps48
 go_wp2_with (go_at_call 79; refine (mark_any _ _ _).mono ?_; rintro e w' ⟨rfl, rfl⟩)
 refine bodyPost_ret (results_cell_row (P := Tryz.prog) (fn := Tryz.f48) rfl _ _ w.heap.size 31 #[.int .u8 0, .int .i64 0, .string ⟨#[]⟩, .int .i64 (markZ k i)] (0, 0) _ rfl (Blk.new w 31 #[.int .u8 0, .int .i64 0, .string ⟨#[]⟩, .int .i64 (markZ k i)]) Tryz.underlying31 rfl (by kernel_rfl)) rfl ?_
 exact ⟨rfl, (Below.refl _ _).alloc (Nat.le_refl _) _⟩
theorem lentI_own (a : Option Addr) (l : List It) (n c : Nat) (w : World) (hr : RdI w a l) (hn : n = l.length) (hle : n ≤ 1048576) :
  Calls Tryz.prog 10 #[.slice a n c] w fun e w' => e = .returned (.slice (some ⟨w.heap.size, 0, none⟩) n (n + 12)) ∧ OwI w' w.heap.size (.slice (some ⟨w.heap.size, 0, none⟩) (n + 12) (n + 12)) (lentI l) ∧ Below w.heap.size w w' := by
 obtain ⟨i0, hi, hz0, hz1, hz2⟩ := info_parts itemInfo
 obtain ⟨w1, hmk, hown1, hg1⟩ := run_make_own (P := Tryz.prog) w w.heap.size 22 31 i0 _ 4 Tryz.underlying22 hi hz0 hz1 .i64 .i64 (n + 12) (by rw [hz2]; omega) (by unfold maxLen; omega) (Nat.le_refl _)
 rw [show ((n + 12 : Nat) : Int) = (n : Int) + 12 from by omega] at hmk
 have hown1 : OwI w1 w.heap.size (.slice (some ⟨w.heap.size, 0, none⟩) 0 (n + 12)) [] := hown1
 have hb1 : Below w.heap.size w w1 := (Below.refl _ _).grown hg1 (Nat.le_refl _) (by simp)
 have Hn := hide hn
 clear hn hi hz0 hz1 hz2
 go_enter Tryz.func10, Tryz.ntmps10
 go_wp2_with (at_builtin; refine wpList_appI_fits rfl _ _ rfl w.heap.size w.heap.size 0 (n + 12) [] a n c l rfl rfl rfl hown1 (hr.keep hb1) Hn.out (by omega) ?_)
 intro w2 hown2 hg2
 have hb2 : Below w.heap.size w w2 := hb1.grown hg2 hb1.size (by intro k hk; injection hk with hk; omega)
 clear hown1 hg1 hb1 hg2 hmk
 go_wp2_with fail
 go_loopw [3, 4] (fun v x wr => ∃ k : Nat, k ≤ 12 ∧ x = .int .i64 k ∧ v = .slice (some ⟨w.heap.size, 0, none⟩) (n + k) (n + 12) ∧ OwI wr w.heap.size (.slice (some ⟨w.heap.size, 0, none⟩) (n + k) (n + 12)) (l ++ imarks k) ∧ Below w.heap.size w wr) (fun _ x _ => 12 - (intOf x).toNat)
 case atStart => exact ⟨0, by omega, rfl, by simp, by simpa [imarks] using hown2, hb2⟩
 case round =>
  clear hown2 hb2
  obtain ⟨k, hk, rfl, rfl, hown, hb⟩ := hrel
  by_cases hlt : k < 12
  ·go_wp2_with fail
   refine (markItem_any _ _ _).mono ?_
   rintro e w' ⟨rfl, hbm⟩
   have hownm := ow_keep hown hbm
   have hbm2 := chain0 hb hbm
   clear hown hbm
   go_wp2_with (at_builtin; refine wpList_appI_fits rfl _ _ rfl w.heap.size w.heap.size (n + k) (n + 12) (l ++ imarks k) (some ⟨w'.heap.size, 0, none⟩) 1 1 [mkI 1 k] rfl rfl ?c0 ?c1 ?c2 ?c3 ?c4 ?_)
   case c0 => have := Hn.out; rw [List.length_append, length_imarks]; omega
   case c1 => exact ow_keep hownm ((Below.refl _ _).alloc (Nat.le_refl _) _)
   case c2 => exact RdI.new _ _ [mkI 1 k]
   case c3 => rfl
   case c4 => omega
   intro w3 hown3 hg3
   have hsz := hbm2.size
   have hb3 : Below w.heap.size w w3 := (hbm2.alloc hsz _).grown hg3 (by simp; omega) (by intro k hk; injection hk with hk; omega)
   go_wp2
   go_roundw
   case rel =>
    refine ⟨k + 1, by omega, by go_num, by rw [Nat.add_assoc], ?_, hb3⟩
    rw [imarks_snoc, ← Nat.add_assoc]
    exact hown3
   case measure => simp [intOf]; omega
  ·have hk' : k = 12 := by omega
   subst hk'
   go_wp2
   go_ret
   exact ⟨rfl, hown, hb⟩
theorem lentI_front {l : List It} {k : Nat} (h : k < l.length) : (lentI l)[k]? = l[k]? := by unfold lentI; rw [List.getElem?_append_left h]
theorem lentI_back {l : List It} {k : Nat} (h : l.length ≤ k) (h2 : k < l.length + 12) : (lentI l)[k]? = some (mkI 1 ((k - l.length : Nat) : Int)) := by
 unfold lentI
 rw [List.getElem?_append_right h]
 unfold imarks
 rw [List.getElem?_map, List.getElem?_range (by omega)]
 rfl
theorem lentI_back2 {l : List It} {k m : Nat} (h : l.length ≤ k) (h2 : k < l.length + 12) (hm : m = k - l.length) : ∃ z : Int, (lentI l)[k]? = some ⟨0, 0, ⟨#[]⟩, z⟩ ∧ Hid (∀ W, Calls Tryz.prog 48 #[.int .i64 1, .int .i64 (m : Int)] W fun e w' => e = .returned (.agg #[.int .u8 0, .int .i64 0, .string ⟨#[]⟩, .int .i64 z]) ∧ Below W.heap.size W w') :=
 ⟨markZ 1 (m : Int), by rw [lentI_back h h2, hm]; rfl, fun W => markItem_any 1 (m : Int) W⟩
theorem RdI.left {w : World} {a : Option Addr} {l m : List It} (h : RdI w a (l ++ m)) : RdI w a l := by
 unfold RdI at h ⊢
 rw [icells_append] at h
 rcases h with h | ⟨b, off, ha, hlt, hc⟩
 ·exact .inl (List.append_eq_nil_iff.1 h).1
 ·exact .inr ⟨b, off, ha, hlt, fun i u hu => hc i u (by rw [List.getElem?_append_left (List.getElem?_eq_some_iff.1 hu).1]; exact hu)⟩
section
variable {l : List Oper} {K : Value → World → Prop} {u : Nat → Value} {w : World} {o : Oper}
theorem upon_loadAt (x : Operand) (b off : Nat) (k : Nat) (a d : Int) (t : ByteArray) (h : o.op = .load 31 x) (hx : evU u x = .pointer (some ⟨b, off, none⟩)) (c0 : w.cell? ⟨b, off, none⟩ = some (.int .u8 k)) (c1 : w.cell? ⟨b, off + 1, none⟩ = some (.int .i64 a)) (c2 : w.cell? ⟨b, off + 2, none⟩ = some (.string t)) (c3 : w.cell? ⟨b, off + 3, none⟩ = some (.int .i64 d))
  (hk : K (.agg #[.int .u8 k, .int .i64 a, .string t, .int .i64 d]) w) : uponU K Tryz.prog ((execOp (evU u) o).run Tryz.prog w) := by
 refine upon_val _ ?_ hk
 have hu := Tryz.underlying31
 have hs := Tryz.underlying9
 have hi := Tryz.underlying3
 have hi2 := Tryz.underlying2
 have hi3 := Tryz.underlying29
 unfold execOp
 simp [go_sem, h, hx, c0, c1, c2, c3]
end
theorem keptI_true (b : Option Addr) (l : List It) (g n c : Nat) (w : World) (hx : RdI w (some ⟨g, 0, none⟩) (lentI l)) (hy : RdI w b l) (hn : n = l.length) (hle : n ≤ 1048576) :
  Calls Tryz.prog 16 #[.slice (some ⟨g, 0, none⟩) n (n + 12), .slice b n c] w fun e w' => e = .returned (.bool true) ∧ Below w.heap.size w w' := by
 have Hn := hide hn
 have Hx := hide hx
 have Hy := hide hy
 clear hn hx hy
 go_enter Tryz.func16, Tryz.ntmps16
 go_wp2_with fail
 go_loopw [6] (fun x wr => ∃ k : Nat, k ≤ n + 12 ∧ x = .int .i64 k ∧ Below w.heap.size w wr) (fun x _ => n + 12 - (intOf x).toNat)
 case atStart => exact ⟨0, Nat.zero_le _, rfl, Below.refl _ _⟩
 case round =>
  obtain ⟨k, hk, rfl, hB⟩ := hrel
  by_cases hlt : k < n + 12
  ·by_cases hkn : k < n
   ·obtain ⟨y, hyk⟩ : ∃ y, l[k]? = some y := ⟨_, List.getElem?_eq_getElem (by have := Hn.out; omega)⟩
    obtain ⟨b0, o0, e0, c0, c1, c2, c3⟩ := (Hx.out.keep hB).at k y (by rw [lentI_front (by have := Hn.out; omega)]; exact hyk)
    injection e0 with e0
    injection e0 with e0 e1
    subst e0 e1
    rw [Nat.zero_add] at c0 c1 c2 c3
    obtain ⟨b2, o2, e2, q0, q1, q2, q3⟩ := (Hy.out.keep hB).at k y hyk
    subst e2
    have hix := ix_item g 0 (n + 12) (n + 12) k (by omega)
    rw [Nat.zero_add] at hix
    have hix2 := ix_item b2 o2 n c k hkn
    obtain ⟨yk, ya, yt, yd⟩ := y
    dsimp only at c0 c1 c2 c3 q0 q1 q2 q3
    have h1 : (k : Int) < n := by omega
    have h2 : decide ((n : Int) ≤ k) = false := by simp; omega
    clear hyk
    obtain ⟨W0, rfl⟩ : ∃ W0, W0 = wr := ⟨_, rfl⟩
    go_wp2_with fail
    refine wp_region_facts (R := RB W0.heap.size (⟨#[]⟩) (0)) [eqF _ _ _ 23 (.int .i64 k), eqF _ _ _ 24 (.slice (some ⟨b2, o2, none⟩) n c), eqF _ _ _ 25 (.int .i64 n), eqF _ _ _ 26 (.bool true), eqF _ _ _ 27 (.bool true), eqF _ _ _ 28 (.slice (some ⟨g, 0, none⟩) (n + 12) (n + 12)), eqF _ _ _ 29 (.int .i64 k), eqF _ _ _ 30 (.pointer (some ⟨g, k * 4, none⟩)), eqF _ _ _ 31 (.agg #[.int .u8 yk, .int .i64 ya, .string yt, .int .i64 yd]), eqF _ _ _ 32 (.slice (some ⟨b2, o2, none⟩) n c), eqF _ _ _ 33 (.int .i64 k), eqF _ _ _ 34 (.pointer (some ⟨b2, o2 + k * 4, none⟩)), eqF _ _ _ 35 (.agg #[.int .u8 yk, .int .i64 ya, .string yt, .int .i64 yd]), eqF _ _ _ 36 (.bool true), eqF _ _ _ 37 (.bool false), eqF _ _ _ 38 (.bool false), eqF _ _ _ 39 (.bool false), eqF _ _ _ 40 (.int .i64 k), eqF _ _ _ 41 (.slice (some ⟨b2, o2, none⟩) n c), eqF _ _ _ 42 (.int .i64 n), eqF _ _ _ 43 (.bool false), eqF _ _ _ 44 (.bool false), eqF _ _ _ 45 undef, eqF _ _ _ 46 undef, eqF _ _ _ 47 undef, eqF _ _ _ 48 undef, eqF _ _ _ 49 undef, eqF _ _ _ 50 undef, eqF _ _ _ 51 undef, eqF _ _ _ 52 undef, eqF _ _ _ 53 undef, eqF _ _ _ 54 undef, eqF _ _ _ 55 undef, eqF _ _ _ 56 (.bool false), eqF _ _ _ 57 (.bool false)] (by kernel_rfl) (by kernel_rfl) (by kernel_rfl) (RB.refl (Nat.le_refl _)) (fun _ h => h.again) (fun _ _ _ h k => h.trans k) ?_ ?_
    ·refine stepsU_cons rfl ?_ (stepsU_cons rfl ?_ (stepsU_cons rfl ?_ (stepsU_cons rfl ?_ (stepsU_cons rfl ?_ (stepsU_cons rfl ?_ (stepsU_cons rfl ?_ (stepsU_cons rfl ?_ (stepsU_cons rfl ?_ (stepsU_cons rfl ?_ (stepsU_cons rfl ?_ (stepsU_cons rfl ?_ (stepsU_cons rfl ?_ (stepsU_cons rfl ?_ (stepsU_cons rfl ?_ (stepsU_cons rfl ?_ (stepsU_cons rfl ?_ (stepsU_cons rfl ?_ (stepsU_cons rfl ?_ (stepsU_cons rfl ?_ (stepsU_cons rfl ?_ (stepsU_cons rfl ?_ (stepsU_cons rfl ?_ (stepsU_cons rfl ?_ (stepsU_cons rfl ?_ (stepsU_cons rfl ?_ (stepsU_cons rfl ?_ (stepsU_cons rfl ?_ (stepsU_cons rfl ?_ (stepsU_cons rfl ?_ (stepsU_cons rfl ?_ (stepsU_cons rfl ?_ (stepsU_cons rfl ?_ (stepsU_cons rfl ?_ (stepsU_cons rfl ?_ (stepsU_nil)))))))))))))))))))))))))))))))))))
     ·refine stepU_plain rfl fun u wr hR hK hD => ?_; exact upon_move _ _ rfl (hK 6 rfl) ⟨hR.again, rfl⟩
     ·refine stepU_plain rfl fun u wr hR hK hD => ?_; exact upon_move _ _ rfl (hK 1 rfl) ⟨hR.again, rfl⟩
     ·refine stepU_plain rfl fun u wr hR hK hD => ?_; have z24 : u 24 = _ := (hD 1 rfl); exact upon_val _ (by unfold execOp; simp [go_sem, evU, z24]) ⟨hR.again, rfl⟩
     ·refine stepU_plain rfl fun u wr hR hK hD => ?_; have z23 : u 23 = _ := (hD 0 rfl); have z25 : u 25 = _ := (hD 2 rfl); exact upon_val _ (by unfold execOp; simp [go_sem, evU, z23, z25, h1]) ⟨hR.again, rfl⟩
     ·refine stepU_plain rfl fun u wr hR hK hD => ?_; exact upon_move _ _ rfl (hD 3 rfl) ⟨hR.again, rfl⟩
     ·refine stepU_yes 4 27 true rfl rfl (fun u wr hK hD => hD 4 rfl) fun u wr hR hK hD => ?_; exact upon_move _ _ rfl (hK 5 rfl) ⟨hR.again, rfl⟩
     ·refine stepU_yes 4 27 true rfl rfl (fun u wr hK hD => hD 4 rfl) fun u wr hR hK hD => ?_; exact upon_move _ _ rfl (hK 6 rfl) ⟨hR.again, rfl⟩
     ·refine stepU_yes 4 27 true rfl rfl (fun u wr hK hD => hD 4 rfl) fun u wr hR hK hD => ?_; have z : u 28 = _ := (hD 5 rfl); have z2 : u 29 = _ := (hD 6 rfl); exact upon_val _ (by unfold execOp; simp [go_sem, evU, z, z2, hix]) ⟨hR.again, rfl⟩
     ·refine stepU_yes 4 27 true rfl rfl (fun u wr hK hD => hD 4 rfl) fun u wr hR hK hD => ?_; exact upon_loadAt _ g (k * 4) _ _ _ _ rfl (hD 7 rfl) (cell_keep hR.be c0) (cell_keep hR.be c1) (cell_keep hR.be c2) (cell_keep hR.be c3) ⟨hR.again, rfl⟩
     ·refine stepU_yes 4 27 true rfl rfl (fun u wr hK hD => hD 4 rfl) fun u wr hR hK hD => ?_; exact upon_move _ _ rfl (hK 1 rfl) ⟨hR.again, rfl⟩
     ·refine stepU_yes 4 27 true rfl rfl (fun u wr hK hD => hD 4 rfl) fun u wr hR hK hD => ?_; exact upon_move _ _ rfl (hK 6 rfl) ⟨hR.again, rfl⟩
     ·refine stepU_yes 4 27 true rfl rfl (fun u wr hK hD => hD 4 rfl) fun u wr hR hK hD => ?_; have z : u 32 = _ := (hD 9 rfl); have z2 : u 33 = _ := (hD 10 rfl); exact upon_val _ (by unfold execOp; simp [go_sem, evU, z, z2, hix2]) ⟨hR.again, rfl⟩
     ·refine stepU_yes 4 27 true rfl rfl (fun u wr hK hD => hD 4 rfl) fun u wr hR hK hD => ?_; exact upon_loadAt _ b2 (o2 + k * 4) _ _ _ _ rfl (hD 11 rfl) (cell_keep hR.be q0) (cell_keep hR.be q1) (cell_keep hR.be q2) (cell_keep hR.be q3) ⟨hR.again, rfl⟩
     ·refine stepU_yes 4 27 true rfl rfl (fun u wr hK hD => hD 4 rfl) fun u wr hR hK hD => ?_; have z31 : u 31 = _ := (hD 8 rfl); have z35 : u 35 = _ := (hD 12 rfl); exact upon_val _ (by unfold execOp; simp [go_sem, evU, z31, z35]) ⟨hR.again, rfl⟩
     ·refine stepU_yes 4 27 true rfl rfl (fun u wr hK hD => hD 4 rfl) fun u wr hR hK hD => ?_; have z36 : u 36 = _ := (hD 13 rfl); exact upon_val _ (by unfold execOp; simp [go_sem, evU, z36]) ⟨hR.again, rfl⟩
     ·refine stepU_plain rfl fun u wr hR hK hD => ?_; exact upon_pick _ _ _ _ _ rfl (hD 4 rfl) (by first | rfl | exact (hD 14 rfl) | exact rfl) ⟨hR.again, rfl⟩
     ·refine stepU_plain rfl fun u wr hR hK hD => ?_; exact upon_move _ _ rfl (hD 15 rfl) ⟨hR.again, rfl⟩
     ·refine stepU_yes 16 39 false rfl rfl (fun u wr hK hD => hD 16 rfl) fun u wr hR hK hD => ?_; exact upon_move _ _ rfl (hK 6 rfl) ⟨hR.again, rfl⟩
     ·refine stepU_yes 16 39 false rfl rfl (fun u wr hK hD => hD 16 rfl) fun u wr hR hK hD => ?_; exact upon_move _ _ rfl (hK 1 rfl) ⟨hR.again, rfl⟩
     ·refine stepU_yes 16 39 false rfl rfl (fun u wr hK hD => hD 16 rfl) fun u wr hR hK hD => ?_; have z41 : u 41 = _ := (hD 18 rfl); exact upon_val _ (by unfold execOp; simp [go_sem, evU, z41]) ⟨hR.again, rfl⟩
     ·refine stepU_yes 16 39 false rfl rfl (fun u wr hK hD => hD 16 rfl) fun u wr hR hK hD => ?_; have z40 : u 40 = _ := (hD 17 rfl); have z42 : u 42 = _ := (hD 19 rfl); exact upon_val _ (by unfold execOp; simp [go_sem, evU, z40, z42, hkn]) ⟨hR.again, rfl⟩
     ·refine stepU_yes 16 39 false rfl rfl (fun u wr hK hD => hD 16 rfl) fun u wr hR hK hD => ?_; exact upon_move _ _ rfl (hD 20 rfl) ⟨hR.again, rfl⟩
     ·exact stepU_no 21 44 true false rfl rfl rfl (fun u wr hK hD => (hD 21 rfl)) (fun u wr => rfl)
     ·exact stepU_no 21 44 true false rfl rfl rfl (fun u wr hK hD => (hD 21 rfl)) (fun u wr => rfl)
     ·exact stepU_no 21 44 true false rfl rfl rfl (fun u wr hK hD => (hD 21 rfl)) (fun u wr => rfl)
     ·exact stepU_no 21 44 true false rfl rfl rfl (fun u wr hK hD => (hD 21 rfl)) (fun u wr => rfl)
     ·exact stepU_no 21 44 true false rfl rfl rfl (fun u wr hK hD => (hD 21 rfl)) (fun u wr => rfl)
     ·exact stepU_no 21 44 true false rfl rfl rfl (fun u wr hK hD => (hD 21 rfl)) (fun u wr => rfl)
     ·exact stepU_no 21 44 true false rfl rfl rfl (fun u wr hK hD => (hD 21 rfl)) (fun u wr => rfl)
     ·exact stepU_no 21 44 true false rfl rfl rfl (fun u wr hK hD => (hD 21 rfl)) (fun u wr => rfl)
     ·exact stepU_no 21 44 true false rfl rfl rfl (fun u wr hK hD => (hD 21 rfl)) (fun u wr => rfl)
     ·exact stepU_no 21 44 true false rfl rfl rfl (fun u wr hK hD => (hD 21 rfl)) (fun u wr => rfl)
     ·exact stepU_no 21 44 true false rfl rfl rfl (fun u wr hK hD => (hD 21 rfl)) (fun u wr => rfl)
     ·refine stepU_yes 16 39 false rfl rfl (fun u wr hK hD => hD 16 rfl) fun u wr hR hK hD => ?_; exact upon_pick _ _ _ _ _ rfl (hD 21 rfl) (by first | rfl | exact (hD 32 rfl) | exact rfl) ⟨hR.again, rfl⟩
     ·refine stepU_plain rfl fun u wr hR hK hD => ?_; exact upon_pick _ _ _ _ _ rfl (hD 16 rfl) (by first | rfl | exact rfl | exact (hD 33 rfl)) ⟨hR.again, rfl⟩
    intro u w5 hR hF
    have e23 : u 23 = .int .i64 k := hF 0 (by decide)
    have e24 : u 24 = .slice (some ⟨b2, o2, none⟩) n c := hF 1 (by decide)
    have e25 : u 25 = .int .i64 n := hF 2 (by decide)
    have e26 : u 26 = .bool true := hF 3 (by decide)
    have e27 : u 27 = .bool true := hF 4 (by decide)
    have e28 : u 28 = .slice (some ⟨g, 0, none⟩) (n + 12) (n + 12) := hF 5 (by decide)
    have e29 : u 29 = .int .i64 k := hF 6 (by decide)
    have e30 : u 30 = .pointer (some ⟨g, k * 4, none⟩) := hF 7 (by decide)
    have e31 : u 31 = .agg #[.int .u8 yk, .int .i64 ya, .string yt, .int .i64 yd] := hF 8 (by decide)
    have e32 : u 32 = .slice (some ⟨b2, o2, none⟩) n c := hF 9 (by decide)
    have e33 : u 33 = .int .i64 k := hF 10 (by decide)
    have e34 : u 34 = .pointer (some ⟨b2, o2 + k * 4, none⟩) := hF 11 (by decide)
    have e35 : u 35 = .agg #[.int .u8 yk, .int .i64 ya, .string yt, .int .i64 yd] := hF 12 (by decide)
    have e36 : u 36 = .bool true := hF 13 (by decide)
    have e37 : u 37 = .bool false := hF 14 (by decide)
    have e38 : u 38 = .bool false := hF 15 (by decide)
    have e39 : u 39 = .bool false := hF 16 (by decide)
    have e40 : u 40 = .int .i64 k := hF 17 (by decide)
    have e41 : u 41 = .slice (some ⟨b2, o2, none⟩) n c := hF 18 (by decide)
    have e42 : u 42 = .int .i64 n := hF 19 (by decide)
    have e43 : u 43 = .bool false := hF 20 (by decide)
    have e44 : u 44 = .bool false := hF 21 (by decide)
    have e45 : u 45 = undef := hF 22 (by decide)
    have e46 : u 46 = undef := hF 23 (by decide)
    have e47 : u 47 = undef := hF 24 (by decide)
    have e48 : u 48 = undef := hF 25 (by decide)
    have e49 : u 49 = undef := hF 26 (by decide)
    have e50 : u 50 = undef := hF 27 (by decide)
    have e51 : u 51 = undef := hF 28 (by decide)
    have e52 : u 52 = undef := hF 29 (by decide)
    have e53 : u 53 = undef := hF 30 (by decide)
    have e54 : u 54 = undef := hF 31 (by decide)
    have e55 : u 55 = undef := hF 32 (by decide)
    have e56 : u 56 = .bool false := hF 33 (by decide)
    have e57 : u 57 = .bool false := hF 34 (by decide)
    simp only [finU, Act.put, List.setIfInBounds_toArray, List.set_cons_succ, List.set_cons_zero, e23, e24, e25, e26, e27, e28, e29, e30, e31, e32, e33, e34, e35, e36, e37, e38, e39, e40, e41, e42, e43, e44, e45, e46, e47, e48, e49, e50, e51, e52, e53, e54, e55, e56, e57]
    clear hF e23 e24 e25 e26 e27 e28 e29 e30 e31 e32 e33 e34 e35 e36 e37 e38 e39 e40 e41 e42 e43 e44 e45 e46 e47 e48 e49 e50 e51 e52 e53 e54 e55 e56 e57
    have hB2 : Below w.heap.size w w5 := chain hB.drew hB.size hR.be
    have hb_w5 : Below W0.heap.size W0 w5 := ⟨hR.be.os, hR.be.tape, hR.be.output, hR.be.size, hR.be.block⟩
    clear hB hR
    have hB := hB2
    clear hB2
    clear c0 c1 c2 c3 q0 q1 q2 q3 hix hix2
    go_wp2
    go_roundw
    case rel => exact ⟨k + 1, by omega, by simp, hB⟩
    case measure => simp [intOf]; omega
   ·obtain ⟨m, hm⟩ : ∃ m, m = k - n := ⟨_, rfl⟩
    have hkm : k = n + m := by omega
    obtain ⟨z, hz, Hmi⟩ := lentI_back2 (l := l) (k := k) (m := m) (by have := Hn.out; omega) (by have := Hn.out; omega) (by rw [hm, Hn.out])
    obtain ⟨b0, o0, e0, c0, c1, c2, c3⟩ := (Hx.out.keep hB).at k _ hz
    clear hz
    injection e0 with e0
    injection e0 with e0 e1
    subst e0 e1
    rw [Nat.zero_add] at c0 c1 c2 c3
    have hix := ix_item g 0 (n + 12) (n + 12) k (by omega)
    rw [Nat.zero_add] at hix
    dsimp only at c0 c1 c2 c3
    have hI : IntKind.i64.wrap ((k : Int) - (n : Int)) = (m : Int) := by rw [IntKind.wrap_i64]; omega
    have h3 : n ≤ k := by omega
    have h1 : ¬ (k : Int) < n := by omega
    have h2 : (n : Int) ≤ (k : Int) := by omega
    clear hm hkm
    obtain ⟨W0, rfl⟩ : ∃ W0, W0 = wr := ⟨_, rfl⟩
    go_wp2_with fail
    refine wp_region_facts (R := RB W0.heap.size (⟨#[]⟩) (0)) [eqF _ _ _ 23 (.int .i64 k), eqF _ _ _ 24 (.slice b n c), eqF _ _ _ 25 (.int .i64 n), eqF _ _ _ 26 (.bool false), eqF _ _ _ 27 (.bool false), eqF _ _ _ 28 undef, eqF _ _ _ 29 undef, eqF _ _ _ 30 undef, eqF _ _ _ 31 undef, eqF _ _ _ 32 undef, eqF _ _ _ 33 undef, eqF _ _ _ 34 undef, eqF _ _ _ 35 undef, eqF _ _ _ 36 undef, eqF _ _ _ 37 undef, eqF _ _ _ 38 (.bool false), eqF _ _ _ 39 (.bool false), eqF _ _ _ 40 (.int .i64 k), eqF _ _ _ 41 (.slice b n c), eqF _ _ _ 42 (.int .i64 n), eqF _ _ _ 43 (.bool true), eqF _ _ _ 44 (.bool true), eqF _ _ _ 45 (.slice (some ⟨g, 0, none⟩) (n + 12) (n + 12)), eqF _ _ _ 46 (.int .i64 k), eqF _ _ _ 47 (.pointer (some ⟨g, k * 4, none⟩)), eqF _ _ _ 48 (.agg #[.int .u8 0, .int .i64 0, .string ⟨#[]⟩, .int .i64 z]), eqF _ _ _ 49 (.int .i64 k), eqF _ _ _ 50 (.slice b n c), eqF _ _ _ 51 (.int .i64 n), eqF _ _ _ 52 (.int .i64 m), eqF _ _ _ 53 (.agg #[.int .u8 0, .int .i64 0, .string ⟨#[]⟩, .int .i64 z]), eqF _ _ _ 54 (.bool true), eqF _ _ _ 55 (.bool false), eqF _ _ _ 56 (.bool false), eqF _ _ _ 57 (.bool false)] (by kernel_rfl) (by kernel_rfl) (by kernel_rfl) (RB.refl (Nat.le_refl _)) (fun _ h => h.again) (fun _ _ _ h k => h.trans k) ?_ ?_
    ·refine stepsU_cons rfl ?_ (stepsU_cons rfl ?_ (stepsU_cons rfl ?_ (stepsU_cons rfl ?_ (stepsU_cons rfl ?_ (stepsU_cons rfl ?_ (stepsU_cons rfl ?_ (stepsU_cons rfl ?_ (stepsU_cons rfl ?_ (stepsU_cons rfl ?_ (stepsU_cons rfl ?_ (stepsU_cons rfl ?_ (stepsU_cons rfl ?_ (stepsU_cons rfl ?_ (stepsU_cons rfl ?_ (stepsU_cons rfl ?_ (stepsU_cons rfl ?_ (stepsU_cons rfl ?_ (stepsU_cons rfl ?_ (stepsU_cons rfl ?_ (stepsU_cons rfl ?_ (stepsU_cons rfl ?_ (stepsU_cons rfl ?_ (stepsU_cons rfl ?_ (stepsU_cons rfl ?_ (stepsU_cons rfl ?_ (stepsU_cons rfl ?_ (stepsU_cons rfl ?_ (stepsU_cons rfl ?_ (stepsU_cons rfl ?_ (stepsU_cons rfl ?_ (stepsU_cons rfl ?_ (stepsU_cons rfl ?_ (stepsU_cons rfl ?_ (stepsU_cons rfl ?_ (stepsU_nil)))))))))))))))))))))))))))))))))))
     ·refine stepU_plain rfl fun u wr hR hK hD => ?_; exact upon_move _ _ rfl (hK 6 rfl) ⟨hR.again, rfl⟩
     ·refine stepU_plain rfl fun u wr hR hK hD => ?_; exact upon_move _ _ rfl (hK 1 rfl) ⟨hR.again, rfl⟩
     ·refine stepU_plain rfl fun u wr hR hK hD => ?_; have z24 : u 24 = _ := (hD 1 rfl); exact upon_val _ (by unfold execOp; simp [go_sem, evU, z24]) ⟨hR.again, rfl⟩
     ·refine stepU_plain rfl fun u wr hR hK hD => ?_; have z23 : u 23 = _ := (hD 0 rfl); have z25 : u 25 = _ := (hD 2 rfl); exact upon_val _ (by unfold execOp; simp [go_sem, evU, z23, z25, h3]) ⟨hR.again, rfl⟩
     ·refine stepU_plain rfl fun u wr hR hK hD => ?_; exact upon_move _ _ rfl (hD 3 rfl) ⟨hR.again, rfl⟩
     ·exact stepU_no 4 27 true false rfl rfl rfl (fun u wr hK hD => (hD 4 rfl)) (fun u wr => rfl)
     ·exact stepU_no 4 27 true false rfl rfl rfl (fun u wr hK hD => (hD 4 rfl)) (fun u wr => rfl)
     ·exact stepU_no 4 27 true false rfl rfl rfl (fun u wr hK hD => (hD 4 rfl)) (fun u wr => rfl)
     ·exact stepU_no 4 27 true false rfl rfl rfl (fun u wr hK hD => (hD 4 rfl)) (fun u wr => rfl)
     ·exact stepU_no 4 27 true false rfl rfl rfl (fun u wr hK hD => (hD 4 rfl)) (fun u wr => rfl)
     ·exact stepU_no 4 27 true false rfl rfl rfl (fun u wr hK hD => (hD 4 rfl)) (fun u wr => rfl)
     ·exact stepU_no 4 27 true false rfl rfl rfl (fun u wr hK hD => (hD 4 rfl)) (fun u wr => rfl)
     ·exact stepU_no 4 27 true false rfl rfl rfl (fun u wr hK hD => (hD 4 rfl)) (fun u wr => rfl)
     ·exact stepU_no 4 27 true false rfl rfl rfl (fun u wr hK hD => (hD 4 rfl)) (fun u wr => rfl)
     ·exact stepU_no 4 27 true false rfl rfl rfl (fun u wr hK hD => (hD 4 rfl)) (fun u wr => rfl)
     ·refine stepU_plain rfl fun u wr hR hK hD => ?_; exact upon_pick _ _ _ _ _ rfl (hD 4 rfl) (by first | rfl | exact (hD 14 rfl) | exact rfl) ⟨hR.again, rfl⟩
     ·refine stepU_plain rfl fun u wr hR hK hD => ?_; exact upon_move _ _ rfl (hD 15 rfl) ⟨hR.again, rfl⟩
     ·refine stepU_yes 16 39 false rfl rfl (fun u wr hK hD => hD 16 rfl) fun u wr hR hK hD => ?_; exact upon_move _ _ rfl (hK 6 rfl) ⟨hR.again, rfl⟩
     ·refine stepU_yes 16 39 false rfl rfl (fun u wr hK hD => hD 16 rfl) fun u wr hR hK hD => ?_; exact upon_move _ _ rfl (hK 1 rfl) ⟨hR.again, rfl⟩
     ·refine stepU_yes 16 39 false rfl rfl (fun u wr hK hD => hD 16 rfl) fun u wr hR hK hD => ?_; have z41 : u 41 = _ := (hD 18 rfl); exact upon_val _ (by unfold execOp; simp [go_sem, evU, z41]) ⟨hR.again, rfl⟩
     ·refine stepU_yes 16 39 false rfl rfl (fun u wr hK hD => hD 16 rfl) fun u wr hR hK hD => ?_; have z40 : u 40 = _ := (hD 17 rfl); have z42 : u 42 = _ := (hD 19 rfl); exact upon_val _ (by unfold execOp; simp [go_sem, evU, z40, z42, h3]) ⟨hR.again, rfl⟩
     ·refine stepU_yes 16 39 false rfl rfl (fun u wr hK hD => hD 16 rfl) fun u wr hR hK hD => ?_; exact upon_move _ _ rfl (hD 20 rfl) ⟨hR.again, rfl⟩
     ·refine stepU_yes 21 44 true rfl rfl (fun u wr hK hD => hD 21 rfl) fun u wr hR hK hD => ?_; exact upon_move _ _ rfl (hK 5 rfl) ⟨hR.again, rfl⟩
     ·refine stepU_yes 21 44 true rfl rfl (fun u wr hK hD => hD 21 rfl) fun u wr hR hK hD => ?_; exact upon_move _ _ rfl (hK 6 rfl) ⟨hR.again, rfl⟩
     ·refine stepU_yes 21 44 true rfl rfl (fun u wr hK hD => hD 21 rfl) fun u wr hR hK hD => ?_; have z : u 45 = _ := (hD 22 rfl); have z2 : u 46 = _ := (hD 23 rfl); exact upon_val _ (by unfold execOp; simp [go_sem, evU, z, z2, hix]) ⟨hR.again, rfl⟩
     ·refine stepU_yes 21 44 true rfl rfl (fun u wr hK hD => hD 21 rfl) fun u wr hR hK hD => ?_; exact upon_loadAt _ g (k * 4) _ _ _ _ rfl (hD 24 rfl) (cell_keep hR.be c0) (cell_keep hR.be c1) (cell_keep hR.be c2) (cell_keep hR.be c3) ⟨hR.again, rfl⟩
     ·refine stepU_yes 21 44 true rfl rfl (fun u wr hK hD => hD 21 rfl) fun u wr hR hK hD => ?_; exact upon_move _ _ rfl (hK 6 rfl) ⟨hR.again, rfl⟩
     ·refine stepU_yes 21 44 true rfl rfl (fun u wr hK hD => hD 21 rfl) fun u wr hR hK hD => ?_; exact upon_move _ _ rfl (hK 1 rfl) ⟨hR.again, rfl⟩
     ·refine stepU_yes 21 44 true rfl rfl (fun u wr hK hD => hD 21 rfl) fun u wr hR hK hD => ?_; have z50 : u 50 = _ := (hD 27 rfl); exact upon_val _ (by unfold execOp; simp [go_sem, evU, z50]) ⟨hR.again, rfl⟩
     ·refine stepU_yes 21 44 true rfl rfl (fun u wr hK hD => hD 21 rfl) fun u wr hR hK hD => ?_; have z49 : u 49 = _ := (hD 26 rfl); have z51 : u 51 = _ := (hD 28 rfl); exact upon_val _ (by unfold execOp; simp [go_sem, evU, z49, z51, hI]) ⟨hR.again, rfl⟩
     ·refine stepU_yes 21 44 true rfl rfl (fun u wr hK hD => hD 21 rfl) fun u wr hR hK hD => ?_; exact upon_call2 _ _ _ _ _ Tryz.func48 (by kernel_rfl) rfl rfl (hD 29 rfl) ((Hmi.out wr).mono fun e wn ⟨he, hb⟩ => ⟨_, he, hR.next hb, rfl⟩)
     ·refine stepU_yes 21 44 true rfl rfl (fun u wr hK hD => hD 21 rfl) fun u wr hR hK hD => ?_; have z48 : u 48 = _ := (hD 25 rfl); have z53 : u 53 = _ := (hD 30 rfl); exact upon_val _ (by unfold execOp; simp [go_sem, evU, z48, z53]) ⟨hR.again, rfl⟩
     ·refine stepU_yes 21 44 true rfl rfl (fun u wr hK hD => hD 21 rfl) fun u wr hR hK hD => ?_; have z54 : u 54 = _ := (hD 31 rfl); exact upon_val _ (by unfold execOp; simp [go_sem, evU, z54]) ⟨hR.again, rfl⟩
     ·refine stepU_yes 16 39 false rfl rfl (fun u wr hK hD => hD 16 rfl) fun u wr hR hK hD => ?_; exact upon_pick _ _ _ _ _ rfl (hD 21 rfl) (by first | rfl | exact (hD 32 rfl) | exact rfl) ⟨hR.again, rfl⟩
     ·refine stepU_plain rfl fun u wr hR hK hD => ?_; exact upon_pick _ _ _ _ _ rfl (hD 16 rfl) (by first | rfl | exact rfl | exact (hD 33 rfl)) ⟨hR.again, rfl⟩
    intro u w5 hR hF
    have e23 : u 23 = .int .i64 k := hF 0 (by decide)
    have e24 : u 24 = .slice b n c := hF 1 (by decide)
    have e25 : u 25 = .int .i64 n := hF 2 (by decide)
    have e26 : u 26 = .bool false := hF 3 (by decide)
    have e27 : u 27 = .bool false := hF 4 (by decide)
    have e28 : u 28 = undef := hF 5 (by decide)
    have e29 : u 29 = undef := hF 6 (by decide)
    have e30 : u 30 = undef := hF 7 (by decide)
    have e31 : u 31 = undef := hF 8 (by decide)
    have e32 : u 32 = undef := hF 9 (by decide)
    have e33 : u 33 = undef := hF 10 (by decide)
    have e34 : u 34 = undef := hF 11 (by decide)
    have e35 : u 35 = undef := hF 12 (by decide)
    have e36 : u 36 = undef := hF 13 (by decide)
    have e37 : u 37 = undef := hF 14 (by decide)
    have e38 : u 38 = .bool false := hF 15 (by decide)
    have e39 : u 39 = .bool false := hF 16 (by decide)
    have e40 : u 40 = .int .i64 k := hF 17 (by decide)
    have e41 : u 41 = .slice b n c := hF 18 (by decide)
    have e42 : u 42 = .int .i64 n := hF 19 (by decide)
    have e43 : u 43 = .bool true := hF 20 (by decide)
    have e44 : u 44 = .bool true := hF 21 (by decide)
    have e45 : u 45 = .slice (some ⟨g, 0, none⟩) (n + 12) (n + 12) := hF 22 (by decide)
    have e46 : u 46 = .int .i64 k := hF 23 (by decide)
    have e47 : u 47 = .pointer (some ⟨g, k * 4, none⟩) := hF 24 (by decide)
    have e48 : u 48 = .agg #[.int .u8 0, .int .i64 0, .string ⟨#[]⟩, .int .i64 z] := hF 25 (by decide)
    have e49 : u 49 = .int .i64 k := hF 26 (by decide)
    have e50 : u 50 = .slice b n c := hF 27 (by decide)
    have e51 : u 51 = .int .i64 n := hF 28 (by decide)
    have e52 : u 52 = .int .i64 m := hF 29 (by decide)
    have e53 : u 53 = .agg #[.int .u8 0, .int .i64 0, .string ⟨#[]⟩, .int .i64 z] := hF 30 (by decide)
    have e54 : u 54 = .bool true := hF 31 (by decide)
    have e55 : u 55 = .bool false := hF 32 (by decide)
    have e56 : u 56 = .bool false := hF 33 (by decide)
    have e57 : u 57 = .bool false := hF 34 (by decide)
    simp only [finU, Act.put, List.setIfInBounds_toArray, List.set_cons_succ, List.set_cons_zero, e23, e24, e25, e26, e27, e28, e29, e30, e31, e32, e33, e34, e35, e36, e37, e38, e39, e40, e41, e42, e43, e44, e45, e46, e47, e48, e49, e50, e51, e52, e53, e54, e55, e56, e57]
    clear hF e23 e24 e25 e26 e27 e28 e29 e30 e31 e32 e33 e34 e35 e36 e37 e38 e39 e40 e41 e42 e43 e44 e45 e46 e47 e48 e49 e50 e51 e52 e53 e54 e55 e56 e57
    have hB2 : Below w.heap.size w w5 := chain hB.drew hB.size hR.be
    have hb_w5 : Below W0.heap.size W0 w5 := ⟨hR.be.os, hR.be.tape, hR.be.output, hR.be.size, hR.be.block⟩
    clear hB hR
    have hB := hB2
    clear hB2
    clear c0 c1 c2 c3 hix
    go_wp2
    go_roundw
    case rel => exact ⟨k + 1, by omega, by simp, hB⟩
    case measure => simp [intOf]; omega
  ·go_wp2
   go_ret
   exact ⟨rfl, hB⟩
end Go.Proofs.YtmhnndgnnpondaaGreatDoor
