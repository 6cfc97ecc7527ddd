/- ValueSigns: the walk. -/
import Derived.Test.YtfbliaonfkalfaaGreatDoorTh
import Derived.Test.YtfbliaonfkalfaaGreatDoorWa
namespace Go.Proofs.YtfbliaonfkalfaaGreatDoor
open Go.RowKit
def hLt : Int → Bool := fun n => decide (n < 0)
def hEq : Int → Bool := fun n => n == 0
def hGt : Int → Bool := fun n => decide (0 < n)
/-- one item held against one: what the law's holds answers -/
def One3 (op : ByteArray) (x y : It) (L K : Bool) : Prop := ∀ (W : World) (ga gb ca cb : Nat), Env W → RdI W (some ⟨ga, 0, none⟩) [x] → RdI W (some ⟨gb, 0, none⟩) [y] →
  Calls Tryz.prog 8 #[.string op, .slice (some ⟨ga, 0, none⟩) 1 ca, .slice (some ⟨gb, 0, none⟩) 1 cb] W fun e w' => e = .returned (.tuple #[.bool L, .bool K]) ∧ Below W.heap.size W w'
theorem one3 {op : ByteArray} {hf : Int → Bool} (hh : Sign op hf) {x y : It} (hx : okI x = true) (hy : okI y = true) (sx : x.text.size ≤ 140737488355328) (sy : y.text.size ≤ 140737488355328) {L K : Bool} (hL : pv hf x y = L) (hK : pk x y = K) : One3 op x y L K := by
  intro W ga gb ca cb he ha hb
  subst hL hK
  exact lholds_one op hf ga gb ca cb x y W he hh ha hb hx hy sx sy
theorem pv_no {hf : Int → Bool} {x y : It} (h : pk x y = false) : pv hf x y = false := by unfold pv; rw [h]; rfl
theorem pv_yes {hf : Int → Bool} {x y : It} (h : pk x y = true) : pv hf x y = hf (oV x y) := by unfold pv; rw [h]; rfl
theorem pk_symm (x y : It) : pk y x = pk x y := by unfold pk; rw [oE_symm]
theorem take_all {α : Type} (f : α → Bool) (l : List α) (j : Nat) (y : α) (h : l[j]? = some y) : (l.take (j + 1)).all f = ((l.take j).all f && f y) := by
  rw [List.take_add_one, h]; simp
theorem take_any {α : Type} (f : α → Bool) (l : List α) (j : Nat) (y : α) (h : l[j]? = some y) : (l.take (j + 1)).any f = ((l.take j).any f || f y) := by
  rw [List.take_add_one, h]; simp
def rowOk (lb : List It) (x : It) : Bool := lb.all (pk x)
def rowLt (lb : List It) (x : It) : Bool := lb.any fun y => hLt (oV x y)
theorem oE_or (x y : It) : oE x y = 0 ∨ oE x y = 250 := by
  unfold oE
  split
  · exact .inr rfl
  · split
    · exact .inl rfl
    · split
      · exact .inl rfl
      · split
        · exact .inl rfl
        · exact .inr rfl
theorem cOut_err (hf : Int → Bool) (b : List It) : ∀ a : List It, ((cOut hf b a).2 == 2) = false
  | [] => rfl
  | x :: r => by
    have hin : ∀ l : List It, ∀ v, cIn hf x l = some v → (v.2 == 2) = false := by
      intro l
      induction l with
      | nil => intro v h; cases h
      | cons y l ih =>
        intro v h
        unfold cIn at h
        split at h
        · split at h
          · injection h with h; subst h; rfl
          · exact ih v h
        · injection h with h
          subst h
          rename_i hne
          rcases oE_or x y with e | e
          · exact absurd e hne
          · show (oE x y == 2) = false
            rw [e]; rfl
    cases h : cIn hf x b with
    | some v => rw [cOut_some h]; exact hin b v h
    | none => rw [cOut_none h]; exact cOut_err hf b r
section
variable {l : List Oper} {K : Value → World → Prop} {u : Nat → Value} {w : World} {o : Oper}
theorem upon_loadAt (x : Operand) (b off : Nat) (k : Nat) (a d : Int) (t : ByteArray) (h : o.op = .load 31 x) (hx : evU u x = .pointer (some ⟨b, off, none⟩)) (c0 : w.cell? ⟨b, off, none⟩ = some (.int .u8 k)) (c1 : w.cell? ⟨b, off + 1, none⟩ = some (.int .i64 a)) (c2 : w.cell? ⟨b, off + 2, none⟩ = some (.string t)) (c3 : w.cell? ⟨b, off + 3, none⟩ = some (.int .i64 d))
    (hk : K (.agg #[.int .u8 k, .int .i64 a, .string t, .int .i64 d]) w) : uponU K Tryz.prog ((execOp (evU u) o).run Tryz.prog w) := by
  refine upon_val _ ?_ hk
  have hu := Tryz.underlying31
  have hs := Tryz.underlying9
  have hi := Tryz.underlying3
  have hi2 := Tryz.underlying2
  have hi3 := Tryz.underlying29
  unfold execOp
  simp [go_sem, h, hx, c0, c1, c2, c3]
end
set_option maxRecDepth 100000 in
set_option maxHeartbeats 8000000 in
theorem valueSigns_ok (pa pb : Option Addr) (na nb ca cb : Nat) (la lb : List It) (m : Int) (w : World) (he : Env w) (hm : w.cell? ⟨3, 0, none⟩ = some (.int .i64 m)) (hc : Counts w) (ha : OkA w ⟨pa, la, ca⟩) (hb : OkA w ⟨pb, lb, cb⟩) (hna : na = la.length) (hnb : nb = lb.length) :
    Calls Tryz.prog 3 #[.slice pa na ca, .slice pb nb cb] w fun e w' => e = .returned (.bool true) ∧ Below w.heap.size w w' := by
  have He := hide he
  have Hm := hide hm
  have Hc := hide hc
  have Ha := hide ha
  have Hb := hide hb
  have Hna := hide hna
  have Hnb := hide hnb
  have hB0 := Below.refl w.heap.size w
  clear he hm hc ha hb hna hnb
  go_enter Tryz.func3, Tryz.ntmps3
  go_wp2_with fail
  obtain ⟨ev, hv, hev⟩ := He.out.syn
  refine (awake_ok m ev _ Hm.out Hc.out hv hev).mono ?_
  rintro e w1 ⟨rfl, hB1⟩
  clear hB0 Hm Hc hv hev
  by_cases h40 : (40 : Int) < (na : Int)
  · go_wp2
    go_ret
    exact ⟨rfl, hB1⟩
  · have h40d : decide ((40 : Int) < (na : Int)) = false := by simpa using h40
    have hna40 : na ≤ 40 := by omega
    clear h40
    by_cases h41 : (40 : Int) < (nb : Int)
    · go_wp2
      go_ret
      exact ⟨rfl, hB1⟩
    · have h41d : decide ((40 : Int) < (nb : Int)) = false := by simpa using h41
      have hnb40 : nb ≤ 40 := by omega
      clear h41
      have hrd : Rd (w1.alloc (.cells #[.slice pa na ca, .slice pb nb cb] 22)) (some ⟨w1.heap.size, 0, none⟩) (([⟨pa, la, ca⟩, ⟨pb, lb, cb⟩] : List Lst).map Lst.v) := by
        rw [Hna.out, Hnb.out]; exact Rd.new w1 22 [.slice pa la.length ca, .slice pb lb.length cb]
      have Hrd := hide hrd
      have hb2 := hB1.alloc hB1.size (.cells #[.slice pa na ca, .slice pb nb cb] 22)
      clear hrd
      go_wp2_with fail
      refine (great_any (some ⟨w1.heap.size, 0, none⟩) 2 2 [⟨pa, la, ca⟩, ⟨pb, lb, cb⟩] _ rfl (by decide) Hrd.out ?ok).mono ?_
      case ok =>
        intro x hx
        simp only [List.mem_cons, List.not_mem_nil, or_false] at hx
        rcases hx with rfl | rfl
        · exact ⟨Ha.out.1.keep hb2, Ha.out.2⟩
        · exact ⟨Hb.out.1.keep hb2, Hb.out.2⟩
      rintro e w2 ⟨⟨q, rfl⟩, hg2⟩
      generalize (q == 0) = g
      have hB2 := chain0 hb2 hg2
      clear hb2 hg2 Hrd hB1
      cases g with
      | true =>
        go_wp2
        go_ret
        exact ⟨rfl, hB2⟩
      | false =>
        go_wp2_with fail
        refine (compare_any ⟨#[61]⟩ hEq pa pb na nb ca cb la lb _ (He.out.keep hB2) sEq ⟨Ha.out.1.keep hB2, Ha.out.2⟩ ⟨Hb.out.1.keep hB2, Hb.out.2⟩ Hna.out Hnb.out).mono ?_
        rintro e w3 ⟨rfl, hb3⟩
        have hB3 := chain0 hB2 hb3
        clear hb3 hB2
        rcases Bool.eq_false_or_eq_true (rightL [⟨pa, la, ca⟩, ⟨pb, lb, cb⟩]) with hr | hr
        · have Hr := hide hr
          have hce : Hid (((cmpA hEq ⟨pa, la, ca⟩ ⟨pb, lb, cb⟩).2 == 2) = false) := by
            show _ = _
            unfold cmpA; rw [if_pos hr]; exact cOut_err _ _ _
          generalize cmpA hEq ⟨pa, la, ca⟩ ⟨pb, lb, cb⟩ = v at hce ⊢
          obtain ⟨v1, v2⟩ := v
          have hce2 : (v2 == 2) = false := hce.out
          clear hr hce
          go_wp2_with fail
          go_loopw [7, 8, 9] (fun fv sv iv W => ∃ (k : Nat) (F S : Bool), k ≤ na ∧ fv = .bool F ∧ sv = .bool S ∧ iv = .int .i64 k ∧ Hid (F = (la.take k).all (rowOk lb)) ∧ Hid (F = true → S = (la.take k).any (rowLt lb)) ∧ Below w.heap.size w W) (fun _ _ iv _ => na - (intOf iv).toNat)
          case atStart => exact ⟨0, true, false, Nat.zero_le _, rfl, rfl, rfl, hide rfl, hide (fun _ => rfl), hB3⟩
          case round =>
            clear hB3
            obtain ⟨k, F, S, hk, rfl, rfl, rfl, HF, HS, hB⟩ := hrel
            by_cases hlt : k < na
            · have hI : (k : Int) < (na : Int) := by omega
              obtain ⟨x, hx⟩ : ∃ x, la[k]? = some x := ⟨_, List.getElem?_eq_getElem (by have := Hna.out; omega)⟩
              have Hx := hide hx
              have hokx : Hid (okI x = true) := by
                show okI x = true
                have h := Hr.out
                simp only [rightL, List.all_cons, List.all_nil, Bool.and_eq_true, Bool.and_true, List.all_eq_true] at h
                exact h.1 x (List.mem_of_getElem? hx)
              clear hx
              go_wp2_with fail
              go_loopw [7, 8, 10] (fun fv sv jv W => ∃ (j : Nat) (F S : Bool), j ≤ nb ∧ fv = .bool F ∧ sv = .bool S ∧ jv = .int .i64 j ∧ Hid (F = ((la.take k).all (rowOk lb) && (lb.take j).all (pk x))) ∧ Hid (F = true → S = ((la.take k).any (rowLt lb) || (lb.take j).any fun y => hLt (oV x y))) ∧ Below w.heap.size w W) (fun _ _ jv _ => nb - (intOf jv).toNat)
              case atStart => exact ⟨0, F, S, Nat.zero_le _, rfl, rfl, rfl, hide (by rw [HF.out]; simp), hide (fun h => by rw [HS.out h]; simp), hB⟩
              case round =>
                clear hB HF HS
                obtain ⟨j, F, S, hj, rfl, rfl, rfl, HF, HS, hB⟩ := hrel
                by_cases hlj : j < nb
                · have hI2 : (j : Int) < (nb : Int) := by omega
                  obtain ⟨y, hy⟩ : ∃ y, lb[j]? = some y := ⟨_, List.getElem?_eq_getElem (by have := Hnb.out; omega)⟩
                  have Hy := hide hy
                  have hoky : Hid (okI y = true) := by
                    show okI y = true
                    have h := Hr.out
                    simp only [rightL, List.all_cons, List.all_nil, Bool.and_eq_true, Bool.and_true, List.all_eq_true] at h
                    exact h.2 y (List.mem_of_getElem? hy)
                  have hsx := Ha.out.2.1 x (List.mem_of_getElem? Hx.out)
                  have hsy := Hb.out.2.1 y (List.mem_of_getElem? hy)
                  obtain ⟨b1, off1, e1, c0, c1, c2, c3⟩ := (Ha.out.1.keep hB).at k x Hx.out
                  obtain ⟨b2, off2, e2, q0, q1, q2, q3⟩ := (Hb.out.1.keep hB).at j y hy
                  have hix := ix_item b1 off1 na ca k hlt
                  have hiy := ix_item b2 off2 nb cb j hlj
                  dsimp only at e1 e2
                  subst e1
                  subst e2
                  clear hy
                  obtain ⟨W0, rfl⟩ : ∃ W0, W0 = wr := ⟨_, rfl⟩
                  go_wp2_with fail
                  refine wp_region_facts (R := RB W0.heap.size (⟨#[]⟩) (0)) [eqF W0.heap.size (⟨#[]⟩) (0) 68 (.slice (some ⟨b1, off1, none⟩) na ca), eqF W0.heap.size (⟨#[]⟩) (0) 69 (.int .i64 k), eqF W0.heap.size (⟨#[]⟩) (0) 70 (.pointer (some ⟨b1, off1 + k * 4, none⟩)), eqF W0.heap.size (⟨#[]⟩) (0) 71 (.agg #[.int .u8 x.kind, .int .i64 x.num, .string x.text, .int .i64 x.node]), itsF W0.heap.size ⟨#[]⟩ 0 72 1 1 [x], itsF W0.heap.size ⟨#[]⟩ 0 73 1 1 [x], eqF W0.heap.size (⟨#[]⟩) (0) 74 (.slice (some ⟨b2, off2, none⟩) nb cb), eqF W0.heap.size (⟨#[]⟩) (0) 75 (.int .i64 j), eqF W0.heap.size (⟨#[]⟩) (0) 76 (.pointer (some ⟨b2, off2 + j * 4, none⟩)), eqF W0.heap.size (⟨#[]⟩) (0) 77 (.agg #[.int .u8 y.kind, .int .i64 y.num, .string y.text, .int .i64 y.node]), itsF W0.heap.size ⟨#[]⟩ 0 78 1 1 [y], itsF W0.heap.size ⟨#[]⟩ 0 79 1 1 [y], itsF W0.heap.size ⟨#[]⟩ 0 11 1 1 [x], itsF W0.heap.size ⟨#[]⟩ 0 12 1 1 [y]] (by kernel_rfl) (by kernel_rfl) (by kernel_rfl) (RB.refl (Nat.le_refl _)) (fun _ h => h.again) (fun _ _ _ h k => h.trans k) ?_ ?_
                  · refine stepsU_cons rfl ?_ (stepsU_cons rfl ?_ (stepsU_cons rfl ?_ (stepsU_cons rfl ?_ (stepsU_cons rfl ?_ (stepsU_cons rfl ?_ (stepsU_cons rfl ?_ (stepsU_cons rfl ?_ (stepsU_cons rfl ?_ (stepsU_cons rfl ?_ (stepsU_cons rfl ?_ (stepsU_cons rfl ?_ (stepsU_cons rfl ?_ (stepsU_cons rfl ?_ (stepsU_nil))))))))))))))
                    · refine stepU_plain rfl fun u wr hR hK hD => ?_; exact upon_move _ _ rfl (hK 0 rfl) ⟨hR.again, rfl⟩
                    · refine stepU_plain rfl fun u wr hR hK hD => ?_; exact upon_move _ _ rfl (hK 9 rfl) ⟨hR.again, rfl⟩
                    · refine stepU_plain rfl fun u wr hR hK hD => ?_; have z : u 68 = _ := (hD 0 rfl); have z2 : u 69 = _ := (hD 1 rfl); exact upon_val _ (by unfold execOp; simp [go_sem, evU, z, z2, hix]) ⟨hR.again, rfl⟩
                    · refine stepU_plain rfl fun u wr hR hK hD => ?_; exact upon_loadAt _ b1 (off1 + k * 4) _ _ _ _ rfl (hD 2 rfl) (cell_keep hR.be c0) (cell_keep hR.be c1) (cell_keep hR.be c2) (cell_keep hR.be c3) ⟨hR.again, rfl⟩
                    · refine stepU_plain rfl fun u wr hR hK hD => ?_; exact upon_buildIt _ _ _ _ _ rfl (hD 3 rfl) ⟨hR.next ((Below.refl _ _).alloc (Nat.le_refl _) _), ⟨_, rfl, Nat.le_trans hR.hB hR.be.size, RdI.new _ _ [x]⟩⟩
                    · refine stepU_plain rfl fun u wr hR hK hD => ?_; obtain ⟨g, h1, h2, h3⟩ := (hD 4 rfl); exact upon_call1 _ _ _ Tryz.func7 (by kernel_rfl) rfl h1 ((lrow_any _ _ _ _).mono fun e wn ⟨he, hw⟩ => ⟨_, he, by subst hw; exact ⟨hR.again, ⟨g, rfl, h2, h3⟩⟩⟩)
                    · refine stepU_plain rfl fun u wr hR hK hD => ?_; exact upon_move _ _ rfl (hK 1 rfl) ⟨hR.again, rfl⟩
                    · refine stepU_plain rfl fun u wr hR hK hD => ?_; exact upon_move _ _ rfl (hK 10 rfl) ⟨hR.again, rfl⟩
                    · refine stepU_plain rfl fun u wr hR hK hD => ?_; have z : u 74 = _ := (hD 6 rfl); have z2 : u 75 = _ := (hD 7 rfl); exact upon_val _ (by unfold execOp; simp [go_sem, evU, z, z2, hiy]) ⟨hR.again, rfl⟩
                    · refine stepU_plain rfl fun u wr hR hK hD => ?_; exact upon_loadAt _ b2 (off2 + j * 4) _ _ _ _ rfl (hD 8 rfl) (cell_keep hR.be q0) (cell_keep hR.be q1) (cell_keep hR.be q2) (cell_keep hR.be q3) ⟨hR.again, rfl⟩
                    · refine stepU_plain rfl fun u wr hR hK hD => ?_; exact upon_buildIt _ _ _ _ _ rfl (hD 9 rfl) ⟨hR.next ((Below.refl _ _).alloc (Nat.le_refl _) _), ⟨_, rfl, Nat.le_trans hR.hB hR.be.size, RdI.new _ _ [y]⟩⟩
                    · refine stepU_plain rfl fun u wr hR hK hD => ?_; obtain ⟨g, h1, h2, h3⟩ := (hD 10 rfl); exact upon_call1 _ _ _ Tryz.func7 (by kernel_rfl) rfl h1 ((lrow_any _ _ _ _).mono fun e wn ⟨he, hw⟩ => ⟨_, he, by subst hw; exact ⟨hR.again, ⟨g, rfl, h2, h3⟩⟩⟩)
                    · refine stepU_plain rfl fun u wr hR hK hD => ?_; obtain ⟨g, h1, h2, h3⟩ := (hD 5 rfl); exact upon_assign _ _ rfl h1 ⟨hR.again, ⟨g, rfl, h2, h3⟩⟩
                    · refine stepU_plain rfl fun u wr hR hK hD => ?_; obtain ⟨g, h1, h2, h3⟩ := (hD 11 rfl); exact upon_assign _ _ rfl h1 ⟨hR.again, ⟨g, rfl, h2, h3⟩⟩
                  intro u w5 hR hF
                  have e68 : u 68 = .slice (some ⟨b1, off1, none⟩) na ca := hF 0 (by decide)
                  have e69 : u 69 = .int .i64 k := hF 1 (by decide)
                  have e70 : u 70 = .pointer (some ⟨b1, off1 + k * 4, none⟩) := hF 2 (by decide)
                  have e71 : u 71 = .agg #[.int .u8 x.kind, .int .i64 x.num, .string x.text, .int .i64 x.node] := hF 3 (by decide)
                  have e74 : u 74 = .slice (some ⟨b2, off2, none⟩) nb cb := hF 6 (by decide)
                  have e75 : u 75 = .int .i64 j := hF 7 (by decide)
                  have e76 : u 76 = .pointer (some ⟨b2, off2 + j * 4, none⟩) := hF 8 (by decide)
                  have e77 : u 77 = .agg #[.int .u8 y.kind, .int .i64 y.num, .string y.text, .int .i64 y.node] := hF 9 (by decide)
                  obtain ⟨a72, e72, p72, r72⟩ := hF 4 (by decide)
                  obtain ⟨a73, e73, p73, r73⟩ := hF 5 (by decide)
                  obtain ⟨a78, e78, p78, r78⟩ := hF 10 (by decide)
                  obtain ⟨a79, e79, p79, r79⟩ := hF 11 (by decide)
                  obtain ⟨a11, e11, p11, r11⟩ := hF 12 (by decide)
                  obtain ⟨a12, e12, p12, r12⟩ := hF 13 (by decide)
                  simp only [finU, Act.put, List.setIfInBounds_toArray, List.set_cons_succ, List.set_cons_zero, e68, e69, e70, e71, e72, e73, e74, e75, e76, e77, e78, e79, e11, e12]
                  clear hF e68 e69 e70 e71 e72 e73 e74 e75 e76 e77 e78 e79 e11 e12
                  have hB2 : Below w.heap.size w w5 := chain hB.drew hB.size hR.be
                  have hb_w5 : Below W0.heap.size W0 w5 := ⟨hR.be.os, hR.be.tape, hR.be.output, hR.be.size, hR.be.block⟩
                  clear hB hR 
                  have hB := hB2
                  clear hB2
                  have x5 := r11
                  have y5 := r12
                  have hB5 := hB
                  clear r11 r12 r73 r79 r72 r78 p11 p12 p73 p79 p72 p78 hB c0 c1 c2 c3 q0 q1 q2 q3 hix hiy
                  by_cases hK : pk x y = true
                  · have hK' : pk y x = true := by rw [pk_symm]; exact hK
                    have HF2 : Hid (F = ((la.take k).all (rowOk lb) && (lb.take (j + 1)).all (pk x))) := by
                      show _ = _
                      rw [take_all _ _ _ _ Hy.out, hK, Bool.and_true]; exact HF.out
                    have HSg : Hid (∀ b : Bool, b = (S || hLt (oV x y)) → (F = true → b = ((la.take k).any (rowLt lb) || (lb.take (j + 1)).any fun y => hLt (oV x y)))) := by
                      show ∀ _, _
                      intro b hb h
                      rw [hb, take_any _ _ _ _ Hy.out, ← Bool.or_assoc, ← HS.out h]
                    clear HF HS
                    rcases Int.lt_trichotomy (oV x y) 0 with hv | hv | hv
                    · have h1 := one3 sLt hokx.out hoky.out hsx hsy (L := true) (by rw [pv_yes hK]; simp; omega) hK
                      have h2 := one3 sEq hokx.out hoky.out hsx hsy (L := false) (by rw [pv_yes hK]; simp; omega) hK
                      have h3 := one3 sGt hokx.out hoky.out hsx hsy (L := false) (by rw [pv_yes hK]; simp; omega) hK
                      have h4 := one3 sNe hokx.out hoky.out hsx hsy (L := true) (by rw [pv_yes hK]; simp; omega) hK
                      have h5 := one3 sLe hokx.out hoky.out hsx hsy (L := true) (by rw [pv_yes hK]; simp; omega) hK
                      have h6 := one3 sGe hokx.out hoky.out hsx hsy (L := false) (by rw [pv_yes hK]; simp; omega) hK
                      have h7 := one3 sGt hoky.out hokx.out hsy hsx (L := true) (by rw [pv_yes hK', oV_neg]; simp; omega) hK'
                      have h8 := one3 sEq hoky.out hokx.out hsy hsx (L := false) (by rw [pv_yes hK', oV_neg]; simp; omega) hK'
                      have HL : Hid (hLt (oV x y) = true) := by show hLt (oV x y) = true; unfold hLt; simp; omega
                      have H1 := hide h1
                      have H2 := hide h2
                      have H3 := hide h3
                      have H4 := hide h4
                      have H5 := hide h5
                      have H6 := hide h6
                      have H7 := hide h7
                      have H8 := hide h8
                      clear h1 h2 h3 h4 h5 h6 h7 h8 hv hK hK' hsx hsy
                      go_wp2_with fail
                      refine (H1.out _ a11 a12 1 1 (He.out.keep hB5) x5 y5).mono ?_
                      rintro e w6 ⟨rfl, hb6⟩
                      have hB6 := chain0 hB5 hb6
                      have x6 := x5.keep hb6
                      have y6 := y5.keep hb6
                      clear hb6 x5 y5 hB5
                      go_wp2_with fail
                      refine (H2.out _ a11 a12 1 1 (He.out.keep hB6) x6 y6).mono ?_
                      rintro e w7 ⟨rfl, hb7⟩
                      have hB7 := chain0 hB6 hb7
                      have x7 := x6.keep hb7
                      have y7 := y6.keep hb7
                      clear hb7 x6 y6 hB6
                      go_wp2_with fail
                      refine (H3.out _ a11 a12 1 1 (He.out.keep hB7) x7 y7).mono ?_
                      rintro e w8 ⟨rfl, hb8⟩
                      have hB8 := chain0 hB7 hb8
                      have x8 := x7.keep hb8
                      have y8 := y7.keep hb8
                      clear hb8 x7 y7 hB7
                      go_wp2_with fail
                      refine (H4.out _ a11 a12 1 1 (He.out.keep hB8) x8 y8).mono ?_
                      rintro e w9 ⟨rfl, hb9⟩
                      have hB9 := chain0 hB8 hb9
                      have x9 := x8.keep hb9
                      have y9 := y8.keep hb9
                      clear hb9 x8 y8 hB8
                      go_wp2_with fail
                      refine (H5.out _ a11 a12 1 1 (He.out.keep hB9) x9 y9).mono ?_
                      rintro e w10 ⟨rfl, hb10⟩
                      have hB10 := chain0 hB9 hb10
                      have x10 := x9.keep hb10
                      have y10 := y9.keep hb10
                      clear hb10 x9 y9 hB9
                      go_wp2_with fail
                      refine (H6.out _ a11 a12 1 1 (He.out.keep hB10) x10 y10).mono ?_
                      rintro e w11 ⟨rfl, hb11⟩
                      have hB11 := chain0 hB10 hb11
                      have x11 := x10.keep hb11
                      have y11 := y10.keep hb11
                      clear hb11 x10 y10 hB10
                      go_wp2_with fail
                      refine (H7.out _ a12 a11 1 1 (He.out.keep hB11) y11 x11).mono ?_
                      rintro e w12 ⟨rfl, hb12⟩
                      have hB12 := chain0 hB11 hb12
                      have x12 := x11.keep hb12
                      have y12 := y11.keep hb12
                      clear hb12 x11 y11 hB11
                      go_wp2_with fail
                      refine (H8.out _ a12 a11 1 1 (He.out.keep hB12) y12 x12).mono ?_
                      rintro e w13 ⟨rfl, hb13⟩
                      have hB13 := chain0 hB12 hb13
                      have x13 := x12.keep hb13
                      have y13 := y12.keep hb13
                      clear hb13 x12 y12 hB12
                      clear x13 y13
                      cases hSv : S with
                      | true =>
                        have HS3 := hide (HSg.out true (by rw [hSv]; rfl))
                        clear HSg hSv HL
                        go_wp2
                        go_roundw
                        case rel => exact ⟨j + 1, F, true, by omega, rfl, rfl, by simp, HF2, HS3, hB13⟩
                        case measure => simp [intOf]; omega
                      | false =>
                        have HS3 := hide (HSg.out true (by rw [hSv, HL.out]; rfl))
                        clear HSg hSv HL
                        go_wp2
                        go_roundw
                        case rel => exact ⟨j + 1, F, true, by omega, rfl, rfl, by simp, HF2, HS3, hB13⟩
                        case measure => simp [intOf]; omega
                    · have h1 := one3 sLt hokx.out hoky.out hsx hsy (L := false) (by rw [pv_yes hK]; simp; omega) hK
                      have h2 := one3 sEq hokx.out hoky.out hsx hsy (L := true) (by rw [pv_yes hK]; simp; omega) hK
                      have h3 := one3 sGt hokx.out hoky.out hsx hsy (L := false) (by rw [pv_yes hK]; simp; omega) hK
                      have h4 := one3 sNe hokx.out hoky.out hsx hsy (L := false) (by rw [pv_yes hK]; simp; omega) hK
                      have h5 := one3 sLe hokx.out hoky.out hsx hsy (L := true) (by rw [pv_yes hK]; simp; omega) hK
                      have h6 := one3 sGe hokx.out hoky.out hsx hsy (L := true) (by rw [pv_yes hK]; simp; omega) hK
                      have h7 := one3 sGt hoky.out hokx.out hsy hsx (L := false) (by rw [pv_yes hK', oV_neg]; simp; omega) hK'
                      have h8 := one3 sEq hoky.out hokx.out hsy hsx (L := true) (by rw [pv_yes hK', oV_neg]; simp; omega) hK'
                      have HL : Hid (hLt (oV x y) = false) := by show hLt (oV x y) = false; unfold hLt; simp; omega
                      have H1 := hide h1
                      have H2 := hide h2
                      have H3 := hide h3
                      have H4 := hide h4
                      have H5 := hide h5
                      have H6 := hide h6
                      have H7 := hide h7
                      have H8 := hide h8
                      clear h1 h2 h3 h4 h5 h6 h7 h8 hv hK hK' hsx hsy
                      go_wp2_with fail
                      refine (H1.out _ a11 a12 1 1 (He.out.keep hB5) x5 y5).mono ?_
                      rintro e w6 ⟨rfl, hb6⟩
                      have hB6 := chain0 hB5 hb6
                      have x6 := x5.keep hb6
                      have y6 := y5.keep hb6
                      clear hb6 x5 y5 hB5
                      go_wp2_with fail
                      refine (H2.out _ a11 a12 1 1 (He.out.keep hB6) x6 y6).mono ?_
                      rintro e w7 ⟨rfl, hb7⟩
                      have hB7 := chain0 hB6 hb7
                      have x7 := x6.keep hb7
                      have y7 := y6.keep hb7
                      clear hb7 x6 y6 hB6
                      go_wp2_with fail
                      refine (H3.out _ a11 a12 1 1 (He.out.keep hB7) x7 y7).mono ?_
                      rintro e w8 ⟨rfl, hb8⟩
                      have hB8 := chain0 hB7 hb8
                      have x8 := x7.keep hb8
                      have y8 := y7.keep hb8
                      clear hb8 x7 y7 hB7
                      go_wp2_with fail
                      refine (H4.out _ a11 a12 1 1 (He.out.keep hB8) x8 y8).mono ?_
                      rintro e w9 ⟨rfl, hb9⟩
                      have hB9 := chain0 hB8 hb9
                      have x9 := x8.keep hb9
                      have y9 := y8.keep hb9
                      clear hb9 x8 y8 hB8
                      go_wp2_with fail
                      refine (H5.out _ a11 a12 1 1 (He.out.keep hB9) x9 y9).mono ?_
                      rintro e w10 ⟨rfl, hb10⟩
                      have hB10 := chain0 hB9 hb10
                      have x10 := x9.keep hb10
                      have y10 := y9.keep hb10
                      clear hb10 x9 y9 hB9
                      go_wp2_with fail
                      refine (H6.out _ a11 a12 1 1 (He.out.keep hB10) x10 y10).mono ?_
                      rintro e w11 ⟨rfl, hb11⟩
                      have hB11 := chain0 hB10 hb11
                      have x11 := x10.keep hb11
                      have y11 := y10.keep hb11
                      clear hb11 x10 y10 hB10
                      go_wp2_with fail
                      refine (H7.out _ a12 a11 1 1 (He.out.keep hB11) y11 x11).mono ?_
                      rintro e w12 ⟨rfl, hb12⟩
                      have hB12 := chain0 hB11 hb12
                      have x12 := x11.keep hb12
                      have y12 := y11.keep hb12
                      clear hb12 x11 y11 hB11
                      go_wp2_with fail
                      refine (H8.out _ a12 a11 1 1 (He.out.keep hB12) y12 x12).mono ?_
                      rintro e w13 ⟨rfl, hb13⟩
                      have hB13 := chain0 hB12 hb13
                      have x13 := x12.keep hb13
                      have y13 := y12.keep hb13
                      clear hb13 x12 y12 hB12
                      clear x13 y13
                      cases hSv : S with
                      | true =>
                        have HS3 := hide (HSg.out true (by rw [hSv]; rfl))
                        clear HSg hSv HL
                        go_wp2
                        go_roundw
                        case rel => exact ⟨j + 1, F, true, by omega, rfl, rfl, by simp, HF2, HS3, hB13⟩
                        case measure => simp [intOf]; omega
                      | false =>
                        have HS3 := hide (HSg.out false (by rw [hSv, HL.out]; rfl))
                        clear HSg hSv HL
                        go_wp2
                        go_roundw
                        case rel => exact ⟨j + 1, F, false, by omega, rfl, rfl, by simp, HF2, HS3, hB13⟩
                        case measure => simp [intOf]; omega
                    · have h1 := one3 sLt hokx.out hoky.out hsx hsy (L := false) (by rw [pv_yes hK]; simp; omega) hK
                      have h2 := one3 sEq hokx.out hoky.out hsx hsy (L := false) (by rw [pv_yes hK]; simp; omega) hK
                      have h3 := one3 sGt hokx.out hoky.out hsx hsy (L := true) (by rw [pv_yes hK]; simp; omega) hK
                      have h4 := one3 sNe hokx.out hoky.out hsx hsy (L := true) (by rw [pv_yes hK]; simp; omega) hK
                      have h5 := one3 sLe hokx.out hoky.out hsx hsy (L := false) (by rw [pv_yes hK]; simp; omega) hK
                      have h6 := one3 sGe hokx.out hoky.out hsx hsy (L := true) (by rw [pv_yes hK]; simp; omega) hK
                      have h7 := one3 sGt hoky.out hokx.out hsy hsx (L := false) (by rw [pv_yes hK', oV_neg]; simp; omega) hK'
                      have h8 := one3 sEq hoky.out hokx.out hsy hsx (L := false) (by rw [pv_yes hK', oV_neg]; simp; omega) hK'
                      have HL : Hid (hLt (oV x y) = false) := by show hLt (oV x y) = false; unfold hLt; simp; omega
                      have H1 := hide h1
                      have H2 := hide h2
                      have H3 := hide h3
                      have H4 := hide h4
                      have H5 := hide h5
                      have H6 := hide h6
                      have H7 := hide h7
                      have H8 := hide h8
                      clear h1 h2 h3 h4 h5 h6 h7 h8 hv hK hK' hsx hsy
                      go_wp2_with fail
                      refine (H1.out _ a11 a12 1 1 (He.out.keep hB5) x5 y5).mono ?_
                      rintro e w6 ⟨rfl, hb6⟩
                      have hB6 := chain0 hB5 hb6
                      have x6 := x5.keep hb6
                      have y6 := y5.keep hb6
                      clear hb6 x5 y5 hB5
                      go_wp2_with fail
                      refine (H2.out _ a11 a12 1 1 (He.out.keep hB6) x6 y6).mono ?_
                      rintro e w7 ⟨rfl, hb7⟩
                      have hB7 := chain0 hB6 hb7
                      have x7 := x6.keep hb7
                      have y7 := y6.keep hb7
                      clear hb7 x6 y6 hB6
                      go_wp2_with fail
                      refine (H3.out _ a11 a12 1 1 (He.out.keep hB7) x7 y7).mono ?_
                      rintro e w8 ⟨rfl, hb8⟩
                      have hB8 := chain0 hB7 hb8
                      have x8 := x7.keep hb8
                      have y8 := y7.keep hb8
                      clear hb8 x7 y7 hB7
                      go_wp2_with fail
                      refine (H4.out _ a11 a12 1 1 (He.out.keep hB8) x8 y8).mono ?_
                      rintro e w9 ⟨rfl, hb9⟩
                      have hB9 := chain0 hB8 hb9
                      have x9 := x8.keep hb9
                      have y9 := y8.keep hb9
                      clear hb9 x8 y8 hB8
                      go_wp2_with fail
                      refine (H5.out _ a11 a12 1 1 (He.out.keep hB9) x9 y9).mono ?_
                      rintro e w10 ⟨rfl, hb10⟩
                      have hB10 := chain0 hB9 hb10
                      have x10 := x9.keep hb10
                      have y10 := y9.keep hb10
                      clear hb10 x9 y9 hB9
                      go_wp2_with fail
                      refine (H6.out _ a11 a12 1 1 (He.out.keep hB10) x10 y10).mono ?_
                      rintro e w11 ⟨rfl, hb11⟩
                      have hB11 := chain0 hB10 hb11
                      have x11 := x10.keep hb11
                      have y11 := y10.keep hb11
                      clear hb11 x10 y10 hB10
                      go_wp2_with fail
                      refine (H7.out _ a12 a11 1 1 (He.out.keep hB11) y11 x11).mono ?_
                      rintro e w12 ⟨rfl, hb12⟩
                      have hB12 := chain0 hB11 hb12
                      have x12 := x11.keep hb12
                      have y12 := y11.keep hb12
                      clear hb12 x11 y11 hB11
                      go_wp2_with fail
                      refine (H8.out _ a12 a11 1 1 (He.out.keep hB12) y12 x12).mono ?_
                      rintro e w13 ⟨rfl, hb13⟩
                      have hB13 := chain0 hB12 hb13
                      have x13 := x12.keep hb13
                      have y13 := y12.keep hb13
                      clear hb13 x12 y12 hB12
                      clear x13 y13
                      cases hSv : S with
                      | true =>
                        have HS3 := hide (HSg.out true (by rw [hSv]; rfl))
                        clear HSg hSv HL
                        go_wp2
                        go_roundw
                        case rel => exact ⟨j + 1, F, true, by omega, rfl, rfl, by simp, HF2, HS3, hB13⟩
                        case measure => simp [intOf]; omega
                      | false =>
                        have HS3 := hide (HSg.out false (by rw [hSv, HL.out]; rfl))
                        clear HSg hSv HL
                        go_wp2
                        go_roundw
                        case rel => exact ⟨j + 1, F, false, by omega, rfl, rfl, by simp, HF2, HS3, hB13⟩
                        case measure => simp [intOf]; omega
                  · have hKf : pk x y = false := by simpa using hK
                    have HF2 : Hid (false = ((la.take k).all (rowOk lb) && (lb.take (j + 1)).all (pk x))) := by
                      show _ = _
                      rw [take_all _ _ _ _ Hy.out, hKf, Bool.and_false, Bool.and_false]
                    have HS2 : Hid (false = true → S = ((la.take k).any (rowLt lb) || (lb.take (j + 1)).any fun y => hLt (oV x y))) := by
                      show _ → _
                      intro h; cases h
                    have h1 := one3 sLt hokx.out hoky.out hsx hsy (L := false) (pv_no hKf) hKf
                    have h2 := one3 sEq hokx.out hoky.out hsx hsy (L := false) (pv_no hKf) hKf
                    have h3 := one3 sGt hokx.out hoky.out hsx hsy (L := false) (pv_no hKf) hKf
                    have H1 := hide h1
                    have H2 := hide h2
                    have H3 := hide h3
                    clear h1 h2 h3 hK hKf HF HS hsx hsy
                    go_wp2_with fail
                    refine (H1.out _ a11 a12 1 1 (He.out.keep hB5) x5 y5).mono ?_
                    rintro e w6 ⟨rfl, hb6⟩
                    have hB6 := chain0 hB5 hb6
                    have x6 := x5.keep hb6
                    have y6 := y5.keep hb6
                    clear hb6 x5 y5 hB5
                    go_wp2_with fail
                    refine (H2.out _ a11 a12 1 1 (He.out.keep hB6) x6 y6).mono ?_
                    rintro e w7 ⟨rfl, hb7⟩
                    have hB7 := chain0 hB6 hb7
                    have x7 := x6.keep hb7
                    have y7 := y6.keep hb7
                    clear hb7 x6 y6 hB6
                    go_wp2_with fail
                    refine (H3.out _ a11 a12 1 1 (He.out.keep hB7) x7 y7).mono ?_
                    rintro e w8 ⟨rfl, hb8⟩
                    have hB8 := chain0 hB7 hb8
                    have x8 := x7.keep hb8
                    have y8 := y7.keep hb8
                    clear hb8 x7 y7 hB7
                    clear x8 y8
                    go_wp2
                    go_roundw
                    case rel => exact ⟨j + 1, false, S, by omega, rfl, rfl, by simp, HF2, HS2, hB8⟩
                    case measure => simp [intOf]; omega
                · have hI2 : ¬ (j : Int) < (nb : Int) := by omega
                  have htk : lb.take j = lb := List.take_of_length_le (by have := Hnb.out; omega)
                  have HF2 : Hid (F = (la.take (k + 1)).all (rowOk lb)) := by
                    show _ = _
                    rw [HF.out, htk, take_all _ _ _ _ Hx.out]; rfl
                  have HS2 : Hid (F = true → S = (la.take (k + 1)).any (rowLt lb)) := by
                    show _ → _
                    intro h
                    rw [HS.out h, htk, take_any _ _ _ _ Hx.out]; rfl
                  clear HF HS htk
                  go_wp2
                  go_roundw
                  case rel => exact ⟨k + 1, F, S, by omega, rfl, rfl, by simp, HF2, HS2, hB⟩
                  case measure => simp [intOf]; omega
            · have hI : ¬ (k : Int) < (na : Int) := by omega
              have htk : la.take k = la := List.take_of_length_le (by have := Hna.out; omega)
              cases hF : F with
              | false =>
                clear HF HS htk hF
                go_wp2
                go_ret
                exact ⟨rfl, hB⟩
              | true =>
                have h1 : la.all (rowOk lb) = true := by have := HF.out; rw [hF, htk] at this; exact this.symm
                have h2 : S = la.any (rowLt lb) := by have := HS.out hF; rwa [htk] at this
                have h3 : cmpA hLt ⟨pa, la, ca⟩ ⟨pb, lb, cb⟩ = (S, 0) := by
                  unfold cmpA
                  rw [if_pos Hr.out, h2]
                  refine cOut_all hLt lb la ?_
                  rw [← h1]
                  congr 1
                have H3 := hide h3
                clear HF HS htk hF h1 h2 h3
                go_wp2_with fail
                refine (lholds_any ⟨#[60]⟩ hLt pa pb na nb ca cb la lb _ (He.out.keep hB) sLt ⟨Ha.out.1.keep hB, Ha.out.2⟩ ⟨Hb.out.1.keep hB, Hb.out.2⟩ Hna.out Hnb.out).mono ?_
                rintro e w4 ⟨rfl, hb4⟩
                have hB4 := chain0 hB hb4
                rw [H3.out]
                clear hb4 H3
                cases S with
                | true =>
                  go_wp2
                  go_ret
                  exact ⟨rfl, hB4⟩
                | false =>
                  go_wp2
                  go_ret
                  exact ⟨rfl, hB4⟩
        · have hce : cmpA hEq ⟨pa, la, ca⟩ ⟨pb, lb, cb⟩ = (false, 2) := by unfold cmpA; rw [if_neg (by rw [hr]; decide)]
          rw [hce]
          clear hr hce
          go_wp2
          go_ret
          exact ⟨rfl, hB3⟩
end Go.Proofs.YtfbliaonfkalfaaGreatDoor

