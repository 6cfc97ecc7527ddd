/- value.order, value.holds, value.Compare at any items. -/
import Derived.Test.YtnhjphjdncaimaaGreatDoorTn
import Derived.Test.YtnhjphjdncaimaaGreatDoorVe
import Derived.Test.YtnhjphjdncaimaaGreatDoorRgi
namespace Go.Proofs.YtnhjphjdncaimaaGreatDoor
open Go.RowKit
/-- how two items stand, and whether they may be held against each other -/
def oE (x y : It) : Int :=
  if (decide (x.kind = 4) != decide (y.kind = 4)) = true then 250
  else if x.kind = 4 then 0
  else if x.kind ≠ 2 ∧ y.kind ≠ 2 then 0
  else if nE x = 0 ∧ nE y = 0 then 0 else 250
def oV (x y : It) : Int :=
  if (decide (x.kind = 4) != decide (y.kind = 4)) = true then 0
  else if x.kind = 4 then cmpInt x.num y.num
  else if x.kind ≠ 2 ∧ y.kind ≠ 2 then cmpT x.text y.text
  else if nE x = 0 ∧ nE y = 0 then cmpInt (nV x) (nV y) else 0
theorem nmix {x y : It} (p : ¬ x.kind = 4) (q : ¬ y.kind = 4) : (decide (x.kind = 4) != decide (y.kind = 4)) = false := by simp [p, q]
theorem n22 {x y : It} (h : x.kind = 2 ∨ y.kind = 2) : ¬ (x.kind ≠ 2 ∧ y.kind ≠ 2) := by omega
theorem oV_num {x y : It} (p : ¬ x.kind = 4) (q : ¬ y.kind = 4) (h : x.kind = 2 ∨ y.kind = 2) (n1 : nE x = 0) (n2 : nE y = 0) : oV x y = cmpInt (nV x) (nV y) := by
  unfold oV; rw [if_neg (by rw [nmix p q]; decide), if_neg p, if_neg (n22 h), if_pos ⟨n1, n2⟩]
theorem oE_num {x y : It} (p : ¬ x.kind = 4) (q : ¬ y.kind = 4) (h : x.kind = 2 ∨ y.kind = 2) (n1 : nE x = 0) (n2 : nE y = 0) : oE x y = 0 := by
  unfold oE; rw [if_neg (by rw [nmix p q]; decide), if_neg p, if_neg (n22 h), if_pos ⟨n1, n2⟩]
theorem oV_no {x y : It} (p : ¬ x.kind = 4) (q : ¬ y.kind = 4) (h : x.kind = 2 ∨ y.kind = 2) (n : ¬ nE x = 0 ∨ ¬ nE y = 0) : oV x y = 0 := by
  unfold oV; rw [if_neg (by rw [nmix p q]; decide), if_neg p, if_neg (n22 h), if_neg (by rintro ⟨a, b⟩; rcases n with n | n <;> contradiction)]
theorem oE_no {x y : It} (p : ¬ x.kind = 4) (q : ¬ y.kind = 4) (h : x.kind = 2 ∨ y.kind = 2) (n : ¬ nE x = 0 ∨ ¬ nE y = 0) : oE x y = 250 := by
  unfold oE; rw [if_neg (by rw [nmix p q]; decide), if_neg p, if_neg (n22 h), if_neg (by rintro ⟨a, b⟩; rcases n with n | n <;> contradiction)]
set_option maxRecDepth 100000 in
set_option maxHeartbeats 4000000 in
theorem order_any (k1 k2 : Nat) (a1 a2 d1 d2 : Int) (t1 t2 : ByteArray) (w : World) (he : Env w) (hs1 : t1.size ≤ 140737488355328) (hs2 : t2.size ≤ 140737488355328) :
    Calls Tryz.prog 26 #[.agg #[.int .u8 k1, .int .i64 a1, .string t1, .int .i64 d1], .agg #[.int .u8 k2, .int .i64 a2, .string t2, .int .i64 d2]] w fun e w' => e = .returned (.tuple #[.int .i64 (oV ⟨k1, a1, t1, d1⟩ ⟨k2, a2, t2, d2⟩), .int .i64 (oE ⟨k1, a1, t1, d1⟩ ⟨k2, a2, t2, d2⟩)]) ∧ Below w.heap.size w w' := by
  have He := hide he
  clear he
  have hB0 : Below w.heap.size w ((w.alloc (.cells #[.int .u8 k1, .int .i64 a1, .string t1, .int .i64 d1] 38)).alloc (.cells #[.int .u8 k2, .int .i64 a2, .string t2, .int .i64 d2] 38)) := ((Below.refl _ _).alloc (Nat.le_refl _) _).alloc (by simp) _
  have y_b : Blk ((w.alloc (.cells #[.int .u8 k1, .int .i64 a1, .string t1, .int .i64 d1] 38)).alloc (.cells #[.int .u8 k2, .int .i64 a2, .string t2, .int .i64 d2] 38)) (w.heap.size + 1) 38 #[.int .u8 k2, .int .i64 a2, .string t2, .int .i64 d2] := by
    have := Blk.new (w.alloc (.cells #[.int .u8 k1, .int .i64 a1, .string t1, .int .i64 d1] 38)) 38 #[.int .u8 k2, .int .i64 a2, .string t2, .int .i64 d2]
    simpa using this
  by_cases p4 : k1 = 4
  · have f1 : ((k1 : Int) == 4) = true := by simpa using (show (k1 : Int) = 4 by omega)
    by_cases q4 : k2 = 4
    · have f2 : ((k2 : Int) == 4) = true := by simpa using (show (k2 : Int) = 4 by omega)
      have HV : Hid (oV ⟨k1, a1, t1, d1⟩ ⟨k2, a2, t2, d2⟩ = cmpInt a1 a2) := by show _ = _; simp [oV, p4, q4]
      have HE : Hid (oE ⟨k1, a1, t1, d1⟩ ⟨k2, a2, t2, d2⟩ = 0) := by show _ = _; simp [oE, p4, q4]
      clear p4 q4
      go_enter Tryz.func26, Tryz.ntmps26
      go_wp2_with fail
      refine (cmpCompare_any _ _ _).mono ?_
      rintro e w3 ⟨rfl, rfl⟩
      go_wp2
      go_ret2
      exact ⟨by rw [HV.out, HE.out]; rfl, hB0⟩
    · have f2 : ((k2 : Int) == 4) = false := by simpa using (show (k2 : Int) ≠ 4 by omega)
      have HV : Hid (oV ⟨k1, a1, t1, d1⟩ ⟨k2, a2, t2, d2⟩ = 0) := by show _ = _; simp [oV, p4, q4]
      have HE : Hid (oE ⟨k1, a1, t1, d1⟩ ⟨k2, a2, t2, d2⟩ = 250) := by show _ = _; simp [oE, p4, q4]
      clear p4 q4
      go_enter Tryz.func26, Tryz.ntmps26
      go_wp2
      go_ret2
      exact ⟨by rw [HV.out, HE.out]; rfl, hB0⟩
  · have f1 : ((k1 : Int) == 4) = false := by simpa using (show (k1 : Int) ≠ 4 by omega)
    by_cases q4 : k2 = 4
    · have f2 : ((k2 : Int) == 4) = true := by simpa using (show (k2 : Int) = 4 by omega)
      have HV : Hid (oV ⟨k1, a1, t1, d1⟩ ⟨k2, a2, t2, d2⟩ = 0) := by show _ = _; simp [oV, p4, q4]
      have HE : Hid (oE ⟨k1, a1, t1, d1⟩ ⟨k2, a2, t2, d2⟩ = 250) := by show _ = _; simp [oE, p4, q4]
      clear p4 q4
      go_enter Tryz.func26, Tryz.ntmps26
      go_wp2
      go_ret2
      exact ⟨by rw [HV.out, HE.out]; rfl, hB0⟩
    · have f2 : ((k2 : Int) == 4) = false := by simpa using (show (k2 : Int) ≠ 4 by omega)
      by_cases p2 : k1 = 2
      · have g1 : ((k1 : Int) != 2) = false := by simpa using (show (k1 : Int) = 2 by omega)
        have H2 : Hid (k1 = 2 ∨ k2 = 2) := .inl p2
        have H4 := hide p4
        have H5 := hide q4
        clear p2 p4 q4
        go_enter Tryz.func26, Tryz.ntmps26
        go_wp2_with fail
        refine (number_any k1 a1 d1 t1 _ (He.out.keep hB0) hs1).mono ?_
        rintro e w1 ⟨rfl, hb1⟩
        have hB1 := chain0 hB0 hb1
        have x_b : Blk w1 (w.heap.size + 1) 38 #[.int .u8 k2, .int .i64 a2, .string t2, .int .i64 d2] := y_b.keep hb1
        clear hb1
        have c0 := x_b.cell 0
        have c1 := x_b.cell 1
        have c2 := x_b.cell 2
        have c3 := x_b.cell 3
        simp only [List.getElem?_toArray, List.getElem?_cons_zero, List.getElem?_cons_succ] at c0 c1 c2 c3
        go_wp2_with fail
        refine (number_any k2 a2 d2 t2 _ (He.out.keep hB1) hs2).mono ?_
        rintro e w2 ⟨rfl, hb2⟩
        have hB2 := chain0 hB1 hb2
        clear hb2 c0 c1 c2 c3 hB1
        by_cases n1 : nE ⟨k1, a1, t1, d1⟩ = 0
        · by_cases n2 : nE ⟨k2, a2, t2, d2⟩ = 0
          · have HV : Hid (oV ⟨k1, a1, t1, d1⟩ ⟨k2, a2, t2, d2⟩ = cmpInt (nV ⟨k1, a1, t1, d1⟩) (nV ⟨k2, a2, t2, d2⟩)) := oV_num H4.out H5.out H2.out n1 n2
            have HE : Hid (oE ⟨k1, a1, t1, d1⟩ ⟨k2, a2, t2, d2⟩ = 0) := oE_num H4.out H5.out H2.out n1 n2
            rw [n1, n2]
            have n1' : True := trivial
            generalize nV ⟨k1, a1, t1, d1⟩ = v1 at *
            generalize nV ⟨k2, a2, t2, d2⟩ = v2 at *
            clear n1 n2 H2 H4 H5 f1 f2 g1
            go_wp2_with fail
            refine (cmpCompare_any _ _ _).mono ?_
            rintro e w3 ⟨rfl, rfl⟩
            go_wp2
            go_ret2
            exact ⟨by rw [HV.out, HE.out]; rfl, hB2⟩
          · have n2' : (nE ⟨k2, a2, t2, d2⟩ != 0) = true := by simpa using n2
            have HV : Hid (oV ⟨k1, a1, t1, d1⟩ ⟨k2, a2, t2, d2⟩ = 0) := oV_no H4.out H5.out H2.out (.inr n2)
            have HE : Hid (oE ⟨k1, a1, t1, d1⟩ ⟨k2, a2, t2, d2⟩ = 250) := oE_no H4.out H5.out H2.out (.inr n2)
            rw [n1]
            generalize nE ⟨k2, a2, t2, d2⟩ = e2 at n2' ⊢
            clear n1 n2 H2 H4 H5 f1 f2 g1
            go_wp2
            go_ret2
            exact ⟨by rw [HV.out, HE.out]; rfl, hB2⟩
        · have n1' : (nE ⟨k1, a1, t1, d1⟩ != 0) = true := by simpa using n1
          have HV : Hid (oV ⟨k1, a1, t1, d1⟩ ⟨k2, a2, t2, d2⟩ = 0) := oV_no H4.out H5.out H2.out (.inl n1)
          have HE : Hid (oE ⟨k1, a1, t1, d1⟩ ⟨k2, a2, t2, d2⟩ = 250) := oE_no H4.out H5.out H2.out (.inl n1)
          generalize nE ⟨k1, a1, t1, d1⟩ = e1 at n1' ⊢
          clear n1 H2 H4 H5 f1 f2 g1
          go_wp2
          go_ret2
          exact ⟨by rw [HV.out, HE.out]; rfl, hB2⟩
      · have g1 : ((k1 : Int) != 2) = true := by simpa using (show (k1 : Int) ≠ 2 by omega)
        by_cases q2 : k2 = 2
        · have g2 : ((k2 : Int) != 2) = false := by simpa using (show (k2 : Int) = 2 by omega)
          have H2 : Hid (k1 = 2 ∨ k2 = 2) := .inr q2
          have H4 := hide p4
          have H5 := hide q4
          clear p2 q2 p4 q4
          go_enter Tryz.func26, Tryz.ntmps26
          go_wp2_with fail
          refine (number_any k1 a1 d1 t1 _ (He.out.keep hB0) hs1).mono ?_
          rintro e w1 ⟨rfl, hb1⟩
          have hB1 := chain0 hB0 hb1
          have x_b : Blk w1 (w.heap.size + 1) 38 #[.int .u8 k2, .int .i64 a2, .string t2, .int .i64 d2] := y_b.keep hb1
          clear hb1
          have c0 := x_b.cell 0
          have c1 := x_b.cell 1
          have c2 := x_b.cell 2
          have c3 := x_b.cell 3
          simp only [List.getElem?_toArray, List.getElem?_cons_zero, List.getElem?_cons_succ] at c0 c1 c2 c3
          go_wp2_with fail
          refine (number_any k2 a2 d2 t2 _ (He.out.keep hB1) hs2).mono ?_
          rintro e w2 ⟨rfl, hb2⟩
          have hB2 := chain0 hB1 hb2
          clear hb2 c0 c1 c2 c3 hB1
          by_cases n1 : nE ⟨k1, a1, t1, d1⟩ = 0
          · by_cases n2 : nE ⟨k2, a2, t2, d2⟩ = 0
            · have HV : Hid (oV ⟨k1, a1, t1, d1⟩ ⟨k2, a2, t2, d2⟩ = cmpInt (nV ⟨k1, a1, t1, d1⟩) (nV ⟨k2, a2, t2, d2⟩)) := oV_num H4.out H5.out H2.out n1 n2
              have HE : Hid (oE ⟨k1, a1, t1, d1⟩ ⟨k2, a2, t2, d2⟩ = 0) := oE_num H4.out H5.out H2.out n1 n2
              rw [n1, n2]
              have n1' : True := trivial
              generalize nV ⟨k1, a1, t1, d1⟩ = v1 at *
              generalize nV ⟨k2, a2, t2, d2⟩ = v2 at *
              clear n1 n2 H2 H4 H5 f1 f2 g1
              go_wp2_with fail
              refine (cmpCompare_any _ _ _).mono ?_
              rintro e w3 ⟨rfl, rfl⟩
              go_wp2
              go_ret2
              exact ⟨by rw [HV.out, HE.out]; rfl, hB2⟩
            · have n2' : (nE ⟨k2, a2, t2, d2⟩ != 0) = true := by simpa using n2
              have HV : Hid (oV ⟨k1, a1, t1, d1⟩ ⟨k2, a2, t2, d2⟩ = 0) := oV_no H4.out H5.out H2.out (.inr n2)
              have HE : Hid (oE ⟨k1, a1, t1, d1⟩ ⟨k2, a2, t2, d2⟩ = 250) := oE_no H4.out H5.out H2.out (.inr n2)
              rw [n1]
              generalize nE ⟨k2, a2, t2, d2⟩ = e2 at n2' ⊢
              clear n1 n2 H2 H4 H5 f1 f2 g1
              go_wp2
              go_ret2
              exact ⟨by rw [HV.out, HE.out]; rfl, hB2⟩
          · have n1' : (nE ⟨k1, a1, t1, d1⟩ != 0) = true := by simpa using n1
            have HV : Hid (oV ⟨k1, a1, t1, d1⟩ ⟨k2, a2, t2, d2⟩ = 0) := oV_no H4.out H5.out H2.out (.inl n1)
            have HE : Hid (oE ⟨k1, a1, t1, d1⟩ ⟨k2, a2, t2, d2⟩ = 250) := oE_no H4.out H5.out H2.out (.inl n1)
            generalize nE ⟨k1, a1, t1, d1⟩ = e1 at n1' ⊢
            clear n1 H2 H4 H5 f1 f2 g1
            go_wp2
            go_ret2
            exact ⟨by rw [HV.out, HE.out]; rfl, hB2⟩
        · have g2 : ((k2 : Int) != 2) = true := by simpa using (show (k2 : Int) ≠ 2 by omega)
          have HV : Hid (oV ⟨k1, a1, t1, d1⟩ ⟨k2, a2, t2, d2⟩ = cmpT t1 t2) := by show _ = _; simp [oV, p4, q4, p2, q2]
          have HE : Hid (oE ⟨k1, a1, t1, d1⟩ ⟨k2, a2, t2, d2⟩ = 0) := by show _ = _; simp [oE, p4, q4, p2, q2]
          clear p2 q2 p4 q4
          go_enter Tryz.func26, Tryz.ntmps26
          go_wp2_with fail
          refine (cmpS_any _ _ _).mono ?_
          rintro e w3 ⟨rfl, rfl⟩
          go_wp2
          go_ret2
          exact ⟨by rw [HV.out, HE.out]; rfl, hB0⟩
end Go.Proofs.YtnhjphjdncaimaaGreatDoor
