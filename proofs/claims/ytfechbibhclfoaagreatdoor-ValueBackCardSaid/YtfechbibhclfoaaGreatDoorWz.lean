/- ValueBack: the walk. -/
import Derived.Test.YtfechbibhclfoaaGreatDoorWa
import Derived.Test.YtfechbibhclfoaaGreatDoorWq
namespace Go.Proofs.YtfechbibhclfoaaGreatDoor
open Go.RowKit
/-- sum answers v, ok -/
def SumIs (s : ByteArray) (a b v : Int) (ok : Bool) : Prop := ∀ w, Calls Tryz.prog 5 #[.string s, .int .i64 a, .int .i64 b] w fun e w' => e = .returned (.tuple #[.int .i64 v, .bool ok]) ∧ Below w.heap.size w w'
theorem awake_times1 : Made ⟨#[42]⟩ 1 1 1 0 := by
  have := made_times 1 1 (R64_lit _ (by decide)) (R64_lit _ (by decide))
  rwa [show mkV (fit (1 * 1)) (1 * 1) = 1 by kernel_rfl, show erV (fit (1 * 1)) = 0 by kernel_rfl] at this
theorem awake_minus1 : Made ⟨#[45]⟩ 1 1 0 0 := by
  have := made_minus 1 1 (R64_lit _ (by decide)) (R64_lit _ (by decide))
  rwa [show mkV (fit (1 - 1)) (1 - 1) = 0 by kernel_rfl, show erV (fit (1 - 1)) = 0 by kernel_rfl] at this
theorem awake_mod1 : Made ⟨#[109, 111, 100]⟩ 1 1 0 0 := by
  have := made_mod 1 1 (R64_lit _ (by decide)) (R64_lit _ (by decide)) (by decide)
  rwa [show Int.tmod 1 1 = 0 by kernel_rfl] at this
theorem sumIs_plus (a b : Int) (ha : R64 a) (hb : R64 b) : SumIs ⟨#[43]⟩ a b (mkV (fit (a + b)) (a + b)) (fit (a + b)) := fun w => sum_fit _ a b (a + b) 2 w awake_plus1 (made_plus a b ha hb)
theorem sumIs_times (a b : Int) (ha : R64 a) (hb : R64 b) : SumIs ⟨#[42]⟩ a b (mkV (fit (a * b)) (a * b)) (fit (a * b)) := fun w => sum_fit _ a b (a * b) 1 w awake_times1 (made_times a b ha hb)
theorem sumIs_minus (a b : Int) (ha : R64 a) (hb : R64 b) : SumIs ⟨#[45]⟩ a b (mkV (fit (a - b)) (a - b)) (fit (a - b)) := fun w => sum_fit _ a b (a - b) 0 w awake_minus1 (made_minus a b ha hb)
theorem sumIs_div (a b : Int) (ha : R64 a) (hb : R64 b) (h0 : b ≠ 0) : SumIs ⟨#[100, 105, 118]⟩ a b (mkV (fit (a.tdiv b)) (a.tdiv b)) (fit (a.tdiv b)) := fun w => sum_fit _ a b (a.tdiv b) 1 w awake_div1 (made_div a b ha hb h0)
theorem sumIs_mod (a b : Int) (ha : R64 a) (hb : R64 b) (h0 : b ≠ 0) : SumIs ⟨#[109, 111, 100]⟩ a b (a.tmod b) true := fun w => sum_ok _ a b (a.tmod b) 0 w awake_mod1 (made_mod a b ha hb h0)
theorem sumIs_yes {s : ByteArray} {a b n c : Int} (h : SumIs s a b (mkV (fit n) n) (fit n)) (hn : n = c) (hc : R64 c) : SumIs s a b c true := by
  subst hn
  have := (fit_iff n).2 hc
  rw [this, mkV_yes rfl] at h
  exact h
set_option maxRecDepth 100000 in
set_option maxHeartbeats 8000000 in
theorem valueBack_ok (a b : Int) (ha : R64 a) (hb : R64 b) (m : Int) (ev : Value) (w : World) (hm : w.cell? ⟨3, 0, none⟩ = some (.int .i64 m)) (hc : Counts w) (hv : w.cell? ⟨4, 0, none⟩ = some ev) (hev : ev = .nilIface ∨ ∃ te pe, ev = .iface te pe) :
    Calls Tryz.prog 3 #[.int .i64 a, .int .i64 b] w fun e w' => e = .returned (.bool true) ∧ Below w.heap.size w w' := by
  have Hm := hide hm
  have Hc := hide hc
  have Hv := hide hv
  have Hev := hide hev
  have hB0 := Below.refl w.heap.size w
  obtain ⟨Y, P, ht1, ht2⟩ : ∃ (Y : Int) (P : Bool), SumIs ⟨#[42]⟩ a b Y P ∧ SumIs ⟨#[42]⟩ b a Y P := ⟨_, _, sumIs_times a b ha hb, by rw [Int.mul_comm a b]; exact sumIs_times b a hb ha⟩
  obtain ⟨X, S, hp1, hp2, hp3⟩ : ∃ (X : Int) (S : Bool), SumIs ⟨#[43]⟩ a b X S ∧ SumIs ⟨#[43]⟩ b a X S ∧ (S = true → SumIs ⟨#[45]⟩ X b a true) := by
    refine ⟨_, _, sumIs_plus a b ha hb, by rw [Int.add_comm a b]; exact sumIs_plus b a hb ha, fun h => ?_⟩
    rw [mkV_yes h]
    exact sumIs_yes (sumIs_minus (a + b) b ((fit_iff _).1 h) hb) (by omega) ha
  have T1 := hide ht1
  have T2 := hide ht2
  have P1 := hide hp1
  have P2 := hide hp2
  have P3 := hide hp3
  have Ha := hide ha
  have Hb := hide hb
  clear hm hc hv hev ht1 ht2 hp1 hp2 hp3 ha hb
  go_enter Tryz.func3, Tryz.ntmps3
  go_wp2_with fail
  refine (awake_ok m ev _ Hm.out Hc.out Hv.out Hev.out).mono ?_
  rintro e w1 ⟨rfl, hB1⟩
  clear hB0 Hm Hc Hv Hev
  go_wp2_with fail
  refine (P1.out _).mono ?_
  rintro e w2 ⟨rfl, hb2⟩
  have hB2 : Below w.heap.size w w2 := by first | exact chain0 hB1 hb2 | exact chain1 hB1 hb2 | exact chain2 hB1 hb2
  clear hb2 hB1
  go_wp2_with fail
  refine (P2.out _).mono ?_
  rintro e w3 ⟨rfl, hb3⟩
  have hB3 : Below w.heap.size w w3 := by first | exact chain0 hB2 hb3 | exact chain1 hB2 hb3 | exact chain2 hB2 hb3
  clear hb3 hB2
  go_wp2_with fail
  refine (T1.out _).mono ?_
  rintro e w4 ⟨rfl, hb4⟩
  have hB4 : Below w.heap.size w w4 := by first | exact chain0 hB3 hb4 | exact chain1 hB3 hb4 | exact chain2 hB3 hb4
  clear hb4 hB3
  go_wp2_with fail
  refine (T2.out _).mono ?_
  rintro e w5 ⟨rfl, hb5⟩
  have hB5 : Below w.heap.size w w5 := by first | exact chain0 hB4 hb5 | exact chain1 hB4 hb5 | exact chain2 hB4 hb5
  clear hb5 hB4
  have e1 : (X != X) = false := by simp
  have e2 : (S != S) = false := by simp
  have e3 : (Y != Y) = false := by simp
  have e4 : (P != P) = false := by simp
  cases S with
  | true =>
    clear P1 P2 T1 T2
    go_wp2_with fail
    refine ((P3.out (by trivial)) _).mono ?_
    rintro e w6 ⟨rfl, hb6⟩
    have hB6 : Below w.heap.size w w6 := by first | exact chain0 hB5 hb6 | exact chain1 hB5 hb6 | exact chain2 hB5 hb6
    clear hb6 hB5
    have e5 : (a != a) = false := by simp
    clear P3
    by_cases h0 : b = 0
    · have hz : (b == 0) = true := by simpa using h0
      have hd0 : Hid (Made ⟨#[100, 105, 118]⟩ a b 0 252) := by show Made _ _ _ _ _; rw [h0]; exact made_div0 a
      have hm0 : Hid (Made ⟨#[109, 111, 100]⟩ a b 0 252) := by show Made _ _ _ _ _; rw [h0]; exact made_mod0 a
      clear h0
      go_wp2_with fail
      refine (lwhole_any a _).mono ?_
      rintro e w7 ⟨rfl, hb7⟩
      have hB7 := chain0 hB6 hb7
      clear hB6 hb7
      go_wp2_with fail
      refine (lrow_any _ _ _ _).mono ?_
      rintro e wx ⟨rfl, rfl⟩
      go_wp2_with fail
      refine (lwhole_any b _).mono ?_
      rintro e w8 ⟨rfl, hb8⟩
      have hB8 := chain1 hB7 hb8
      have R8 := hide ((RdI.new w7 32 [⟨2, a, ⟨#[]⟩, 0⟩]).keep hb8)
      clear hB7 hb8
      go_wp2_with fail
      refine (lrow_any _ _ _ _).mono ?_
      rintro e wx ⟨rfl, rfl⟩
      go_wp2_with fail
      refine (arith_no ⟨#[100, 105, 118]⟩ w7.heap.size w8.heap.size 1 1 2 2 a b 0 0 a b 0 1 252 ⟨#[]⟩ ⟨#[]⟩ _ (R8.out.alloc _) (RdI.new w8 32 [⟨2, b, ⟨#[]⟩, 0⟩]) (.int a) (.int b) (isNum_int a) (isNum_int b) awake_div1 hd0.out (by decide)).mono ?_
      rintro e w9 ⟨rfl, hb9⟩
      have hB9 := chain1 hB8 hb9
      clear hB8 hb9 R8
      go_wp2_with fail
      refine (lwhole_any a _).mono ?_
      rintro e w10 ⟨rfl, hb10⟩
      have hB10 := chain0 hB9 hb10
      clear hB9 hb10
      go_wp2_with fail
      refine (lrow_any _ _ _ _).mono ?_
      rintro e wx ⟨rfl, rfl⟩
      go_wp2_with fail
      refine (lwhole_any b _).mono ?_
      rintro e w11 ⟨rfl, hb11⟩
      have hB11 := chain1 hB10 hb11
      have R11 := hide ((RdI.new w10 32 [⟨2, a, ⟨#[]⟩, 0⟩]).keep hb11)
      clear hB10 hb11
      go_wp2_with fail
      refine (lrow_any _ _ _ _).mono ?_
      rintro e wx ⟨rfl, rfl⟩
      go_wp2_with fail
      refine (arith_no ⟨#[109, 111, 100]⟩ w10.heap.size w11.heap.size 1 1 2 2 a b 0 0 a b 0 0 252 ⟨#[]⟩ ⟨#[]⟩ _ (R11.out.alloc _) (RdI.new w11 32 [⟨2, b, ⟨#[]⟩, 0⟩]) (.int a) (.int b) (isNum_int a) (isNum_int b) awake_mod1 hm0.out (by decide)).mono ?_
      rintro e w12 ⟨rfl, hb12⟩
      have hB12 := chain1 hB11 hb12
      clear hB11 hb12 R11
      go_wp2
      go_ret
      exact ⟨rfl, hB12⟩
    · have hz : (b == 0) = false := by simpa using h0
      obtain ⟨M, hM⟩ : ∃ M, M = a.tmod b := ⟨_, rfl⟩
      have hmo : SumIs ⟨#[109, 111, 100]⟩ a b M true := by rw [hM]; exact sumIs_mod a b Ha.out Hb.out h0
      have hdi := sumIs_div a b Ha.out Hb.out h0
      have HM : Hid (R64 M) := by show R64 M; rw [hM]; exact tmod_R a b Ha.out
      have hlt : M.natAbs < b.natAbs := by rw [hM]; exact tmod_lt a b h0
      have hlt2 : (M.natAbs : Int) < (b.natAbs : Int) := by omega
      have hmore : -9223372036854775808 < M := by rw [hM]; exact tmod_more a b Ha.out Hb.out h0
      have hneg : M ≠ 0 → decide (M < 0) = decide (a < 0) := by rw [hM]; exact tmod_neg a b
      rcases Bool.eq_false_or_eq_true (fit (a.tdiv b)) with hf | hf
      · have hfn := div_fits a b Ha.out Hb.out hf
        have hbk := back_fit a b Ha.out
        have hsum := tmod_back a b
        rw [hf, mkV_yes rfl] at hdi
        have hqt : SumIs ⟨#[42]⟩ (a.tdiv b) b (a.tdiv b * b) true := sumIs_yes (sumIs_times _ b ((fit_iff _).1 hf) Hb.out) rfl ((fit_iff _).1 hbk)
        have hqu : SumIs ⟨#[43]⟩ (a.tdiv b * b) M a true := by rw [hM]; exact sumIs_yes (sumIs_plus _ _ ((fit_iff _).1 hbk) (by rw [← hM]; exact HM.out)) hsum Ha.out
        generalize a.tdiv b = D at *
        generalize D * b = T at *
        have Hqt := hide hqt
        have Hqu := hide hqu
        have Hdi := hide hdi
        have Hmo := hide hmo
        have Hneg := hide hneg
        have Hlt := hide hlt
        clear hM hf hbk hsum hqt hqu hdi hmo h0 hneg
        have hneg := Hneg
        go_wp2_with fail
        refine (Hmo.out _).mono ?_
        rintro e w7 ⟨rfl, hb7⟩
        have hB7 : Below w.heap.size w w7 := by first | exact chain0 hB6 hb7 | exact chain1 hB6 hb7 | exact chain2 hB6 hb7
        clear hb7 hB6
        by_cases hbm : b = -1
        · have e8 : (b == -1) = true := by simpa using hbm
          have e9 : (a == -9223372036854775808) = false := by
            simp only [beq_eq_false_iff_ne]
            intro h; exact hfn ⟨hbm, h⟩
          clear hbm hfn
          have e6 : (true == false) = false := rfl
          have e7 : (a == a) = true := by simp
          go_wp2_with fail
          refine (Hdi.out _).mono ?_
          rintro e w8 ⟨rfl, hb8⟩
          have hB8 : Below w.heap.size w w8 := by first | exact chain0 hB7 hb8 | exact chain1 hB7 hb8 | exact chain2 hB7 hb8
          clear hb8 hB7
          go_wp2_with fail
          refine (Hqt.out _).mono ?_
          rintro e w9 ⟨rfl, hb9⟩
          have hB9 : Below w.heap.size w w9 := by first | exact chain0 hB8 hb9 | exact chain1 hB8 hb9 | exact chain2 hB8 hb9
          clear hb9 hB8
          go_wp2_with fail
          refine (Hqu.out _).mono ?_
          rintro e w10 ⟨rfl, hb10⟩
          have hB10 : Below w.heap.size w w10 := by first | exact chain0 hB9 hb10 | exact chain1 hB9 hb10 | exact chain2 hB9 hb10
          clear hb10 hB9
          by_cases hm0 : M = 0
          · have q1 : (M == 0) = true := by simpa using hm0
            clear hm0
            go_wp2_with fail
            refine (lsize_any M HM.out _).mono ?_
            rintro e wx ⟨rfl, rfl⟩
            go_wp2_with fail
            refine (lsize_any b Hb.out _).mono ?_
            rintro e wx ⟨rfl, rfl⟩
            go_wp2
            go_ret
            exact ⟨rfl, hB10⟩
          · have q1 : (M == 0) = false := by simpa using hm0
            have q2 := hneg.out hm0
            clear hm0
            by_cases ha0 : a < 0
            · have q3 : decide (M < 0) = true := by rw [q2]; simpa using ha0
              have q4 : M < 0 := by simpa using q3
              have q5 : decide (a < 0) = true := by simpa using ha0
              go_wp2_with fail
              refine (lsize_any M HM.out _).mono ?_
              rintro e wx ⟨rfl, rfl⟩
              go_wp2_with fail
              refine (lsize_any b Hb.out _).mono ?_
              rintro e wx ⟨rfl, rfl⟩
              go_wp2
              go_ret
              exact ⟨rfl, hB10⟩
            · have q3 : decide (M < 0) = false := by rw [q2]; simpa using ha0
              have q4 : ¬ M < 0 := by simpa using q3
              have q5 : decide (a < 0) = false := by simpa using ha0
              go_wp2_with fail
              refine (lsize_any M HM.out _).mono ?_
              rintro e wx ⟨rfl, rfl⟩
              go_wp2_with fail
              refine (lsize_any b Hb.out _).mono ?_
              rintro e wx ⟨rfl, rfl⟩
              go_wp2
              go_ret
              exact ⟨rfl, hB10⟩
        · have e8 : (b == -1) = false := by simpa using hbm
          clear hbm hfn
          by_cases ham : a = -9223372036854775808
          · have e9 : (a == -9223372036854775808) = true := by simpa using ham
            clear ham
            have e6 : (true == false) = false := rfl
            have e7 : (a == a) = true := by simp
            go_wp2_with fail
            refine (Hdi.out _).mono ?_
            rintro e w8 ⟨rfl, hb8⟩
            have hB8 : Below w.heap.size w w8 := by first | exact chain0 hB7 hb8 | exact chain1 hB7 hb8 | exact chain2 hB7 hb8
            clear hb8 hB7
            go_wp2_with fail
            refine (Hqt.out _).mono ?_
            rintro e w9 ⟨rfl, hb9⟩
            have hB9 : Below w.heap.size w w9 := by first | exact chain0 hB8 hb9 | exact chain1 hB8 hb9 | exact chain2 hB8 hb9
            clear hb9 hB8
            go_wp2_with fail
            refine (Hqu.out _).mono ?_
            rintro e w10 ⟨rfl, hb10⟩
            have hB10 : Below w.heap.size w w10 := by first | exact chain0 hB9 hb10 | exact chain1 hB9 hb10 | exact chain2 hB9 hb10
            clear hb10 hB9
            by_cases hm0 : M = 0
            · have q1 : (M == 0) = true := by simpa using hm0
              clear hm0
              go_wp2_with fail
              refine (lsize_any M HM.out _).mono ?_
              rintro e wx ⟨rfl, rfl⟩
              go_wp2_with fail
              refine (lsize_any b Hb.out _).mono ?_
              rintro e wx ⟨rfl, rfl⟩
              go_wp2
              go_ret
              exact ⟨rfl, hB10⟩
            · have q1 : (M == 0) = false := by simpa using hm0
              have q2 := hneg.out hm0
              clear hm0
              by_cases ha0 : a < 0
              · have q3 : decide (M < 0) = true := by rw [q2]; simpa using ha0
                have q4 : M < 0 := by simpa using q3
                have q5 : decide (a < 0) = true := by simpa using ha0
                go_wp2_with fail
                refine (lsize_any M HM.out _).mono ?_
                rintro e wx ⟨rfl, rfl⟩
                go_wp2_with fail
                refine (lsize_any b Hb.out _).mono ?_
                rintro e wx ⟨rfl, rfl⟩
                go_wp2
                go_ret
                exact ⟨rfl, hB10⟩
              · have q3 : decide (M < 0) = false := by rw [q2]; simpa using ha0
                have q4 : ¬ M < 0 := by simpa using q3
                have q5 : decide (a < 0) = false := by simpa using ha0
                go_wp2_with fail
                refine (lsize_any M HM.out _).mono ?_
                rintro e wx ⟨rfl, rfl⟩
                go_wp2_with fail
                refine (lsize_any b Hb.out _).mono ?_
                rintro e wx ⟨rfl, rfl⟩
                go_wp2
                go_ret
                exact ⟨rfl, hB10⟩
          · have e9 : (a == -9223372036854775808) = false := by simpa using ham
            clear ham
            have e6 : (true == false) = false := rfl
            have e7 : (a == a) = true := by simp
            go_wp2_with fail
            refine (Hdi.out _).mono ?_
            rintro e w8 ⟨rfl, hb8⟩
            have hB8 : Below w.heap.size w w8 := by first | exact chain0 hB7 hb8 | exact chain1 hB7 hb8 | exact chain2 hB7 hb8
            clear hb8 hB7
            go_wp2_with fail
            refine (Hqt.out _).mono ?_
            rintro e w9 ⟨rfl, hb9⟩
            have hB9 : Below w.heap.size w w9 := by first | exact chain0 hB8 hb9 | exact chain1 hB8 hb9 | exact chain2 hB8 hb9
            clear hb9 hB8
            go_wp2_with fail
            refine (Hqu.out _).mono ?_
            rintro e w10 ⟨rfl, hb10⟩
            have hB10 : Below w.heap.size w w10 := by first | exact chain0 hB9 hb10 | exact chain1 hB9 hb10 | exact chain2 hB9 hb10
            clear hb10 hB9
            by_cases hm0 : M = 0
            · have q1 : (M == 0) = true := by simpa using hm0
              clear hm0
              go_wp2_with fail
              refine (lsize_any M HM.out _).mono ?_
              rintro e wx ⟨rfl, rfl⟩
              go_wp2_with fail
              refine (lsize_any b Hb.out _).mono ?_
              rintro e wx ⟨rfl, rfl⟩
              go_wp2
              go_ret
              exact ⟨rfl, hB10⟩
            · have q1 : (M == 0) = false := by simpa using hm0
              have q2 := hneg.out hm0
              clear hm0
              by_cases ha0 : a < 0
              · have q3 : decide (M < 0) = true := by rw [q2]; simpa using ha0
                have q4 : M < 0 := by simpa using q3
                have q5 : decide (a < 0) = true := by simpa using ha0
                go_wp2_with fail
                refine (lsize_any M HM.out _).mono ?_
                rintro e wx ⟨rfl, rfl⟩
                go_wp2_with fail
                refine (lsize_any b Hb.out _).mono ?_
                rintro e wx ⟨rfl, rfl⟩
                go_wp2
                go_ret
                exact ⟨rfl, hB10⟩
              · have q3 : decide (M < 0) = false := by rw [q2]; simpa using ha0
                have q4 : ¬ M < 0 := by simpa using q3
                have q5 : decide (a < 0) = false := by simpa using ha0
                go_wp2_with fail
                refine (lsize_any M HM.out _).mono ?_
                rintro e wx ⟨rfl, rfl⟩
                go_wp2_with fail
                refine (lsize_any b Hb.out _).mono ?_
                rintro e wx ⟨rfl, rfl⟩
                go_wp2
                go_ret
                exact ⟨rfl, hB10⟩
      · have hfn := div_unfit a b Ha.out Hb.out hf
        rw [hf, mkV_no rfl] at hdi
        have hM0 : (M == 0) = true := by
          rw [hM, hfn.1, hfn.2]; decide
        have e8 : (b == -1) = true := by simpa using hfn.1
        have e9 : (a == -9223372036854775808) = true := by simpa using hfn.2
        have Hdi := hide hdi
        have Hmo := hide hmo
        clear hM hf hfn hdi hmo h0 hneg hlt hlt2 hmore
        go_wp2_with fail
        refine (Hmo.out _).mono ?_
        rintro e w7 ⟨rfl, hb7⟩
        have hB7 : Below w.heap.size w w7 := by first | exact chain0 hB6 hb7 | exact chain1 hB6 hb7 | exact chain2 hB6 hb7
        clear hb7 hB6
        go_wp2_with fail
        refine (Hdi.out _).mono ?_
        rintro e w8 ⟨rfl, hb8⟩
        have hB8 : Below w.heap.size w w8 := by first | exact chain0 hB7 hb8 | exact chain1 hB7 hb8 | exact chain2 hB7 hb8
        clear hb8 hB7
        go_wp2
        go_ret
        exact ⟨rfl, hB8⟩
  | false =>
    clear P1 P2 T1 T2 P3
    have hB6 := hB5
    clear hB5
    by_cases h0 : b = 0
    · have hz : (b == 0) = true := by simpa using h0
      have hd0 : Hid (Made ⟨#[100, 105, 118]⟩ a b 0 252) := by show Made _ _ _ _ _; rw [h0]; exact made_div0 a
      have hm0 : Hid (Made ⟨#[109, 111, 100]⟩ a b 0 252) := by show Made _ _ _ _ _; rw [h0]; exact made_mod0 a
      clear h0
      go_wp2_with fail
      refine (lwhole_any a _).mono ?_
      rintro e w7 ⟨rfl, hb7⟩
      have hB7 := chain0 hB6 hb7
      clear hB6 hb7
      go_wp2_with fail
      refine (lrow_any _ _ _ _).mono ?_
      rintro e wx ⟨rfl, rfl⟩
      go_wp2_with fail
      refine (lwhole_any b _).mono ?_
      rintro e w8 ⟨rfl, hb8⟩
      have hB8 := chain1 hB7 hb8
      have R8 := hide ((RdI.new w7 32 [⟨2, a, ⟨#[]⟩, 0⟩]).keep hb8)
      clear hB7 hb8
      go_wp2_with fail
      refine (lrow_any _ _ _ _).mono ?_
      rintro e wx ⟨rfl, rfl⟩
      go_wp2_with fail
      refine (arith_no ⟨#[100, 105, 118]⟩ w7.heap.size w8.heap.size 1 1 2 2 a b 0 0 a b 0 1 252 ⟨#[]⟩ ⟨#[]⟩ _ (R8.out.alloc _) (RdI.new w8 32 [⟨2, b, ⟨#[]⟩, 0⟩]) (.int a) (.int b) (isNum_int a) (isNum_int b) awake_div1 hd0.out (by decide)).mono ?_
      rintro e w9 ⟨rfl, hb9⟩
      have hB9 := chain1 hB8 hb9
      clear hB8 hb9 R8
      go_wp2_with fail
      refine (lwhole_any a _).mono ?_
      rintro e w10 ⟨rfl, hb10⟩
      have hB10 := chain0 hB9 hb10
      clear hB9 hb10
      go_wp2_with fail
      refine (lrow_any _ _ _ _).mono ?_
      rintro e wx ⟨rfl, rfl⟩
      go_wp2_with fail
      refine (lwhole_any b _).mono ?_
      rintro e w11 ⟨rfl, hb11⟩
      have hB11 := chain1 hB10 hb11
      have R11 := hide ((RdI.new w10 32 [⟨2, a, ⟨#[]⟩, 0⟩]).keep hb11)
      clear hB10 hb11
      go_wp2_with fail
      refine (lrow_any _ _ _ _).mono ?_
      rintro e wx ⟨rfl, rfl⟩
      go_wp2_with fail
      refine (arith_no ⟨#[109, 111, 100]⟩ w10.heap.size w11.heap.size 1 1 2 2 a b 0 0 a b 0 0 252 ⟨#[]⟩ ⟨#[]⟩ _ (R11.out.alloc _) (RdI.new w11 32 [⟨2, b, ⟨#[]⟩, 0⟩]) (.int a) (.int b) (isNum_int a) (isNum_int b) awake_mod1 hm0.out (by decide)).mono ?_
      rintro e w12 ⟨rfl, hb12⟩
      have hB12 := chain1 hB11 hb12
      clear hB11 hb12 R11
      go_wp2
      go_ret
      exact ⟨rfl, hB12⟩
    · have hz : (b == 0) = false := by simpa using h0
      obtain ⟨M, hM⟩ : ∃ M, M = a.tmod b := ⟨_, rfl⟩
      have hmo : SumIs ⟨#[109, 111, 100]⟩ a b M true := by rw [hM]; exact sumIs_mod a b Ha.out Hb.out h0
      have hdi := sumIs_div a b Ha.out Hb.out h0
      have HM : Hid (R64 M) := by show R64 M; rw [hM]; exact tmod_R a b Ha.out
      have hlt : M.natAbs < b.natAbs := by rw [hM]; exact tmod_lt a b h0
      have hlt2 : (M.natAbs : Int) < (b.natAbs : Int) := by omega
      have hmore : -9223372036854775808 < M := by rw [hM]; exact tmod_more a b Ha.out Hb.out h0
      have hneg : M ≠ 0 → decide (M < 0) = decide (a < 0) := by rw [hM]; exact tmod_neg a b
      rcases Bool.eq_false_or_eq_true (fit (a.tdiv b)) with hf | hf
      · have hfn := div_fits a b Ha.out Hb.out hf
        have hbk := back_fit a b Ha.out
        have hsum := tmod_back a b
        rw [hf, mkV_yes rfl] at hdi
        have hqt : SumIs ⟨#[42]⟩ (a.tdiv b) b (a.tdiv b * b) true := sumIs_yes (sumIs_times _ b ((fit_iff _).1 hf) Hb.out) rfl ((fit_iff _).1 hbk)
        have hqu : SumIs ⟨#[43]⟩ (a.tdiv b * b) M a true := by rw [hM]; exact sumIs_yes (sumIs_plus _ _ ((fit_iff _).1 hbk) (by rw [← hM]; exact HM.out)) hsum Ha.out
        generalize a.tdiv b = D at *
        generalize D * b = T at *
        have Hqt := hide hqt
        have Hqu := hide hqu
        have Hdi := hide hdi
        have Hmo := hide hmo
        have Hneg := hide hneg
        have Hlt := hide hlt
        clear hM hf hbk hsum hqt hqu hdi hmo h0 hneg
        have hneg := Hneg
        go_wp2_with fail
        refine (Hmo.out _).mono ?_
        rintro e w7 ⟨rfl, hb7⟩
        have hB7 : Below w.heap.size w w7 := by first | exact chain0 hB6 hb7 | exact chain1 hB6 hb7 | exact chain2 hB6 hb7
        clear hb7 hB6
        by_cases hbm : b = -1
        · have e8 : (b == -1) = true := by simpa using hbm
          have e9 : (a == -9223372036854775808) = false := by
            simp only [beq_eq_false_iff_ne]
            intro h; exact hfn ⟨hbm, h⟩
          clear hbm hfn
          have e6 : (true == false) = false := rfl
          have e7 : (a == a) = true := by simp
          go_wp2_with fail
          refine (Hdi.out _).mono ?_
          rintro e w8 ⟨rfl, hb8⟩
          have hB8 : Below w.heap.size w w8 := by first | exact chain0 hB7 hb8 | exact chain1 hB7 hb8 | exact chain2 hB7 hb8
          clear hb8 hB7
          go_wp2_with fail
          refine (Hqt.out _).mono ?_
          rintro e w9 ⟨rfl, hb9⟩
          have hB9 : Below w.heap.size w w9 := by first | exact chain0 hB8 hb9 | exact chain1 hB8 hb9 | exact chain2 hB8 hb9
          clear hb9 hB8
          go_wp2_with fail
          refine (Hqu.out _).mono ?_
          rintro e w10 ⟨rfl, hb10⟩
          have hB10 : Below w.heap.size w w10 := by first | exact chain0 hB9 hb10 | exact chain1 hB9 hb10 | exact chain2 hB9 hb10
          clear hb10 hB9
          by_cases hm0 : M = 0
          · have q1 : (M == 0) = true := by simpa using hm0
            clear hm0
            go_wp2_with fail
            refine (lsize_any M HM.out _).mono ?_
            rintro e wx ⟨rfl, rfl⟩
            go_wp2_with fail
            refine (lsize_any b Hb.out _).mono ?_
            rintro e wx ⟨rfl, rfl⟩
            go_wp2
            go_ret
            exact ⟨rfl, hB10⟩
          · have q1 : (M == 0) = false := by simpa using hm0
            have q2 := hneg.out hm0
            clear hm0
            by_cases ha0 : a < 0
            · have q3 : decide (M < 0) = true := by rw [q2]; simpa using ha0
              have q4 : M < 0 := by simpa using q3
              have q5 : decide (a < 0) = true := by simpa using ha0
              go_wp2_with fail
              refine (lsize_any M HM.out _).mono ?_
              rintro e wx ⟨rfl, rfl⟩
              go_wp2_with fail
              refine (lsize_any b Hb.out _).mono ?_
              rintro e wx ⟨rfl, rfl⟩
              go_wp2
              go_ret
              exact ⟨rfl, hB10⟩
            · have q3 : decide (M < 0) = false := by rw [q2]; simpa using ha0
              have q4 : ¬ M < 0 := by simpa using q3
              have q5 : decide (a < 0) = false := by simpa using ha0
              go_wp2_with fail
              refine (lsize_any M HM.out _).mono ?_
              rintro e wx ⟨rfl, rfl⟩
              go_wp2_with fail
              refine (lsize_any b Hb.out _).mono ?_
              rintro e wx ⟨rfl, rfl⟩
              go_wp2
              go_ret
              exact ⟨rfl, hB10⟩
        · have e8 : (b == -1) = false := by simpa using hbm
          clear hbm hfn
          by_cases ham : a = -9223372036854775808
          · have e9 : (a == -9223372036854775808) = true := by simpa using ham
            clear ham
            have e6 : (true == false) = false := rfl
            have e7 : (a == a) = true := by simp
            go_wp2_with fail
            refine (Hdi.out _).mono ?_
            rintro e w8 ⟨rfl, hb8⟩
            have hB8 : Below w.heap.size w w8 := by first | exact chain0 hB7 hb8 | exact chain1 hB7 hb8 | exact chain2 hB7 hb8
            clear hb8 hB7
            go_wp2_with fail
            refine (Hqt.out _).mono ?_
            rintro e w9 ⟨rfl, hb9⟩
            have hB9 : Below w.heap.size w w9 := by first | exact chain0 hB8 hb9 | exact chain1 hB8 hb9 | exact chain2 hB8 hb9
            clear hb9 hB8
            go_wp2_with fail
            refine (Hqu.out _).mono ?_
            rintro e w10 ⟨rfl, hb10⟩
            have hB10 : Below w.heap.size w w10 := by first | exact chain0 hB9 hb10 | exact chain1 hB9 hb10 | exact chain2 hB9 hb10
            clear hb10 hB9
            by_cases hm0 : M = 0
            · have q1 : (M == 0) = true := by simpa using hm0
              clear hm0
              go_wp2_with fail
              refine (lsize_any M HM.out _).mono ?_
              rintro e wx ⟨rfl, rfl⟩
              go_wp2_with fail
              refine (lsize_any b Hb.out _).mono ?_
              rintro e wx ⟨rfl, rfl⟩
              go_wp2
              go_ret
              exact ⟨rfl, hB10⟩
            · have q1 : (M == 0) = false := by simpa using hm0
              have q2 := hneg.out hm0
              clear hm0
              by_cases ha0 : a < 0
              · have q3 : decide (M < 0) = true := by rw [q2]; simpa using ha0
                have q4 : M < 0 := by simpa using q3
                have q5 : decide (a < 0) = true := by simpa using ha0
                go_wp2_with fail
                refine (lsize_any M HM.out _).mono ?_
                rintro e wx ⟨rfl, rfl⟩
                go_wp2_with fail
                refine (lsize_any b Hb.out _).mono ?_
                rintro e wx ⟨rfl, rfl⟩
                go_wp2
                go_ret
                exact ⟨rfl, hB10⟩
              · have q3 : decide (M < 0) = false := by rw [q2]; simpa using ha0
                have q4 : ¬ M < 0 := by simpa using q3
                have q5 : decide (a < 0) = false := by simpa using ha0
                go_wp2_with fail
                refine (lsize_any M HM.out _).mono ?_
                rintro e wx ⟨rfl, rfl⟩
                go_wp2_with fail
                refine (lsize_any b Hb.out _).mono ?_
                rintro e wx ⟨rfl, rfl⟩
                go_wp2
                go_ret
                exact ⟨rfl, hB10⟩
          · have e9 : (a == -9223372036854775808) = false := by simpa using ham
            clear ham
            have e6 : (true == false) = false := rfl
            have e7 : (a == a) = true := by simp
            go_wp2_with fail
            refine (Hdi.out _).mono ?_
            rintro e w8 ⟨rfl, hb8⟩
            have hB8 : Below w.heap.size w w8 := by first | exact chain0 hB7 hb8 | exact chain1 hB7 hb8 | exact chain2 hB7 hb8
            clear hb8 hB7
            go_wp2_with fail
            refine (Hqt.out _).mono ?_
            rintro e w9 ⟨rfl, hb9⟩
            have hB9 : Below w.heap.size w w9 := by first | exact chain0 hB8 hb9 | exact chain1 hB8 hb9 | exact chain2 hB8 hb9
            clear hb9 hB8
            go_wp2_with fail
            refine (Hqu.out _).mono ?_
            rintro e w10 ⟨rfl, hb10⟩
            have hB10 : Below w.heap.size w w10 := by first | exact chain0 hB9 hb10 | exact chain1 hB9 hb10 | exact chain2 hB9 hb10
            clear hb10 hB9
            by_cases hm0 : M = 0
            · have q1 : (M == 0) = true := by simpa using hm0
              clear hm0
              go_wp2_with fail
              refine (lsize_any M HM.out _).mono ?_
              rintro e wx ⟨rfl, rfl⟩
              go_wp2_with fail
              refine (lsize_any b Hb.out _).mono ?_
              rintro e wx ⟨rfl, rfl⟩
              go_wp2
              go_ret
              exact ⟨rfl, hB10⟩
            · have q1 : (M == 0) = false := by simpa using hm0
              have q2 := hneg.out hm0
              clear hm0
              by_cases ha0 : a < 0
              · have q3 : decide (M < 0) = true := by rw [q2]; simpa using ha0
                have q4 : M < 0 := by simpa using q3
                have q5 : decide (a < 0) = true := by simpa using ha0
                go_wp2_with fail
                refine (lsize_any M HM.out _).mono ?_
                rintro e wx ⟨rfl, rfl⟩
                go_wp2_with fail
                refine (lsize_any b Hb.out _).mono ?_
                rintro e wx ⟨rfl, rfl⟩
                go_wp2
                go_ret
                exact ⟨rfl, hB10⟩
              · have q3 : decide (M < 0) = false := by rw [q2]; simpa using ha0
                have q4 : ¬ M < 0 := by simpa using q3
                have q5 : decide (a < 0) = false := by simpa using ha0
                go_wp2_with fail
                refine (lsize_any M HM.out _).mono ?_
                rintro e wx ⟨rfl, rfl⟩
                go_wp2_with fail
                refine (lsize_any b Hb.out _).mono ?_
                rintro e wx ⟨rfl, rfl⟩
                go_wp2
                go_ret
                exact ⟨rfl, hB10⟩
      · have hfn := div_unfit a b Ha.out Hb.out hf
        rw [hf, mkV_no rfl] at hdi
        have hM0 : (M == 0) = true := by
          rw [hM, hfn.1, hfn.2]; decide
        have e8 : (b == -1) = true := by simpa using hfn.1
        have e9 : (a == -9223372036854775808) = true := by simpa using hfn.2
        have Hdi := hide hdi
        have Hmo := hide hmo
        clear hM hf hfn hdi hmo h0 hneg hlt hlt2 hmore
        go_wp2_with fail
        refine (Hmo.out _).mono ?_
        rintro e w7 ⟨rfl, hb7⟩
        have hB7 : Below w.heap.size w w7 := by first | exact chain0 hB6 hb7 | exact chain1 hB6 hb7 | exact chain2 hB6 hb7
        clear hb7 hB6
        go_wp2_with fail
        refine (Hdi.out _).mono ?_
        rintro e w8 ⟨rfl, hb8⟩
        have hB8 : Below w.heap.size w w8 := by first | exact chain0 hB7 hb8 | exact chain1 hB7 hb8 | exact chain2 hB7 hb8
        clear hb8 hB7
        go_wp2
        go_ret
        exact ⟨rfl, hB8⟩
end Go.Proofs.YtfechbibhclfoaaGreatDoor

