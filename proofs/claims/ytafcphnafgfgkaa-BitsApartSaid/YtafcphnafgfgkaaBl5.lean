/- Contracts of the laws' own helpers: row, sign. -/
import Derived.Deep.RegionWith
import Derived.Deep.Cut
import Derived.Test.YtafcphnafgfgkaaBl4
namespace Go.Proofs.Ytafcphnafgfgkaa
open Go.RowKit Bm
def oddB (b : UInt8) : Bool := b.toNat % 2 == 1
def rowTo (bs : List UInt8) (k : Nat) : List Bool := (bs.take k).map oddB
def rowOf (bs : List UInt8) : List Bool := rowTo bs 200
theorem rowTo_len (bs : List UInt8) (k : Nat) : (rowTo bs k).length = min k bs.length := by simp [rowTo]
theorem rowTo_snoc (bs : List UInt8) (k : Nat) (h : k < bs.length) : rowTo bs (k + 1) = rowTo bs k ++ [oddB bs[k]] := by
  rw [rowTo, List.take_succ_eq_append_getElem h, List.map_append]; rfl
theorem rowOf_len (bs : List UInt8) : (rowOf bs).length ≤ 200 := by unfold rowOf; rw [rowTo_len]; omega
theorem and_bit (r q : List Bool) (b : Bool) (hq : q = r ++ [b]) (hr : r.length ≤ 1000000) (p : ByteArray) (hp : p = pk [b]) (w : World) :
    Calls Try.prog 14 #[.agg #[.string (pk r), .int .i64 r.length], .agg #[.string p, .int .i64 1]] w fun e w' => e = .returned (.agg #[.string (pk q), .int .i64 q.length]) ∧ Below w.heap.size w w' := by
  subst hq hp
  exact and_ok r [b] w (by simp; omega)
set_option maxRecDepth 100000 in
set_option maxHeartbeats 1000000 in
theorem row_any (a : Option Addr) (bs : List UInt8) (n c : Nat) (w : World) (hr : RdB w a bs) (hn : n = bs.length) (hle : n ≤ 140737488351232) :
    Calls Try.prog 15 #[.slice a n c] w fun e w' => e = .returned (.agg #[.string (pk (rowOf bs)), .int .i64 (rowOf bs).length]) ∧ Below w.heap.size w w' := by
  have Hn := hide hn
  have hB := Below.refl w.heap.size w
  clear hn
  go_enter Try.func15, Try.ntmps15
  go_wp2_with fail
  refine (of_1 _).mono ?_
  rintro e w1 ⟨rfl, hb1⟩
  have hB2 : Below w.heap.size w w1 := by first | exact chain0 hB hb1 | exact chain1 hB hb1 | exact chain2 hB hb1 | exact chain3 hB hb1
  clear hB
  have hB := hB2
  clear hB2
  have hsz1 := hb1.size
  simp only [World.size_alloc] at hsz1
  have x_R : Blk w1 w.heap.size 26 #[.string ⟨#[]⟩, .int .i64 0] := ((Blk.new w _ _).alloc _).keep hb1
  have x_O : Blk w1 (w.heap.size + 1) 26 #[.string ⟨#[]⟩, .int .i64 0] := Blk.keep (by simp [blk_alloc_at]) hb1
  clear hb1
  have x_R : Blk w1 w.heap.size 26 #[.string ⟨#[]⟩, .int .i64 0] := x_R
  have x_O : Blk w1 (w.heap.size + 1) 26 #[.string ⟨#[]⟩, .int .i64 0] := x_O
  go_wp2_with fail
  refine (of_0 _).mono ?_
  rintro e w2 ⟨rfl, hb2⟩
  have hB2 : Below w.heap.size w w2 := by first | exact chain0 hB hb2 | exact chain1 hB hb2 | exact chain2 hB hb2 | exact chain3 hB hb2
  clear hB
  have hB := hB2
  clear hB2
  have y_R : Blk w2 w.heap.size 26 #[.string ⟨#[]⟩, .int .i64 0] := by first | exact x_R.keep hb2 | exact (x_R.alloc _).keep hb2 | exact ((x_R.alloc _).alloc _).keep hb2 | exact (((x_R.alloc _).alloc _).alloc _).keep hb2
  have y_O : Blk w2 (w.heap.size + 1) 26 #[.string ⟨#[]⟩, .int .i64 0] := by first | exact x_O.keep hb2 | exact (x_O.alloc _).keep hb2 | exact ((x_O.alloc _).alloc _).keep hb2 | exact (((x_O.alloc _).alloc _).alloc _).keep hb2
  clear x_R x_O
  have x_R := y_R
  have x_O := y_O
  clear y_R y_O
  have x_A : Blk w2 w1.heap.size 26 #[.string ⟨#[128]⟩, .int .i64 1] := (Blk.new w1 _ _).keep hb2
  have hsz2 := hb2.size
  simp only [World.size_alloc] at hsz2
  go_wp2_with fail
  go_loopw [8] (fun x wr => ∃ k : Nat, k ≤ n ∧ k ≤ 200 ∧ x = .int .i64 k ∧ Blk wr w.heap.size 26 #[.string ⟨#[]⟩, .int .i64 0] ∧
      Blk wr (w.heap.size + 1) 26 #[.string (pk (rowTo bs k)), .int .i64 (rowTo bs k).length] ∧
      Blk wr w1.heap.size 26 #[.string ⟨#[128]⟩, .int .i64 1] ∧ Blk wr w2.heap.size 26 #[.string ⟨#[0]⟩, .int .i64 1] ∧ Below w.heap.size w wr) (fun x _ => n - (intOf x).toNat)
  case atStart =>
    have x_O' : Blk w2 (w.heap.size + 1) 26 #[.string (pk (rowTo bs 0)), .int .i64 (rowTo bs 0).length] := by rw [show rowTo bs 0 = [] from rfl]; exact x_O
    exact ⟨0, by omega, by omega, rfl, x_R.alloc _, x_O'.alloc _, x_A.alloc _, Blk.new _ _ _, hB.alloc hB.size _⟩
  case round =>
    clear x_R x_O x_A hB hb2
    obtain ⟨k, hk, hk2, rfl, h0, h1, h2, h3, hB⟩ := hrel
    by_cases hlt : k < n
    · by_cases hlt2 : k < 200
      · have hkb : k < bs.length := by have := Hn.out; omega
        obtain ⟨b, off, ha, hc⟩ := (hr.keep hB).cellAt k hkb
        subst ha
        have hsn := rowTo_snoc bs k hkb
        have hrl : (rowTo bs k).length ≤ 1000000 := by rw [rowTo_len]; omega
        have hk1 : (k : Int) < n := by omega
        have hk3 : (k : Int) < 200 := by omega
        generalize hq : rowTo bs (k + 1) = q at *
        generalize hrr : rowTo bs k = r at *
        have d0 := h1.cell 0
        have d1 := h1.cell 1
        have e0 := h2.cell 0
        have e1 := h2.cell 1
        have e2 := h3.cell 0
        have e3 := h3.cell 1
        simp only [List.getElem?_toArray, List.getElem?_cons_zero, List.getElem?_cons_succ] at d0 d1 e0 e1 e2 e3
        obtain ⟨v, hv⟩ : ∃ v : Nat, v = (bs[k]'hkb).toNat := ⟨_, rfl⟩
        rw [← hv] at hc
        cases hodd : oddB (bs[k]'hkb)
        · have hm0 : ((v : Int) % 2 == 1) = false := by
            unfold oddB at hodd; rw [← hv] at hodd; rw [beq_eq_false_iff_ne] at hodd ⊢; omega
          have hand := hide (and_bit r q false (by rw [hsn, hodd]) hrl _ rfl)
          have Hq := hide hq
          clear hsn hodd hv hq hrr
          go_wp2_with fail
          refine (hand.out _).mono ?_
          rintro e w5 ⟨rfl, hb5⟩
          have l0 := h0.lt
          have l1 := h1.lt
          have l2 := h2.lt
          have l3 := h3.lt
          have g1 := h1.keep hb5
          have g2 := g1.cell 0
          have g3 := g1.cell 1
          have g4 := g1.frozen 0
          have g5 := g1.frozen 1
          simp only [List.getElem?_toArray, List.getElem?_cons_zero, List.getElem?_cons_succ] at g2 g3
          go_wp2
          go_roundw
          case rel =>
            subst q
            have hz : w.heap.size ≤ w5.heap.size := by have := hb5.size; omega
            refine ⟨k + 1, by omega, by omega, by go_num, ((h0.keep hb5).far (by dsimp only; omega) _).far (by dsimp only; omega) _, (g1.set_ 0 _).set_ 1 _, ((h2.keep hb5).far (by dsimp only; omega) _).far (by dsimp only; omega) _, ((h3.keep hb5).far (by dsimp only; omega) _).far (by dsimp only; omega) _, ?_⟩
            exact ((chain hB (by omega) hb5).setCell (by dsimp only; omega) _).setCell (by dsimp only; omega) _
          case measure => simp [intOf]; omega
        · have hm0 : ((v : Int) % 2 == 1) = true := by
            unfold oddB at hodd; rw [← hv] at hodd; rw [beq_iff_eq] at hodd ⊢; omega
          have hand := hide (and_bit r q true (by rw [hsn, hodd]) hrl _ rfl)
          have Hq := hide hq
          clear hsn hodd hv hq hrr
          go_wp2_with fail
          refine (hand.out _).mono ?_
          rintro e w5 ⟨rfl, hb5⟩
          have l0 := h0.lt
          have l1 := h1.lt
          have l2 := h2.lt
          have l3 := h3.lt
          have g1 := h1.keep hb5
          have g2 := g1.cell 0
          have g3 := g1.cell 1
          have g4 := g1.frozen 0
          have g5 := g1.frozen 1
          simp only [List.getElem?_toArray, List.getElem?_cons_zero, List.getElem?_cons_succ] at g2 g3
          go_wp2
          go_roundw
          case rel =>
            subst q
            have hz : w.heap.size ≤ w5.heap.size := by have := hb5.size; omega
            refine ⟨k + 1, by omega, by omega, by go_num, ((h0.keep hb5).far (by dsimp only; omega) _).far (by dsimp only; omega) _, (g1.set_ 0 _).set_ 1 _, ((h2.keep hb5).far (by dsimp only; omega) _).far (by dsimp only; omega) _, ((h3.keep hb5).far (by dsimp only; omega) _).far (by dsimp only; omega) _, ?_⟩
            exact ((chain hB (by omega) hb5).setCell (by dsimp only; omega) _).setCell (by dsimp only; omega) _
          case measure => simp [intOf]; omega
      · have hk1 : (k : Int) < n := by omega
        have hk3 : ¬ (k : Int) < 200 := by omega
        have hfin : rowTo bs k = rowOf bs := by
          have := Hn.out
          unfold rowOf rowTo
          congr 1
          rw [show k = 200 from by omega]
        have d0 := h1.cell 0
        have d1 := h1.cell 1
        have d2 := h0.cell 0
        have d3 := h0.cell 1
        have d4 := h0.frozen 0
        have d5 := h0.frozen 1
        simp only [List.getElem?_toArray, List.getElem?_cons_zero, List.getElem?_cons_succ] at d0 d1 d2 d3
        obtain ⟨r, hrr⟩ : ∃ r, r = rowOf bs := ⟨_, rfl⟩
        rw [hfin, ← hrr] at d0 d1 h1
        have Hr := hide hrr
        clear hrr hfin
        go_wp2
        (try simp only [Exit.inBlock, Exit.then])
        refine bodyPost_ret (results_cell_row (P := Try.prog) (fn := Try.f15) rfl _ _ w.heap.size 26 #[.string (pk r), .int .i64 r.length] (0, 0) _ rfl ((h0.set_ 0 _).set_ 1 _) Try.underlying26 rfl (by kernel_rfl)) rfl ?_
        exact ⟨by rw [Hr.out], (hB.setCell (by dsimp only; omega) _).setCell (by dsimp only; omega) _⟩
    · have hk1 : ¬ (k : Int) < n := by omega
      have hfin : rowTo bs k = rowOf bs := by
        have := Hn.out
        unfold rowOf rowTo
        congr 1
        rw [List.take_of_length_le (by omega), List.take_of_length_le (by omega)]
      have d0 := h1.cell 0
      have d1 := h1.cell 1
      have d2 := h0.cell 0
      have d3 := h0.cell 1
      have d4 := h0.frozen 0
      have d5 := h0.frozen 1
      simp only [List.getElem?_toArray, List.getElem?_cons_zero, List.getElem?_cons_succ] at d0 d1 d2 d3
      obtain ⟨r, hrr⟩ : ∃ r, r = rowOf bs := ⟨_, rfl⟩
      rw [hfin, ← hrr] at d0 d1 h1
      have Hr := hide hrr
      clear hrr hfin
      go_wp2
      (try simp only [Exit.inBlock, Exit.then])
      refine bodyPost_ret (results_cell_row (P := Try.prog) (fn := Try.f15) rfl _ _ w.heap.size 26 #[.string (pk r), .int .i64 r.length] (0, 0) _ rfl ((h0.set_ 0 _).set_ 1 _) Try.underlying26 rfl (by kernel_rfl)) rfl ?_
      exact ⟨by rw [Hr.out], (hB.setCell (by dsimp only; omega) _).setCell (by dsimp only; omega) _⟩
end Go.Proofs.Ytafcphnafgfgkaa

