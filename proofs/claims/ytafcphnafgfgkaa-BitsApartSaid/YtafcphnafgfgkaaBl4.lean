/- BitsPack: the walk. -/
import Derived.Test.YtafcphnafgfgkaaBl3
import Derived.Test.YtafcphnafgfgkaaRow
import Derived.Test.YtafcphnafgfgkaaKitO
namespace Go.Proofs.Ytafcphnafgfgkaa
open Go.RowKit Bm
theorem Rw.alloc {w : World} {g : Nat} {full : List UInt8} (h : Rw w g full) (o : Obj) : Rw (w.alloc o) g full := h.keep ((Below.refl _ _).alloc (Nat.le_refl _) _)
theorem same_true (a b : Option Addr) (xs : List UInt8) (n c m d : Nat) (w : World) (hx : RdB w a xs) (hy : RdB w b xs) (hn : n = xs.length) (hm : m = xs.length) (hbn : n ≤ 1048576) :
    Calls Try.prog 19 #[.slice a n c, .slice b m d] w fun e w' => e = .returned (.bool true) ∧ Below w.heap.size w w' := by
  have := same_any a b xs xs n c m d w hx hy hn hm (by omega)
  rw [show decide (xs = xs) = true from by simp] at this
  exact this
theorem pack_row (l : List Bool) (w : World) :
    Calls Try.prog 18 #[.agg #[.string (pk l), .int .i64 l.length]] w fun e w' => ∃ g cap, e = .returned (.slice (some ⟨g, 0, none⟩) (nb l.length) cap) ∧ RdB w' (some ⟨g, 0, none⟩) (pkL l) ∧ Below w.heap.size w w' :=
  (pack_any l w).mono fun e w' ⟨full, g, he, hrw, _, htk, _, hb⟩ => ⟨g, full.length, he, by have := hrw.rd (nb l.length); rw [htk] at this; exact this, hb⟩
theorem rpack_row (l : List Bool) (w : World) (hl : l.length ≤ 1048576) :
    Calls Try.prog 20 #[.string (txS l)] w fun e w' => ∃ a cap, e = .returned (.slice a (nb l.length) cap) ∧ RdB w' a (pkL l) ∧ Below w.heap.size w w' :=
  (rpack_any l w hl).mono fun e w' ⟨v, he, hown, hb⟩ => by
    obtain ⟨a, c, hv⟩ := hown.forms
    subst hv
    rw [length_pkL] at he hown
    exact ⟨a, c, he, hown.rd, hb⟩
theorem lent_row (a : Option Addr) (bs : List UInt8) (n c : Nat) (w : World) (hr : RdB w a bs) (hn : n = bs.length) (hle : n ≤ 1048576) :
    Calls Try.prog 21 #[.slice a n c] w fun e w' => ∃ g, e = .returned (.slice (some ⟨g, 0, none⟩) n (n + 12)) ∧ (Rw w' g (lent bs) ∧ w.heap.size ≤ g) ∧ Below w.heap.size w w' :=
  (lent_any a bs n c w hr hn hle).mono fun e w' ⟨g, he, hbk, hg, hb⟩ => ⟨g, he, ⟨Rw.of_bk hbk, hg⟩, hb⟩
theorem lent_rd {w : World} {g n : Nat} {bs : List UInt8} (h : Rw w g (lent bs)) (hn : n = bs.length) : RdB w (some ⟨g, 0, none⟩) bs := by
  have := h.rd n
  rw [lent, hn, List.take_left] at this
  exact this
theorem lent_len (bs : List UInt8) (n : Nat) (hn : n = bs.length) : (lent bs).length = n + 12 := by rw [lent, List.length_append, length_marks, hn]
theorem unpack_row (l : List Bool) (a : Option Addr) (cap : Nat) (w : World) (hl : l.length ≤ 1048576) (hr : RdB w a (pkL l)) :
    Calls Try.prog 22 #[.slice a (nb l.length) cap, .int .i64 l.length] w fun e w' => e = .returned (.tuple #[.agg #[.string (pk l), .int .i64 l.length], .bool true]) ∧ Below w.heap.size w w' := unpack_ok l a cap w hl hr
theorem unpack_none (bs : List UInt8) (a : Option Addr) (len cap : Nat) (n : Int) (w : World) (hlen : len = bs.length) (hr : RdB w a bs) (hm : len ≤ 1048576) (h : noBits bs n) :
    Calls Try.prog 22 #[.slice a len cap, .int .i64 n] w fun e w' => e = .returned (.tuple #[.agg #[.string ⟨#[]⟩, .int .i64 0], .bool false]) ∧ Below w.heap.size w w' := unpack_no bs a len cap n w hlen hr (by omega) h
/-- what stands behind the first test -/
def PackPost (w : World) (e : Ending) (w' : World) : Prop := e = .returned (.bool true) ∧ Below w.heap.size w w'
set_option maxRecDepth 100000 in
set_option maxHeartbeats 2000000 in
theorem bitsPack_walk (a0 : ByteArray) (a1 : Option Addr) (len1 cap1 : Nat) (z1 : List Int) (a2 : Int) (w : World) (w0 : a0.size ≤ 140737488351232) (w1 : IsRow .u8 w a1 len1 cap1 z1) (_w2 : (Lit.int .i64 a2).wf = true) :
    Calls Try.prog 5 #[.string a0, .slice a1 len1 cap1, .int .i64 a2] w fun e w' => e = .returned (.bool true) ∧ Below w.heap.size w w' := by
  have hB := Below.refl w.heap.size w
  obtain ⟨bs, hbl, hrd, hlen⟩ := rd_of_row w1
  clear _w2 w1
  by_cases hs : 5000 < (a0.size : Int) + len1
  · go_enter Try.func5, Try.ntmps5
    clear hbl
    go_wp2_with fail
    refine (awake_any _).mono ?_
    rintro e w1 ⟨rfl, hb1⟩
    have hB2 : Below w.heap.size w w1 := by first | exact chain0 hB hb1 | exact chain1 hB hb1 | exact chain2 hB hb1 | exact chain3 hB hb1
    clear hB
    have hB := hB2
    clear hB2
    go_wp2
    go_ret
    exact ⟨rfl, hB⟩
  · have hs' : (a0.size : Int) + len1 ≤ 5000 := by omega
    have hz0 : a0.size ≤ 5000 := by omega
    have hz1 : len1 ≤ 5000 := by omega
    clear hs w0 hlen
    by_cases hno : noBits bs a2
    · have Hbl : Hid (len1 = bs.length) := hbl.symm
      have Hno := hide hno
      clear hbl hno
      rcases txt_cases a0 with ⟨l, rfl⟩ | h0
      · have _t := trivial
        rw [size_txS] at hz0
        go_enter Try.func5, Try.ntmps5
        go_wp2_with fail
        refine (awake_any _).mono ?_
        rintro e w1 ⟨rfl, hb1⟩
        have hB2 : Below w.heap.size w w1 := by first | exact chain0 hB hb1 | exact chain1 hB hb1 | exact chain2 hB hb1 | exact chain3 hB hb1
        clear hB
        have hB := hB2
        clear hB2
        go_wp2_with fail
        refine (of_yes l _ (by omega)).mono ?_
        rintro e w2 ⟨rfl, hb2⟩
        have hB2 : Below w.heap.size w w2 := by first | exact chain0 hB hb2 | exact chain1 hB hb2 | exact chain2 hB hb2 | exact chain3 hB hb2
        clear hB
        have hB := hB2
        clear hB2
        go_wp2_with fail
        refine (pack_row l _).mono ?_
        rintro e w3 ⟨gp, cp, rfl, hp, hb3⟩
        have hB2 : Below w.heap.size w w3 := by first | exact chain0 hB hb3 | exact chain1 hB hb3 | exact chain2 hB hb3 | exact chain3 hB hb3
        clear hB
        have hB := hB2
        clear hB2
        go_wp2_with fail
        refine (rpack_row l _ (by omega)).mono ?_
        rintro e w4 ⟨ar, cr, rfl, hr, hb4⟩
        have hB2 : Below w.heap.size w w4 := by first | exact chain0 hB hb4 | exact chain1 hB hb4 | exact chain2 hB hb4 | exact chain3 hB hb4
        clear hB
        have hB := hB2
        clear hB2
        go_wp2_with fail
        refine (same_true _ _ (pkL l) _ _ _ _ _ (hp.keep hb4) hr (length_pkL l).symm (length_pkL l).symm (by unfold nb; omega)).mono ?_
        rintro e w5 ⟨rfl, hb5⟩
        have hB2 : Below w.heap.size w w5 := by first | exact chain0 hB hb5 | exact chain1 hB hb5 | exact chain2 hB hb5 | exact chain3 hB hb5
        clear hB
        have hB := hB2
        clear hB2
        have hsz5 := hB.size
        go_wp2_with fail
        refine (lent_row a1 bs len1 cap1 _ (hrd.keep hB) Hbl.out (by omega)).mono ?_
        rintro e w6 ⟨g, rfl, hg, hb6⟩
        have hB2 : Below w.heap.size w w6 := by first | exact chain0 hB hb6 | exact chain1 hB hb6 | exact chain2 hB hb6 | exact chain3 hB hb6
        clear hB
        have hB := hB2
        clear hB2
        have hgw : w.heap.size ≤ g := by have := hg.2; omega
        have x0_G : Rw w6 g (lent bs) := hg.1
        clear hp hr hg hsz5 hb1 hb2 hb3 hb4 hb5 hb6
        have x_G : Rw w6 g (lent bs) := x0_G
        clear x0_G
        go_wp2_with fail
        refine (unpack_none bs _ len1 _ a2 _ Hbl.out (lent_rd x_G Hbl.out) (by omega) Hno.out).mono ?_
        rintro e w7 ⟨rfl, hb7⟩
        have hB2 : Below w.heap.size w w7 := by first | exact chain0 hB hb7 | exact chain1 hB hb7 | exact chain2 hB hb7 | exact chain3 hB hb7
        clear hB
        have hB := hB2
        clear hB2
        have y_G : Rw w7 g (lent bs) := by first | exact x_G.keep hb7 | exact (x_G.alloc _).keep hb7 | exact ((x_G.alloc _).alloc _).keep hb7 | exact (((x_G.alloc _).alloc _).alloc _).keep hb7
        clear x_G
        have x_G := y_G
        clear y_G
        have hgl : g < w7.heap.size := x_G.lt
        go_wp2_with fail
        refine (runpack_no bs a1 len1 cap1 a2 _ Hbl.out ((hrd.keep hB).alloc _) (by omega) Hno.out).mono ?_
        rintro e w8 ⟨rfl, hb8⟩
        have hB2 : Below w.heap.size w w8 := by first | exact chain0 hB hb8 | exact chain1 hB hb8 | exact chain2 hB hb8 | exact chain3 hB hb8
        clear hB
        have hB := hB2
        clear hB2
        have y_G : Rw w8 g (lent bs) := by first | exact x_G.keep hb8 | exact (x_G.alloc _).keep hb8 | exact ((x_G.alloc _).alloc _).keep hb8 | exact (((x_G.alloc _).alloc _).alloc _).keep hb8
        clear x_G
        have x_G := y_G
        clear y_G
        have x_Y : Blk w8 w7.heap.size 26 #[.string ⟨#[]⟩, .int .i64 0] := (Blk.new w7 _ _).keep hb8
        have c_Y0_0 := x_Y.cell 0
        have c_Y1_0 := x_Y.cell 1
        simp only [List.getElem?_toArray, List.getElem?_cons_zero, List.getElem?_cons_succ] at c_Y0_0 c_Y1_0
        go_wp2_with fail
        refine (text_none _).mono ?_
        rintro e w9 ⟨rfl, hb9⟩
        have hB2 : Below w.heap.size w w9 := by first | exact chain0 hB hb9 | exact chain1 hB hb9 | exact chain2 hB hb9 | exact chain3 hB hb9
        clear hB
        have hB := hB2
        clear hB2
        have y_G : Rw w9 g (lent bs) := by first | exact x_G.keep hb9 | exact (x_G.alloc _).keep hb9 | exact ((x_G.alloc _).alloc _).keep hb9 | exact (((x_G.alloc _).alloc _).alloc _).keep hb9
        have y_Y : Blk w9 w7.heap.size 26 #[.string ⟨#[]⟩, .int .i64 0] := by first | exact x_Y.keep hb9 | exact (x_Y.alloc _).keep hb9 | exact ((x_Y.alloc _).alloc _).keep hb9 | exact (((x_Y.alloc _).alloc _).alloc _).keep hb9
        clear x_G x_Y
        have x_G := y_G
        have x_Y := y_Y
        clear y_G y_Y
        go_wp2_with fail
        refine (kept_true a1 bs g len1 cap1 _ x_G (hrd.keep hB) Hbl.out (by omega)).mono ?_
        rintro e w10 ⟨rfl, hb10⟩
        have hB2 : Below w.heap.size w w10 := by first | exact chain0 hB hb10 | exact chain1 hB hb10 | exact chain2 hB hb10 | exact chain3 hB hb10
        clear hB
        have hB := hB2
        clear hB2
        have y_G : Rw w10 g (lent bs) := by first | exact x_G.keep hb10 | exact (x_G.alloc _).keep hb10 | exact ((x_G.alloc _).alloc _).keep hb10 | exact (((x_G.alloc _).alloc _).alloc _).keep hb10
        have y_Y : Blk w10 w7.heap.size 26 #[.string ⟨#[]⟩, .int .i64 0] := by first | exact x_Y.keep hb10 | exact (x_Y.alloc _).keep hb10 | exact ((x_Y.alloc _).alloc _).keep hb10 | exact (((x_Y.alloc _).alloc _).alloc _).keep hb10
        clear x_G x_Y
        have x_G := y_G
        have x_Y := y_Y
        clear y_G y_Y
        go_wp2_with fail
        refine (over_any g len1 (lent bs) _ x_G (lent_len bs _ Hbl.out) (by omega)).mono ?_
        rintro e w11 ⟨rfl, hg11⟩
        have z_Y : Blk w11 w7.heap.size 26 #[.string ⟨#[]⟩, .int .i64 0] := (hg11.block _ x_Y.lt (by intro h; injection h with h; omega)).trans x_Y
        have hB11 : Below w.heap.size w w11 := hB.grown hg11 hB.size (by intro k hk; injection hk with hk; omega)
        clear hB x_Y hg11 x_G
        have hB := hB11
        clear hB11
        have x_Y : Blk w11 w7.heap.size 26 #[.string ⟨#[]⟩, .int .i64 0] := z_Y
        clear z_Y
        have c_Y0_0 := x_Y.cell 0
        have c_Y1_0 := x_Y.cell 1
        simp only [List.getElem?_toArray, List.getElem?_cons_zero, List.getElem?_cons_succ] at c_Y0_0 c_Y1_0
        go_wp2_with fail
        refine (text_none _).mono ?_
        rintro e w12 ⟨rfl, hb12⟩
        have hB2 : Below w.heap.size w w12 := by first | exact chain0 hB hb12 | exact chain1 hB hb12 | exact chain2 hB hb12 | exact chain3 hB hb12
        clear hB
        have hB := hB2
        clear hB2
        have y_Y : Blk w12 w7.heap.size 26 #[.string ⟨#[]⟩, .int .i64 0] := by first | exact x_Y.keep hb12 | exact (x_Y.alloc _).keep hb12 | exact ((x_Y.alloc _).alloc _).keep hb12 | exact (((x_Y.alloc _).alloc _).alloc _).keep hb12
        clear x_Y
        have x_Y := y_Y
        clear y_Y
        go_wp2
        go_ret
        exact ⟨by simp, hB⟩

      · have _t := trivial
        go_enter Try.func5, Try.ntmps5
        go_wp2_with fail
        refine (awake_any _).mono ?_
        rintro e w1 ⟨rfl, hb1⟩
        have hB2 : Below w.heap.size w w1 := by first | exact chain0 hB hb1 | exact chain1 hB hb1 | exact chain2 hB hb1 | exact chain3 hB hb1
        clear hB
        have hB := hB2
        clear hB2
        go_wp2_with fail
        refine (of_no a0 _ (by omega) h0).mono ?_
        rintro e w2 ⟨rfl, hb2⟩
        have hB2 : Below w.heap.size w w2 := by first | exact chain0 hB hb2 | exact chain1 hB hb2 | exact chain2 hB hb2 | exact chain3 hB hb2
        clear hB
        have hB := hB2
        clear hB2
        have hsz5 := hB.size
        go_wp2_with fail
        refine (lent_row a1 bs len1 cap1 _ ((hrd.keep hB).alloc _) Hbl.out (by omega)).mono ?_
        rintro e w6 ⟨g, rfl, hg, hb6⟩
        have hB2 : Below w.heap.size w w6 := by first | exact chain0 hB hb6 | exact chain1 hB hb6 | exact chain2 hB hb6 | exact chain3 hB hb6
        clear hB
        have hB := hB2
        clear hB2
        have hgw : w.heap.size ≤ g := by have := hg.2; simp at this; omega
        have x0_G : Rw w6 g (lent bs) := hg.1
        clear hg hsz5 hb1 hb2 hb6
        have x_G : Rw w6 g (lent bs) := x0_G
        clear x0_G
        go_wp2_with fail
        refine (unpack_none bs _ len1 _ a2 _ Hbl.out (lent_rd x_G Hbl.out) (by omega) Hno.out).mono ?_
        rintro e w7 ⟨rfl, hb7⟩
        have hB2 : Below w.heap.size w w7 := by first | exact chain0 hB hb7 | exact chain1 hB hb7 | exact chain2 hB hb7 | exact chain3 hB hb7
        clear hB
        have hB := hB2
        clear hB2
        have y_G : Rw w7 g (lent bs) := by first | exact x_G.keep hb7 | exact (x_G.alloc _).keep hb7 | exact ((x_G.alloc _).alloc _).keep hb7 | exact (((x_G.alloc _).alloc _).alloc _).keep hb7
        clear x_G
        have x_G := y_G
        clear y_G
        have hgl : g < w7.heap.size := x_G.lt
        go_wp2_with fail
        refine (runpack_no bs a1 len1 cap1 a2 _ Hbl.out ((hrd.keep hB).alloc _) (by omega) Hno.out).mono ?_
        rintro e w8 ⟨rfl, hb8⟩
        have hB2 : Below w.heap.size w w8 := by first | exact chain0 hB hb8 | exact chain1 hB hb8 | exact chain2 hB hb8 | exact chain3 hB hb8
        clear hB
        have hB := hB2
        clear hB2
        have y_G : Rw w8 g (lent bs) := by first | exact x_G.keep hb8 | exact (x_G.alloc _).keep hb8 | exact ((x_G.alloc _).alloc _).keep hb8 | exact (((x_G.alloc _).alloc _).alloc _).keep hb8
        clear x_G
        have x_G := y_G
        clear y_G
        have x_Y : Blk w8 w7.heap.size 26 #[.string ⟨#[]⟩, .int .i64 0] := (Blk.new w7 _ _).keep hb8
        have c_Y0_0 := x_Y.cell 0
        have c_Y1_0 := x_Y.cell 1
        simp only [List.getElem?_toArray, List.getElem?_cons_zero, List.getElem?_cons_succ] at c_Y0_0 c_Y1_0
        go_wp2_with fail
        refine (text_none _).mono ?_
        rintro e w9 ⟨rfl, hb9⟩
        have hB2 : Below w.heap.size w w9 := by first | exact chain0 hB hb9 | exact chain1 hB hb9 | exact chain2 hB hb9 | exact chain3 hB hb9
        clear hB
        have hB := hB2
        clear hB2
        have y_G : Rw w9 g (lent bs) := by first | exact x_G.keep hb9 | exact (x_G.alloc _).keep hb9 | exact ((x_G.alloc _).alloc _).keep hb9 | exact (((x_G.alloc _).alloc _).alloc _).keep hb9
        have y_Y : Blk w9 w7.heap.size 26 #[.string ⟨#[]⟩, .int .i64 0] := by first | exact x_Y.keep hb9 | exact (x_Y.alloc _).keep hb9 | exact ((x_Y.alloc _).alloc _).keep hb9 | exact (((x_Y.alloc _).alloc _).alloc _).keep hb9
        clear x_G x_Y
        have x_G := y_G
        have x_Y := y_Y
        clear y_G y_Y
        go_wp2_with fail
        refine (kept_true a1 bs g len1 cap1 _ x_G (hrd.keep hB) Hbl.out (by omega)).mono ?_
        rintro e w10 ⟨rfl, hb10⟩
        have hB2 : Below w.heap.size w w10 := by first | exact chain0 hB hb10 | exact chain1 hB hb10 | exact chain2 hB hb10 | exact chain3 hB hb10
        clear hB
        have hB := hB2
        clear hB2
        have y_G : Rw w10 g (lent bs) := by first | exact x_G.keep hb10 | exact (x_G.alloc _).keep hb10 | exact ((x_G.alloc _).alloc _).keep hb10 | exact (((x_G.alloc _).alloc _).alloc _).keep hb10
        have y_Y : Blk w10 w7.heap.size 26 #[.string ⟨#[]⟩, .int .i64 0] := by first | exact x_Y.keep hb10 | exact (x_Y.alloc _).keep hb10 | exact ((x_Y.alloc _).alloc _).keep hb10 | exact (((x_Y.alloc _).alloc _).alloc _).keep hb10
        clear x_G x_Y
        have x_G := y_G
        have x_Y := y_Y
        clear y_G y_Y
        go_wp2_with fail
        refine (over_any g len1 (lent bs) _ x_G (lent_len bs _ Hbl.out) (by omega)).mono ?_
        rintro e w11 ⟨rfl, hg11⟩
        have z_Y : Blk w11 w7.heap.size 26 #[.string ⟨#[]⟩, .int .i64 0] := (hg11.block _ x_Y.lt (by intro h; injection h with h; omega)).trans x_Y
        have hB11 : Below w.heap.size w w11 := hB.grown hg11 hB.size (by intro k hk; injection hk with hk; omega)
        clear hB x_Y hg11 x_G
        have hB := hB11
        clear hB11
        have x_Y : Blk w11 w7.heap.size 26 #[.string ⟨#[]⟩, .int .i64 0] := z_Y
        clear z_Y
        have c_Y0_0 := x_Y.cell 0
        have c_Y1_0 := x_Y.cell 1
        simp only [List.getElem?_toArray, List.getElem?_cons_zero, List.getElem?_cons_succ] at c_Y0_0 c_Y1_0
        go_wp2_with fail
        refine (text_none _).mono ?_
        rintro e w12 ⟨rfl, hb12⟩
        have hB2 : Below w.heap.size w w12 := by first | exact chain0 hB hb12 | exact chain1 hB hb12 | exact chain2 hB hb12 | exact chain3 hB hb12
        clear hB
        have hB := hB2
        clear hB2
        have y_Y : Blk w12 w7.heap.size 26 #[.string ⟨#[]⟩, .int .i64 0] := by first | exact x_Y.keep hb12 | exact (x_Y.alloc _).keep hb12 | exact ((x_Y.alloc _).alloc _).keep hb12 | exact (((x_Y.alloc _).alloc _).alloc _).keep hb12
        clear x_Y
        have x_Y := y_Y
        clear y_Y
        go_wp2
        go_ret
        exact ⟨by simp, hB⟩

    · obtain ⟨m, hm1, hm, hpk⟩ := yesBits bs a2 hno
      have hlm : len1 = nb m.length := by rw [← hbl, ← hpk, length_pkL]
      subst hm1 hlm
      have Hbl : Hid (nb m.length = bs.length) := hbl.symm
      have Hpk := hide hpk
      clear hbl hpk hno
      rcases txt_cases a0 with ⟨l, rfl⟩ | h0
      · have _t := trivial
        rw [size_txS] at hz0
        go_enter Try.func5, Try.ntmps5
        go_wp2_with fail
        refine (awake_any _).mono ?_
        rintro e w1 ⟨rfl, hb1⟩
        have hB2 : Below w.heap.size w w1 := by first | exact chain0 hB hb1 | exact chain1 hB hb1 | exact chain2 hB hb1 | exact chain3 hB hb1
        clear hB
        have hB := hB2
        clear hB2
        go_wp2_with fail
        refine (of_yes l _ (by omega)).mono ?_
        rintro e w2 ⟨rfl, hb2⟩
        have hB2 : Below w.heap.size w w2 := by first | exact chain0 hB hb2 | exact chain1 hB hb2 | exact chain2 hB hb2 | exact chain3 hB hb2
        clear hB
        have hB := hB2
        clear hB2
        go_wp2_with fail
        refine (pack_row l _).mono ?_
        rintro e w3 ⟨gp, cp, rfl, hp, hb3⟩
        have hB2 : Below w.heap.size w w3 := by first | exact chain0 hB hb3 | exact chain1 hB hb3 | exact chain2 hB hb3 | exact chain3 hB hb3
        clear hB
        have hB := hB2
        clear hB2
        go_wp2_with fail
        refine (rpack_row l _ (by omega)).mono ?_
        rintro e w4 ⟨ar, cr, rfl, hr, hb4⟩
        have hB2 : Below w.heap.size w w4 := by first | exact chain0 hB hb4 | exact chain1 hB hb4 | exact chain2 hB hb4 | exact chain3 hB hb4
        clear hB
        have hB := hB2
        clear hB2
        go_wp2_with fail
        refine (same_true _ _ (pkL l) _ _ _ _ _ (hp.keep hb4) hr (length_pkL l).symm (length_pkL l).symm (by unfold nb; omega)).mono ?_
        rintro e w5 ⟨rfl, hb5⟩
        have hB2 : Below w.heap.size w w5 := by first | exact chain0 hB hb5 | exact chain1 hB hb5 | exact chain2 hB hb5 | exact chain3 hB hb5
        clear hB
        have hB := hB2
        clear hB2
        have hsz5 := hB.size
        go_wp2_with fail
        refine (lent_row a1 bs (nb m.length) cap1 _ (hrd.keep hB) Hbl.out (by omega)).mono ?_
        rintro e w6 ⟨g, rfl, hg, hb6⟩
        have hB2 : Below w.heap.size w w6 := by first | exact chain0 hB hb6 | exact chain1 hB hb6 | exact chain2 hB hb6 | exact chain3 hB hb6
        clear hB
        have hB := hB2
        clear hB2
        have hgw : w.heap.size ≤ g := by have := hg.2; omega
        have x0_G : Rw w6 g (lent bs) := hg.1
        clear hp hr hg hsz5 hb1 hb2 hb3 hb4 hb5 hb6
        have x_G : Rw w6 g (lent bs) := x0_G
        clear x0_G
        go_wp2_with fail
        refine (unpack_row m _ _ _ hm (by have := lent_rd x_G Hbl.out; rw [← Hpk.out] at this; exact this)).mono ?_
        rintro e w7 ⟨rfl, hb7⟩
        have hB2 : Below w.heap.size w w7 := by first | exact chain0 hB hb7 | exact chain1 hB hb7 | exact chain2 hB hb7 | exact chain3 hB hb7
        clear hB
        have hB := hB2
        clear hB2
        have y_G : Rw w7 g (lent bs) := by first | exact x_G.keep hb7 | exact (x_G.alloc _).keep hb7 | exact ((x_G.alloc _).alloc _).keep hb7 | exact (((x_G.alloc _).alloc _).alloc _).keep hb7
        clear x_G
        have x_G := y_G
        clear y_G
        have hgl : g < w7.heap.size := x_G.lt
        go_wp2_with fail
        refine (runpack_ok m a1 cap1 _ hm (by have := (hrd.keep hB).alloc (.cells #[.string (pk m), .int .i64 m.length] 26); rw [← Hpk.out] at this; exact this)).mono ?_
        rintro e w8 ⟨rfl, hb8⟩
        have hB2 : Below w.heap.size w w8 := by first | exact chain0 hB hb8 | exact chain1 hB hb8 | exact chain2 hB hb8 | exact chain3 hB hb8
        clear hB
        have hB := hB2
        clear hB2
        have y_G : Rw w8 g (lent bs) := by first | exact x_G.keep hb8 | exact (x_G.alloc _).keep hb8 | exact ((x_G.alloc _).alloc _).keep hb8 | exact (((x_G.alloc _).alloc _).alloc _).keep hb8
        clear x_G
        have x_G := y_G
        clear y_G
        have x_Y : Blk w8 w7.heap.size 26 #[.string (pk m), .int .i64 m.length] := (Blk.new w7 _ _).keep hb8
        have c_Y0_0 := x_Y.cell 0
        have c_Y1_0 := x_Y.cell 1
        simp only [List.getElem?_toArray, List.getElem?_cons_zero, List.getElem?_cons_succ] at c_Y0_0 c_Y1_0
        go_wp2_with fail
        refine (text_row m _ hm).mono ?_
        rintro e w9 ⟨rfl, hb9⟩
        have hB2 : Below w.heap.size w w9 := by first | exact chain0 hB hb9 | exact chain1 hB hb9 | exact chain2 hB hb9 | exact chain3 hB hb9
        clear hB
        have hB := hB2
        clear hB2
        have y_G : Rw w9 g (lent bs) := by first | exact x_G.keep hb9 | exact (x_G.alloc _).keep hb9 | exact ((x_G.alloc _).alloc _).keep hb9 | exact (((x_G.alloc _).alloc _).alloc _).keep hb9
        have y_Y : Blk w9 w7.heap.size 26 #[.string (pk m), .int .i64 m.length] := by first | exact x_Y.keep hb9 | exact (x_Y.alloc _).keep hb9 | exact ((x_Y.alloc _).alloc _).keep hb9 | exact (((x_Y.alloc _).alloc _).alloc _).keep hb9
        clear x_G x_Y
        have x_G := y_G
        have x_Y := y_Y
        clear y_G y_Y
        go_wp2_with fail
        refine (kept_true a1 bs g (nb m.length) cap1 _ x_G (hrd.keep hB) Hbl.out (by omega)).mono ?_
        rintro e w10 ⟨rfl, hb10⟩
        have hB2 : Below w.heap.size w w10 := by first | exact chain0 hB hb10 | exact chain1 hB hb10 | exact chain2 hB hb10 | exact chain3 hB hb10
        clear hB
        have hB := hB2
        clear hB2
        have y_G : Rw w10 g (lent bs) := by first | exact x_G.keep hb10 | exact (x_G.alloc _).keep hb10 | exact ((x_G.alloc _).alloc _).keep hb10 | exact (((x_G.alloc _).alloc _).alloc _).keep hb10
        have y_Y : Blk w10 w7.heap.size 26 #[.string (pk m), .int .i64 m.length] := by first | exact x_Y.keep hb10 | exact (x_Y.alloc _).keep hb10 | exact ((x_Y.alloc _).alloc _).keep hb10 | exact (((x_Y.alloc _).alloc _).alloc _).keep hb10
        clear x_G x_Y
        have x_G := y_G
        have x_Y := y_Y
        clear y_G y_Y
        go_wp2_with fail
        refine (over_any g (nb m.length) (lent bs) _ x_G (lent_len bs _ Hbl.out) (by omega)).mono ?_
        rintro e w11 ⟨rfl, hg11⟩
        have z_Y : Blk w11 w7.heap.size 26 #[.string (pk m), .int .i64 m.length] := (hg11.block _ x_Y.lt (by intro h; injection h with h; omega)).trans x_Y
        have hB11 : Below w.heap.size w w11 := hB.grown hg11 hB.size (by intro k hk; injection hk with hk; omega)
        clear hB x_Y hg11 x_G
        have hB := hB11
        clear hB11
        have x_Y : Blk w11 w7.heap.size 26 #[.string (pk m), .int .i64 m.length] := z_Y
        clear z_Y
        have c_Y0_0 := x_Y.cell 0
        have c_Y1_0 := x_Y.cell 1
        simp only [List.getElem?_toArray, List.getElem?_cons_zero, List.getElem?_cons_succ] at c_Y0_0 c_Y1_0
        go_wp2_with fail
        refine (text_row m _ hm).mono ?_
        rintro e w12 ⟨rfl, hb12⟩
        have hB2 : Below w.heap.size w w12 := by first | exact chain0 hB hb12 | exact chain1 hB hb12 | exact chain2 hB hb12 | exact chain3 hB hb12
        clear hB
        have hB := hB2
        clear hB2
        have y_Y : Blk w12 w7.heap.size 26 #[.string (pk m), .int .i64 m.length] := by first | exact x_Y.keep hb12 | exact (x_Y.alloc _).keep hb12 | exact ((x_Y.alloc _).alloc _).keep hb12 | exact (((x_Y.alloc _).alloc _).alloc _).keep hb12
        clear x_Y
        have x_Y := y_Y
        clear y_Y
        go_wp2
        go_ret
        exact ⟨by simp, hB⟩

      · have _t := trivial
        go_enter Try.func5, Try.ntmps5
        go_wp2_with fail
        refine (awake_any _).mono ?_
        rintro e w1 ⟨rfl, hb1⟩
        have hB2 : Below w.heap.size w w1 := by first | exact chain0 hB hb1 | exact chain1 hB hb1 | exact chain2 hB hb1 | exact chain3 hB hb1
        clear hB
        have hB := hB2
        clear hB2
        go_wp2_with fail
        refine (of_no a0 _ (by omega) h0).mono ?_
        rintro e w2 ⟨rfl, hb2⟩
        have hB2 : Below w.heap.size w w2 := by first | exact chain0 hB hb2 | exact chain1 hB hb2 | exact chain2 hB hb2 | exact chain3 hB hb2
        clear hB
        have hB := hB2
        clear hB2
        have hsz5 := hB.size
        go_wp2_with fail
        refine (lent_row a1 bs (nb m.length) cap1 _ ((hrd.keep hB).alloc _) Hbl.out (by omega)).mono ?_
        rintro e w6 ⟨g, rfl, hg, hb6⟩
        have hB2 : Below w.heap.size w w6 := by first | exact chain0 hB hb6 | exact chain1 hB hb6 | exact chain2 hB hb6 | exact chain3 hB hb6
        clear hB
        have hB := hB2
        clear hB2
        have hgw : w.heap.size ≤ g := by have := hg.2; simp at this; omega
        have x0_G : Rw w6 g (lent bs) := hg.1
        clear hg hsz5 hb1 hb2 hb6
        have x_G : Rw w6 g (lent bs) := x0_G
        clear x0_G
        go_wp2_with fail
        refine (unpack_row m _ _ _ hm (by have := lent_rd x_G Hbl.out; rw [← Hpk.out] at this; exact this)).mono ?_
        rintro e w7 ⟨rfl, hb7⟩
        have hB2 : Below w.heap.size w w7 := by first | exact chain0 hB hb7 | exact chain1 hB hb7 | exact chain2 hB hb7 | exact chain3 hB hb7
        clear hB
        have hB := hB2
        clear hB2
        have y_G : Rw w7 g (lent bs) := by first | exact x_G.keep hb7 | exact (x_G.alloc _).keep hb7 | exact ((x_G.alloc _).alloc _).keep hb7 | exact (((x_G.alloc _).alloc _).alloc _).keep hb7
        clear x_G
        have x_G := y_G
        clear y_G
        have hgl : g < w7.heap.size := x_G.lt
        go_wp2_with fail
        refine (runpack_ok m a1 cap1 _ hm (by have := (hrd.keep hB).alloc (.cells #[.string (pk m), .int .i64 m.length] 26); rw [← Hpk.out] at this; exact this)).mono ?_
        rintro e w8 ⟨rfl, hb8⟩
        have hB2 : Below w.heap.size w w8 := by first | exact chain0 hB hb8 | exact chain1 hB hb8 | exact chain2 hB hb8 | exact chain3 hB hb8
        clear hB
        have hB := hB2
        clear hB2
        have y_G : Rw w8 g (lent bs) := by first | exact x_G.keep hb8 | exact (x_G.alloc _).keep hb8 | exact ((x_G.alloc _).alloc _).keep hb8 | exact (((x_G.alloc _).alloc _).alloc _).keep hb8
        clear x_G
        have x_G := y_G
        clear y_G
        have x_Y : Blk w8 w7.heap.size 26 #[.string (pk m), .int .i64 m.length] := (Blk.new w7 _ _).keep hb8
        have c_Y0_0 := x_Y.cell 0
        have c_Y1_0 := x_Y.cell 1
        simp only [List.getElem?_toArray, List.getElem?_cons_zero, List.getElem?_cons_succ] at c_Y0_0 c_Y1_0
        go_wp2_with fail
        refine (text_row m _ hm).mono ?_
        rintro e w9 ⟨rfl, hb9⟩
        have hB2 : Below w.heap.size w w9 := by first | exact chain0 hB hb9 | exact chain1 hB hb9 | exact chain2 hB hb9 | exact chain3 hB hb9
        clear hB
        have hB := hB2
        clear hB2
        have y_G : Rw w9 g (lent bs) := by first | exact x_G.keep hb9 | exact (x_G.alloc _).keep hb9 | exact ((x_G.alloc _).alloc _).keep hb9 | exact (((x_G.alloc _).alloc _).alloc _).keep hb9
        have y_Y : Blk w9 w7.heap.size 26 #[.string (pk m), .int .i64 m.length] := by first | exact x_Y.keep hb9 | exact (x_Y.alloc _).keep hb9 | exact ((x_Y.alloc _).alloc _).keep hb9 | exact (((x_Y.alloc _).alloc _).alloc _).keep hb9
        clear x_G x_Y
        have x_G := y_G
        have x_Y := y_Y
        clear y_G y_Y
        go_wp2_with fail
        refine (kept_true a1 bs g (nb m.length) cap1 _ x_G (hrd.keep hB) Hbl.out (by omega)).mono ?_
        rintro e w10 ⟨rfl, hb10⟩
        have hB2 : Below w.heap.size w w10 := by first | exact chain0 hB hb10 | exact chain1 hB hb10 | exact chain2 hB hb10 | exact chain3 hB hb10
        clear hB
        have hB := hB2
        clear hB2
        have y_G : Rw w10 g (lent bs) := by first | exact x_G.keep hb10 | exact (x_G.alloc _).keep hb10 | exact ((x_G.alloc _).alloc _).keep hb10 | exact (((x_G.alloc _).alloc _).alloc _).keep hb10
        have y_Y : Blk w10 w7.heap.size 26 #[.string (pk m), .int .i64 m.length] := by first | exact x_Y.keep hb10 | exact (x_Y.alloc _).keep hb10 | exact ((x_Y.alloc _).alloc _).keep hb10 | exact (((x_Y.alloc _).alloc _).alloc _).keep hb10
        clear x_G x_Y
        have x_G := y_G
        have x_Y := y_Y
        clear y_G y_Y
        go_wp2_with fail
        refine (over_any g (nb m.length) (lent bs) _ x_G (lent_len bs _ Hbl.out) (by omega)).mono ?_
        rintro e w11 ⟨rfl, hg11⟩
        have z_Y : Blk w11 w7.heap.size 26 #[.string (pk m), .int .i64 m.length] := (hg11.block _ x_Y.lt (by intro h; injection h with h; omega)).trans x_Y
        have hB11 : Below w.heap.size w w11 := hB.grown hg11 hB.size (by intro k hk; injection hk with hk; omega)
        clear hB x_Y hg11 x_G
        have hB := hB11
        clear hB11
        have x_Y : Blk w11 w7.heap.size 26 #[.string (pk m), .int .i64 m.length] := z_Y
        clear z_Y
        have c_Y0_0 := x_Y.cell 0
        have c_Y1_0 := x_Y.cell 1
        simp only [List.getElem?_toArray, List.getElem?_cons_zero, List.getElem?_cons_succ] at c_Y0_0 c_Y1_0
        go_wp2_with fail
        refine (text_row m _ hm).mono ?_
        rintro e w12 ⟨rfl, hb12⟩
        have hB2 : Below w.heap.size w w12 := by first | exact chain0 hB hb12 | exact chain1 hB hb12 | exact chain2 hB hb12 | exact chain3 hB hb12
        clear hB
        have hB := hB2
        clear hB2
        have y_Y : Blk w12 w7.heap.size 26 #[.string (pk m), .int .i64 m.length] := by first | exact x_Y.keep hb12 | exact (x_Y.alloc _).keep hb12 | exact ((x_Y.alloc _).alloc _).keep hb12 | exact (((x_Y.alloc _).alloc _).alloc _).keep hb12
        clear x_Y
        have x_Y := y_Y
        clear y_Y
        go_wp2
        go_ret
        exact ⟨by simp, hB⟩

end Go.Proofs.Ytafcphnafgfgkaa

