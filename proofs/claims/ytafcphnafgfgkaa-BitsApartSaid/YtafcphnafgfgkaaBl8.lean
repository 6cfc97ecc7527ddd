/- BitsApart: the walk. -/
import Derived.Test.YtafcphnafgfgkaaBl5
import Derived.Test.YtafcphnafgfgkaaFl8
import Derived.Deep.RegionWith
namespace Go.Proofs.Ytafcphnafgfgkaa
open Go.RowKit Bm
structure Inv5 (B gx : Nat) (l : List Bool) (w0 W : World) (L : List Pc) : Prop where
  ok : ∀ p ∈ L, OkP B W p
  ap : L.Pairwise Apart2
  x : Blk W gx 26 #[.string (pk l), .int .i64 l.length]
  gx : gx < B
  be : Below B w0 W
  sz : B ≤ W.heap.size
section
variable {B gx : Nat} {l : List Bool} {w0 W : World} {L : List Pc}
theorem packI (I : Inv5 B gx l w0 W L) (hl : l.length ≤ 200) :
    Calls Try.prog 18 #[.agg #[.string (pk l), .int .i64 l.length]] W fun e w' => ∃ g c, e = .returned (.slice (some ⟨g, 0, none⟩) (nb l.length) c) ∧ Inv5 B gx l w0 w' (L ++ [(some g, nb l.length, c)]) := by
  refine (pack_any l W).mono ?_
  rintro e w' ⟨full, g, he, hrw, hg, htk, hle, hb⟩
  refine ⟨g, full.length, he, fun p hp => ?_, ?_, I.x.keep hb, I.gx, I.be.trans (hb.mono I.sz), Nat.le_trans I.sz hb.size⟩
  · rcases List.mem_append.1 hp with hp | hp
    · exact (I.ok p hp).keep hb
    · simp at hp; subst hp
      exact .inr ⟨g, full, rfl, Nat.le_trans I.sz hg, hrw, rfl, hle, by show nb l.length ≤ 1000; unfold nb; omega⟩
  · rw [List.pairwise_append]
    refine ⟨I.ap, List.pairwise_singleton _ _, fun p hp q hq => ?_⟩
    simp at hq; subst hq
    intro g' h1 h2
    injection h2 with h2
    have := ((I.ok p hp).lt g' h1).2
    omega
theorem apartQ (ps : List Pc) (g1 g2 n1 n2 c1 c2 : Nat) (hps : ps = [(some g1, n1, c1), (some g2, n2, c2)]) (hok : ∀ p ∈ ps, OkP B W p) (hap : ps.Pairwise Apart2) (hx : Blk W gx 26 #[.string (pk l), .int .i64 l.length]) (hgx : gx < B) (hbe : Below B w0 W) (hsz : B ≤ W.heap.size) :
    Calls Try.prog 17 #[.slice (some ⟨W.heap.size, 0, none⟩) 2 2] (W.alloc (.cells #[.slice (some ⟨g1, 0, none⟩) n1 c1, .slice (some ⟨g2, 0, none⟩) n2 c2] 24)) fun e w' => e = .returned (.bool true) ∧
      Blk w' gx 26 #[.string (pk l), .int .i64 l.length] ∧ Below B w0 w' := by
  have hk := (Below.refl W.heap.size W).alloc (Nat.le_refl _) (.cells #[.slice (some ⟨g1, 0, none⟩) n1 c1, .slice (some ⟨g2, 0, none⟩) n2 c2] 24)
  have hrd : Rd (W.alloc (.cells #[.slice (some ⟨g1, 0, none⟩) n1 c1, .slice (some ⟨g2, 0, none⟩) n2 c2] 24)) (some ⟨W.heap.size, 0, none⟩) (ps.map pcV) := by
    rw [hps]; exact Rd.new W 24 [.slice (some ⟨g1, 0, none⟩) n1 c1, .slice (some ⟨g2, 0, none⟩) n2 c2]
  refine (apartBytes_any _ 2 2 ps _ hrd (by rw [hps]; rfl) (by rw [hps]; simp) (by decide) (fun j p hp => ((hok p (List.mem_of_getElem? hp)).keep hk).cont) (dist_of hap) (fun p hp => (hok p hp).sm)).mono ?_
  rintro e w' ⟨he, hkb⟩
  have hx1 := hx.keep hk
  refine ⟨he, (hkb.block gx hx1.lt fun p hp e => ?_).trans hx1, ?_⟩
  · have := ((hok p hp).lt gx e).1; omega
  · exact (hbe.trans (hk.mono hsz)).trans (hkb.below (Nat.le_trans hsz hk.size) fun p hp g hg => ((hok p hp).lt g hg).1)
theorem apartI (g1 g2 n1 n2 c1 c2 : Nat) (I : Inv5 B gx l w0 W [(some g1, n1, c1), (some g2, n2, c2)]) :
    Calls Try.prog 17 #[.slice (some ⟨W.heap.size, 0, none⟩) 2 2] (W.alloc (.cells #[.slice (some ⟨g1, 0, none⟩) n1 c1, .slice (some ⟨g2, 0, none⟩) n2 c2] 24)) fun e w' => e = .returned (.bool true) ∧
      Blk w' gx 26 #[.string (pk l), .int .i64 l.length] ∧ Below B w0 w' :=
  apartQ _ g1 g2 n1 n2 c1 c2 rfl I.ok I.ap I.x I.gx I.be I.sz
theorem apartJ (g1 g2 n1 n2 c1 c2 : Nat) (I : Inv5 B gx l w0 W [(some g2, n2, c2), (some g1, n1, c1)]) :
    Calls Try.prog 17 #[.slice (some ⟨W.heap.size, 0, none⟩) 2 2] (W.alloc (.cells #[.slice (some ⟨g1, 0, none⟩) n1 c1, .slice (some ⟨g2, 0, none⟩) n2 c2] 24)) fun e w' => e = .returned (.bool true) ∧
      Blk w' gx 26 #[.string (pk l), .int .i64 l.length] ∧ Below B w0 w' :=
  apartQ [(some g1, n1, c1), (some g2, n2, c2)] g1 g2 n1 n2 c1 c2 rfl (fun p hp => I.ok p (by simp at hp ⊢; rcases hp with h | h <;> simp [h])) (by
    have h1 := I.ap
    simp only [List.pairwise_cons, List.mem_cons, List.not_mem_nil, or_false, forall_eq] at h1 ⊢
    exact ⟨h1.1.symm, fun _ h => h.elim, List.Pairwise.nil⟩) I.x I.gx I.be I.sz
end
theorem row_isA (a : Option Addr) (bs : List UInt8) (n c : Nat) (x : List Bool) (w : World) (hr : RdB w a bs) (hn : bs.length = n) (hle : n ≤ 140737488351232) (hx : x = rowOf bs) :
    Calls Try.prog 15 #[.slice a n c] w fun e w' => e = .returned (.agg #[.string (pk x), .int .i64 x.length]) ∧ Below w.heap.size w w' := by
  subst hx; exact row_any a bs n c w hr hn.symm hle
theorem text_isA (l : List Bool) (s : ByteArray) (w : World) (hl : l.length ≤ 200) (hs : s = txS l) :
    Calls Try.prog 16 #[.agg #[.string (pk l), .int .i64 l.length]] w fun e w' => e = .returned (.string s) ∧ Below w.heap.size w w' := by
  subst hs; exact text_row l w (by omega)
attribute [local irreducible] pk txS
set_option maxRecDepth 100000 in
set_option maxHeartbeats 4000000 in
theorem bitsApart_walk (a0 : Option Addr) (len0 cap0 : Nat) (z0 : List Int) (w : World) (w0 : IsRow .u8 w a0 len0 cap0 z0) :
    Calls Try.prog 4 #[.slice a0 len0 cap0] w fun e w' => e = .returned (.bool true) ∧ Below w.heap.size w w' := by
  have hB := Below.refl w.heap.size w
  obtain ⟨b0, hl0, hr0, hz0⟩ := rd_of_row w0
  clear w0
  obtain ⟨x, hx, hxl⟩ : ∃ x, x = rowOf b0 ∧ x.length ≤ 200 := ⟨_, rfl, rowOf_len _⟩
  have HX := hide hx
  have HL0 := hide hl0
  clear hx hl0
  obtain ⟨sx, hsx⟩ : ∃ s, s = txS x := ⟨_, rfl⟩
  have Hsx := hide hsx
  clear hsx
  go_enter Try.func4, Try.ntmps4
  go_wp2_with fail
  refine (awake_any _).mono ?_
  rintro e w1 ⟨rfl, hb1⟩
  have hB2 : Below w.heap.size w w1 := by first | exact chain0 hB hb1 | exact chain1 hB hb1 | exact chain2 hB hb1 | exact chain3 hB hb1
  clear hB
  have hB := hB2
  clear hB2
  go_wp2_with fail
  refine (row_isA a0 b0 _ _ x _ (hr0.keep hB) HL0.out hz0 HX.out).mono ?_
  rintro e w2 ⟨rfl, hb2⟩
  have hB2 : Below w.heap.size w w2 := by first | exact chain0 hB hb2 | exact chain1 hB hb2 | exact chain2 hB hb2 | exact chain3 hB hb2
  clear hB
  have hB := hB2
  clear hB2
  have x_X : Blk (w2.alloc (.cells #[.string (pk x), .int .i64 x.length] 26)) w2.heap.size 26 #[.string (pk x), .int .i64 x.length] := Blk.new _ _ _
  have c0 := x_X.cell 0
  have c1 := x_X.cell 1
  simp only [List.getElem?_toArray, List.getElem?_cons_zero, List.getElem?_cons_succ] at c0 c1
  go_wp2_with fail
  refine (text_isA x sx _ hxl Hsx.out).mono ?_
  rintro e w3 ⟨rfl, hb3⟩
  have x3 : Blk w3 w2.heap.size 26 #[.string (pk x), .int .i64 x.length] := x_X.keep hb3
  have hB3 : Below w.heap.size w w3 := chain1 hB hb3
  clear c0 c1 x_X hB
  have I0 : Inv5 w3.heap.size w2.heap.size x w3 w3.drew [] := ⟨fun p hp => absurd hp (by simp), List.Pairwise.nil, x3, x3.lt, (Below.refl _ _).drew, Nat.le_refl _⟩
  have c0 := I0.x.cell 0
  have c1 := I0.x.cell 1
  simp only [List.getElem?_toArray, List.getElem?_cons_zero, List.getElem?_cons_succ] at c0 c1
  clear x3 hb3
  go_wp2_with fail
  go_region_with (first
    | (go_at_call 18
       first
         | (refine (packI I1 hxl).mono ?_
            rintro e wb ⟨gb, cb, rfl, I2⟩
            have d0 := I2.x.cell 0
            have d1 := I2.x.cell 1
            simp only [List.getElem?_toArray, List.getElem?_cons_zero, List.getElem?_cons_succ] at d0 d1)
         | (refine (packI I0 hxl).mono ?_
            rintro e wa ⟨ga, ca, rfl, I1⟩
            have d0 := I1.x.cell 0
            have d1 := I1.x.cell 1
            simp only [List.nil_append, List.getElem?_toArray, List.getElem?_cons_zero, List.getElem?_cons_succ] at d0 d1 I1))
    | (go_at_call 17
       first
         | refine (apartI _ _ _ _ _ _ I2).mono ?_
         | refine (apartJ _ _ _ _ _ _ I2).mono ?_
       rintro e wc ⟨rfl, xc, bc⟩
       have d0 := xc.cell 0
       have d1 := xc.cell 1
       simp only [List.getElem?_toArray, List.getElem?_cons_zero, List.getElem?_cons_succ] at d0 d1)
    | (go_at_call 16
       refine (text_isA x sx _ hxl Hsx.out).mono ?_
       rintro e wd ⟨rfl, hbd⟩))
  all_goals
    go_wp2
    go_ret
    exact ⟨rfl, (hB3.trans (bc.mono hB3.size)).trans (hbd.mono (Nat.le_trans hB3.size bc.size))⟩
end Go.Proofs.Ytafcphnafgfgkaa

