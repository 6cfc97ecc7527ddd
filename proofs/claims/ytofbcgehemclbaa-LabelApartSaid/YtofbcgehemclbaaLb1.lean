/- The label package: contracts of bits in the spelling of its walks; the closure that reads on. -/
import Derived.Test.YtofbcgehemclbaaLm
import Derived.Test.YtofbcgehemclbaaOwn
import Derived.Test.YtofbcgehemclbaaReg
import Derived.Test.YtofbcgehemclbaaBcm
import Derived.Test.YtofbcgehemclbaaBw4
import Derived.Test.YtofbcgehemclbaaBw6
namespace Go.Proofs.Ytofbcgehemclbaa
open Go.RowKit Bm
theorem lenR (l : List Bool) (w : World) : Calls Try.prog 50 #[.agg #[.string (pk l), .int .i64 l.length]] w fun e w' => e = .returned (.int .i64 l.length) ∧ Below w.heap.size w w' := len_any l w
theorem lenN (w : World) : Calls Try.prog 50 #[.agg #[.string ⟨#[]⟩, .int .i64 0]] w fun e w' => e = .returned (.int .i64 0) ∧ Below w.heap.size w w' := len_any [] w
theorem atR (l : List Bool) (i q : Int) (w : World) (hn : l.length ≤ 1048576) (hq : q = atZ l i) :
    Calls Try.prog 60 #[.agg #[.string (pk l), .int .i64 l.length], .int .i64 i] w fun e w' => e = .returned (.int .i64 q) ∧ Below w.heap.size w w' := by subst hq; exact at_any l i w hn
theorem atZ_in (l : List Bool) (p : Nat) (b : Bool) (h : p < l.length) (hb : l.getD p false = b) : atZ l p = (bv b : Int) := by
  unfold atZ; rw [if_pos ⟨by omega, by omega⟩, Int.toNat_natCast, hb]
theorem atZ_out (l : List Bool) (p : Nat) (h : l.length ≤ p) : atZ l p = -1 := by unfold atZ; rw [if_neg (by omega)]
theorem andR (l m q : List Bool) (w : World) (h : l.length + m.length ≤ 1048576) (hq : q = l ++ m) :
    Calls Try.prog 51 #[.agg #[.string (pk l), .int .i64 l.length], .agg #[.string (pk m), .int .i64 m.length]] w fun e w' => e = .returned (.agg #[.string (pk q), .int .i64 q.length]) ∧ Below w.heap.size w w' := by
  subst hq; exact and_ok l m w h
theorem cutR (l q : List Bool) (x y : Int) (i n : Nat) (w : World) (hx : x = i) (hy : y = (i : Int) + n) (hl : l.length ≤ 1048576) (h : i + n ≤ l.length) (hq : q = (l.drop i).take n) :
    Calls Try.prog 49 #[.agg #[.string (pk l), .int .i64 l.length], .int .i64 x, .int .i64 y] w fun e w' => e = .returned (.tuple #[.agg #[.string (pk q), .int .i64 q.length], .bool true]) ∧ Below w.heap.size w w' := by
  subst hq; exact cut_okZ l x y i n w hx hy hl h
/-- block g, made from block B on, holds the bytes bs, and room up to cap -/
def Fr (B : Nat) (W : World) (g cap : Nat) (bs : List UInt8) : Prop := B ≤ g ∧ ∃ full, Rw W g full ∧ full.length = cap ∧ bs.length ≤ cap ∧ full.take bs.length = bs
section
variable {B B' g cap : Nat} {W W' : World} {bs : List UInt8}
theorem Fr.keep (h : Fr B W g cap bs) (hb : Below W.heap.size W W') : Fr B W' g cap bs := ⟨h.1, h.2.imp fun _ ⟨h1, h2⟩ => ⟨h1.keep hb, h2⟩⟩
theorem Fr.mono (h : Fr B W g cap bs) (hb : B' ≤ B) : Fr B' W g cap bs := ⟨Nat.le_trans hb h.1, h.2⟩
theorem Fr.rd (h : Fr B W g cap bs) : RdB W (some ⟨g, 0, none⟩) bs := by
  obtain ⟨full, h1, h2, h3, h4⟩ := h.2
  have := h1.rd bs.length
  rwa [h4] at this
theorem Fr.lt (h : Fr B W g cap bs) : g < W.heap.size := by
  obtain ⟨full, h1, _⟩ := h.2
  exact h1.lt
end
theorem packR (l : List Bool) (w : World) :
    Calls Try.prog 46 #[.agg #[.string (pk l), .int .i64 l.length]] w fun e w' => ∃ g cap, e = .returned (.slice (some ⟨g, 0, none⟩) (nb l.length) cap) ∧ Fr w.heap.size w' g cap (pkL l) ∧ Below w.heap.size w w' :=
  (pack_any l w).mono fun e w' ⟨full, g, he, hrw, hg, htk, hle, hb⟩ => ⟨g, full.length, he, ⟨hg, full, hrw, rfl, by rw [length_pkL]; exact hle, by rw [length_pkL]; exact htk⟩, hb⟩
theorem ofR (l : List Bool) (s : ByteArray) (w : World) (hn : l.length ≤ 1048576) (hs : s = txS l) :
    Calls Try.prog 35 #[.string s] w fun e w' => e = .returned (.tuple #[.agg #[.string (pk l), .int .i64 l.length], .bool true]) ∧ Below w.heap.size w w' := by subst hs; exact of_ok l w hn
theorem unpackR (l : List Bool) (a : Option Addr) (n cap : Nat) (m : Int) (w : World) (hl : l.length ≤ 1048576) (hr : RdB w a (pkL l)) (hn : n = nb l.length) (hm : m = l.length) :
    Calls Try.prog 58 #[.slice a n cap, .int .i64 m] w fun e w' => e = .returned (.tuple #[.agg #[.string (pk l), .int .i64 l.length], .bool true]) ∧ Below w.heap.size w w' := by
  subst hn hm; exact unpack_ok l a cap w hl hr
set_option maxRecDepth 100000 in
set_option maxHeartbeats 400000 in
/-- the next bit: where it stands goes on by one -/
theorem next_any (ga gb p : Nat) (l : List Bool) (q : Int) (w : World) (ha : Blk w ga 3 #[.int .i64 p]) (hb : Blk w gb 50 #[.string (pk l), .int .i64 l.length]) (hl : l.length ≤ 1048576) (hp : p ≤ 1048577)
    (hq : q = atZ l p) :
    Calls Try.prog 59 #[.pointer (some ⟨ga, 0, none⟩), .pointer (some ⟨gb, 0, none⟩)] w fun e w' => e = .returned (.int .i64 q) ∧ (Blk w' ga 3 #[.int .i64 ((p + 1 : Nat) : Int)] ∧ w.grownBy w' (some ga)) := by
  have hne : ga ≠ gb := by
    intro h
    subst h
    have h1 := ha
    unfold Blk at h1 hb
    rw [h1] at hb
    simp at hb
  have a0 := ha.cell 0
  have a1 := ha.frozen 0
  have w1 := ha.set_ 0 (.int .i64 ((p : Int) + 1))
  have b1 : Blk (w.setCell ⟨ga, 0, none⟩ (.int .i64 ((p : Int) + 1))) gb 50 #[.string (pk l), .int .i64 l.length] := hb.far (fun e => hne e.symm) _
  have b2 := b1.cell 0
  have b3 := b1.cell 1
  have a2 := w1.cell 0
  simp only [List.getElem?_toArray, List.getElem?_cons_zero, List.getElem?_cons_succ, List.setIfInBounds_toArray, List.set_cons_zero] at a0 b2 b3 a2
  have Hq := hide hq
  have Hne := hide hne
  clear hq hne
  have hend : w.grownBy (w.setCell ⟨ga, 0, none⟩ (.int .i64 ((p : Int) + 1))) (some ga) := ⟨rfl, rfl, rfl, by simp [World.setCell], fun k _ hk => Below.heap_setCell w ⟨ga, 0, none⟩ _ k (fun e => hk (by rw [e]))⟩
  go_enter Try.func59, Try.ntmps59
  go_wp2_with fail
  refine (atR l _ q _ hl Hq.out).mono ?_
  rintro e w2 ⟨rfl, hb2⟩
  go_wp2
  go_ret
  exact ⟨rfl, w1.keep hb2, grown_then hend hb2⟩
end Go.Proofs.Ytofbcgehemclbaa

