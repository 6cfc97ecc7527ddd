/- LabelGoesOn: the walk. -/
import Derived.Test.YtofbcgehemclbaaLg2
namespace Go.Proofs.Ytofbcgehemclbaa
open Go.RowKit Bm
theorem levelQ (a : Option Addr) (bs : List UInt8) (ss : List (List Bool)) (n c : Nat) (q : Int) (w : World) (hr : RdB w a bs) (hn : n = bs.length) (hle : (n : Int) ≤ 9223372036854775807) (hs : IsL bs ss) (hq : q = ss.length) :
    Calls Try.prog 26 #[.slice a n c] w fun e w' => e = .returned (.int .i64 q) ∧ Below w.heap.size w w' := by
  subst hq; exact level_yes a bs ss n c w hr hn hle hs
/-- between two rounds: ss are the row's steps -/
structure Go4 (w W : World) (pa : Option Addr) (ups : List UInt8) (pp : List (List Bool)) (a : Option Addr) (j c : Nat) (ss : List (List Bool)) (ps : List PcV) : Prop where
  rise : Rise pp ss
  len : j = ss.length
  cap : j ≤ c
  pcs : ps.map (·.2.2) = ss.map fun s => pkL (wr (pp ++ [s]))
  rd : Rd W a (vsP ps)
  el : ∀ p ∈ ps, RdB W p.1 p.2.2
  par : RdB W pa ups
  be : Below w.heap.size w W
def PcE (W : World) (ps : List PcV) : Prop := ∀ p ∈ ps, RdB W p.1 p.2.2
theorem PcE.keep {W W' : World} {ps : List PcV} (h : PcE W ps) (hb : Below W.heap.size W W') : PcE W' ps := fun p hp => (h p hp).keep hb
theorem PcE.alloc {W : World} {ps : List PcV} (h : PcE W ps) (o : Obj) : PcE (W.alloc o) ps := h.keep ((Below.refl _ _).alloc (Nat.le_refl _) _)
theorem parentQ (a : Option Addr) (ls ups : List UInt8) (pp : List (List Bool)) (x : List Bool) (n c m : Nat) (w : World) (hr : RdB w a ls) (hn : n = ls.length) (hle : (n : Int) ≤ 9223372036854775807) (hs : IsL ls (pp ++ [x])) (hu : IsL ups pp) (hm : m = ups.length) :
    Calls Try.prog 20 #[.slice a n c] w fun e w' => ∃ g cap, e = .returned (.tuple #[.slice (some ⟨g, 0, none⟩) m cap, .bool true]) ∧ RdB w' (some ⟨g, 0, none⟩) ups ∧ Below w.heap.size w w' := by
  have := parent_yes a ls (pp ++ [x]) n c w hr hn hle hs (by simp)
  rw [List.dropLast_concat, ← length_pkL, ← hu.2.2, ← hm] at this
  exact this.mono fun e w' ⟨g, cap, he, hf, hb⟩ => ⟨g, cap, he, hf.rd, hb⟩
theorem afterQ (a : Option Addr) (bs q : List UInt8) (ss : List (List Bool)) (n c m : Nat) (w : World) (hr : RdB w a bs) (hn : n = bs.length) (hle : (n : Int) ≤ 9223372036854775807) (hs : IsL bs ss) (h0 : ss ≠ []) (hq : q = pkL (endB ss)) (hm : m = q.length) :
    Calls Try.prog 22 #[.slice a n c] w fun e w' => ∃ g cap, e = .returned (.slice (some ⟨g, 0, none⟩) m cap) ∧ RdB w' (some ⟨g, 0, none⟩) q ∧ Below w.heap.size w w' := by
  subst hm hq
  rw [length_pkL]
  exact (after_yes a bs ss (endB ss) n c w hr hn hle hs h0 rfl).mono fun e w' ⟨g, cap, he, hf, hb⟩ => ⟨g, cap, he, hf.rd, hb⟩
/-- the row's element -/
theorem Go4.at {w W : World} {pa : Option Addr} {ups : List UInt8} {pp : List (List Bool)} {a : Option Addr} {j c : Nat} {ss : List (List Bool)} {ps : List PcV} (h : Go4 w W pa ups pp a j c ss ps) (k : Nat) (hk : k < j) :
    ∃ b off p c1 bs, a = some ⟨b, off, none⟩ ∧ W.cell? ⟨b, off + k, none⟩ = some (.slice p bs.length c1) ∧ RdB W p bs ∧ bs = pkL (wr (pp ++ [ss.getD k []])) := by
  have hl := h.len
  obtain ⟨b, off, p, c1, h1, h2, h3⟩ := RdP.at ⟨ps, h.pcs, h.rd, h.el⟩ k (pkL (wr (pp ++ [ss.getD k []]))) (by
    rw [List.getElem?_map, List.getD_eq_getElem?_getD, List.getElem?_eq_getElem (by omega)]; rfl)
  exact ⟨b, off, p, c1, _, h1, h2, h3, rfl⟩
theorem isL_of_rise {pp ss : List (List Bool)} (h : Rise pp ss) (hp : okS pp) (k : Nat) (hk : k < ss.length) : IsL (pkL (wr (pp ++ [ss.getD k []]))) (pp ++ [ss.getD k []]) := by
  have := h.ok _ (getD_mem' hk)
  exact ⟨okS_snoc hp this.1, this.2, rfl⟩
theorem above_pf {ss tt : List (List Bool)} (h : Pf ss tt) : true = aboveS ss tt := by
  have := h.beg
  unfold aboveS begS
  simp [this]
  try omega
set_option maxRecDepth 100000 in
set_option maxHeartbeats 4000000 in
theorem labelGoesOn_walk (a0 : Option Addr) (len0 cap0 : Nat) (z0 : List Int) (a1 : Option Addr) (len1 cap1 : Nat) (z1 : List Int) (w : World)
    (w0 : IsRow .u8 w a0 len0 cap0 z0) (w1 : IsRow .i64 w a1 len1 cap1 z1) :
    Calls Try.prog 7 #[.slice a0 len0 cap0, .slice a1 len1 cap1] w fun e w' => e = .returned (.bool true) ∧ Below w.heap.size w w' := by
  have hB := Below.refl w.heap.size w
  obtain ⟨ups, hl0, hr0, hz0⟩ := rd_of_row w0
  have hz1 := row_len w1
  by_cases hs : (200 : Int) < (len0 : Int)
  · clear hl0 w0 w1
    go_enter Try.func7, Try.ntmps7
    go_wp2_with fail
    refine (awake_any _).mono ?_
    rintro e w1 ⟨rfl, hb1⟩
    have hB2 : Below w.heap.size w w1 := by first | exact chain0 hB hb1 | exact chain1 hB hb1 | exact chain2 hB hb1 | exact chain3 hB hb1
    clear hB
    have hB := hB2
    clear hB2
    go_wp2
    go_ret
    exact ⟨rfl, hB⟩
  have hs' : (len0 : Int) ≤ 200 := by omega
  by_cases hs1 : (300 : Int) < (len1 : Int)
  · clear hl0 w0 w1 hs
    go_enter Try.func7, Try.ntmps7
    go_wp2_with fail
    refine (awake_any _).mono ?_
    rintro e w1 ⟨rfl, hb1⟩
    have hB2 : Below w.heap.size w w1 := by first | exact chain0 hB hb1 | exact chain1 hB hb1 | exact chain2 hB hb1 | exact chain3 hB hb1
    clear hB
    have hB := hB2
    clear hB2
    go_wp2
    go_ret
    exact ⟨rfl, hB⟩
  have hs1' : (len1 : Int) ≤ 300 := by omega
  have hlen1 : len1 ≤ 300 := by omega
  have Hl0 : Hid (len0 = ups.length) := hl0.symm
  by_cases hp : ∃ pp, IsL ups pp
  rotate_left
  · have Hp := hide hp
    clear hl0 w0 w1 hs hs1 hp
    go_enter Try.func7, Try.ntmps7
    go_wp2_with fail
    refine (awake_any _).mono ?_
    rintro e w1 ⟨rfl, hb1⟩
    have hB2 : Below w.heap.size w w1 := by first | exact chain0 hB hb1 | exact chain1 hB hb1 | exact chain2 hB hb1 | exact chain3 hB hb1
    clear hB
    have hB := hB2
    clear hB2
    have x_X : RdB w1 a0 ups := hr0.keep hB
    clear hr0
    go_wp2_with fail
    refine (right_noL a0 ups len0 cap0 _ x_X Hl0.out (by omega) Hp.out).mono ?_
    rintro e w2 ⟨rfl, hb2⟩
    have hB2 : Below w.heap.size w w2 := by first | exact chain0 hB hb2 | exact chain1 hB hb2 | exact chain2 hB hb2 | exact chain3 hB hb2
    clear hB
    have hB := hB2
    clear hB2
    have y_X : RdB w2 a0 ups := by first | exact x_X.keep hb2 | exact (x_X.alloc _).keep hb2 | exact ((x_X.alloc _).alloc _).keep hb2 | exact (((x_X.alloc _).alloc _).alloc _).keep hb2
    clear x_X
    have x_X := y_X
    clear y_X
    go_wp2
    go_ret
    exact ⟨rfl, hB⟩
  obtain ⟨pp, hp⟩ := hp
  have hpl := wr_le hp.2.1
  have hnp : len0 = nb (wr pp).length := by rw [← hl0, hp.2.2, length_pkL]
  have Hp := hide hp
  have Hnp := hide hnp
  have Hw1 := hide w1
  clear hl0 w0 w1 hs hs1 hp hnp
  go_enter Try.func7, Try.ntmps7
  go_wp2_with fail
  refine (awake_any _).mono ?_
  rintro e w1 ⟨rfl, hb1⟩
  have hB2 : Below w.heap.size w w1 := by first | exact chain0 hB hb1 | exact chain1 hB hb1 | exact chain2 hB hb1 | exact chain3 hB hb1
  clear hB
  have hB := hB2
  clear hB2
  have x_X : RdB w1 a0 ups := hr0.keep hB
  clear hr0
  go_wp2_with fail
  refine (right_yesL a0 ups pp len0 cap0 _ x_X Hl0.out (by omega) Hp.out).mono ?_
  rintro e w2 ⟨rfl, hb2⟩
  have hB2 : Below w.heap.size w w2 := by first | exact chain0 hB hb2 | exact chain1 hB hb2 | exact chain2 hB hb2 | exact chain3 hB hb2
  clear hB
  have hB := hB2
  clear hB2
  have y_X : RdB w2 a0 ups := by first | exact x_X.keep hb2 | exact (x_X.alloc _).keep hb2 | exact ((x_X.alloc _).alloc _).keep hb2 | exact (((x_X.alloc _).alloc _).alloc _).keep hb2
  clear x_X
  have x_X := y_X
  clear y_X
  go_wp2_with fail
  refine (copyB_any a0 ups len0 cap0 _ x_X Hl0.out (by omega)).mono ?_
  rintro e w3 ⟨pa, pc, rfl, hown, hb3⟩
  have hB2 : Below w.heap.size w w3 := by first | exact chain0 hB hb3 | exact chain1 hB hb3 | exact chain2 hB hb3 | exact chain3 hB hb3
  clear hB
  have hB := hB2
  clear hB2
  have y_X : RdB w3 a0 ups := by first | exact x_X.keep hb3 | exact (x_X.alloc _).keep hb3 | exact ((x_X.alloc _).alloc _).keep hb3 | exact (((x_X.alloc _).alloc _).alloc _).keep hb3
  clear x_X
  have x_X := y_X
  clear y_X
  have G0 : Go4 w w3 pa ups pp none 0 0 [] [] := ⟨Rise.nil _, rfl, Nat.le_refl _, rfl, Rd.nil _ _, fun p hp => absurd hp (by simp), hown.rd, hB⟩
  clear hown hB x_X
  go_wp2_with fail
  go_loopw [6, 7] (fun v x W => ∃ (i : Nat) (a : Option Addr) (j c : Nat) (ss : List (List Bool)) (ps : List PcV), i ≤ len1 ∧ j ≤ i ∧ x = .int .i64 i ∧ v = .slice a j c ∧ Go4 w W pa ups pp a j c ss ps) (fun _ x _ => len1 - (intOf x).toNat)
  case atStart => exact ⟨0, none, 0, 0, [], [], Nat.zero_le _, Nat.le_refl _, rfl, rfl, G0⟩
  case round =>
    clear G0
    obtain ⟨i, a, j, c, ss, ps, hi, hji, rfl, rfl, G⟩ := hrel
    by_cases hlt : i < len1
    · obtain ⟨b1, o1, z, ha1, hcell⟩ := int_at Hw1.out i hlt
      subst ha1
      have hcell := cell_keep G.be hcell
      have hix := fun W => ix_int b1 o1 len1 cap1 i hlt W
      go_wp2_with fail
      refine (pick_any z (j + 1) _ (by omega) (by omega)).mono ?_
      rintro e W1 ⟨k, hk, rfl, rfl⟩
      clear hcell hix
      have hbR := G.be
      have hkj : k ≤ ss.length := by rw [← G.len]; omega
      have hlow : k = 0 → lowOf ss k = [] := fun h => by unfold lowOf; rw [if_pos h]
      have hhigh : ¬ k < j → highOf ss k = [] := fun h => by unfold highOf; rw [List.getD_eq_getElem?_getD, List.getElem?_eq_none (by have := G.len; omega)]; rfl
      obtain ⟨lo, hlo⟩ : ∃ s, s = lowOf ss k := ⟨_, rfl⟩
      obtain ⟨hi', hhi⟩ : ∃ s, s = highOf ss k := ⟨_, rfl⟩
      obtain ⟨x, hx⟩ : ∃ x, x = short (lowOf ss k) (highOf ss k) := ⟨_, rfl⟩
      obtain ⟨r, hr⟩ : ∃ r, r = Bm.wr (pp ++ [x]) := ⟨_, rfl⟩
      obtain ⟨la, hla⟩ : ∃ n, n = lowLen pp ss k := ⟨_, rfl⟩
      obtain ⟨lb, hlb⟩ : ∃ n, n = highLen pp ss k := ⟨_, rfl⟩
      have hask := G.rise.asked hkj
      have hmost := G.rise.most hkj hx
      have hlong := fun h => G.rise.long hkj hx h
      rw [← hr, ← hla, ← hlb, ← Hnp.out] at hmost hlong
      rw [← hlo, ← hhi] at hask
      have hx2 : x = short lo hi' := by rw [hx, hlo, hhi]
      have hlowx := short_low hask
      rw [← hx2] at hlowx
      have hins := fun h => G.rise.ins hkj hx h
      have hxl : lastOne x = true := by rw [hx2]; exact short_last hask
      have hix := fun (q : Nat) (hq : q < j) b off W => ix_pc b off j c q hq W
      -- the two neighbours
      have hA : ∃ pa9 ca9 as_, (k = 0 ∧ pa9 = none ∧ ca9 = 0 ∧ as_ = [] ∧ la = 0 ∨ 0 < k ∧ (0 : Int) < la ∧ as_ = pkL (Bm.wr (pp ++ [lo])) ∧ IsL as_ (pp ++ [lo]) ∧ ∃ b off, a = some ⟨b, off, none⟩ ∧ wr.cell? ⟨b, off + (k - 1), none⟩ = some (.slice pa9 la ca9)) ∧ RdB wr pa9 as_ ∧ la = as_.length := by
        by_cases h0 : k = 0
        · have h1 : la = 0 := by rw [hla]; unfold lowLen; rw [if_pos h0]
          exact ⟨none, 0, [], .inl ⟨h0, rfl, rfl, rfl, h1⟩, .inl rfl, h1⟩
        · have h1 : lo = ss.getD (k - 1) [] := by rw [hlo]; unfold lowOf; rw [if_neg h0]
          obtain ⟨b, off, p, c1, as_, e1, e2, e3, e4⟩ := G.at (k - 1) (by omega)
          have e5 := isL_of_rise G.rise Hp.out.1 (k - 1) (by omega)
          rw [← h1] at e4 e5
          have e6 : la = as_.length := by rw [hla, e4, length_pkL]; unfold lowLen; rw [if_neg h0, ← hlo]
          have e7 : as_ ≠ [] := by rw [e4]; exact (childOf_ne e5).1
          have e8 := List.length_pos_iff.2 e7
          rw [← e4] at e5
          refine ⟨p, c1, as_, .inr ⟨by omega, by omega, e4, e5, b, off, e1, by rw [e6]; exact e2⟩, e3, e6⟩
      have hBn : ∃ pb9 cb9 bs, (¬ k < j ∧ pb9 = none ∧ cb9 = 0 ∧ bs = [] ∧ lb = 0 ∨ k < j ∧ (0 : Int) < lb ∧ bs = pkL (Bm.wr (pp ++ [hi'])) ∧ IsL bs (pp ++ [hi']) ∧ lexB x hi' = -1 ∧ ∃ b off, a = some ⟨b, off, none⟩ ∧ wr.cell? ⟨b, off + k, none⟩ = some (.slice pb9 lb cb9)) ∧ RdB wr pb9 bs ∧ lb = bs.length := by
        by_cases h0 : k < j
        · have h1 : hi' = ss.getD k [] := hhi
          obtain ⟨b, off, p, c1, bs, e1, e2, e3, e4⟩ := G.at k h0
          have e5 := isL_of_rise G.rise Hp.out.1 k (by rw [← G.len]; exact h0)
          rw [← h1] at e4 e5
          have e6 : lb = bs.length := by rw [hlb, e4, length_pkL]; unfold highLen; rw [if_pos (by rw [← G.len]; exact h0), ← hhi]
          have e7 : bs ≠ [] := by rw [e4]; exact (childOf_ne e5).1
          have e8 := List.length_pos_iff.2 e7
          have e9 := short_high hask (lastOne_ne (childOf_ne e5).2.2.1)
          rw [← hx2] at e9
          rw [← e4] at e5
          refine ⟨p, c1, bs, .inr ⟨h0, by omega, e4, e5, e9, b, off, e1, by rw [e6]; exact e2⟩, e3, e6⟩
        · have h1 : lb = 0 := by rw [hlb]; unfold highLen; rw [if_neg (by rw [← G.len]; exact h0)]
          exact ⟨none, 0, [], .inl ⟨h0, rfl, rfl, rfl, h1⟩, .inl rfl, h1⟩
      obtain ⟨pa9, ca9, as_, hA, hra, hla9⟩ := hA
      obtain ⟨pb9, cb9, bs, hBn, hrb, hlb9⟩ := hBn
      have hcs : ChildOf pp as_ lo := by
        rcases hA with ⟨h, _, _, h1, _⟩ | ⟨_, _, _, h, _⟩
        · exact .inl ⟨h1, by rw [hlo]; exact hlow h⟩
        · exact .inr h
      have hct : ChildOf pp bs hi' := by
        rcases hBn with ⟨h, _, _, h1, _⟩ | ⟨_, _, _, h, _⟩
        · exact .inl ⟨h1, by rw [hhi]; exact hhigh h⟩
        · exact .inr h
      have hltb : as_ ≠ [] → bs ≠ [] → lexB lo hi' = -1 := fun _ h2 => by
        rcases hask with h | h
        · rcases hct with ⟨h3, _⟩ | h3
          · exact absurd h3 h2
          · exact absurd h (lastOne_ne (childOf_ne h3).2.2.1)
        · exact h.1
      obtain ⟨lbs, hlbs⟩ : ∃ q, q = pkL r := ⟨_, rfl⟩
      obtain ⟨nl, hnl⟩ : ∃ n, n = lbs.length := ⟨_, rfl⟩
      have hnl2 : nl = nb r.length := by rw [hnl, hlbs, length_pkL]
      have hlal : la ≤ 128 ∧ lb ≤ 128 := by
        have q1 := hA; have q2 := hBn
        constructor
        · rcases q1 with ⟨_, _, _, _, h⟩ | ⟨_, _, _, h, _⟩
          · omega
          · have := (isL_bits h).1; omega
        · rcases q2 with ⟨_, _, _, _, h⟩ | ⟨_, _, _, h, _⟩
          · omega
          · have := (isL_bits h).1; omega
      obtain ⟨hlal, hlbl⟩ := hlal
      have hbet : ∀ W, RdB W pa ups → RdB W pa9 as_ → RdB W pb9 bs → Calls Try.prog 15 #[.slice pa len0 pc, .slice pa9 la ca9, .slice pb9 lb cb9] W fun e w' =>
          (r.length ≤ 1024 ∧ ∃ g cap, e = .returned (.tuple #[.slice (some ⟨g, 0, none⟩) nl cap, .int .i64 0]) ∧ RdB w' (some ⟨g, 0, none⟩) lbs ∧ Below W.heap.size W w') ∨ (1024 < r.length ∧ e = .returned (.tuple #[.slice none 0 0, .int .i64 140]) ∧ Below W.heap.size W w') := fun W h1 h2 h3 => by
        refine (between_any pa pa9 pb9 ups as_ bs pp lo hi' r len0 pc la ca9 lb cb9 W h1 h2 h3 Hl0.out hla9 hlb9 (by omega) (by omega) (by omega) Hp.out hcs hct hltb (by rw [hr, hx2])).mono ?_
        rintro e w' (⟨q1, g, cap, q2, q3, q4⟩ | h)
        · exact .inl ⟨q1, g, cap, by rw [hnl2]; exact q2, by rw [hlbs]; exact q3.rd, q4⟩
        · exact .inr h
      have hisL : r.length ≤ 1024 → IsL lbs (pp ++ [x]) := fun h => ⟨okS_snoc Hp.out.1 hxl, by rw [← hr]; exact h, by rw [hlbs, hr]⟩
      have hpf : Pf pp (pp ++ [x]) := ⟨x, [], rfl, lastOne_ne hxl⟩
      have habv := above_pf hpf
      have hcp : -1 = Lib.compareBytes ups lbs := by rw [Hp.out.2.2, hlbs, hr]; exact hpf.cmp.symm
      obtain ⟨fin, hfin⟩ : ∃ q, q = pkL (endB pp) := ⟨_, rfl⟩
      obtain ⟨nf, hnf⟩ : ∃ n, n = fin.length := ⟨_, rfl⟩
      have hcf : pp ≠ [] → -1 = Lib.compareBytes lbs fin := fun h => by rw [hfin, hlbs, hr]; exact (hpf.fin h).symm
      have hca : 0 < k → -1 = Lib.compareBytes as_ lbs := fun h => by
        rcases hA with ⟨h1, _⟩ | ⟨_, _, h1, _⟩
        · omega
        · rw [h1, hlbs, hr]; exact (Dv.kids pp hlowx).cmp.symm
      have hcb : k < j → -1 = Lib.compareBytes lbs bs := fun h => by
        rcases hBn with ⟨h1, _⟩ | ⟨_, _, h1, _, h2, _⟩
        · exact absurd h h1
        · rw [h1, hlbs, hr]; exact (Dv.kids pp h2).cmp.symm
      obtain ⟨lv, hlv⟩ : ∃ n, n = pp.length := ⟨_, rfl⟩
      have hlv1 : ((lv : Int) + 1) = (pp ++ [x]).length := by rw [hlv]; simp
      have hlvl : lv ≤ 1024 := by omega
      obtain ⟨m1, hm1⟩ : ∃ m : Int, (if la < lb then (lb : Int) else (la : Int)) = m := ⟨_, rfl⟩
      obtain ⟨m2, hm2⟩ : ∃ m : Int, (if m1 < (len0 : Int) + 1 then (len0 : Int) + 1 else m1) = m := ⟨_, rfl⟩
      have hm1b : 0 ≤ m1 ∧ m1 ≤ 128 := by rw [← hm1]; split <;> omega
      have hm2b : 0 ≤ m2 ∧ m2 ≤ 1000 := by rw [← hm2]; split <;> omega
      have hm3 : (nl : Int) ≤ m2 + 1 := by
        rw [← hm2, ← hm1, hnl2]
        split
        · split at * <;> omega
        · split at * <;> omega
      have Hm := hide (And.intro hm1 (And.intro hm2 (And.intro hm2b hm3)))
      have hnl128 : r.length ≤ 1024 → nl ≤ 128 := fun h => by rw [hnl2]; unfold nb; omega
      have Hhr := hide hr
      have Hlong := hide hlong
      have Hins := hide hins
      have Hix := hide hix
      have Hla9 := hide hla9
      have Hlb9 := hide hlb9
      have Hlbs := hide hlbs
      have Hnl := hide hnl
      have Hbet := hide hbet
      have HisL := hide hisL
      have Habv := hide habv
      have Hcp := hide hcp
      have Hfin := hide hfin
      have Hnf := hide hnf
      have Hcf := hide hcf
      have Hca := hide hca
      have Hcb := hide hcb
      have Hlv := hide hlv
      have Hlv1 := hide hlv1
      have Hnl128 := hide hnl128
      have HG := hide G
      have Hhx := hide hx
      have hB := G.be
      have x_P : RdB wr pa ups := G.par
      have x_A : RdB wr pa9 as_ := hra
      have x_B : RdB wr pb9 bs := hrb
      have x_R : Rd wr a (vsP ps) := G.rd
      have x_E : PcE wr ps := G.el
      clear hlo hhi hx hr hla hlb hask hmost hlong hx2 hlowx hins hxl hix hcs hct hltb hlbs hnl hnl2 hbet hisL hpf habv hcp hfin hnf hcf hca hcb hlv hlv1 hm1 hm2 hm1b hm2b hm3 hnl128 hra hrb hla9 hlb9 hlow hhigh G hbR hkj
      have hnpE := Hnp
      rcases hA with ⟨hk0, rfl, rfl, -, hla0⟩ | ⟨hk0, hla0, -, -, bA, oA, ha, hcA⟩
      · subst hla0
        have hkI : ¬ (0 : Int) < k := by omega
        clear hk0
        rcases hBn with ⟨hkj, rfl, rfl, -, hlb0⟩ | ⟨hkj, hlb0, -, -, -, bB, oB, ha', hcB⟩
        · subst hlb0
          have hkd : decide (k < j) = false := decide_eq_false hkj
          clear hkj
          have x_P : RdB wr pa ups := x_P
          have x_A : RdB wr none as_ := x_A
          have x_B : RdB wr none bs := x_B
          have x_R : Rd wr (a) (vsP ps) := x_R
          have x_E : PcE wr ps := x_E
          go_wp2_with fail
          refine (Hbet.out _ x_P x_A x_B).mono ?_
          rintro e w4 (⟨hr4, g, cap, rfl, hl4, hb4⟩ | ⟨hr4, rfl, hb4⟩)
          rotate_left
          · have hB2 : Below w.heap.size w w4 := by first | exact chain0 hB hb4 | exact chain1 hB hb4 | exact chain2 hB hb4 | exact chain3 hB hb4
            clear hB
            have hB := hB2
            clear hB2
            have y_P : RdB w4 pa ups := by first | exact x_P.keep hb4 | exact (x_P.alloc _).keep hb4 | exact ((x_P.alloc _).alloc _).keep hb4 | exact (((x_P.alloc _).alloc _).alloc _).keep hb4
            have y_A : RdB w4 none as_ := by first | exact x_A.keep hb4 | exact (x_A.alloc _).keep hb4 | exact ((x_A.alloc _).alloc _).keep hb4 | exact (((x_A.alloc _).alloc _).alloc _).keep hb4
            have y_B : RdB w4 none bs := by first | exact x_B.keep hb4 | exact (x_B.alloc _).keep hb4 | exact ((x_B.alloc _).alloc _).keep hb4 | exact (((x_B.alloc _).alloc _).alloc _).keep hb4
            have y_R : Rd w4 (a) (vsP ps) := by first | exact x_R.keep hb4 | exact (x_R.alloc _).keep hb4 | exact ((x_R.alloc _).alloc _).keep hb4 | exact (((x_R.alloc _).alloc _).alloc _).keep hb4
            have y_E : PcE w4 ps := by first | exact x_E.keep hb4 | exact (x_E.alloc _).keep hb4 | exact ((x_E.alloc _).alloc _).keep hb4 | exact (((x_E.alloc _).alloc _).alloc _).keep hb4
            clear x_P x_A x_B x_R x_E
            have x_P := y_P
            have x_A := y_A
            have x_B := y_B
            have x_R := y_R
            have x_E := y_E
            clear y_P y_A y_B y_R y_E
            have t := Hlong.out hr4
            by_cases t1 : (120 : Int) < len0
            · go_wp2
              go_ret
              exact ⟨rfl, hB⟩
            · by_cases t2 : (120 : Int) < ((0 : Nat) : Int)
              · first
                  | (exfalso; omega)
                  | (go_wp2
                     go_ret
                     exact ⟨rfl, hB⟩)
              · have t3 : (120 : Int) < ((0 : Nat) : Int) := by omega
                first
                  | (exfalso; omega)
                  | (go_wp2
                     go_ret
                     exact ⟨rfl, hB⟩)
          · have hB2 : Below w.heap.size w w4 := by first | exact chain0 hB hb4 | exact chain1 hB hb4 | exact chain2 hB hb4 | exact chain3 hB hb4
            clear hB
            have hB := hB2
            clear hB2
            have y_P : RdB w4 pa ups := by first | exact x_P.keep hb4 | exact (x_P.alloc _).keep hb4 | exact ((x_P.alloc _).alloc _).keep hb4 | exact (((x_P.alloc _).alloc _).alloc _).keep hb4
            have y_A : RdB w4 none as_ := by first | exact x_A.keep hb4 | exact (x_A.alloc _).keep hb4 | exact ((x_A.alloc _).alloc _).keep hb4 | exact (((x_A.alloc _).alloc _).alloc _).keep hb4
            have y_B : RdB w4 none bs := by first | exact x_B.keep hb4 | exact (x_B.alloc _).keep hb4 | exact ((x_B.alloc _).alloc _).keep hb4 | exact (((x_B.alloc _).alloc _).alloc _).keep hb4
            have y_R : Rd w4 (a) (vsP ps) := by first | exact x_R.keep hb4 | exact (x_R.alloc _).keep hb4 | exact ((x_R.alloc _).alloc _).keep hb4 | exact (((x_R.alloc _).alloc _).alloc _).keep hb4
            have y_E : PcE w4 ps := by first | exact x_E.keep hb4 | exact (x_E.alloc _).keep hb4 | exact ((x_E.alloc _).alloc _).keep hb4 | exact (((x_E.alloc _).alloc _).alloc _).keep hb4
            clear x_P x_A x_B x_R x_E
            have x_P := y_P
            have x_A := y_A
            have x_B := y_B
            have x_R := y_R
            have x_E := y_E
            clear y_P y_A y_B y_R y_E
            have x_L : RdB w4 (some ⟨g, 0, none⟩) lbs := hl4
            have Hi5 := hide (HisL.out hr4)
            have hnl5 := Hnl128.out hr4
            have hb4' := hb4
            clear hl4 hb4 hb4'
            go_wp2_with fail
            refine (parentQ _ lbs ups pp x nl _ len0 _ x_L Hnl.out (by omega) Hi5.out Hp.out Hl0.out).mono ?_
            rintro e w5 ⟨gp, cp, rfl, kp, hb5⟩
            have hB2 : Below w.heap.size w w5 := by first | exact chain0 hB hb5 | exact chain1 hB hb5 | exact chain2 hB hb5 | exact chain3 hB hb5
            clear hB
            have hB := hB2
            clear hB2
            have y_P : RdB w5 pa ups := by first | exact x_P.keep hb5 | exact (x_P.alloc _).keep hb5 | exact ((x_P.alloc _).alloc _).keep hb5 | exact (((x_P.alloc _).alloc _).alloc _).keep hb5
            have y_A : RdB w5 none as_ := by first | exact x_A.keep hb5 | exact (x_A.alloc _).keep hb5 | exact ((x_A.alloc _).alloc _).keep hb5 | exact (((x_A.alloc _).alloc _).alloc _).keep hb5
            have y_B : RdB w5 none bs := by first | exact x_B.keep hb5 | exact (x_B.alloc _).keep hb5 | exact ((x_B.alloc _).alloc _).keep hb5 | exact (((x_B.alloc _).alloc _).alloc _).keep hb5
            have y_R : Rd w5 (a) (vsP ps) := by first | exact x_R.keep hb5 | exact (x_R.alloc _).keep hb5 | exact ((x_R.alloc _).alloc _).keep hb5 | exact (((x_R.alloc _).alloc _).alloc _).keep hb5
            have y_E : PcE w5 ps := by first | exact x_E.keep hb5 | exact (x_E.alloc _).keep hb5 | exact ((x_E.alloc _).alloc _).keep hb5 | exact (((x_E.alloc _).alloc _).alloc _).keep hb5
            have y_L : RdB w5 (some ⟨g, 0, none⟩) lbs := by first | exact x_L.keep hb5 | exact (x_L.alloc _).keep hb5 | exact ((x_L.alloc _).alloc _).keep hb5 | exact (((x_L.alloc _).alloc _).alloc _).keep hb5
            clear x_P x_A x_B x_R x_E x_L
            have x_P := y_P
            have x_A := y_A
            have x_B := y_B
            have x_R := y_R
            have x_E := y_E
            have x_L := y_L
            clear y_P y_A y_B y_R y_E y_L
            have x_Q : RdB w5 (some ⟨gp, 0, none⟩) ups := kp
            clear kp
            go_wp2_with fail
            refine (sameT _ _ ups len0 _ len0 _ _ x_Q x_P Hl0.out Hl0.out (by omega)).mono ?_
            rintro e w6 ⟨rfl, hb6⟩
            have hB2 : Below w.heap.size w w6 := by first | exact chain0 hB hb6 | exact chain1 hB hb6 | exact chain2 hB hb6 | exact chain3 hB hb6
            clear hB
            have hB := hB2
            clear hB2
            have y_P : RdB w6 pa ups := by first | exact x_P.keep hb6 | exact (x_P.alloc _).keep hb6 | exact ((x_P.alloc _).alloc _).keep hb6 | exact (((x_P.alloc _).alloc _).alloc _).keep hb6
            have y_A : RdB w6 none as_ := by first | exact x_A.keep hb6 | exact (x_A.alloc _).keep hb6 | exact ((x_A.alloc _).alloc _).keep hb6 | exact (((x_A.alloc _).alloc _).alloc _).keep hb6
            have y_B : RdB w6 none bs := by first | exact x_B.keep hb6 | exact (x_B.alloc _).keep hb6 | exact ((x_B.alloc _).alloc _).keep hb6 | exact (((x_B.alloc _).alloc _).alloc _).keep hb6
            have y_R : Rd w6 (a) (vsP ps) := by first | exact x_R.keep hb6 | exact (x_R.alloc _).keep hb6 | exact ((x_R.alloc _).alloc _).keep hb6 | exact (((x_R.alloc _).alloc _).alloc _).keep hb6
            have y_E : PcE w6 ps := by first | exact x_E.keep hb6 | exact (x_E.alloc _).keep hb6 | exact ((x_E.alloc _).alloc _).keep hb6 | exact (((x_E.alloc _).alloc _).alloc _).keep hb6
            have y_L : RdB w6 (some ⟨g, 0, none⟩) lbs := by first | exact x_L.keep hb6 | exact (x_L.alloc _).keep hb6 | exact ((x_L.alloc _).alloc _).keep hb6 | exact (((x_L.alloc _).alloc _).alloc _).keep hb6
            have y_Q : RdB w6 (some ⟨gp, 0, none⟩) ups := by first | exact x_Q.keep hb6 | exact (x_Q.alloc _).keep hb6 | exact ((x_Q.alloc _).alloc _).keep hb6 | exact (((x_Q.alloc _).alloc _).alloc _).keep hb6
            clear x_P x_A x_B x_R x_E x_L x_Q
            have x_P := y_P
            have x_A := y_A
            have x_B := y_B
            have x_R := y_R
            have x_E := y_E
            have x_L := y_L
            have x_Q := y_Q
            clear y_P y_A y_B y_R y_E y_L y_Q
            go_wp2_with fail
            refine (right_yesL _ lbs (pp ++ [x]) nl _ _ x_L Hnl.out (by omega) Hi5.out).mono ?_
            rintro e w7 ⟨rfl, hb7⟩
            have hB2 : Below w.heap.size w w7 := by first | exact chain0 hB hb7 | exact chain1 hB hb7 | exact chain2 hB hb7 | exact chain3 hB hb7
            clear hB
            have hB := hB2
            clear hB2
            have y_P : RdB w7 pa ups := by first | exact x_P.keep hb7 | exact (x_P.alloc _).keep hb7 | exact ((x_P.alloc _).alloc _).keep hb7 | exact (((x_P.alloc _).alloc _).alloc _).keep hb7
            have y_A : RdB w7 none as_ := by first | exact x_A.keep hb7 | exact (x_A.alloc _).keep hb7 | exact ((x_A.alloc _).alloc _).keep hb7 | exact (((x_A.alloc _).alloc _).alloc _).keep hb7
            have y_B : RdB w7 none bs := by first | exact x_B.keep hb7 | exact (x_B.alloc _).keep hb7 | exact ((x_B.alloc _).alloc _).keep hb7 | exact (((x_B.alloc _).alloc _).alloc _).keep hb7
            have y_R : Rd w7 (a) (vsP ps) := by first | exact x_R.keep hb7 | exact (x_R.alloc _).keep hb7 | exact ((x_R.alloc _).alloc _).keep hb7 | exact (((x_R.alloc _).alloc _).alloc _).keep hb7
            have y_E : PcE w7 ps := by first | exact x_E.keep hb7 | exact (x_E.alloc _).keep hb7 | exact ((x_E.alloc _).alloc _).keep hb7 | exact (((x_E.alloc _).alloc _).alloc _).keep hb7
            have y_L : RdB w7 (some ⟨g, 0, none⟩) lbs := by first | exact x_L.keep hb7 | exact (x_L.alloc _).keep hb7 | exact ((x_L.alloc _).alloc _).keep hb7 | exact (((x_L.alloc _).alloc _).alloc _).keep hb7
            have y_Q : RdB w7 (some ⟨gp, 0, none⟩) ups := by first | exact x_Q.keep hb7 | exact (x_Q.alloc _).keep hb7 | exact ((x_Q.alloc _).alloc _).keep hb7 | exact (((x_Q.alloc _).alloc _).alloc _).keep hb7
            clear x_P x_A x_B x_R x_E x_L x_Q
            have x_P := y_P
            have x_A := y_A
            have x_B := y_B
            have x_R := y_R
            have x_E := y_E
            have x_L := y_L
            have x_Q := y_Q
            clear y_P y_A y_B y_R y_E y_L y_Q
            go_wp2_with fail
            refine (levelQ _ lbs (pp ++ [x]) nl _ ((lv : Int) + 1) _ x_L Hnl.out (by omega) Hi5.out Hlv1.out).mono ?_
            rintro e w8 ⟨rfl, hb8⟩
            have hB2 : Below w.heap.size w w8 := by first | exact chain0 hB hb8 | exact chain1 hB hb8 | exact chain2 hB hb8 | exact chain3 hB hb8
            clear hB
            have hB := hB2
            clear hB2
            have y_P : RdB w8 pa ups := by first | exact x_P.keep hb8 | exact (x_P.alloc _).keep hb8 | exact ((x_P.alloc _).alloc _).keep hb8 | exact (((x_P.alloc _).alloc _).alloc _).keep hb8
            have y_A : RdB w8 none as_ := by first | exact x_A.keep hb8 | exact (x_A.alloc _).keep hb8 | exact ((x_A.alloc _).alloc _).keep hb8 | exact (((x_A.alloc _).alloc _).alloc _).keep hb8
            have y_B : RdB w8 none bs := by first | exact x_B.keep hb8 | exact (x_B.alloc _).keep hb8 | exact ((x_B.alloc _).alloc _).keep hb8 | exact (((x_B.alloc _).alloc _).alloc _).keep hb8
            have y_R : Rd w8 (a) (vsP ps) := by first | exact x_R.keep hb8 | exact (x_R.alloc _).keep hb8 | exact ((x_R.alloc _).alloc _).keep hb8 | exact (((x_R.alloc _).alloc _).alloc _).keep hb8
            have y_E : PcE w8 ps := by first | exact x_E.keep hb8 | exact (x_E.alloc _).keep hb8 | exact ((x_E.alloc _).alloc _).keep hb8 | exact (((x_E.alloc _).alloc _).alloc _).keep hb8
            have y_L : RdB w8 (some ⟨g, 0, none⟩) lbs := by first | exact x_L.keep hb8 | exact (x_L.alloc _).keep hb8 | exact ((x_L.alloc _).alloc _).keep hb8 | exact (((x_L.alloc _).alloc _).alloc _).keep hb8
            have y_Q : RdB w8 (some ⟨gp, 0, none⟩) ups := by first | exact x_Q.keep hb8 | exact (x_Q.alloc _).keep hb8 | exact ((x_Q.alloc _).alloc _).keep hb8 | exact (((x_Q.alloc _).alloc _).alloc _).keep hb8
            clear x_P x_A x_B x_R x_E x_L x_Q
            have x_P := y_P
            have x_A := y_A
            have x_B := y_B
            have x_R := y_R
            have x_E := y_E
            have x_L := y_L
            have x_Q := y_Q
            clear y_P y_A y_B y_R y_E y_L y_Q
            go_wp2_with fail
            refine (levelQ _ ups pp len0 _ (lv : Int) _ x_P Hl0.out (by omega) Hp.out (by rw [Hlv.out])).mono ?_
            rintro e w9 ⟨rfl, hb9⟩
            have hB2 : Below w.heap.size w w9 := by first | exact chain0 hB hb9 | exact chain1 hB hb9 | exact chain2 hB hb9 | exact chain3 hB hb9
            clear hB
            have hB := hB2
            clear hB2
            have y_P : RdB w9 pa ups := by first | exact x_P.keep hb9 | exact (x_P.alloc _).keep hb9 | exact ((x_P.alloc _).alloc _).keep hb9 | exact (((x_P.alloc _).alloc _).alloc _).keep hb9
            have y_A : RdB w9 none as_ := by first | exact x_A.keep hb9 | exact (x_A.alloc _).keep hb9 | exact ((x_A.alloc _).alloc _).keep hb9 | exact (((x_A.alloc _).alloc _).alloc _).keep hb9
            have y_B : RdB w9 none bs := by first | exact x_B.keep hb9 | exact (x_B.alloc _).keep hb9 | exact ((x_B.alloc _).alloc _).keep hb9 | exact (((x_B.alloc _).alloc _).alloc _).keep hb9
            have y_R : Rd w9 (a) (vsP ps) := by first | exact x_R.keep hb9 | exact (x_R.alloc _).keep hb9 | exact ((x_R.alloc _).alloc _).keep hb9 | exact (((x_R.alloc _).alloc _).alloc _).keep hb9
            have y_E : PcE w9 ps := by first | exact x_E.keep hb9 | exact (x_E.alloc _).keep hb9 | exact ((x_E.alloc _).alloc _).keep hb9 | exact (((x_E.alloc _).alloc _).alloc _).keep hb9
            have y_L : RdB w9 (some ⟨g, 0, none⟩) lbs := by first | exact x_L.keep hb9 | exact (x_L.alloc _).keep hb9 | exact ((x_L.alloc _).alloc _).keep hb9 | exact (((x_L.alloc _).alloc _).alloc _).keep hb9
            have y_Q : RdB w9 (some ⟨gp, 0, none⟩) ups := by first | exact x_Q.keep hb9 | exact (x_Q.alloc _).keep hb9 | exact ((x_Q.alloc _).alloc _).keep hb9 | exact (((x_Q.alloc _).alloc _).alloc _).keep hb9
            clear x_P x_A x_B x_R x_E x_L x_Q
            have x_P := y_P
            have x_A := y_A
            have x_B := y_B
            have x_R := y_R
            have x_E := y_E
            have x_L := y_L
            have x_Q := y_Q
            clear y_P y_A y_B y_R y_E y_L y_Q
            go_wp2_with fail
            refine (above_both _ _ ups lbs pp (pp ++ [x]) len0 _ nl _ true _ x_P x_L Hl0.out Hnl.out (by omega) (by omega) Hp.out Hi5.out Habv.out).mono ?_
            rintro e w10 ⟨rfl, hb10⟩
            have hB2 : Below w.heap.size w w10 := by first | exact chain0 hB hb10 | exact chain1 hB hb10 | exact chain2 hB hb10 | exact chain3 hB hb10
            clear hB
            have hB := hB2
            clear hB2
            have y_P : RdB w10 pa ups := by first | exact x_P.keep hb10 | exact (x_P.alloc _).keep hb10 | exact ((x_P.alloc _).alloc _).keep hb10 | exact (((x_P.alloc _).alloc _).alloc _).keep hb10
            have y_A : RdB w10 none as_ := by first | exact x_A.keep hb10 | exact (x_A.alloc _).keep hb10 | exact ((x_A.alloc _).alloc _).keep hb10 | exact (((x_A.alloc _).alloc _).alloc _).keep hb10
            have y_B : RdB w10 none bs := by first | exact x_B.keep hb10 | exact (x_B.alloc _).keep hb10 | exact ((x_B.alloc _).alloc _).keep hb10 | exact (((x_B.alloc _).alloc _).alloc _).keep hb10
            have y_R : Rd w10 (a) (vsP ps) := by first | exact x_R.keep hb10 | exact (x_R.alloc _).keep hb10 | exact ((x_R.alloc _).alloc _).keep hb10 | exact (((x_R.alloc _).alloc _).alloc _).keep hb10
            have y_E : PcE w10 ps := by first | exact x_E.keep hb10 | exact (x_E.alloc _).keep hb10 | exact ((x_E.alloc _).alloc _).keep hb10 | exact (((x_E.alloc _).alloc _).alloc _).keep hb10
            have y_L : RdB w10 (some ⟨g, 0, none⟩) lbs := by first | exact x_L.keep hb10 | exact (x_L.alloc _).keep hb10 | exact ((x_L.alloc _).alloc _).keep hb10 | exact (((x_L.alloc _).alloc _).alloc _).keep hb10
            have y_Q : RdB w10 (some ⟨gp, 0, none⟩) ups := by first | exact x_Q.keep hb10 | exact (x_Q.alloc _).keep hb10 | exact ((x_Q.alloc _).alloc _).keep hb10 | exact (((x_Q.alloc _).alloc _).alloc _).keep hb10
            clear x_P x_A x_B x_R x_E x_L x_Q
            have x_P := y_P
            have x_A := y_A
            have x_B := y_B
            have x_R := y_R
            have x_E := y_E
            have x_L := y_L
            have x_Q := y_Q
            clear y_P y_A y_B y_R y_E y_L y_Q
            go_wp2_with fail
            refine (compareL _ _ ups lbs len0 _ nl _ (-1) _ x_P x_L Hl0.out Hnl.out Hcp.out).mono ?_
            rintro e w13 ⟨rfl, hb13⟩
            have hB2 : Below w.heap.size w w13 := by first | exact chain0 hB hb13 | exact chain1 hB hb13 | exact chain2 hB hb13 | exact chain3 hB hb13
            clear hB
            have hB := hB2
            clear hB2
            have y_P : RdB w13 pa ups := by first | exact x_P.keep hb13 | exact (x_P.alloc _).keep hb13 | exact ((x_P.alloc _).alloc _).keep hb13 | exact (((x_P.alloc _).alloc _).alloc _).keep hb13
            have y_A : RdB w13 none as_ := by first | exact x_A.keep hb13 | exact (x_A.alloc _).keep hb13 | exact ((x_A.alloc _).alloc _).keep hb13 | exact (((x_A.alloc _).alloc _).alloc _).keep hb13
            have y_B : RdB w13 none bs := by first | exact x_B.keep hb13 | exact (x_B.alloc _).keep hb13 | exact ((x_B.alloc _).alloc _).keep hb13 | exact (((x_B.alloc _).alloc _).alloc _).keep hb13
            have y_R : Rd w13 (a) (vsP ps) := by first | exact x_R.keep hb13 | exact (x_R.alloc _).keep hb13 | exact ((x_R.alloc _).alloc _).keep hb13 | exact (((x_R.alloc _).alloc _).alloc _).keep hb13
            have y_E : PcE w13 ps := by first | exact x_E.keep hb13 | exact (x_E.alloc _).keep hb13 | exact ((x_E.alloc _).alloc _).keep hb13 | exact (((x_E.alloc _).alloc _).alloc _).keep hb13
            have y_L : RdB w13 (some ⟨g, 0, none⟩) lbs := by first | exact x_L.keep hb13 | exact (x_L.alloc _).keep hb13 | exact ((x_L.alloc _).alloc _).keep hb13 | exact (((x_L.alloc _).alloc _).alloc _).keep hb13
            have y_Q : RdB w13 (some ⟨gp, 0, none⟩) ups := by first | exact x_Q.keep hb13 | exact (x_Q.alloc _).keep hb13 | exact ((x_Q.alloc _).alloc _).keep hb13 | exact (((x_Q.alloc _).alloc _).alloc _).keep hb13
            clear x_P x_A x_B x_R x_E x_L x_Q
            have x_P := y_P
            have x_A := y_A
            have x_B := y_B
            have x_R := y_R
            have x_E := y_E
            have x_L := y_L
            have x_Q := y_Q
            clear y_P y_A y_B y_R y_E y_L y_Q
            obtain ⟨hm1, hm2, hm2b, hm3⟩ := Hm.out
            have e1 : m1 = 0 := by rw [← hm1]; split <;> omega
            subst e1
            have e2 : m2 = (len0 : Int) + 1 := by rw [← hm2]; split <;> omega
            subst e2
            clear hm1 hm2
            have hm1 : (0 : Int) < (len0 : Int) + 1 := by omega
            have hm2 := trivial
            by_cases hpp : pp = []
            · have hz : ¬ (0 : Int) < len0 := by
                rw [Hl0.out, Hp.out.2.2, hpp]; simp [Bm.wr, pkL, nb, wk]
              go_wp2_with fail
              clear hm1 hm2 hm2b hm3
              obtain ⟨V, hV⟩ : ∃ V, V = Value.slice (some ⟨g, 0, none⟩) nl cap := ⟨_, rfl⟩
              obtain ⟨T, hT⟩ : ∃ T, T = (vsP ps).take k ++ [V] ++ (vsP ps).drop k := ⟨_, rfl⟩
              have hnps : (vsP ps).length = j := by
                have := congrArg List.length HG.out.pcs
                simp only [List.length_map] at this
                rw [vsP, List.length_map, this, HG.out.len]
              obtain ⟨aT, slT, rdT⟩ := run_slTo (a) (vsP ps) j c k w13 x_R hnps.symm (by omega) HG.out.cap
              obtain ⟨aF, slF, rdF⟩ := run_slFrom (a) (vsP ps) j c k w13 x_R hnps.symm (by omega) HG.out.cap
              have hone : ∀ u ∈ vsP ps, u.oneCell' = true := by
                intro u hu
                obtain ⟨q, _, rfl⟩ := List.mem_map.1 hu
                rfl
              have htk : ((vsP ps).take k).length = k := by rw [List.length_take, hnps]; omega
              have hTk : ∀ i, i < k → T[i]? = ((vsP ps).take k)[i]? := fun i hi => by
                rw [hT, List.append_assoc, List.getElem?_append_left (by rw [htk]; exact hi)]
              have hTV : T[k]? = some V := by
                rw [hT, List.append_assoc, List.getElem?_append_right (by rw [htk]; exact Nat.le_refl _), htk, Nat.sub_self]; rfl
              have hx1 : ∀ i u, ((vsP ps).take k)[i]? = some u → i < k ∨ T[i]? = some u := fun i u hu => .inl (by
                have := (List.getElem?_eq_some_iff.1 hu).1
                rw [htk] at this; exact this)
              have hx2 : ∀ i u, [V][i]? = some u → i < k ∨ T[i]? = some u := fun i u hu => by
                match i, hu with
                | 0, hu =>
                  by_cases h0 : 0 < k
                  · exact .inl h0
                  · have h1 : k = 0 := by omega
                    rw [h1] at hTV
                    rw [hTV]; exact .inr hu
              have hx4 : ∀ i u, ((vsP ps).take k ++ [V] ++ (vsP ps).drop k)[i]? = some u → i < k ∨ T[i]? = some u := fun i u hu => .inr (by rw [hT]; exact hu)
              have hx3 : ∀ i u, ((vsP ps).take k ++ [V])[i]? = some u → i < k ∨ T[i]? = some u := fun i u hu => .inr (by
                rw [hT, List.getElem?_append_left (List.getElem?_eq_some_iff.1 hu).1]; exact hu)
              have hdT : ∀ i u, ((vsP ps).drop k)[i]? = some u → T[k + 1 + i]? = some u := fun i u hu => by
                rw [hT, List.getElem?_append_right (by rw [List.length_append, htk]; simp), List.length_append, htk]
                simpa using hu
              have hBn : ∀ W, RL w13.heap.size T k w13.drew W → Below w13.heap.size w13 W := fun W h => ⟨h.be.os, h.be.tape, h.be.output, h.be.size, h.be.block⟩
              refine RV.wp_region_facts (R := RL w13.heap.size T k) [row0 w13.heap.size T k 169, eqL w13.heap.size T k 170 (.slice (a) j c), eqL w13.heap.size T k 171 (.int .i64 k), eqL w13.heap.size T k 172 (.slice aT k c), rowL w13.heap.size T k 173 k ((vsP ps).take k) hx1,
                eqL w13.heap.size T k 174 V, rowL w13.heap.size T k 175 1 [V] hx2, rowL w13.heap.size T k 176 (k + 1) ((vsP ps).take k ++ [V]) hx3, eqL w13.heap.size T k 177 (.slice (a) j c), eqL w13.heap.size T k 178 (.int .i64 k), eqL w13.heap.size T k 179 (.slice aF (j - k) (c - k)),
                rowL w13.heap.size T k 180 (k + 1 + (j - k)) ((vsP ps).take k ++ [V] ++ (vsP ps).drop k) hx4, rowL w13.heap.size T k 6 (k + 1 + (j - k)) ((vsP ps).take k ++ [V] ++ (vsP ps).drop k) hx4] (by kernel_rfl) (by kernel_rfl) (by kernel_rfl) (RL.refl (Nat.le_refl _)) (fun _ h => h.again) (fun _ _ _ h k => h.trans k) ?_ ?_
              · refine RV.stepsU_cons rfl ?_ (RV.stepsU_cons rfl ?_ (RV.stepsU_cons rfl ?_ (RV.stepsU_cons rfl ?_ (RV.stepsU_cons rfl ?_ (RV.stepsU_cons rfl ?_ (RV.stepsU_cons rfl ?_ (RV.stepsU_cons rfl ?_ (RV.stepsU_cons rfl ?_ (RV.stepsU_cons rfl ?_ (RV.stepsU_cons rfl ?_ (RV.stepsU_cons rfl ?_ (RV.stepsU_cons rfl ?_ RV.stepsU_nil))))))))))))
                · refine RV.stepU_plain rfl fun u wr hR hK hD => ?_; exact upon_build0L rfl ⟨hR.next ((Below.refl _ _).alloc (Nat.le_refl _) _), ⟨_, rfl⟩, rfl, .inr ⟨_, 0, #[], rfl, Nat.le_trans hR.hB hR.be.size, heap_alloc_new _ _, Nat.le_refl _, by decide, rfl, rfl⟩⟩
                · refine RV.stepU_plain rfl fun u wr hR hK hD => ?_; exact upon_move _ _ rfl (hK 6 rfl) ⟨hR.again, rfl⟩
                · refine RV.stepU_plain rfl fun u wr hR hK hD => ?_; exact upon_move _ _ rfl (hK 8 rfl) ⟨hR.again, rfl⟩
                · refine RV.stepU_plain rfl fun u wr hR hK hD => ?_; have z1 : u 170 = _ := hD 1 rfl; have z2 : u 171 = _ := hD 2 rfl; exact upon_val _ (by unfold execOp; simp [go_sem, evU, z1, z2, slT]) ⟨hR.again, rfl⟩
                · refine RV.stepU_plain rfl fun u wr hR hK hD => ?_
                  obtain ⟨⟨a9, z1⟩, z2⟩ := hD 0 rfl
                  have z3 : u 172 = _ := hD 3 rfl
                  obtain ⟨v, w2, q1, q2, q3⟩ := run_appL (u 169) 0 [] ((vsP ps).take k) aT k c _ hR z2 (rdT wr (x_R.keep (hBn wr hR))) htk.symm (fun u hu => hone u (List.mem_of_mem_take hu)) (by
                    by_cases h0 : (vsP ps).take k = []
                    · exact .inr (.inl h0)
                    · have := List.length_pos_iff.2 h0
                      exact .inr (.inr ⟨a9, 0, z1, by omega⟩)) (fun i u hu => by rw [Nat.zero_add, hTk i (by have := (List.getElem?_eq_some_iff.1 hu).1; rw [htk] at this; exact this)]; exact hu) (by omega)
                  rw [Nat.zero_add, List.nil_append] at q2
                  exact upon_append _ _ 25 _ _ _ _ rfl rfl z3 q1 ⟨q3, q2⟩
                · refine RV.stepU_plain rfl fun u wr hR hK hD => ?_; exact upon_move _ _ rfl (hK 11 rfl) ⟨hR.again, hV.symm⟩
                · refine RV.stepU_plain rfl fun u wr hR hK hD => ?_; have z1 : u 174 = _ := hD 5 rfl; exact upon_build1L _ _ _ _ rfl (z1.trans hV) ⟨hR.next ((Below.refl _ _).alloc (Nat.le_refl _) _), rfl, .inr ⟨_, 1, _, rfl, Nat.le_trans hR.hB hR.be.size, heap_alloc_new _ _, Nat.le_refl _, by decide, rfl, by rw [hV]; rfl⟩⟩
                · refine RV.stepU_plain rfl fun u wr hR hK hD => ?_
                  have z1 := hD 4 rfl
                  have z2 : wr.ownsRow w13.heap.size 22 1 (u 175) 1 [V] := hD 6 rfl
                  obtain ⟨g7, c7, z3, _, _, _⟩ := ow_form z2 (by decide)
                  have z4 := z2
                  rw [z3] at z4
                  obtain ⟨v, w2, q1, q2, q3⟩ := run_appL (u 173) k ((vsP ps).take k) [V] (some ⟨g7, 0, none⟩) 1 c7 _ hR z1 (ow_rd z4) rfl (by intro u hu; simp at hu; subst hu; rw [hV]; rfl) (.inl (Nat.le_refl k)) (fun i u hu => by
                    match i, hu with
                    | 0, hu => rw [Nat.add_zero, hTV]; exact hu) (by omega)
                  exact upon_append _ _ 25 _ _ _ _ rfl rfl z3 q1 ⟨q3, q2⟩
                · refine RV.stepU_plain rfl fun u wr hR hK hD => ?_; exact upon_move _ _ rfl (hK 6 rfl) ⟨hR.again, rfl⟩
                · refine RV.stepU_plain rfl fun u wr hR hK hD => ?_; exact upon_move _ _ rfl (hK 8 rfl) ⟨hR.again, rfl⟩
                · refine RV.stepU_plain rfl fun u wr hR hK hD => ?_; have z1 : u 177 = _ := hD 8 rfl; have z2 : u 178 = _ := hD 9 rfl; exact upon_val _ (by unfold execOp; simp [go_sem, evU, z1, z2, slF]) ⟨hR.again, rfl⟩
                · refine RV.stepU_plain rfl fun u wr hR hK hD => ?_
                  have z1 := hD 7 rfl
                  have z3 : u 179 = _ := hD 10 rfl
                  obtain ⟨v, w2, q1, q2, q3⟩ := run_appL (u 176) (k + 1) ((vsP ps).take k ++ [V]) ((vsP ps).drop k) aF (j - k) (c - k) _ hR z1 (rdF wr (x_R.keep (hBn wr hR))) (by rw [List.length_drop, hnps]) (fun u hu => hone u (List.mem_of_mem_drop hu)) (.inl (by omega)) hdT (by omega)
                  exact upon_append _ _ 25 _ _ _ _ rfl rfl z3 q1 ⟨q3, q2⟩
                · refine RV.stepU_plain rfl fun u wr hR hK hD => ?_; exact upon_assign _ _ rfl rfl ⟨hR.again, hD 11 rfl⟩
              intro u w16 hR hF
              have e6 : w16.ownsRow w13.heap.size 22 1 (u 6) (k + 1 + (j - k)) ((vsP ps).take k ++ [V] ++ (vsP ps).drop k) := hF 12 (by decide)
              obtain ⟨g6, c6, hv6, _, _, hc6⟩ := ow_form e6 (by omega)
              rw [hv6] at e6
              have hrd6 := ow_rd e6
              have hb16 := hBn w16 hR
              rw [show k + 1 + (j - k) = j + 1 from by omega] at hv6 hc6
              have hB16 := chain0 hB hb16
              have hGn : Go4 w w16 pa ups pp (some ⟨g6, 0, none⟩) (j + 1) c6 (ss.take k ++ [x] ++ ss.drop k) (ps.take k ++ [(some ⟨g, 0, none⟩, cap, lbs)] ++ ps.drop k) := by
                have hl := HG.out.len
                refine ⟨Hins.out (by rw [← Hhr.out]; exact hr4), ?_, hc6, ?_, ?_, ?_, x_P.keep hb16, hB16⟩
                · simp only [List.length_append, List.length_take, List.length_drop, List.length_cons, List.length_nil]; omega
                · simp only [List.map_append, List.map_take, List.map_drop, HG.out.pcs, List.map_cons, List.map_nil]
                  rw [Hlbs.out, Hhr.out]
                · have : vsP (ps.take k ++ [(some ⟨g, 0, none⟩, cap, lbs)] ++ ps.drop k) = (vsP ps).take k ++ [V] ++ (vsP ps).drop k := by
                    rw [hV, Hnl.out]
                    simp [vsP, List.map_take, List.map_drop]
                  rw [this]; exact hrd6
                · intro q hq
                  simp only [List.append_assoc, List.mem_append, List.mem_singleton] at hq
                  rcases hq with hq | rfl | hq
                  · exact (x_E q (List.mem_of_mem_take hq)).keep hb16
                  · exact x_L.keep hb16
                  · exact (x_E q (List.mem_of_mem_drop hq)).keep hb16
              simp only [finU, Act.put, List.setIfInBounds_toArray, List.set_cons_succ, List.set_cons_zero, hv6]
              clear hF hR e6 hrd6 slT slF rdT rdF hone hTk hx1 hx2 hx3 hx4 hdT hBn hT
              go_wp2
              go_roundw
              case rel => exact ⟨i + 1, _, j + 1, c6, _, _, by omega, by omega, by go_num, rfl, hGn⟩
              case measure => simp [intOf]; omega
            · have hz : (0 : Int) < len0 := by
                obtain ⟨q, hq⟩ := wr_end hpp
                have := hnpE.out
                rw [hq] at this
                simp [nb] at this
                omega
              go_wp2_with fail
              refine (afterQ _ ups fin pp len0 _ nf _ x_P Hl0.out (by omega) Hp.out hpp Hfin.out Hnf.out).mono ?_
              rintro e w14 ⟨ga, ca, rfl, ka, hb14⟩
              have hB2 : Below w.heap.size w w14 := by first | exact chain0 hB hb14 | exact chain1 hB hb14 | exact chain2 hB hb14 | exact chain3 hB hb14
              clear hB
              have hB := hB2
              clear hB2
              have y_P : RdB w14 pa ups := by first | exact x_P.keep hb14 | exact (x_P.alloc _).keep hb14 | exact ((x_P.alloc _).alloc _).keep hb14 | exact (((x_P.alloc _).alloc _).alloc _).keep hb14
              have y_A : RdB w14 none as_ := by first | exact x_A.keep hb14 | exact (x_A.alloc _).keep hb14 | exact ((x_A.alloc _).alloc _).keep hb14 | exact (((x_A.alloc _).alloc _).alloc _).keep hb14
              have y_B : RdB w14 none bs := by first | exact x_B.keep hb14 | exact (x_B.alloc _).keep hb14 | exact ((x_B.alloc _).alloc _).keep hb14 | exact (((x_B.alloc _).alloc _).alloc _).keep hb14
              have y_R : Rd w14 (a) (vsP ps) := by first | exact x_R.keep hb14 | exact (x_R.alloc _).keep hb14 | exact ((x_R.alloc _).alloc _).keep hb14 | exact (((x_R.alloc _).alloc _).alloc _).keep hb14
              have y_E : PcE w14 ps := by first | exact x_E.keep hb14 | exact (x_E.alloc _).keep hb14 | exact ((x_E.alloc _).alloc _).keep hb14 | exact (((x_E.alloc _).alloc _).alloc _).keep hb14
              have y_L : RdB w14 (some ⟨g, 0, none⟩) lbs := by first | exact x_L.keep hb14 | exact (x_L.alloc _).keep hb14 | exact ((x_L.alloc _).alloc _).keep hb14 | exact (((x_L.alloc _).alloc _).alloc _).keep hb14
              have y_Q : RdB w14 (some ⟨gp, 0, none⟩) ups := by first | exact x_Q.keep hb14 | exact (x_Q.alloc _).keep hb14 | exact ((x_Q.alloc _).alloc _).keep hb14 | exact (((x_Q.alloc _).alloc _).alloc _).keep hb14
              clear x_P x_A x_B x_R x_E x_L x_Q
              have x_P := y_P
              have x_A := y_A
              have x_B := y_B
              have x_R := y_R
              have x_E := y_E
              have x_L := y_L
              have x_Q := y_Q
              clear y_P y_A y_B y_R y_E y_L y_Q
              go_wp2_with fail
              refine (compareL _ _ lbs fin nl _ nf _ (-1) _ x_L ka Hnl.out Hnf.out (Hcf.out hpp)).mono ?_
              rintro e w15 ⟨rfl, hb15⟩
              have hB2 : Below w.heap.size w w15 := by first | exact chain0 hB hb15 | exact chain1 hB hb15 | exact chain2 hB hb15 | exact chain3 hB hb15
              clear hB
              have hB := hB2
              clear hB2
              have y_P : RdB w15 pa ups := by first | exact x_P.keep hb15 | exact (x_P.alloc _).keep hb15 | exact ((x_P.alloc _).alloc _).keep hb15 | exact (((x_P.alloc _).alloc _).alloc _).keep hb15
              have y_A : RdB w15 none as_ := by first | exact x_A.keep hb15 | exact (x_A.alloc _).keep hb15 | exact ((x_A.alloc _).alloc _).keep hb15 | exact (((x_A.alloc _).alloc _).alloc _).keep hb15
              have y_B : RdB w15 none bs := by first | exact x_B.keep hb15 | exact (x_B.alloc _).keep hb15 | exact ((x_B.alloc _).alloc _).keep hb15 | exact (((x_B.alloc _).alloc _).alloc _).keep hb15
              have y_R : Rd w15 (a) (vsP ps) := by first | exact x_R.keep hb15 | exact (x_R.alloc _).keep hb15 | exact ((x_R.alloc _).alloc _).keep hb15 | exact (((x_R.alloc _).alloc _).alloc _).keep hb15
              have y_E : PcE w15 ps := by first | exact x_E.keep hb15 | exact (x_E.alloc _).keep hb15 | exact ((x_E.alloc _).alloc _).keep hb15 | exact (((x_E.alloc _).alloc _).alloc _).keep hb15
              have y_L : RdB w15 (some ⟨g, 0, none⟩) lbs := by first | exact x_L.keep hb15 | exact (x_L.alloc _).keep hb15 | exact ((x_L.alloc _).alloc _).keep hb15 | exact (((x_L.alloc _).alloc _).alloc _).keep hb15
              have y_Q : RdB w15 (some ⟨gp, 0, none⟩) ups := by first | exact x_Q.keep hb15 | exact (x_Q.alloc _).keep hb15 | exact ((x_Q.alloc _).alloc _).keep hb15 | exact (((x_Q.alloc _).alloc _).alloc _).keep hb15
              clear x_P x_A x_B x_R x_E x_L x_Q
              have x_P := y_P
              have x_A := y_A
              have x_B := y_B
              have x_R := y_R
              have x_E := y_E
              have x_L := y_L
              have x_Q := y_Q
              clear y_P y_A y_B y_R y_E y_L y_Q
              clear ka
              go_wp2_with fail
              clear hm1 hm2 hm2b hm3
              obtain ⟨V, hV⟩ : ∃ V, V = Value.slice (some ⟨g, 0, none⟩) nl cap := ⟨_, rfl⟩
              obtain ⟨T, hT⟩ : ∃ T, T = (vsP ps).take k ++ [V] ++ (vsP ps).drop k := ⟨_, rfl⟩
              have hnps : (vsP ps).length = j := by
                have := congrArg List.length HG.out.pcs
                simp only [List.length_map] at this
                rw [vsP, List.length_map, this, HG.out.len]
              obtain ⟨aT, slT, rdT⟩ := run_slTo (a) (vsP ps) j c k w15 x_R hnps.symm (by omega) HG.out.cap
              obtain ⟨aF, slF, rdF⟩ := run_slFrom (a) (vsP ps) j c k w15 x_R hnps.symm (by omega) HG.out.cap
              have hone : ∀ u ∈ vsP ps, u.oneCell' = true := by
                intro u hu
                obtain ⟨q, _, rfl⟩ := List.mem_map.1 hu
                rfl
              have htk : ((vsP ps).take k).length = k := by rw [List.length_take, hnps]; omega
              have hTk : ∀ i, i < k → T[i]? = ((vsP ps).take k)[i]? := fun i hi => by
                rw [hT, List.append_assoc, List.getElem?_append_left (by rw [htk]; exact hi)]
              have hTV : T[k]? = some V := by
                rw [hT, List.append_assoc, List.getElem?_append_right (by rw [htk]; exact Nat.le_refl _), htk, Nat.sub_self]; rfl
              have hx1 : ∀ i u, ((vsP ps).take k)[i]? = some u → i < k ∨ T[i]? = some u := fun i u hu => .inl (by
                have := (List.getElem?_eq_some_iff.1 hu).1
                rw [htk] at this; exact this)
              have hx2 : ∀ i u, [V][i]? = some u → i < k ∨ T[i]? = some u := fun i u hu => by
                match i, hu with
                | 0, hu =>
                  by_cases h0 : 0 < k
                  · exact .inl h0
                  · have h1 : k = 0 := by omega
                    rw [h1] at hTV
                    rw [hTV]; exact .inr hu
              have hx4 : ∀ i u, ((vsP ps).take k ++ [V] ++ (vsP ps).drop k)[i]? = some u → i < k ∨ T[i]? = some u := fun i u hu => .inr (by rw [hT]; exact hu)
              have hx3 : ∀ i u, ((vsP ps).take k ++ [V])[i]? = some u → i < k ∨ T[i]? = some u := fun i u hu => .inr (by
                rw [hT, List.getElem?_append_left (List.getElem?_eq_some_iff.1 hu).1]; exact hu)
              have hdT : ∀ i u, ((vsP ps).drop k)[i]? = some u → T[k + 1 + i]? = some u := fun i u hu => by
                rw [hT, List.getElem?_append_right (by rw [List.length_append, htk]; simp), List.length_append, htk]
                simpa using hu
              have hBn : ∀ W, RL w15.heap.size T k w15.drew W → Below w15.heap.size w15 W := fun W h => ⟨h.be.os, h.be.tape, h.be.output, h.be.size, h.be.block⟩
              refine RV.wp_region_facts (R := RL w15.heap.size T k) [row0 w15.heap.size T k 169, eqL w15.heap.size T k 170 (.slice (a) j c), eqL w15.heap.size T k 171 (.int .i64 k), eqL w15.heap.size T k 172 (.slice aT k c), rowL w15.heap.size T k 173 k ((vsP ps).take k) hx1,
                eqL w15.heap.size T k 174 V, rowL w15.heap.size T k 175 1 [V] hx2, rowL w15.heap.size T k 176 (k + 1) ((vsP ps).take k ++ [V]) hx3, eqL w15.heap.size T k 177 (.slice (a) j c), eqL w15.heap.size T k 178 (.int .i64 k), eqL w15.heap.size T k 179 (.slice aF (j - k) (c - k)),
                rowL w15.heap.size T k 180 (k + 1 + (j - k)) ((vsP ps).take k ++ [V] ++ (vsP ps).drop k) hx4, rowL w15.heap.size T k 6 (k + 1 + (j - k)) ((vsP ps).take k ++ [V] ++ (vsP ps).drop k) hx4] (by kernel_rfl) (by kernel_rfl) (by kernel_rfl) (RL.refl (Nat.le_refl _)) (fun _ h => h.again) (fun _ _ _ h k => h.trans k) ?_ ?_
              · refine RV.stepsU_cons rfl ?_ (RV.stepsU_cons rfl ?_ (RV.stepsU_cons rfl ?_ (RV.stepsU_cons rfl ?_ (RV.stepsU_cons rfl ?_ (RV.stepsU_cons rfl ?_ (RV.stepsU_cons rfl ?_ (RV.stepsU_cons rfl ?_ (RV.stepsU_cons rfl ?_ (RV.stepsU_cons rfl ?_ (RV.stepsU_cons rfl ?_ (RV.stepsU_cons rfl ?_ (RV.stepsU_cons rfl ?_ RV.stepsU_nil))))))))))))
                · refine RV.stepU_plain rfl fun u wr hR hK hD => ?_; exact upon_build0L rfl ⟨hR.next ((Below.refl _ _).alloc (Nat.le_refl _) _), ⟨_, rfl⟩, rfl, .inr ⟨_, 0, #[], rfl, Nat.le_trans hR.hB hR.be.size, heap_alloc_new _ _, Nat.le_refl _, by decide, rfl, rfl⟩⟩
                · refine RV.stepU_plain rfl fun u wr hR hK hD => ?_; exact upon_move _ _ rfl (hK 6 rfl) ⟨hR.again, rfl⟩
                · refine RV.stepU_plain rfl fun u wr hR hK hD => ?_; exact upon_move _ _ rfl (hK 8 rfl) ⟨hR.again, rfl⟩
                · refine RV.stepU_plain rfl fun u wr hR hK hD => ?_; have z1 : u 170 = _ := hD 1 rfl; have z2 : u 171 = _ := hD 2 rfl; exact upon_val _ (by unfold execOp; simp [go_sem, evU, z1, z2, slT]) ⟨hR.again, rfl⟩
                · refine RV.stepU_plain rfl fun u wr hR hK hD => ?_
                  obtain ⟨⟨a9, z1⟩, z2⟩ := hD 0 rfl
                  have z3 : u 172 = _ := hD 3 rfl
                  obtain ⟨v, w2, q1, q2, q3⟩ := run_appL (u 169) 0 [] ((vsP ps).take k) aT k c _ hR z2 (rdT wr (x_R.keep (hBn wr hR))) htk.symm (fun u hu => hone u (List.mem_of_mem_take hu)) (by
                    by_cases h0 : (vsP ps).take k = []
                    · exact .inr (.inl h0)
                    · have := List.length_pos_iff.2 h0
                      exact .inr (.inr ⟨a9, 0, z1, by omega⟩)) (fun i u hu => by rw [Nat.zero_add, hTk i (by have := (List.getElem?_eq_some_iff.1 hu).1; rw [htk] at this; exact this)]; exact hu) (by omega)
                  rw [Nat.zero_add, List.nil_append] at q2
                  exact upon_append _ _ 25 _ _ _ _ rfl rfl z3 q1 ⟨q3, q2⟩
                · refine RV.stepU_plain rfl fun u wr hR hK hD => ?_; exact upon_move _ _ rfl (hK 11 rfl) ⟨hR.again, hV.symm⟩
                · refine RV.stepU_plain rfl fun u wr hR hK hD => ?_; have z1 : u 174 = _ := hD 5 rfl; exact upon_build1L _ _ _ _ rfl (z1.trans hV) ⟨hR.next ((Below.refl _ _).alloc (Nat.le_refl _) _), rfl, .inr ⟨_, 1, _, rfl, Nat.le_trans hR.hB hR.be.size, heap_alloc_new _ _, Nat.le_refl _, by decide, rfl, by rw [hV]; rfl⟩⟩
                · refine RV.stepU_plain rfl fun u wr hR hK hD => ?_
                  have z1 := hD 4 rfl
                  have z2 : wr.ownsRow w15.heap.size 22 1 (u 175) 1 [V] := hD 6 rfl
                  obtain ⟨g7, c7, z3, _, _, _⟩ := ow_form z2 (by decide)
                  have z4 := z2
                  rw [z3] at z4
                  obtain ⟨v, w2, q1, q2, q3⟩ := run_appL (u 173) k ((vsP ps).take k) [V] (some ⟨g7, 0, none⟩) 1 c7 _ hR z1 (ow_rd z4) rfl (by intro u hu; simp at hu; subst hu; rw [hV]; rfl) (.inl (Nat.le_refl k)) (fun i u hu => by
                    match i, hu with
                    | 0, hu => rw [Nat.add_zero, hTV]; exact hu) (by omega)
                  exact upon_append _ _ 25 _ _ _ _ rfl rfl z3 q1 ⟨q3, q2⟩
                · refine RV.stepU_plain rfl fun u wr hR hK hD => ?_; exact upon_move _ _ rfl (hK 6 rfl) ⟨hR.again, rfl⟩
                · refine RV.stepU_plain rfl fun u wr hR hK hD => ?_; exact upon_move _ _ rfl (hK 8 rfl) ⟨hR.again, rfl⟩
                · refine RV.stepU_plain rfl fun u wr hR hK hD => ?_; have z1 : u 177 = _ := hD 8 rfl; have z2 : u 178 = _ := hD 9 rfl; exact upon_val _ (by unfold execOp; simp [go_sem, evU, z1, z2, slF]) ⟨hR.again, rfl⟩
                · refine RV.stepU_plain rfl fun u wr hR hK hD => ?_
                  have z1 := hD 7 rfl
                  have z3 : u 179 = _ := hD 10 rfl
                  obtain ⟨v, w2, q1, q2, q3⟩ := run_appL (u 176) (k + 1) ((vsP ps).take k ++ [V]) ((vsP ps).drop k) aF (j - k) (c - k) _ hR z1 (rdF wr (x_R.keep (hBn wr hR))) (by rw [List.length_drop, hnps]) (fun u hu => hone u (List.mem_of_mem_drop hu)) (.inl (by omega)) hdT (by omega)
                  exact upon_append _ _ 25 _ _ _ _ rfl rfl z3 q1 ⟨q3, q2⟩
                · refine RV.stepU_plain rfl fun u wr hR hK hD => ?_; exact upon_assign _ _ rfl rfl ⟨hR.again, hD 11 rfl⟩
              intro u w16 hR hF
              have e6 : w16.ownsRow w15.heap.size 22 1 (u 6) (k + 1 + (j - k)) ((vsP ps).take k ++ [V] ++ (vsP ps).drop k) := hF 12 (by decide)
              obtain ⟨g6, c6, hv6, _, _, hc6⟩ := ow_form e6 (by omega)
              rw [hv6] at e6
              have hrd6 := ow_rd e6
              have hb16 := hBn w16 hR
              rw [show k + 1 + (j - k) = j + 1 from by omega] at hv6 hc6
              have hB16 := chain0 hB hb16
              have hGn : Go4 w w16 pa ups pp (some ⟨g6, 0, none⟩) (j + 1) c6 (ss.take k ++ [x] ++ ss.drop k) (ps.take k ++ [(some ⟨g, 0, none⟩, cap, lbs)] ++ ps.drop k) := by
                have hl := HG.out.len
                refine ⟨Hins.out (by rw [← Hhr.out]; exact hr4), ?_, hc6, ?_, ?_, ?_, x_P.keep hb16, hB16⟩
                · simp only [List.length_append, List.length_take, List.length_drop, List.length_cons, List.length_nil]; omega
                · simp only [List.map_append, List.map_take, List.map_drop, HG.out.pcs, List.map_cons, List.map_nil]
                  rw [Hlbs.out, Hhr.out]
                · have : vsP (ps.take k ++ [(some ⟨g, 0, none⟩, cap, lbs)] ++ ps.drop k) = (vsP ps).take k ++ [V] ++ (vsP ps).drop k := by
                    rw [hV, Hnl.out]
                    simp [vsP, List.map_take, List.map_drop]
                  rw [this]; exact hrd6
                · intro q hq
                  simp only [List.append_assoc, List.mem_append, List.mem_singleton] at hq
                  rcases hq with hq | rfl | hq
                  · exact (x_E q (List.mem_of_mem_take hq)).keep hb16
                  · exact x_L.keep hb16
                  · exact (x_E q (List.mem_of_mem_drop hq)).keep hb16
              simp only [finU, Act.put, List.setIfInBounds_toArray, List.set_cons_succ, List.set_cons_zero, hv6]
              clear hF hR e6 hrd6 slT slF rdT rdF hone hTk hx1 hx2 hx3 hx4 hdT hBn hT
              go_wp2
              go_roundw
              case rel => exact ⟨i + 1, _, j + 1, c6, _, _, by omega, by omega, by go_num, rfl, hGn⟩
              case measure => simp [intOf]; omega
        · have hkd : decide (k < j) = true := decide_eq_true hkj
          subst ha'
          have ixB := Hix.out k hkj bB oB
          have x_P : RdB wr pa ups := x_P
          have x_A : RdB wr none as_ := x_A
          have x_B : RdB wr pb9 bs := x_B
          have x_R : Rd wr (some ⟨bB, oB, none⟩) (vsP ps) := x_R
          have x_E : PcE wr ps := x_E
          go_wp2_with fail
          refine (Hbet.out _ x_P x_A x_B).mono ?_
          rintro e w4 (⟨hr4, g, cap, rfl, hl4, hb4⟩ | ⟨hr4, rfl, hb4⟩)
          rotate_left
          · have hB2 : Below w.heap.size w w4 := by first | exact chain0 hB hb4 | exact chain1 hB hb4 | exact chain2 hB hb4 | exact chain3 hB hb4
            clear hB
            have hB := hB2
            clear hB2
            have y_P : RdB w4 pa ups := by first | exact x_P.keep hb4 | exact (x_P.alloc _).keep hb4 | exact ((x_P.alloc _).alloc _).keep hb4 | exact (((x_P.alloc _).alloc _).alloc _).keep hb4
            have y_A : RdB w4 none as_ := by first | exact x_A.keep hb4 | exact (x_A.alloc _).keep hb4 | exact ((x_A.alloc _).alloc _).keep hb4 | exact (((x_A.alloc _).alloc _).alloc _).keep hb4
            have y_B : RdB w4 pb9 bs := by first | exact x_B.keep hb4 | exact (x_B.alloc _).keep hb4 | exact ((x_B.alloc _).alloc _).keep hb4 | exact (((x_B.alloc _).alloc _).alloc _).keep hb4
            have y_R : Rd w4 (some ⟨bB, oB, none⟩) (vsP ps) := by first | exact x_R.keep hb4 | exact (x_R.alloc _).keep hb4 | exact ((x_R.alloc _).alloc _).keep hb4 | exact (((x_R.alloc _).alloc _).alloc _).keep hb4
            have y_E : PcE w4 ps := by first | exact x_E.keep hb4 | exact (x_E.alloc _).keep hb4 | exact ((x_E.alloc _).alloc _).keep hb4 | exact (((x_E.alloc _).alloc _).alloc _).keep hb4
            clear x_P x_A x_B x_R x_E
            have x_P := y_P
            have x_A := y_A
            have x_B := y_B
            have x_R := y_R
            have x_E := y_E
            clear y_P y_A y_B y_R y_E
            have t := Hlong.out hr4
            by_cases t1 : (120 : Int) < len0
            · go_wp2
              go_ret
              exact ⟨rfl, hB⟩
            · by_cases t2 : (120 : Int) < ((0 : Nat) : Int)
              · first
                  | (exfalso; omega)
                  | (go_wp2
                     go_ret
                     exact ⟨rfl, hB⟩)
              · have t3 : (120 : Int) < ((lb : Nat) : Int) := by omega
                first
                  | (exfalso; omega)
                  | (go_wp2
                     go_ret
                     exact ⟨rfl, hB⟩)
          · have hB2 : Below w.heap.size w w4 := by first | exact chain0 hB hb4 | exact chain1 hB hb4 | exact chain2 hB hb4 | exact chain3 hB hb4
            clear hB
            have hB := hB2
            clear hB2
            have y_P : RdB w4 pa ups := by first | exact x_P.keep hb4 | exact (x_P.alloc _).keep hb4 | exact ((x_P.alloc _).alloc _).keep hb4 | exact (((x_P.alloc _).alloc _).alloc _).keep hb4
            have y_A : RdB w4 none as_ := by first | exact x_A.keep hb4 | exact (x_A.alloc _).keep hb4 | exact ((x_A.alloc _).alloc _).keep hb4 | exact (((x_A.alloc _).alloc _).alloc _).keep hb4
            have y_B : RdB w4 pb9 bs := by first | exact x_B.keep hb4 | exact (x_B.alloc _).keep hb4 | exact ((x_B.alloc _).alloc _).keep hb4 | exact (((x_B.alloc _).alloc _).alloc _).keep hb4
            have y_R : Rd w4 (some ⟨bB, oB, none⟩) (vsP ps) := by first | exact x_R.keep hb4 | exact (x_R.alloc _).keep hb4 | exact ((x_R.alloc _).alloc _).keep hb4 | exact (((x_R.alloc _).alloc _).alloc _).keep hb4
            have y_E : PcE w4 ps := by first | exact x_E.keep hb4 | exact (x_E.alloc _).keep hb4 | exact ((x_E.alloc _).alloc _).keep hb4 | exact (((x_E.alloc _).alloc _).alloc _).keep hb4
            clear x_P x_A x_B x_R x_E
            have x_P := y_P
            have x_A := y_A
            have x_B := y_B
            have x_R := y_R
            have x_E := y_E
            clear y_P y_A y_B y_R y_E
            have x_L : RdB w4 (some ⟨g, 0, none⟩) lbs := hl4
            have Hi5 := hide (HisL.out hr4)
            have hnl5 := Hnl128.out hr4
            have hb4' := hb4
            clear hl4 hb4 hb4'
            go_wp2_with fail
            refine (parentQ _ lbs ups pp x nl _ len0 _ x_L Hnl.out (by omega) Hi5.out Hp.out Hl0.out).mono ?_
            rintro e w5 ⟨gp, cp, rfl, kp, hb5⟩
            have hB2 : Below w.heap.size w w5 := by first | exact chain0 hB hb5 | exact chain1 hB hb5 | exact chain2 hB hb5 | exact chain3 hB hb5
            clear hB
            have hB := hB2
            clear hB2
            have y_P : RdB w5 pa ups := by first | exact x_P.keep hb5 | exact (x_P.alloc _).keep hb5 | exact ((x_P.alloc _).alloc _).keep hb5 | exact (((x_P.alloc _).alloc _).alloc _).keep hb5
            have y_A : RdB w5 none as_ := by first | exact x_A.keep hb5 | exact (x_A.alloc _).keep hb5 | exact ((x_A.alloc _).alloc _).keep hb5 | exact (((x_A.alloc _).alloc _).alloc _).keep hb5
            have y_B : RdB w5 pb9 bs := by first | exact x_B.keep hb5 | exact (x_B.alloc _).keep hb5 | exact ((x_B.alloc _).alloc _).keep hb5 | exact (((x_B.alloc _).alloc _).alloc _).keep hb5
            have y_R : Rd w5 (some ⟨bB, oB, none⟩) (vsP ps) := by first | exact x_R.keep hb5 | exact (x_R.alloc _).keep hb5 | exact ((x_R.alloc _).alloc _).keep hb5 | exact (((x_R.alloc _).alloc _).alloc _).keep hb5
            have y_E : PcE w5 ps := by first | exact x_E.keep hb5 | exact (x_E.alloc _).keep hb5 | exact ((x_E.alloc _).alloc _).keep hb5 | exact (((x_E.alloc _).alloc _).alloc _).keep hb5
            have y_L : RdB w5 (some ⟨g, 0, none⟩) lbs := by first | exact x_L.keep hb5 | exact (x_L.alloc _).keep hb5 | exact ((x_L.alloc _).alloc _).keep hb5 | exact (((x_L.alloc _).alloc _).alloc _).keep hb5
            clear x_P x_A x_B x_R x_E x_L
            have x_P := y_P
            have x_A := y_A
            have x_B := y_B
            have x_R := y_R
            have x_E := y_E
            have x_L := y_L
            clear y_P y_A y_B y_R y_E y_L
            have x_Q : RdB w5 (some ⟨gp, 0, none⟩) ups := kp
            clear kp
            go_wp2_with fail
            refine (sameT _ _ ups len0 _ len0 _ _ x_Q x_P Hl0.out Hl0.out (by omega)).mono ?_
            rintro e w6 ⟨rfl, hb6⟩
            have hB2 : Below w.heap.size w w6 := by first | exact chain0 hB hb6 | exact chain1 hB hb6 | exact chain2 hB hb6 | exact chain3 hB hb6
            clear hB
            have hB := hB2
            clear hB2
            have y_P : RdB w6 pa ups := by first | exact x_P.keep hb6 | exact (x_P.alloc _).keep hb6 | exact ((x_P.alloc _).alloc _).keep hb6 | exact (((x_P.alloc _).alloc _).alloc _).keep hb6
            have y_A : RdB w6 none as_ := by first | exact x_A.keep hb6 | exact (x_A.alloc _).keep hb6 | exact ((x_A.alloc _).alloc _).keep hb6 | exact (((x_A.alloc _).alloc _).alloc _).keep hb6
            have y_B : RdB w6 pb9 bs := by first | exact x_B.keep hb6 | exact (x_B.alloc _).keep hb6 | exact ((x_B.alloc _).alloc _).keep hb6 | exact (((x_B.alloc _).alloc _).alloc _).keep hb6
            have y_R : Rd w6 (some ⟨bB, oB, none⟩) (vsP ps) := by first | exact x_R.keep hb6 | exact (x_R.alloc _).keep hb6 | exact ((x_R.alloc _).alloc _).keep hb6 | exact (((x_R.alloc _).alloc _).alloc _).keep hb6
            have y_E : PcE w6 ps := by first | exact x_E.keep hb6 | exact (x_E.alloc _).keep hb6 | exact ((x_E.alloc _).alloc _).keep hb6 | exact (((x_E.alloc _).alloc _).alloc _).keep hb6
            have y_L : RdB w6 (some ⟨g, 0, none⟩) lbs := by first | exact x_L.keep hb6 | exact (x_L.alloc _).keep hb6 | exact ((x_L.alloc _).alloc _).keep hb6 | exact (((x_L.alloc _).alloc _).alloc _).keep hb6
            have y_Q : RdB w6 (some ⟨gp, 0, none⟩) ups := by first | exact x_Q.keep hb6 | exact (x_Q.alloc _).keep hb6 | exact ((x_Q.alloc _).alloc _).keep hb6 | exact (((x_Q.alloc _).alloc _).alloc _).keep hb6
            clear x_P x_A x_B x_R x_E x_L x_Q
            have x_P := y_P
            have x_A := y_A
            have x_B := y_B
            have x_R := y_R
            have x_E := y_E
            have x_L := y_L
            have x_Q := y_Q
            clear y_P y_A y_B y_R y_E y_L y_Q
            go_wp2_with fail
            refine (right_yesL _ lbs (pp ++ [x]) nl _ _ x_L Hnl.out (by omega) Hi5.out).mono ?_
            rintro e w7 ⟨rfl, hb7⟩
            have hB2 : Below w.heap.size w w7 := by first | exact chain0 hB hb7 | exact chain1 hB hb7 | exact chain2 hB hb7 | exact chain3 hB hb7
            clear hB
            have hB := hB2
            clear hB2
            have y_P : RdB w7 pa ups := by first | exact x_P.keep hb7 | exact (x_P.alloc _).keep hb7 | exact ((x_P.alloc _).alloc _).keep hb7 | exact (((x_P.alloc _).alloc _).alloc _).keep hb7
            have y_A : RdB w7 none as_ := by first | exact x_A.keep hb7 | exact (x_A.alloc _).keep hb7 | exact ((x_A.alloc _).alloc _).keep hb7 | exact (((x_A.alloc _).alloc _).alloc _).keep hb7
            have y_B : RdB w7 pb9 bs := by first | exact x_B.keep hb7 | exact (x_B.alloc _).keep hb7 | exact ((x_B.alloc _).alloc _).keep hb7 | exact (((x_B.alloc _).alloc _).alloc _).keep hb7
            have y_R : Rd w7 (some ⟨bB, oB, none⟩) (vsP ps) := by first | exact x_R.keep hb7 | exact (x_R.alloc _).keep hb7 | exact ((x_R.alloc _).alloc _).keep hb7 | exact (((x_R.alloc _).alloc _).alloc _).keep hb7
            have y_E : PcE w7 ps := by first | exact x_E.keep hb7 | exact (x_E.alloc _).keep hb7 | exact ((x_E.alloc _).alloc _).keep hb7 | exact (((x_E.alloc _).alloc _).alloc _).keep hb7
            have y_L : RdB w7 (some ⟨g, 0, none⟩) lbs := by first | exact x_L.keep hb7 | exact (x_L.alloc _).keep hb7 | exact ((x_L.alloc _).alloc _).keep hb7 | exact (((x_L.alloc _).alloc _).alloc _).keep hb7
            have y_Q : RdB w7 (some ⟨gp, 0, none⟩) ups := by first | exact x_Q.keep hb7 | exact (x_Q.alloc _).keep hb7 | exact ((x_Q.alloc _).alloc _).keep hb7 | exact (((x_Q.alloc _).alloc _).alloc _).keep hb7
            clear x_P x_A x_B x_R x_E x_L x_Q
            have x_P := y_P
            have x_A := y_A
            have x_B := y_B
            have x_R := y_R
            have x_E := y_E
            have x_L := y_L
            have x_Q := y_Q
            clear y_P y_A y_B y_R y_E y_L y_Q
            go_wp2_with fail
            refine (levelQ _ lbs (pp ++ [x]) nl _ ((lv : Int) + 1) _ x_L Hnl.out (by omega) Hi5.out Hlv1.out).mono ?_
            rintro e w8 ⟨rfl, hb8⟩
            have hB2 : Below w.heap.size w w8 := by first | exact chain0 hB hb8 | exact chain1 hB hb8 | exact chain2 hB hb8 | exact chain3 hB hb8
            clear hB
            have hB := hB2
            clear hB2
            have y_P : RdB w8 pa ups := by first | exact x_P.keep hb8 | exact (x_P.alloc _).keep hb8 | exact ((x_P.alloc _).alloc _).keep hb8 | exact (((x_P.alloc _).alloc _).alloc _).keep hb8
            have y_A : RdB w8 none as_ := by first | exact x_A.keep hb8 | exact (x_A.alloc _).keep hb8 | exact ((x_A.alloc _).alloc _).keep hb8 | exact (((x_A.alloc _).alloc _).alloc _).keep hb8
            have y_B : RdB w8 pb9 bs := by first | exact x_B.keep hb8 | exact (x_B.alloc _).keep hb8 | exact ((x_B.alloc _).alloc _).keep hb8 | exact (((x_B.alloc _).alloc _).alloc _).keep hb8
            have y_R : Rd w8 (some ⟨bB, oB, none⟩) (vsP ps) := by first | exact x_R.keep hb8 | exact (x_R.alloc _).keep hb8 | exact ((x_R.alloc _).alloc _).keep hb8 | exact (((x_R.alloc _).alloc _).alloc _).keep hb8
            have y_E : PcE w8 ps := by first | exact x_E.keep hb8 | exact (x_E.alloc _).keep hb8 | exact ((x_E.alloc _).alloc _).keep hb8 | exact (((x_E.alloc _).alloc _).alloc _).keep hb8
            have y_L : RdB w8 (some ⟨g, 0, none⟩) lbs := by first | exact x_L.keep hb8 | exact (x_L.alloc _).keep hb8 | exact ((x_L.alloc _).alloc _).keep hb8 | exact (((x_L.alloc _).alloc _).alloc _).keep hb8
            have y_Q : RdB w8 (some ⟨gp, 0, none⟩) ups := by first | exact x_Q.keep hb8 | exact (x_Q.alloc _).keep hb8 | exact ((x_Q.alloc _).alloc _).keep hb8 | exact (((x_Q.alloc _).alloc _).alloc _).keep hb8
            clear x_P x_A x_B x_R x_E x_L x_Q
            have x_P := y_P
            have x_A := y_A
            have x_B := y_B
            have x_R := y_R
            have x_E := y_E
            have x_L := y_L
            have x_Q := y_Q
            clear y_P y_A y_B y_R y_E y_L y_Q
            go_wp2_with fail
            refine (levelQ _ ups pp len0 _ (lv : Int) _ x_P Hl0.out (by omega) Hp.out (by rw [Hlv.out])).mono ?_
            rintro e w9 ⟨rfl, hb9⟩
            have hB2 : Below w.heap.size w w9 := by first | exact chain0 hB hb9 | exact chain1 hB hb9 | exact chain2 hB hb9 | exact chain3 hB hb9
            clear hB
            have hB := hB2
            clear hB2
            have y_P : RdB w9 pa ups := by first | exact x_P.keep hb9 | exact (x_P.alloc _).keep hb9 | exact ((x_P.alloc _).alloc _).keep hb9 | exact (((x_P.alloc _).alloc _).alloc _).keep hb9
            have y_A : RdB w9 none as_ := by first | exact x_A.keep hb9 | exact (x_A.alloc _).keep hb9 | exact ((x_A.alloc _).alloc _).keep hb9 | exact (((x_A.alloc _).alloc _).alloc _).keep hb9
            have y_B : RdB w9 pb9 bs := by first | exact x_B.keep hb9 | exact (x_B.alloc _).keep hb9 | exact ((x_B.alloc _).alloc _).keep hb9 | exact (((x_B.alloc _).alloc _).alloc _).keep hb9
            have y_R : Rd w9 (some ⟨bB, oB, none⟩) (vsP ps) := by first | exact x_R.keep hb9 | exact (x_R.alloc _).keep hb9 | exact ((x_R.alloc _).alloc _).keep hb9 | exact (((x_R.alloc _).alloc _).alloc _).keep hb9
            have y_E : PcE w9 ps := by first | exact x_E.keep hb9 | exact (x_E.alloc _).keep hb9 | exact ((x_E.alloc _).alloc _).keep hb9 | exact (((x_E.alloc _).alloc _).alloc _).keep hb9
            have y_L : RdB w9 (some ⟨g, 0, none⟩) lbs := by first | exact x_L.keep hb9 | exact (x_L.alloc _).keep hb9 | exact ((x_L.alloc _).alloc _).keep hb9 | exact (((x_L.alloc _).alloc _).alloc _).keep hb9
            have y_Q : RdB w9 (some ⟨gp, 0, none⟩) ups := by first | exact x_Q.keep hb9 | exact (x_Q.alloc _).keep hb9 | exact ((x_Q.alloc _).alloc _).keep hb9 | exact (((x_Q.alloc _).alloc _).alloc _).keep hb9
            clear x_P x_A x_B x_R x_E x_L x_Q
            have x_P := y_P
            have x_A := y_A
            have x_B := y_B
            have x_R := y_R
            have x_E := y_E
            have x_L := y_L
            have x_Q := y_Q
            clear y_P y_A y_B y_R y_E y_L y_Q
            go_wp2_with fail
            refine (above_both _ _ ups lbs pp (pp ++ [x]) len0 _ nl _ true _ x_P x_L Hl0.out Hnl.out (by omega) (by omega) Hp.out Hi5.out Habv.out).mono ?_
            rintro e w10 ⟨rfl, hb10⟩
            have hB2 : Below w.heap.size w w10 := by first | exact chain0 hB hb10 | exact chain1 hB hb10 | exact chain2 hB hb10 | exact chain3 hB hb10
            clear hB
            have hB := hB2
            clear hB2
            have y_P : RdB w10 pa ups := by first | exact x_P.keep hb10 | exact (x_P.alloc _).keep hb10 | exact ((x_P.alloc _).alloc _).keep hb10 | exact (((x_P.alloc _).alloc _).alloc _).keep hb10
            have y_A : RdB w10 none as_ := by first | exact x_A.keep hb10 | exact (x_A.alloc _).keep hb10 | exact ((x_A.alloc _).alloc _).keep hb10 | exact (((x_A.alloc _).alloc _).alloc _).keep hb10
            have y_B : RdB w10 pb9 bs := by first | exact x_B.keep hb10 | exact (x_B.alloc _).keep hb10 | exact ((x_B.alloc _).alloc _).keep hb10 | exact (((x_B.alloc _).alloc _).alloc _).keep hb10
            have y_R : Rd w10 (some ⟨bB, oB, none⟩) (vsP ps) := by first | exact x_R.keep hb10 | exact (x_R.alloc _).keep hb10 | exact ((x_R.alloc _).alloc _).keep hb10 | exact (((x_R.alloc _).alloc _).alloc _).keep hb10
            have y_E : PcE w10 ps := by first | exact x_E.keep hb10 | exact (x_E.alloc _).keep hb10 | exact ((x_E.alloc _).alloc _).keep hb10 | exact (((x_E.alloc _).alloc _).alloc _).keep hb10
            have y_L : RdB w10 (some ⟨g, 0, none⟩) lbs := by first | exact x_L.keep hb10 | exact (x_L.alloc _).keep hb10 | exact ((x_L.alloc _).alloc _).keep hb10 | exact (((x_L.alloc _).alloc _).alloc _).keep hb10
            have y_Q : RdB w10 (some ⟨gp, 0, none⟩) ups := by first | exact x_Q.keep hb10 | exact (x_Q.alloc _).keep hb10 | exact ((x_Q.alloc _).alloc _).keep hb10 | exact (((x_Q.alloc _).alloc _).alloc _).keep hb10
            clear x_P x_A x_B x_R x_E x_L x_Q
            have x_P := y_P
            have x_A := y_A
            have x_B := y_B
            have x_R := y_R
            have x_E := y_E
            have x_L := y_L
            have x_Q := y_Q
            clear y_P y_A y_B y_R y_E y_L y_Q
            go_wp2_with fail
            refine (compareL _ _ lbs bs nl _ lb _ (-1) _ x_L x_B Hnl.out Hlb9.out (Hcb.out hkj)).mono ?_
            rintro e w12 ⟨rfl, hb12⟩
            have hB2 : Below w.heap.size w w12 := by first | exact chain0 hB hb12 | exact chain1 hB hb12 | exact chain2 hB hb12 | exact chain3 hB hb12
            clear hB
            have hB := hB2
            clear hB2
            have y_P : RdB w12 pa ups := by first | exact x_P.keep hb12 | exact (x_P.alloc _).keep hb12 | exact ((x_P.alloc _).alloc _).keep hb12 | exact (((x_P.alloc _).alloc _).alloc _).keep hb12
            have y_A : RdB w12 none as_ := by first | exact x_A.keep hb12 | exact (x_A.alloc _).keep hb12 | exact ((x_A.alloc _).alloc _).keep hb12 | exact (((x_A.alloc _).alloc _).alloc _).keep hb12
            have y_B : RdB w12 pb9 bs := by first | exact x_B.keep hb12 | exact (x_B.alloc _).keep hb12 | exact ((x_B.alloc _).alloc _).keep hb12 | exact (((x_B.alloc _).alloc _).alloc _).keep hb12
            have y_R : Rd w12 (some ⟨bB, oB, none⟩) (vsP ps) := by first | exact x_R.keep hb12 | exact (x_R.alloc _).keep hb12 | exact ((x_R.alloc _).alloc _).keep hb12 | exact (((x_R.alloc _).alloc _).alloc _).keep hb12
            have y_E : PcE w12 ps := by first | exact x_E.keep hb12 | exact (x_E.alloc _).keep hb12 | exact ((x_E.alloc _).alloc _).keep hb12 | exact (((x_E.alloc _).alloc _).alloc _).keep hb12
            have y_L : RdB w12 (some ⟨g, 0, none⟩) lbs := by first | exact x_L.keep hb12 | exact (x_L.alloc _).keep hb12 | exact ((x_L.alloc _).alloc _).keep hb12 | exact (((x_L.alloc _).alloc _).alloc _).keep hb12
            have y_Q : RdB w12 (some ⟨gp, 0, none⟩) ups := by first | exact x_Q.keep hb12 | exact (x_Q.alloc _).keep hb12 | exact ((x_Q.alloc _).alloc _).keep hb12 | exact (((x_Q.alloc _).alloc _).alloc _).keep hb12
            clear x_P x_A x_B x_R x_E x_L x_Q
            have x_P := y_P
            have x_A := y_A
            have x_B := y_B
            have x_R := y_R
            have x_E := y_E
            have x_L := y_L
            have x_Q := y_Q
            clear y_P y_A y_B y_R y_E y_L y_Q
            go_wp2_with fail
            refine (compareL _ _ ups lbs len0 _ nl _ (-1) _ x_P x_L Hl0.out Hnl.out Hcp.out).mono ?_
            rintro e w13 ⟨rfl, hb13⟩
            have hB2 : Below w.heap.size w w13 := by first | exact chain0 hB hb13 | exact chain1 hB hb13 | exact chain2 hB hb13 | exact chain3 hB hb13
            clear hB
            have hB := hB2
            clear hB2
            have y_P : RdB w13 pa ups := by first | exact x_P.keep hb13 | exact (x_P.alloc _).keep hb13 | exact ((x_P.alloc _).alloc _).keep hb13 | exact (((x_P.alloc _).alloc _).alloc _).keep hb13
            have y_A : RdB w13 none as_ := by first | exact x_A.keep hb13 | exact (x_A.alloc _).keep hb13 | exact ((x_A.alloc _).alloc _).keep hb13 | exact (((x_A.alloc _).alloc _).alloc _).keep hb13
            have y_B : RdB w13 pb9 bs := by first | exact x_B.keep hb13 | exact (x_B.alloc _).keep hb13 | exact ((x_B.alloc _).alloc _).keep hb13 | exact (((x_B.alloc _).alloc _).alloc _).keep hb13
            have y_R : Rd w13 (some ⟨bB, oB, none⟩) (vsP ps) := by first | exact x_R.keep hb13 | exact (x_R.alloc _).keep hb13 | exact ((x_R.alloc _).alloc _).keep hb13 | exact (((x_R.alloc _).alloc _).alloc _).keep hb13
            have y_E : PcE w13 ps := by first | exact x_E.keep hb13 | exact (x_E.alloc _).keep hb13 | exact ((x_E.alloc _).alloc _).keep hb13 | exact (((x_E.alloc _).alloc _).alloc _).keep hb13
            have y_L : RdB w13 (some ⟨g, 0, none⟩) lbs := by first | exact x_L.keep hb13 | exact (x_L.alloc _).keep hb13 | exact ((x_L.alloc _).alloc _).keep hb13 | exact (((x_L.alloc _).alloc _).alloc _).keep hb13
            have y_Q : RdB w13 (some ⟨gp, 0, none⟩) ups := by first | exact x_Q.keep hb13 | exact (x_Q.alloc _).keep hb13 | exact ((x_Q.alloc _).alloc _).keep hb13 | exact (((x_Q.alloc _).alloc _).alloc _).keep hb13
            clear x_P x_A x_B x_R x_E x_L x_Q
            have x_P := y_P
            have x_A := y_A
            have x_B := y_B
            have x_R := y_R
            have x_E := y_E
            have x_L := y_L
            have x_Q := y_Q
            clear y_P y_A y_B y_R y_E y_L y_Q
            obtain ⟨hm1, hm2, hm2b, hm3⟩ := Hm.out
            have e1 : m1 = (lb : Int) := by rw [← hm1]; split <;> omega
            subst e1
            clear hm1
            have hm1 := trivial
            by_cases hpp : pp = []
            · have hz : ¬ (0 : Int) < len0 := by
                rw [Hl0.out, Hp.out.2.2, hpp]; simp [Bm.wr, pkL, nb, wk]
              go_wp2_with fail
              clear hm1 hm2 hm2b hm3
              obtain ⟨V, hV⟩ : ∃ V, V = Value.slice (some ⟨g, 0, none⟩) nl cap := ⟨_, rfl⟩
              obtain ⟨T, hT⟩ : ∃ T, T = (vsP ps).take k ++ [V] ++ (vsP ps).drop k := ⟨_, rfl⟩
              have hnps : (vsP ps).length = j := by
                have := congrArg List.length HG.out.pcs
                simp only [List.length_map] at this
                rw [vsP, List.length_map, this, HG.out.len]
              obtain ⟨aT, slT, rdT⟩ := run_slTo (some ⟨bB, oB, none⟩) (vsP ps) j c k w13 x_R hnps.symm (by omega) HG.out.cap
              obtain ⟨aF, slF, rdF⟩ := run_slFrom (some ⟨bB, oB, none⟩) (vsP ps) j c k w13 x_R hnps.symm (by omega) HG.out.cap
              have hone : ∀ u ∈ vsP ps, u.oneCell' = true := by
                intro u hu
                obtain ⟨q, _, rfl⟩ := List.mem_map.1 hu
                rfl
              have htk : ((vsP ps).take k).length = k := by rw [List.length_take, hnps]; omega
              have hTk : ∀ i, i < k → T[i]? = ((vsP ps).take k)[i]? := fun i hi => by
                rw [hT, List.append_assoc, List.getElem?_append_left (by rw [htk]; exact hi)]
              have hTV : T[k]? = some V := by
                rw [hT, List.append_assoc, List.getElem?_append_right (by rw [htk]; exact Nat.le_refl _), htk, Nat.sub_self]; rfl
              have hx1 : ∀ i u, ((vsP ps).take k)[i]? = some u → i < k ∨ T[i]? = some u := fun i u hu => .inl (by
                have := (List.getElem?_eq_some_iff.1 hu).1
                rw [htk] at this; exact this)
              have hx2 : ∀ i u, [V][i]? = some u → i < k ∨ T[i]? = some u := fun i u hu => by
                match i, hu with
                | 0, hu =>
                  by_cases h0 : 0 < k
                  · exact .inl h0
                  · have h1 : k = 0 := by omega
                    rw [h1] at hTV
                    rw [hTV]; exact .inr hu
              have hx4 : ∀ i u, ((vsP ps).take k ++ [V] ++ (vsP ps).drop k)[i]? = some u → i < k ∨ T[i]? = some u := fun i u hu => .inr (by rw [hT]; exact hu)
              have hx3 : ∀ i u, ((vsP ps).take k ++ [V])[i]? = some u → i < k ∨ T[i]? = some u := fun i u hu => .inr (by
                rw [hT, List.getElem?_append_left (List.getElem?_eq_some_iff.1 hu).1]; exact hu)
              have hdT : ∀ i u, ((vsP ps).drop k)[i]? = some u → T[k + 1 + i]? = some u := fun i u hu => by
                rw [hT, List.getElem?_append_right (by rw [List.length_append, htk]; simp), List.length_append, htk]
                simpa using hu
              have hBn : ∀ W, RL w13.heap.size T k w13.drew W → Below w13.heap.size w13 W := fun W h => ⟨h.be.os, h.be.tape, h.be.output, h.be.size, h.be.block⟩
              refine RV.wp_region_facts (R := RL w13.heap.size T k) [row0 w13.heap.size T k 169, eqL w13.heap.size T k 170 (.slice (some ⟨bB, oB, none⟩) j c), eqL w13.heap.size T k 171 (.int .i64 k), eqL w13.heap.size T k 172 (.slice aT k c), rowL w13.heap.size T k 173 k ((vsP ps).take k) hx1,
                eqL w13.heap.size T k 174 V, rowL w13.heap.size T k 175 1 [V] hx2, rowL w13.heap.size T k 176 (k + 1) ((vsP ps).take k ++ [V]) hx3, eqL w13.heap.size T k 177 (.slice (some ⟨bB, oB, none⟩) j c), eqL w13.heap.size T k 178 (.int .i64 k), eqL w13.heap.size T k 179 (.slice aF (j - k) (c - k)),
                rowL w13.heap.size T k 180 (k + 1 + (j - k)) ((vsP ps).take k ++ [V] ++ (vsP ps).drop k) hx4, rowL w13.heap.size T k 6 (k + 1 + (j - k)) ((vsP ps).take k ++ [V] ++ (vsP ps).drop k) hx4] (by kernel_rfl) (by kernel_rfl) (by kernel_rfl) (RL.refl (Nat.le_refl _)) (fun _ h => h.again) (fun _ _ _ h k => h.trans k) ?_ ?_
              · refine RV.stepsU_cons rfl ?_ (RV.stepsU_cons rfl ?_ (RV.stepsU_cons rfl ?_ (RV.stepsU_cons rfl ?_ (RV.stepsU_cons rfl ?_ (RV.stepsU_cons rfl ?_ (RV.stepsU_cons rfl ?_ (RV.stepsU_cons rfl ?_ (RV.stepsU_cons rfl ?_ (RV.stepsU_cons rfl ?_ (RV.stepsU_cons rfl ?_ (RV.stepsU_cons rfl ?_ (RV.stepsU_cons rfl ?_ RV.stepsU_nil))))))))))))
                · refine RV.stepU_plain rfl fun u wr hR hK hD => ?_; exact upon_build0L rfl ⟨hR.next ((Below.refl _ _).alloc (Nat.le_refl _) _), ⟨_, rfl⟩, rfl, .inr ⟨_, 0, #[], rfl, Nat.le_trans hR.hB hR.be.size, heap_alloc_new _ _, Nat.le_refl _, by decide, rfl, rfl⟩⟩
                · refine RV.stepU_plain rfl fun u wr hR hK hD => ?_; exact upon_move _ _ rfl (hK 6 rfl) ⟨hR.again, rfl⟩
                · refine RV.stepU_plain rfl fun u wr hR hK hD => ?_; exact upon_move _ _ rfl (hK 8 rfl) ⟨hR.again, rfl⟩
                · refine RV.stepU_plain rfl fun u wr hR hK hD => ?_; have z1 : u 170 = _ := hD 1 rfl; have z2 : u 171 = _ := hD 2 rfl; exact upon_val _ (by unfold execOp; simp [go_sem, evU, z1, z2, slT]) ⟨hR.again, rfl⟩
                · refine RV.stepU_plain rfl fun u wr hR hK hD => ?_
                  obtain ⟨⟨a9, z1⟩, z2⟩ := hD 0 rfl
                  have z3 : u 172 = _ := hD 3 rfl
                  obtain ⟨v, w2, q1, q2, q3⟩ := run_appL (u 169) 0 [] ((vsP ps).take k) aT k c _ hR z2 (rdT wr (x_R.keep (hBn wr hR))) htk.symm (fun u hu => hone u (List.mem_of_mem_take hu)) (by
                    by_cases h0 : (vsP ps).take k = []
                    · exact .inr (.inl h0)
                    · have := List.length_pos_iff.2 h0
                      exact .inr (.inr ⟨a9, 0, z1, by omega⟩)) (fun i u hu => by rw [Nat.zero_add, hTk i (by have := (List.getElem?_eq_some_iff.1 hu).1; rw [htk] at this; exact this)]; exact hu) (by omega)
                  rw [Nat.zero_add, List.nil_append] at q2
                  exact upon_append _ _ 25 _ _ _ _ rfl rfl z3 q1 ⟨q3, q2⟩
                · refine RV.stepU_plain rfl fun u wr hR hK hD => ?_; exact upon_move _ _ rfl (hK 11 rfl) ⟨hR.again, hV.symm⟩
                · refine RV.stepU_plain rfl fun u wr hR hK hD => ?_; have z1 : u 174 = _ := hD 5 rfl; exact upon_build1L _ _ _ _ rfl (z1.trans hV) ⟨hR.next ((Below.refl _ _).alloc (Nat.le_refl _) _), rfl, .inr ⟨_, 1, _, rfl, Nat.le_trans hR.hB hR.be.size, heap_alloc_new _ _, Nat.le_refl _, by decide, rfl, by rw [hV]; rfl⟩⟩
                · refine RV.stepU_plain rfl fun u wr hR hK hD => ?_
                  have z1 := hD 4 rfl
                  have z2 : wr.ownsRow w13.heap.size 22 1 (u 175) 1 [V] := hD 6 rfl
                  obtain ⟨g7, c7, z3, _, _, _⟩ := ow_form z2 (by decide)
                  have z4 := z2
                  rw [z3] at z4
                  obtain ⟨v, w2, q1, q2, q3⟩ := run_appL (u 173) k ((vsP ps).take k) [V] (some ⟨g7, 0, none⟩) 1 c7 _ hR z1 (ow_rd z4) rfl (by intro u hu; simp at hu; subst hu; rw [hV]; rfl) (.inl (Nat.le_refl k)) (fun i u hu => by
                    match i, hu with
                    | 0, hu => rw [Nat.add_zero, hTV]; exact hu) (by omega)
                  exact upon_append _ _ 25 _ _ _ _ rfl rfl z3 q1 ⟨q3, q2⟩
                · refine RV.stepU_plain rfl fun u wr hR hK hD => ?_; exact upon_move _ _ rfl (hK 6 rfl) ⟨hR.again, rfl⟩
                · refine RV.stepU_plain rfl fun u wr hR hK hD => ?_; exact upon_move _ _ rfl (hK 8 rfl) ⟨hR.again, rfl⟩
                · refine RV.stepU_plain rfl fun u wr hR hK hD => ?_; have z1 : u 177 = _ := hD 8 rfl; have z2 : u 178 = _ := hD 9 rfl; exact upon_val _ (by unfold execOp; simp [go_sem, evU, z1, z2, slF]) ⟨hR.again, rfl⟩
                · refine RV.stepU_plain rfl fun u wr hR hK hD => ?_
                  have z1 := hD 7 rfl
                  have z3 : u 179 = _ := hD 10 rfl
                  obtain ⟨v, w2, q1, q2, q3⟩ := run_appL (u 176) (k + 1) ((vsP ps).take k ++ [V]) ((vsP ps).drop k) aF (j - k) (c - k) _ hR z1 (rdF wr (x_R.keep (hBn wr hR))) (by rw [List.length_drop, hnps]) (fun u hu => hone u (List.mem_of_mem_drop hu)) (.inl (by omega)) hdT (by omega)
                  exact upon_append _ _ 25 _ _ _ _ rfl rfl z3 q1 ⟨q3, q2⟩
                · refine RV.stepU_plain rfl fun u wr hR hK hD => ?_; exact upon_assign _ _ rfl rfl ⟨hR.again, hD 11 rfl⟩
              intro u w16 hR hF
              have e6 : w16.ownsRow w13.heap.size 22 1 (u 6) (k + 1 + (j - k)) ((vsP ps).take k ++ [V] ++ (vsP ps).drop k) := hF 12 (by decide)
              obtain ⟨g6, c6, hv6, _, _, hc6⟩ := ow_form e6 (by omega)
              rw [hv6] at e6
              have hrd6 := ow_rd e6
              have hb16 := hBn w16 hR
              rw [show k + 1 + (j - k) = j + 1 from by omega] at hv6 hc6
              have hB16 := chain0 hB hb16
              have hGn : Go4 w w16 pa ups pp (some ⟨g6, 0, none⟩) (j + 1) c6 (ss.take k ++ [x] ++ ss.drop k) (ps.take k ++ [(some ⟨g, 0, none⟩, cap, lbs)] ++ ps.drop k) := by
                have hl := HG.out.len
                refine ⟨Hins.out (by rw [← Hhr.out]; exact hr4), ?_, hc6, ?_, ?_, ?_, x_P.keep hb16, hB16⟩
                · simp only [List.length_append, List.length_take, List.length_drop, List.length_cons, List.length_nil]; omega
                · simp only [List.map_append, List.map_take, List.map_drop, HG.out.pcs, List.map_cons, List.map_nil]
                  rw [Hlbs.out, Hhr.out]
                · have : vsP (ps.take k ++ [(some ⟨g, 0, none⟩, cap, lbs)] ++ ps.drop k) = (vsP ps).take k ++ [V] ++ (vsP ps).drop k := by
                    rw [hV, Hnl.out]
                    simp [vsP, List.map_take, List.map_drop]
                  rw [this]; exact hrd6
                · intro q hq
                  simp only [List.append_assoc, List.mem_append, List.mem_singleton] at hq
                  rcases hq with hq | rfl | hq
                  · exact (x_E q (List.mem_of_mem_take hq)).keep hb16
                  · exact x_L.keep hb16
                  · exact (x_E q (List.mem_of_mem_drop hq)).keep hb16
              simp only [finU, Act.put, List.setIfInBounds_toArray, List.set_cons_succ, List.set_cons_zero, hv6]
              clear hF hR e6 hrd6 slT slF rdT rdF hone hTk hx1 hx2 hx3 hx4 hdT hBn hT
              go_wp2
              go_roundw
              case rel => exact ⟨i + 1, _, j + 1, c6, _, _, by omega, by omega, by go_num, rfl, hGn⟩
              case measure => simp [intOf]; omega
            · have hz : (0 : Int) < len0 := by
                obtain ⟨q, hq⟩ := wr_end hpp
                have := hnpE.out
                rw [hq] at this
                simp [nb] at this
                omega
              go_wp2_with fail
              refine (afterQ _ ups fin pp len0 _ nf _ x_P Hl0.out (by omega) Hp.out hpp Hfin.out Hnf.out).mono ?_
              rintro e w14 ⟨ga, ca, rfl, ka, hb14⟩
              have hB2 : Below w.heap.size w w14 := by first | exact chain0 hB hb14 | exact chain1 hB hb14 | exact chain2 hB hb14 | exact chain3 hB hb14
              clear hB
              have hB := hB2
              clear hB2
              have y_P : RdB w14 pa ups := by first | exact x_P.keep hb14 | exact (x_P.alloc _).keep hb14 | exact ((x_P.alloc _).alloc _).keep hb14 | exact (((x_P.alloc _).alloc _).alloc _).keep hb14
              have y_A : RdB w14 none as_ := by first | exact x_A.keep hb14 | exact (x_A.alloc _).keep hb14 | exact ((x_A.alloc _).alloc _).keep hb14 | exact (((x_A.alloc _).alloc _).alloc _).keep hb14
              have y_B : RdB w14 pb9 bs := by first | exact x_B.keep hb14 | exact (x_B.alloc _).keep hb14 | exact ((x_B.alloc _).alloc _).keep hb14 | exact (((x_B.alloc _).alloc _).alloc _).keep hb14
              have y_R : Rd w14 (some ⟨bB, oB, none⟩) (vsP ps) := by first | exact x_R.keep hb14 | exact (x_R.alloc _).keep hb14 | exact ((x_R.alloc _).alloc _).keep hb14 | exact (((x_R.alloc _).alloc _).alloc _).keep hb14
              have y_E : PcE w14 ps := by first | exact x_E.keep hb14 | exact (x_E.alloc _).keep hb14 | exact ((x_E.alloc _).alloc _).keep hb14 | exact (((x_E.alloc _).alloc _).alloc _).keep hb14
              have y_L : RdB w14 (some ⟨g, 0, none⟩) lbs := by first | exact x_L.keep hb14 | exact (x_L.alloc _).keep hb14 | exact ((x_L.alloc _).alloc _).keep hb14 | exact (((x_L.alloc _).alloc _).alloc _).keep hb14
              have y_Q : RdB w14 (some ⟨gp, 0, none⟩) ups := by first | exact x_Q.keep hb14 | exact (x_Q.alloc _).keep hb14 | exact ((x_Q.alloc _).alloc _).keep hb14 | exact (((x_Q.alloc _).alloc _).alloc _).keep hb14
              clear x_P x_A x_B x_R x_E x_L x_Q
              have x_P := y_P
              have x_A := y_A
              have x_B := y_B
              have x_R := y_R
              have x_E := y_E
              have x_L := y_L
              have x_Q := y_Q
              clear y_P y_A y_B y_R y_E y_L y_Q
              go_wp2_with fail
              refine (compareL _ _ lbs fin nl _ nf _ (-1) _ x_L ka Hnl.out Hnf.out (Hcf.out hpp)).mono ?_
              rintro e w15 ⟨rfl, hb15⟩
              have hB2 : Below w.heap.size w w15 := by first | exact chain0 hB hb15 | exact chain1 hB hb15 | exact chain2 hB hb15 | exact chain3 hB hb15
              clear hB
              have hB := hB2
              clear hB2
              have y_P : RdB w15 pa ups := by first | exact x_P.keep hb15 | exact (x_P.alloc _).keep hb15 | exact ((x_P.alloc _).alloc _).keep hb15 | exact (((x_P.alloc _).alloc _).alloc _).keep hb15
              have y_A : RdB w15 none as_ := by first | exact x_A.keep hb15 | exact (x_A.alloc _).keep hb15 | exact ((x_A.alloc _).alloc _).keep hb15 | exact (((x_A.alloc _).alloc _).alloc _).keep hb15
              have y_B : RdB w15 pb9 bs := by first | exact x_B.keep hb15 | exact (x_B.alloc _).keep hb15 | exact ((x_B.alloc _).alloc _).keep hb15 | exact (((x_B.alloc _).alloc _).alloc _).keep hb15
              have y_R : Rd w15 (some ⟨bB, oB, none⟩) (vsP ps) := by first | exact x_R.keep hb15 | exact (x_R.alloc _).keep hb15 | exact ((x_R.alloc _).alloc _).keep hb15 | exact (((x_R.alloc _).alloc _).alloc _).keep hb15
              have y_E : PcE w15 ps := by first | exact x_E.keep hb15 | exact (x_E.alloc _).keep hb15 | exact ((x_E.alloc _).alloc _).keep hb15 | exact (((x_E.alloc _).alloc _).alloc _).keep hb15
              have y_L : RdB w15 (some ⟨g, 0, none⟩) lbs := by first | exact x_L.keep hb15 | exact (x_L.alloc _).keep hb15 | exact ((x_L.alloc _).alloc _).keep hb15 | exact (((x_L.alloc _).alloc _).alloc _).keep hb15
              have y_Q : RdB w15 (some ⟨gp, 0, none⟩) ups := by first | exact x_Q.keep hb15 | exact (x_Q.alloc _).keep hb15 | exact ((x_Q.alloc _).alloc _).keep hb15 | exact (((x_Q.alloc _).alloc _).alloc _).keep hb15
              clear x_P x_A x_B x_R x_E x_L x_Q
              have x_P := y_P
              have x_A := y_A
              have x_B := y_B
              have x_R := y_R
              have x_E := y_E
              have x_L := y_L
              have x_Q := y_Q
              clear y_P y_A y_B y_R y_E y_L y_Q
              clear ka
              go_wp2_with fail
              clear hm1 hm2 hm2b hm3
              obtain ⟨V, hV⟩ : ∃ V, V = Value.slice (some ⟨g, 0, none⟩) nl cap := ⟨_, rfl⟩
              obtain ⟨T, hT⟩ : ∃ T, T = (vsP ps).take k ++ [V] ++ (vsP ps).drop k := ⟨_, rfl⟩
              have hnps : (vsP ps).length = j := by
                have := congrArg List.length HG.out.pcs
                simp only [List.length_map] at this
                rw [vsP, List.length_map, this, HG.out.len]
              obtain ⟨aT, slT, rdT⟩ := run_slTo (some ⟨bB, oB, none⟩) (vsP ps) j c k w15 x_R hnps.symm (by omega) HG.out.cap
              obtain ⟨aF, slF, rdF⟩ := run_slFrom (some ⟨bB, oB, none⟩) (vsP ps) j c k w15 x_R hnps.symm (by omega) HG.out.cap
              have hone : ∀ u ∈ vsP ps, u.oneCell' = true := by
                intro u hu
                obtain ⟨q, _, rfl⟩ := List.mem_map.1 hu
                rfl
              have htk : ((vsP ps).take k).length = k := by rw [List.length_take, hnps]; omega
              have hTk : ∀ i, i < k → T[i]? = ((vsP ps).take k)[i]? := fun i hi => by
                rw [hT, List.append_assoc, List.getElem?_append_left (by rw [htk]; exact hi)]
              have hTV : T[k]? = some V := by
                rw [hT, List.append_assoc, List.getElem?_append_right (by rw [htk]; exact Nat.le_refl _), htk, Nat.sub_self]; rfl
              have hx1 : ∀ i u, ((vsP ps).take k)[i]? = some u → i < k ∨ T[i]? = some u := fun i u hu => .inl (by
                have := (List.getElem?_eq_some_iff.1 hu).1
                rw [htk] at this; exact this)
              have hx2 : ∀ i u, [V][i]? = some u → i < k ∨ T[i]? = some u := fun i u hu => by
                match i, hu with
                | 0, hu =>
                  by_cases h0 : 0 < k
                  · exact .inl h0
                  · have h1 : k = 0 := by omega
                    rw [h1] at hTV
                    rw [hTV]; exact .inr hu
              have hx4 : ∀ i u, ((vsP ps).take k ++ [V] ++ (vsP ps).drop k)[i]? = some u → i < k ∨ T[i]? = some u := fun i u hu => .inr (by rw [hT]; exact hu)
              have hx3 : ∀ i u, ((vsP ps).take k ++ [V])[i]? = some u → i < k ∨ T[i]? = some u := fun i u hu => .inr (by
                rw [hT, List.getElem?_append_left (List.getElem?_eq_some_iff.1 hu).1]; exact hu)
              have hdT : ∀ i u, ((vsP ps).drop k)[i]? = some u → T[k + 1 + i]? = some u := fun i u hu => by
                rw [hT, List.getElem?_append_right (by rw [List.length_append, htk]; simp), List.length_append, htk]
                simpa using hu
              have hBn : ∀ W, RL w15.heap.size T k w15.drew W → Below w15.heap.size w15 W := fun W h => ⟨h.be.os, h.be.tape, h.be.output, h.be.size, h.be.block⟩
              refine RV.wp_region_facts (R := RL w15.heap.size T k) [row0 w15.heap.size T k 169, eqL w15.heap.size T k 170 (.slice (some ⟨bB, oB, none⟩) j c), eqL w15.heap.size T k 171 (.int .i64 k), eqL w15.heap.size T k 172 (.slice aT k c), rowL w15.heap.size T k 173 k ((vsP ps).take k) hx1,
                eqL w15.heap.size T k 174 V, rowL w15.heap.size T k 175 1 [V] hx2, rowL w15.heap.size T k 176 (k + 1) ((vsP ps).take k ++ [V]) hx3, eqL w15.heap.size T k 177 (.slice (some ⟨bB, oB, none⟩) j c), eqL w15.heap.size T k 178 (.int .i64 k), eqL w15.heap.size T k 179 (.slice aF (j - k) (c - k)),
                rowL w15.heap.size T k 180 (k + 1 + (j - k)) ((vsP ps).take k ++ [V] ++ (vsP ps).drop k) hx4, rowL w15.heap.size T k 6 (k + 1 + (j - k)) ((vsP ps).take k ++ [V] ++ (vsP ps).drop k) hx4] (by kernel_rfl) (by kernel_rfl) (by kernel_rfl) (RL.refl (Nat.le_refl _)) (fun _ h => h.again) (fun _ _ _ h k => h.trans k) ?_ ?_
              · refine RV.stepsU_cons rfl ?_ (RV.stepsU_cons rfl ?_ (RV.stepsU_cons rfl ?_ (RV.stepsU_cons rfl ?_ (RV.stepsU_cons rfl ?_ (RV.stepsU_cons rfl ?_ (RV.stepsU_cons rfl ?_ (RV.stepsU_cons rfl ?_ (RV.stepsU_cons rfl ?_ (RV.stepsU_cons rfl ?_ (RV.stepsU_cons rfl ?_ (RV.stepsU_cons rfl ?_ (RV.stepsU_cons rfl ?_ RV.stepsU_nil))))))))))))
                · refine RV.stepU_plain rfl fun u wr hR hK hD => ?_; exact upon_build0L rfl ⟨hR.next ((Below.refl _ _).alloc (Nat.le_refl _) _), ⟨_, rfl⟩, rfl, .inr ⟨_, 0, #[], rfl, Nat.le_trans hR.hB hR.be.size, heap_alloc_new _ _, Nat.le_refl _, by decide, rfl, rfl⟩⟩
                · refine RV.stepU_plain rfl fun u wr hR hK hD => ?_; exact upon_move _ _ rfl (hK 6 rfl) ⟨hR.again, rfl⟩
                · refine RV.stepU_plain rfl fun u wr hR hK hD => ?_; exact upon_move _ _ rfl (hK 8 rfl) ⟨hR.again, rfl⟩
                · refine RV.stepU_plain rfl fun u wr hR hK hD => ?_; have z1 : u 170 = _ := hD 1 rfl; have z2 : u 171 = _ := hD 2 rfl; exact upon_val _ (by unfold execOp; simp [go_sem, evU, z1, z2, slT]) ⟨hR.again, rfl⟩
                · refine RV.stepU_plain rfl fun u wr hR hK hD => ?_
                  obtain ⟨⟨a9, z1⟩, z2⟩ := hD 0 rfl
                  have z3 : u 172 = _ := hD 3 rfl
                  obtain ⟨v, w2, q1, q2, q3⟩ := run_appL (u 169) 0 [] ((vsP ps).take k) aT k c _ hR z2 (rdT wr (x_R.keep (hBn wr hR))) htk.symm (fun u hu => hone u (List.mem_of_mem_take hu)) (by
                    by_cases h0 : (vsP ps).take k = []
                    · exact .inr (.inl h0)
                    · have := List.length_pos_iff.2 h0
                      exact .inr (.inr ⟨a9, 0, z1, by omega⟩)) (fun i u hu => by rw [Nat.zero_add, hTk i (by have := (List.getElem?_eq_some_iff.1 hu).1; rw [htk] at this; exact this)]; exact hu) (by omega)
                  rw [Nat.zero_add, List.nil_append] at q2
                  exact upon_append _ _ 25 _ _ _ _ rfl rfl z3 q1 ⟨q3, q2⟩
                · refine RV.stepU_plain rfl fun u wr hR hK hD => ?_; exact upon_move _ _ rfl (hK 11 rfl) ⟨hR.again, hV.symm⟩
                · refine RV.stepU_plain rfl fun u wr hR hK hD => ?_; have z1 : u 174 = _ := hD 5 rfl; exact upon_build1L _ _ _ _ rfl (z1.trans hV) ⟨hR.next ((Below.refl _ _).alloc (Nat.le_refl _) _), rfl, .inr ⟨_, 1, _, rfl, Nat.le_trans hR.hB hR.be.size, heap_alloc_new _ _, Nat.le_refl _, by decide, rfl, by rw [hV]; rfl⟩⟩
                · refine RV.stepU_plain rfl fun u wr hR hK hD => ?_
                  have z1 := hD 4 rfl
                  have z2 : wr.ownsRow w15.heap.size 22 1 (u 175) 1 [V] := hD 6 rfl
                  obtain ⟨g7, c7, z3, _, _, _⟩ := ow_form z2 (by decide)
                  have z4 := z2
                  rw [z3] at z4
                  obtain ⟨v, w2, q1, q2, q3⟩ := run_appL (u 173) k ((vsP ps).take k) [V] (some ⟨g7, 0, none⟩) 1 c7 _ hR z1 (ow_rd z4) rfl (by intro u hu; simp at hu; subst hu; rw [hV]; rfl) (.inl (Nat.le_refl k)) (fun i u hu => by
                    match i, hu with
                    | 0, hu => rw [Nat.add_zero, hTV]; exact hu) (by omega)
                  exact upon_append _ _ 25 _ _ _ _ rfl rfl z3 q1 ⟨q3, q2⟩
                · refine RV.stepU_plain rfl fun u wr hR hK hD => ?_; exact upon_move _ _ rfl (hK 6 rfl) ⟨hR.again, rfl⟩
                · refine RV.stepU_plain rfl fun u wr hR hK hD => ?_; exact upon_move _ _ rfl (hK 8 rfl) ⟨hR.again, rfl⟩
                · refine RV.stepU_plain rfl fun u wr hR hK hD => ?_; have z1 : u 177 = _ := hD 8 rfl; have z2 : u 178 = _ := hD 9 rfl; exact upon_val _ (by unfold execOp; simp [go_sem, evU, z1, z2, slF]) ⟨hR.again, rfl⟩
                · refine RV.stepU_plain rfl fun u wr hR hK hD => ?_
                  have z1 := hD 7 rfl
                  have z3 : u 179 = _ := hD 10 rfl
                  obtain ⟨v, w2, q1, q2, q3⟩ := run_appL (u 176) (k + 1) ((vsP ps).take k ++ [V]) ((vsP ps).drop k) aF (j - k) (c - k) _ hR z1 (rdF wr (x_R.keep (hBn wr hR))) (by rw [List.length_drop, hnps]) (fun u hu => hone u (List.mem_of_mem_drop hu)) (.inl (by omega)) hdT (by omega)
                  exact upon_append _ _ 25 _ _ _ _ rfl rfl z3 q1 ⟨q3, q2⟩
                · refine RV.stepU_plain rfl fun u wr hR hK hD => ?_; exact upon_assign _ _ rfl rfl ⟨hR.again, hD 11 rfl⟩
              intro u w16 hR hF
              have e6 : w16.ownsRow w15.heap.size 22 1 (u 6) (k + 1 + (j - k)) ((vsP ps).take k ++ [V] ++ (vsP ps).drop k) := hF 12 (by decide)
              obtain ⟨g6, c6, hv6, _, _, hc6⟩ := ow_form e6 (by omega)
              rw [hv6] at e6
              have hrd6 := ow_rd e6
              have hb16 := hBn w16 hR
              rw [show k + 1 + (j - k) = j + 1 from by omega] at hv6 hc6
              have hB16 := chain0 hB hb16
              have hGn : Go4 w w16 pa ups pp (some ⟨g6, 0, none⟩) (j + 1) c6 (ss.take k ++ [x] ++ ss.drop k) (ps.take k ++ [(some ⟨g, 0, none⟩, cap, lbs)] ++ ps.drop k) := by
                have hl := HG.out.len
                refine ⟨Hins.out (by rw [← Hhr.out]; exact hr4), ?_, hc6, ?_, ?_, ?_, x_P.keep hb16, hB16⟩
                · simp only [List.length_append, List.length_take, List.length_drop, List.length_cons, List.length_nil]; omega
                · simp only [List.map_append, List.map_take, List.map_drop, HG.out.pcs, List.map_cons, List.map_nil]
                  rw [Hlbs.out, Hhr.out]
                · have : vsP (ps.take k ++ [(some ⟨g, 0, none⟩, cap, lbs)] ++ ps.drop k) = (vsP ps).take k ++ [V] ++ (vsP ps).drop k := by
                    rw [hV, Hnl.out]
                    simp [vsP, List.map_take, List.map_drop]
                  rw [this]; exact hrd6
                · intro q hq
                  simp only [List.append_assoc, List.mem_append, List.mem_singleton] at hq
                  rcases hq with hq | rfl | hq
                  · exact (x_E q (List.mem_of_mem_take hq)).keep hb16
                  · exact x_L.keep hb16
                  · exact (x_E q (List.mem_of_mem_drop hq)).keep hb16
              simp only [finU, Act.put, List.setIfInBounds_toArray, List.set_cons_succ, List.set_cons_zero, hv6]
              clear hF hR e6 hrd6 slT slF rdT rdF hone hTk hx1 hx2 hx3 hx4 hdT hBn hT
              go_wp2
              go_roundw
              case rel => exact ⟨i + 1, _, j + 1, c6, _, _, by omega, by omega, by go_num, rfl, hGn⟩
              case measure => simp [intOf]; omega
      · have hkI : (0 : Int) < k := by omega
        have ixA := Hix.out (k - 1) (by omega) bA oA
        rw [show ((k - 1 : Nat) : Int) = (k : Int) - 1 from by omega] at ixA
        rcases hBn with ⟨hkj, rfl, rfl, -, hlb0⟩ | ⟨hkj, hlb0, -, -, -, bB, oB, ha', hcB⟩
        · subst hlb0
          have hkd : decide (k < j) = false := decide_eq_false hkj
          subst ha
          have x_P : RdB wr pa ups := x_P
          have x_A : RdB wr pa9 as_ := x_A
          have x_B : RdB wr none bs := x_B
          have x_R : Rd wr (some ⟨bA, oA, none⟩) (vsP ps) := x_R
          have x_E : PcE wr ps := x_E
          go_wp2_with fail
          refine (Hbet.out _ x_P x_A x_B).mono ?_
          rintro e w4 (⟨hr4, g, cap, rfl, hl4, hb4⟩ | ⟨hr4, rfl, hb4⟩)
          rotate_left
          · have hB2 : Below w.heap.size w w4 := by first | exact chain0 hB hb4 | exact chain1 hB hb4 | exact chain2 hB hb4 | exact chain3 hB hb4
            clear hB
            have hB := hB2
            clear hB2
            have y_P : RdB w4 pa ups := by first | exact x_P.keep hb4 | exact (x_P.alloc _).keep hb4 | exact ((x_P.alloc _).alloc _).keep hb4 | exact (((x_P.alloc _).alloc _).alloc _).keep hb4
            have y_A : RdB w4 pa9 as_ := by first | exact x_A.keep hb4 | exact (x_A.alloc _).keep hb4 | exact ((x_A.alloc _).alloc _).keep hb4 | exact (((x_A.alloc _).alloc _).alloc _).keep hb4
            have y_B : RdB w4 none bs := by first | exact x_B.keep hb4 | exact (x_B.alloc _).keep hb4 | exact ((x_B.alloc _).alloc _).keep hb4 | exact (((x_B.alloc _).alloc _).alloc _).keep hb4
            have y_R : Rd w4 (some ⟨bA, oA, none⟩) (vsP ps) := by first | exact x_R.keep hb4 | exact (x_R.alloc _).keep hb4 | exact ((x_R.alloc _).alloc _).keep hb4 | exact (((x_R.alloc _).alloc _).alloc _).keep hb4
            have y_E : PcE w4 ps := by first | exact x_E.keep hb4 | exact (x_E.alloc _).keep hb4 | exact ((x_E.alloc _).alloc _).keep hb4 | exact (((x_E.alloc _).alloc _).alloc _).keep hb4
            clear x_P x_A x_B x_R x_E
            have x_P := y_P
            have x_A := y_A
            have x_B := y_B
            have x_R := y_R
            have x_E := y_E
            clear y_P y_A y_B y_R y_E
            have t := Hlong.out hr4
            by_cases t1 : (120 : Int) < len0
            · go_wp2
              go_ret
              exact ⟨rfl, hB⟩
            · by_cases t2 : (120 : Int) < ((la : Nat) : Int)
              · first
                  | (exfalso; omega)
                  | (go_wp2
                     go_ret
                     exact ⟨rfl, hB⟩)
              · have t3 : (120 : Int) < ((0 : Nat) : Int) := by omega
                first
                  | (exfalso; omega)
                  | (go_wp2
                     go_ret
                     exact ⟨rfl, hB⟩)
          · have hB2 : Below w.heap.size w w4 := by first | exact chain0 hB hb4 | exact chain1 hB hb4 | exact chain2 hB hb4 | exact chain3 hB hb4
            clear hB
            have hB := hB2
            clear hB2
            have y_P : RdB w4 pa ups := by first | exact x_P.keep hb4 | exact (x_P.alloc _).keep hb4 | exact ((x_P.alloc _).alloc _).keep hb4 | exact (((x_P.alloc _).alloc _).alloc _).keep hb4
            have y_A : RdB w4 pa9 as_ := by first | exact x_A.keep hb4 | exact (x_A.alloc _).keep hb4 | exact ((x_A.alloc _).alloc _).keep hb4 | exact (((x_A.alloc _).alloc _).alloc _).keep hb4
            have y_B : RdB w4 none bs := by first | exact x_B.keep hb4 | exact (x_B.alloc _).keep hb4 | exact ((x_B.alloc _).alloc _).keep hb4 | exact (((x_B.alloc _).alloc _).alloc _).keep hb4
            have y_R : Rd w4 (some ⟨bA, oA, none⟩) (vsP ps) := by first | exact x_R.keep hb4 | exact (x_R.alloc _).keep hb4 | exact ((x_R.alloc _).alloc _).keep hb4 | exact (((x_R.alloc _).alloc _).alloc _).keep hb4
            have y_E : PcE w4 ps := by first | exact x_E.keep hb4 | exact (x_E.alloc _).keep hb4 | exact ((x_E.alloc _).alloc _).keep hb4 | exact (((x_E.alloc _).alloc _).alloc _).keep hb4
            clear x_P x_A x_B x_R x_E
            have x_P := y_P
            have x_A := y_A
            have x_B := y_B
            have x_R := y_R
            have x_E := y_E
            clear y_P y_A y_B y_R y_E
            have x_L : RdB w4 (some ⟨g, 0, none⟩) lbs := hl4
            have Hi5 := hide (HisL.out hr4)
            have hnl5 := Hnl128.out hr4
            have hb4' := hb4
            clear hl4 hb4 hb4'
            go_wp2_with fail
            refine (parentQ _ lbs ups pp x nl _ len0 _ x_L Hnl.out (by omega) Hi5.out Hp.out Hl0.out).mono ?_
            rintro e w5 ⟨gp, cp, rfl, kp, hb5⟩
            have hB2 : Below w.heap.size w w5 := by first | exact chain0 hB hb5 | exact chain1 hB hb5 | exact chain2 hB hb5 | exact chain3 hB hb5
            clear hB
            have hB := hB2
            clear hB2
            have y_P : RdB w5 pa ups := by first | exact x_P.keep hb5 | exact (x_P.alloc _).keep hb5 | exact ((x_P.alloc _).alloc _).keep hb5 | exact (((x_P.alloc _).alloc _).alloc _).keep hb5
            have y_A : RdB w5 pa9 as_ := by first | exact x_A.keep hb5 | exact (x_A.alloc _).keep hb5 | exact ((x_A.alloc _).alloc _).keep hb5 | exact (((x_A.alloc _).alloc _).alloc _).keep hb5
            have y_B : RdB w5 none bs := by first | exact x_B.keep hb5 | exact (x_B.alloc _).keep hb5 | exact ((x_B.alloc _).alloc _).keep hb5 | exact (((x_B.alloc _).alloc _).alloc _).keep hb5
            have y_R : Rd w5 (some ⟨bA, oA, none⟩) (vsP ps) := by first | exact x_R.keep hb5 | exact (x_R.alloc _).keep hb5 | exact ((x_R.alloc _).alloc _).keep hb5 | exact (((x_R.alloc _).alloc _).alloc _).keep hb5
            have y_E : PcE w5 ps := by first | exact x_E.keep hb5 | exact (x_E.alloc _).keep hb5 | exact ((x_E.alloc _).alloc _).keep hb5 | exact (((x_E.alloc _).alloc _).alloc _).keep hb5
            have y_L : RdB w5 (some ⟨g, 0, none⟩) lbs := by first | exact x_L.keep hb5 | exact (x_L.alloc _).keep hb5 | exact ((x_L.alloc _).alloc _).keep hb5 | exact (((x_L.alloc _).alloc _).alloc _).keep hb5
            clear x_P x_A x_B x_R x_E x_L
            have x_P := y_P
            have x_A := y_A
            have x_B := y_B
            have x_R := y_R
            have x_E := y_E
            have x_L := y_L
            clear y_P y_A y_B y_R y_E y_L
            have x_Q : RdB w5 (some ⟨gp, 0, none⟩) ups := kp
            clear kp
            go_wp2_with fail
            refine (sameT _ _ ups len0 _ len0 _ _ x_Q x_P Hl0.out Hl0.out (by omega)).mono ?_
            rintro e w6 ⟨rfl, hb6⟩
            have hB2 : Below w.heap.size w w6 := by first | exact chain0 hB hb6 | exact chain1 hB hb6 | exact chain2 hB hb6 | exact chain3 hB hb6
            clear hB
            have hB := hB2
            clear hB2
            have y_P : RdB w6 pa ups := by first | exact x_P.keep hb6 | exact (x_P.alloc _).keep hb6 | exact ((x_P.alloc _).alloc _).keep hb6 | exact (((x_P.alloc _).alloc _).alloc _).keep hb6
            have y_A : RdB w6 pa9 as_ := by first | exact x_A.keep hb6 | exact (x_A.alloc _).keep hb6 | exact ((x_A.alloc _).alloc _).keep hb6 | exact (((x_A.alloc _).alloc _).alloc _).keep hb6
            have y_B : RdB w6 none bs := by first | exact x_B.keep hb6 | exact (x_B.alloc _).keep hb6 | exact ((x_B.alloc _).alloc _).keep hb6 | exact (((x_B.alloc _).alloc _).alloc _).keep hb6
            have y_R : Rd w6 (some ⟨bA, oA, none⟩) (vsP ps) := by first | exact x_R.keep hb6 | exact (x_R.alloc _).keep hb6 | exact ((x_R.alloc _).alloc _).keep hb6 | exact (((x_R.alloc _).alloc _).alloc _).keep hb6
            have y_E : PcE w6 ps := by first | exact x_E.keep hb6 | exact (x_E.alloc _).keep hb6 | exact ((x_E.alloc _).alloc _).keep hb6 | exact (((x_E.alloc _).alloc _).alloc _).keep hb6
            have y_L : RdB w6 (some ⟨g, 0, none⟩) lbs := by first | exact x_L.keep hb6 | exact (x_L.alloc _).keep hb6 | exact ((x_L.alloc _).alloc _).keep hb6 | exact (((x_L.alloc _).alloc _).alloc _).keep hb6
            have y_Q : RdB w6 (some ⟨gp, 0, none⟩) ups := by first | exact x_Q.keep hb6 | exact (x_Q.alloc _).keep hb6 | exact ((x_Q.alloc _).alloc _).keep hb6 | exact (((x_Q.alloc _).alloc _).alloc _).keep hb6
            clear x_P x_A x_B x_R x_E x_L x_Q
            have x_P := y_P
            have x_A := y_A
            have x_B := y_B
            have x_R := y_R
            have x_E := y_E
            have x_L := y_L
            have x_Q := y_Q
            clear y_P y_A y_B y_R y_E y_L y_Q
            go_wp2_with fail
            refine (right_yesL _ lbs (pp ++ [x]) nl _ _ x_L Hnl.out (by omega) Hi5.out).mono ?_
            rintro e w7 ⟨rfl, hb7⟩
            have hB2 : Below w.heap.size w w7 := by first | exact chain0 hB hb7 | exact chain1 hB hb7 | exact chain2 hB hb7 | exact chain3 hB hb7
            clear hB
            have hB := hB2
            clear hB2
            have y_P : RdB w7 pa ups := by first | exact x_P.keep hb7 | exact (x_P.alloc _).keep hb7 | exact ((x_P.alloc _).alloc _).keep hb7 | exact (((x_P.alloc _).alloc _).alloc _).keep hb7
            have y_A : RdB w7 pa9 as_ := by first | exact x_A.keep hb7 | exact (x_A.alloc _).keep hb7 | exact ((x_A.alloc _).alloc _).keep hb7 | exact (((x_A.alloc _).alloc _).alloc _).keep hb7
            have y_B : RdB w7 none bs := by first | exact x_B.keep hb7 | exact (x_B.alloc _).keep hb7 | exact ((x_B.alloc _).alloc _).keep hb7 | exact (((x_B.alloc _).alloc _).alloc _).keep hb7
            have y_R : Rd w7 (some ⟨bA, oA, none⟩) (vsP ps) := by first | exact x_R.keep hb7 | exact (x_R.alloc _).keep hb7 | exact ((x_R.alloc _).alloc _).keep hb7 | exact (((x_R.alloc _).alloc _).alloc _).keep hb7
            have y_E : PcE w7 ps := by first | exact x_E.keep hb7 | exact (x_E.alloc _).keep hb7 | exact ((x_E.alloc _).alloc _).keep hb7 | exact (((x_E.alloc _).alloc _).alloc _).keep hb7
            have y_L : RdB w7 (some ⟨g, 0, none⟩) lbs := by first | exact x_L.keep hb7 | exact (x_L.alloc _).keep hb7 | exact ((x_L.alloc _).alloc _).keep hb7 | exact (((x_L.alloc _).alloc _).alloc _).keep hb7
            have y_Q : RdB w7 (some ⟨gp, 0, none⟩) ups := by first | exact x_Q.keep hb7 | exact (x_Q.alloc _).keep hb7 | exact ((x_Q.alloc _).alloc _).keep hb7 | exact (((x_Q.alloc _).alloc _).alloc _).keep hb7
            clear x_P x_A x_B x_R x_E x_L x_Q
            have x_P := y_P
            have x_A := y_A
            have x_B := y_B
            have x_R := y_R
            have x_E := y_E
            have x_L := y_L
            have x_Q := y_Q
            clear y_P y_A y_B y_R y_E y_L y_Q
            go_wp2_with fail
            refine (levelQ _ lbs (pp ++ [x]) nl _ ((lv : Int) + 1) _ x_L Hnl.out (by omega) Hi5.out Hlv1.out).mono ?_
            rintro e w8 ⟨rfl, hb8⟩
            have hB2 : Below w.heap.size w w8 := by first | exact chain0 hB hb8 | exact chain1 hB hb8 | exact chain2 hB hb8 | exact chain3 hB hb8
            clear hB
            have hB := hB2
            clear hB2
            have y_P : RdB w8 pa ups := by first | exact x_P.keep hb8 | exact (x_P.alloc _).keep hb8 | exact ((x_P.alloc _).alloc _).keep hb8 | exact (((x_P.alloc _).alloc _).alloc _).keep hb8
            have y_A : RdB w8 pa9 as_ := by first | exact x_A.keep hb8 | exact (x_A.alloc _).keep hb8 | exact ((x_A.alloc _).alloc _).keep hb8 | exact (((x_A.alloc _).alloc _).alloc _).keep hb8
            have y_B : RdB w8 none bs := by first | exact x_B.keep hb8 | exact (x_B.alloc _).keep hb8 | exact ((x_B.alloc _).alloc _).keep hb8 | exact (((x_B.alloc _).alloc _).alloc _).keep hb8
            have y_R : Rd w8 (some ⟨bA, oA, none⟩) (vsP ps) := by first | exact x_R.keep hb8 | exact (x_R.alloc _).keep hb8 | exact ((x_R.alloc _).alloc _).keep hb8 | exact (((x_R.alloc _).alloc _).alloc _).keep hb8
            have y_E : PcE w8 ps := by first | exact x_E.keep hb8 | exact (x_E.alloc _).keep hb8 | exact ((x_E.alloc _).alloc _).keep hb8 | exact (((x_E.alloc _).alloc _).alloc _).keep hb8
            have y_L : RdB w8 (some ⟨g, 0, none⟩) lbs := by first | exact x_L.keep hb8 | exact (x_L.alloc _).keep hb8 | exact ((x_L.alloc _).alloc _).keep hb8 | exact (((x_L.alloc _).alloc _).alloc _).keep hb8
            have y_Q : RdB w8 (some ⟨gp, 0, none⟩) ups := by first | exact x_Q.keep hb8 | exact (x_Q.alloc _).keep hb8 | exact ((x_Q.alloc _).alloc _).keep hb8 | exact (((x_Q.alloc _).alloc _).alloc _).keep hb8
            clear x_P x_A x_B x_R x_E x_L x_Q
            have x_P := y_P
            have x_A := y_A
            have x_B := y_B
            have x_R := y_R
            have x_E := y_E
            have x_L := y_L
            have x_Q := y_Q
            clear y_P y_A y_B y_R y_E y_L y_Q
            go_wp2_with fail
            refine (levelQ _ ups pp len0 _ (lv : Int) _ x_P Hl0.out (by omega) Hp.out (by rw [Hlv.out])).mono ?_
            rintro e w9 ⟨rfl, hb9⟩
            have hB2 : Below w.heap.size w w9 := by first | exact chain0 hB hb9 | exact chain1 hB hb9 | exact chain2 hB hb9 | exact chain3 hB hb9
            clear hB
            have hB := hB2
            clear hB2
            have y_P : RdB w9 pa ups := by first | exact x_P.keep hb9 | exact (x_P.alloc _).keep hb9 | exact ((x_P.alloc _).alloc _).keep hb9 | exact (((x_P.alloc _).alloc _).alloc _).keep hb9
            have y_A : RdB w9 pa9 as_ := by first | exact x_A.keep hb9 | exact (x_A.alloc _).keep hb9 | exact ((x_A.alloc _).alloc _).keep hb9 | exact (((x_A.alloc _).alloc _).alloc _).keep hb9
            have y_B : RdB w9 none bs := by first | exact x_B.keep hb9 | exact (x_B.alloc _).keep hb9 | exact ((x_B.alloc _).alloc _).keep hb9 | exact (((x_B.alloc _).alloc _).alloc _).keep hb9
            have y_R : Rd w9 (some ⟨bA, oA, none⟩) (vsP ps) := by first | exact x_R.keep hb9 | exact (x_R.alloc _).keep hb9 | exact ((x_R.alloc _).alloc _).keep hb9 | exact (((x_R.alloc _).alloc _).alloc _).keep hb9
            have y_E : PcE w9 ps := by first | exact x_E.keep hb9 | exact (x_E.alloc _).keep hb9 | exact ((x_E.alloc _).alloc _).keep hb9 | exact (((x_E.alloc _).alloc _).alloc _).keep hb9
            have y_L : RdB w9 (some ⟨g, 0, none⟩) lbs := by first | exact x_L.keep hb9 | exact (x_L.alloc _).keep hb9 | exact ((x_L.alloc _).alloc _).keep hb9 | exact (((x_L.alloc _).alloc _).alloc _).keep hb9
            have y_Q : RdB w9 (some ⟨gp, 0, none⟩) ups := by first | exact x_Q.keep hb9 | exact (x_Q.alloc _).keep hb9 | exact ((x_Q.alloc _).alloc _).keep hb9 | exact (((x_Q.alloc _).alloc _).alloc _).keep hb9
            clear x_P x_A x_B x_R x_E x_L x_Q
            have x_P := y_P
            have x_A := y_A
            have x_B := y_B
            have x_R := y_R
            have x_E := y_E
            have x_L := y_L
            have x_Q := y_Q
            clear y_P y_A y_B y_R y_E y_L y_Q
            go_wp2_with fail
            refine (above_both _ _ ups lbs pp (pp ++ [x]) len0 _ nl _ true _ x_P x_L Hl0.out Hnl.out (by omega) (by omega) Hp.out Hi5.out Habv.out).mono ?_
            rintro e w10 ⟨rfl, hb10⟩
            have hB2 : Below w.heap.size w w10 := by first | exact chain0 hB hb10 | exact chain1 hB hb10 | exact chain2 hB hb10 | exact chain3 hB hb10
            clear hB
            have hB := hB2
            clear hB2
            have y_P : RdB w10 pa ups := by first | exact x_P.keep hb10 | exact (x_P.alloc _).keep hb10 | exact ((x_P.alloc _).alloc _).keep hb10 | exact (((x_P.alloc _).alloc _).alloc _).keep hb10
            have y_A : RdB w10 pa9 as_ := by first | exact x_A.keep hb10 | exact (x_A.alloc _).keep hb10 | exact ((x_A.alloc _).alloc _).keep hb10 | exact (((x_A.alloc _).alloc _).alloc _).keep hb10
            have y_B : RdB w10 none bs := by first | exact x_B.keep hb10 | exact (x_B.alloc _).keep hb10 | exact ((x_B.alloc _).alloc _).keep hb10 | exact (((x_B.alloc _).alloc _).alloc _).keep hb10
            have y_R : Rd w10 (some ⟨bA, oA, none⟩) (vsP ps) := by first | exact x_R.keep hb10 | exact (x_R.alloc _).keep hb10 | exact ((x_R.alloc _).alloc _).keep hb10 | exact (((x_R.alloc _).alloc _).alloc _).keep hb10
            have y_E : PcE w10 ps := by first | exact x_E.keep hb10 | exact (x_E.alloc _).keep hb10 | exact ((x_E.alloc _).alloc _).keep hb10 | exact (((x_E.alloc _).alloc _).alloc _).keep hb10
            have y_L : RdB w10 (some ⟨g, 0, none⟩) lbs := by first | exact x_L.keep hb10 | exact (x_L.alloc _).keep hb10 | exact ((x_L.alloc _).alloc _).keep hb10 | exact (((x_L.alloc _).alloc _).alloc _).keep hb10
            have y_Q : RdB w10 (some ⟨gp, 0, none⟩) ups := by first | exact x_Q.keep hb10 | exact (x_Q.alloc _).keep hb10 | exact ((x_Q.alloc _).alloc _).keep hb10 | exact (((x_Q.alloc _).alloc _).alloc _).keep hb10
            clear x_P x_A x_B x_R x_E x_L x_Q
            have x_P := y_P
            have x_A := y_A
            have x_B := y_B
            have x_R := y_R
            have x_E := y_E
            have x_L := y_L
            have x_Q := y_Q
            clear y_P y_A y_B y_R y_E y_L y_Q
            go_wp2_with fail
            refine (compareL _ _ as_ lbs la _ nl _ (-1) _ x_A x_L Hla9.out Hnl.out (Hca.out hk0)).mono ?_
            rintro e w11 ⟨rfl, hb11⟩
            have hB2 : Below w.heap.size w w11 := by first | exact chain0 hB hb11 | exact chain1 hB hb11 | exact chain2 hB hb11 | exact chain3 hB hb11
            clear hB
            have hB := hB2
            clear hB2
            have y_P : RdB w11 pa ups := by first | exact x_P.keep hb11 | exact (x_P.alloc _).keep hb11 | exact ((x_P.alloc _).alloc _).keep hb11 | exact (((x_P.alloc _).alloc _).alloc _).keep hb11
            have y_A : RdB w11 pa9 as_ := by first | exact x_A.keep hb11 | exact (x_A.alloc _).keep hb11 | exact ((x_A.alloc _).alloc _).keep hb11 | exact (((x_A.alloc _).alloc _).alloc _).keep hb11
            have y_B : RdB w11 none bs := by first | exact x_B.keep hb11 | exact (x_B.alloc _).keep hb11 | exact ((x_B.alloc _).alloc _).keep hb11 | exact (((x_B.alloc _).alloc _).alloc _).keep hb11
            have y_R : Rd w11 (some ⟨bA, oA, none⟩) (vsP ps) := by first | exact x_R.keep hb11 | exact (x_R.alloc _).keep hb11 | exact ((x_R.alloc _).alloc _).keep hb11 | exact (((x_R.alloc _).alloc _).alloc _).keep hb11
            have y_E : PcE w11 ps := by first | exact x_E.keep hb11 | exact (x_E.alloc _).keep hb11 | exact ((x_E.alloc _).alloc _).keep hb11 | exact (((x_E.alloc _).alloc _).alloc _).keep hb11
            have y_L : RdB w11 (some ⟨g, 0, none⟩) lbs := by first | exact x_L.keep hb11 | exact (x_L.alloc _).keep hb11 | exact ((x_L.alloc _).alloc _).keep hb11 | exact (((x_L.alloc _).alloc _).alloc _).keep hb11
            have y_Q : RdB w11 (some ⟨gp, 0, none⟩) ups := by first | exact x_Q.keep hb11 | exact (x_Q.alloc _).keep hb11 | exact ((x_Q.alloc _).alloc _).keep hb11 | exact (((x_Q.alloc _).alloc _).alloc _).keep hb11
            clear x_P x_A x_B x_R x_E x_L x_Q
            have x_P := y_P
            have x_A := y_A
            have x_B := y_B
            have x_R := y_R
            have x_E := y_E
            have x_L := y_L
            have x_Q := y_Q
            clear y_P y_A y_B y_R y_E y_L y_Q
            go_wp2_with fail
            refine (compareL _ _ ups lbs len0 _ nl _ (-1) _ x_P x_L Hl0.out Hnl.out Hcp.out).mono ?_
            rintro e w13 ⟨rfl, hb13⟩
            have hB2 : Below w.heap.size w w13 := by first | exact chain0 hB hb13 | exact chain1 hB hb13 | exact chain2 hB hb13 | exact chain3 hB hb13
            clear hB
            have hB := hB2
            clear hB2
            have y_P : RdB w13 pa ups := by first | exact x_P.keep hb13 | exact (x_P.alloc _).keep hb13 | exact ((x_P.alloc _).alloc _).keep hb13 | exact (((x_P.alloc _).alloc _).alloc _).keep hb13
            have y_A : RdB w13 pa9 as_ := by first | exact x_A.keep hb13 | exact (x_A.alloc _).keep hb13 | exact ((x_A.alloc _).alloc _).keep hb13 | exact (((x_A.alloc _).alloc _).alloc _).keep hb13
            have y_B : RdB w13 none bs := by first | exact x_B.keep hb13 | exact (x_B.alloc _).keep hb13 | exact ((x_B.alloc _).alloc _).keep hb13 | exact (((x_B.alloc _).alloc _).alloc _).keep hb13
            have y_R : Rd w13 (some ⟨bA, oA, none⟩) (vsP ps) := by first | exact x_R.keep hb13 | exact (x_R.alloc _).keep hb13 | exact ((x_R.alloc _).alloc _).keep hb13 | exact (((x_R.alloc _).alloc _).alloc _).keep hb13
            have y_E : PcE w13 ps := by first | exact x_E.keep hb13 | exact (x_E.alloc _).keep hb13 | exact ((x_E.alloc _).alloc _).keep hb13 | exact (((x_E.alloc _).alloc _).alloc _).keep hb13
            have y_L : RdB w13 (some ⟨g, 0, none⟩) lbs := by first | exact x_L.keep hb13 | exact (x_L.alloc _).keep hb13 | exact ((x_L.alloc _).alloc _).keep hb13 | exact (((x_L.alloc _).alloc _).alloc _).keep hb13
            have y_Q : RdB w13 (some ⟨gp, 0, none⟩) ups := by first | exact x_Q.keep hb13 | exact (x_Q.alloc _).keep hb13 | exact ((x_Q.alloc _).alloc _).keep hb13 | exact (((x_Q.alloc _).alloc _).alloc _).keep hb13
            clear x_P x_A x_B x_R x_E x_L x_Q
            have x_P := y_P
            have x_A := y_A
            have x_B := y_B
            have x_R := y_R
            have x_E := y_E
            have x_L := y_L
            have x_Q := y_Q
            clear y_P y_A y_B y_R y_E y_L y_Q
            obtain ⟨hm1, hm2, hm2b, hm3⟩ := Hm.out
            have e1 : m1 = (la : Int) := by rw [← hm1]; split <;> omega
            subst e1
            clear hm1
            have hm1 : ¬ (la : Int) < 0 := by omega
            by_cases hpp : pp = []
            · have hz : ¬ (0 : Int) < len0 := by
                rw [Hl0.out, Hp.out.2.2, hpp]; simp [Bm.wr, pkL, nb, wk]
              go_wp2_with fail
              clear hm1 hm2 hm2b hm3
              obtain ⟨V, hV⟩ : ∃ V, V = Value.slice (some ⟨g, 0, none⟩) nl cap := ⟨_, rfl⟩
              obtain ⟨T, hT⟩ : ∃ T, T = (vsP ps).take k ++ [V] ++ (vsP ps).drop k := ⟨_, rfl⟩
              have hnps : (vsP ps).length = j := by
                have := congrArg List.length HG.out.pcs
                simp only [List.length_map] at this
                rw [vsP, List.length_map, this, HG.out.len]
              obtain ⟨aT, slT, rdT⟩ := run_slTo (some ⟨bA, oA, none⟩) (vsP ps) j c k w13 x_R hnps.symm (by omega) HG.out.cap
              obtain ⟨aF, slF, rdF⟩ := run_slFrom (some ⟨bA, oA, none⟩) (vsP ps) j c k w13 x_R hnps.symm (by omega) HG.out.cap
              have hone : ∀ u ∈ vsP ps, u.oneCell' = true := by
                intro u hu
                obtain ⟨q, _, rfl⟩ := List.mem_map.1 hu
                rfl
              have htk : ((vsP ps).take k).length = k := by rw [List.length_take, hnps]; omega
              have hTk : ∀ i, i < k → T[i]? = ((vsP ps).take k)[i]? := fun i hi => by
                rw [hT, List.append_assoc, List.getElem?_append_left (by rw [htk]; exact hi)]
              have hTV : T[k]? = some V := by
                rw [hT, List.append_assoc, List.getElem?_append_right (by rw [htk]; exact Nat.le_refl _), htk, Nat.sub_self]; rfl
              have hx1 : ∀ i u, ((vsP ps).take k)[i]? = some u → i < k ∨ T[i]? = some u := fun i u hu => .inl (by
                have := (List.getElem?_eq_some_iff.1 hu).1
                rw [htk] at this; exact this)
              have hx2 : ∀ i u, [V][i]? = some u → i < k ∨ T[i]? = some u := fun i u hu => by
                match i, hu with
                | 0, hu =>
                  by_cases h0 : 0 < k
                  · exact .inl h0
                  · have h1 : k = 0 := by omega
                    rw [h1] at hTV
                    rw [hTV]; exact .inr hu
              have hx4 : ∀ i u, ((vsP ps).take k ++ [V] ++ (vsP ps).drop k)[i]? = some u → i < k ∨ T[i]? = some u := fun i u hu => .inr (by rw [hT]; exact hu)
              have hx3 : ∀ i u, ((vsP ps).take k ++ [V])[i]? = some u → i < k ∨ T[i]? = some u := fun i u hu => .inr (by
                rw [hT, List.getElem?_append_left (List.getElem?_eq_some_iff.1 hu).1]; exact hu)
              have hdT : ∀ i u, ((vsP ps).drop k)[i]? = some u → T[k + 1 + i]? = some u := fun i u hu => by
                rw [hT, List.getElem?_append_right (by rw [List.length_append, htk]; simp), List.length_append, htk]
                simpa using hu
              have hBn : ∀ W, RL w13.heap.size T k w13.drew W → Below w13.heap.size w13 W := fun W h => ⟨h.be.os, h.be.tape, h.be.output, h.be.size, h.be.block⟩
              refine RV.wp_region_facts (R := RL w13.heap.size T k) [row0 w13.heap.size T k 169, eqL w13.heap.size T k 170 (.slice (some ⟨bA, oA, none⟩) j c), eqL w13.heap.size T k 171 (.int .i64 k), eqL w13.heap.size T k 172 (.slice aT k c), rowL w13.heap.size T k 173 k ((vsP ps).take k) hx1,
                eqL w13.heap.size T k 174 V, rowL w13.heap.size T k 175 1 [V] hx2, rowL w13.heap.size T k 176 (k + 1) ((vsP ps).take k ++ [V]) hx3, eqL w13.heap.size T k 177 (.slice (some ⟨bA, oA, none⟩) j c), eqL w13.heap.size T k 178 (.int .i64 k), eqL w13.heap.size T k 179 (.slice aF (j - k) (c - k)),
                rowL w13.heap.size T k 180 (k + 1 + (j - k)) ((vsP ps).take k ++ [V] ++ (vsP ps).drop k) hx4, rowL w13.heap.size T k 6 (k + 1 + (j - k)) ((vsP ps).take k ++ [V] ++ (vsP ps).drop k) hx4] (by kernel_rfl) (by kernel_rfl) (by kernel_rfl) (RL.refl (Nat.le_refl _)) (fun _ h => h.again) (fun _ _ _ h k => h.trans k) ?_ ?_
              · refine RV.stepsU_cons rfl ?_ (RV.stepsU_cons rfl ?_ (RV.stepsU_cons rfl ?_ (RV.stepsU_cons rfl ?_ (RV.stepsU_cons rfl ?_ (RV.stepsU_cons rfl ?_ (RV.stepsU_cons rfl ?_ (RV.stepsU_cons rfl ?_ (RV.stepsU_cons rfl ?_ (RV.stepsU_cons rfl ?_ (RV.stepsU_cons rfl ?_ (RV.stepsU_cons rfl ?_ (RV.stepsU_cons rfl ?_ RV.stepsU_nil))))))))))))
                · refine RV.stepU_plain rfl fun u wr hR hK hD => ?_; exact upon_build0L rfl ⟨hR.next ((Below.refl _ _).alloc (Nat.le_refl _) _), ⟨_, rfl⟩, rfl, .inr ⟨_, 0, #[], rfl, Nat.le_trans hR.hB hR.be.size, heap_alloc_new _ _, Nat.le_refl _, by decide, rfl, rfl⟩⟩
                · refine RV.stepU_plain rfl fun u wr hR hK hD => ?_; exact upon_move _ _ rfl (hK 6 rfl) ⟨hR.again, rfl⟩
                · refine RV.stepU_plain rfl fun u wr hR hK hD => ?_; exact upon_move _ _ rfl (hK 8 rfl) ⟨hR.again, rfl⟩
                · refine RV.stepU_plain rfl fun u wr hR hK hD => ?_; have z1 : u 170 = _ := hD 1 rfl; have z2 : u 171 = _ := hD 2 rfl; exact upon_val _ (by unfold execOp; simp [go_sem, evU, z1, z2, slT]) ⟨hR.again, rfl⟩
                · refine RV.stepU_plain rfl fun u wr hR hK hD => ?_
                  obtain ⟨⟨a9, z1⟩, z2⟩ := hD 0 rfl
                  have z3 : u 172 = _ := hD 3 rfl
                  obtain ⟨v, w2, q1, q2, q3⟩ := run_appL (u 169) 0 [] ((vsP ps).take k) aT k c _ hR z2 (rdT wr (x_R.keep (hBn wr hR))) htk.symm (fun u hu => hone u (List.mem_of_mem_take hu)) (by
                    by_cases h0 : (vsP ps).take k = []
                    · exact .inr (.inl h0)
                    · have := List.length_pos_iff.2 h0
                      exact .inr (.inr ⟨a9, 0, z1, by omega⟩)) (fun i u hu => by rw [Nat.zero_add, hTk i (by have := (List.getElem?_eq_some_iff.1 hu).1; rw [htk] at this; exact this)]; exact hu) (by omega)
                  rw [Nat.zero_add, List.nil_append] at q2
                  exact upon_append _ _ 25 _ _ _ _ rfl rfl z3 q1 ⟨q3, q2⟩
                · refine RV.stepU_plain rfl fun u wr hR hK hD => ?_; exact upon_move _ _ rfl (hK 11 rfl) ⟨hR.again, hV.symm⟩
                · refine RV.stepU_plain rfl fun u wr hR hK hD => ?_; have z1 : u 174 = _ := hD 5 rfl; exact upon_build1L _ _ _ _ rfl (z1.trans hV) ⟨hR.next ((Below.refl _ _).alloc (Nat.le_refl _) _), rfl, .inr ⟨_, 1, _, rfl, Nat.le_trans hR.hB hR.be.size, heap_alloc_new _ _, Nat.le_refl _, by decide, rfl, by rw [hV]; rfl⟩⟩
                · refine RV.stepU_plain rfl fun u wr hR hK hD => ?_
                  have z1 := hD 4 rfl
                  have z2 : wr.ownsRow w13.heap.size 22 1 (u 175) 1 [V] := hD 6 rfl
                  obtain ⟨g7, c7, z3, _, _, _⟩ := ow_form z2 (by decide)
                  have z4 := z2
                  rw [z3] at z4
                  obtain ⟨v, w2, q1, q2, q3⟩ := run_appL (u 173) k ((vsP ps).take k) [V] (some ⟨g7, 0, none⟩) 1 c7 _ hR z1 (ow_rd z4) rfl (by intro u hu; simp at hu; subst hu; rw [hV]; rfl) (.inl (Nat.le_refl k)) (fun i u hu => by
                    match i, hu with
                    | 0, hu => rw [Nat.add_zero, hTV]; exact hu) (by omega)
                  exact upon_append _ _ 25 _ _ _ _ rfl rfl z3 q1 ⟨q3, q2⟩
                · refine RV.stepU_plain rfl fun u wr hR hK hD => ?_; exact upon_move _ _ rfl (hK 6 rfl) ⟨hR.again, rfl⟩
                · refine RV.stepU_plain rfl fun u wr hR hK hD => ?_; exact upon_move _ _ rfl (hK 8 rfl) ⟨hR.again, rfl⟩
                · refine RV.stepU_plain rfl fun u wr hR hK hD => ?_; have z1 : u 177 = _ := hD 8 rfl; have z2 : u 178 = _ := hD 9 rfl; exact upon_val _ (by unfold execOp; simp [go_sem, evU, z1, z2, slF]) ⟨hR.again, rfl⟩
                · refine RV.stepU_plain rfl fun u wr hR hK hD => ?_
                  have z1 := hD 7 rfl
                  have z3 : u 179 = _ := hD 10 rfl
                  obtain ⟨v, w2, q1, q2, q3⟩ := run_appL (u 176) (k + 1) ((vsP ps).take k ++ [V]) ((vsP ps).drop k) aF (j - k) (c - k) _ hR z1 (rdF wr (x_R.keep (hBn wr hR))) (by rw [List.length_drop, hnps]) (fun u hu => hone u (List.mem_of_mem_drop hu)) (.inl (by omega)) hdT (by omega)
                  exact upon_append _ _ 25 _ _ _ _ rfl rfl z3 q1 ⟨q3, q2⟩
                · refine RV.stepU_plain rfl fun u wr hR hK hD => ?_; exact upon_assign _ _ rfl rfl ⟨hR.again, hD 11 rfl⟩
              intro u w16 hR hF
              have e6 : w16.ownsRow w13.heap.size 22 1 (u 6) (k + 1 + (j - k)) ((vsP ps).take k ++ [V] ++ (vsP ps).drop k) := hF 12 (by decide)
              obtain ⟨g6, c6, hv6, _, _, hc6⟩ := ow_form e6 (by omega)
              rw [hv6] at e6
              have hrd6 := ow_rd e6
              have hb16 := hBn w16 hR
              rw [show k + 1 + (j - k) = j + 1 from by omega] at hv6 hc6
              have hB16 := chain0 hB hb16
              have hGn : Go4 w w16 pa ups pp (some ⟨g6, 0, none⟩) (j + 1) c6 (ss.take k ++ [x] ++ ss.drop k) (ps.take k ++ [(some ⟨g, 0, none⟩, cap, lbs)] ++ ps.drop k) := by
                have hl := HG.out.len
                refine ⟨Hins.out (by rw [← Hhr.out]; exact hr4), ?_, hc6, ?_, ?_, ?_, x_P.keep hb16, hB16⟩
                · simp only [List.length_append, List.length_take, List.length_drop, List.length_cons, List.length_nil]; omega
                · simp only [List.map_append, List.map_take, List.map_drop, HG.out.pcs, List.map_cons, List.map_nil]
                  rw [Hlbs.out, Hhr.out]
                · have : vsP (ps.take k ++ [(some ⟨g, 0, none⟩, cap, lbs)] ++ ps.drop k) = (vsP ps).take k ++ [V] ++ (vsP ps).drop k := by
                    rw [hV, Hnl.out]
                    simp [vsP, List.map_take, List.map_drop]
                  rw [this]; exact hrd6
                · intro q hq
                  simp only [List.append_assoc, List.mem_append, List.mem_singleton] at hq
                  rcases hq with hq | rfl | hq
                  · exact (x_E q (List.mem_of_mem_take hq)).keep hb16
                  · exact x_L.keep hb16
                  · exact (x_E q (List.mem_of_mem_drop hq)).keep hb16
              simp only [finU, Act.put, List.setIfInBounds_toArray, List.set_cons_succ, List.set_cons_zero, hv6]
              clear hF hR e6 hrd6 slT slF rdT rdF hone hTk hx1 hx2 hx3 hx4 hdT hBn hT
              go_wp2
              go_roundw
              case rel => exact ⟨i + 1, _, j + 1, c6, _, _, by omega, by omega, by go_num, rfl, hGn⟩
              case measure => simp [intOf]; omega
            · have hz : (0 : Int) < len0 := by
                obtain ⟨q, hq⟩ := wr_end hpp
                have := hnpE.out
                rw [hq] at this
                simp [nb] at this
                omega
              go_wp2_with fail
              refine (afterQ _ ups fin pp len0 _ nf _ x_P Hl0.out (by omega) Hp.out hpp Hfin.out Hnf.out).mono ?_
              rintro e w14 ⟨ga, ca, rfl, ka, hb14⟩
              have hB2 : Below w.heap.size w w14 := by first | exact chain0 hB hb14 | exact chain1 hB hb14 | exact chain2 hB hb14 | exact chain3 hB hb14
              clear hB
              have hB := hB2
              clear hB2
              have y_P : RdB w14 pa ups := by first | exact x_P.keep hb14 | exact (x_P.alloc _).keep hb14 | exact ((x_P.alloc _).alloc _).keep hb14 | exact (((x_P.alloc _).alloc _).alloc _).keep hb14
              have y_A : RdB w14 pa9 as_ := by first | exact x_A.keep hb14 | exact (x_A.alloc _).keep hb14 | exact ((x_A.alloc _).alloc _).keep hb14 | exact (((x_A.alloc _).alloc _).alloc _).keep hb14
              have y_B : RdB w14 none bs := by first | exact x_B.keep hb14 | exact (x_B.alloc _).keep hb14 | exact ((x_B.alloc _).alloc _).keep hb14 | exact (((x_B.alloc _).alloc _).alloc _).keep hb14
              have y_R : Rd w14 (some ⟨bA, oA, none⟩) (vsP ps) := by first | exact x_R.keep hb14 | exact (x_R.alloc _).keep hb14 | exact ((x_R.alloc _).alloc _).keep hb14 | exact (((x_R.alloc _).alloc _).alloc _).keep hb14
              have y_E : PcE w14 ps := by first | exact x_E.keep hb14 | exact (x_E.alloc _).keep hb14 | exact ((x_E.alloc _).alloc _).keep hb14 | exact (((x_E.alloc _).alloc _).alloc _).keep hb14
              have y_L : RdB w14 (some ⟨g, 0, none⟩) lbs := by first | exact x_L.keep hb14 | exact (x_L.alloc _).keep hb14 | exact ((x_L.alloc _).alloc _).keep hb14 | exact (((x_L.alloc _).alloc _).alloc _).keep hb14
              have y_Q : RdB w14 (some ⟨gp, 0, none⟩) ups := by first | exact x_Q.keep hb14 | exact (x_Q.alloc _).keep hb14 | exact ((x_Q.alloc _).alloc _).keep hb14 | exact (((x_Q.alloc _).alloc _).alloc _).keep hb14
              clear x_P x_A x_B x_R x_E x_L x_Q
              have x_P := y_P
              have x_A := y_A
              have x_B := y_B
              have x_R := y_R
              have x_E := y_E
              have x_L := y_L
              have x_Q := y_Q
              clear y_P y_A y_B y_R y_E y_L y_Q
              go_wp2_with fail
              refine (compareL _ _ lbs fin nl _ nf _ (-1) _ x_L ka Hnl.out Hnf.out (Hcf.out hpp)).mono ?_
              rintro e w15 ⟨rfl, hb15⟩
              have hB2 : Below w.heap.size w w15 := by first | exact chain0 hB hb15 | exact chain1 hB hb15 | exact chain2 hB hb15 | exact chain3 hB hb15
              clear hB
              have hB := hB2
              clear hB2
              have y_P : RdB w15 pa ups := by first | exact x_P.keep hb15 | exact (x_P.alloc _).keep hb15 | exact ((x_P.alloc _).alloc _).keep hb15 | exact (((x_P.alloc _).alloc _).alloc _).keep hb15
              have y_A : RdB w15 pa9 as_ := by first | exact x_A.keep hb15 | exact (x_A.alloc _).keep hb15 | exact ((x_A.alloc _).alloc _).keep hb15 | exact (((x_A.alloc _).alloc _).alloc _).keep hb15
              have y_B : RdB w15 none bs := by first | exact x_B.keep hb15 | exact (x_B.alloc _).keep hb15 | exact ((x_B.alloc _).alloc _).keep hb15 | exact (((x_B.alloc _).alloc _).alloc _).keep hb15
              have y_R : Rd w15 (some ⟨bA, oA, none⟩) (vsP ps) := by first | exact x_R.keep hb15 | exact (x_R.alloc _).keep hb15 | exact ((x_R.alloc _).alloc _).keep hb15 | exact (((x_R.alloc _).alloc _).alloc _).keep hb15
              have y_E : PcE w15 ps := by first | exact x_E.keep hb15 | exact (x_E.alloc _).keep hb15 | exact ((x_E.alloc _).alloc _).keep hb15 | exact (((x_E.alloc _).alloc _).alloc _).keep hb15
              have y_L : RdB w15 (some ⟨g, 0, none⟩) lbs := by first | exact x_L.keep hb15 | exact (x_L.alloc _).keep hb15 | exact ((x_L.alloc _).alloc _).keep hb15 | exact (((x_L.alloc _).alloc _).alloc _).keep hb15
              have y_Q : RdB w15 (some ⟨gp, 0, none⟩) ups := by first | exact x_Q.keep hb15 | exact (x_Q.alloc _).keep hb15 | exact ((x_Q.alloc _).alloc _).keep hb15 | exact (((x_Q.alloc _).alloc _).alloc _).keep hb15
              clear x_P x_A x_B x_R x_E x_L x_Q
              have x_P := y_P
              have x_A := y_A
              have x_B := y_B
              have x_R := y_R
              have x_E := y_E
              have x_L := y_L
              have x_Q := y_Q
              clear y_P y_A y_B y_R y_E y_L y_Q
              clear ka
              go_wp2_with fail
              clear hm1 hm2 hm2b hm3
              obtain ⟨V, hV⟩ : ∃ V, V = Value.slice (some ⟨g, 0, none⟩) nl cap := ⟨_, rfl⟩
              obtain ⟨T, hT⟩ : ∃ T, T = (vsP ps).take k ++ [V] ++ (vsP ps).drop k := ⟨_, rfl⟩
              have hnps : (vsP ps).length = j := by
                have := congrArg List.length HG.out.pcs
                simp only [List.length_map] at this
                rw [vsP, List.length_map, this, HG.out.len]
              obtain ⟨aT, slT, rdT⟩ := run_slTo (some ⟨bA, oA, none⟩) (vsP ps) j c k w15 x_R hnps.symm (by omega) HG.out.cap
              obtain ⟨aF, slF, rdF⟩ := run_slFrom (some ⟨bA, oA, none⟩) (vsP ps) j c k w15 x_R hnps.symm (by omega) HG.out.cap
              have hone : ∀ u ∈ vsP ps, u.oneCell' = true := by
                intro u hu
                obtain ⟨q, _, rfl⟩ := List.mem_map.1 hu
                rfl
              have htk : ((vsP ps).take k).length = k := by rw [List.length_take, hnps]; omega
              have hTk : ∀ i, i < k → T[i]? = ((vsP ps).take k)[i]? := fun i hi => by
                rw [hT, List.append_assoc, List.getElem?_append_left (by rw [htk]; exact hi)]
              have hTV : T[k]? = some V := by
                rw [hT, List.append_assoc, List.getElem?_append_right (by rw [htk]; exact Nat.le_refl _), htk, Nat.sub_self]; rfl
              have hx1 : ∀ i u, ((vsP ps).take k)[i]? = some u → i < k ∨ T[i]? = some u := fun i u hu => .inl (by
                have := (List.getElem?_eq_some_iff.1 hu).1
                rw [htk] at this; exact this)
              have hx2 : ∀ i u, [V][i]? = some u → i < k ∨ T[i]? = some u := fun i u hu => by
                match i, hu with
                | 0, hu =>
                  by_cases h0 : 0 < k
                  · exact .inl h0
                  · have h1 : k = 0 := by omega
                    rw [h1] at hTV
                    rw [hTV]; exact .inr hu
              have hx4 : ∀ i u, ((vsP ps).take k ++ [V] ++ (vsP ps).drop k)[i]? = some u → i < k ∨ T[i]? = some u := fun i u hu => .inr (by rw [hT]; exact hu)
              have hx3 : ∀ i u, ((vsP ps).take k ++ [V])[i]? = some u → i < k ∨ T[i]? = some u := fun i u hu => .inr (by
                rw [hT, List.getElem?_append_left (List.getElem?_eq_some_iff.1 hu).1]; exact hu)
              have hdT : ∀ i u, ((vsP ps).drop k)[i]? = some u → T[k + 1 + i]? = some u := fun i u hu => by
                rw [hT, List.getElem?_append_right (by rw [List.length_append, htk]; simp), List.length_append, htk]
                simpa using hu
              have hBn : ∀ W, RL w15.heap.size T k w15.drew W → Below w15.heap.size w15 W := fun W h => ⟨h.be.os, h.be.tape, h.be.output, h.be.size, h.be.block⟩
              refine RV.wp_region_facts (R := RL w15.heap.size T k) [row0 w15.heap.size T k 169, eqL w15.heap.size T k 170 (.slice (some ⟨bA, oA, none⟩) j c), eqL w15.heap.size T k 171 (.int .i64 k), eqL w15.heap.size T k 172 (.slice aT k c), rowL w15.heap.size T k 173 k ((vsP ps).take k) hx1,
                eqL w15.heap.size T k 174 V, rowL w15.heap.size T k 175 1 [V] hx2, rowL w15.heap.size T k 176 (k + 1) ((vsP ps).take k ++ [V]) hx3, eqL w15.heap.size T k 177 (.slice (some ⟨bA, oA, none⟩) j c), eqL w15.heap.size T k 178 (.int .i64 k), eqL w15.heap.size T k 179 (.slice aF (j - k) (c - k)),
                rowL w15.heap.size T k 180 (k + 1 + (j - k)) ((vsP ps).take k ++ [V] ++ (vsP ps).drop k) hx4, rowL w15.heap.size T k 6 (k + 1 + (j - k)) ((vsP ps).take k ++ [V] ++ (vsP ps).drop k) hx4] (by kernel_rfl) (by kernel_rfl) (by kernel_rfl) (RL.refl (Nat.le_refl _)) (fun _ h => h.again) (fun _ _ _ h k => h.trans k) ?_ ?_
              · refine RV.stepsU_cons rfl ?_ (RV.stepsU_cons rfl ?_ (RV.stepsU_cons rfl ?_ (RV.stepsU_cons rfl ?_ (RV.stepsU_cons rfl ?_ (RV.stepsU_cons rfl ?_ (RV.stepsU_cons rfl ?_ (RV.stepsU_cons rfl ?_ (RV.stepsU_cons rfl ?_ (RV.stepsU_cons rfl ?_ (RV.stepsU_cons rfl ?_ (RV.stepsU_cons rfl ?_ (RV.stepsU_cons rfl ?_ RV.stepsU_nil))))))))))))
                · refine RV.stepU_plain rfl fun u wr hR hK hD => ?_; exact upon_build0L rfl ⟨hR.next ((Below.refl _ _).alloc (Nat.le_refl _) _), ⟨_, rfl⟩, rfl, .inr ⟨_, 0, #[], rfl, Nat.le_trans hR.hB hR.be.size, heap_alloc_new _ _, Nat.le_refl _, by decide, rfl, rfl⟩⟩
                · refine RV.stepU_plain rfl fun u wr hR hK hD => ?_; exact upon_move _ _ rfl (hK 6 rfl) ⟨hR.again, rfl⟩
                · refine RV.stepU_plain rfl fun u wr hR hK hD => ?_; exact upon_move _ _ rfl (hK 8 rfl) ⟨hR.again, rfl⟩
                · refine RV.stepU_plain rfl fun u wr hR hK hD => ?_; have z1 : u 170 = _ := hD 1 rfl; have z2 : u 171 = _ := hD 2 rfl; exact upon_val _ (by unfold execOp; simp [go_sem, evU, z1, z2, slT]) ⟨hR.again, rfl⟩
                · refine RV.stepU_plain rfl fun u wr hR hK hD => ?_
                  obtain ⟨⟨a9, z1⟩, z2⟩ := hD 0 rfl
                  have z3 : u 172 = _ := hD 3 rfl
                  obtain ⟨v, w2, q1, q2, q3⟩ := run_appL (u 169) 0 [] ((vsP ps).take k) aT k c _ hR z2 (rdT wr (x_R.keep (hBn wr hR))) htk.symm (fun u hu => hone u (List.mem_of_mem_take hu)) (by
                    by_cases h0 : (vsP ps).take k = []
                    · exact .inr (.inl h0)
                    · have := List.length_pos_iff.2 h0
                      exact .inr (.inr ⟨a9, 0, z1, by omega⟩)) (fun i u hu => by rw [Nat.zero_add, hTk i (by have := (List.getElem?_eq_some_iff.1 hu).1; rw [htk] at this; exact this)]; exact hu) (by omega)
                  rw [Nat.zero_add, List.nil_append] at q2
                  exact upon_append _ _ 25 _ _ _ _ rfl rfl z3 q1 ⟨q3, q2⟩
                · refine RV.stepU_plain rfl fun u wr hR hK hD => ?_; exact upon_move _ _ rfl (hK 11 rfl) ⟨hR.again, hV.symm⟩
                · refine RV.stepU_plain rfl fun u wr hR hK hD => ?_; have z1 : u 174 = _ := hD 5 rfl; exact upon_build1L _ _ _ _ rfl (z1.trans hV) ⟨hR.next ((Below.refl _ _).alloc (Nat.le_refl _) _), rfl, .inr ⟨_, 1, _, rfl, Nat.le_trans hR.hB hR.be.size, heap_alloc_new _ _, Nat.le_refl _, by decide, rfl, by rw [hV]; rfl⟩⟩
                · refine RV.stepU_plain rfl fun u wr hR hK hD => ?_
                  have z1 := hD 4 rfl
                  have z2 : wr.ownsRow w15.heap.size 22 1 (u 175) 1 [V] := hD 6 rfl
                  obtain ⟨g7, c7, z3, _, _, _⟩ := ow_form z2 (by decide)
                  have z4 := z2
                  rw [z3] at z4
                  obtain ⟨v, w2, q1, q2, q3⟩ := run_appL (u 173) k ((vsP ps).take k) [V] (some ⟨g7, 0, none⟩) 1 c7 _ hR z1 (ow_rd z4) rfl (by intro u hu; simp at hu; subst hu; rw [hV]; rfl) (.inl (Nat.le_refl k)) (fun i u hu => by
                    match i, hu with
                    | 0, hu => rw [Nat.add_zero, hTV]; exact hu) (by omega)
                  exact upon_append _ _ 25 _ _ _ _ rfl rfl z3 q1 ⟨q3, q2⟩
                · refine RV.stepU_plain rfl fun u wr hR hK hD => ?_; exact upon_move _ _ rfl (hK 6 rfl) ⟨hR.again, rfl⟩
                · refine RV.stepU_plain rfl fun u wr hR hK hD => ?_; exact upon_move _ _ rfl (hK 8 rfl) ⟨hR.again, rfl⟩
                · refine RV.stepU_plain rfl fun u wr hR hK hD => ?_; have z1 : u 177 = _ := hD 8 rfl; have z2 : u 178 = _ := hD 9 rfl; exact upon_val _ (by unfold execOp; simp [go_sem, evU, z1, z2, slF]) ⟨hR.again, rfl⟩
                · refine RV.stepU_plain rfl fun u wr hR hK hD => ?_
                  have z1 := hD 7 rfl
                  have z3 : u 179 = _ := hD 10 rfl
                  obtain ⟨v, w2, q1, q2, q3⟩ := run_appL (u 176) (k + 1) ((vsP ps).take k ++ [V]) ((vsP ps).drop k) aF (j - k) (c - k) _ hR z1 (rdF wr (x_R.keep (hBn wr hR))) (by rw [List.length_drop, hnps]) (fun u hu => hone u (List.mem_of_mem_drop hu)) (.inl (by omega)) hdT (by omega)
                  exact upon_append _ _ 25 _ _ _ _ rfl rfl z3 q1 ⟨q3, q2⟩
                · refine RV.stepU_plain rfl fun u wr hR hK hD => ?_; exact upon_assign _ _ rfl rfl ⟨hR.again, hD 11 rfl⟩
              intro u w16 hR hF
              have e6 : w16.ownsRow w15.heap.size 22 1 (u 6) (k + 1 + (j - k)) ((vsP ps).take k ++ [V] ++ (vsP ps).drop k) := hF 12 (by decide)
              obtain ⟨g6, c6, hv6, _, _, hc6⟩ := ow_form e6 (by omega)
              rw [hv6] at e6
              have hrd6 := ow_rd e6
              have hb16 := hBn w16 hR
              rw [show k + 1 + (j - k) = j + 1 from by omega] at hv6 hc6
              have hB16 := chain0 hB hb16
              have hGn : Go4 w w16 pa ups pp (some ⟨g6, 0, none⟩) (j + 1) c6 (ss.take k ++ [x] ++ ss.drop k) (ps.take k ++ [(some ⟨g, 0, none⟩, cap, lbs)] ++ ps.drop k) := by
                have hl := HG.out.len
                refine ⟨Hins.out (by rw [← Hhr.out]; exact hr4), ?_, hc6, ?_, ?_, ?_, x_P.keep hb16, hB16⟩
                · simp only [List.length_append, List.length_take, List.length_drop, List.length_cons, List.length_nil]; omega
                · simp only [List.map_append, List.map_take, List.map_drop, HG.out.pcs, List.map_cons, List.map_nil]
                  rw [Hlbs.out, Hhr.out]
                · have : vsP (ps.take k ++ [(some ⟨g, 0, none⟩, cap, lbs)] ++ ps.drop k) = (vsP ps).take k ++ [V] ++ (vsP ps).drop k := by
                    rw [hV, Hnl.out]
                    simp [vsP, List.map_take, List.map_drop]
                  rw [this]; exact hrd6
                · intro q hq
                  simp only [List.append_assoc, List.mem_append, List.mem_singleton] at hq
                  rcases hq with hq | rfl | hq
                  · exact (x_E q (List.mem_of_mem_take hq)).keep hb16
                  · exact x_L.keep hb16
                  · exact (x_E q (List.mem_of_mem_drop hq)).keep hb16
              simp only [finU, Act.put, List.setIfInBounds_toArray, List.set_cons_succ, List.set_cons_zero, hv6]
              clear hF hR e6 hrd6 slT slF rdT rdF hone hTk hx1 hx2 hx3 hx4 hdT hBn hT
              go_wp2
              go_roundw
              case rel => exact ⟨i + 1, _, j + 1, c6, _, _, by omega, by omega, by go_num, rfl, hGn⟩
              case measure => simp [intOf]; omega
        · have hkd : decide (k < j) = true := decide_eq_true hkj
          subst ha
          injection ha' with ha'
          injection ha' with e1 e2
          subst e1 e2
          have ixB := Hix.out k hkj bA oA
          have x_P : RdB wr pa ups := x_P
          have x_A : RdB wr pa9 as_ := x_A
          have x_B : RdB wr pb9 bs := x_B
          have x_R : Rd wr (some ⟨bA, oA, none⟩) (vsP ps) := x_R
          have x_E : PcE wr ps := x_E
          go_wp2_with fail
          refine (Hbet.out _ x_P x_A x_B).mono ?_
          rintro e w4 (⟨hr4, g, cap, rfl, hl4, hb4⟩ | ⟨hr4, rfl, hb4⟩)
          rotate_left
          · have hB2 : Below w.heap.size w w4 := by first | exact chain0 hB hb4 | exact chain1 hB hb4 | exact chain2 hB hb4 | exact chain3 hB hb4
            clear hB
            have hB := hB2
            clear hB2
            have y_P : RdB w4 pa ups := by first | exact x_P.keep hb4 | exact (x_P.alloc _).keep hb4 | exact ((x_P.alloc _).alloc _).keep hb4 | exact (((x_P.alloc _).alloc _).alloc _).keep hb4
            have y_A : RdB w4 pa9 as_ := by first | exact x_A.keep hb4 | exact (x_A.alloc _).keep hb4 | exact ((x_A.alloc _).alloc _).keep hb4 | exact (((x_A.alloc _).alloc _).alloc _).keep hb4
            have y_B : RdB w4 pb9 bs := by first | exact x_B.keep hb4 | exact (x_B.alloc _).keep hb4 | exact ((x_B.alloc _).alloc _).keep hb4 | exact (((x_B.alloc _).alloc _).alloc _).keep hb4
            have y_R : Rd w4 (some ⟨bA, oA, none⟩) (vsP ps) := by first | exact x_R.keep hb4 | exact (x_R.alloc _).keep hb4 | exact ((x_R.alloc _).alloc _).keep hb4 | exact (((x_R.alloc _).alloc _).alloc _).keep hb4
            have y_E : PcE w4 ps := by first | exact x_E.keep hb4 | exact (x_E.alloc _).keep hb4 | exact ((x_E.alloc _).alloc _).keep hb4 | exact (((x_E.alloc _).alloc _).alloc _).keep hb4
            clear x_P x_A x_B x_R x_E
            have x_P := y_P
            have x_A := y_A
            have x_B := y_B
            have x_R := y_R
            have x_E := y_E
            clear y_P y_A y_B y_R y_E
            have t := Hlong.out hr4
            by_cases t1 : (120 : Int) < len0
            · go_wp2
              go_ret
              exact ⟨rfl, hB⟩
            · by_cases t2 : (120 : Int) < ((la : Nat) : Int)
              · first
                  | (exfalso; omega)
                  | (go_wp2
                     go_ret
                     exact ⟨rfl, hB⟩)
              · have t3 : (120 : Int) < ((lb : Nat) : Int) := by omega
                first
                  | (exfalso; omega)
                  | (go_wp2
                     go_ret
                     exact ⟨rfl, hB⟩)
          · have hB2 : Below w.heap.size w w4 := by first | exact chain0 hB hb4 | exact chain1 hB hb4 | exact chain2 hB hb4 | exact chain3 hB hb4
            clear hB
            have hB := hB2
            clear hB2
            have y_P : RdB w4 pa ups := by first | exact x_P.keep hb4 | exact (x_P.alloc _).keep hb4 | exact ((x_P.alloc _).alloc _).keep hb4 | exact (((x_P.alloc _).alloc _).alloc _).keep hb4
            have y_A : RdB w4 pa9 as_ := by first | exact x_A.keep hb4 | exact (x_A.alloc _).keep hb4 | exact ((x_A.alloc _).alloc _).keep hb4 | exact (((x_A.alloc _).alloc _).alloc _).keep hb4
            have y_B : RdB w4 pb9 bs := by first | exact x_B.keep hb4 | exact (x_B.alloc _).keep hb4 | exact ((x_B.alloc _).alloc _).keep hb4 | exact (((x_B.alloc _).alloc _).alloc _).keep hb4
            have y_R : Rd w4 (some ⟨bA, oA, none⟩) (vsP ps) := by first | exact x_R.keep hb4 | exact (x_R.alloc _).keep hb4 | exact ((x_R.alloc _).alloc _).keep hb4 | exact (((x_R.alloc _).alloc _).alloc _).keep hb4
            have y_E : PcE w4 ps := by first | exact x_E.keep hb4 | exact (x_E.alloc _).keep hb4 | exact ((x_E.alloc _).alloc _).keep hb4 | exact (((x_E.alloc _).alloc _).alloc _).keep hb4
            clear x_P x_A x_B x_R x_E
            have x_P := y_P
            have x_A := y_A
            have x_B := y_B
            have x_R := y_R
            have x_E := y_E
            clear y_P y_A y_B y_R y_E
            have x_L : RdB w4 (some ⟨g, 0, none⟩) lbs := hl4
            have Hi5 := hide (HisL.out hr4)
            have hnl5 := Hnl128.out hr4
            have hb4' := hb4
            clear hl4 hb4 hb4'
            go_wp2_with fail
            refine (parentQ _ lbs ups pp x nl _ len0 _ x_L Hnl.out (by omega) Hi5.out Hp.out Hl0.out).mono ?_
            rintro e w5 ⟨gp, cp, rfl, kp, hb5⟩
            have hB2 : Below w.heap.size w w5 := by first | exact chain0 hB hb5 | exact chain1 hB hb5 | exact chain2 hB hb5 | exact chain3 hB hb5
            clear hB
            have hB := hB2
            clear hB2
            have y_P : RdB w5 pa ups := by first | exact x_P.keep hb5 | exact (x_P.alloc _).keep hb5 | exact ((x_P.alloc _).alloc _).keep hb5 | exact (((x_P.alloc _).alloc _).alloc _).keep hb5
            have y_A : RdB w5 pa9 as_ := by first | exact x_A.keep hb5 | exact (x_A.alloc _).keep hb5 | exact ((x_A.alloc _).alloc _).keep hb5 | exact (((x_A.alloc _).alloc _).alloc _).keep hb5
            have y_B : RdB w5 pb9 bs := by first | exact x_B.keep hb5 | exact (x_B.alloc _).keep hb5 | exact ((x_B.alloc _).alloc _).keep hb5 | exact (((x_B.alloc _).alloc _).alloc _).keep hb5
            have y_R : Rd w5 (some ⟨bA, oA, none⟩) (vsP ps) := by first | exact x_R.keep hb5 | exact (x_R.alloc _).keep hb5 | exact ((x_R.alloc _).alloc _).keep hb5 | exact (((x_R.alloc _).alloc _).alloc _).keep hb5
            have y_E : PcE w5 ps := by first | exact x_E.keep hb5 | exact (x_E.alloc _).keep hb5 | exact ((x_E.alloc _).alloc _).keep hb5 | exact (((x_E.alloc _).alloc _).alloc _).keep hb5
            have y_L : RdB w5 (some ⟨g, 0, none⟩) lbs := by first | exact x_L.keep hb5 | exact (x_L.alloc _).keep hb5 | exact ((x_L.alloc _).alloc _).keep hb5 | exact (((x_L.alloc _).alloc _).alloc _).keep hb5
            clear x_P x_A x_B x_R x_E x_L
            have x_P := y_P
            have x_A := y_A
            have x_B := y_B
            have x_R := y_R
            have x_E := y_E
            have x_L := y_L
            clear y_P y_A y_B y_R y_E y_L
            have x_Q : RdB w5 (some ⟨gp, 0, none⟩) ups := kp
            clear kp
            go_wp2_with fail
            refine (sameT _ _ ups len0 _ len0 _ _ x_Q x_P Hl0.out Hl0.out (by omega)).mono ?_
            rintro e w6 ⟨rfl, hb6⟩
            have hB2 : Below w.heap.size w w6 := by first | exact chain0 hB hb6 | exact chain1 hB hb6 | exact chain2 hB hb6 | exact chain3 hB hb6
            clear hB
            have hB := hB2
            clear hB2
            have y_P : RdB w6 pa ups := by first | exact x_P.keep hb6 | exact (x_P.alloc _).keep hb6 | exact ((x_P.alloc _).alloc _).keep hb6 | exact (((x_P.alloc _).alloc _).alloc _).keep hb6
            have y_A : RdB w6 pa9 as_ := by first | exact x_A.keep hb6 | exact (x_A.alloc _).keep hb6 | exact ((x_A.alloc _).alloc _).keep hb6 | exact (((x_A.alloc _).alloc _).alloc _).keep hb6
            have y_B : RdB w6 pb9 bs := by first | exact x_B.keep hb6 | exact (x_B.alloc _).keep hb6 | exact ((x_B.alloc _).alloc _).keep hb6 | exact (((x_B.alloc _).alloc _).alloc _).keep hb6
            have y_R : Rd w6 (some ⟨bA, oA, none⟩) (vsP ps) := by first | exact x_R.keep hb6 | exact (x_R.alloc _).keep hb6 | exact ((x_R.alloc _).alloc _).keep hb6 | exact (((x_R.alloc _).alloc _).alloc _).keep hb6
            have y_E : PcE w6 ps := by first | exact x_E.keep hb6 | exact (x_E.alloc _).keep hb6 | exact ((x_E.alloc _).alloc _).keep hb6 | exact (((x_E.alloc _).alloc _).alloc _).keep hb6
            have y_L : RdB w6 (some ⟨g, 0, none⟩) lbs := by first | exact x_L.keep hb6 | exact (x_L.alloc _).keep hb6 | exact ((x_L.alloc _).alloc _).keep hb6 | exact (((x_L.alloc _).alloc _).alloc _).keep hb6
            have y_Q : RdB w6 (some ⟨gp, 0, none⟩) ups := by first | exact x_Q.keep hb6 | exact (x_Q.alloc _).keep hb6 | exact ((x_Q.alloc _).alloc _).keep hb6 | exact (((x_Q.alloc _).alloc _).alloc _).keep hb6
            clear x_P x_A x_B x_R x_E x_L x_Q
            have x_P := y_P
            have x_A := y_A
            have x_B := y_B
            have x_R := y_R
            have x_E := y_E
            have x_L := y_L
            have x_Q := y_Q
            clear y_P y_A y_B y_R y_E y_L y_Q
            go_wp2_with fail
            refine (right_yesL _ lbs (pp ++ [x]) nl _ _ x_L Hnl.out (by omega) Hi5.out).mono ?_
            rintro e w7 ⟨rfl, hb7⟩
            have hB2 : Below w.heap.size w w7 := by first | exact chain0 hB hb7 | exact chain1 hB hb7 | exact chain2 hB hb7 | exact chain3 hB hb7
            clear hB
            have hB := hB2
            clear hB2
            have y_P : RdB w7 pa ups := by first | exact x_P.keep hb7 | exact (x_P.alloc _).keep hb7 | exact ((x_P.alloc _).alloc _).keep hb7 | exact (((x_P.alloc _).alloc _).alloc _).keep hb7
            have y_A : RdB w7 pa9 as_ := by first | exact x_A.keep hb7 | exact (x_A.alloc _).keep hb7 | exact ((x_A.alloc _).alloc _).keep hb7 | exact (((x_A.alloc _).alloc _).alloc _).keep hb7
            have y_B : RdB w7 pb9 bs := by first | exact x_B.keep hb7 | exact (x_B.alloc _).keep hb7 | exact ((x_B.alloc _).alloc _).keep hb7 | exact (((x_B.alloc _).alloc _).alloc _).keep hb7
            have y_R : Rd w7 (some ⟨bA, oA, none⟩) (vsP ps) := by first | exact x_R.keep hb7 | exact (x_R.alloc _).keep hb7 | exact ((x_R.alloc _).alloc _).keep hb7 | exact (((x_R.alloc _).alloc _).alloc _).keep hb7
            have y_E : PcE w7 ps := by first | exact x_E.keep hb7 | exact (x_E.alloc _).keep hb7 | exact ((x_E.alloc _).alloc _).keep hb7 | exact (((x_E.alloc _).alloc _).alloc _).keep hb7
            have y_L : RdB w7 (some ⟨g, 0, none⟩) lbs := by first | exact x_L.keep hb7 | exact (x_L.alloc _).keep hb7 | exact ((x_L.alloc _).alloc _).keep hb7 | exact (((x_L.alloc _).alloc _).alloc _).keep hb7
            have y_Q : RdB w7 (some ⟨gp, 0, none⟩) ups := by first | exact x_Q.keep hb7 | exact (x_Q.alloc _).keep hb7 | exact ((x_Q.alloc _).alloc _).keep hb7 | exact (((x_Q.alloc _).alloc _).alloc _).keep hb7
            clear x_P x_A x_B x_R x_E x_L x_Q
            have x_P := y_P
            have x_A := y_A
            have x_B := y_B
            have x_R := y_R
            have x_E := y_E
            have x_L := y_L
            have x_Q := y_Q
            clear y_P y_A y_B y_R y_E y_L y_Q
            go_wp2_with fail
            refine (levelQ _ lbs (pp ++ [x]) nl _ ((lv : Int) + 1) _ x_L Hnl.out (by omega) Hi5.out Hlv1.out).mono ?_
            rintro e w8 ⟨rfl, hb8⟩
            have hB2 : Below w.heap.size w w8 := by first | exact chain0 hB hb8 | exact chain1 hB hb8 | exact chain2 hB hb8 | exact chain3 hB hb8
            clear hB
            have hB := hB2
            clear hB2
            have y_P : RdB w8 pa ups := by first | exact x_P.keep hb8 | exact (x_P.alloc _).keep hb8 | exact ((x_P.alloc _).alloc _).keep hb8 | exact (((x_P.alloc _).alloc _).alloc _).keep hb8
            have y_A : RdB w8 pa9 as_ := by first | exact x_A.keep hb8 | exact (x_A.alloc _).keep hb8 | exact ((x_A.alloc _).alloc _).keep hb8 | exact (((x_A.alloc _).alloc _).alloc _).keep hb8
            have y_B : RdB w8 pb9 bs := by first | exact x_B.keep hb8 | exact (x_B.alloc _).keep hb8 | exact ((x_B.alloc _).alloc _).keep hb8 | exact (((x_B.alloc _).alloc _).alloc _).keep hb8
            have y_R : Rd w8 (some ⟨bA, oA, none⟩) (vsP ps) := by first | exact x_R.keep hb8 | exact (x_R.alloc _).keep hb8 | exact ((x_R.alloc _).alloc _).keep hb8 | exact (((x_R.alloc _).alloc _).alloc _).keep hb8
            have y_E : PcE w8 ps := by first | exact x_E.keep hb8 | exact (x_E.alloc _).keep hb8 | exact ((x_E.alloc _).alloc _).keep hb8 | exact (((x_E.alloc _).alloc _).alloc _).keep hb8
            have y_L : RdB w8 (some ⟨g, 0, none⟩) lbs := by first | exact x_L.keep hb8 | exact (x_L.alloc _).keep hb8 | exact ((x_L.alloc _).alloc _).keep hb8 | exact (((x_L.alloc _).alloc _).alloc _).keep hb8
            have y_Q : RdB w8 (some ⟨gp, 0, none⟩) ups := by first | exact x_Q.keep hb8 | exact (x_Q.alloc _).keep hb8 | exact ((x_Q.alloc _).alloc _).keep hb8 | exact (((x_Q.alloc _).alloc _).alloc _).keep hb8
            clear x_P x_A x_B x_R x_E x_L x_Q
            have x_P := y_P
            have x_A := y_A
            have x_B := y_B
            have x_R := y_R
            have x_E := y_E
            have x_L := y_L
            have x_Q := y_Q
            clear y_P y_A y_B y_R y_E y_L y_Q
            go_wp2_with fail
            refine (levelQ _ ups pp len0 _ (lv : Int) _ x_P Hl0.out (by omega) Hp.out (by rw [Hlv.out])).mono ?_
            rintro e w9 ⟨rfl, hb9⟩
            have hB2 : Below w.heap.size w w9 := by first | exact chain0 hB hb9 | exact chain1 hB hb9 | exact chain2 hB hb9 | exact chain3 hB hb9
            clear hB
            have hB := hB2
            clear hB2
            have y_P : RdB w9 pa ups := by first | exact x_P.keep hb9 | exact (x_P.alloc _).keep hb9 | exact ((x_P.alloc _).alloc _).keep hb9 | exact (((x_P.alloc _).alloc _).alloc _).keep hb9
            have y_A : RdB w9 pa9 as_ := by first | exact x_A.keep hb9 | exact (x_A.alloc _).keep hb9 | exact ((x_A.alloc _).alloc _).keep hb9 | exact (((x_A.alloc _).alloc _).alloc _).keep hb9
            have y_B : RdB w9 pb9 bs := by first | exact x_B.keep hb9 | exact (x_B.alloc _).keep hb9 | exact ((x_B.alloc _).alloc _).keep hb9 | exact (((x_B.alloc _).alloc _).alloc _).keep hb9
            have y_R : Rd w9 (some ⟨bA, oA, none⟩) (vsP ps) := by first | exact x_R.keep hb9 | exact (x_R.alloc _).keep hb9 | exact ((x_R.alloc _).alloc _).keep hb9 | exact (((x_R.alloc _).alloc _).alloc _).keep hb9
            have y_E : PcE w9 ps := by first | exact x_E.keep hb9 | exact (x_E.alloc _).keep hb9 | exact ((x_E.alloc _).alloc _).keep hb9 | exact (((x_E.alloc _).alloc _).alloc _).keep hb9
            have y_L : RdB w9 (some ⟨g, 0, none⟩) lbs := by first | exact x_L.keep hb9 | exact (x_L.alloc _).keep hb9 | exact ((x_L.alloc _).alloc _).keep hb9 | exact (((x_L.alloc _).alloc _).alloc _).keep hb9
            have y_Q : RdB w9 (some ⟨gp, 0, none⟩) ups := by first | exact x_Q.keep hb9 | exact (x_Q.alloc _).keep hb9 | exact ((x_Q.alloc _).alloc _).keep hb9 | exact (((x_Q.alloc _).alloc _).alloc _).keep hb9
            clear x_P x_A x_B x_R x_E x_L x_Q
            have x_P := y_P
            have x_A := y_A
            have x_B := y_B
            have x_R := y_R
            have x_E := y_E
            have x_L := y_L
            have x_Q := y_Q
            clear y_P y_A y_B y_R y_E y_L y_Q
            go_wp2_with fail
            refine (above_both _ _ ups lbs pp (pp ++ [x]) len0 _ nl _ true _ x_P x_L Hl0.out Hnl.out (by omega) (by omega) Hp.out Hi5.out Habv.out).mono ?_
            rintro e w10 ⟨rfl, hb10⟩
            have hB2 : Below w.heap.size w w10 := by first | exact chain0 hB hb10 | exact chain1 hB hb10 | exact chain2 hB hb10 | exact chain3 hB hb10
            clear hB
            have hB := hB2
            clear hB2
            have y_P : RdB w10 pa ups := by first | exact x_P.keep hb10 | exact (x_P.alloc _).keep hb10 | exact ((x_P.alloc _).alloc _).keep hb10 | exact (((x_P.alloc _).alloc _).alloc _).keep hb10
            have y_A : RdB w10 pa9 as_ := by first | exact x_A.keep hb10 | exact (x_A.alloc _).keep hb10 | exact ((x_A.alloc _).alloc _).keep hb10 | exact (((x_A.alloc _).alloc _).alloc _).keep hb10
            have y_B : RdB w10 pb9 bs := by first | exact x_B.keep hb10 | exact (x_B.alloc _).keep hb10 | exact ((x_B.alloc _).alloc _).keep hb10 | exact (((x_B.alloc _).alloc _).alloc _).keep hb10
            have y_R : Rd w10 (some ⟨bA, oA, none⟩) (vsP ps) := by first | exact x_R.keep hb10 | exact (x_R.alloc _).keep hb10 | exact ((x_R.alloc _).alloc _).keep hb10 | exact (((x_R.alloc _).alloc _).alloc _).keep hb10
            have y_E : PcE w10 ps := by first | exact x_E.keep hb10 | exact (x_E.alloc _).keep hb10 | exact ((x_E.alloc _).alloc _).keep hb10 | exact (((x_E.alloc _).alloc _).alloc _).keep hb10
            have y_L : RdB w10 (some ⟨g, 0, none⟩) lbs := by first | exact x_L.keep hb10 | exact (x_L.alloc _).keep hb10 | exact ((x_L.alloc _).alloc _).keep hb10 | exact (((x_L.alloc _).alloc _).alloc _).keep hb10
            have y_Q : RdB w10 (some ⟨gp, 0, none⟩) ups := by first | exact x_Q.keep hb10 | exact (x_Q.alloc _).keep hb10 | exact ((x_Q.alloc _).alloc _).keep hb10 | exact (((x_Q.alloc _).alloc _).alloc _).keep hb10
            clear x_P x_A x_B x_R x_E x_L x_Q
            have x_P := y_P
            have x_A := y_A
            have x_B := y_B
            have x_R := y_R
            have x_E := y_E
            have x_L := y_L
            have x_Q := y_Q
            clear y_P y_A y_B y_R y_E y_L y_Q
            go_wp2_with fail
            refine (compareL _ _ as_ lbs la _ nl _ (-1) _ x_A x_L Hla9.out Hnl.out (Hca.out hk0)).mono ?_
            rintro e w11 ⟨rfl, hb11⟩
            have hB2 : Below w.heap.size w w11 := by first | exact chain0 hB hb11 | exact chain1 hB hb11 | exact chain2 hB hb11 | exact chain3 hB hb11
            clear hB
            have hB := hB2
            clear hB2
            have y_P : RdB w11 pa ups := by first | exact x_P.keep hb11 | exact (x_P.alloc _).keep hb11 | exact ((x_P.alloc _).alloc _).keep hb11 | exact (((x_P.alloc _).alloc _).alloc _).keep hb11
            have y_A : RdB w11 pa9 as_ := by first | exact x_A.keep hb11 | exact (x_A.alloc _).keep hb11 | exact ((x_A.alloc _).alloc _).keep hb11 | exact (((x_A.alloc _).alloc _).alloc _).keep hb11
            have y_B : RdB w11 pb9 bs := by first | exact x_B.keep hb11 | exact (x_B.alloc _).keep hb11 | exact ((x_B.alloc _).alloc _).keep hb11 | exact (((x_B.alloc _).alloc _).alloc _).keep hb11
            have y_R : Rd w11 (some ⟨bA, oA, none⟩) (vsP ps) := by first | exact x_R.keep hb11 | exact (x_R.alloc _).keep hb11 | exact ((x_R.alloc _).alloc _).keep hb11 | exact (((x_R.alloc _).alloc _).alloc _).keep hb11
            have y_E : PcE w11 ps := by first | exact x_E.keep hb11 | exact (x_E.alloc _).keep hb11 | exact ((x_E.alloc _).alloc _).keep hb11 | exact (((x_E.alloc _).alloc _).alloc _).keep hb11
            have y_L : RdB w11 (some ⟨g, 0, none⟩) lbs := by first | exact x_L.keep hb11 | exact (x_L.alloc _).keep hb11 | exact ((x_L.alloc _).alloc _).keep hb11 | exact (((x_L.alloc _).alloc _).alloc _).keep hb11
            have y_Q : RdB w11 (some ⟨gp, 0, none⟩) ups := by first | exact x_Q.keep hb11 | exact (x_Q.alloc _).keep hb11 | exact ((x_Q.alloc _).alloc _).keep hb11 | exact (((x_Q.alloc _).alloc _).alloc _).keep hb11
            clear x_P x_A x_B x_R x_E x_L x_Q
            have x_P := y_P
            have x_A := y_A
            have x_B := y_B
            have x_R := y_R
            have x_E := y_E
            have x_L := y_L
            have x_Q := y_Q
            clear y_P y_A y_B y_R y_E y_L y_Q
            go_wp2_with fail
            refine (compareL _ _ lbs bs nl _ lb _ (-1) _ x_L x_B Hnl.out Hlb9.out (Hcb.out hkj)).mono ?_
            rintro e w12 ⟨rfl, hb12⟩
            have hB2 : Below w.heap.size w w12 := by first | exact chain0 hB hb12 | exact chain1 hB hb12 | exact chain2 hB hb12 | exact chain3 hB hb12
            clear hB
            have hB := hB2
            clear hB2
            have y_P : RdB w12 pa ups := by first | exact x_P.keep hb12 | exact (x_P.alloc _).keep hb12 | exact ((x_P.alloc _).alloc _).keep hb12 | exact (((x_P.alloc _).alloc _).alloc _).keep hb12
            have y_A : RdB w12 pa9 as_ := by first | exact x_A.keep hb12 | exact (x_A.alloc _).keep hb12 | exact ((x_A.alloc _).alloc _).keep hb12 | exact (((x_A.alloc _).alloc _).alloc _).keep hb12
            have y_B : RdB w12 pb9 bs := by first | exact x_B.keep hb12 | exact (x_B.alloc _).keep hb12 | exact ((x_B.alloc _).alloc _).keep hb12 | exact (((x_B.alloc _).alloc _).alloc _).keep hb12
            have y_R : Rd w12 (some ⟨bA, oA, none⟩) (vsP ps) := by first | exact x_R.keep hb12 | exact (x_R.alloc _).keep hb12 | exact ((x_R.alloc _).alloc _).keep hb12 | exact (((x_R.alloc _).alloc _).alloc _).keep hb12
            have y_E : PcE w12 ps := by first | exact x_E.keep hb12 | exact (x_E.alloc _).keep hb12 | exact ((x_E.alloc _).alloc _).keep hb12 | exact (((x_E.alloc _).alloc _).alloc _).keep hb12
            have y_L : RdB w12 (some ⟨g, 0, none⟩) lbs := by first | exact x_L.keep hb12 | exact (x_L.alloc _).keep hb12 | exact ((x_L.alloc _).alloc _).keep hb12 | exact (((x_L.alloc _).alloc _).alloc _).keep hb12
            have y_Q : RdB w12 (some ⟨gp, 0, none⟩) ups := by first | exact x_Q.keep hb12 | exact (x_Q.alloc _).keep hb12 | exact ((x_Q.alloc _).alloc _).keep hb12 | exact (((x_Q.alloc _).alloc _).alloc _).keep hb12
            clear x_P x_A x_B x_R x_E x_L x_Q
            have x_P := y_P
            have x_A := y_A
            have x_B := y_B
            have x_R := y_R
            have x_E := y_E
            have x_L := y_L
            have x_Q := y_Q
            clear y_P y_A y_B y_R y_E y_L y_Q
            go_wp2_with fail
            refine (compareL _ _ ups lbs len0 _ nl _ (-1) _ x_P x_L Hl0.out Hnl.out Hcp.out).mono ?_
            rintro e w13 ⟨rfl, hb13⟩
            have hB2 : Below w.heap.size w w13 := by first | exact chain0 hB hb13 | exact chain1 hB hb13 | exact chain2 hB hb13 | exact chain3 hB hb13
            clear hB
            have hB := hB2
            clear hB2
            have y_P : RdB w13 pa ups := by first | exact x_P.keep hb13 | exact (x_P.alloc _).keep hb13 | exact ((x_P.alloc _).alloc _).keep hb13 | exact (((x_P.alloc _).alloc _).alloc _).keep hb13
            have y_A : RdB w13 pa9 as_ := by first | exact x_A.keep hb13 | exact (x_A.alloc _).keep hb13 | exact ((x_A.alloc _).alloc _).keep hb13 | exact (((x_A.alloc _).alloc _).alloc _).keep hb13
            have y_B : RdB w13 pb9 bs := by first | exact x_B.keep hb13 | exact (x_B.alloc _).keep hb13 | exact ((x_B.alloc _).alloc _).keep hb13 | exact (((x_B.alloc _).alloc _).alloc _).keep hb13
            have y_R : Rd w13 (some ⟨bA, oA, none⟩) (vsP ps) := by first | exact x_R.keep hb13 | exact (x_R.alloc _).keep hb13 | exact ((x_R.alloc _).alloc _).keep hb13 | exact (((x_R.alloc _).alloc _).alloc _).keep hb13
            have y_E : PcE w13 ps := by first | exact x_E.keep hb13 | exact (x_E.alloc _).keep hb13 | exact ((x_E.alloc _).alloc _).keep hb13 | exact (((x_E.alloc _).alloc _).alloc _).keep hb13
            have y_L : RdB w13 (some ⟨g, 0, none⟩) lbs := by first | exact x_L.keep hb13 | exact (x_L.alloc _).keep hb13 | exact ((x_L.alloc _).alloc _).keep hb13 | exact (((x_L.alloc _).alloc _).alloc _).keep hb13
            have y_Q : RdB w13 (some ⟨gp, 0, none⟩) ups := by first | exact x_Q.keep hb13 | exact (x_Q.alloc _).keep hb13 | exact ((x_Q.alloc _).alloc _).keep hb13 | exact (((x_Q.alloc _).alloc _).alloc _).keep hb13
            clear x_P x_A x_B x_R x_E x_L x_Q
            have x_P := y_P
            have x_A := y_A
            have x_B := y_B
            have x_R := y_R
            have x_E := y_E
            have x_L := y_L
            have x_Q := y_Q
            clear y_P y_A y_B y_R y_E y_L y_Q
            obtain ⟨hm1, hm2, hm2b, hm3⟩ := Hm.out
            by_cases hpp : pp = []
            · have hz : ¬ (0 : Int) < len0 := by
                rw [Hl0.out, Hp.out.2.2, hpp]; simp [Bm.wr, pkL, nb, wk]
              go_wp2_with fail
              clear hm1 hm2 hm2b hm3
              obtain ⟨V, hV⟩ : ∃ V, V = Value.slice (some ⟨g, 0, none⟩) nl cap := ⟨_, rfl⟩
              obtain ⟨T, hT⟩ : ∃ T, T = (vsP ps).take k ++ [V] ++ (vsP ps).drop k := ⟨_, rfl⟩
              have hnps : (vsP ps).length = j := by
                have := congrArg List.length HG.out.pcs
                simp only [List.length_map] at this
                rw [vsP, List.length_map, this, HG.out.len]
              obtain ⟨aT, slT, rdT⟩ := run_slTo (some ⟨bA, oA, none⟩) (vsP ps) j c k w13 x_R hnps.symm (by omega) HG.out.cap
              obtain ⟨aF, slF, rdF⟩ := run_slFrom (some ⟨bA, oA, none⟩) (vsP ps) j c k w13 x_R hnps.symm (by omega) HG.out.cap
              have hone : ∀ u ∈ vsP ps, u.oneCell' = true := by
                intro u hu
                obtain ⟨q, _, rfl⟩ := List.mem_map.1 hu
                rfl
              have htk : ((vsP ps).take k).length = k := by rw [List.length_take, hnps]; omega
              have hTk : ∀ i, i < k → T[i]? = ((vsP ps).take k)[i]? := fun i hi => by
                rw [hT, List.append_assoc, List.getElem?_append_left (by rw [htk]; exact hi)]
              have hTV : T[k]? = some V := by
                rw [hT, List.append_assoc, List.getElem?_append_right (by rw [htk]; exact Nat.le_refl _), htk, Nat.sub_self]; rfl
              have hx1 : ∀ i u, ((vsP ps).take k)[i]? = some u → i < k ∨ T[i]? = some u := fun i u hu => .inl (by
                have := (List.getElem?_eq_some_iff.1 hu).1
                rw [htk] at this; exact this)
              have hx2 : ∀ i u, [V][i]? = some u → i < k ∨ T[i]? = some u := fun i u hu => by
                match i, hu with
                | 0, hu =>
                  by_cases h0 : 0 < k
                  · exact .inl h0
                  · have h1 : k = 0 := by omega
                    rw [h1] at hTV
                    rw [hTV]; exact .inr hu
              have hx4 : ∀ i u, ((vsP ps).take k ++ [V] ++ (vsP ps).drop k)[i]? = some u → i < k ∨ T[i]? = some u := fun i u hu => .inr (by rw [hT]; exact hu)
              have hx3 : ∀ i u, ((vsP ps).take k ++ [V])[i]? = some u → i < k ∨ T[i]? = some u := fun i u hu => .inr (by
                rw [hT, List.getElem?_append_left (List.getElem?_eq_some_iff.1 hu).1]; exact hu)
              have hdT : ∀ i u, ((vsP ps).drop k)[i]? = some u → T[k + 1 + i]? = some u := fun i u hu => by
                rw [hT, List.getElem?_append_right (by rw [List.length_append, htk]; simp), List.length_append, htk]
                simpa using hu
              have hBn : ∀ W, RL w13.heap.size T k w13.drew W → Below w13.heap.size w13 W := fun W h => ⟨h.be.os, h.be.tape, h.be.output, h.be.size, h.be.block⟩
              refine RV.wp_region_facts (R := RL w13.heap.size T k) [row0 w13.heap.size T k 169, eqL w13.heap.size T k 170 (.slice (some ⟨bA, oA, none⟩) j c), eqL w13.heap.size T k 171 (.int .i64 k), eqL w13.heap.size T k 172 (.slice aT k c), rowL w13.heap.size T k 173 k ((vsP ps).take k) hx1,
                eqL w13.heap.size T k 174 V, rowL w13.heap.size T k 175 1 [V] hx2, rowL w13.heap.size T k 176 (k + 1) ((vsP ps).take k ++ [V]) hx3, eqL w13.heap.size T k 177 (.slice (some ⟨bA, oA, none⟩) j c), eqL w13.heap.size T k 178 (.int .i64 k), eqL w13.heap.size T k 179 (.slice aF (j - k) (c - k)),
                rowL w13.heap.size T k 180 (k + 1 + (j - k)) ((vsP ps).take k ++ [V] ++ (vsP ps).drop k) hx4, rowL w13.heap.size T k 6 (k + 1 + (j - k)) ((vsP ps).take k ++ [V] ++ (vsP ps).drop k) hx4] (by kernel_rfl) (by kernel_rfl) (by kernel_rfl) (RL.refl (Nat.le_refl _)) (fun _ h => h.again) (fun _ _ _ h k => h.trans k) ?_ ?_
              · refine RV.stepsU_cons rfl ?_ (RV.stepsU_cons rfl ?_ (RV.stepsU_cons rfl ?_ (RV.stepsU_cons rfl ?_ (RV.stepsU_cons rfl ?_ (RV.stepsU_cons rfl ?_ (RV.stepsU_cons rfl ?_ (RV.stepsU_cons rfl ?_ (RV.stepsU_cons rfl ?_ (RV.stepsU_cons rfl ?_ (RV.stepsU_cons rfl ?_ (RV.stepsU_cons rfl ?_ (RV.stepsU_cons rfl ?_ RV.stepsU_nil))))))))))))
                · refine RV.stepU_plain rfl fun u wr hR hK hD => ?_; exact upon_build0L rfl ⟨hR.next ((Below.refl _ _).alloc (Nat.le_refl _) _), ⟨_, rfl⟩, rfl, .inr ⟨_, 0, #[], rfl, Nat.le_trans hR.hB hR.be.size, heap_alloc_new _ _, Nat.le_refl _, by decide, rfl, rfl⟩⟩
                · refine RV.stepU_plain rfl fun u wr hR hK hD => ?_; exact upon_move _ _ rfl (hK 6 rfl) ⟨hR.again, rfl⟩
                · refine RV.stepU_plain rfl fun u wr hR hK hD => ?_; exact upon_move _ _ rfl (hK 8 rfl) ⟨hR.again, rfl⟩
                · refine RV.stepU_plain rfl fun u wr hR hK hD => ?_; have z1 : u 170 = _ := hD 1 rfl; have z2 : u 171 = _ := hD 2 rfl; exact upon_val _ (by unfold execOp; simp [go_sem, evU, z1, z2, slT]) ⟨hR.again, rfl⟩
                · refine RV.stepU_plain rfl fun u wr hR hK hD => ?_
                  obtain ⟨⟨a9, z1⟩, z2⟩ := hD 0 rfl
                  have z3 : u 172 = _ := hD 3 rfl
                  obtain ⟨v, w2, q1, q2, q3⟩ := run_appL (u 169) 0 [] ((vsP ps).take k) aT k c _ hR z2 (rdT wr (x_R.keep (hBn wr hR))) htk.symm (fun u hu => hone u (List.mem_of_mem_take hu)) (by
                    by_cases h0 : (vsP ps).take k = []
                    · exact .inr (.inl h0)
                    · have := List.length_pos_iff.2 h0
                      exact .inr (.inr ⟨a9, 0, z1, by omega⟩)) (fun i u hu => by rw [Nat.zero_add, hTk i (by have := (List.getElem?_eq_some_iff.1 hu).1; rw [htk] at this; exact this)]; exact hu) (by omega)
                  rw [Nat.zero_add, List.nil_append] at q2
                  exact upon_append _ _ 25 _ _ _ _ rfl rfl z3 q1 ⟨q3, q2⟩
                · refine RV.stepU_plain rfl fun u wr hR hK hD => ?_; exact upon_move _ _ rfl (hK 11 rfl) ⟨hR.again, hV.symm⟩
                · refine RV.stepU_plain rfl fun u wr hR hK hD => ?_; have z1 : u 174 = _ := hD 5 rfl; exact upon_build1L _ _ _ _ rfl (z1.trans hV) ⟨hR.next ((Below.refl _ _).alloc (Nat.le_refl _) _), rfl, .inr ⟨_, 1, _, rfl, Nat.le_trans hR.hB hR.be.size, heap_alloc_new _ _, Nat.le_refl _, by decide, rfl, by rw [hV]; rfl⟩⟩
                · refine RV.stepU_plain rfl fun u wr hR hK hD => ?_
                  have z1 := hD 4 rfl
                  have z2 : wr.ownsRow w13.heap.size 22 1 (u 175) 1 [V] := hD 6 rfl
                  obtain ⟨g7, c7, z3, _, _, _⟩ := ow_form z2 (by decide)
                  have z4 := z2
                  rw [z3] at z4
                  obtain ⟨v, w2, q1, q2, q3⟩ := run_appL (u 173) k ((vsP ps).take k) [V] (some ⟨g7, 0, none⟩) 1 c7 _ hR z1 (ow_rd z4) rfl (by intro u hu; simp at hu; subst hu; rw [hV]; rfl) (.inl (Nat.le_refl k)) (fun i u hu => by
                    match i, hu with
                    | 0, hu => rw [Nat.add_zero, hTV]; exact hu) (by omega)
                  exact upon_append _ _ 25 _ _ _ _ rfl rfl z3 q1 ⟨q3, q2⟩
                · refine RV.stepU_plain rfl fun u wr hR hK hD => ?_; exact upon_move _ _ rfl (hK 6 rfl) ⟨hR.again, rfl⟩
                · refine RV.stepU_plain rfl fun u wr hR hK hD => ?_; exact upon_move _ _ rfl (hK 8 rfl) ⟨hR.again, rfl⟩
                · refine RV.stepU_plain rfl fun u wr hR hK hD => ?_; have z1 : u 177 = _ := hD 8 rfl; have z2 : u 178 = _ := hD 9 rfl; exact upon_val _ (by unfold execOp; simp [go_sem, evU, z1, z2, slF]) ⟨hR.again, rfl⟩
                · refine RV.stepU_plain rfl fun u wr hR hK hD => ?_
                  have z1 := hD 7 rfl
                  have z3 : u 179 = _ := hD 10 rfl
                  obtain ⟨v, w2, q1, q2, q3⟩ := run_appL (u 176) (k + 1) ((vsP ps).take k ++ [V]) ((vsP ps).drop k) aF (j - k) (c - k) _ hR z1 (rdF wr (x_R.keep (hBn wr hR))) (by rw [List.length_drop, hnps]) (fun u hu => hone u (List.mem_of_mem_drop hu)) (.inl (by omega)) hdT (by omega)
                  exact upon_append _ _ 25 _ _ _ _ rfl rfl z3 q1 ⟨q3, q2⟩
                · refine RV.stepU_plain rfl fun u wr hR hK hD => ?_; exact upon_assign _ _ rfl rfl ⟨hR.again, hD 11 rfl⟩
              intro u w16 hR hF
              have e6 : w16.ownsRow w13.heap.size 22 1 (u 6) (k + 1 + (j - k)) ((vsP ps).take k ++ [V] ++ (vsP ps).drop k) := hF 12 (by decide)
              obtain ⟨g6, c6, hv6, _, _, hc6⟩ := ow_form e6 (by omega)
              rw [hv6] at e6
              have hrd6 := ow_rd e6
              have hb16 := hBn w16 hR
              rw [show k + 1 + (j - k) = j + 1 from by omega] at hv6 hc6
              have hB16 := chain0 hB hb16
              have hGn : Go4 w w16 pa ups pp (some ⟨g6, 0, none⟩) (j + 1) c6 (ss.take k ++ [x] ++ ss.drop k) (ps.take k ++ [(some ⟨g, 0, none⟩, cap, lbs)] ++ ps.drop k) := by
                have hl := HG.out.len
                refine ⟨Hins.out (by rw [← Hhr.out]; exact hr4), ?_, hc6, ?_, ?_, ?_, x_P.keep hb16, hB16⟩
                · simp only [List.length_append, List.length_take, List.length_drop, List.length_cons, List.length_nil]; omega
                · simp only [List.map_append, List.map_take, List.map_drop, HG.out.pcs, List.map_cons, List.map_nil]
                  rw [Hlbs.out, Hhr.out]
                · have : vsP (ps.take k ++ [(some ⟨g, 0, none⟩, cap, lbs)] ++ ps.drop k) = (vsP ps).take k ++ [V] ++ (vsP ps).drop k := by
                    rw [hV, Hnl.out]
                    simp [vsP, List.map_take, List.map_drop]
                  rw [this]; exact hrd6
                · intro q hq
                  simp only [List.append_assoc, List.mem_append, List.mem_singleton] at hq
                  rcases hq with hq | rfl | hq
                  · exact (x_E q (List.mem_of_mem_take hq)).keep hb16
                  · exact x_L.keep hb16
                  · exact (x_E q (List.mem_of_mem_drop hq)).keep hb16
              simp only [finU, Act.put, List.setIfInBounds_toArray, List.set_cons_succ, List.set_cons_zero, hv6]
              clear hF hR e6 hrd6 slT slF rdT rdF hone hTk hx1 hx2 hx3 hx4 hdT hBn hT
              go_wp2
              go_roundw
              case rel => exact ⟨i + 1, _, j + 1, c6, _, _, by omega, by omega, by go_num, rfl, hGn⟩
              case measure => simp [intOf]; omega
            · have hz : (0 : Int) < len0 := by
                obtain ⟨q, hq⟩ := wr_end hpp
                have := hnpE.out
                rw [hq] at this
                simp [nb] at this
                omega
              go_wp2_with fail
              refine (afterQ _ ups fin pp len0 _ nf _ x_P Hl0.out (by omega) Hp.out hpp Hfin.out Hnf.out).mono ?_
              rintro e w14 ⟨ga, ca, rfl, ka, hb14⟩
              have hB2 : Below w.heap.size w w14 := by first | exact chain0 hB hb14 | exact chain1 hB hb14 | exact chain2 hB hb14 | exact chain3 hB hb14
              clear hB
              have hB := hB2
              clear hB2
              have y_P : RdB w14 pa ups := by first | exact x_P.keep hb14 | exact (x_P.alloc _).keep hb14 | exact ((x_P.alloc _).alloc _).keep hb14 | exact (((x_P.alloc _).alloc _).alloc _).keep hb14
              have y_A : RdB w14 pa9 as_ := by first | exact x_A.keep hb14 | exact (x_A.alloc _).keep hb14 | exact ((x_A.alloc _).alloc _).keep hb14 | exact (((x_A.alloc _).alloc _).alloc _).keep hb14
              have y_B : RdB w14 pb9 bs := by first | exact x_B.keep hb14 | exact (x_B.alloc _).keep hb14 | exact ((x_B.alloc _).alloc _).keep hb14 | exact (((x_B.alloc _).alloc _).alloc _).keep hb14
              have y_R : Rd w14 (some ⟨bA, oA, none⟩) (vsP ps) := by first | exact x_R.keep hb14 | exact (x_R.alloc _).keep hb14 | exact ((x_R.alloc _).alloc _).keep hb14 | exact (((x_R.alloc _).alloc _).alloc _).keep hb14
              have y_E : PcE w14 ps := by first | exact x_E.keep hb14 | exact (x_E.alloc _).keep hb14 | exact ((x_E.alloc _).alloc _).keep hb14 | exact (((x_E.alloc _).alloc _).alloc _).keep hb14
              have y_L : RdB w14 (some ⟨g, 0, none⟩) lbs := by first | exact x_L.keep hb14 | exact (x_L.alloc _).keep hb14 | exact ((x_L.alloc _).alloc _).keep hb14 | exact (((x_L.alloc _).alloc _).alloc _).keep hb14
              have y_Q : RdB w14 (some ⟨gp, 0, none⟩) ups := by first | exact x_Q.keep hb14 | exact (x_Q.alloc _).keep hb14 | exact ((x_Q.alloc _).alloc _).keep hb14 | exact (((x_Q.alloc _).alloc _).alloc _).keep hb14
              clear x_P x_A x_B x_R x_E x_L x_Q
              have x_P := y_P
              have x_A := y_A
              have x_B := y_B
              have x_R := y_R
              have x_E := y_E
              have x_L := y_L
              have x_Q := y_Q
              clear y_P y_A y_B y_R y_E y_L y_Q
              go_wp2_with fail
              refine (compareL _ _ lbs fin nl _ nf _ (-1) _ x_L ka Hnl.out Hnf.out (Hcf.out hpp)).mono ?_
              rintro e w15 ⟨rfl, hb15⟩
              have hB2 : Below w.heap.size w w15 := by first | exact chain0 hB hb15 | exact chain1 hB hb15 | exact chain2 hB hb15 | exact chain3 hB hb15
              clear hB
              have hB := hB2
              clear hB2
              have y_P : RdB w15 pa ups := by first | exact x_P.keep hb15 | exact (x_P.alloc _).keep hb15 | exact ((x_P.alloc _).alloc _).keep hb15 | exact (((x_P.alloc _).alloc _).alloc _).keep hb15
              have y_A : RdB w15 pa9 as_ := by first | exact x_A.keep hb15 | exact (x_A.alloc _).keep hb15 | exact ((x_A.alloc _).alloc _).keep hb15 | exact (((x_A.alloc _).alloc _).alloc _).keep hb15
              have y_B : RdB w15 pb9 bs := by first | exact x_B.keep hb15 | exact (x_B.alloc _).keep hb15 | exact ((x_B.alloc _).alloc _).keep hb15 | exact (((x_B.alloc _).alloc _).alloc _).keep hb15
              have y_R : Rd w15 (some ⟨bA, oA, none⟩) (vsP ps) := by first | exact x_R.keep hb15 | exact (x_R.alloc _).keep hb15 | exact ((x_R.alloc _).alloc _).keep hb15 | exact (((x_R.alloc _).alloc _).alloc _).keep hb15
              have y_E : PcE w15 ps := by first | exact x_E.keep hb15 | exact (x_E.alloc _).keep hb15 | exact ((x_E.alloc _).alloc _).keep hb15 | exact (((x_E.alloc _).alloc _).alloc _).keep hb15
              have y_L : RdB w15 (some ⟨g, 0, none⟩) lbs := by first | exact x_L.keep hb15 | exact (x_L.alloc _).keep hb15 | exact ((x_L.alloc _).alloc _).keep hb15 | exact (((x_L.alloc _).alloc _).alloc _).keep hb15
              have y_Q : RdB w15 (some ⟨gp, 0, none⟩) ups := by first | exact x_Q.keep hb15 | exact (x_Q.alloc _).keep hb15 | exact ((x_Q.alloc _).alloc _).keep hb15 | exact (((x_Q.alloc _).alloc _).alloc _).keep hb15
              clear x_P x_A x_B x_R x_E x_L x_Q
              have x_P := y_P
              have x_A := y_A
              have x_B := y_B
              have x_R := y_R
              have x_E := y_E
              have x_L := y_L
              have x_Q := y_Q
              clear y_P y_A y_B y_R y_E y_L y_Q
              clear ka
              go_wp2_with fail
              clear hm1 hm2 hm2b hm3
              obtain ⟨V, hV⟩ : ∃ V, V = Value.slice (some ⟨g, 0, none⟩) nl cap := ⟨_, rfl⟩
              obtain ⟨T, hT⟩ : ∃ T, T = (vsP ps).take k ++ [V] ++ (vsP ps).drop k := ⟨_, rfl⟩
              have hnps : (vsP ps).length = j := by
                have := congrArg List.length HG.out.pcs
                simp only [List.length_map] at this
                rw [vsP, List.length_map, this, HG.out.len]
              obtain ⟨aT, slT, rdT⟩ := run_slTo (some ⟨bA, oA, none⟩) (vsP ps) j c k w15 x_R hnps.symm (by omega) HG.out.cap
              obtain ⟨aF, slF, rdF⟩ := run_slFrom (some ⟨bA, oA, none⟩) (vsP ps) j c k w15 x_R hnps.symm (by omega) HG.out.cap
              have hone : ∀ u ∈ vsP ps, u.oneCell' = true := by
                intro u hu
                obtain ⟨q, _, rfl⟩ := List.mem_map.1 hu
                rfl
              have htk : ((vsP ps).take k).length = k := by rw [List.length_take, hnps]; omega
              have hTk : ∀ i, i < k → T[i]? = ((vsP ps).take k)[i]? := fun i hi => by
                rw [hT, List.append_assoc, List.getElem?_append_left (by rw [htk]; exact hi)]
              have hTV : T[k]? = some V := by
                rw [hT, List.append_assoc, List.getElem?_append_right (by rw [htk]; exact Nat.le_refl _), htk, Nat.sub_self]; rfl
              have hx1 : ∀ i u, ((vsP ps).take k)[i]? = some u → i < k ∨ T[i]? = some u := fun i u hu => .inl (by
                have := (List.getElem?_eq_some_iff.1 hu).1
                rw [htk] at this; exact this)
              have hx2 : ∀ i u, [V][i]? = some u → i < k ∨ T[i]? = some u := fun i u hu => by
                match i, hu with
                | 0, hu =>
                  by_cases h0 : 0 < k
                  · exact .inl h0
                  · have h1 : k = 0 := by omega
                    rw [h1] at hTV
                    rw [hTV]; exact .inr hu
              have hx4 : ∀ i u, ((vsP ps).take k ++ [V] ++ (vsP ps).drop k)[i]? = some u → i < k ∨ T[i]? = some u := fun i u hu => .inr (by rw [hT]; exact hu)
              have hx3 : ∀ i u, ((vsP ps).take k ++ [V])[i]? = some u → i < k ∨ T[i]? = some u := fun i u hu => .inr (by
                rw [hT, List.getElem?_append_left (List.getElem?_eq_some_iff.1 hu).1]; exact hu)
              have hdT : ∀ i u, ((vsP ps).drop k)[i]? = some u → T[k + 1 + i]? = some u := fun i u hu => by
                rw [hT, List.getElem?_append_right (by rw [List.length_append, htk]; simp), List.length_append, htk]
                simpa using hu
              have hBn : ∀ W, RL w15.heap.size T k w15.drew W → Below w15.heap.size w15 W := fun W h => ⟨h.be.os, h.be.tape, h.be.output, h.be.size, h.be.block⟩
              refine RV.wp_region_facts (R := RL w15.heap.size T k) [row0 w15.heap.size T k 169, eqL w15.heap.size T k 170 (.slice (some ⟨bA, oA, none⟩) j c), eqL w15.heap.size T k 171 (.int .i64 k), eqL w15.heap.size T k 172 (.slice aT k c), rowL w15.heap.size T k 173 k ((vsP ps).take k) hx1,
                eqL w15.heap.size T k 174 V, rowL w15.heap.size T k 175 1 [V] hx2, rowL w15.heap.size T k 176 (k + 1) ((vsP ps).take k ++ [V]) hx3, eqL w15.heap.size T k 177 (.slice (some ⟨bA, oA, none⟩) j c), eqL w15.heap.size T k 178 (.int .i64 k), eqL w15.heap.size T k 179 (.slice aF (j - k) (c - k)),
                rowL w15.heap.size T k 180 (k + 1 + (j - k)) ((vsP ps).take k ++ [V] ++ (vsP ps).drop k) hx4, rowL w15.heap.size T k 6 (k + 1 + (j - k)) ((vsP ps).take k ++ [V] ++ (vsP ps).drop k) hx4] (by kernel_rfl) (by kernel_rfl) (by kernel_rfl) (RL.refl (Nat.le_refl _)) (fun _ h => h.again) (fun _ _ _ h k => h.trans k) ?_ ?_
              · refine RV.stepsU_cons rfl ?_ (RV.stepsU_cons rfl ?_ (RV.stepsU_cons rfl ?_ (RV.stepsU_cons rfl ?_ (RV.stepsU_cons rfl ?_ (RV.stepsU_cons rfl ?_ (RV.stepsU_cons rfl ?_ (RV.stepsU_cons rfl ?_ (RV.stepsU_cons rfl ?_ (RV.stepsU_cons rfl ?_ (RV.stepsU_cons rfl ?_ (RV.stepsU_cons rfl ?_ (RV.stepsU_cons rfl ?_ RV.stepsU_nil))))))))))))
                · refine RV.stepU_plain rfl fun u wr hR hK hD => ?_; exact upon_build0L rfl ⟨hR.next ((Below.refl _ _).alloc (Nat.le_refl _) _), ⟨_, rfl⟩, rfl, .inr ⟨_, 0, #[], rfl, Nat.le_trans hR.hB hR.be.size, heap_alloc_new _ _, Nat.le_refl _, by decide, rfl, rfl⟩⟩
                · refine RV.stepU_plain rfl fun u wr hR hK hD => ?_; exact upon_move _ _ rfl (hK 6 rfl) ⟨hR.again, rfl⟩
                · refine RV.stepU_plain rfl fun u wr hR hK hD => ?_; exact upon_move _ _ rfl (hK 8 rfl) ⟨hR.again, rfl⟩
                · refine RV.stepU_plain rfl fun u wr hR hK hD => ?_; have z1 : u 170 = _ := hD 1 rfl; have z2 : u 171 = _ := hD 2 rfl; exact upon_val _ (by unfold execOp; simp [go_sem, evU, z1, z2, slT]) ⟨hR.again, rfl⟩
                · refine RV.stepU_plain rfl fun u wr hR hK hD => ?_
                  obtain ⟨⟨a9, z1⟩, z2⟩ := hD 0 rfl
                  have z3 : u 172 = _ := hD 3 rfl
                  obtain ⟨v, w2, q1, q2, q3⟩ := run_appL (u 169) 0 [] ((vsP ps).take k) aT k c _ hR z2 (rdT wr (x_R.keep (hBn wr hR))) htk.symm (fun u hu => hone u (List.mem_of_mem_take hu)) (by
                    by_cases h0 : (vsP ps).take k = []
                    · exact .inr (.inl h0)
                    · have := List.length_pos_iff.2 h0
                      exact .inr (.inr ⟨a9, 0, z1, by omega⟩)) (fun i u hu => by rw [Nat.zero_add, hTk i (by have := (List.getElem?_eq_some_iff.1 hu).1; rw [htk] at this; exact this)]; exact hu) (by omega)
                  rw [Nat.zero_add, List.nil_append] at q2
                  exact upon_append _ _ 25 _ _ _ _ rfl rfl z3 q1 ⟨q3, q2⟩
                · refine RV.stepU_plain rfl fun u wr hR hK hD => ?_; exact upon_move _ _ rfl (hK 11 rfl) ⟨hR.again, hV.symm⟩
                · refine RV.stepU_plain rfl fun u wr hR hK hD => ?_; have z1 : u 174 = _ := hD 5 rfl; exact upon_build1L _ _ _ _ rfl (z1.trans hV) ⟨hR.next ((Below.refl _ _).alloc (Nat.le_refl _) _), rfl, .inr ⟨_, 1, _, rfl, Nat.le_trans hR.hB hR.be.size, heap_alloc_new _ _, Nat.le_refl _, by decide, rfl, by rw [hV]; rfl⟩⟩
                · refine RV.stepU_plain rfl fun u wr hR hK hD => ?_
                  have z1 := hD 4 rfl
                  have z2 : wr.ownsRow w15.heap.size 22 1 (u 175) 1 [V] := hD 6 rfl
                  obtain ⟨g7, c7, z3, _, _, _⟩ := ow_form z2 (by decide)
                  have z4 := z2
                  rw [z3] at z4
                  obtain ⟨v, w2, q1, q2, q3⟩ := run_appL (u 173) k ((vsP ps).take k) [V] (some ⟨g7, 0, none⟩) 1 c7 _ hR z1 (ow_rd z4) rfl (by intro u hu; simp at hu; subst hu; rw [hV]; rfl) (.inl (Nat.le_refl k)) (fun i u hu => by
                    match i, hu with
                    | 0, hu => rw [Nat.add_zero, hTV]; exact hu) (by omega)
                  exact upon_append _ _ 25 _ _ _ _ rfl rfl z3 q1 ⟨q3, q2⟩
                · refine RV.stepU_plain rfl fun u wr hR hK hD => ?_; exact upon_move _ _ rfl (hK 6 rfl) ⟨hR.again, rfl⟩
                · refine RV.stepU_plain rfl fun u wr hR hK hD => ?_; exact upon_move _ _ rfl (hK 8 rfl) ⟨hR.again, rfl⟩
                · refine RV.stepU_plain rfl fun u wr hR hK hD => ?_; have z1 : u 177 = _ := hD 8 rfl; have z2 : u 178 = _ := hD 9 rfl; exact upon_val _ (by unfold execOp; simp [go_sem, evU, z1, z2, slF]) ⟨hR.again, rfl⟩
                · refine RV.stepU_plain rfl fun u wr hR hK hD => ?_
                  have z1 := hD 7 rfl
                  have z3 : u 179 = _ := hD 10 rfl
                  obtain ⟨v, w2, q1, q2, q3⟩ := run_appL (u 176) (k + 1) ((vsP ps).take k ++ [V]) ((vsP ps).drop k) aF (j - k) (c - k) _ hR z1 (rdF wr (x_R.keep (hBn wr hR))) (by rw [List.length_drop, hnps]) (fun u hu => hone u (List.mem_of_mem_drop hu)) (.inl (by omega)) hdT (by omega)
                  exact upon_append _ _ 25 _ _ _ _ rfl rfl z3 q1 ⟨q3, q2⟩
                · refine RV.stepU_plain rfl fun u wr hR hK hD => ?_; exact upon_assign _ _ rfl rfl ⟨hR.again, hD 11 rfl⟩
              intro u w16 hR hF
              have e6 : w16.ownsRow w15.heap.size 22 1 (u 6) (k + 1 + (j - k)) ((vsP ps).take k ++ [V] ++ (vsP ps).drop k) := hF 12 (by decide)
              obtain ⟨g6, c6, hv6, _, _, hc6⟩ := ow_form e6 (by omega)
              rw [hv6] at e6
              have hrd6 := ow_rd e6
              have hb16 := hBn w16 hR
              rw [show k + 1 + (j - k) = j + 1 from by omega] at hv6 hc6
              have hB16 := chain0 hB hb16
              have hGn : Go4 w w16 pa ups pp (some ⟨g6, 0, none⟩) (j + 1) c6 (ss.take k ++ [x] ++ ss.drop k) (ps.take k ++ [(some ⟨g, 0, none⟩, cap, lbs)] ++ ps.drop k) := by
                have hl := HG.out.len
                refine ⟨Hins.out (by rw [← Hhr.out]; exact hr4), ?_, hc6, ?_, ?_, ?_, x_P.keep hb16, hB16⟩
                · simp only [List.length_append, List.length_take, List.length_drop, List.length_cons, List.length_nil]; omega
                · simp only [List.map_append, List.map_take, List.map_drop, HG.out.pcs, List.map_cons, List.map_nil]
                  rw [Hlbs.out, Hhr.out]
                · have : vsP (ps.take k ++ [(some ⟨g, 0, none⟩, cap, lbs)] ++ ps.drop k) = (vsP ps).take k ++ [V] ++ (vsP ps).drop k := by
                    rw [hV, Hnl.out]
                    simp [vsP, List.map_take, List.map_drop]
                  rw [this]; exact hrd6
                · intro q hq
                  simp only [List.append_assoc, List.mem_append, List.mem_singleton] at hq
                  rcases hq with hq | rfl | hq
                  · exact (x_E q (List.mem_of_mem_take hq)).keep hb16
                  · exact x_L.keep hb16
                  · exact (x_E q (List.mem_of_mem_drop hq)).keep hb16
              simp only [finU, Act.put, List.setIfInBounds_toArray, List.set_cons_succ, List.set_cons_zero, hv6]
              clear hF hR e6 hrd6 slT slF rdT rdF hone hTk hx1 hx2 hx3 hx4 hdT hBn hT
              go_wp2
              go_roundw
              case rel => exact ⟨i + 1, _, j + 1, c6, _, _, by omega, by omega, by go_num, rfl, hGn⟩
              case measure => simp [intOf]; omega
    · have hin : i = len1 := by omega
      subst hin
      go_wp2
      go_ret
      exact ⟨rfl, G.be⟩
end Go.Proofs.Ytofbcgehemclbaa

