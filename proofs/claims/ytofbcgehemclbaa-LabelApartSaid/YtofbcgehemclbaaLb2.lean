/- label.steps: a label's steps. -/
import Derived.Test.YtofbcgehemclbaaLb1
import Derived.Outline
import Derived.WalkMore
import Derived.Deep.RegionHeld3
import Derived.Deep.RegionWith
import Derived.Deep.Cut
namespace Go.Proofs.Ytofbcgehemclbaa
open Go.RowKit Bm
theorem bitsInfo : (Try.prog.info? 50).map (fun i => (i.zero, i.size, i.bytes)) = some (some (.agg #[.string ⟨#[]⟩, .int .i64 0]), 2, 24) := by kernel_rfl
def bcells (ss : List (List Bool)) : List Value := ss.flatMap fun s => [.string (pk s), .int .i64 s.length]
/-- the slice v is the call's own, from block B on, and holds the rows ss -/
def OwS (w : World) (B : Nat) (v : Value) (ss : List (List Bool)) : Prop := w.ownsRow B 50 2 v ss.length (bcells ss)
/-- an address: rows ss -/
def RdS (w : World) (a : Option Addr) (ss : List (List Bool)) : Prop := Rd w a (bcells ss)
theorem bcells_snoc (ss : List (List Bool)) (s : List Bool) : bcells (ss ++ [s]) = bcells ss ++ [.string (pk s), .int .i64 s.length] := by simp [bcells]
theorem bcells_length (ss : List (List Bool)) : (bcells ss).length = ss.length * 2 := by
  induction ss with
  | nil => rfl
  | cons s ss ih => simp [bcells] at ih ⊢; omega
theorem bcells_one (ss : List (List Bool)) : ∀ u ∈ bcells ss, u.oneCell' = true := by
  intro u hu
  simp only [bcells, List.mem_flatMap] at hu
  obtain ⟨s, _, h⟩ := hu
  simp at h
  rcases h with rfl | rfl <;> rfl
def StepsPost (w : World) (bs : List UInt8) (e : Ending) (w' : World) : Prop :=
  (∃ ss v, IsL bs ss ∧ e = .returned (.tuple #[v, .bool true]) ∧ OwS w' w.heap.size v ss ∧ Below w.heap.size w w') ∨
  ((¬ ∃ ss, IsL bs ss) ∧ e = .returned (.tuple #[.slice none 0 0, .bool false]) ∧ Below w.heap.size w w')
def posOf (w : World) (g : Nat) : Nat := match w.cell? ⟨g, 0, none⟩ with
  | some v => (intOf v).toNat
  | none => 0
theorem posOf_blk {w : World} {g p : Nat} {t : TypeId} (h : Blk w g t #[.int .i64 p]) : posOf w g = p := by
  have := h.cell 0
  simp only [List.getElem?_toArray, List.getElem?_cons_zero] at this
  unfold posOf
  rw [this]
  simp [intOf]
/-- behind the loops: the rest is looked at -/
structure Lt (w W : World) (gb g13 : Nat) (out : List (List Bool)) (v : Value) (rest : List Bool) : Prop where
  own : OwS W (gb + 1 + 1) v out
  br : Blk W g13 50 #[.string (pk rest), .int .i64 rest.length]
  wb : w.heap.size ≤ gb
  be : Below w.heap.size w W
theorem Lt.keep {w W W' : World} {gb g13 : Nat} {out : List (List Bool)} {v : Value} {rest : List Bool} (h : Lt w W gb g13 out v rest) (hb : Below W.heap.size W W') : Lt w W' gb g13 out v rest :=
  ⟨ow_keep h.own hb, h.br.keep hb, h.wb, chain0 h.be hb⟩
/-- the outer loop: p bits are read, they say out -/
structure Lp (w W : World) (l : List Bool) (gb p : Nat) (out : List (List Bool)) (v : Value) : Prop where
  hp : p ≤ l.length
  ok : okS out
  eq : l = wr out ++ l.drop p
  le : out.length ≤ p
  own : OwS W (gb + 1 + 1) v out
  bb : Blk W gb 50 #[.string (pk l), .int .i64 l.length]
  ba : Blk W (gb + 1) 3 #[.int .i64 p]
  wb : w.heap.size ≤ gb
  be : Below w.heap.size w W
theorem Lp.keep {w W W' : World} {l : List Bool} {gb p : Nat} {out : List (List Bool)} {v : Value} (h : Lp w W l gb p out v) (hb : Below W.heap.size W W') : Lp w W' l gb p out v :=
  ⟨h.hp, h.ok, h.eq, h.le, ow_keep h.own hb, h.bb.keep hb, h.ba.keep hb, h.wb, chain0 h.be hb⟩
/-- the inner loop: of the next step s is read, q bits in all -/
structure Li (w W : World) (l : List Bool) (gb p : Nat) (out : List (List Bool)) (v : Value) (Bs : Nat) (s : List Bool) (vs : Value) (q : Nat) : Prop where
  hp : p + 2 * s.length ≤ l.length
  ok : okS out
  eq : l = wr out ++ l.drop p
  le : out.length ≤ p
  eq2 : l.drop p = pairs s ++ l.drop (p + 2 * s.length)
  own : OwS W (gb + 1 + 1) v out
  far : ∀ k, v.ownBlock = some k → k < Bs
  hBs : gb + 1 < Bs
  hBW : Bs ≤ W.heap.size
  own2 : OwB W Bs vs (tx s)
  bb : Blk W gb 50 #[.string (pk l), .int .i64 l.length]
  ba : Blk W (gb + 1) 3 #[.int .i64 q]
  wb : w.heap.size ≤ gb
  be : Below w.heap.size w W
section
variable {w W W' : World} {l : List Bool} {gb p : Nat} {out : List (List Bool)} {v : Value} {Bs : Nat} {s : List Bool} {vs : Value} {q : Nat}
theorem Li.keep (h : Li w W l gb p out v Bs s vs q) (hb : Below W.heap.size W W') : Li w W' l gb p out v Bs s vs q :=
  ⟨h.hp, h.ok, h.eq, h.le, h.eq2, ow_keep h.own hb, h.far, h.hBs, Nat.le_trans h.hBW hb.size, ow_keep h.own2 hb, h.bb.keep hb, h.ba.keep hb, h.wb, chain0 h.be hb⟩
theorem Li.next (h : Li w W l gb p out v Bs s vs q) (ha : Blk W' (gb + 1) 3 #[.int .i64 ((q + 1 : Nat) : Int)]) (hg : W.grownBy W' (some (gb + 1))) : Li w W' l gb p out v Bs s vs (q + 1) :=
  ⟨h.hp, h.ok, h.eq, h.le, h.eq2, ow_far h.own hg (.inl (by omega)), h.far, h.hBs, Nat.le_trans h.hBW hg.size, ow_far h.own2 hg (.inl h.hBs), h.bb.grown hg (by omega), ha, h.wb,
    h.be.grown hg (by have := h.be.size; exact this) (by intro k hk; injection hk with hk; have := h.wb; omega)⟩
theorem Li.app (h : Li w W l gb p out v Bs s vs q) {vs' : Value} (b : Bool) (hown : OwB W' Bs vs' (tx s ++ [if b then 49 else 48])) (hg : W.grownBy W' vs.ownBlock) (hq : q = p + 2 * s.length + 2)
    (hl : q ≤ l.length) (h1 : l.getD (p + 2 * s.length) false = true) (h2 : l.getD (p + 2 * s.length + 1) false = b) : Li w W' l gb p out v Bs (s ++ [b]) vs' (p + 2 * (s ++ [b]).length) := by
  have hs : (s ++ [b]).length = s.length + 1 := by simp
  have hb : Below (gb + 1 + 1) W W' := (Below.refl _ _).grown hg (by have := h.hBs; have := h.hBW; omega) (fun k hk => by have := (ow_lt h.own2 k hk).1; have := h.hBs; omega)
  refine ⟨by omega, h.ok, h.eq, h.le, ?_, ?_, h.far, h.hBs, Nat.le_trans h.hBW hg.size, ?_, (hb.block gb (by omega)).trans h.bb, ?_, h.wb, h.be.trans (hb.mono (by have := h.wb; omega))⟩
  · rw [h.eq2, pairs_snoc, List.append_assoc, drop_cons l _ (by omega), h1, drop_cons l _ (by omega), h2, hs]
    rfl
  · cases hv : vs.ownBlock with
    | none => rw [hv] at hg; exact ow_keep h.own ⟨hg.os, hg.tape, hg.output, hg.size, fun k hk => hg.block k hk (by simp)⟩
    | some k0 =>
      rw [hv] at hg
      exact ow_far h.own hg (.inr fun k hk e => by have := h.far k hk; have := (ow_lt h.own2 k0 hv).1; omega)
  · have : tx s ++ [if b then 49 else 48] = tx (s ++ [b]) := by simp [tx]
    rw [← this]; exact hown
  · have := (hb.block (gb + 1) (by omega)).trans h.ba
    rw [hs, show p + 2 * (s.length + 1) = q from by omega]
    exact this
theorem Li.done (h : Li w W l gb p out v Bs s vs (p + 2 * s.length + 1)) {v' : Value} (ho : W'.ownsRow (gb + 1 + 1) 50 2 v' (out.length + 1) (bcells out ++ [.string (pk s), .int .i64 s.length])) (hg : W.grownBy W' v.ownBlock) (hlast : lastOne s = true)
    (hq : p + 2 * s.length < l.length) (hbit : l.getD (p + 2 * s.length) false = false) : Lp w W' l gb (p + 2 * s.length + 1) (out ++ [s]) v' := by
  have hb : Below (gb + 1 + 1) W W' := (Below.refl _ _).grown hg (by have := h.hBs; have := h.hBW; omega) (fun k hk => by have := (ow_lt h.own k hk).1; omega)
  refine ⟨by omega, okS_snoc h.ok hlast, ?_, ?_, ?_, (hb.block gb (by omega)).trans h.bb, (hb.block (gb + 1) (by omega)).trans h.ba, h.wb, h.be.trans (hb.mono (by have := h.wb; omega))⟩
  · have h1 := h.eq
    rw [h.eq2, drop_cons l _ hq, hbit] at h1
    rw [wr_snoc, enc, List.append_assoc, List.append_assoc]
    exact h1
  · have := h.le
    rw [List.length_append, List.length_singleton]; omega
  · unfold OwS
    rw [bcells_snoc, List.length_append, List.length_singleton]
    exact ho
theorem tx_at (s : List Bool) (m : Nat) (b : Bool) (h : m < (tx s).length) (hb : s.getD m false = b) : (((tx s)[m]'h).toNat : Int) = if b then 49 else 48 := by
  have h' : m < s.length := by rwa [length_tx] at h
  simp only [tx, List.getElem_map]
  rw [List.getD_eq_getElem?_getD, List.getElem?_eq_getElem h'] at hb
  simp only [Option.getD_some] at hb
  rw [hb]
  cases b <;> rfl
end
set_option maxRecDepth 100000 in
set_option maxHeartbeats 400000 in
theorem steps_long (a : Option Addr) (bs : List UInt8) (n c : Nat) (w : World) (hn : n = bs.length) (hbig : 128 < n) (hle : (n : Int) ≤ 9223372036854775807) :
    Calls Try.prog 34 #[.slice a n c] w (StepsPost w bs) := by
  have hno : ¬ ∃ ss, IsL bs ss := fun ⟨ss, h⟩ => by have := (isL_bits h).1; omega
  have Hno := hide hno
  have Hn := hide hn
  have hbig' : (128 : Int) < n := by omega
  clear hno hn hbig
  go_enter Try.func34, Try.ntmps34
  go_wp2
  go_step3
  go_wp2
  (try rw [Exit.noGoto_ret])
  go_ret2
  exact .inr ⟨Hno.out, rfl, Below.refl _ _⟩
set_option maxRecDepth 100000 in
set_option maxHeartbeats 2000000 in
theorem steps_short (a : Option Addr) (bs : List UInt8) (n c : Nat) (w : World) (hr : RdB w a bs) (hn : n = bs.length) (hle : n ≤ 128) :
    Calls Try.prog 34 #[.slice a n c] w (StepsPost w bs) := by
  obtain ⟨l, hl⟩ : ∃ l, l = unb bs := ⟨_, rfl⟩
  have hll : l.length = 8 * n := by rw [hl, unb_length, hn]
  have hlen : l.length ≤ 1024 := by omega
  have hrl : RdB w a (pkL l) := by rw [hl, pk_unb]; exact hr
  have hnb : n = nb l.length := by unfold nb; omega
  have Hl := hide hl
  have Hll := hide hll
  have Hnb := hide hnb
  have Hn := hide hn
  have hle' : (n : Int) ≤ 128 := by omega
  clear hl hll hnb hn hr
  have hB := Below.refl w.heap.size w
  obtain ⟨i0, hi, hz0, hz1, hz2⟩ := info_parts bitsInfo
  have Hi : Hid (Try.prog.info? 50 = some i0 ∧ i0.zero = some (.agg #[.string ⟨#[]⟩, .int .i64 0]) ∧ i0.size = 2 ∧ i0.bytes = 24) := ⟨hi, hz0, hz1, hz2⟩
  clear hi hz0 hz1 hz2
  go_enter Try.func34, Try.ntmps34
  go_wp2_with fail
  go_step3
  go_wp2_with fail
  refine (unpackR l a n c (8 * (n : Int)) _ (by omega) hrl Hnb.out (by have := Hll.out; omega)).mono ?_
  rintro e w1 ⟨rfl, hb1⟩
  have hz1 := hb1.size
  have hB1 := chain0 hB hb1
  clear hB hb1
  go_wp2_with fail
  go_step3
  go_wp2_with fail
  obtain ⟨gb, hgb⟩ : ∃ g, g = w1.heap.size := ⟨_, rfl⟩
  have h0 : Lp w ((w1.alloc (.cells #[.string (pk l), .int .i64 l.length] 50)).alloc (.cells #[.int .i64 0] 3)) l gb 0 [] (.slice none 0 0) := by
    subst hgb
    refine ⟨Nat.zero_le _, okS_nil, rfl, Nat.le_refl _, ow_nil _ _ _ _, (Blk.new w1 _ _).alloc _, ?_, hz1, (hB1.alloc hz1 _).alloc (by simp; omega) _⟩
    have := Blk.new (w1.alloc (.cells #[.string (pk l), .int .i64 l.length] 50)) 3 #[.int .i64 0]
    simpa using this
  rw [← hgb]
  clear hgb hz1 hB1
  go_loopw [8] (fun v W => ∃ (p : Nat) (out : List (List Bool)), Lp w W l gb p out v) (fun _ W => l.length - posOf W (gb + 1))
  case atStart => exact ⟨0, [], h0⟩
  case round =>
    clear h0
    obtain ⟨p, out, H⟩ := hrel
    have Hpos := hide (posOf_blk H.ba)
    by_cases hlt : p < l.length
    · have hd : decide (p < l.length) = true := by simpa using hlt
      have c0 := H.ba.cell 0
      have c1 := H.bb.cell 0
      have c2 := H.bb.cell 1
      simp only [List.getElem?_toArray, List.getElem?_cons_zero, List.getElem?_cons_succ] at c0 c1 c2
      have l0 := later_cell c0
      have l1 := later_cell c1
      have l2 := later_cell c2
      clear c0 c1 c2
      go_wp2_with fail
      refine wp_region_later (by kernel_rfl) (by kernel_rfl) ?_
      repeat (go_big_quiet_step ((go_at_call 50; exact later_of (lenR l _))))
      refine wpQuiet_nil ?_
      intro W2 hw'
      obtain ⟨⟨W2', hb2⟩, hw''⟩ := hw'
      change W2 = W2' at hw''
      subst hw''
      have H2 := H.keep hb2
      clear l0 l1 l2 hb2 H
      have H := H2
      clear H2
      cases hbit : l.getD p false
      · have hq : (0 : Int) = atZ l p := (atZ_in l p false hlt hbit).symm
        have Hq := hide hq
        have Hbit := hide hbit
        clear hq hbit
        have c0 := H.ba.cell 0
        have c1 := H.bb.cell 0
        have c2 := H.bb.cell 1
        simp only [List.getElem?_toArray, List.getElem?_cons_zero, List.getElem?_cons_succ] at c0 c1 c2
        go_wp2_with fail
        refine (atR l _ _ _ (by omega) Hq.out).mono ?_
        rintro e W3 ⟨rfl, hb3⟩
        have H3 := H.keep hb3
        clear c0 c1 c2 hb3 H Hq
        have H := H3
        clear H3 hd
        obtain ⟨rest, hrest⟩ : ∃ r, r = l.drop p := ⟨_, rfl⟩
        have hrl : rest.length = l.length - p := by rw [hrest, List.length_drop]
        have hcut : rest = (l.drop p).take (l.length - p) := by rw [hrest, List.take_of_length_le (by rw [List.length_drop]; exact Nat.le_refl _)]
        have hmin : (if l.length < p then (l.length : Int) else (p : Int)) = (p : Int) := if_neg (by have := H.hp; omega)
        have hp := H.hp
        have heq := H.eq
        have hok := H.ok
        have hle := H.le
        rw [← hrest] at heq
        have hz : rest = [] ∨ ∃ r, rest = false :: r := by rw [hrest]; exact (.inr ⟨_, by rw [drop_cons l p hlt, Hbit.out]⟩)
        have Hz := hide hz
        have Hcut := hide hcut
        have Hrl := hide hrl
        have Hmin := hide hmin
        have Heq := hide heq
        have Hle := hide hle
        have Hok := hide hok
        clear hrest hcut hmin heq hle hrl hok hz
        have hB := H.be
        have x_L := H.bb
        have x_P := H.ba
        go_wp2_with fail
        have x_L : Blk W3 gb 50 #[.string (pk l), .int .i64 l.length] := x_L
        have x_P : Blk W3 (gb + 1) 3 #[.int .i64 p] := x_P
        refine wp_region_facts (R := RB W3.heap.size (pk rest) (rest.length)) [eqF W3.heap.size (pk rest) (rest.length) 77 (.agg #[.string (pk l), .int .i64 l.length]), eqF W3.heap.size (pk rest) (rest.length) 78 (.int .i64 p), eqF W3.heap.size (pk rest) (rest.length) 79 (.agg #[.string (pk l), .int .i64 l.length]), eqF W3.heap.size (pk rest) (rest.length) 80 (.int .i64 l.length), eqF W3.heap.size (pk rest) (rest.length) 81 (.int .i64 p), eqF W3.heap.size (pk rest) (rest.length) 82 (.agg #[.string (pk l), .int .i64 l.length]), eqF W3.heap.size (pk rest) (rest.length) 83 (.int .i64 l.length), eqF W3.heap.size (pk rest) (rest.length) 84 (.tuple #[.agg #[.string (pk rest), .int .i64 rest.length], .bool true]), eqF W3.heap.size (pk rest) (rest.length) 76 (.tuple #[.agg #[.string (pk rest), .int .i64 rest.length], .bool true]), eqF W3.heap.size (pk rest) (rest.length) 85 (.agg #[.string (pk rest), .int .i64 rest.length]), eqF W3.heap.size (pk rest) (rest.length) 86 (.bool true), newF W3.heap.size (pk rest) (rest.length) 13, putF W3.heap.size (pk rest) (rest.length) 13, eqF W3.heap.size (pk rest) (rest.length) 14 (.bool true)] (by kernel_rfl) (by kernel_rfl) (by kernel_rfl) (RB.refl (Nat.le_refl _)) (fun _ h => h.again) (fun _ _ _ h k => h.trans k) ?_ ?_
        · refine stepsU_cons rfl ?_ (stepsU_cons rfl ?_ (stepsU_cons rfl ?_ (stepsU_cons rfl ?_ (stepsU_cons rfl ?_ (stepsU_cons rfl ?_ (stepsU_cons rfl ?_ (stepsU_cons rfl ?_ (stepsU_cons rfl ?_ (stepsU_cons rfl ?_ (stepsU_cons rfl ?_ (stepsU_cons rfl ?_ (stepsU_cons rfl ?_ (stepsU_cons rfl ?_ (stepsU_nil))))))))))))))
          · refine stepU_plain rfl fun u wr hR hK hD => ?_; exact upon_loadB _ _ _ _ rfl (hK 4 rfl) (hR.old x_L.lt x_L) ⟨hR.again, rfl⟩
          · refine stepU_plain rfl fun u wr hR hK hD => ?_; exact upon_loadI _ _ _ rfl (hK 6 rfl) (hR.old x_P.lt x_P) ⟨hR.again, rfl⟩
          · refine stepU_plain rfl fun u wr hR hK hD => ?_; exact upon_loadB _ _ _ _ rfl (hK 4 rfl) (hR.old x_L.lt x_L) ⟨hR.again, rfl⟩
          · refine stepU_plain rfl fun u wr hR hK hD => ?_; exact upon_call1 _ _ _ Try.func50 (by kernel_rfl) rfl (hD 2 rfl) ((lenR l wr).mono fun e wn ⟨he, hb⟩ => ⟨_, he, hR.next hb, rfl⟩)
          · refine stepU_plain rfl fun u wr hR hK hD => ?_; have z78 : u 78 = _ := (hD 1 rfl); have z80 : u 80 = _ := (hD 3 rfl); exact upon_val _ (by unfold execOp; simp [go_sem, evU, z78, z80, Hmin.out]) ⟨hR.again, rfl⟩
          · refine stepU_plain rfl fun u wr hR hK hD => ?_; exact upon_loadB _ _ _ _ rfl (hK 4 rfl) (hR.old x_L.lt x_L) ⟨hR.again, rfl⟩
          · refine stepU_plain rfl fun u wr hR hK hD => ?_; exact upon_call1 _ _ _ Try.func50 (by kernel_rfl) rfl (hD 5 rfl) ((lenR l wr).mono fun e wn ⟨he, hb⟩ => ⟨_, he, hR.next hb, rfl⟩)
          · refine stepU_plain rfl fun u wr hR hK hD => ?_; exact upon_call3 _ _ _ _ _ _ _ Try.func49 (by kernel_rfl) rfl (hD 0 rfl) (hD 4 rfl) (hD 6 rfl) ((cutR l rest p l.length p (l.length - p) wr rfl (by omega) (by omega) (by omega) Hcut.out).mono fun e wn ⟨he, hb⟩ => ⟨_, he, hR.next hb, rfl⟩)
          · refine stepU_plain rfl fun u wr hR hK hD => ?_; exact upon_move _ _ rfl (hD 7 rfl) ⟨hR.again, rfl⟩
          · refine stepU_plain rfl fun u wr hR hK hD => ?_; exact upon_extract _ 0 _ _ rfl (hD 8 rfl) rfl ⟨hR.again, rfl⟩
          · refine stepU_plain rfl fun u wr hR hK hD => ?_; exact upon_extract _ 1 _ _ rfl (hD 8 rfl) rfl ⟨hR.again, rfl⟩
          · refine stepU_plain rfl fun u wr hR hK hD => ?_; exact upon_allocB rfl ⟨hR.next ((Below.refl _ _).alloc (Nat.le_refl _) _), ⟨_, rfl, Nat.le_trans hR.hB hR.be.size, .inl (heap_alloc_new _ _)⟩⟩
          · refine stepU_plain rfl fun u wr hR hK hD => ?_; obtain ⟨g, hg, hgB, hbl⟩ := hD 11 rfl; exact upon_storeB _ _ g rfl hg hgB hbl (hD 9 rfl) (Nat.le_trans hR.hB hR.be.size) fun w2 hR2 hb2 => ⟨hR2, ⟨g, hg, hgB, hb2⟩⟩
          · refine stepU_plain rfl fun u wr hR hK hD => ?_; exact upon_assign _ _ rfl (hD 10 rfl) ⟨hR.again, rfl⟩
        intro u W5 hR hF
        have e77 : u 77 = .agg #[.string (pk l), .int .i64 l.length] := hF 0 (by decide)
        have e78 : u 78 = .int .i64 p := hF 1 (by decide)
        have e79 : u 79 = .agg #[.string (pk l), .int .i64 l.length] := hF 2 (by decide)
        have e80 : u 80 = .int .i64 l.length := hF 3 (by decide)
        have e81 : u 81 = .int .i64 p := hF 4 (by decide)
        have e82 : u 82 = .agg #[.string (pk l), .int .i64 l.length] := hF 5 (by decide)
        have e83 : u 83 = .int .i64 l.length := hF 6 (by decide)
        have e84 : u 84 = .tuple #[.agg #[.string (pk rest), .int .i64 rest.length], .bool true] := hF 7 (by decide)
        have e76 : u 76 = .tuple #[.agg #[.string (pk rest), .int .i64 rest.length], .bool true] := hF 8 (by decide)
        have e85 : u 85 = .agg #[.string (pk rest), .int .i64 rest.length] := hF 9 (by decide)
        have e86 : u 86 = .bool true := hF 10 (by decide)
        have e14 : u 14 = .bool true := hF 13 (by decide)
        obtain ⟨g13, e13, hg13, x_g13⟩ := hF 12 (by decide)
        simp only [finU, Act.put, List.setIfInBounds_toArray, List.set_cons_succ, List.set_cons_zero, e77, e78, e79, e80, e81, e82, e83, e84, e76, e85, e86, e13, e14]
        clear hF e77 e78 e79 e80 e81 e82 e83 e84 e76 e85 e86 e13 e14
        have hB2 : Below w.heap.size w W5 := chain hB.drew hB.size hR.be
        have hb_W5 : Below W3.heap.size W3 W5 := ⟨hR.be.os, hR.be.tape, hR.be.output, hR.be.size, hR.be.block⟩
        have y_L : Blk W5 gb 50 #[.string (pk l), .int .i64 l.length] := hR.old x_L.lt x_L
        have y_P : Blk W5 (gb + 1) 3 #[.int .i64 p] := hR.old x_P.lt x_P
        clear hB hR x_L x_P
        have hB := hB2
        clear hB2
        have x_L := y_L
        have x_P := y_P
        clear y_L y_P
        have T : Lt w W5 gb g13 out u8 rest := ⟨ow_keep H.own hb_W5, x_g13, H.wb, hB⟩
        clear hB hb_W5 x_L x_P x_g13 H
        by_cases h8 : 8 ≤ rest.length
        · have h8i : (8 : Int) ≤ rest.length := by omega
          have c0 := T.br.cell 0
          have c1 := T.br.cell 1
          simp only [List.getElem?_toArray, List.getElem?_cons_zero, List.getElem?_cons_succ] at c0 c1
          go_wp2_with fail
          refine (lenR rest _).mono ?_
          rintro e W6 ⟨rfl, hb6⟩
          have T6 := T.keep hb6
          clear c0 c1 T hb6
          have T := T6
          clear T6
          go_wp2
          (try rw [Exit.noGoto_ret])
          go_ret2
          refine .inr ⟨?_, rfl, T.be⟩
          rcases Hz.out with hz | ⟨r, hz⟩
          · rw [hz] at h8; simp at h8
          · exact no_label Hok.out (by rw [← Hl.out]; exact Heq.out) (.inr ⟨r, hz, fun hn => by omega⟩)
        · have h8i : (rest.length : Int) < 8 := by omega
          have c0 := T.br.cell 0
          have c1 := T.br.cell 1
          simp only [List.getElem?_toArray, List.getElem?_cons_zero, List.getElem?_cons_succ] at c0 c1
          go_wp2_with fail
          refine (lenR rest _).mono ?_
          rintro e W6 ⟨rfl, hb6⟩
          have T6 := T.keep hb6
          clear c0 c1 T hb6
          have T := T6
          clear T6
          have c0 := T.br.cell 0
          have c1 := T.br.cell 1
          simp only [List.getElem?_toArray, List.getElem?_cons_zero, List.getElem?_cons_succ] at c0 c1
          go_wp2_with fail
          refine (lenR rest _).mono ?_
          rintro e W6 ⟨rfl, hb6⟩
          have T6 := T.keep hb6
          clear c0 c1 T hb6
          have T := T6
          clear T6
          go_wp2_with fail
          go_loopw [92] (fun x W => ∃ k : Nat, k ≤ rest.length ∧ x = .int .i64 k ∧ Hid (∀ j, j < k → rest.getD j false = false) ∧ Lt w W gb g13 out u8 rest) (fun x _ => rest.length - (intOf x).toNat)
          case atStart => exact ⟨0, Nat.zero_le _, rfl, hide (fun j hj => absurd hj (by omega)), T⟩
          case round =>
            clear T
            obtain ⟨k, hk, rfl, hzs, T⟩ := hrel
            by_cases hlk : k < rest.length
            · cases hbk : rest.getD k false
              · have hq : (0 : Int) = atZ rest k := (atZ_in rest k false hlk hbk).symm
                have Hq := hide hq
                have Hbk := hide hbk
                clear hq hbk
                have c0 := T.br.cell 0
                have c1 := T.br.cell 1
                simp only [List.getElem?_toArray, List.getElem?_cons_zero, List.getElem?_cons_succ] at c0 c1
                go_wp2_with fail
                refine (atR rest _ _ _ (by omega) Hq.out).mono ?_
                rintro e W6 ⟨rfl, hb6⟩
                have T6 := T.keep hb6
                clear c0 c1 T hb6
                go_wp2
                go_roundw
                case rel =>
                  refine ⟨k + 1, by omega, by go_num, hide (fun j hj => ?_), T6⟩
                  by_cases hjk : j < k
                  · exact hzs.out j hjk
                  · rw [show j = k from by omega]; exact Hbk.out
                case measure => simp [intOf]; omega
              · have hq : (1 : Int) = atZ rest k := (atZ_in rest k true hlk hbk).symm
                have Hq := hide hq
                have Hbk := hide hbk
                clear hq hbk
                have c0 := T.br.cell 0
                have c1 := T.br.cell 1
                simp only [List.getElem?_toArray, List.getElem?_cons_zero, List.getElem?_cons_succ] at c0 c1
                go_wp2_with fail
                refine (atR rest _ _ _ (by omega) Hq.out).mono ?_
                rintro e W6 ⟨rfl, hb6⟩
                have T6 := T.keep hb6
                clear c0 c1 T hb6
                go_wp2
                (try rw [Exit.noGoto_ret])
                go_ret2
                refine .inr ⟨?_, rfl, T6.be⟩
                rcases Hz.out with hz | ⟨r, hz⟩
                · rw [hz] at hlk; simp at hlk
                · refine no_label Hok.out (by rw [← Hl.out]; exact Heq.out) (.inr ⟨r, hz, fun hn => ?_⟩)
                  have h1 := Hbk.out
                  rw [hn.1, nought, List.getD_eq_getElem?_getD, List.getElem?_replicate] at h1
                  split at h1 <;> cases h1
            · go_wp2
              (try rw [Exit.noGoto_ret])
              go_ret2
              refine .inl ⟨out, _, ?_, rfl, ow_mono T.own (by have := T.wb; omega), T.be⟩
              refine isL_of (k := rest.length) Hok.out (by rw [← Hn.out]; exact hle) (by omega) ?_
              rw [← Hl.out]
              have h1 := all_nought (x := rest) (fun i hi => hzs.out i (by omega))
              rw [← h1]
              exact Heq.out
      · have Hbit := hide hbit
        have hq : (1 : Int) = atZ l p := (atZ_in l p true hlt hbit).symm
        have Hq := hide hq
        clear hq hbit
        have c0 := H.ba.cell 0
        have c1 := H.bb.cell 0
        have c2 := H.bb.cell 1
        simp only [List.getElem?_toArray, List.getElem?_cons_zero, List.getElem?_cons_succ] at c0 c1 c2
        go_wp2_with fail
        refine (atR l _ _ _ (by omega) Hq.out).mono ?_
        rintro e W3 ⟨rfl, hb3⟩
        have H3 := H.keep hb3
        clear c0 c1 c2 hb3 H
        go_wp2_with fail
        obtain ⟨Bs, hBs⟩ : ∃ b, b = W3.heap.size := ⟨_, rfl⟩
        have hI : Li w W3 l gb p out u8 Bs [] (.slice none 0 0) (p + 2 * ([] : List Bool).length) :=
          ⟨H3.hp, H3.ok, H3.eq, H3.le, rfl, H3.own, fun k hk => by rw [hBs]; exact (ow_lt H3.own k hk).2, by rw [hBs]; exact H3.ba.lt, by omega, ow_nil _ _ _ _, H3.bb, H3.ba, H3.wb, H3.be⟩
        clear hBs H3 hd Hq
        go_loopw [9] (fun vs W => ∃ s, Li w W l gb p out u8 Bs s vs (p + 2 * s.length)) (fun _ W => l.length + 1 - posOf W (gb + 1))
        case atStart => exact ⟨[], hI⟩
        case round =>
          clear hI
          obtain ⟨s, I⟩ := hrel
          have hqb := I.hp
          by_cases hlt2 : p + 2 * s.length < l.length
          · cases hbit2 : l.getD (p + 2 * s.length) false
            · have hs0 : 0 < s.length := by
                rcases Nat.eq_zero_or_pos s.length with h | h
                · rw [h, Nat.mul_zero, Nat.add_zero] at hbit2; have := Hbit.out; rw [hbit2] at this; cases this
                · exact h
              have Hbit2 := hide hbit2
              have hzz : atZ l ((p + 2 * s.length : Nat) : Int) = 0 := atZ_in l _ false hlt2 hbit2
              obtain ⟨m, hm⟩ : ∃ m, s.length = m + 1 := ⟨s.length - 1, by omega⟩
              have hlm : (tx s).length = m + 1 := by rw [length_tx, hm]
              obtain ⟨g9, c9, hv, _, _, hcap⟩ := I.own2.form (by intro h; rw [h] at hlm; simp at hlm)
              rw [hlm] at hv
              subst hv
              have hz : (0 : Int) = atZ l ((p + 2 * s.length : Nat) : Int) := hzz.symm
              have Hz := hide hz
              clear hzz
              have Hm := hide hm
              have Hlm := hide hlm
              clear hz hm hlm
              go_wp2_with fail
              refine (next_any (gb + 1) gb (p + 2 * s.length) l 0 _ I.ba I.bb (by omega) (by omega) Hz.out).mono ?_
              rintro e W4 ⟨rfl, hba4, hg4⟩
              have I4 := I.next hba4 hg4
              clear hba4 hg4 Hz I
              obtain ⟨st, hst⟩ : ∃ st, st = txS s := ⟨_, rfl⟩
              have hstr : (convert 22 9 (.slice (some ⟨g9, 0, none⟩) (m + 1) c9)).run Try.prog W4 = .ok (.string st) W4 := by
                rw [hst]; exact I4.own2.rd.str (m + 1) c9 Hlm.out.symm
              have Hst := hide hst
              clear hst
              go_wp2_with fail
              refine (ofR s st _ (by omega) Hst.out).mono ?_
              rintro e W6 ⟨rfl, hb6⟩
              have I6 := I4.keep hb6
              clear hb6 I4 hstr Hst
              go_wp2_with fail
              obtain ⟨W7, hW7⟩ : ∃ W, W = W6.alloc (.cells #[.string (pk s), .int .i64 s.length] 50) := ⟨_, rfl⟩
              have x11 : Blk W7 W6.heap.size 50 #[.string (pk s), .int .i64 s.length] := by rw [hW7]; exact Blk.new _ _ _
              have I := I6.keep (W' := W7) (by rw [hW7]; exact (Below.refl _ _).alloc (Nat.le_refl _) _)
              rw [← hW7]
              clear hW7 I6
              have c0 := I.ba.cell 0
              have c1 := I.bb.cell 0
              have c2 := I.bb.cell 1
              simp only [List.getElem?_toArray, List.getElem?_cons_zero, List.getElem?_cons_succ] at c0 c1 c2
              have hlm2 : m < (tx s).length := by have := Hlm.out; omega
              have l0 := later_cell c0
              have l1 := later_cell c1
              have l2 := later_cell c2
              clear c0 c1 c2
              have hix : ∀ W, (Instr.indexAt 22 (.slice (some ⟨g9, 0, none⟩) (m + 1) c9) (.int .i64 (m : Int))).run Try.prog W = .ok (.pointer (some ⟨g9, m, none⟩)) W := fun W => by
                obtain ⟨j0, hj, _, hj1, _⟩ := info_parts byteInfo
                have := run_ix Try.underlying22 hj hj1 g9 0 (m + 1) c9 m (m : Int) rfl (by omega) W
                rwa [Nat.zero_add, Nat.mul_one] at this
              cases hL : lastOne s
              · have c3 : W7.cell? ⟨g9, m, none⟩ = some (.int .u8 48) := by rw [I.own2.cell m hlm2, tx_at s m false hlm2 (by rw [← lastOne_getD s m Hm.out, hL])]; rfl
                have l3 := later_cell c3
                have HL := hide hL
                clear c3 hL hlm2
                have hw3 : wrap64 (m : Int) = (m : Int) := by have := Hm.out; unfold wrap64; omega
                refine wp_region_later (by kernel_rfl) (by kernel_rfl) ?_
                repeat (go_big_quiet_step ((go_at_call 50; exact later_of (lenR l _))))
                refine wpQuiet_nil ?_
                intro W8 hw'
                obtain ⟨⟨W8', hb8⟩, hw''⟩ := hw'
                change W8 = W8' at hw''
                subst hw''
                have I8 := I.keep hb8
                have x12 := x11.keep hb8
                clear l0 l1 l2 l3 hb8 I x11 hw3 hix
                have I := I8
                clear I8
                go_wp2
                (try rw [Exit.noGoto_ret])
                go_ret2
                refine .inr ⟨?_, rfl, I.be⟩
                refine no_label I.ok (rest := l.drop p) (by rw [← Hl.out]; exact I.eq) (.inl ⟨l.drop (p + 1), ?_, fun s' t hst => ?_⟩)
                · rw [drop_cons l p hlt, Hbit.out]
                · rw [I.eq2, rdStep_pairs] at hst
                  (rw [drop_cons l _ hlt2, Hbit2.out] at hst; simp only [rdStep, Option.map_some, Option.some.injEq, Prod.mk.injEq, List.append_nil] at hst; rw [← hst.1]; exact HL.out)
              · have c3 : W7.cell? ⟨g9, m, none⟩ = some (.int .u8 49) := by rw [I.own2.cell m hlm2, tx_at s m true hlm2 (by rw [← lastOne_getD s m Hm.out, hL])]; rfl
                have l3 := later_cell c3
                have HL := hide hL
                clear c3 hL hlm2
                have hle3 : decide (l.length < p + 2 * s.length + 1) = false := by simp; omega
                have hw3 : wrap64 (m : Int) = (m : Int) := by have := Hm.out; unfold wrap64; omega
                refine wp_region_later (by kernel_rfl) (by kernel_rfl) ?_
                repeat (go_big_quiet_step ((go_at_call 50; exact later_of (lenR l _))))
                refine wpQuiet_nil ?_
                intro W8 hw'
                obtain ⟨⟨W8', hb8⟩, hw''⟩ := hw'
                change W8 = W8' at hw''
                subst hw''
                have I8 := I.keep hb8
                have x12 := x11.keep hb8
                clear l0 l1 l2 l3 hb8 I x11 hw3 hix
                have I := I8
                clear I8
                have d0 := x12.cell 0
                have d1 := x12.cell 1
                simp only [List.getElem?_toArray, List.getElem?_cons_zero, List.getElem?_cons_succ] at d0 d1
                have hrd := Rd.new W8 50 [.string (pk s), .int .i64 s.length]
                have hkp := (Below.refl W8.heap.size W8).alloc (Nat.le_refl _) (.cells #[.string (pk s), .int .i64 s.length] 50)
                have I9 := I.keep hkp
                have Hrd := hide hrd
                clear x12 hkp hrd
                go_wp2_with (at_builtin; refine wpList_appR rfl _ _ 46 rfl i0 _ 24 1 Try.underlying46 Hi.out.1 Hi.out.2.1 Hi.out.2.2.1 Hi.out.2.2.2 rfl (by decide) rfl rfl ?c1 I9.own Hrd.out (m := 1) rfl ?c2 ?c3 ?c4 ?_)
                case c1 => intro u hu; simp at hu; rcases hu with rfl | rfl <;> rfl
                case c2 => have := I.le; have := I.hp; omega
                case c3 => have := I.le; have := I.hp; omega
                case c4 => have := I9.hBW; have := I9.hBs; omega
                intro v' W9 hown9 hg9 _
                have H9 := I9.done hown9 hg9 HL.out hlt2 Hbit2.out
                clear hown9 hg9 I9
                go_wp2
                go_roundw
                case rel => exact ⟨_, _, H9⟩
                case measure =>
                  rw [posOf_blk H9.ba, Hpos.out]
                  have := I.hp
                  omega
            · have hz : (1 : Int) = atZ l ((p + 2 * s.length : Nat) : Int) := (atZ_in l _ true hlt2 hbit2).symm
              have Hz := hide hz
              have Hbit2 := hide hbit2
              clear hz hbit2
              go_wp2_with fail
              refine (next_any (gb + 1) gb (p + 2 * s.length) l 1 _ I.ba I.bb (by omega) (by omega) Hz.out).mono ?_
              rintro e W4 ⟨rfl, hba4, hg4⟩
              have I4 := I.next hba4 hg4
              clear hba4 hg4 Hz
              by_cases hlt3 : p + 2 * s.length + 1 < l.length
              · cases hbit3 : l.getD (p + 2 * s.length + 1) false
                · have hz : (0 : Int) = atZ l ((p + 2 * s.length + 1 : Nat) : Int) := (atZ_in l _ false hlt3 hbit3).symm
                  have Hz := hide hz
                  have Hbit3 := hide hbit3
                  clear hz hbit3
                  go_wp2_with fail
                  refine (next_any (gb + 1) gb (p + 2 * s.length + 1) l 0 _ I4.ba I4.bb (by omega) (by omega) Hz.out).mono ?_
                  rintro e W5 ⟨rfl, hba5, hg5⟩
                  have I5 := I4.next hba5 hg5
                  clear hba5 hg5 Hz I4
                  have I6 := I5.keep ((Below.refl W5.heap.size W5).alloc (Nat.le_refl _) (.cells #[.int .u8 48] 5))
                  go_wp2_with (at_builtin; refine wpList_appB rfl _ _ rfl Bs u9 (tx s) (some ⟨W5.heap.size, 0, none⟩) 1 1 [48] rfl rfl ?c1 ?c2 ?c3 ?c4 ?c5 ?_)
                  case c1 => exact I6.own2
                  case c2 => exact rd_one _ _ _ rfl
                  case c3 => rfl
                  case c4 => rw [length_tx]; simp; omega
                  case c5 => exact I6.hBW
                  intro v' W6 hown6 hg6 _
                  have I7 := I6.app false hown6 hg6 (by omega) (by omega) Hbit2.out Hbit3.out
                  clear hown6 hg6 I5 I6
                  go_wp2
                  go_roundw
                  case rel => exact ⟨_, I7⟩
                  case measure =>
                    rw [posOf_blk I.ba, posOf_blk I7.ba, List.length_append, List.length_singleton]; omega
                · have hz : (1 : Int) = atZ l ((p + 2 * s.length + 1 : Nat) : Int) := (atZ_in l _ true hlt3 hbit3).symm
                  have Hz := hide hz
                  have Hbit3 := hide hbit3
                  clear hz hbit3
                  go_wp2_with fail
                  refine (next_any (gb + 1) gb (p + 2 * s.length + 1) l 1 _ I4.ba I4.bb (by omega) (by omega) Hz.out).mono ?_
                  rintro e W5 ⟨rfl, hba5, hg5⟩
                  have I5 := I4.next hba5 hg5
                  clear hba5 hg5 Hz I4
                  have I6 := I5.keep ((Below.refl W5.heap.size W5).alloc (Nat.le_refl _) (.cells #[.int .u8 49] 5))
                  go_wp2_with (at_builtin; refine wpList_appB rfl _ _ rfl Bs u9 (tx s) (some ⟨W5.heap.size, 0, none⟩) 1 1 [49] rfl rfl ?c1 ?c2 ?c3 ?c4 ?c5 ?_)
                  case c1 => exact I6.own2
                  case c2 => exact rd_one _ _ _ rfl
                  case c3 => rfl
                  case c4 => rw [length_tx]; simp; omega
                  case c5 => exact I6.hBW
                  intro v' W6 hown6 hg6 _
                  have I7 := I6.app true hown6 hg6 (by omega) (by omega) Hbit2.out Hbit3.out
                  clear hown6 hg6 I5 I6
                  go_wp2
                  go_roundw
                  case rel => exact ⟨_, I7⟩
                  case measure =>
                    rw [posOf_blk I.ba, posOf_blk I7.ba, List.length_append, List.length_singleton]; omega
              · have hz : (-1 : Int) = atZ l ((p + 2 * s.length + 1 : Nat) : Int) := (atZ_out l _ (by omega)).symm
                have Hz := hide hz
                clear hz
                go_wp2_with fail
                refine (next_any (gb + 1) gb (p + 2 * s.length + 1) l (-1) _ I4.ba I4.bb (by omega) (by omega) Hz.out).mono ?_
                rintro e W5 ⟨rfl, hba5, hg5⟩
                have I5 := I4.next hba5 hg5
                clear hba5 hg5 Hz I4
                go_wp2
                (try rw [Exit.noGoto_ret])
                go_ret2
                refine .inr ⟨?_, rfl, I5.be⟩
                refine no_label I.ok (rest := l.drop p) (by rw [← Hl.out]; exact I.eq) (.inl ⟨l.drop (p + 1), ?_, fun s' t hst => ?_⟩)
                · rw [drop_cons l p hlt, Hbit.out]
                · exfalso
                  rw [I.eq2, rdStep_pairs, drop_cons l _ hlt2, Hbit2.out, List.drop_eq_nil_of_le (by omega)] at hst
                  simp [rdStep] at hst
          · have hs0 : 0 < s.length := by omega
            have hzz : atZ l ((p + 2 * s.length : Nat) : Int) = -1 := atZ_out l _ (by omega)
            obtain ⟨m, hm⟩ : ∃ m, s.length = m + 1 := ⟨s.length - 1, by omega⟩
            have hlm : (tx s).length = m + 1 := by rw [length_tx, hm]
            obtain ⟨g9, c9, hv, _, _, hcap⟩ := I.own2.form (by intro h; rw [h] at hlm; simp at hlm)
            rw [hlm] at hv
            subst hv
            have hz : ((-1) : Int) = atZ l ((p + 2 * s.length : Nat) : Int) := hzz.symm
            have Hz := hide hz
            clear hzz
            have Hm := hide hm
            have Hlm := hide hlm
            clear hz hm hlm
            go_wp2_with fail
            refine (next_any (gb + 1) gb (p + 2 * s.length) l (-1) _ I.ba I.bb (by omega) (by omega) Hz.out).mono ?_
            rintro e W4 ⟨rfl, hba4, hg4⟩
            have I4 := I.next hba4 hg4
            clear hba4 hg4 Hz I
            obtain ⟨st, hst⟩ : ∃ st, st = txS s := ⟨_, rfl⟩
            have hstr : (convert 22 9 (.slice (some ⟨g9, 0, none⟩) (m + 1) c9)).run Try.prog W4 = .ok (.string st) W4 := by
              rw [hst]; exact I4.own2.rd.str (m + 1) c9 Hlm.out.symm
            have Hst := hide hst
            clear hst
            go_wp2_with fail
            refine (ofR s st _ (by omega) Hst.out).mono ?_
            rintro e W6 ⟨rfl, hb6⟩
            have I6 := I4.keep hb6
            clear hb6 I4 hstr Hst
            go_wp2_with fail
            obtain ⟨W7, hW7⟩ : ∃ W, W = W6.alloc (.cells #[.string (pk s), .int .i64 s.length] 50) := ⟨_, rfl⟩
            have x11 : Blk W7 W6.heap.size 50 #[.string (pk s), .int .i64 s.length] := by rw [hW7]; exact Blk.new _ _ _
            have I := I6.keep (W' := W7) (by rw [hW7]; exact (Below.refl _ _).alloc (Nat.le_refl _) _)
            rw [← hW7]
            clear hW7 I6
            have c0 := I.ba.cell 0
            have c1 := I.bb.cell 0
            have c2 := I.bb.cell 1
            simp only [List.getElem?_toArray, List.getElem?_cons_zero, List.getElem?_cons_succ] at c0 c1 c2
            have hlm2 : m < (tx s).length := by have := Hlm.out; omega
            have l0 := later_cell c0
            have l1 := later_cell c1
            have l2 := later_cell c2
            clear c0 c1 c2
            have hix : ∀ W, (Instr.indexAt 22 (.slice (some ⟨g9, 0, none⟩) (m + 1) c9) (.int .i64 (m : Int))).run Try.prog W = .ok (.pointer (some ⟨g9, m, none⟩)) W := fun W => by
              obtain ⟨j0, hj, _, hj1, _⟩ := info_parts byteInfo
              have := run_ix Try.underlying22 hj hj1 g9 0 (m + 1) c9 m (m : Int) rfl (by omega) W
              rwa [Nat.zero_add, Nat.mul_one] at this
            cases hL : lastOne s
            · have c3 : W7.cell? ⟨g9, m, none⟩ = some (.int .u8 48) := by rw [I.own2.cell m hlm2, tx_at s m false hlm2 (by rw [← lastOne_getD s m Hm.out, hL])]; rfl
              have l3 := later_cell c3
              have HL := hide hL
              clear c3 hL hlm2
              have hw3 : wrap64 (m : Int) = (m : Int) := by have := Hm.out; unfold wrap64; omega
              refine wp_region_later (by kernel_rfl) (by kernel_rfl) ?_
              repeat (go_big_quiet_step ((go_at_call 50; exact later_of (lenR l _))))
              refine wpQuiet_nil ?_
              intro W8 hw'
              obtain ⟨⟨W8', hb8⟩, hw''⟩ := hw'
              change W8 = W8' at hw''
              subst hw''
              have I8 := I.keep hb8
              have x12 := x11.keep hb8
              clear l0 l1 l2 l3 hb8 I x11 hw3 hix
              have I := I8
              clear I8
              go_wp2
              (try rw [Exit.noGoto_ret])
              go_ret2
              refine .inr ⟨?_, rfl, I.be⟩
              refine no_label I.ok (rest := l.drop p) (by rw [← Hl.out]; exact I.eq) (.inl ⟨l.drop (p + 1), ?_, fun s' t hst => ?_⟩)
              · rw [drop_cons l p hlt, Hbit.out]
              · rw [I.eq2, rdStep_pairs] at hst
                (rw [List.drop_eq_nil_of_le (by omega)] at hst; simp [rdStep] at hst)
            · have c3 : W7.cell? ⟨g9, m, none⟩ = some (.int .u8 49) := by rw [I.own2.cell m hlm2, tx_at s m true hlm2 (by rw [← lastOne_getD s m Hm.out, hL])]; rfl
              have l3 := later_cell c3
              have HL := hide hL
              clear c3 hL hlm2
              have hle3 : decide (l.length < p + 2 * s.length + 1) = true := by simp; omega
              have hw3 : wrap64 (m : Int) = (m : Int) := by have := Hm.out; unfold wrap64; omega
              refine wp_region_later (by kernel_rfl) (by kernel_rfl) ?_
              repeat (go_big_quiet_step ((go_at_call 50; exact later_of (lenR l _))))
              refine wpQuiet_nil ?_
              intro W8 hw'
              obtain ⟨⟨W8', hb8⟩, hw''⟩ := hw'
              change W8 = W8' at hw''
              subst hw''
              have I8 := I.keep hb8
              have x12 := x11.keep hb8
              clear l0 l1 l2 l3 hb8 I x11 hw3 hix
              have I := I8
              clear I8
              go_wp2
              (try rw [Exit.noGoto_ret])
              go_ret2
              refine .inr ⟨?_, rfl, I.be⟩
              refine no_label I.ok (rest := l.drop p) (by rw [← Hl.out]; exact I.eq) (.inl ⟨l.drop (p + 1), ?_, fun s' t hst => ?_⟩)
              · rw [drop_cons l p hlt, Hbit.out]
              · rw [I.eq2, rdStep_pairs, List.drop_eq_nil_of_le (by omega)] at hst
                simp [rdStep] at hst
    · have hd : decide (p < l.length) = false := by simpa using hlt
      have c0 := H.ba.cell 0
      have c1 := H.bb.cell 0
      have c2 := H.bb.cell 1
      simp only [List.getElem?_toArray, List.getElem?_cons_zero, List.getElem?_cons_succ] at c0 c1 c2
      have l0 := later_cell c0
      have l1 := later_cell c1
      have l2 := later_cell c2
      clear c0 c1 c2
      go_wp2_with fail
      refine wp_region_later (by kernel_rfl) (by kernel_rfl) ?_
      repeat (go_big_quiet_step ((go_at_call 50; exact later_of (lenR l _))))
      refine wpQuiet_nil ?_
      intro W2 hw'
      obtain ⟨⟨W2', hb2⟩, hw''⟩ := hw'
      change W2 = W2' at hw''
      subst hw''
      have H2 := H.keep hb2
      clear l0 l1 l2 hb2 H
      have H := H2
      clear H2
      clear hd
      obtain ⟨rest, hrest⟩ : ∃ r, r = l.drop p := ⟨_, rfl⟩
      have hrl : rest.length = l.length - p := by rw [hrest, List.length_drop]
      have hcut : rest = (l.drop p).take (l.length - p) := by rw [hrest, List.take_of_length_le (by rw [List.length_drop]; exact Nat.le_refl _)]
      have hmin : (if l.length < p then (l.length : Int) else (p : Int)) = (p : Int) := if_neg (by have := H.hp; omega)
      have hp := H.hp
      have heq := H.eq
      have hok := H.ok
      have hle := H.le
      rw [← hrest] at heq
      have hz : rest = [] ∨ ∃ r, rest = false :: r := by rw [hrest]; exact (.inl (List.drop_eq_nil_of_le (by omega)))
      have Hz := hide hz
      have Hcut := hide hcut
      have Hrl := hide hrl
      have Hmin := hide hmin
      have Heq := hide heq
      have Hle := hide hle
      have Hok := hide hok
      clear hrest hcut hmin heq hle hrl hok hz
      have hB := H.be
      have x_L := H.bb
      have x_P := H.ba
      go_wp2_with fail
      have x_L : Blk W2 gb 50 #[.string (pk l), .int .i64 l.length] := x_L
      have x_P : Blk W2 (gb + 1) 3 #[.int .i64 p] := x_P
      refine wp_region_facts (R := RB W2.heap.size (pk rest) (rest.length)) [eqF W2.heap.size (pk rest) (rest.length) 77 (.agg #[.string (pk l), .int .i64 l.length]), eqF W2.heap.size (pk rest) (rest.length) 78 (.int .i64 p), eqF W2.heap.size (pk rest) (rest.length) 79 (.agg #[.string (pk l), .int .i64 l.length]), eqF W2.heap.size (pk rest) (rest.length) 80 (.int .i64 l.length), eqF W2.heap.size (pk rest) (rest.length) 81 (.int .i64 p), eqF W2.heap.size (pk rest) (rest.length) 82 (.agg #[.string (pk l), .int .i64 l.length]), eqF W2.heap.size (pk rest) (rest.length) 83 (.int .i64 l.length), eqF W2.heap.size (pk rest) (rest.length) 84 (.tuple #[.agg #[.string (pk rest), .int .i64 rest.length], .bool true]), eqF W2.heap.size (pk rest) (rest.length) 76 (.tuple #[.agg #[.string (pk rest), .int .i64 rest.length], .bool true]), eqF W2.heap.size (pk rest) (rest.length) 85 (.agg #[.string (pk rest), .int .i64 rest.length]), eqF W2.heap.size (pk rest) (rest.length) 86 (.bool true), newF W2.heap.size (pk rest) (rest.length) 13, putF W2.heap.size (pk rest) (rest.length) 13, eqF W2.heap.size (pk rest) (rest.length) 14 (.bool true)] (by kernel_rfl) (by kernel_rfl) (by kernel_rfl) (RB.refl (Nat.le_refl _)) (fun _ h => h.again) (fun _ _ _ h k => h.trans k) ?_ ?_
      · refine stepsU_cons rfl ?_ (stepsU_cons rfl ?_ (stepsU_cons rfl ?_ (stepsU_cons rfl ?_ (stepsU_cons rfl ?_ (stepsU_cons rfl ?_ (stepsU_cons rfl ?_ (stepsU_cons rfl ?_ (stepsU_cons rfl ?_ (stepsU_cons rfl ?_ (stepsU_cons rfl ?_ (stepsU_cons rfl ?_ (stepsU_cons rfl ?_ (stepsU_cons rfl ?_ (stepsU_nil))))))))))))))
        · refine stepU_plain rfl fun u wr hR hK hD => ?_; exact upon_loadB _ _ _ _ rfl (hK 4 rfl) (hR.old x_L.lt x_L) ⟨hR.again, rfl⟩
        · refine stepU_plain rfl fun u wr hR hK hD => ?_; exact upon_loadI _ _ _ rfl (hK 6 rfl) (hR.old x_P.lt x_P) ⟨hR.again, rfl⟩
        · refine stepU_plain rfl fun u wr hR hK hD => ?_; exact upon_loadB _ _ _ _ rfl (hK 4 rfl) (hR.old x_L.lt x_L) ⟨hR.again, rfl⟩
        · refine stepU_plain rfl fun u wr hR hK hD => ?_; exact upon_call1 _ _ _ Try.func50 (by kernel_rfl) rfl (hD 2 rfl) ((lenR l wr).mono fun e wn ⟨he, hb⟩ => ⟨_, he, hR.next hb, rfl⟩)
        · refine stepU_plain rfl fun u wr hR hK hD => ?_; have z78 : u 78 = _ := (hD 1 rfl); have z80 : u 80 = _ := (hD 3 rfl); exact upon_val _ (by unfold execOp; simp [go_sem, evU, z78, z80, Hmin.out]) ⟨hR.again, rfl⟩
        · refine stepU_plain rfl fun u wr hR hK hD => ?_; exact upon_loadB _ _ _ _ rfl (hK 4 rfl) (hR.old x_L.lt x_L) ⟨hR.again, rfl⟩
        · refine stepU_plain rfl fun u wr hR hK hD => ?_; exact upon_call1 _ _ _ Try.func50 (by kernel_rfl) rfl (hD 5 rfl) ((lenR l wr).mono fun e wn ⟨he, hb⟩ => ⟨_, he, hR.next hb, rfl⟩)
        · refine stepU_plain rfl fun u wr hR hK hD => ?_; exact upon_call3 _ _ _ _ _ _ _ Try.func49 (by kernel_rfl) rfl (hD 0 rfl) (hD 4 rfl) (hD 6 rfl) ((cutR l rest p l.length p (l.length - p) wr rfl (by omega) (by omega) (by omega) Hcut.out).mono fun e wn ⟨he, hb⟩ => ⟨_, he, hR.next hb, rfl⟩)
        · refine stepU_plain rfl fun u wr hR hK hD => ?_; exact upon_move _ _ rfl (hD 7 rfl) ⟨hR.again, rfl⟩
        · refine stepU_plain rfl fun u wr hR hK hD => ?_; exact upon_extract _ 0 _ _ rfl (hD 8 rfl) rfl ⟨hR.again, rfl⟩
        · refine stepU_plain rfl fun u wr hR hK hD => ?_; exact upon_extract _ 1 _ _ rfl (hD 8 rfl) rfl ⟨hR.again, rfl⟩
        · refine stepU_plain rfl fun u wr hR hK hD => ?_; exact upon_allocB rfl ⟨hR.next ((Below.refl _ _).alloc (Nat.le_refl _) _), ⟨_, rfl, Nat.le_trans hR.hB hR.be.size, .inl (heap_alloc_new _ _)⟩⟩
        · refine stepU_plain rfl fun u wr hR hK hD => ?_; obtain ⟨g, hg, hgB, hbl⟩ := hD 11 rfl; exact upon_storeB _ _ g rfl hg hgB hbl (hD 9 rfl) (Nat.le_trans hR.hB hR.be.size) fun w2 hR2 hb2 => ⟨hR2, ⟨g, hg, hgB, hb2⟩⟩
        · refine stepU_plain rfl fun u wr hR hK hD => ?_; exact upon_assign _ _ rfl (hD 10 rfl) ⟨hR.again, rfl⟩
      intro u W5 hR hF
      have e77 : u 77 = .agg #[.string (pk l), .int .i64 l.length] := hF 0 (by decide)
      have e78 : u 78 = .int .i64 p := hF 1 (by decide)
      have e79 : u 79 = .agg #[.string (pk l), .int .i64 l.length] := hF 2 (by decide)
      have e80 : u 80 = .int .i64 l.length := hF 3 (by decide)
      have e81 : u 81 = .int .i64 p := hF 4 (by decide)
      have e82 : u 82 = .agg #[.string (pk l), .int .i64 l.length] := hF 5 (by decide)
      have e83 : u 83 = .int .i64 l.length := hF 6 (by decide)
      have e84 : u 84 = .tuple #[.agg #[.string (pk rest), .int .i64 rest.length], .bool true] := hF 7 (by decide)
      have e76 : u 76 = .tuple #[.agg #[.string (pk rest), .int .i64 rest.length], .bool true] := hF 8 (by decide)
      have e85 : u 85 = .agg #[.string (pk rest), .int .i64 rest.length] := hF 9 (by decide)
      have e86 : u 86 = .bool true := hF 10 (by decide)
      have e14 : u 14 = .bool true := hF 13 (by decide)
      obtain ⟨g13, e13, hg13, x_g13⟩ := hF 12 (by decide)
      simp only [finU, Act.put, List.setIfInBounds_toArray, List.set_cons_succ, List.set_cons_zero, e77, e78, e79, e80, e81, e82, e83, e84, e76, e85, e86, e13, e14]
      clear hF e77 e78 e79 e80 e81 e82 e83 e84 e76 e85 e86 e13 e14
      have hB2 : Below w.heap.size w W5 := chain hB.drew hB.size hR.be
      have hb_W5 : Below W2.heap.size W2 W5 := ⟨hR.be.os, hR.be.tape, hR.be.output, hR.be.size, hR.be.block⟩
      have y_L : Blk W5 gb 50 #[.string (pk l), .int .i64 l.length] := hR.old x_L.lt x_L
      have y_P : Blk W5 (gb + 1) 3 #[.int .i64 p] := hR.old x_P.lt x_P
      clear hB hR x_L x_P
      have hB := hB2
      clear hB2
      have x_L := y_L
      have x_P := y_P
      clear y_L y_P
      have T : Lt w W5 gb g13 out u8 rest := ⟨ow_keep H.own hb_W5, x_g13, H.wb, hB⟩
      clear hB hb_W5 x_L x_P x_g13 H
      by_cases h8 : 8 ≤ rest.length
      · have h8i : (8 : Int) ≤ rest.length := by omega
        have c0 := T.br.cell 0
        have c1 := T.br.cell 1
        simp only [List.getElem?_toArray, List.getElem?_cons_zero, List.getElem?_cons_succ] at c0 c1
        go_wp2_with fail
        refine (lenR rest _).mono ?_
        rintro e W6 ⟨rfl, hb6⟩
        have T6 := T.keep hb6
        clear c0 c1 T hb6
        have T := T6
        clear T6
        go_wp2
        (try rw [Exit.noGoto_ret])
        go_ret2
        refine .inr ⟨?_, rfl, T.be⟩
        rcases Hz.out with hz | ⟨r, hz⟩
        · rw [hz] at h8; simp at h8
        · exact no_label Hok.out (by rw [← Hl.out]; exact Heq.out) (.inr ⟨r, hz, fun hn => by omega⟩)
      · have h8i : (rest.length : Int) < 8 := by omega
        have c0 := T.br.cell 0
        have c1 := T.br.cell 1
        simp only [List.getElem?_toArray, List.getElem?_cons_zero, List.getElem?_cons_succ] at c0 c1
        go_wp2_with fail
        refine (lenR rest _).mono ?_
        rintro e W6 ⟨rfl, hb6⟩
        have T6 := T.keep hb6
        clear c0 c1 T hb6
        have T := T6
        clear T6
        have c0 := T.br.cell 0
        have c1 := T.br.cell 1
        simp only [List.getElem?_toArray, List.getElem?_cons_zero, List.getElem?_cons_succ] at c0 c1
        go_wp2_with fail
        refine (lenR rest _).mono ?_
        rintro e W6 ⟨rfl, hb6⟩
        have T6 := T.keep hb6
        clear c0 c1 T hb6
        have T := T6
        clear T6
        go_wp2_with fail
        go_loopw [92] (fun x W => ∃ k : Nat, k ≤ rest.length ∧ x = .int .i64 k ∧ Hid (∀ j, j < k → rest.getD j false = false) ∧ Lt w W gb g13 out u8 rest) (fun x _ => rest.length - (intOf x).toNat)
        case atStart => exact ⟨0, Nat.zero_le _, rfl, hide (fun j hj => absurd hj (by omega)), T⟩
        case round =>
          clear T
          obtain ⟨k, hk, rfl, hzs, T⟩ := hrel
          by_cases hlk : k < rest.length
          · cases hbk : rest.getD k false
            · have hq : (0 : Int) = atZ rest k := (atZ_in rest k false hlk hbk).symm
              have Hq := hide hq
              have Hbk := hide hbk
              clear hq hbk
              have c0 := T.br.cell 0
              have c1 := T.br.cell 1
              simp only [List.getElem?_toArray, List.getElem?_cons_zero, List.getElem?_cons_succ] at c0 c1
              go_wp2_with fail
              refine (atR rest _ _ _ (by omega) Hq.out).mono ?_
              rintro e W6 ⟨rfl, hb6⟩
              have T6 := T.keep hb6
              clear c0 c1 T hb6
              go_wp2
              go_roundw
              case rel =>
                refine ⟨k + 1, by omega, by go_num, hide (fun j hj => ?_), T6⟩
                by_cases hjk : j < k
                · exact hzs.out j hjk
                · rw [show j = k from by omega]; exact Hbk.out
              case measure => simp [intOf]; omega
            · have hq : (1 : Int) = atZ rest k := (atZ_in rest k true hlk hbk).symm
              have Hq := hide hq
              have Hbk := hide hbk
              clear hq hbk
              have c0 := T.br.cell 0
              have c1 := T.br.cell 1
              simp only [List.getElem?_toArray, List.getElem?_cons_zero, List.getElem?_cons_succ] at c0 c1
              go_wp2_with fail
              refine (atR rest _ _ _ (by omega) Hq.out).mono ?_
              rintro e W6 ⟨rfl, hb6⟩
              have T6 := T.keep hb6
              clear c0 c1 T hb6
              go_wp2
              (try rw [Exit.noGoto_ret])
              go_ret2
              refine .inr ⟨?_, rfl, T6.be⟩
              rcases Hz.out with hz | ⟨r, hz⟩
              · rw [hz] at hlk; simp at hlk
              · refine no_label Hok.out (by rw [← Hl.out]; exact Heq.out) (.inr ⟨r, hz, fun hn => ?_⟩)
                have h1 := Hbk.out
                rw [hn.1, nought, List.getD_eq_getElem?_getD, List.getElem?_replicate] at h1
                split at h1 <;> cases h1
          · go_wp2
            (try rw [Exit.noGoto_ret])
            go_ret2
            refine .inl ⟨out, _, ?_, rfl, ow_mono T.own (by have := T.wb; omega), T.be⟩
            refine isL_of (k := rest.length) Hok.out (by rw [← Hn.out]; exact hle) (by omega) ?_
            rw [← Hl.out]
            have h1 := all_nought (x := rest) (fun i hi => hzs.out i (by omega))
            rw [← h1]
            exact Heq.out
end Go.Proofs.Ytofbcgehemclbaa

