/- parchmentkit: putItems. parchmentkit: apart of a bag that holds rows of items alone. parchmentkit.ApartItems of rows that lie apart. strings.Builder's WriteRune over this translation (after the library's own proofs: copyCheck is walked here). key.Whole at small numerals and at what is none. value.number. cmp.Compare at int64 and at one text; value.order at what awake asks. value.holds. -/
import Derived.Test.YtmhnndgnnpondaaGreatDoorIf0
import Derived.Test.YtmhnndgnnpondaaGreatDoorIf3
import Derived.Test.YtmhnndgnnpondaaGreatDoorC00
import Derived.Test.YtmhnndgnnpondaaGreatDoorC01
import Derived.Shelf.Strings.BuilderRune
import Derived.Lib.SmallJoins
namespace Go.Proofs.YtmhnndgnnpondaaGreatDoor
open Go.RowKit
def bagI (v : Value) : Array Value := #[.slice none 0 0, .slice none 0 0, .slice none 0 0, .slice none 0 0, .slice none 0 0, .slice none 0 0, .slice none 0 0, .slice none 0 0, .slice none 0 0, .slice none 0 0, .slice none 0 0, .slice none 0 0, .slice none 0 0, .slice none 0 0, v, .slice none 0 0, .slice none 0 0, .slice none 0 0]
set_option maxRecDepth 100000 in
set_option maxHeartbeats 2000000 in
theorem putItems_any (gbg B n m c : Nat) (v : Value) (a : Option Addr) (xs : List Value) (w : World) (hbg : Blk w gbg 92 (bagI v)) (ho : w.ownsRow B 22 1 v n xs) (hBg : gbg < B) (hB : B ≤ w.heap.size) (hn : n ≤ 1000) :
  Calls Tryz.prog 55 #[.pointer (some ⟨gbg, 0, none⟩), .slice a m c] w fun e w' => e = .returned (.tuple #[]) ∧
   ∃ v', Blk w' gbg 92 (bagI v') ∧ w'.ownsRow B 22 1 v' (n + 1) (xs ++ [.slice a m c]) ∧ Below gbg w w' := by
 obtain ⟨i1, hi1, hi2, hi3, hi4⟩ := info_parts rowInfo
 have Hi : Hid (Tryz.prog.info? 22 = some i1 ∧ i1.zero = some (.slice none 0 0) ∧ i1.size = 1 ∧ i1.bytes = 24) := ⟨hi1, hi2, hi3, hi4⟩
 obtain ⟨av, cv, hv⟩ := ow_forms ho
 subst hv
 have c4 : w.cell? ⟨gbg, 14, none⟩ = some (.slice av n cv) := hbg.cell 14
 have hk := (Below.refl w.heap.size w).alloc (Nat.le_refl _) (.cells #[.slice a m c] 22)
 have ho1 := ow_keep ho hk
 have hb1 := hbg.keep hk
 have hrd := Rd.new w 22 [.slice a m c]
 have Ho1 := hide ho1
 have Hb1 := hide hb1
 have Hrd := hide hrd
 clear hi1 hi2 hi3 hi4 ho hbg ho1 hb1 hrd
 go_enter Tryz.func55, Tryz.ntmps55
 go_wp2_with (at_builtin; refine wpList_appR rfl _ _ 33 rfl i1 _ 24 1 Tryz.underlying33 Hi.out.1 Hi.out.2.1 Hi.out.2.2.1 Hi.out.2.2.2 rfl (by decide) rfl rfl ?e1 Ho1.out Hrd.out (m := 1) rfl ?e2 ?e3 ?e4 ?_)
 case e1 => intro u hu; simp at hu; subst hu; rfl
 case e2 => omega
 case e3 => omega
 case e4 => simp; omega
 intro v' W3 own3 hg3 hv3
 have hbl := fun b hb => (ow_lt Ho1.out b hb).1
 have hb3 : Blk W3 gbg 92 (bagI (.slice av n cv)) := Hb1.out.other hg3 fun e => by have := hbl gbg e; omega
 have hB3 : Below gbg w W3 := (((Below.refl gbg w).alloc (by omega) _).grown hg3 (by simp; omega) fun b hb => by have := hbl b hb; omega)
 obtain ⟨a', c', hv'⟩ := ow_forms own3
 subst hv'
 have d4 : W3.cell? ⟨gbg, 14, none⟩ = some (.slice av n cv) := hb3.cell 14
 have f4 := hb3.frozen 14
 have hb4 : Blk (W3.setCell ⟨gbg, 14, none⟩ (.slice a' (n + 1) c')) gbg 92 (bagI (.slice a' (n + 1) c')) := hb3.set_ 14 _
 have hB4 : Below gbg w (W3.setCell ⟨gbg, 14, none⟩ (.slice a' (n + 1) c')) := hB3.setCell (p := ⟨gbg, 14, none⟩) (Nat.le_refl _) _
 have own4 : (W3.setCell ⟨gbg, 14, none⟩ (.slice a' (n + 1) c')).ownsRow B 22 1 (.slice a' (n + 1) c') (n + 1) (xs ++ [.slice a m c]) := by
  refine World.ownsRow.kept own3 (grown_setCell W3 ⟨gbg, 14, none⟩ (.slice a' (n + 1) c')) ?_
  cases hv : (Value.slice a' (n + 1) c').ownBlock with
  | none => exact .inl rfl
  | some b => exact .inr fun e => by injection e with e; have := (ow_lt own3 b hv).1; dsimp only at e; omega
 have Hb4 := hide hb4
 have Hown4 := hide own4
 clear own3 hg3 hv3 hb3 hb4 own4 c4 Ho1 Hb1 Hrd hB3
 go_wp2
 go_end0
 exact ⟨rfl, _, Hb4.out, Hown4.out, hB4⟩
end Go.Proofs.YtmhnndgnnpondaaGreatDoor
namespace Go.Proofs.YtmhnndgnnpondaaGreatDoor
open Go.RowKit
theorem KeptI.trans {ps : List PcI} {w W W' : World} (h : KeptI ps w W) (k : KeptI ps W W') : KeptI ps w W' :=
 ⟨k.os.trans h.os, k.tape.trans h.tape, k.output.trans h.output, Nat.le_trans h.size k.size, fun g hg hp => (k.block g (Nat.lt_of_lt_of_le hg h.size) hp).trans (h.block g hg hp)⟩
set_option maxRecDepth 100000 in
set_option maxHeartbeats 2000000 in
theorem apart_any (gbg gl cl N : Nat) (ps : List PcI) (w : World) (hbg : Blk w gbg 92 (bagI (.slice (some ⟨gl, 0, none⟩) N cl))) (hN : N = ps.length) (hNb : N ≤ 1000) (hls : Ls w gl cl ps) (hal : All w ps (fun _ _ => [])) (hd : Dist ps)
  (hsm : ∀ p ∈ ps, p.2.1 ≤ 1000 ∧ p.2.1 ≤ p.2.2.1) (hpg : ∀ p ∈ ps, p.1 ≠ some gbg) :
  Calls Tryz.prog 56 #[.pointer (some ⟨gbg, 0, none⟩)] w fun e w' => e = .returned (.bool true) ∧ KeptI ps w w' := by
 have hK := KeptI.refl ps w
 have HN := hide hN
 have Hd := hide hd
 have Hsm := hide hsm
 have Hpg := hide hpg
 clear hN hd hsm hpg
 have Hbg := hide hbg
 have Hls := hide hls
 have Hal := hide hal
 clear hbg hls hal
 have c : w.cell? ⟨gbg, 0, none⟩ = some (.slice none 0 0) := Hbg.out.cell 0
 go_enter Tryz.func56, Tryz.ntmps56
 go_wp2_with fail
 refine (flatWords_nil _).mono ?_
 rintro e w1 ⟨rfl, hb⟩
 have Hbg := hide (Hbg.out.keep hb)
 have hK := hK.keep hb
 have Hls := hide (Hls.out.keep hb)
 have Hal := hide (Hal.out.keep hb)
 clear hb
 clear c
 have c : w1.cell? ⟨gbg, 1, none⟩ = some (.slice none 0 0) := Hbg.out.cell 1
 go_wp2_with fail
 refine (flatInts_nil _).mono ?_
 rintro e w2 ⟨rfl, hb⟩
 have Hbg := hide (Hbg.out.keep hb)
 have hK := hK.keep hb
 have Hls := hide (Hls.out.keep hb)
 have Hal := hide (Hal.out.keep hb)
 clear hb
 clear c
 have c : w2.cell? ⟨gbg, 2, none⟩ = some (.slice none 0 0) := Hbg.out.cell 2
 go_wp2_with fail
 refine (flatLongs_nil _).mono ?_
 rintro e w3 ⟨rfl, hb⟩
 have Hbg := hide (Hbg.out.keep hb)
 have hK := hK.keep hb
 have Hls := hide (Hls.out.keep hb)
 have Hal := hide (Hal.out.keep hb)
 clear hb
 clear c
 have c : w3.cell? ⟨gbg, 3, none⟩ = some (.slice none 0 0) := Hbg.out.cell 3
 go_wp2_with fail
 refine (flatTexts_nil _).mono ?_
 rintro e w4 ⟨rfl, hb⟩
 have Hbg := hide (Hbg.out.keep hb)
 have hK := hK.keep hb
 have Hls := hide (Hls.out.keep hb)
 have Hal := hide (Hal.out.keep hb)
 clear hb
 clear c
 have c : w4.cell? ⟨gbg, 4, none⟩ = some (.slice none 0 0) := Hbg.out.cell 4
 go_wp2_with fail
 refine (flatBytes_nil _).mono ?_
 rintro e w5 ⟨rfl, hb⟩
 have Hbg := hide (Hbg.out.keep hb)
 have hK := hK.keep hb
 have Hls := hide (Hls.out.keep hb)
 have Hal := hide (Hal.out.keep hb)
 clear hb
 clear c
 have c : w5.cell? ⟨gbg, 5, none⟩ = some (.slice none 0 0) := Hbg.out.cell 5
 go_wp2_with fail
 refine (flatNodes_nil _).mono ?_
 rintro e w6 ⟨rfl, hb⟩
 have Hbg := hide (Hbg.out.keep hb)
 have hK := hK.keep hb
 have Hls := hide (Hls.out.keep hb)
 have Hal := hide (Hal.out.keep hb)
 clear hb
 clear c
 have c : w6.cell? ⟨gbg, 6, none⟩ = some (.slice none 0 0) := Hbg.out.cell 6
 go_wp2_with fail
 refine (flatFates_nil _).mono ?_
 rintro e w7 ⟨rfl, hb⟩
 have Hbg := hide (Hbg.out.keep hb)
 have hK := hK.keep hb
 have Hls := hide (Hls.out.keep hb)
 have Hal := hide (Hal.out.keep hb)
 clear hb
 clear c
 have c : w7.cell? ⟨gbg, 7, none⟩ = some (.slice none 0 0) := Hbg.out.cell 7
 go_wp2_with fail
 refine (flatSpans_nil _).mono ?_
 rintro e w8 ⟨rfl, hb⟩
 have Hbg := hide (Hbg.out.keep hb)
 have hK := hK.keep hb
 have Hls := hide (Hls.out.keep hb)
 have Hal := hide (Hal.out.keep hb)
 clear hb
 clear c
 have c : w8.cell? ⟨gbg, 8, none⟩ = some (.slice none 0 0) := Hbg.out.cell 8
 go_wp2_with fail
 refine (flatDirties_nil _).mono ?_
 rintro e w9 ⟨rfl, hb⟩
 have Hbg := hide (Hbg.out.keep hb)
 have hK := hK.keep hb
 have Hls := hide (Hls.out.keep hb)
 have Hal := hide (Hal.out.keep hb)
 clear hb
 clear c
 have c : w9.cell? ⟨gbg, 9, none⟩ = some (.slice none 0 0) := Hbg.out.cell 9
 go_wp2_with fail
 refine (flatRecords_nil _).mono ?_
 rintro e w10 ⟨rfl, hb⟩
 have Hbg := hide (Hbg.out.keep hb)
 have hK := hK.keep hb
 have Hls := hide (Hls.out.keep hb)
 have Hal := hide (Hal.out.keep hb)
 clear hb
 clear c
 have c : w10.cell? ⟨gbg, 10, none⟩ = some (.slice none 0 0) := Hbg.out.cell 10
 go_wp2_with fail
 refine (flatCells_nil _).mono ?_
 rintro e w11 ⟨rfl, hb⟩
 have Hbg := hide (Hbg.out.keep hb)
 have hK := hK.keep hb
 have Hls := hide (Hls.out.keep hb)
 have Hal := hide (Hal.out.keep hb)
 clear hb
 clear c
 have c : w11.cell? ⟨gbg, 11, none⟩ = some (.slice none 0 0) := Hbg.out.cell 11
 go_wp2_with fail
 refine (flatHelds_nil _).mono ?_
 rintro e w12 ⟨rfl, hb⟩
 have Hbg := hide (Hbg.out.keep hb)
 have hK := hK.keep hb
 have Hls := hide (Hls.out.keep hb)
 have Hal := hide (Hal.out.keep hb)
 clear hb
 clear c
 have c : w12.cell? ⟨gbg, 12, none⟩ = some (.slice none 0 0) := Hbg.out.cell 12
 go_wp2_with fail
 refine (flatTokens_nil _).mono ?_
 rintro e w13 ⟨rfl, hb⟩
 have Hbg := hide (Hbg.out.keep hb)
 have hK := hK.keep hb
 have Hls := hide (Hls.out.keep hb)
 have Hal := hide (Hal.out.keep hb)
 clear hb
 clear c
 have c : w13.cell? ⟨gbg, 13, none⟩ = some (.slice none 0 0) := Hbg.out.cell 13
 go_wp2_with fail
 refine (flatExprs_nil _).mono ?_
 rintro e w14 ⟨rfl, hb⟩
 have Hbg := hide (Hbg.out.keep hb)
 have hK := hK.keep hb
 have Hls := hide (Hls.out.keep hb)
 have Hal := hide (Hal.out.keep hb)
 clear hb
 clear c
 have c : w14.cell? ⟨gbg, 14, none⟩ = some (.slice (some ⟨gl, 0, none⟩) N cl) := Hbg.out.cell 14
 go_wp2_with fail
 refine (flatItems_any gl cl N ps _ HN.out hNb Hls.out Hal.out Hd.out Hsm.out).mono ?_
 rintro e w15 ⟨rfl, hk⟩
 have hq : Blk w15 gbg 92 (bagI (.slice (some ⟨gl, 0, none⟩) N cl)) := (hk.block gbg Hbg.out.lt Hpg.out).trans Hbg.out
 have Hbg := hide hq
 clear hq
 have hK := hK.trans hk
 clear c
 have c : w15.cell? ⟨gbg, 15, none⟩ = some (.slice none 0 0) := Hbg.out.cell 15
 go_wp2_with fail
 refine (flatShowns_nil _).mono ?_
 rintro e w16 ⟨rfl, hb⟩
 have Hbg := hide (Hbg.out.keep hb)
 have hK := hK.keep hb
 clear hb
 clear c
 have c : w16.cell? ⟨gbg, 16, none⟩ = some (.slice none 0 0) := Hbg.out.cell 16
 go_wp2_with fail
 refine (flatParts_nil _).mono ?_
 rintro e w17 ⟨rfl, hb⟩
 have Hbg := hide (Hbg.out.keep hb)
 have hK := hK.keep hb
 clear hb
 clear c
 have c : w17.cell? ⟨gbg, 17, none⟩ = some (.slice none 0 0) := Hbg.out.cell 17
 go_wp2_with fail
 refine (flatCommands_nil _).mono ?_
 rintro e w18 ⟨rfl, hb⟩
 have Hbg := hide (Hbg.out.keep hb)
 have hK := hK.keep hb
 clear hb
 clear c
 go_wp2
 go_ret
 exact ⟨rfl, hK⟩
end Go.Proofs.YtmhnndgnnpondaaGreatDoor
namespace Go.Proofs.YtmhnndgnnpondaaGreatDoor
open Go.RowKit
set_option maxRecDepth 100000 in
set_option maxHeartbeats 2000000 in
theorem apartItems_any (a : Option Addr) (N c : Nat) (ps : List PcI) (w : World) (hr : Rd w a (ps.map piV)) (hN : N = ps.length) (hN0 : ps ≠ []) (hNb : N ≤ 1000) (hal : All w ps (fun _ _ => [])) (hd : Dist ps) (hsm : ∀ p ∈ ps, p.2.1 ≤ 1000 ∧ p.2.1 ≤ p.2.2.1) :
  Calls Tryz.prog 18 #[.slice a N c] w fun e w' => e = .returned (.bool true) ∧ KeptI ps w w' := by
 have HN := hide hN
 have Hd := hide hd
 have Hsm := hide hsm
 have Hr := hide hr
 have Hal := hide hal
 have hN1 : 0 < N := by rw [hN]; exact List.length_pos_iff.2 hN0
 clear hN hd hsm hr hal
 go_enter Tryz.func18, Tryz.ntmps18
 go_wp2_with fail
 obtain ⟨W0, hW0⟩ : ∃ W, W = w.alloc (.cells (bagI (.slice none 0 0)) 92) := ⟨_, rfl⟩
 have hbg : Blk W0 w.heap.size 92 (bagI (.slice none 0 0)) := by rw [hW0]; exact Blk.new _ _ _
 have hb0 : Below w.heap.size w W0 := by rw [hW0]; exact (Below.refl _ _).alloc (Nat.le_refl _) _
 have hz0 : w.heap.size + 1 ≤ W0.heap.size := by rw [hW0]; simp
 change Code.wp _ _ _ _ _ at ⊢
 rw [show (w.alloc (.cells #[.slice none 0 0, .slice none 0 0, .slice none 0 0, .slice none 0 0, .slice none 0 0, .slice none 0 0, .slice none 0 0, .slice none 0 0, .slice none 0 0, .slice none 0 0, .slice none 0 0, .slice none 0 0, .slice none 0 0, .slice none 0 0, .slice none 0 0, .slice none 0 0, .slice none 0 0, .slice none 0 0] 92)) = W0 from hW0.symm]
 clear hW0
 go_loopw [4] (fun x W => ∃ (k : Nat) (v : Value), k ≤ N ∧ x = .int .i64 k ∧ Blk W w.heap.size 92 (bagI v) ∧ W.ownsRow (w.heap.size + 1) 22 1 v k ((ps.map piV).take k) ∧ Below w.heap.size w W ∧ w.heap.size + 1 ≤ W.heap.size) (fun x _ => N - (intOf x).toNat)
 case atStart => exact ⟨0, _, Nat.zero_le _, rfl, hbg, ow_nil _ _ _ _, hb0, hz0⟩
 case round =>
  clear hbg hb0 hz0
  obtain ⟨k, v, hk, rfl, hbg, own, hB, hz⟩ := hrel
  by_cases hkN : k < N
  ·obtain ⟨p, hp⟩ : ∃ p, ps[k]? = some p := ⟨_, List.getElem?_eq_getElem (by rw [← HN.out]; exact hkN)⟩
   have hx : (ps.map piV)[k]? = some (piV p) := by simp [hp]
   have htk : (ps.map piV).take (k + 1) = (ps.map piV).take k ++ [piV p] := by
    have hl : k < (ps.map piV).length := by rw [List.length_map, ← HN.out]; exact hkN
    rw [List.take_succ_eq_append_getElem hl]
    rw [List.getElem?_eq_getElem hl] at hx
    injection hx with hx
    rw [hx]
   obtain ⟨b, off, ha, hcell⟩ := (Hr.out.keep hB).cellAt k _ hx
   subst ha
   obtain ⟨pb, n, cp, pa⟩ := p
   have hcell : wr.cell? ⟨b, off + k, none⟩ = some (.slice pa n cp) := hcell
   have hix := fun W => ix_row b off N c k hkN W
   have Hbg := hide hbg
   have Hown := hide own
   have Htk := hide htk
   clear hbg own htk hx
   go_wp2_with fail
   refine (putItems_any w.heap.size (w.heap.size + 1) k n cp v pa _ _ Hbg.out Hown.out (by omega) hz (by omega)).mono ?_
   rintro e W1 ⟨rfl, v', hbg1, own1, hB1⟩
   have hB2 : Below w.heap.size w W1 := hB.trans hB1
   have hz1 : w.heap.size + 1 ≤ W1.heap.size := Nat.le_trans hz hB1.size
   have own2 : W1.ownsRow (w.heap.size + 1) 22 1 v' (k + 1) ((ps.map piV).take (k + 1)) := by rw [Htk.out]; exact own1
   clear hcell hB1 own1 Hbg Hown Htk
   go_wp2
   go_roundw
   case rel => exact ⟨k + 1, v', by omega, by go_num, hbg1, own2, hB2, hz1⟩
   case measure => simp [intOf]; omega
  ·have hkN' : k = N := by omega
   subst hkN'
   have htk : (ps.map piV).take k = ps.map piV := List.take_of_length_le (by rw [List.length_map, ← HN.out]; exact Nat.le_refl _)
   rw [htk] at own
   obtain ⟨gl, cl, hv, _, _, _⟩ := ow_form own (by omega)
   subst hv
   have hls : Ls wr gl cl ps := by
    unfold Ls
    rw [← HN.out]
    exact ow_mono own (Nat.zero_le _)
   have hal1 : All wr ps (fun _ _ => []) := Hal.out.keep hB
   have hpg : ∀ p ∈ ps, p.1 ≠ some w.heap.size := fun p hp e => by
    obtain ⟨j, hj⟩ := List.mem_iff_getElem?.1 hp
    have := (Hal.out j p hj).lt _ e
    omega
   have hK := (KeptI.refl ps w).keep hB
   have Hbg := hide hbg
   have Hls := hide hls
   have Hal1 := hide hal1
   have Hpg := hide hpg
   clear hbg own hls hal1 hpg htk
   go_wp2_with fail
   refine (apart_any w.heap.size gl cl k ps _ Hbg.out HN.out hNb Hls.out Hal1.out Hd.out Hsm.out Hpg.out).mono ?_
   rintro e W1 ⟨rfl, hk1⟩
   have hK1 := hK.trans hk1
   go_wp2
   go_ret
   exact ⟨rfl, hK1⟩
end Go.Proofs.YtmhnndgnnpondaaGreatDoor
namespace Go.Proofs.YtmhnndgnnpondaaGreatDoor
set_option maxRecDepth 100000
set_option maxHeartbeats 4000000
open Go.RowKit
theorem bldInfo : (Tryz.prog.info? 146).map (fun i => i.size) = some 2 := by kernel_rfl
theorem cc_used (b : Nat) (w : World) (h0 : w.cell? ⟨b, 0, none⟩ = some (.pointer (some ⟨b, 0, none⟩))) :
  Calls Tryz.prog 159 #[.pointer (some ⟨b, 0, none⟩)] w fun e w' => e = .returned (.tuple #[]) ∧ w' = w := by
 obtain ⟨j, hj, _⟩ := Option.map_eq_some_iff.1 bldInfo
 have hne := Lib.run_neq_ptr_same w (P := Tryz.prog) ⟨b, 0, none⟩ Tryz.underlying143 hj
 go_enter Tryz.func159, Tryz.ntmps159
 go_wp2
 go_end0
 exact ⟨rfl, rfl⟩
theorem cc_fresh (b : Nat) (w : World) (h0 : w.cell? ⟨b, 0, none⟩ = some (.pointer none)) (hsh : w.shape? b = some (146, 2)) (hfz : w.frozen? ⟨b, 0, none⟩ = false) :
  Calls Tryz.prog 159 #[.pointer (some ⟨b, 0, none⟩)] w fun e w' => e = .returned (.tuple #[]) ∧ w' = w.setCell ⟨b, 0, none⟩ (.pointer (some ⟨b, 0, none⟩)) := by
 obtain ⟨j, hj, hjs⟩ := Option.map_eq_some_iff.1 bldInfo
 go_enter Tryz.func159, Tryz.ntmps159
 go_wp2
 rw [Lib.run_to_unsafe w ⟨b, 0, none⟩ Tryz.underlying143 Tryz.underlying257 hj (by rw [hjs]; decide) hsh (Nat.zero_lt_succ 1)]
 simp only [Result.andThen]
 rw [Oper.upon_value]
 go_wp2
 rw [run_callFunc_extern Tryz.func178 (by kernel_rfl) (by kernel_rfl) (by kernel_rfl) (e := Extern.AbiNoEscape.same) (by kernel_rfl)]
 rw [Lib.run_noEscape]
 simp only [Result.andThen]
 rw [Oper.upon_value]
 go_wp2
 rw [Lib.run_from_unsafe w ⟨b, 0, none⟩ Tryz.underlying257 Tryz.underlying143 hj hsh (by kernel_rfl)]
 simp only [Result.andThen]
 rw [Oper.upon_value]
 go_wp2
 go_end0
 exact ⟨rfl, rfl⟩
theorem cc_any (B b : Nat) (bs : List Value) (w : World) (h : Lib.IsBuilderF 146 5 B b bs w) :
  Calls Tryz.prog 159 #[.pointer (some ⟨b, 0, none⟩)] w fun e w' => e = .returned (.tuple #[]) ∧ (Lib.BuilderAtF 146 5 B b (.pointer (some ⟨b, 0, none⟩)) bs w' ∧ Below B w w' ∧ Lib.OthersKept 5 (some b) w w') := by
 rcases h with h | h
 ·refine (cc_fresh b w h.cell0 h.shape h.frozen0).mono ?_
  rintro e w' ⟨rfl, rfl⟩
  exact ⟨rfl, h.used _, (Below.refl B w).setCell (p := ⟨b, 0, none⟩) h.1 _, (Lib.OthersKept.refl _ _ w).setCell ⟨b, 0, none⟩ rfl _⟩
 ·refine (cc_used b w h.cell0).mono ?_
  rintro e w' ⟨rfl, rfl⟩
  exact ⟨rfl, h, Below.refl B _, Lib.OthersKept.refl _ _ _⟩
theorem wr_any (B b : Nat) (bs : List Value) (r : Int) (hr0 : -2147483648 ≤ r) (hr1 : r ≤ 2147483647) (w : World) (h : Lib.IsBuilderF 146 5 B b bs w) (hlen : bs.length + 4 ≤ 140737488355328) (hBw : B ≤ w.heap.size) :
  Calls Tryz.prog 114 #[.pointer (some ⟨b, 0, none⟩), .int .i32 r] w fun e w' => e = .returned (.tuple #[.int .i64 (Lib.runeCells r).length, .nilIface]) ∧ (Lib.BuilderAtF 146 5 B b (.pointer (some ⟨b, 0, none⟩)) (bs ++ Lib.runeCells r) w' ∧ Below B w w' ∧ Lib.OthersKept 5 (some b) w w') := by
 have hk4 := Lib.runeCells_le r
 go_enter Tryz.func114, Tryz.ntmps114
 go_wp2_with (go_at_call 159; refine (cc_any B b bs _ h).mono ?_)
 rintro e w1 ⟨rfl, h1, hb1, hk1⟩
 obtain ⟨hB, v, hbk, hown, hne⟩ := h1
 obtain ⟨ao, cap, rfl⟩ : ∃ ao cap, v = .slice ao bs.length cap := by
  rcases hown.2 with ⟨hv, h0⟩ | ⟨g, cap, cur, fz, hv, _⟩
  ·exact ⟨none, 0, by rw [hv, h0]⟩
  ·exact ⟨_, _, hv⟩
 have c0 : w1.cell? ⟨b, 0, none⟩ = some (.pointer (some ⟨b, 0, none⟩)) := by rw [Lib.cell_of_heap hbk]; rfl
 have c1 : w1.cell? ⟨b, 1, none⟩ = some (.slice ao bs.length cap) := by rw [Lib.cell_of_heap hbk]; rfl
 go_wp2_with (go_at_call 160; refine (Tryz.utf8_AppendRune_row B _ bs.length bs r hr0 hr1 _ hown hlen (by have := hb1.size; omega)).mono ?_)
 rintro e w2 ⟨v', rfl, hown', o, hgrow⟩
 have hlt : b < w1.heap.size := by
  rcases Nat.lt_or_ge b w1.heap.size with h' | h'
  ·exact h'
  ·simp [Array.getElem?_eq_none h'] at hbk
 have hb2 : w2.heap[b]? = some (.cells #[.pointer (some ⟨b, 0, none⟩), .slice ao bs.length cap] 146 (0, 0)) := by
  rw [hgrow.block b (by simp; omega) (fun e => hne e.symm), Lib.alloc_old w1 _ b hlt]
  exact hbk
 have d0 : w2.cell? ⟨b, 0, none⟩ = some (.pointer (some ⟨b, 0, none⟩)) := by rw [Lib.cell_of_heap hb2]; rfl
 have d1 : w2.cell? ⟨b, 1, none⟩ = some (.slice ao bs.length cap) := by rw [Lib.cell_of_heap hb2]; rfl
 have f1 : w2.frozen? ⟨b, 1, none⟩ = false := Lib.frozen_of_heap hb2 1
 obtain ⟨g, cap', rfl⟩ : ∃ g cap', v' = .slice (some ⟨g, 0, none⟩) (bs.length + (Lib.runeCells r).length) cap' := by
  rcases hown'.2 with ⟨_, h0⟩ | ⟨g, cap', cur, fz, hv, _⟩
  ·omega
  ·exact ⟨g, cap', hv⟩
 go_wp2
 go_ret2
 refine ⟨?_, ?_, ?_, ((hk1.alloc _).grown hgrow (Lib.ownsRowF_kind (hown.alloc _))).setCell ⟨b, 1, none⟩ rfl _⟩
 ·have e : ((bs.length : Int) + ((Lib.runeCells r).length : Int) - (bs.length : Int)) = ((Lib.runeCells r).length : Int) := by omega
  simp [e]
 ·exact Lib.BuilderAtF.put (T := 146) (e := 5) hB hb2 (bs' := bs ++ Lib.runeCells r) (by simpa using hown') (by decide)
 ·exact ((hb1.alloc (by have := hb1.size; omega) _).grown hgrow (by have := hb1.size; simp; omega) (fun k hk => (hown.lt k hk).1)).setCell (p := ⟨b, 1, none⟩) hB _
end Go.Proofs.YtmhnndgnnpondaaGreatDoor
namespace Go.Proofs.YtmhnndgnnpondaaGreatDoor
set_option maxRecDepth 100000
set_option maxHeartbeats 4000000
open Go.RowKit
theorem whole_yes (s : ByteArray) (n : Nat) (w : World) (hn : n < 100) (hp : Lib.parseIntB 64 s.data.toList = .ok n) (hd : s = ⟨(Lib.decDigits n).toArray⟩) (hs : s.size ≤ 100) :
  Calls Tryz.prog 81 #[.string s] w fun e w' => e = .returned (.tuple #[.int .i64 n, .bool true]) ∧ Below w.heap.size w w' := by
 have Hp := hide hp
 have Hd := hide hd
 clear hp hd
 go_enter Tryz.func81, Tryz.ntmps81
 go_wp2_with fail
 refine (Tryz.strconv_ParseInt_10_at64_ok s (by omega) n Hp.out _).mono ?_
 rintro e w1 ⟨rfl, hw1⟩
 have hb1 : Below w.heap.size w w1 := by
  rcases hw1 with rfl | ⟨t, rfl⟩
  ·exact Below.refl _ _
  ·exact Go.Joins.below_bytesWorld _ _ _ _ (Nat.le_refl _)
 clear hw1
 go_wp2_with fail
 refine (Tryz.strconv_FormatInt_10_small n hn _).mono ?_
 rintro e w2 ⟨rfl, rfl⟩
 rw [← Hd.out]
 go_wp2
 go_ret2
 exact ⟨rfl, hb1⟩
theorem whole_no (s : ByteArray) (ev : Value) (w : World) (hp : Lib.parseIntB 64 s.data.toList = Lib.NumEnd.syntax) (hs : s.size ≤ 100) (hv : w.cell? ⟨5, 0, none⟩ = some ev) (hev : ev = .nilIface ∨ ∃ te pe, ev = .iface te pe) :
  Calls Tryz.prog 81 #[.string s] w fun e w' => e = .returned (.tuple #[.int .i64 0, .bool false]) ∧ Below w.heap.size w w' := by
 have Hp := hide hp
 clear hp
 go_enter Tryz.func81, Tryz.ntmps81
 go_wp2_with fail
 refine (Tryz.strconv_ParseInt_10_at64_syntax s (by omega) Hp.out ev _ hv hev).mono ?_
 rintro e w1 ⟨N, rfl, _, _, hb1⟩
 go_wp2
 go_ret2
 exact ⟨rfl, hb1⟩
end Go.Proofs.YtmhnndgnnpondaaGreatDoor
namespace Go.Proofs.YtmhnndgnnpondaaGreatDoor
set_option maxRecDepth 100000
set_option maxHeartbeats 4000000
open Go.RowKit
theorem number_int (n d : Int) (t : ByteArray) (w : World) :
  Calls Tryz.prog 50 #[.agg #[.int .u8 2, .int .i64 n, .string t, .int .i64 d]] w fun e w' => e = .returned (.tuple #[.int .i64 n, .int .i64 0]) ∧ Below w.heap.size w w' := by
 go_enter Tryz.func50, Tryz.ntmps50
 go_wp2
 go_ret2
 exact ⟨rfl, (Below.refl _ _).alloc (Nat.le_refl _) _⟩
theorem number_yes (k : Nat) (n d : Int) (s : ByteArray) (v : Nat) (w : World) (hk : ((k : Int) == 2) = false) (hv : v < 100) (hp : Lib.parseIntB 64 s.data.toList = .ok v) (hd : s = ⟨(Lib.decDigits v).toArray⟩) (hs : s.size ≤ 100) :
  Calls Tryz.prog 50 #[.agg #[.int .u8 k, .int .i64 n, .string s, .int .i64 d]] w fun e w' => e = .returned (.tuple #[.int .i64 v, .int .i64 0]) ∧ Below w.heap.size w w' := by
 have hB := Below.refl w.heap.size w
 have Hp := hide hp
 have Hd := hide hd
 clear hp hd
 have hk1 := (Below.refl w.heap.size w).alloc (Nat.le_refl _) (.cells #[.int .u8 k, .int .i64 n, .string s, .int .i64 d] 31)
 go_enter Tryz.func50, Tryz.ntmps50
 go_wp2_with fail
 refine (whole_yes s v _ hv Hp.out Hd.out hs).mono ?_
 rintro e w1 ⟨rfl, hb1⟩
 have hB1 := chain0 hk1 hb1
 clear hb1 hk1
 go_wp2
 go_ret2
 exact ⟨rfl, hB1⟩
theorem number_no (k : Nat) (n d : Int) (s : ByteArray) (ev : Value) (w : World) (hk : ((k : Int) == 2) = false) (hp : Lib.parseIntB 64 s.data.toList = Lib.NumEnd.syntax) (hs : s.size ≤ 100) (hv : w.cell? ⟨5, 0, none⟩ = some ev) (hev : ev = .nilIface ∨ ∃ te pe, ev = .iface te pe) :
  Calls Tryz.prog 50 #[.agg #[.int .u8 k, .int .i64 n, .string s, .int .i64 d]] w fun e w' => e = .returned (.tuple #[.int .i64 0, .int .i64 250]) ∧ Below w.heap.size w w' := by
 have Hp := hide hp
 clear hp
 have hk1 := (Below.refl w.heap.size w).alloc (Nat.le_refl _) (.cells #[.int .u8 k, .int .i64 n, .string s, .int .i64 d] 31)
 have hv1 := cell_keep hk1 hv
 have Hv1 := hide hv1
 clear hv hv1
 go_enter Tryz.func50, Tryz.ntmps50
 go_wp2_with fail
 refine (whole_no s ev _ Hp.out hs Hv1.out hev).mono ?_
 rintro e w1 ⟨rfl, hb1⟩
 have hB1 := chain0 hk1 hb1
 clear hb1 hk1
 go_wp2
 go_ret2
 exact ⟨rfl, hB1⟩
end Go.Proofs.YtmhnndgnnpondaaGreatDoor
namespace Go.Proofs.YtmhnndgnnpondaaGreatDoor
set_option maxRecDepth 100000
set_option maxHeartbeats 4000000
open Go.RowKit
def cmpInt (x y : Int) : Int := if x < y then -1 else if y < x then 1 else 0
theorem nan_any (x : Int) (w : World) : Calls Tryz.prog 152 #[.int .i64 x] w fun e w' => e = .returned (.bool false) ∧ w = w' := by
 have hx : (x != x) = false := by simp
 go_enter Tryz.func152, Tryz.ntmps152
 go_wp2
 go_ret
 exact ⟨rfl, rfl⟩
theorem nanS_any (x : ByteArray) (w : World) : Calls Tryz.prog 153 #[.string x] w fun e w' => e = .returned (.bool false) ∧ w = w' := by
 go_enter Tryz.func153, Tryz.ntmps153
 go_wp2
 go_ret
 exact ⟨rfl, rfl⟩
theorem cmpCompare_any (x y : Int) (w : World) : Calls Tryz.prog 105 #[.int .i64 x, .int .i64 y] w fun e w' => e = .returned (.int .i64 (cmpInt x y)) ∧ w = w' := by
 have hfin : Hid (cmpInt x y = if x < y then -1 else if y < x then 1 else 0) := by show cmpInt x y = _; rfl
 go_enter Tryz.func105, Tryz.ntmps105
 go_wp2_with (go_at_call 152; refine (nan_any _ _).mono ?_; rintro e w' ⟨rfl, rfl⟩)
 ·go_ret
  exact ⟨ret_int (by rw [hfin.out, if_pos (by assumption)]), rfl⟩
 ·go_ret
  have h1 : y ≤ x := by assumption
  have h2 : y < x := by assumption
  exact ⟨ret_int (by rw [hfin.out, if_neg (by omega), if_pos h2]), rfl⟩
 ·go_ret
  have h1 : y ≤ x := by assumption
  have h2 : x ≤ y := by assumption
  exact ⟨ret_int (by rw [hfin.out, if_neg (by omega), if_neg (by omega)]), rfl⟩
theorem cmpS_two (w : World) : Calls Tryz.prog 106 #[.string ⟨#[50]⟩, .string ⟨#[50]⟩] w fun e w' => e = .returned (.int .i64 0) ∧ w = w' := by
 go_enter Tryz.func106, Tryz.ntmps106
 go_wp2_with (go_at_call 153; refine (nanS_any _ _).mono ?_; rintro e w' ⟨rfl, rfl⟩)
 go_ret
 exact ⟨rfl, rfl⟩
theorem two_parse : Lib.parseIntB 64 (ByteArray.mk #[50]).data.toList = .ok (2 : Nat) := by decide
theorem two_dec : (ByteArray.mk #[50]) = ⟨(Lib.decDigits 2).toArray⟩ := by kernel_rfl
theorem x_parse : Lib.parseIntB 64 (ByteArray.mk #[120]).data.toList = Lib.NumEnd.syntax := by decide
theorem one_le {a : UInt8} : (ByteArray.mk #[a]).size ≤ 100 := by simp [ByteArray.size]
theorem order_one_two (n : Int) (w : World) : Calls Tryz.prog 58 #[.agg #[.int .u8 2, .int .i64 n, .string ⟨#[]⟩, .int .i64 0], .agg #[.int .u8 3, .int .i64 0, .string ⟨#[50]⟩, .int .i64 0]] w fun e w' => e = .returned (.tuple #[.int .i64 (cmpInt n 2), .int .i64 0]) ∧ Below w.heap.size w w' := by
 have hk1 := ((Below.refl w.heap.size w).alloc (Nat.le_refl _) (.cells #[.int .u8 2, .int .i64 n, .string ⟨#[]⟩, .int .i64 0] 31)).alloc (by simp) (.cells #[.int .u8 3, .int .i64 0, .string ⟨#[50]⟩, .int .i64 0] 31)
 have hx : Blk ((w.alloc (.cells #[.int .u8 2, .int .i64 n, .string ⟨#[]⟩, .int .i64 0] 31)).alloc (.cells #[.int .u8 3, .int .i64 0, .string ⟨#[50]⟩, .int .i64 0] 31)) (w.heap.size + 1) 31 #[.int .u8 3, .int .i64 0, .string ⟨#[50]⟩, .int .i64 0] := by
  have := Blk.new (w.alloc (.cells #[.int .u8 2, .int .i64 n, .string ⟨#[]⟩, .int .i64 0] 31)) 31 #[.int .u8 3, .int .i64 0, .string ⟨#[50]⟩, .int .i64 0]
  simpa using this
 go_enter Tryz.func58, Tryz.ntmps58
 go_wp2_with fail
 refine (number_int n 0 ⟨#[]⟩ _).mono ?_
 rintro e w1 ⟨rfl, hb1⟩
 have hx1 := hx.keep hb1
 have c0 := hx1.cell 0
 have c1 := hx1.cell 1
 have c2 := hx1.cell 2
 have c3 := hx1.cell 3
 simp only [List.getElem?_toArray, List.getElem?_cons_zero, List.getElem?_cons_succ] at c0 c1 c2 c3
 have hB1 := chain0 hk1 hb1
 clear hk1 hb1 hx hx1
 go_wp2_with fail
 refine (number_yes 3 0 0 ⟨#[50]⟩ 2 _ (by decide) (by decide) two_parse two_dec one_le).mono ?_
 rintro e w2 ⟨rfl, hb2⟩
 have hB2 := chain0 hB1 hb2
 clear hb2 c0 c1 c2 c3
 go_wp2_with fail
 refine (cmpCompare_any _ _ _).mono ?_
 rintro e w3 ⟨rfl, rfl⟩
 go_wp2
 go_ret2
 exact ⟨rfl, hB2⟩
theorem order_node_two (d : Int) (w : World) : Calls Tryz.prog 58 #[.agg #[.int .u8 1, .int .i64 0, .string ⟨#[50]⟩, .int .i64 d], .agg #[.int .u8 3, .int .i64 0, .string ⟨#[50]⟩, .int .i64 0]] w fun e w' => e = .returned (.tuple #[.int .i64 0, .int .i64 0]) ∧ Below w.heap.size w w' := by
 have hk1 := ((Below.refl w.heap.size w).alloc (Nat.le_refl _) (.cells #[.int .u8 1, .int .i64 0, .string ⟨#[50]⟩, .int .i64 d] 31)).alloc (by simp) (.cells #[.int .u8 3, .int .i64 0, .string ⟨#[50]⟩, .int .i64 0] 31)
 go_enter Tryz.func58, Tryz.ntmps58
 go_wp2_with fail
 refine (cmpS_two _).mono ?_
 rintro e w1 ⟨rfl, rfl⟩
 go_wp2
 go_ret2
 exact ⟨rfl, hk1⟩
theorem order_one_x (n : Int) (ev : Value) (w : World) (hv : w.cell? ⟨5, 0, none⟩ = some ev) (hev : ev = .nilIface ∨ ∃ te pe, ev = .iface te pe) :
  Calls Tryz.prog 58 #[.agg #[.int .u8 2, .int .i64 n, .string ⟨#[]⟩, .int .i64 0], .agg #[.int .u8 3, .int .i64 0, .string ⟨#[120]⟩, .int .i64 0]] w fun e w' => e = .returned (.tuple #[.int .i64 0, .int .i64 250]) ∧ Below w.heap.size w w' := by
 have hk1 := ((Below.refl w.heap.size w).alloc (Nat.le_refl _) (.cells #[.int .u8 2, .int .i64 n, .string ⟨#[]⟩, .int .i64 0] 31)).alloc (by simp) (.cells #[.int .u8 3, .int .i64 0, .string ⟨#[120]⟩, .int .i64 0] 31)
 have hx : Blk ((w.alloc (.cells #[.int .u8 2, .int .i64 n, .string ⟨#[]⟩, .int .i64 0] 31)).alloc (.cells #[.int .u8 3, .int .i64 0, .string ⟨#[120]⟩, .int .i64 0] 31)) (w.heap.size + 1) 31 #[.int .u8 3, .int .i64 0, .string ⟨#[120]⟩, .int .i64 0] := by
  have := Blk.new (w.alloc (.cells #[.int .u8 2, .int .i64 n, .string ⟨#[]⟩, .int .i64 0] 31)) 31 #[.int .u8 3, .int .i64 0, .string ⟨#[120]⟩, .int .i64 0]
  simpa using this
 have Hv := hide hv
 clear hv
 go_enter Tryz.func58, Tryz.ntmps58
 go_wp2_with fail
 refine (number_int n 0 ⟨#[]⟩ _).mono ?_
 rintro e w1 ⟨rfl, hb1⟩
 have hx1 := hx.keep hb1
 have c0 := hx1.cell 0
 have c1 := hx1.cell 1
 have c2 := hx1.cell 2
 have c3 := hx1.cell 3
 simp only [List.getElem?_toArray, List.getElem?_cons_zero, List.getElem?_cons_succ] at c0 c1 c2 c3
 have hB1 := chain0 hk1 hb1
 clear hk1 hb1 hx hx1
 go_wp2_with fail
 refine (number_no 3 0 0 ⟨#[120]⟩ ev _ (by decide) x_parse one_le (cell_keep hB1 Hv.out) hev).mono ?_
 rintro e w2 ⟨rfl, hb2⟩
 have hB2 := chain0 hB1 hb2
 clear hb2 c0 c1 c2 c3
 go_wp2
 go_ret2
 exact ⟨rfl, hB2⟩
end Go.Proofs.YtmhnndgnnpondaaGreatDoor
namespace Go.Proofs.YtmhnndgnnpondaaGreatDoor
set_option maxRecDepth 100000
set_option maxHeartbeats 4000000
open Go.RowKit
theorem holds_eq (n : Int) (q : Bool) (w : World) (hq : (n == 0) = q) : Calls Tryz.prog 57 #[.string ⟨#[61]⟩, .int .i64 n] w fun e w' => e = .returned (.tuple #[.bool q, .bool true]) ∧ w = w' := by
 go_enter Tryz.func57, Tryz.ntmps57
 go_wp2
 go_ret2
 exact ⟨rfl, rfl⟩
theorem holds_lt (n : Int) (q : Bool) (w : World) (hq : decide (n < 0) = q) : Calls Tryz.prog 57 #[.string ⟨#[60]⟩, .int .i64 n] w fun e w' => e = .returned (.tuple #[.bool q, .bool true]) ∧ w = w' := by
 go_enter Tryz.func57, Tryz.ntmps57
 go_wp2
 go_ret2
 exact ⟨rfl, rfl⟩
end Go.Proofs.YtmhnndgnnpondaaGreatDoor
