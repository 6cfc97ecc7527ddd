/- parchmentkit: apart of a bag that holds byte slices alone. -/
import Derived.Test.YtofbcgehemclbaaFl4
namespace Go.Proofs.Ytofbcgehemclbaa
open Go.RowKit Bm
theorem KeptB.trans {ps : List Pc} {w W W' : World} (h : KeptB ps w W) (k : KeptB ps W W') : KeptB ps w W' :=
  ⟨k.os.trans h.os, k.tape.trans h.tape, k.output.trans h.output, Nat.le_trans h.size k.size, fun g hg hp => (k.block g (Nat.lt_of_lt_of_le hg h.size) hp).trans (h.block g hg hp)⟩
set_option maxRecDepth 100000 in
set_option maxHeartbeats 2000000 in
theorem apart_any (gbg gl cl N : Nat) (ps : List Pc) (w : World) (hbg : Blk w gbg 87 (bagC (.slice (some ⟨gl, 0, none⟩) N cl))) (hN : N = ps.length) (hN0 : ps ≠ []) (hNb : N ≤ 1000) (hls : Ls w gl cl ps) (hal : All w ps (fun _ _ => [])) (hd : Dist ps)
    (hsm : ∀ p ∈ ps, p.2.1 ≤ 1000 ∧ p.2.1 ≤ p.2.2) (hpg : ∀ p ∈ ps, p.1 ≠ some gbg) :
    Calls Try.prog 48 #[.pointer (some ⟨gbg, 0, none⟩)] w fun e w' => e = .returned (.bool true) ∧ KeptB ps w w' := by
  have hK := KeptB.refl ps w
  have HN := hide hN
  have Hd := hide hd
  have Hsm := hide hsm
  have Hpg := hide hpg
  clear hN hd hsm hpg
  have Hbg := hide hbg
  have Hls := hide hls
  have Hal := hide hal
  clear hbg hls hal
  have c : w.cell? ⟨gbg, 0, none⟩ = some (.slice none 0 0) := Hbg.out.cell 0
  go_enter Try.func48, Try.ntmps48
  go_wp2_with fail
  refine (flatWords_nil _).mono ?_
  rintro e w1 ⟨rfl, hb⟩
  have Hbg := hide (Hbg.out.keep hb)
  have hK := hK.keep hb
  have Hls := hide (Hls.out.keep hb)
  have Hal := hide (Hal.out.keep hb)
  clear hb
  clear c
  have c : w1.cell? ⟨gbg, 1, none⟩ = some (.slice none 0 0) := Hbg.out.cell 1
  go_wp2_with fail
  refine (flatInts_nil _).mono ?_
  rintro e w2 ⟨rfl, hb⟩
  have Hbg := hide (Hbg.out.keep hb)
  have hK := hK.keep hb
  have Hls := hide (Hls.out.keep hb)
  have Hal := hide (Hal.out.keep hb)
  clear hb
  clear c
  have c : w2.cell? ⟨gbg, 2, none⟩ = some (.slice none 0 0) := Hbg.out.cell 2
  go_wp2_with fail
  refine (flatLongs_nil _).mono ?_
  rintro e w3 ⟨rfl, hb⟩
  have Hbg := hide (Hbg.out.keep hb)
  have hK := hK.keep hb
  have Hls := hide (Hls.out.keep hb)
  have Hal := hide (Hal.out.keep hb)
  clear hb
  clear c
  have c : w3.cell? ⟨gbg, 3, none⟩ = some (.slice none 0 0) := Hbg.out.cell 3
  go_wp2_with fail
  refine (flatTexts_nil _).mono ?_
  rintro e w4 ⟨rfl, hb⟩
  have Hbg := hide (Hbg.out.keep hb)
  have hK := hK.keep hb
  have Hls := hide (Hls.out.keep hb)
  have Hal := hide (Hal.out.keep hb)
  clear hb
  clear c
  have c : w4.cell? ⟨gbg, 4, none⟩ = some (.slice (some ⟨gl, 0, none⟩) N cl) := Hbg.out.cell 4
  go_wp2_with fail
  refine (flatBytes_any gl cl N ps _ HN.out hN0 hNb Hls.out Hal.out Hd.out Hsm.out).mono ?_
  rintro e w5 ⟨rfl, hk⟩
  have hq : Blk w5 gbg 87 (bagC (.slice (some ⟨gl, 0, none⟩) N cl)) := (hk.block gbg Hbg.out.lt Hpg.out).trans Hbg.out
  have Hbg := hide hq
  clear hq
  have hK := hK.trans hk
  clear c
  have c : w5.cell? ⟨gbg, 5, none⟩ = some (.slice none 0 0) := Hbg.out.cell 5
  go_wp2_with fail
  refine (flatNodes_nil _).mono ?_
  rintro e w6 ⟨rfl, hb⟩
  have Hbg := hide (Hbg.out.keep hb)
  have hK := hK.keep hb
  clear hb
  clear c
  have c : w6.cell? ⟨gbg, 6, none⟩ = some (.slice none 0 0) := Hbg.out.cell 6
  go_wp2_with fail
  refine (flatFates_nil _).mono ?_
  rintro e w7 ⟨rfl, hb⟩
  have Hbg := hide (Hbg.out.keep hb)
  have hK := hK.keep hb
  clear hb
  clear c
  have c : w7.cell? ⟨gbg, 7, none⟩ = some (.slice none 0 0) := Hbg.out.cell 7
  go_wp2_with fail
  refine (flatSpans_nil _).mono ?_
  rintro e w8 ⟨rfl, hb⟩
  have Hbg := hide (Hbg.out.keep hb)
  have hK := hK.keep hb
  clear hb
  clear c
  have c : w8.cell? ⟨gbg, 8, none⟩ = some (.slice none 0 0) := Hbg.out.cell 8
  go_wp2_with fail
  refine (flatDirties_nil _).mono ?_
  rintro e w9 ⟨rfl, hb⟩
  have Hbg := hide (Hbg.out.keep hb)
  have hK := hK.keep hb
  clear hb
  clear c
  have c : w9.cell? ⟨gbg, 9, none⟩ = some (.slice none 0 0) := Hbg.out.cell 9
  go_wp2_with fail
  refine (flatRecords_nil _).mono ?_
  rintro e w10 ⟨rfl, hb⟩
  have Hbg := hide (Hbg.out.keep hb)
  have hK := hK.keep hb
  clear hb
  clear c
  have c : w10.cell? ⟨gbg, 10, none⟩ = some (.slice none 0 0) := Hbg.out.cell 10
  go_wp2_with fail
  refine (flatCells_nil _).mono ?_
  rintro e w11 ⟨rfl, hb⟩
  have Hbg := hide (Hbg.out.keep hb)
  have hK := hK.keep hb
  clear hb
  clear c
  have c : w11.cell? ⟨gbg, 11, none⟩ = some (.slice none 0 0) := Hbg.out.cell 11
  go_wp2_with fail
  refine (flatHelds_nil _).mono ?_
  rintro e w12 ⟨rfl, hb⟩
  have Hbg := hide (Hbg.out.keep hb)
  have hK := hK.keep hb
  clear hb
  clear c
  have c : w12.cell? ⟨gbg, 12, none⟩ = some (.slice none 0 0) := Hbg.out.cell 12
  go_wp2_with fail
  refine (flatTokens_nil _).mono ?_
  rintro e w13 ⟨rfl, hb⟩
  have Hbg := hide (Hbg.out.keep hb)
  have hK := hK.keep hb
  clear hb
  clear c
  have c : w13.cell? ⟨gbg, 13, none⟩ = some (.slice none 0 0) := Hbg.out.cell 13
  go_wp2_with fail
  refine (flatExprs_nil _).mono ?_
  rintro e w14 ⟨rfl, hb⟩
  have Hbg := hide (Hbg.out.keep hb)
  have hK := hK.keep hb
  clear hb
  clear c
  have c : w14.cell? ⟨gbg, 14, none⟩ = some (.slice none 0 0) := Hbg.out.cell 14
  go_wp2_with fail
  refine (flatItems_nil _).mono ?_
  rintro e w15 ⟨rfl, hb⟩
  have Hbg := hide (Hbg.out.keep hb)
  have hK := hK.keep hb
  clear hb
  clear c
  have c : w15.cell? ⟨gbg, 15, none⟩ = some (.slice none 0 0) := Hbg.out.cell 15
  go_wp2_with fail
  refine (flatShowns_nil _).mono ?_
  rintro e w16 ⟨rfl, hb⟩
  have Hbg := hide (Hbg.out.keep hb)
  have hK := hK.keep hb
  clear hb
  clear c
  have c : w16.cell? ⟨gbg, 16, none⟩ = some (.slice none 0 0) := Hbg.out.cell 16
  go_wp2_with fail
  refine (flatParts_nil _).mono ?_
  rintro e w17 ⟨rfl, hb⟩
  have Hbg := hide (Hbg.out.keep hb)
  have hK := hK.keep hb
  clear hb
  clear c
  have c : w17.cell? ⟨gbg, 17, none⟩ = some (.slice none 0 0) := Hbg.out.cell 17
  go_wp2_with fail
  refine (flatCommands_nil _).mono ?_
  rintro e w18 ⟨rfl, hb⟩
  have Hbg := hide (Hbg.out.keep hb)
  have hK := hK.keep hb
  clear hb
  clear c
  go_wp2
  go_ret
  exact ⟨rfl, hK⟩
end Go.Proofs.Ytofbcgehemclbaa
