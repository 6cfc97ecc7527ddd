/- ValueTexts: the walk. -/
import Derived.Test.YtmnmnnocgimcpaaGreatDoorKI
import Derived.Test.YtmnmnnocgimcpaaGreatDoorWa
import Derived.Test.YtmnmnnocgimcpaaGreatDoorKx
namespace Go.Proofs.YtmnmnnocgimcpaaGreatDoor
open Go.RowKit
theorem call_bad (m : Int) {t : ByteArray} (ht : tS t = false) (hz : t.size ≤ 100000) (W : World) (g c : Nat) (he : EnvC m W) (ha : ArgsR W g [[sI t]]) :
    Calls Tryz.prog 8 #[.string ⟨#[115, 116, 114, 105, 110, 103, 45, 108, 101, 110, 103, 116, 104]⟩, .slice (some ⟨g, 0, none⟩) 1 c] W (Res W [] 2) := by
  obtain ⟨ls, hl, hr, hi⟩ := ha
  have h := callT_string_length (some ⟨g, 0, none⟩) 1 c ls m W he.e he.m he.c hr (okas_of hl hi (fun l hl => by rw [List.mem_singleton] at hl; subst hl; simp) (one_str hz)) (R_items hl (one_str R_zero)) (S_items hl (one_str hz)) (by rw [← List.length_map, hl]; rfl) (by decide)
  obtain ⟨a, c2, rfl⟩ := one_of hl
  have hs : callT [115, 116, 114, 105, 110, 103, 45, 108, 101, 110, 103, 116, 104] fLength [⟨a, [sI t], c2⟩] = ([], 2) := by
    unfold callT
    rw [if_neg (by simp [rightL, okI_str, ht])]
  rwa [hs] at h
set_option maxRecDepth 100000 in
set_option maxHeartbeats 16000000 in
theorem valueTexts_ok (s : ByteArray) (n : Int) (m : Int) (w : World) (he : EnvC m w) (hn : R64 n) : Calls Tryz.prog 4 #[.string s, .int .i64 n] w fun e w' => e = .returned (.bool true) ∧ Below w.heap.size w w' := by
  have He := hide he
  have Hn := hide hn
  have hB := Below.refl w.heap.size w
  clear he hn
  obtain ⟨ev, hv, hev⟩ := He.out.e.syn
  have Hv := hide hv
  have Hev := hide hev
  clear hv hev
  go_enter Tryz.func4, Tryz.ntmps4
  go_wp2_with fail
  refine (awake_ok m ev _ He.out.m He.out.c Hv.out Hev.out).mono ?_
  rintro e w1 ⟨rfl, hb1⟩
  have hB2 : Below w.heap.size w w1 := by first | exact chain0 hB hb1 | exact chain1 hB hb1 | exact chain2 hB hb1 | exact chain3 hB hb1
  clear hB
  have hB := hB2
  clear hB2
  clear Hv Hev
  by_cases h9 : (9000 : Int) < (s.size : Int)
  · go_wp2
    go_ret
    exact ⟨rfl, hB⟩
  have hz : s.size ≤ 9000 := by omega
  have Hz := hide hz
  clear hz
  go_wp2_with fail
  refine (lstr_any s _).mono ?_
  rintro e w2 ⟨rfl, hb2⟩
  have hB2 : Below w.heap.size w w2 := by first | exact chain0 hB hb2 | exact chain1 hB hb2 | exact chain2 hB hb2 | exact chain3 hB hb2
  clear hB
  have hB := hB2
  clear hB2
  go_wp2_with fail
  refine (lrow_any _ _ _ _).mono ?_
  rintro e wx ⟨rfl, rfl⟩
  -- the row of one item: 3 new world, 2 old world, #[.int .u8 3, .int .i64 0, .string s, .int .i64 0] item, T name
  obtain ⟨w3, hw3⟩ : ∃ W, W = w2.alloc (.cells #[.int .u8 3, .int .i64 0, .string s, .int .i64 0] 37) := ⟨_, rfl⟩
  have r_T : RdI w3 (some ⟨w2.heap.size, 0, none⟩) [sI s] := by rw [hw3]; exact RdI.new _ _ [sI s]
  have hB2 : Below w.heap.size w w3 := by rw [hw3]; exact hB.alloc hB.size _
  clear hB
  have hB := hB2
  clear hB2
  rw [← hw3]
  clear hw3
  generalize w2.heap.size = gt at r_T ⊢
  have x_T : RdI w3 (some ⟨gt, 0, none⟩) [sI s] := r_T
  clear r_T
  rcases Bool.eq_false_or_eq_true (tS s) with ht | ht
  rotate_left
  · have HL := hide (lc_bad m ht (by have := Hz.out; omega))
    have Ht := hide ht
    clear ht
    go_wp2_with fail
    refine (HL.out _ _ 1 (He.out.keep (hB.alloc hB.size _)) (ArgsR.new1 x_T rfl)).mono ?_
    rintro e w4 ⟨rfl, hb4⟩
    have hB4 := chain1 hB hb4
    have y_T := (x_T.alloc (.cells #[.slice (some ⟨gt, 0, none⟩) 1 1] 25)).keep hb4
    clear hb4 hB x_T
    dsimp only [itA, zeroI]
    go_wp2_with fail
    obtain ⟨w5, hw5⟩ : ∃ W, W = w4.alloc (.cells #[.int .u8 0, .int .i64 0, .string ⟨#[]⟩, .int .i64 0] 37) := ⟨_, rfl⟩
    have hb5 : Below w4.heap.size w4 w5 := by rw [hw5]; exact (Below.refl _ _).alloc (Nat.le_refl _) _
    have hs5 : w5.heap.size = w4.heap.size + 1 := by rw [hw5]; simp
    rw [← hw5, ← hs5]
    have z_T := y_T.keep hb5
    have hB5 := chain0 hB4 hb5
    clear hw5 hs5 hb5 y_T hB4
    refine (call_bad m Ht.out (by have := Hz.out; omega) _ _ 1 (He.out.keep (hB5.alloc hB5.size _)) (ArgsR.new1 z_T rfl)).mono ?_
    rintro e w6 ⟨v, rfl, _, hb6⟩
    have hB6 := chain1 hB5 hb6
    clear hb6
    go_wp2
    go_ret
    exact ⟨rfl, hB6⟩
  · obtain ⟨rs, ho, hrs⟩ := tS_runes ht
    have HL := hide (lc_string_length m ht (by have := Hz.out; omega))
    have Ht := hide ht
    clear ht
    go_wp2_with fail
    refine (HL.out _ _ 1 (He.out.keep (hB.alloc hB.size _)) (ArgsR.new1 x_T rfl)).mono ?_
    rintro e w4 ⟨rfl, hb4⟩
    have hB2 : Below w.heap.size w w4 := by first | exact chain0 hB hb4 | exact chain1 hB hb4 | exact chain2 hB hb4 | exact chain3 hB hb4
    clear hB
    have hB := hB2
    clear hB2
    have y_T : RdI w4 (some ⟨gt, 0, none⟩) [sI s] := by first | exact x_T.keep hb4 | exact (x_T.alloc _).keep hb4 | exact ((x_T.alloc _).alloc _).keep hb4 | exact (((x_T.alloc _).alloc _).alloc _).keep hb4
    clear x_T
    have x_T := y_T
    clear y_T
    obtain ⟨q, hq⟩ : ∃ q : Nat, q = Lib.runeCount s := ⟨_, rfl⟩
    rw [← hq]
    have Hq := hide hq
    clear hq HL
    dsimp only [itA, nI]
    go_wp2_with fail
    -- a local's block: 5 new world, 4 old world, #[.int .u8 2, .int .i64 (q : Int), .string ⟨#[]⟩, .int .i64 0] cells, L name, bl the block's variable
    obtain ⟨w5, hw5⟩ : ∃ W, W = w4.alloc (.cells #[.int .u8 2, .int .i64 (q : Int), .string ⟨#[]⟩, .int .i64 0] 37) := ⟨_, rfl⟩
    have b_L : Blk w5 w4.heap.size 37 #[.int .u8 2, .int .i64 (q : Int), .string ⟨#[]⟩, .int .i64 0] := by rw [hw5]; exact Blk.new _ _ _
    have hb5 : Below w4.heap.size w4 w5 := by rw [hw5]; exact (Below.refl _ _).alloc (Nat.le_refl _) _
    rw [← hw5]
    clear hw5
    have hB2 : Below w.heap.size w w5 := by first | exact chain0 hB hb5 | exact chain1 hB hb5 | exact chain2 hB hb5 | exact chain3 hB hb5
    clear hB
    have hB := hB2
    clear hB2
    have y_T : RdI w5 (some ⟨gt, 0, none⟩) [sI s] := by first | exact x_T.keep hb5 | exact (x_T.alloc _).keep hb5 | exact ((x_T.alloc _).alloc _).keep hb5 | exact (((x_T.alloc _).alloc _).alloc _).keep hb5
    clear x_T
    have x_T := y_T
    clear y_T
    clear hb5
    obtain ⟨bl, hbl⟩ : ∃ b, b = w4.heap.size := ⟨_, rfl⟩
    rw [← hbl] at b_L ⊢
    have b_LL := b_L
    clear hbl
    clear b_L
    have x_L : Blk w5 bl 37 #[.int .u8 2, .int .i64 (q : Int), .string ⟨#[]⟩, .int .i64 0] := b_LL
    clear b_LL
    obtain ⟨N, hN, hN1, hNR⟩ : ∃ N : Int, N = max n 1 ∧ 1 ≤ N ∧ R64 N := ⟨_, rfl, by omega, by have := Hn.out; unfold R64 at *; omega⟩
    rw [← hN]
    have hN2 : N ≤ 9223372036854775807 := hNR.2
    have HNR := hide hNR
    clear hN hNR
    obtain ⟨A, hA⟩ : ∃ A, A = cutB s 1 N := ⟨_, rfl⟩
    obtain ⟨Bt, hBt⟩ : ∃ B, B = cutB s N i64max := ⟨_, rfl⟩
    have hAB : A ++ Bt = s := by rw [hA, hBt]; exact cut_app ho hrs Hz.out
    have HtA : Hid (tS A = true) := by show _ = _; rw [hA]; exact cut_ok ho hrs 1 N
    have HtB : Hid (tS Bt = true) := by show _ = _; rw [hBt]; exact cut_ok ho hrs N i64max
    have Hcnt : Hid (Lib.runeCount A + Lib.runeCount Bt = q) := by show _ = _; rw [hA, hBt, Hq.out]; exact cut_count ho hrs Hz.out
    have HzA : Hid (A.size + Bt.size = s.size) := by show _ = _; rw [← app_size, hAB]
    have HAB := hide hAB
    have Hs3 : Hid (LC m ⟨#[115, 117, 98, 115, 116, 114, 105, 110, 103]⟩ 3 [[sI s], [nI 1], [nI (N - 1)]] (sI A)) := by
      show LC _ _ _ _ _
      have h1 := endV_one hN1 HNR.out
      have h2 := lc_sub3 m (i := 1) (j := N - 1) Ht.out (by have := Hz.out; omega) (by unfold R64; decide) (by have := HNR.out; unfold R64 at *; omega) (by rw [h1, ← hA]; have := HzA.out; have := Hz.out; omega)
      rwa [h1, ← hA] at h2
    have Hs2 : Hid (LC m ⟨#[115, 117, 98, 115, 116, 114, 105, 110, 103]⟩ 2 [[sI s], [nI N]] (sI Bt)) := by
      show LC _ _ _ _ _
      rw [hBt]
      exact lc_sub2 m Ht.out (by have := Hz.out; omega) HNR.out (by rw [← hBt]; have := HzA.out; have := Hz.out; omega)
    clear hA hBt hAB
    go_wp2_with fail
    refine (lwhole_any 1 _).mono ?_
    rintro e w6 ⟨rfl, hb6⟩
    have hB2 : Below w.heap.size w w6 := by first | exact chain0 hB hb6 | exact chain1 hB hb6 | exact chain2 hB hb6 | exact chain3 hB hb6
    clear hB
    have hB := hB2
    clear hB2
    have y_T : RdI w6 (some ⟨gt, 0, none⟩) [sI s] := by first | exact x_T.keep hb6 | exact (x_T.alloc _).keep hb6 | exact ((x_T.alloc _).alloc _).keep hb6 | exact (((x_T.alloc _).alloc _).alloc _).keep hb6
    have y_L : Blk w6 bl 37 #[.int .u8 2, .int .i64 (q : Int), .string ⟨#[]⟩, .int .i64 0] := by first | exact x_L.keep hb6 | exact (x_L.alloc _).keep hb6 | exact ((x_L.alloc _).alloc _).keep hb6 | exact (((x_L.alloc _).alloc _).alloc _).keep hb6
    clear x_T x_L
    have x_T := y_T
    have x_L := y_L
    clear y_T y_L
    -- whole(k), row: 7 new world, 6 old world, 1 k, nI 1 item, P name, gp the block's variable
    go_wp2_with fail
    refine (lrow_any _ _ _ _).mono ?_
    rintro e wx ⟨rfl, rfl⟩
    obtain ⟨w7, hw7⟩ : ∃ W, W = w6.alloc (.cells #[.int .u8 2, .int .i64 1, .string ⟨#[]⟩, .int .i64 0] 37) := ⟨_, rfl⟩
    have r_P : RdI w7 (some ⟨w6.heap.size, 0, none⟩) [nI 1] := by rw [hw7]; exact RdI.new _ _ [nI 1]
    have hb7 : Below w6.heap.size w6 w7 := by rw [hw7]; exact (Below.refl _ _).alloc (Nat.le_refl _) _
    rw [← hw7]
    clear hw7
    have hB2 : Below w.heap.size w w7 := by first | exact chain0 hB hb7 | exact chain1 hB hb7 | exact chain2 hB hb7 | exact chain3 hB hb7
    clear hB
    have hB := hB2
    clear hB2
    have y_T : RdI w7 (some ⟨gt, 0, none⟩) [sI s] := by first | exact x_T.keep hb7 | exact (x_T.alloc _).keep hb7 | exact ((x_T.alloc _).alloc _).keep hb7 | exact (((x_T.alloc _).alloc _).alloc _).keep hb7
    have y_L : Blk w7 bl 37 #[.int .u8 2, .int .i64 (q : Int), .string ⟨#[]⟩, .int .i64 0] := by first | exact x_L.keep hb7 | exact (x_L.alloc _).keep hb7 | exact ((x_L.alloc _).alloc _).keep hb7 | exact (((x_L.alloc _).alloc _).alloc _).keep hb7
    clear x_T x_L
    have x_T := y_T
    have x_L := y_L
    clear y_T y_L
    clear hb7
    obtain ⟨gp, hgp⟩ : ∃ b, b = w6.heap.size := ⟨_, rfl⟩
    rw [← hgp] at r_P ⊢
    clear hgp
    have x_P : RdI w7 (some ⟨gp, 0, none⟩) [nI 1] := r_P
    clear r_P
    go_wp2_with fail
    refine (lwhole_any (N - 1) _).mono ?_
    rintro e w8 ⟨rfl, hb8⟩
    have hB2 : Below w.heap.size w w8 := by first | exact chain0 hB hb8 | exact chain1 hB hb8 | exact chain2 hB hb8 | exact chain3 hB hb8
    clear hB
    have hB := hB2
    clear hB2
    have y_T : RdI w8 (some ⟨gt, 0, none⟩) [sI s] := by first | exact x_T.keep hb8 | exact (x_T.alloc _).keep hb8 | exact ((x_T.alloc _).alloc _).keep hb8 | exact (((x_T.alloc _).alloc _).alloc _).keep hb8
    have y_L : Blk w8 bl 37 #[.int .u8 2, .int .i64 (q : Int), .string ⟨#[]⟩, .int .i64 0] := by first | exact x_L.keep hb8 | exact (x_L.alloc _).keep hb8 | exact ((x_L.alloc _).alloc _).keep hb8 | exact (((x_L.alloc _).alloc _).alloc _).keep hb8
    have y_P : RdI w8 (some ⟨gp, 0, none⟩) [nI 1] := by first | exact x_P.keep hb8 | exact (x_P.alloc _).keep hb8 | exact ((x_P.alloc _).alloc _).keep hb8 | exact (((x_P.alloc _).alloc _).alloc _).keep hb8
    clear x_T x_L x_P
    have x_T := y_T
    have x_L := y_L
    have x_P := y_P
    clear y_T y_L y_P
    -- whole(k), row: 9 new world, 8 old world, (N - 1) k, nI (N - 1) item, Q name, gq the block's variable
    go_wp2_with fail
    refine (lrow_any _ _ _ _).mono ?_
    rintro e wx ⟨rfl, rfl⟩
    obtain ⟨w9, hw9⟩ : ∃ W, W = w8.alloc (.cells #[.int .u8 2, .int .i64 (N - 1), .string ⟨#[]⟩, .int .i64 0] 37) := ⟨_, rfl⟩
    have r_Q : RdI w9 (some ⟨w8.heap.size, 0, none⟩) [nI (N - 1)] := by rw [hw9]; exact RdI.new _ _ [nI (N - 1)]
    have hb9 : Below w8.heap.size w8 w9 := by rw [hw9]; exact (Below.refl _ _).alloc (Nat.le_refl _) _
    rw [← hw9]
    clear hw9
    have hB2 : Below w.heap.size w w9 := by first | exact chain0 hB hb9 | exact chain1 hB hb9 | exact chain2 hB hb9 | exact chain3 hB hb9
    clear hB
    have hB := hB2
    clear hB2
    have y_T : RdI w9 (some ⟨gt, 0, none⟩) [sI s] := by first | exact x_T.keep hb9 | exact (x_T.alloc _).keep hb9 | exact ((x_T.alloc _).alloc _).keep hb9 | exact (((x_T.alloc _).alloc _).alloc _).keep hb9
    have y_L : Blk w9 bl 37 #[.int .u8 2, .int .i64 (q : Int), .string ⟨#[]⟩, .int .i64 0] := by first | exact x_L.keep hb9 | exact (x_L.alloc _).keep hb9 | exact ((x_L.alloc _).alloc _).keep hb9 | exact (((x_L.alloc _).alloc _).alloc _).keep hb9
    have y_P : RdI w9 (some ⟨gp, 0, none⟩) [nI 1] := by first | exact x_P.keep hb9 | exact (x_P.alloc _).keep hb9 | exact ((x_P.alloc _).alloc _).keep hb9 | exact (((x_P.alloc _).alloc _).alloc _).keep hb9
    clear x_T x_L x_P
    have x_T := y_T
    have x_L := y_L
    have x_P := y_P
    clear y_T y_L y_P
    clear hb9
    obtain ⟨gq, hgq⟩ : ∃ b, b = w8.heap.size := ⟨_, rfl⟩
    rw [← hgq] at r_Q ⊢
    clear hgq
    have x_Q : RdI w9 (some ⟨gq, 0, none⟩) [nI (N - 1)] := r_Q
    clear r_Q
    go_wp2_with fail
    refine (Hs3.out _ _ 3 (He.out.keep (hB.alloc hB.size _)) (ArgsR.new3 x_T rfl x_P rfl x_Q rfl)).mono ?_
    rintro e w10 ⟨rfl, hb10⟩
    have hB2 : Below w.heap.size w w10 := by first | exact chain0 hB hb10 | exact chain1 hB hb10 | exact chain2 hB hb10 | exact chain3 hB hb10
    clear hB
    have hB := hB2
    clear hB2
    have y_T : RdI w10 (some ⟨gt, 0, none⟩) [sI s] := by first | exact x_T.keep hb10 | exact (x_T.alloc _).keep hb10 | exact ((x_T.alloc _).alloc _).keep hb10 | exact (((x_T.alloc _).alloc _).alloc _).keep hb10
    have y_L : Blk w10 bl 37 #[.int .u8 2, .int .i64 (q : Int), .string ⟨#[]⟩, .int .i64 0] := by first | exact x_L.keep hb10 | exact (x_L.alloc _).keep hb10 | exact ((x_L.alloc _).alloc _).keep hb10 | exact (((x_L.alloc _).alloc _).alloc _).keep hb10
    have y_P : RdI w10 (some ⟨gp, 0, none⟩) [nI 1] := by first | exact x_P.keep hb10 | exact (x_P.alloc _).keep hb10 | exact ((x_P.alloc _).alloc _).keep hb10 | exact (((x_P.alloc _).alloc _).alloc _).keep hb10
    have y_Q : RdI w10 (some ⟨gq, 0, none⟩) [nI (N - 1)] := by first | exact x_Q.keep hb10 | exact (x_Q.alloc _).keep hb10 | exact ((x_Q.alloc _).alloc _).keep hb10 | exact (((x_Q.alloc _).alloc _).alloc _).keep hb10
    clear x_T x_L x_P x_Q
    have x_T := y_T
    have x_L := y_L
    have x_P := y_P
    have x_Q := y_Q
    clear y_T y_L y_P y_Q
    clear x_P
    clear x_Q
    dsimp only [itA, sI]
    clear Hs3
    go_wp2_with fail
    -- a local's block: 11 new world, 10 old world, #[.int .u8 3, .int .i64 0, .string A, .int .i64 0] cells, A name, ba the block's variable
    obtain ⟨w11, hw11⟩ : ∃ W, W = w10.alloc (.cells #[.int .u8 3, .int .i64 0, .string A, .int .i64 0] 37) := ⟨_, rfl⟩
    have b_A : Blk w11 w10.heap.size 37 #[.int .u8 3, .int .i64 0, .string A, .int .i64 0] := by rw [hw11]; exact Blk.new _ _ _
    have hb11 : Below w10.heap.size w10 w11 := by rw [hw11]; exact (Below.refl _ _).alloc (Nat.le_refl _) _
    rw [← hw11]
    clear hw11
    have hB2 : Below w.heap.size w w11 := by first | exact chain0 hB hb11 | exact chain1 hB hb11 | exact chain2 hB hb11 | exact chain3 hB hb11
    clear hB
    have hB := hB2
    clear hB2
    have y_T : RdI w11 (some ⟨gt, 0, none⟩) [sI s] := by first | exact x_T.keep hb11 | exact (x_T.alloc _).keep hb11 | exact ((x_T.alloc _).alloc _).keep hb11 | exact (((x_T.alloc _).alloc _).alloc _).keep hb11
    have y_L : Blk w11 bl 37 #[.int .u8 2, .int .i64 (q : Int), .string ⟨#[]⟩, .int .i64 0] := by first | exact x_L.keep hb11 | exact (x_L.alloc _).keep hb11 | exact ((x_L.alloc _).alloc _).keep hb11 | exact (((x_L.alloc _).alloc _).alloc _).keep hb11
    clear x_T x_L
    have x_T := y_T
    have x_L := y_L
    clear y_T y_L
    clear hb11
    obtain ⟨ba, hba⟩ : ∃ b, b = w10.heap.size := ⟨_, rfl⟩
    rw [← hba] at b_A ⊢
    have b_AA := b_A
    clear hba
    clear b_A
    have x_A : Blk w11 ba 37 #[.int .u8 3, .int .i64 0, .string A, .int .i64 0] := b_AA
    clear b_AA
    go_wp2_with fail
    refine (lwhole_any N _).mono ?_
    rintro e w12 ⟨rfl, hb12⟩
    have hB2 : Below w.heap.size w w12 := by first | exact chain0 hB hb12 | exact chain1 hB hb12 | exact chain2 hB hb12 | exact chain3 hB hb12
    clear hB
    have hB := hB2
    clear hB2
    have y_T : RdI w12 (some ⟨gt, 0, none⟩) [sI s] := by first | exact x_T.keep hb12 | exact (x_T.alloc _).keep hb12 | exact ((x_T.alloc _).alloc _).keep hb12 | exact (((x_T.alloc _).alloc _).alloc _).keep hb12
    have y_L : Blk w12 bl 37 #[.int .u8 2, .int .i64 (q : Int), .string ⟨#[]⟩, .int .i64 0] := by first | exact x_L.keep hb12 | exact (x_L.alloc _).keep hb12 | exact ((x_L.alloc _).alloc _).keep hb12 | exact (((x_L.alloc _).alloc _).alloc _).keep hb12
    have y_A : Blk w12 ba 37 #[.int .u8 3, .int .i64 0, .string A, .int .i64 0] := by first | exact x_A.keep hb12 | exact (x_A.alloc _).keep hb12 | exact ((x_A.alloc _).alloc _).keep hb12 | exact (((x_A.alloc _).alloc _).alloc _).keep hb12
    clear x_T x_L x_A
    have x_T := y_T
    have x_L := y_L
    have x_A := y_A
    clear y_T y_L y_A
    -- whole(k), row: 13 new world, 12 old world, N k, nI N item, R name, gr the block's variable
    go_wp2_with fail
    refine (lrow_any _ _ _ _).mono ?_
    rintro e wx ⟨rfl, rfl⟩
    obtain ⟨w13, hw13⟩ : ∃ W, W = w12.alloc (.cells #[.int .u8 2, .int .i64 N, .string ⟨#[]⟩, .int .i64 0] 37) := ⟨_, rfl⟩
    have r_R : RdI w13 (some ⟨w12.heap.size, 0, none⟩) [nI N] := by rw [hw13]; exact RdI.new _ _ [nI N]
    have hb13 : Below w12.heap.size w12 w13 := by rw [hw13]; exact (Below.refl _ _).alloc (Nat.le_refl _) _
    rw [← hw13]
    clear hw13
    have hB2 : Below w.heap.size w w13 := by first | exact chain0 hB hb13 | exact chain1 hB hb13 | exact chain2 hB hb13 | exact chain3 hB hb13
    clear hB
    have hB := hB2
    clear hB2
    have y_T : RdI w13 (some ⟨gt, 0, none⟩) [sI s] := by first | exact x_T.keep hb13 | exact (x_T.alloc _).keep hb13 | exact ((x_T.alloc _).alloc _).keep hb13 | exact (((x_T.alloc _).alloc _).alloc _).keep hb13
    have y_L : Blk w13 bl 37 #[.int .u8 2, .int .i64 (q : Int), .string ⟨#[]⟩, .int .i64 0] := by first | exact x_L.keep hb13 | exact (x_L.alloc _).keep hb13 | exact ((x_L.alloc _).alloc _).keep hb13 | exact (((x_L.alloc _).alloc _).alloc _).keep hb13
    have y_A : Blk w13 ba 37 #[.int .u8 3, .int .i64 0, .string A, .int .i64 0] := by first | exact x_A.keep hb13 | exact (x_A.alloc _).keep hb13 | exact ((x_A.alloc _).alloc _).keep hb13 | exact (((x_A.alloc _).alloc _).alloc _).keep hb13
    clear x_T x_L x_A
    have x_T := y_T
    have x_L := y_L
    have x_A := y_A
    clear y_T y_L y_A
    clear hb13
    obtain ⟨gr, hgr⟩ : ∃ b, b = w12.heap.size := ⟨_, rfl⟩
    rw [← hgr] at r_R ⊢
    clear hgr
    have x_R : RdI w13 (some ⟨gr, 0, none⟩) [nI N] := r_R
    clear r_R
    go_wp2_with fail
    refine (Hs2.out _ _ 2 (He.out.keep (hB.alloc hB.size _)) (ArgsR.new2 x_T rfl x_R rfl)).mono ?_
    rintro e w14 ⟨rfl, hb14⟩
    have hB2 : Below w.heap.size w w14 := by first | exact chain0 hB hb14 | exact chain1 hB hb14 | exact chain2 hB hb14 | exact chain3 hB hb14
    clear hB
    have hB := hB2
    clear hB2
    have y_T : RdI w14 (some ⟨gt, 0, none⟩) [sI s] := by first | exact x_T.keep hb14 | exact (x_T.alloc _).keep hb14 | exact ((x_T.alloc _).alloc _).keep hb14 | exact (((x_T.alloc _).alloc _).alloc _).keep hb14
    have y_L : Blk w14 bl 37 #[.int .u8 2, .int .i64 (q : Int), .string ⟨#[]⟩, .int .i64 0] := by first | exact x_L.keep hb14 | exact (x_L.alloc _).keep hb14 | exact ((x_L.alloc _).alloc _).keep hb14 | exact (((x_L.alloc _).alloc _).alloc _).keep hb14
    have y_A : Blk w14 ba 37 #[.int .u8 3, .int .i64 0, .string A, .int .i64 0] := by first | exact x_A.keep hb14 | exact (x_A.alloc _).keep hb14 | exact ((x_A.alloc _).alloc _).keep hb14 | exact (((x_A.alloc _).alloc _).alloc _).keep hb14
    have y_R : RdI w14 (some ⟨gr, 0, none⟩) [nI N] := by first | exact x_R.keep hb14 | exact (x_R.alloc _).keep hb14 | exact ((x_R.alloc _).alloc _).keep hb14 | exact (((x_R.alloc _).alloc _).alloc _).keep hb14
    clear x_T x_L x_A x_R
    have x_T := y_T
    have x_L := y_L
    have x_A := y_A
    have x_R := y_R
    clear y_T y_L y_A y_R
    clear x_R
    dsimp only [itA, sI]
    clear Hs2
    obtain ⟨ca, hca⟩ : ∃ c : Nat, c = Lib.runeCount A := ⟨_, rfl⟩
    obtain ⟨cb, hcb⟩ : ∃ c : Nat, c = Lib.runeCount Bt := ⟨_, rfl⟩
    have hzA : A.size ≤ 9000 := by have := HzA.out; have := Hz.out; omega
    have hzB : Bt.size ≤ 9000 := by have := HzA.out; have := Hz.out; omega
    have Hcc : Hid (LC m ⟨#[99, 111, 110, 99, 97, 116]⟩ 2 [[sI A], [sI Bt]] (sI s)) := by
      show LC _ _ _ _ _
      have h := lc_concat m HtA.out HtB.out (by omega) (by omega) (by rw [HAB.out]; have := Hz.out; omega)
      rwa [HAB.out] at h
    have Hla : Hid (LC m ⟨#[115, 116, 114, 105, 110, 103, 45, 108, 101, 110, 103, 116, 104]⟩ 1 [[sI A]] (nI (ca : Int))) := by rw [hca]; exact lc_string_length m HtA.out (by omega)
    have Hlb : Hid (LC m ⟨#[115, 116, 114, 105, 110, 103, 45, 108, 101, 110, 103, 116, 104]⟩ 1 [[sI Bt]] (nI (cb : Int))) := by rw [hcb]; exact lc_string_length m HtB.out (by omega)
    have hq9 : q ≤ 9000 := by rw [Hq.out]; have := Lib.runeCount_le s; have := Hz.out; omega
    have hadd : IntKind.i64.wrap ((ca : Int) + (cb : Int)) = (q : Int) := by
      have h := Hcnt.out
      rw [← hca, ← hcb] at h
      rw [IntKind.wrap_i64]; omega
    have hab : A ++ Bt = s := HAB.out
    have hszs : A.size + Bt.size = s.size := HzA.out
    have hszl : s.size ≤ 9223372036854775807 := by have := Hz.out; omega
    have Hca := hide hca
    clear hca hcb
    go_wp2_with fail
    -- a local's block: 15 new world, 14 old world, #[.int .u8 3, .int .i64 0, .string Bt, .int .i64 0] cells, B name, bb the block's variable
    obtain ⟨w15, hw15⟩ : ∃ W, W = w14.alloc (.cells #[.int .u8 3, .int .i64 0, .string Bt, .int .i64 0] 37) := ⟨_, rfl⟩
    have b_B : Blk w15 w14.heap.size 37 #[.int .u8 3, .int .i64 0, .string Bt, .int .i64 0] := by rw [hw15]; exact Blk.new _ _ _
    have hb15 : Below w14.heap.size w14 w15 := by rw [hw15]; exact (Below.refl _ _).alloc (Nat.le_refl _) _
    rw [← hw15]
    clear hw15
    have hB2 : Below w.heap.size w w15 := by first | exact chain0 hB hb15 | exact chain1 hB hb15 | exact chain2 hB hb15 | exact chain3 hB hb15
    clear hB
    have hB := hB2
    clear hB2
    have y_T : RdI w15 (some ⟨gt, 0, none⟩) [sI s] := by first | exact x_T.keep hb15 | exact (x_T.alloc _).keep hb15 | exact ((x_T.alloc _).alloc _).keep hb15 | exact (((x_T.alloc _).alloc _).alloc _).keep hb15
    have y_L : Blk w15 bl 37 #[.int .u8 2, .int .i64 (q : Int), .string ⟨#[]⟩, .int .i64 0] := by first | exact x_L.keep hb15 | exact (x_L.alloc _).keep hb15 | exact ((x_L.alloc _).alloc _).keep hb15 | exact (((x_L.alloc _).alloc _).alloc _).keep hb15
    have y_A : Blk w15 ba 37 #[.int .u8 3, .int .i64 0, .string A, .int .i64 0] := by first | exact x_A.keep hb15 | exact (x_A.alloc _).keep hb15 | exact ((x_A.alloc _).alloc _).keep hb15 | exact (((x_A.alloc _).alloc _).alloc _).keep hb15
    clear x_T x_L x_A
    have x_T := y_T
    have x_L := y_L
    have x_A := y_A
    clear y_T y_L y_A
    clear hb15
    obtain ⟨bb, hbb⟩ : ∃ b, b = w14.heap.size := ⟨_, rfl⟩
    rw [← hbb] at b_B ⊢
    have b_BB := b_B
    clear hbb
    clear b_B
    have x_B : Blk w15 bb 37 #[.int .u8 3, .int .i64 0, .string Bt, .int .i64 0] := b_BB
    clear b_BB
    refine wp_region_facts (R := RB w15.heap.size (⟨#[]⟩) (0)) [eqF w15.heap.size (⟨#[]⟩) (0) 57 (.agg #[.int .u8 3, .int .i64 0, .string A, .int .i64 0]), itsF w15.heap.size ⟨#[]⟩ 0 58 1 1 [sI A], itsF w15.heap.size ⟨#[]⟩ 0 59 1 1 [sI A], eqF w15.heap.size (⟨#[]⟩) (0) 60 (.agg #[.int .u8 3, .int .i64 0, .string Bt, .int .i64 0]), itsF w15.heap.size ⟨#[]⟩ 0 61 1 1 [sI Bt], itsF w15.heap.size ⟨#[]⟩ 0 62 1 1 [sI Bt], someF w15.heap.size ⟨#[]⟩ 0 63 (fun x : Nat × Nat => .slice (some ⟨x.1, 0, none⟩) 2 2) (fun x W => ArgsR W x.1 [[sI A], [sI Bt]]) (fun _ _ _ h k => k.keep h.be), eqF w15.heap.size (⟨#[]⟩) (0) 64 (.agg #[.int .u8 3, .int .i64 0, .string s, .int .i64 0]), eqF w15.heap.size (⟨#[]⟩) (0) 65 (.string s), eqF w15.heap.size (⟨#[]⟩) (0) 66 (.agg #[.int .u8 3, .int .i64 0, .string s, .int .i64 0]), eqF w15.heap.size (⟨#[]⟩) (0) 67 (.bool false), eqF w15.heap.size (⟨#[]⟩) (0) 68 (.bool false), eqF w15.heap.size (⟨#[]⟩) (0) 69 (.agg #[.int .u8 3, .int .i64 0, .string A, .int .i64 0]), itsF w15.heap.size ⟨#[]⟩ 0 70 1 1 [sI A], itsF w15.heap.size ⟨#[]⟩ 0 71 1 1 [sI A], someF w15.heap.size ⟨#[]⟩ 0 72 (fun x : Nat × Nat => .slice (some ⟨x.1, 0, none⟩) 1 1) (fun x W => ArgsR W x.1 [[sI A]]) (fun _ _ _ h k => k.keep h.be), eqF w15.heap.size (⟨#[]⟩) (0) 73 (.agg #[.int .u8 2, .int .i64 (ca : Int), .string ⟨#[]⟩, .int .i64 0]), eqF w15.heap.size (⟨#[]⟩) (0) 74 (.int .i64 (ca : Int)), eqF w15.heap.size (⟨#[]⟩) (0) 75 (.agg #[.int .u8 3, .int .i64 0, .string Bt, .int .i64 0]), itsF w15.heap.size ⟨#[]⟩ 0 76 1 1 [sI Bt], itsF w15.heap.size ⟨#[]⟩ 0 77 1 1 [sI Bt], someF w15.heap.size ⟨#[]⟩ 0 78 (fun x : Nat × Nat => .slice (some ⟨x.1, 0, none⟩) 1 1) (fun x W => ArgsR W x.1 [[sI Bt]]) (fun _ _ _ h k => k.keep h.be), eqF w15.heap.size (⟨#[]⟩) (0) 79 (.agg #[.int .u8 2, .int .i64 (cb : Int), .string ⟨#[]⟩, .int .i64 0]), eqF w15.heap.size (⟨#[]⟩) (0) 80 (.int .i64 (cb : Int)), eqF w15.heap.size (⟨#[]⟩) (0) 81 (.int .i64 (q : Int)), eqF w15.heap.size (⟨#[]⟩) (0) 82 (.pointer (some ⟨bl, 1, none⟩)), eqF w15.heap.size (⟨#[]⟩) (0) 83 (.int .i64 (q : Int)), eqF w15.heap.size (⟨#[]⟩) (0) 84 (.bool false), eqF w15.heap.size (⟨#[]⟩) (0) 85 (.bool false), eqF w15.heap.size (⟨#[]⟩) (0) 86 (.bool false), eqF w15.heap.size (⟨#[]⟩) (0) 87 (.pointer (some ⟨ba, 2, none⟩)), eqF w15.heap.size (⟨#[]⟩) (0) 88 (.string A), eqF w15.heap.size (⟨#[]⟩) (0) 89 (.pointer (some ⟨bb, 2, none⟩)), eqF w15.heap.size (⟨#[]⟩) (0) 90 (.string Bt), eqF w15.heap.size (⟨#[]⟩) (0) 91 (.string s), eqF w15.heap.size (⟨#[]⟩) (0) 92 (.string s), eqF w15.heap.size (⟨#[]⟩) (0) 93 (.bool false), eqF w15.heap.size (⟨#[]⟩) (0) 94 (.bool false)] (by kernel_rfl) (by kernel_rfl) (by kernel_rfl) (RB.refl (Nat.le_refl _)) (fun _ h => h.again) (fun _ _ _ h k => h.trans k) ?_ ?_
    · refine stepsU_cons rfl ?_ (stepsU_cons rfl ?_ (stepsU_cons rfl ?_ (stepsU_cons rfl ?_ (stepsU_cons rfl ?_ (stepsU_cons rfl ?_ (stepsU_cons rfl ?_ (stepsU_cons rfl ?_ (stepsU_cons rfl ?_ (stepsU_cons rfl ?_ (stepsU_cons rfl ?_ (stepsU_cons rfl ?_ (stepsU_cons rfl ?_ (stepsU_cons rfl ?_ (stepsU_cons rfl ?_ (stepsU_cons rfl ?_ (stepsU_cons rfl ?_ (stepsU_cons rfl ?_ (stepsU_cons rfl ?_ (stepsU_cons rfl ?_ (stepsU_cons rfl ?_ (stepsU_cons rfl ?_ (stepsU_cons rfl ?_ (stepsU_cons rfl ?_ (stepsU_cons rfl ?_ (stepsU_cons rfl ?_ (stepsU_cons rfl ?_ (stepsU_cons rfl ?_ (stepsU_cons rfl ?_ (stepsU_cons rfl ?_ (stepsU_cons rfl ?_ (stepsU_cons rfl ?_ (stepsU_cons rfl ?_ (stepsU_cons rfl ?_ (stepsU_cons rfl ?_ (stepsU_cons rfl ?_ (stepsU_cons rfl ?_ (stepsU_cons rfl ?_ (stepsU_nil))))))))))))))))))))))))))))))))))))))
      · refine stepU_plain rfl fun u wr hR hK hD => ?_; exact upon_loadIt _ _ _ _ _ _ rfl (hK 9 rfl) (hR.old x_A.lt x_A) ⟨hR.again, rfl⟩
      · refine stepU_plain rfl fun u wr hR hK hD => ?_; exact upon_buildIt _ _ _ _ _ rfl (hD 0 rfl) ⟨hR.next ((Below.refl _ _).alloc (Nat.le_refl _) _), ⟨_, rfl, Nat.le_trans hR.hB hR.be.size, RdI.new _ _ [sI A]⟩⟩
      · refine stepU_plain rfl fun u wr hR hK hD => ?_; obtain ⟨g, h1, h2, h3⟩ := (hD 1 rfl); exact upon_call1 _ _ _ Tryz.func14 (by kernel_rfl) rfl h1 ((lrow_any _ _ _ _).mono fun e wn ⟨he, hw⟩ => ⟨_, he, by subst hw; exact ⟨hR.again, ⟨g, rfl, h2, h3⟩⟩⟩)
      · refine stepU_plain rfl fun u wr hR hK hD => ?_; exact upon_loadIt _ _ _ _ _ _ rfl (hK 10 rfl) (hR.old x_B.lt x_B) ⟨hR.again, rfl⟩
      · refine stepU_plain rfl fun u wr hR hK hD => ?_; exact upon_buildIt _ _ _ _ _ rfl (hD 3 rfl) ⟨hR.next ((Below.refl _ _).alloc (Nat.le_refl _) _), ⟨_, rfl, Nat.le_trans hR.hB hR.be.size, RdI.new _ _ [sI Bt]⟩⟩
      · refine stepU_plain rfl fun u wr hR hK hD => ?_; obtain ⟨g, h1, h2, h3⟩ := (hD 4 rfl); exact upon_call1 _ _ _ Tryz.func14 (by kernel_rfl) rfl h1 ((lrow_any _ _ _ _).mono fun e wn ⟨he, hw⟩ => ⟨_, he, by subst hw; exact ⟨hR.again, ⟨g, rfl, h2, h3⟩⟩⟩)
      · refine stepU_plain rfl fun u wr hR hK hD => ?_; obtain ⟨g1, h1, h2, h3⟩ := (hD 2 rfl); obtain ⟨g2, m1, m2, m3⟩ := (hD 5 rfl); exact upon_rows2 _ _ _ _ _ _ _ _ rfl h1 m1 ⟨hR.next ((Below.refl _ _).alloc (Nat.le_refl _) _), ⟨(_, 0), rfl, ArgsR.new2 h3 rfl m3 rfl⟩⟩
      · refine stepU_plain rfl fun u wr hR hK hD => ?_; obtain ⟨⟨g, _⟩, h1, h2⟩ := (hD 6 rfl); exact upon_call2 _ _ _ _ _ Tryz.func16 (by kernel_rfl) rfl rfl h1 ((Hcc.out wr g 2 (He.out.keep (chain0 hB.drew hR.be)) h2).mono fun e wn ⟨he, hb⟩ => ⟨_, he, hR.next hb, rfl⟩)
      · refine stepU_plain rfl fun u wr hR hK hD => ?_; exact upon_move _ _ rfl (hK 0 rfl) ⟨hR.again, rfl⟩
      · refine stepU_plain rfl fun u wr hR hK hD => ?_; exact upon_call1 _ _ _ Tryz.func15 (by kernel_rfl) rfl (hD 8 rfl) ((lstr_any s wr).mono fun e wn ⟨he, hb⟩ => ⟨_, he, hR.next hb, rfl⟩)
      · refine stepU_plain rfl fun u wr hR hK hD => ?_; have z64 : u 64 = _ := (hD 7 rfl); have z66 : u 66 = _ := (hD 9 rfl); exact upon_val _ (by unfold execOp; simp [go_sem, evU, z64, z66]) ⟨hR.again, rfl⟩
      · refine stepU_plain rfl fun u wr hR hK hD => ?_; exact upon_move _ _ rfl (hD 10 rfl) ⟨hR.again, rfl⟩
      · refine stepU_yes 11 68 false rfl rfl (fun u wr hK hD => hD 11 rfl) fun u wr hR hK hD => ?_; exact upon_loadIt _ _ _ _ _ _ rfl (hK 9 rfl) (hR.old x_A.lt x_A) ⟨hR.again, rfl⟩
      · refine stepU_yes 11 68 false rfl rfl (fun u wr hK hD => hD 11 rfl) fun u wr hR hK hD => ?_; exact upon_buildIt _ _ _ _ _ rfl (hD 12 rfl) ⟨hR.next ((Below.refl _ _).alloc (Nat.le_refl _) _), ⟨_, rfl, Nat.le_trans hR.hB hR.be.size, RdI.new _ _ [sI A]⟩⟩
      · refine stepU_yes 11 68 false rfl rfl (fun u wr hK hD => hD 11 rfl) fun u wr hR hK hD => ?_; obtain ⟨g, h1, h2, h3⟩ := (hD 13 rfl); exact upon_call1 _ _ _ Tryz.func14 (by kernel_rfl) rfl h1 ((lrow_any _ _ _ _).mono fun e wn ⟨he, hw⟩ => ⟨_, he, by subst hw; exact ⟨hR.again, ⟨g, rfl, h2, h3⟩⟩⟩)
      · refine stepU_yes 11 68 false rfl rfl (fun u wr hK hD => hD 11 rfl) fun u wr hR hK hD => ?_; obtain ⟨g1, h1, h2, h3⟩ := (hD 14 rfl); exact upon_rows1 _ _ _ _ rfl h1 ⟨hR.next ((Below.refl _ _).alloc (Nat.le_refl _) _), ⟨(_, 0), rfl, ArgsR.new1 h3 rfl⟩⟩
      · refine stepU_yes 11 68 false rfl rfl (fun u wr hK hD => hD 11 rfl) fun u wr hR hK hD => ?_; obtain ⟨⟨g, _⟩, h1, h2⟩ := (hD 15 rfl); exact upon_call2 _ _ _ _ _ Tryz.func16 (by kernel_rfl) rfl rfl h1 ((Hla.out wr g 1 (He.out.keep (chain0 hB.drew hR.be)) h2).mono fun e wn ⟨he, hb⟩ => ⟨_, he, hR.next hb, rfl⟩)
      · refine stepU_yes 11 68 false rfl rfl (fun u wr hK hD => hD 11 rfl) fun u wr hR hK hD => ?_; have z : u 73 = _ := (hD 16 rfl); exact upon_val _ (by unfold execOp; simp [go_sem, evU, z, Instr.field, asAgg]) ⟨hR.again, rfl⟩
      · refine stepU_yes 11 68 false rfl rfl (fun u wr hK hD => hD 11 rfl) fun u wr hR hK hD => ?_; exact upon_loadIt _ _ _ _ _ _ rfl (hK 10 rfl) (hR.old x_B.lt x_B) ⟨hR.again, rfl⟩
      · refine stepU_yes 11 68 false rfl rfl (fun u wr hK hD => hD 11 rfl) fun u wr hR hK hD => ?_; exact upon_buildIt _ _ _ _ _ rfl (hD 18 rfl) ⟨hR.next ((Below.refl _ _).alloc (Nat.le_refl _) _), ⟨_, rfl, Nat.le_trans hR.hB hR.be.size, RdI.new _ _ [sI Bt]⟩⟩
      · refine stepU_yes 11 68 false rfl rfl (fun u wr hK hD => hD 11 rfl) fun u wr hR hK hD => ?_; obtain ⟨g, h1, h2, h3⟩ := (hD 19 rfl); exact upon_call1 _ _ _ Tryz.func14 (by kernel_rfl) rfl h1 ((lrow_any _ _ _ _).mono fun e wn ⟨he, hw⟩ => ⟨_, he, by subst hw; exact ⟨hR.again, ⟨g, rfl, h2, h3⟩⟩⟩)
      · refine stepU_yes 11 68 false rfl rfl (fun u wr hK hD => hD 11 rfl) fun u wr hR hK hD => ?_; obtain ⟨g1, h1, h2, h3⟩ := (hD 20 rfl); exact upon_rows1 _ _ _ _ rfl h1 ⟨hR.next ((Below.refl _ _).alloc (Nat.le_refl _) _), ⟨(_, 0), rfl, ArgsR.new1 h3 rfl⟩⟩
      · refine stepU_yes 11 68 false rfl rfl (fun u wr hK hD => hD 11 rfl) fun u wr hR hK hD => ?_; obtain ⟨⟨g, _⟩, h1, h2⟩ := (hD 21 rfl); exact upon_call2 _ _ _ _ _ Tryz.func16 (by kernel_rfl) rfl rfl h1 ((Hlb.out wr g 1 (He.out.keep (chain0 hB.drew hR.be)) h2).mono fun e wn ⟨he, hb⟩ => ⟨_, he, hR.next hb, rfl⟩)
      · refine stepU_yes 11 68 false rfl rfl (fun u wr hK hD => hD 11 rfl) fun u wr hR hK hD => ?_; have z : u 79 = _ := (hD 22 rfl); exact upon_val _ (by unfold execOp; simp [go_sem, evU, z, Instr.field, asAgg]) ⟨hR.again, rfl⟩
      · refine stepU_yes 11 68 false rfl rfl (fun u wr hK hD => hD 11 rfl) fun u wr hR hK hD => ?_; have z74 : u 74 = _ := (hD 17 rfl); have z80 : u 80 = _ := (hD 23 rfl); exact upon_val _ (by unfold execOp; simp [go_sem, evU, z74, z80, hadd]) ⟨hR.again, rfl⟩
      · refine stepU_yes 11 68 false rfl rfl (fun u wr hK hD => hD 11 rfl) fun u wr hR hK hD => ?_; have z6 : u 6 = _ := (hK 6 rfl); exact upon_val _ (by unfold execOp; simp [go_sem, evU, z6]) ⟨hR.again, rfl⟩
      · refine stepU_yes 11 68 false rfl rfl (fun u wr hK hD => hD 11 rfl) fun u wr hR hK hD => ?_; have z : u 82 = _ := (hD 25 rfl); have c := (hR.old x_L.lt x_L).cell 1; simp only [List.getElem?_toArray, List.getElem?_cons_succ, List.getElem?_cons_zero] at c; exact upon_val _ (by unfold execOp; simp [go_sem, evU, z, c]) ⟨hR.again, rfl⟩
      · refine stepU_yes 11 68 false rfl rfl (fun u wr hK hD => hD 11 rfl) fun u wr hR hK hD => ?_; have z81 : u 81 = _ := (hD 24 rfl); have z83 : u 83 = _ := (hD 26 rfl); exact upon_val _ (by unfold execOp; simp [go_sem, evU, z81, z83]) ⟨hR.again, rfl⟩
      · refine stepU_plain rfl fun u wr hR hK hD => ?_; exact upon_pick _ _ _ _ _ rfl (hD 11 rfl) (by first | rfl | exact rfl | exact (hD 27 rfl)) ⟨hR.again, rfl⟩
      · refine stepU_plain rfl fun u wr hR hK hD => ?_; exact upon_move _ _ rfl (hD 28 rfl) ⟨hR.again, rfl⟩
      · refine stepU_yes 29 86 false rfl rfl (fun u wr hK hD => hD 29 rfl) fun u wr hR hK hD => ?_; have z9 : u 9 = _ := (hK 9 rfl); exact upon_val _ (by unfold execOp; simp [go_sem, evU, z9]) ⟨hR.again, rfl⟩
      · refine stepU_yes 29 86 false rfl rfl (fun u wr hK hD => hD 29 rfl) fun u wr hR hK hD => ?_; have z : u 87 = _ := (hD 30 rfl); have c := (hR.old x_A.lt x_A).cell 2; simp only [List.getElem?_toArray, List.getElem?_cons_succ, List.getElem?_cons_zero] at c; exact upon_val _ (by unfold execOp; simp [go_sem, evU, z, c]) ⟨hR.again, rfl⟩
      · refine stepU_yes 29 86 false rfl rfl (fun u wr hK hD => hD 29 rfl) fun u wr hR hK hD => ?_; have z10 : u 10 = _ := (hK 10 rfl); exact upon_val _ (by unfold execOp; simp [go_sem, evU, z10]) ⟨hR.again, rfl⟩
      · refine stepU_yes 29 86 false rfl rfl (fun u wr hK hD => hD 29 rfl) fun u wr hR hK hD => ?_; have z : u 89 = _ := (hD 32 rfl); have c := (hR.old x_B.lt x_B).cell 2; simp only [List.getElem?_toArray, List.getElem?_cons_succ, List.getElem?_cons_zero] at c; exact upon_val _ (by unfold execOp; simp [go_sem, evU, z, c]) ⟨hR.again, rfl⟩
      · refine stepU_yes 29 86 false rfl rfl (fun u wr hK hD => hD 29 rfl) fun u wr hR hK hD => ?_; have z88 : u 88 = _ := (hD 31 rfl); have z90 : u 90 = _ := (hD 33 rfl); exact upon_val _ (by unfold execOp; simp [go_sem, evU, z88, z90, hab, hszs, hszl]) ⟨hR.again, rfl⟩
      · refine stepU_yes 29 86 false rfl rfl (fun u wr hK hD => hD 29 rfl) fun u wr hR hK hD => ?_; exact upon_move _ _ rfl (hK 0 rfl) ⟨hR.again, rfl⟩
      · refine stepU_yes 29 86 false rfl rfl (fun u wr hK hD => hD 29 rfl) fun u wr hR hK hD => ?_; have z91 : u 91 = _ := (hD 34 rfl); have z92 : u 92 = _ := (hD 35 rfl); exact upon_val _ (by unfold execOp; simp [go_sem, evU, z91, z92]) ⟨hR.again, rfl⟩
      · refine stepU_plain rfl fun u wr hR hK hD => ?_; exact upon_pick _ _ _ _ _ rfl (hD 29 rfl) (by first | rfl | exact rfl | exact (hD 36 rfl)) ⟨hR.again, rfl⟩
    intro u w16 hR hF
    have e57 : u 57 = .agg #[.int .u8 3, .int .i64 0, .string A, .int .i64 0] := hF 0 (by decide)
    have e60 : u 60 = .agg #[.int .u8 3, .int .i64 0, .string Bt, .int .i64 0] := hF 3 (by decide)
    have e64 : u 64 = .agg #[.int .u8 3, .int .i64 0, .string s, .int .i64 0] := hF 7 (by decide)
    have e65 : u 65 = .string s := hF 8 (by decide)
    have e66 : u 66 = .agg #[.int .u8 3, .int .i64 0, .string s, .int .i64 0] := hF 9 (by decide)
    have e67 : u 67 = .bool false := hF 10 (by decide)
    have e68 : u 68 = .bool false := hF 11 (by decide)
    have e69 : u 69 = .agg #[.int .u8 3, .int .i64 0, .string A, .int .i64 0] := hF 12 (by decide)
    have e73 : u 73 = .agg #[.int .u8 2, .int .i64 (ca : Int), .string ⟨#[]⟩, .int .i64 0] := hF 16 (by decide)
    have e74 : u 74 = .int .i64 (ca : Int) := hF 17 (by decide)
    have e75 : u 75 = .agg #[.int .u8 3, .int .i64 0, .string Bt, .int .i64 0] := hF 18 (by decide)
    have e79 : u 79 = .agg #[.int .u8 2, .int .i64 (cb : Int), .string ⟨#[]⟩, .int .i64 0] := hF 22 (by decide)
    have e80 : u 80 = .int .i64 (cb : Int) := hF 23 (by decide)
    have e81 : u 81 = .int .i64 (q : Int) := hF 24 (by decide)
    have e82 : u 82 = .pointer (some ⟨bl, 1, none⟩) := hF 25 (by decide)
    have e83 : u 83 = .int .i64 (q : Int) := hF 26 (by decide)
    have e84 : u 84 = .bool false := hF 27 (by decide)
    have e85 : u 85 = .bool false := hF 28 (by decide)
    have e86 : u 86 = .bool false := hF 29 (by decide)
    have e87 : u 87 = .pointer (some ⟨ba, 2, none⟩) := hF 30 (by decide)
    have e88 : u 88 = .string A := hF 31 (by decide)
    have e89 : u 89 = .pointer (some ⟨bb, 2, none⟩) := hF 32 (by decide)
    have e90 : u 90 = .string Bt := hF 33 (by decide)
    have e91 : u 91 = .string s := hF 34 (by decide)
    have e92 : u 92 = .string s := hF 35 (by decide)
    have e93 : u 93 = .bool false := hF 36 (by decide)
    have e94 : u 94 = .bool false := hF 37 (by decide)
    obtain ⟨a58, e58, p58, r58⟩ := hF 1 (by decide)
    obtain ⟨a59, e59, p59, r59⟩ := hF 2 (by decide)
    obtain ⟨a61, e61, p61, r61⟩ := hF 4 (by decide)
    obtain ⟨a62, e62, p62, r62⟩ := hF 5 (by decide)
    obtain ⟨⟨a63, p63⟩, e63, r63⟩ := hF 6 (by decide)
    dsimp only at e63 r63
    obtain ⟨a70, e70, p70, r70⟩ := hF 13 (by decide)
    obtain ⟨a71, e71, p71, r71⟩ := hF 14 (by decide)
    obtain ⟨⟨a72, p72⟩, e72, r72⟩ := hF 15 (by decide)
    dsimp only at e72 r72
    obtain ⟨a76, e76, p76, r76⟩ := hF 19 (by decide)
    obtain ⟨a77, e77, p77, r77⟩ := hF 20 (by decide)
    obtain ⟨⟨a78, p78⟩, e78, r78⟩ := hF 21 (by decide)
    dsimp only at e78 r78
    simp only [finU, Act.put, List.setIfInBounds_toArray, List.set_cons_succ, List.set_cons_zero, e57, e58, e59, e60, e61, e62, e63, e64, e65, e66, e67, e68, e69, e70, e71, e72, e73, e74, e75, e76, e77, e78, e79, e80, e81, e82, e83, e84, e85, e86, e87, e88, e89, e90, e91, e92, e93, e94]
    clear hF e57 e58 e59 e60 e61 e62 e63 e64 e65 e66 e67 e68 e69 e70 e71 e72 e73 e74 e75 e76 e77 e78 e79 e80 e81 e82 e83 e84 e85 e86 e87 e88 e89 e90 e91 e92 e93 e94
    have hB2 : Below w.heap.size w w16 := chain hB.drew hB.size hR.be
    have hb_w16 : Below w15.heap.size w15 w16 := ⟨hR.be.os, hR.be.tape, hR.be.output, hR.be.size, hR.be.block⟩
    have y_T : RdI w16 (some ⟨gt, 0, none⟩) [sI s] := x_T.keep hb_w16
    have y_L : Blk w16 bl 37 #[.int .u8 2, .int .i64 (q : Int), .string ⟨#[]⟩, .int .i64 0] := hR.old x_L.lt x_L
    have y_A : Blk w16 ba 37 #[.int .u8 3, .int .i64 0, .string A, .int .i64 0] := hR.old x_A.lt x_A
    have y_B : Blk w16 bb 37 #[.int .u8 3, .int .i64 0, .string Bt, .int .i64 0] := hR.old x_B.lt x_B
    clear hB hR x_T x_L x_A x_B
    have hB := hB2
    clear hB2
    have x_T := y_T
    have x_L := y_L
    have x_A := y_A
    have x_B := y_B
    clear y_T y_L y_A y_B
    clear Hcc Hla Hlb hadd hab hszs hq9 hszl
    have hfl : ∀ W : World, (Instr.field 37 (.agg #[.int .u8 4, .int .i64 1, .string ⟨#[]⟩, .int .i64 0]) 1).run Tryz.prog W = .ok (.int .i64 1) W := fun W => by simp [go_sem, Instr.field, asAgg]
    have Hsta : Hid (LC m ⟨#[115, 116, 97, 114, 116, 115, 45, 119, 105, 116, 104]⟩ 2 [[sI s], [sI A]] (tI true)) := by
      show LC _ _ _ _ _
      have h := lc_starts_with m Ht.out HtA.out (by have := Hz.out; omega) (by omega)
      rwa [show Lib.hasPrefix s.data.toList A.data.toList = true by rw [← HAB.out]; exact pre_app A Bt] at h
    have Hend : Hid (LC m ⟨#[101, 110, 100, 115, 45, 119, 105, 116, 104]⟩ 2 [[sI s], [sI Bt]] (tI true)) := by
      show LC _ _ _ _ _
      have h := lc_ends_with m Ht.out HtB.out (by have := Hz.out; omega) (by omega)
      rwa [show Lib.hasSuffix s.data.toList Bt.data.toList = true by rw [← HAB.out]; exact suf_app A Bt] at h
    have Hca1 : Hid (LC m ⟨#[99, 111, 110, 116, 97, 105, 110, 115]⟩ 2 [[sI s], [sI A]] (tI true)) := by
      show LC _ _ _ _ _
      have h := lc_contains m Ht.out HtA.out (by have := Hz.out; omega) (by omega)
      rwa [show Lib.contains s.data.toList A.data.toList = true by rw [← HAB.out]; exact con_pre A Bt] at h
    have Hcb1 : Hid (LC m ⟨#[99, 111, 110, 116, 97, 105, 110, 115]⟩ 2 [[sI s], [sI Bt]] (tI true)) := by
      show LC _ _ _ _ _
      have h := lc_contains m Ht.out HtB.out (by have := Hz.out; omega) (by omega)
      rwa [show Lib.contains s.data.toList Bt.data.toList = true by rw [← HAB.out]; exact con_suf A Bt] at h
    have d0 := x_A.cell 0
    have d1 := x_A.cell 1
    have d2 := x_A.cell 2
    have d3 := x_A.cell 3
    simp only [List.getElem?_toArray, List.getElem?_cons_zero, List.getElem?_cons_succ] at d0 d1 d2 d3
    -- row of a text's item: 17 new world, 16 old world, A text, U1 name, gu1 the block's variable
    go_wp2_with fail
    refine (lrow_any _ _ _ _).mono ?_
    rintro e wx ⟨rfl, rfl⟩
    obtain ⟨w17, hw17⟩ : ∃ W, W = w16.alloc (.cells #[.int .u8 3, .int .i64 0, .string A, .int .i64 0] 37) := ⟨_, rfl⟩
    have r_U1 : RdI w17 (some ⟨w16.heap.size, 0, none⟩) [sI A] := by rw [hw17]; exact RdI.new _ _ [sI A]
    have hb17 : Below w16.heap.size w16 w17 := by rw [hw17]; exact (Below.refl _ _).alloc (Nat.le_refl _) _
    rw [← hw17]
    clear hw17
    have hB2 : Below w.heap.size w w17 := by first | exact chain0 hB hb17 | exact chain1 hB hb17 | exact chain2 hB hb17 | exact chain3 hB hb17
    clear hB
    have hB := hB2
    clear hB2
    have y_T : RdI w17 (some ⟨gt, 0, none⟩) [sI s] := by first | exact x_T.keep hb17 | exact (x_T.alloc _).keep hb17 | exact ((x_T.alloc _).alloc _).keep hb17 | exact (((x_T.alloc _).alloc _).alloc _).keep hb17
    have y_L : Blk w17 bl 37 #[.int .u8 2, .int .i64 (q : Int), .string ⟨#[]⟩, .int .i64 0] := by first | exact x_L.keep hb17 | exact (x_L.alloc _).keep hb17 | exact ((x_L.alloc _).alloc _).keep hb17 | exact (((x_L.alloc _).alloc _).alloc _).keep hb17
    have y_A : Blk w17 ba 37 #[.int .u8 3, .int .i64 0, .string A, .int .i64 0] := by first | exact x_A.keep hb17 | exact (x_A.alloc _).keep hb17 | exact ((x_A.alloc _).alloc _).keep hb17 | exact (((x_A.alloc _).alloc _).alloc _).keep hb17
    have y_B : Blk w17 bb 37 #[.int .u8 3, .int .i64 0, .string Bt, .int .i64 0] := by first | exact x_B.keep hb17 | exact (x_B.alloc _).keep hb17 | exact ((x_B.alloc _).alloc _).keep hb17 | exact (((x_B.alloc _).alloc _).alloc _).keep hb17
    clear x_T x_L x_A x_B
    have x_T := y_T
    have x_L := y_L
    have x_A := y_A
    have x_B := y_B
    clear y_T y_L y_A y_B
    clear hb17
    obtain ⟨gu1, hgu1⟩ : ∃ b, b = w16.heap.size := ⟨_, rfl⟩
    rw [← hgu1] at r_U1 ⊢
    clear hgu1
    have x_U1 : RdI w17 (some ⟨gu1, 0, none⟩) [sI A] := r_U1
    clear r_U1 d0 d1 d2 d3
    go_wp2_with fail
    refine (Hsta.out _ _ 2 (He.out.keep (hB.alloc hB.size _)) (ArgsR.new2 x_T rfl x_U1 rfl)).mono ?_
    rintro e w18 ⟨rfl, hb18⟩
    have hB2 : Below w.heap.size w w18 := by first | exact chain0 hB hb18 | exact chain1 hB hb18 | exact chain2 hB hb18 | exact chain3 hB hb18
    clear hB
    have hB := hB2
    clear hB2
    have y_T : RdI w18 (some ⟨gt, 0, none⟩) [sI s] := by first | exact x_T.keep hb18 | exact (x_T.alloc _).keep hb18 | exact ((x_T.alloc _).alloc _).keep hb18 | exact (((x_T.alloc _).alloc _).alloc _).keep hb18
    have y_L : Blk w18 bl 37 #[.int .u8 2, .int .i64 (q : Int), .string ⟨#[]⟩, .int .i64 0] := by first | exact x_L.keep hb18 | exact (x_L.alloc _).keep hb18 | exact ((x_L.alloc _).alloc _).keep hb18 | exact (((x_L.alloc _).alloc _).alloc _).keep hb18
    have y_A : Blk w18 ba 37 #[.int .u8 3, .int .i64 0, .string A, .int .i64 0] := by first | exact x_A.keep hb18 | exact (x_A.alloc _).keep hb18 | exact ((x_A.alloc _).alloc _).keep hb18 | exact (((x_A.alloc _).alloc _).alloc _).keep hb18
    have y_B : Blk w18 bb 37 #[.int .u8 3, .int .i64 0, .string Bt, .int .i64 0] := by first | exact x_B.keep hb18 | exact (x_B.alloc _).keep hb18 | exact ((x_B.alloc _).alloc _).keep hb18 | exact (((x_B.alloc _).alloc _).alloc _).keep hb18
    have y_U1 : RdI w18 (some ⟨gu1, 0, none⟩) [sI A] := by first | exact x_U1.keep hb18 | exact (x_U1.alloc _).keep hb18 | exact ((x_U1.alloc _).alloc _).keep hb18 | exact (((x_U1.alloc _).alloc _).alloc _).keep hb18
    clear x_T x_L x_A x_B x_U1
    have x_T := y_T
    have x_L := y_L
    have x_A := y_A
    have x_B := y_B
    have x_U1 := y_U1
    clear y_T y_L y_A y_B y_U1
    clear x_U1
    dsimp only [itA, tI]
    rw [show bN true = 1 from rfl, show ((4 : Nat) : Int) = 4 from rfl]
    clear Hsta
    have d0 := x_B.cell 0
    have d1 := x_B.cell 1
    have d2 := x_B.cell 2
    have d3 := x_B.cell 3
    simp only [List.getElem?_toArray, List.getElem?_cons_zero, List.getElem?_cons_succ] at d0 d1 d2 d3
    -- row of a text's item: 19 new world, 18 old world, Bt text, U2 name, gu2 the block's variable
    go_wp2_with fail
    refine (lrow_any _ _ _ _).mono ?_
    rintro e wx ⟨rfl, rfl⟩
    obtain ⟨w19, hw19⟩ : ∃ W, W = w18.alloc (.cells #[.int .u8 3, .int .i64 0, .string Bt, .int .i64 0] 37) := ⟨_, rfl⟩
    have r_U2 : RdI w19 (some ⟨w18.heap.size, 0, none⟩) [sI Bt] := by rw [hw19]; exact RdI.new _ _ [sI Bt]
    have hb19 : Below w18.heap.size w18 w19 := by rw [hw19]; exact (Below.refl _ _).alloc (Nat.le_refl _) _
    rw [← hw19]
    clear hw19
    have hB2 : Below w.heap.size w w19 := by first | exact chain0 hB hb19 | exact chain1 hB hb19 | exact chain2 hB hb19 | exact chain3 hB hb19
    clear hB
    have hB := hB2
    clear hB2
    have y_T : RdI w19 (some ⟨gt, 0, none⟩) [sI s] := by first | exact x_T.keep hb19 | exact (x_T.alloc _).keep hb19 | exact ((x_T.alloc _).alloc _).keep hb19 | exact (((x_T.alloc _).alloc _).alloc _).keep hb19
    have y_L : Blk w19 bl 37 #[.int .u8 2, .int .i64 (q : Int), .string ⟨#[]⟩, .int .i64 0] := by first | exact x_L.keep hb19 | exact (x_L.alloc _).keep hb19 | exact ((x_L.alloc _).alloc _).keep hb19 | exact (((x_L.alloc _).alloc _).alloc _).keep hb19
    have y_A : Blk w19 ba 37 #[.int .u8 3, .int .i64 0, .string A, .int .i64 0] := by first | exact x_A.keep hb19 | exact (x_A.alloc _).keep hb19 | exact ((x_A.alloc _).alloc _).keep hb19 | exact (((x_A.alloc _).alloc _).alloc _).keep hb19
    have y_B : Blk w19 bb 37 #[.int .u8 3, .int .i64 0, .string Bt, .int .i64 0] := by first | exact x_B.keep hb19 | exact (x_B.alloc _).keep hb19 | exact ((x_B.alloc _).alloc _).keep hb19 | exact (((x_B.alloc _).alloc _).alloc _).keep hb19
    clear x_T x_L x_A x_B
    have x_T := y_T
    have x_L := y_L
    have x_A := y_A
    have x_B := y_B
    clear y_T y_L y_A y_B
    clear hb19
    obtain ⟨gu2, hgu2⟩ : ∃ b, b = w18.heap.size := ⟨_, rfl⟩
    rw [← hgu2] at r_U2 ⊢
    clear hgu2
    have x_U2 : RdI w19 (some ⟨gu2, 0, none⟩) [sI Bt] := r_U2
    clear r_U2 d0 d1 d2 d3
    go_wp2_with fail
    refine (Hend.out _ _ 2 (He.out.keep (hB.alloc hB.size _)) (ArgsR.new2 x_T rfl x_U2 rfl)).mono ?_
    rintro e w20 ⟨rfl, hb20⟩
    have hB2 : Below w.heap.size w w20 := by first | exact chain0 hB hb20 | exact chain1 hB hb20 | exact chain2 hB hb20 | exact chain3 hB hb20
    clear hB
    have hB := hB2
    clear hB2
    have y_T : RdI w20 (some ⟨gt, 0, none⟩) [sI s] := by first | exact x_T.keep hb20 | exact (x_T.alloc _).keep hb20 | exact ((x_T.alloc _).alloc _).keep hb20 | exact (((x_T.alloc _).alloc _).alloc _).keep hb20
    have y_L : Blk w20 bl 37 #[.int .u8 2, .int .i64 (q : Int), .string ⟨#[]⟩, .int .i64 0] := by first | exact x_L.keep hb20 | exact (x_L.alloc _).keep hb20 | exact ((x_L.alloc _).alloc _).keep hb20 | exact (((x_L.alloc _).alloc _).alloc _).keep hb20
    have y_A : Blk w20 ba 37 #[.int .u8 3, .int .i64 0, .string A, .int .i64 0] := by first | exact x_A.keep hb20 | exact (x_A.alloc _).keep hb20 | exact ((x_A.alloc _).alloc _).keep hb20 | exact (((x_A.alloc _).alloc _).alloc _).keep hb20
    have y_B : Blk w20 bb 37 #[.int .u8 3, .int .i64 0, .string Bt, .int .i64 0] := by first | exact x_B.keep hb20 | exact (x_B.alloc _).keep hb20 | exact ((x_B.alloc _).alloc _).keep hb20 | exact (((x_B.alloc _).alloc _).alloc _).keep hb20
    have y_U2 : RdI w20 (some ⟨gu2, 0, none⟩) [sI Bt] := by first | exact x_U2.keep hb20 | exact (x_U2.alloc _).keep hb20 | exact ((x_U2.alloc _).alloc _).keep hb20 | exact (((x_U2.alloc _).alloc _).alloc _).keep hb20
    clear x_T x_L x_A x_B x_U2
    have x_T := y_T
    have x_L := y_L
    have x_A := y_A
    have x_B := y_B
    have x_U2 := y_U2
    clear y_T y_L y_A y_B y_U2
    clear x_U2
    dsimp only [itA, tI]
    rw [show bN true = 1 from rfl, show ((4 : Nat) : Int) = 4 from rfl]
    clear Hend
    have d0 := x_A.cell 0
    have d1 := x_A.cell 1
    have d2 := x_A.cell 2
    have d3 := x_A.cell 3
    simp only [List.getElem?_toArray, List.getElem?_cons_zero, List.getElem?_cons_succ] at d0 d1 d2 d3
    -- row of a text's item: 21 new world, 20 old world, A text, U3 name, gu3 the block's variable
    go_wp2_with fail
    refine (lrow_any _ _ _ _).mono ?_
    rintro e wx ⟨rfl, rfl⟩
    obtain ⟨w21, hw21⟩ : ∃ W, W = w20.alloc (.cells #[.int .u8 3, .int .i64 0, .string A, .int .i64 0] 37) := ⟨_, rfl⟩
    have r_U3 : RdI w21 (some ⟨w20.heap.size, 0, none⟩) [sI A] := by rw [hw21]; exact RdI.new _ _ [sI A]
    have hb21 : Below w20.heap.size w20 w21 := by rw [hw21]; exact (Below.refl _ _).alloc (Nat.le_refl _) _
    rw [← hw21]
    clear hw21
    have hB2 : Below w.heap.size w w21 := by first | exact chain0 hB hb21 | exact chain1 hB hb21 | exact chain2 hB hb21 | exact chain3 hB hb21
    clear hB
    have hB := hB2
    clear hB2
    have y_T : RdI w21 (some ⟨gt, 0, none⟩) [sI s] := by first | exact x_T.keep hb21 | exact (x_T.alloc _).keep hb21 | exact ((x_T.alloc _).alloc _).keep hb21 | exact (((x_T.alloc _).alloc _).alloc _).keep hb21
    have y_L : Blk w21 bl 37 #[.int .u8 2, .int .i64 (q : Int), .string ⟨#[]⟩, .int .i64 0] := by first | exact x_L.keep hb21 | exact (x_L.alloc _).keep hb21 | exact ((x_L.alloc _).alloc _).keep hb21 | exact (((x_L.alloc _).alloc _).alloc _).keep hb21
    have y_A : Blk w21 ba 37 #[.int .u8 3, .int .i64 0, .string A, .int .i64 0] := by first | exact x_A.keep hb21 | exact (x_A.alloc _).keep hb21 | exact ((x_A.alloc _).alloc _).keep hb21 | exact (((x_A.alloc _).alloc _).alloc _).keep hb21
    have y_B : Blk w21 bb 37 #[.int .u8 3, .int .i64 0, .string Bt, .int .i64 0] := by first | exact x_B.keep hb21 | exact (x_B.alloc _).keep hb21 | exact ((x_B.alloc _).alloc _).keep hb21 | exact (((x_B.alloc _).alloc _).alloc _).keep hb21
    clear x_T x_L x_A x_B
    have x_T := y_T
    have x_L := y_L
    have x_A := y_A
    have x_B := y_B
    clear y_T y_L y_A y_B
    clear hb21
    obtain ⟨gu3, hgu3⟩ : ∃ b, b = w20.heap.size := ⟨_, rfl⟩
    rw [← hgu3] at r_U3 ⊢
    clear hgu3
    have x_U3 : RdI w21 (some ⟨gu3, 0, none⟩) [sI A] := r_U3
    clear r_U3 d0 d1 d2 d3
    go_wp2_with fail
    refine (Hca1.out _ _ 2 (He.out.keep (hB.alloc hB.size _)) (ArgsR.new2 x_T rfl x_U3 rfl)).mono ?_
    rintro e w22 ⟨rfl, hb22⟩
    have hB2 : Below w.heap.size w w22 := by first | exact chain0 hB hb22 | exact chain1 hB hb22 | exact chain2 hB hb22 | exact chain3 hB hb22
    clear hB
    have hB := hB2
    clear hB2
    have y_T : RdI w22 (some ⟨gt, 0, none⟩) [sI s] := by first | exact x_T.keep hb22 | exact (x_T.alloc _).keep hb22 | exact ((x_T.alloc _).alloc _).keep hb22 | exact (((x_T.alloc _).alloc _).alloc _).keep hb22
    have y_L : Blk w22 bl 37 #[.int .u8 2, .int .i64 (q : Int), .string ⟨#[]⟩, .int .i64 0] := by first | exact x_L.keep hb22 | exact (x_L.alloc _).keep hb22 | exact ((x_L.alloc _).alloc _).keep hb22 | exact (((x_L.alloc _).alloc _).alloc _).keep hb22
    have y_A : Blk w22 ba 37 #[.int .u8 3, .int .i64 0, .string A, .int .i64 0] := by first | exact x_A.keep hb22 | exact (x_A.alloc _).keep hb22 | exact ((x_A.alloc _).alloc _).keep hb22 | exact (((x_A.alloc _).alloc _).alloc _).keep hb22
    have y_B : Blk w22 bb 37 #[.int .u8 3, .int .i64 0, .string Bt, .int .i64 0] := by first | exact x_B.keep hb22 | exact (x_B.alloc _).keep hb22 | exact ((x_B.alloc _).alloc _).keep hb22 | exact (((x_B.alloc _).alloc _).alloc _).keep hb22
    have y_U3 : RdI w22 (some ⟨gu3, 0, none⟩) [sI A] := by first | exact x_U3.keep hb22 | exact (x_U3.alloc _).keep hb22 | exact ((x_U3.alloc _).alloc _).keep hb22 | exact (((x_U3.alloc _).alloc _).alloc _).keep hb22
    clear x_T x_L x_A x_B x_U3
    have x_T := y_T
    have x_L := y_L
    have x_A := y_A
    have x_B := y_B
    have x_U3 := y_U3
    clear y_T y_L y_A y_B y_U3
    clear x_U3
    dsimp only [itA, tI]
    rw [show bN true = 1 from rfl, show ((4 : Nat) : Int) = 4 from rfl]
    clear Hca1
    have d0 := x_B.cell 0
    have d1 := x_B.cell 1
    have d2 := x_B.cell 2
    have d3 := x_B.cell 3
    simp only [List.getElem?_toArray, List.getElem?_cons_zero, List.getElem?_cons_succ] at d0 d1 d2 d3
    -- row of a text's item: 23 new world, 22 old world, Bt text, U4 name, gu4 the block's variable
    go_wp2_with fail
    refine (lrow_any _ _ _ _).mono ?_
    rintro e wx ⟨rfl, rfl⟩
    obtain ⟨w23, hw23⟩ : ∃ W, W = w22.alloc (.cells #[.int .u8 3, .int .i64 0, .string Bt, .int .i64 0] 37) := ⟨_, rfl⟩
    have r_U4 : RdI w23 (some ⟨w22.heap.size, 0, none⟩) [sI Bt] := by rw [hw23]; exact RdI.new _ _ [sI Bt]
    have hb23 : Below w22.heap.size w22 w23 := by rw [hw23]; exact (Below.refl _ _).alloc (Nat.le_refl _) _
    rw [← hw23]
    clear hw23
    have hB2 : Below w.heap.size w w23 := by first | exact chain0 hB hb23 | exact chain1 hB hb23 | exact chain2 hB hb23 | exact chain3 hB hb23
    clear hB
    have hB := hB2
    clear hB2
    have y_T : RdI w23 (some ⟨gt, 0, none⟩) [sI s] := by first | exact x_T.keep hb23 | exact (x_T.alloc _).keep hb23 | exact ((x_T.alloc _).alloc _).keep hb23 | exact (((x_T.alloc _).alloc _).alloc _).keep hb23
    have y_L : Blk w23 bl 37 #[.int .u8 2, .int .i64 (q : Int), .string ⟨#[]⟩, .int .i64 0] := by first | exact x_L.keep hb23 | exact (x_L.alloc _).keep hb23 | exact ((x_L.alloc _).alloc _).keep hb23 | exact (((x_L.alloc _).alloc _).alloc _).keep hb23
    have y_A : Blk w23 ba 37 #[.int .u8 3, .int .i64 0, .string A, .int .i64 0] := by first | exact x_A.keep hb23 | exact (x_A.alloc _).keep hb23 | exact ((x_A.alloc _).alloc _).keep hb23 | exact (((x_A.alloc _).alloc _).alloc _).keep hb23
    have y_B : Blk w23 bb 37 #[.int .u8 3, .int .i64 0, .string Bt, .int .i64 0] := by first | exact x_B.keep hb23 | exact (x_B.alloc _).keep hb23 | exact ((x_B.alloc _).alloc _).keep hb23 | exact (((x_B.alloc _).alloc _).alloc _).keep hb23
    clear x_T x_L x_A x_B
    have x_T := y_T
    have x_L := y_L
    have x_A := y_A
    have x_B := y_B
    clear y_T y_L y_A y_B
    clear hb23
    obtain ⟨gu4, hgu4⟩ : ∃ b, b = w22.heap.size := ⟨_, rfl⟩
    rw [← hgu4] at r_U4 ⊢
    clear hgu4
    have x_U4 : RdI w23 (some ⟨gu4, 0, none⟩) [sI Bt] := r_U4
    clear r_U4 d0 d1 d2 d3
    go_wp2_with fail
    refine (Hcb1.out _ _ 2 (He.out.keep (hB.alloc hB.size _)) (ArgsR.new2 x_T rfl x_U4 rfl)).mono ?_
    rintro e w24 ⟨rfl, hb24⟩
    have hB2 : Below w.heap.size w w24 := by first | exact chain0 hB hb24 | exact chain1 hB hb24 | exact chain2 hB hb24 | exact chain3 hB hb24
    clear hB
    have hB := hB2
    clear hB2
    have y_T : RdI w24 (some ⟨gt, 0, none⟩) [sI s] := by first | exact x_T.keep hb24 | exact (x_T.alloc _).keep hb24 | exact ((x_T.alloc _).alloc _).keep hb24 | exact (((x_T.alloc _).alloc _).alloc _).keep hb24
    have y_L : Blk w24 bl 37 #[.int .u8 2, .int .i64 (q : Int), .string ⟨#[]⟩, .int .i64 0] := by first | exact x_L.keep hb24 | exact (x_L.alloc _).keep hb24 | exact ((x_L.alloc _).alloc _).keep hb24 | exact (((x_L.alloc _).alloc _).alloc _).keep hb24
    have y_A : Blk w24 ba 37 #[.int .u8 3, .int .i64 0, .string A, .int .i64 0] := by first | exact x_A.keep hb24 | exact (x_A.alloc _).keep hb24 | exact ((x_A.alloc _).alloc _).keep hb24 | exact (((x_A.alloc _).alloc _).alloc _).keep hb24
    have y_B : Blk w24 bb 37 #[.int .u8 3, .int .i64 0, .string Bt, .int .i64 0] := by first | exact x_B.keep hb24 | exact (x_B.alloc _).keep hb24 | exact ((x_B.alloc _).alloc _).keep hb24 | exact (((x_B.alloc _).alloc _).alloc _).keep hb24
    have y_U4 : RdI w24 (some ⟨gu4, 0, none⟩) [sI Bt] := by first | exact x_U4.keep hb24 | exact (x_U4.alloc _).keep hb24 | exact ((x_U4.alloc _).alloc _).keep hb24 | exact (((x_U4.alloc _).alloc _).alloc _).keep hb24
    clear x_T x_L x_A x_B x_U4
    have x_T := y_T
    have x_L := y_L
    have x_A := y_A
    have x_B := y_B
    have x_U4 := y_U4
    clear y_T y_L y_A y_B y_U4
    clear x_U4
    dsimp only [itA, tI]
    rw [show bN true = 1 from rfl, show ((4 : Nat) : Int) = 4 from rfl]
    clear Hcb1
    obtain ⟨Gt, hGt⟩ : ∃ G, G = mapB upF s := ⟨_, rfl⟩
    obtain ⟨Lw, hLw⟩ : ∃ G, G = mapB loF s := ⟨_, rfl⟩
    obtain ⟨On, hOn⟩ : ∃ G, G = normB s := ⟨_, rfl⟩
    have hGz : Gt.size ≤ 36000 := by rw [hGt]; have := mapB_size upF s; have := Hz.out; omega
    have hLz : Lw.size ≤ 36000 := by rw [hLw]; have := mapB_size loF s; have := Hz.out; omega
    have hOz : On.size ≤ 9000 := by rw [hOn]; have := norm_size ho hrs; have := Hz.out; omega
    have Hup : Hid (LC m ⟨#[117, 112, 112, 101, 114, 45, 99, 97, 115, 101]⟩ 1 [[sI s]] (sI Gt)) := by rw [hGt]; exact lc_upper_case m Ht.out (by have := Hz.out; omega) (by rw [← hGt]; omega)
    have Hlo : Hid (LC m ⟨#[108, 111, 119, 101, 114, 45, 99, 97, 115, 101]⟩ 1 [[sI s]] (sI Lw)) := by rw [hLw]; exact lc_lower_case m Ht.out (by have := Hz.out; omega) (by rw [← hLw]; omega)
    have Hno : Hid (LC m ⟨#[110, 111, 114, 109, 97, 108, 105, 122, 101, 45, 115, 112, 97, 99, 101]⟩ 1 [[sI s]] (sI On)) := by rw [hOn]; exact lc_normalize_space m Ht.out (by have := Hz.out; omega) (by rw [← hOn]; omega)
    have HtG : Hid (tS Gt = true) := by show _ = _; rw [hGt]; exact up_ok ho hrs
    have HtL : Hid (tS Lw = true) := by show _ = _; rw [hLw]; exact lo_ok ho hrs
    have HtO : Hid (tS On = true) := by show _ = _; rw [hOn]; exact norm_ok ho hrs
    have HgL : Hid (LC m ⟨#[115, 116, 114, 105, 110, 103, 45, 108, 101, 110, 103, 116, 104]⟩ 1 [[sI Gt]] (nI (q : Int))) := by
      show LC _ _ _ _ _
      have h := lc_string_length m HtG.out (by omega)
      rwa [show Lib.runeCount Gt = q by rw [hGt, Hq.out]; exact up_count ho hrs] at h
    have HgLo : Hid (LC m ⟨#[108, 111, 119, 101, 114, 45, 99, 97, 115, 101]⟩ 1 [[sI Gt]] (sI Lw)) := by
      show LC _ _ _ _ _
      have e : mapB loF Gt = Lw := by rw [hGt, hLw]; exact lower_upper ho hrs
      have h := lc_lower_case m HtG.out (by omega) (by rw [e]; omega)
      rwa [e] at h
    have HlUp : Hid (LC m ⟨#[117, 112, 112, 101, 114, 45, 99, 97, 115, 101]⟩ 1 [[sI Lw]] (sI Gt)) := by
      show LC _ _ _ _ _
      have e : mapB upF Lw = Gt := by rw [hGt, hLw]; exact upper_lower ho hrs
      have h := lc_upper_case m HtL.out (by omega) (by rw [e]; omega)
      rwa [e] at h
    have HoNo : Hid (LC m ⟨#[110, 111, 114, 109, 97, 108, 105, 122, 101, 45, 115, 112, 97, 99, 101]⟩ 1 [[sI On]] (sI On)) := by
      show LC _ _ _ _ _
      have e : normB On = On := by rw [hOn]; exact norm_again ho hrs
      have h := lc_normalize_space m HtO.out (by omega) (by rw [e]; omega)
      rwa [e] at h
    have Hdbl : Hid (Lib.contains On.data.toList [32, 32] = false) := by show _ = _; rw [hOn]; exact norm_dbl ho hrs
    have Hany : Hid (∀ b ∈ On.data.toList, b ≠ 9 ∧ b ≠ 10 ∧ b ≠ 13) := by show ∀ _, _; rw [hOn]; exact norm_any ho hrs
    have Htrm : Hid (Lib.trimB On.data.toList 32 = On.data.toList) := by show _ = _; rw [hOn]; exact norm_trim ho hrs
    have HOz := hide hOz
    clear hGt hLw hOn hGz hLz hOz hrs ho Ht HtG HtL
    clear x_A
    clear x_B
    go_wp2_with fail
    clear hfl
    refine (Hup.out _ _ 1 (He.out.keep (hB.alloc hB.size _)) (ArgsR.new1 x_T rfl)).mono ?_
    rintro e w25 ⟨rfl, hb25⟩
    have hB2 : Below w.heap.size w w25 := by first | exact chain0 hB hb25 | exact chain1 hB hb25 | exact chain2 hB hb25 | exact chain3 hB hb25
    clear hB
    have hB := hB2
    clear hB2
    have y_T : RdI w25 (some ⟨gt, 0, none⟩) [sI s] := by first | exact x_T.keep hb25 | exact (x_T.alloc _).keep hb25 | exact ((x_T.alloc _).alloc _).keep hb25 | exact (((x_T.alloc _).alloc _).alloc _).keep hb25
    have y_L : Blk w25 bl 37 #[.int .u8 2, .int .i64 (q : Int), .string ⟨#[]⟩, .int .i64 0] := by first | exact x_L.keep hb25 | exact (x_L.alloc _).keep hb25 | exact ((x_L.alloc _).alloc _).keep hb25 | exact (((x_L.alloc _).alloc _).alloc _).keep hb25
    clear x_T x_L
    have x_T := y_T
    have x_L := y_L
    clear y_T y_L
    go_wp2_with fail
    refine (Hlo.out _ _ 1 (He.out.keep (hB.alloc hB.size _)) (ArgsR.new1 x_T rfl)).mono ?_
    rintro e w26 ⟨rfl, hb26⟩
    have hB2 : Below w.heap.size w w26 := by first | exact chain0 hB hb26 | exact chain1 hB hb26 | exact chain2 hB hb26 | exact chain3 hB hb26
    clear hB
    have hB := hB2
    clear hB2
    have y_T : RdI w26 (some ⟨gt, 0, none⟩) [sI s] := by first | exact x_T.keep hb26 | exact (x_T.alloc _).keep hb26 | exact ((x_T.alloc _).alloc _).keep hb26 | exact (((x_T.alloc _).alloc _).alloc _).keep hb26
    have y_L : Blk w26 bl 37 #[.int .u8 2, .int .i64 (q : Int), .string ⟨#[]⟩, .int .i64 0] := by first | exact x_L.keep hb26 | exact (x_L.alloc _).keep hb26 | exact ((x_L.alloc _).alloc _).keep hb26 | exact (((x_L.alloc _).alloc _).alloc _).keep hb26
    clear x_T x_L
    have x_T := y_T
    have x_L := y_L
    clear y_T y_L
    dsimp only [itA, sI]
    clear Hup Hlo
    go_wp2_with fail
    obtain ⟨w27, hw27⟩ : ∃ W, W = (w26.alloc (.cells #[.int .u8 3, .int .i64 0, .string Gt, .int .i64 0] 37)).alloc (.cells #[.int .u8 3, .int .i64 0, .string Lw, .int .i64 0] 37) := ⟨_, rfl⟩
    have b_G : Blk w27 w26.heap.size 37 #[.int .u8 3, .int .i64 0, .string Gt, .int .i64 0] := by rw [hw27]; exact (Blk.new _ _ _).alloc _
    have b_W : Blk w27 (w26.heap.size + 1) 37 #[.int .u8 3, .int .i64 0, .string Lw, .int .i64 0] := by
      rw [hw27]
      have := Blk.new (w26.alloc (.cells #[.int .u8 3, .int .i64 0, .string Gt, .int .i64 0] 37)) 37 #[.int .u8 3, .int .i64 0, .string Lw, .int .i64 0]
      simpa using this
    have hs27 : w27.heap.size = w26.heap.size + 1 + 1 := by rw [hw27]; simp
    have hb27 : Below w26.heap.size w26 w27 := by rw [hw27]; exact ((Below.refl _ _).alloc (Nat.le_refl _) _).alloc (by simp) _
    rw [← hw27, ← hs27]
    clear hw27 hs27
    have hB2 : Below w.heap.size w w27 := by first | exact chain0 hB hb27 | exact chain1 hB hb27 | exact chain2 hB hb27 | exact chain3 hB hb27
    clear hB
    have hB := hB2
    clear hB2
    have y_T : RdI w27 (some ⟨gt, 0, none⟩) [sI s] := by first | exact x_T.keep hb27 | exact (x_T.alloc _).keep hb27 | exact ((x_T.alloc _).alloc _).keep hb27 | exact (((x_T.alloc _).alloc _).alloc _).keep hb27
    have y_L : Blk w27 bl 37 #[.int .u8 2, .int .i64 (q : Int), .string ⟨#[]⟩, .int .i64 0] := by first | exact x_L.keep hb27 | exact (x_L.alloc _).keep hb27 | exact ((x_L.alloc _).alloc _).keep hb27 | exact (((x_L.alloc _).alloc _).alloc _).keep hb27
    clear x_T x_L
    have x_T := y_T
    have x_L := y_L
    clear y_T y_L
    clear hb27
    obtain ⟨bg, hbg⟩ : ∃ b, b = w26.heap.size := ⟨_, rfl⟩
    rw [← hbg] at b_G b_W ⊢
    clear hbg
    have x_G : Blk w27 bg 37 #[.int .u8 3, .int .i64 0, .string Gt, .int .i64 0] := b_G
    have x_W : Blk w27 (bg + 1) 37 #[.int .u8 3, .int .i64 0, .string Lw, .int .i64 0] := b_W
    clear b_G b_W
    refine (Hno.out _ _ 1 (He.out.keep (hB.alloc hB.size _)) (ArgsR.new1 x_T rfl)).mono ?_
    rintro e w28 ⟨rfl, hb28⟩
    have hB2 : Below w.heap.size w w28 := by first | exact chain0 hB hb28 | exact chain1 hB hb28 | exact chain2 hB hb28 | exact chain3 hB hb28
    clear hB
    have hB := hB2
    clear hB2
    have y_T : RdI w28 (some ⟨gt, 0, none⟩) [sI s] := by first | exact x_T.keep hb28 | exact (x_T.alloc _).keep hb28 | exact ((x_T.alloc _).alloc _).keep hb28 | exact (((x_T.alloc _).alloc _).alloc _).keep hb28
    have y_L : Blk w28 bl 37 #[.int .u8 2, .int .i64 (q : Int), .string ⟨#[]⟩, .int .i64 0] := by first | exact x_L.keep hb28 | exact (x_L.alloc _).keep hb28 | exact ((x_L.alloc _).alloc _).keep hb28 | exact (((x_L.alloc _).alloc _).alloc _).keep hb28
    have y_G : Blk w28 bg 37 #[.int .u8 3, .int .i64 0, .string Gt, .int .i64 0] := by first | exact x_G.keep hb28 | exact (x_G.alloc _).keep hb28 | exact ((x_G.alloc _).alloc _).keep hb28 | exact (((x_G.alloc _).alloc _).alloc _).keep hb28
    have y_W : Blk w28 (bg + 1) 37 #[.int .u8 3, .int .i64 0, .string Lw, .int .i64 0] := by first | exact x_W.keep hb28 | exact (x_W.alloc _).keep hb28 | exact ((x_W.alloc _).alloc _).keep hb28 | exact (((x_W.alloc _).alloc _).alloc _).keep hb28
    clear x_T x_L x_G x_W
    have x_T := y_T
    have x_L := y_L
    have x_G := y_G
    have x_W := y_W
    clear y_T y_L y_G y_W
    dsimp only [itA, sI]
    clear Hno
    go_wp2_with fail
    -- a local's block: 29 new world, 28 old world, #[.int .u8 3, .int .i64 0, .string On, .int .i64 0] cells, O name, bo the block's variable
    obtain ⟨w29, hw29⟩ : ∃ W, W = w28.alloc (.cells #[.int .u8 3, .int .i64 0, .string On, .int .i64 0] 37) := ⟨_, rfl⟩
    have b_O : Blk w29 w28.heap.size 37 #[.int .u8 3, .int .i64 0, .string On, .int .i64 0] := by rw [hw29]; exact Blk.new _ _ _
    have hb29 : Below w28.heap.size w28 w29 := by rw [hw29]; exact (Below.refl _ _).alloc (Nat.le_refl _) _
    rw [← hw29]
    clear hw29
    have hB2 : Below w.heap.size w w29 := by first | exact chain0 hB hb29 | exact chain1 hB hb29 | exact chain2 hB hb29 | exact chain3 hB hb29
    clear hB
    have hB := hB2
    clear hB2
    have y_T : RdI w29 (some ⟨gt, 0, none⟩) [sI s] := by first | exact x_T.keep hb29 | exact (x_T.alloc _).keep hb29 | exact ((x_T.alloc _).alloc _).keep hb29 | exact (((x_T.alloc _).alloc _).alloc _).keep hb29
    have y_L : Blk w29 bl 37 #[.int .u8 2, .int .i64 (q : Int), .string ⟨#[]⟩, .int .i64 0] := by first | exact x_L.keep hb29 | exact (x_L.alloc _).keep hb29 | exact ((x_L.alloc _).alloc _).keep hb29 | exact (((x_L.alloc _).alloc _).alloc _).keep hb29
    have y_G : Blk w29 bg 37 #[.int .u8 3, .int .i64 0, .string Gt, .int .i64 0] := by first | exact x_G.keep hb29 | exact (x_G.alloc _).keep hb29 | exact ((x_G.alloc _).alloc _).keep hb29 | exact (((x_G.alloc _).alloc _).alloc _).keep hb29
    have y_W : Blk w29 (bg + 1) 37 #[.int .u8 3, .int .i64 0, .string Lw, .int .i64 0] := by first | exact x_W.keep hb29 | exact (x_W.alloc _).keep hb29 | exact ((x_W.alloc _).alloc _).keep hb29 | exact (((x_W.alloc _).alloc _).alloc _).keep hb29
    clear x_T x_L x_G x_W
    have x_T := y_T
    have x_L := y_L
    have x_G := y_G
    have x_W := y_W
    clear y_T y_L y_G y_W
    clear hb29
    obtain ⟨bo, hbo⟩ : ∃ b, b = w28.heap.size := ⟨_, rfl⟩
    rw [← hbo] at b_O ⊢
    have b_OO := b_O
    clear hbo
    clear b_O
    have x_O : Blk w29 bo 37 #[.int .u8 3, .int .i64 0, .string On, .int .i64 0] := b_OO
    clear b_OO
    refine wp_region_facts (R := RB w29.heap.size (⟨#[]⟩) (0)) [eqF w29.heap.size (⟨#[]⟩) (0) 142 (.agg #[.int .u8 3, .int .i64 0, .string Gt, .int .i64 0]), itsF w29.heap.size ⟨#[]⟩ 0 143 1 1 [sI Gt], itsF w29.heap.size ⟨#[]⟩ 0 144 1 1 [sI Gt], someF w29.heap.size ⟨#[]⟩ 0 145 (fun x : Nat × Nat => .slice (some ⟨x.1, 0, none⟩) 1 1) (fun x W => ArgsR W x.1 [[sI Gt]]) (fun _ _ _ h k => k.keep h.be), eqF w29.heap.size (⟨#[]⟩) (0) 146 (.agg #[.int .u8 2, .int .i64 (q : Int), .string ⟨#[]⟩, .int .i64 0]), eqF w29.heap.size (⟨#[]⟩) (0) 147 (.agg #[.int .u8 2, .int .i64 (q : Int), .string ⟨#[]⟩, .int .i64 0]), eqF w29.heap.size (⟨#[]⟩) (0) 148 (.bool true), eqF w29.heap.size (⟨#[]⟩) (0) 149 (.bool true), eqF w29.heap.size (⟨#[]⟩) (0) 150 (.agg #[.int .u8 3, .int .i64 0, .string Gt, .int .i64 0]), itsF w29.heap.size ⟨#[]⟩ 0 151 1 1 [sI Gt], itsF w29.heap.size ⟨#[]⟩ 0 152 1 1 [sI Gt], someF w29.heap.size ⟨#[]⟩ 0 153 (fun x : Nat × Nat => .slice (some ⟨x.1, 0, none⟩) 1 1) (fun x W => ArgsR W x.1 [[sI Gt]]) (fun _ _ _ h k => k.keep h.be), eqF w29.heap.size (⟨#[]⟩) (0) 154 (.agg #[.int .u8 3, .int .i64 0, .string Lw, .int .i64 0]), eqF w29.heap.size (⟨#[]⟩) (0) 155 (.agg #[.int .u8 3, .int .i64 0, .string Lw, .int .i64 0]), eqF w29.heap.size (⟨#[]⟩) (0) 156 (.bool true), eqF w29.heap.size (⟨#[]⟩) (0) 157 (.bool true), eqF w29.heap.size (⟨#[]⟩) (0) 158 (.bool true), eqF w29.heap.size (⟨#[]⟩) (0) 159 (.agg #[.int .u8 3, .int .i64 0, .string Lw, .int .i64 0]), itsF w29.heap.size ⟨#[]⟩ 0 160 1 1 [sI Lw], itsF w29.heap.size ⟨#[]⟩ 0 161 1 1 [sI Lw], someF w29.heap.size ⟨#[]⟩ 0 162 (fun x : Nat × Nat => .slice (some ⟨x.1, 0, none⟩) 1 1) (fun x W => ArgsR W x.1 [[sI Lw]]) (fun _ _ _ h k => k.keep h.be), eqF w29.heap.size (⟨#[]⟩) (0) 163 (.agg #[.int .u8 3, .int .i64 0, .string Gt, .int .i64 0]), eqF w29.heap.size (⟨#[]⟩) (0) 164 (.agg #[.int .u8 3, .int .i64 0, .string Gt, .int .i64 0]), eqF w29.heap.size (⟨#[]⟩) (0) 165 (.bool true), eqF w29.heap.size (⟨#[]⟩) (0) 166 (.bool true), eqF w29.heap.size (⟨#[]⟩) (0) 167 (.bool true), eqF w29.heap.size (⟨#[]⟩) (0) 168 (.agg #[.int .u8 3, .int .i64 0, .string On, .int .i64 0]), itsF w29.heap.size ⟨#[]⟩ 0 169 1 1 [sI On], itsF w29.heap.size ⟨#[]⟩ 0 170 1 1 [sI On], someF w29.heap.size ⟨#[]⟩ 0 171 (fun x : Nat × Nat => .slice (some ⟨x.1, 0, none⟩) 1 1) (fun x W => ArgsR W x.1 [[sI On]]) (fun _ _ _ h k => k.keep h.be), eqF w29.heap.size (⟨#[]⟩) (0) 172 (.agg #[.int .u8 3, .int .i64 0, .string On, .int .i64 0]), eqF w29.heap.size (⟨#[]⟩) (0) 173 (.agg #[.int .u8 3, .int .i64 0, .string On, .int .i64 0]), eqF w29.heap.size (⟨#[]⟩) (0) 174 (.bool true), eqF w29.heap.size (⟨#[]⟩) (0) 175 (.bool true), eqF w29.heap.size (⟨#[]⟩) (0) 176 (.bool true), eqF w29.heap.size (⟨#[]⟩) (0) 177 (.pointer (some ⟨bo, 2, none⟩)), eqF w29.heap.size (⟨#[]⟩) (0) 178 (.string On), eqF w29.heap.size (⟨#[]⟩) (0) 179 (.bool false), eqF w29.heap.size (⟨#[]⟩) (0) 180 (.bool true), eqF w29.heap.size (⟨#[]⟩) (0) 181 (.bool true), eqF w29.heap.size (⟨#[]⟩) (0) 182 (.bool true), eqF w29.heap.size (⟨#[]⟩) (0) 183 (.pointer (some ⟨bo, 2, none⟩)), eqF w29.heap.size (⟨#[]⟩) (0) 184 (.string On), eqF w29.heap.size (⟨#[]⟩) (0) 185 (.bool false), eqF w29.heap.size (⟨#[]⟩) (0) 186 (.bool true), eqF w29.heap.size (⟨#[]⟩) (0) 187 (.bool true), eqF w29.heap.size (⟨#[]⟩) (0) 188 (.bool true), eqF w29.heap.size (⟨#[]⟩) (0) 189 (.pointer (some ⟨bo, 2, none⟩)), eqF w29.heap.size (⟨#[]⟩) (0) 190 (.string On), eqF w29.heap.size (⟨#[]⟩) (0) 191 (.string On), eqF w29.heap.size (⟨#[]⟩) (0) 192 (.pointer (some ⟨bo, 2, none⟩)), eqF w29.heap.size (⟨#[]⟩) (0) 193 (.string On), eqF w29.heap.size (⟨#[]⟩) (0) 194 (.bool true), eqF w29.heap.size (⟨#[]⟩) (0) 195 (.bool true), eqF w29.heap.size (⟨#[]⟩) (0) 4 (.bool true)] (by kernel_rfl) (by kernel_rfl) (by kernel_rfl) (RB.refl (Nat.le_refl _)) (fun _ h => h.again) (fun _ _ _ h k => h.trans k) ?_ ?_
    · refine stepsU_cons rfl ?_ (stepsU_cons rfl ?_ (stepsU_cons rfl ?_ (stepsU_cons rfl ?_ (stepsU_cons rfl ?_ (stepsU_cons rfl ?_ (stepsU_cons rfl ?_ (stepsU_cons rfl ?_ (stepsU_cons rfl ?_ (stepsU_cons rfl ?_ (stepsU_cons rfl ?_ (stepsU_cons rfl ?_ (stepsU_cons rfl ?_ (stepsU_cons rfl ?_ (stepsU_cons rfl ?_ (stepsU_cons rfl ?_ (stepsU_cons rfl ?_ (stepsU_cons rfl ?_ (stepsU_cons rfl ?_ (stepsU_cons rfl ?_ (stepsU_cons rfl ?_ (stepsU_cons rfl ?_ (stepsU_cons rfl ?_ (stepsU_cons rfl ?_ (stepsU_cons rfl ?_ (stepsU_cons rfl ?_ (stepsU_cons rfl ?_ (stepsU_cons rfl ?_ (stepsU_cons rfl ?_ (stepsU_cons rfl ?_ (stepsU_cons rfl ?_ (stepsU_cons rfl ?_ (stepsU_cons rfl ?_ (stepsU_cons rfl ?_ (stepsU_cons rfl ?_ (stepsU_cons rfl ?_ (stepsU_cons rfl ?_ (stepsU_cons rfl ?_ (stepsU_cons rfl ?_ (stepsU_cons rfl ?_ (stepsU_cons rfl ?_ (stepsU_cons rfl ?_ (stepsU_cons rfl ?_ (stepsU_cons rfl ?_ (stepsU_cons rfl ?_ (stepsU_cons rfl ?_ (stepsU_cons rfl ?_ (stepsU_cons rfl ?_ (stepsU_cons rfl ?_ (stepsU_cons rfl ?_ (stepsU_cons rfl ?_ (stepsU_cons rfl ?_ (stepsU_cons rfl ?_ (stepsU_cons rfl ?_ (stepsU_cons rfl ?_ (stepsU_nil)))))))))))))))))))))))))))))))))))))))))))))))))))))))
      · refine stepU_plain rfl fun u wr hR hK hD => ?_; exact upon_loadIt _ _ _ _ _ _ rfl (hK 11 rfl) (hR.old x_G.lt x_G) ⟨hR.again, rfl⟩
      · refine stepU_plain rfl fun u wr hR hK hD => ?_; exact upon_buildIt _ _ _ _ _ rfl (hD 0 rfl) ⟨hR.next ((Below.refl _ _).alloc (Nat.le_refl _) _), ⟨_, rfl, Nat.le_trans hR.hB hR.be.size, RdI.new _ _ [sI Gt]⟩⟩
      · refine stepU_plain rfl fun u wr hR hK hD => ?_; obtain ⟨g, h1, h2, h3⟩ := (hD 1 rfl); exact upon_call1 _ _ _ Tryz.func14 (by kernel_rfl) rfl h1 ((lrow_any _ _ _ _).mono fun e wn ⟨he, hw⟩ => ⟨_, he, by subst hw; exact ⟨hR.again, ⟨g, rfl, h2, h3⟩⟩⟩)
      · refine stepU_plain rfl fun u wr hR hK hD => ?_; obtain ⟨g1, h1, h2, h3⟩ := (hD 2 rfl); exact upon_rows1 _ _ _ _ rfl h1 ⟨hR.next ((Below.refl _ _).alloc (Nat.le_refl _) _), ⟨(_, 0), rfl, ArgsR.new1 h3 rfl⟩⟩
      · refine stepU_plain rfl fun u wr hR hK hD => ?_; obtain ⟨⟨g, _⟩, h1, h2⟩ := (hD 3 rfl); exact upon_call2 _ _ _ _ _ Tryz.func16 (by kernel_rfl) rfl rfl h1 ((HgL.out wr g 1 (He.out.keep (chain0 hB.drew hR.be)) h2).mono fun e wn ⟨he, hb⟩ => ⟨_, he, hR.next hb, rfl⟩)
      · refine stepU_plain rfl fun u wr hR hK hD => ?_; exact upon_loadIt _ _ _ _ _ _ rfl (hK 6 rfl) (hR.old x_L.lt x_L) ⟨hR.again, rfl⟩
      · refine stepU_plain rfl fun u wr hR hK hD => ?_; have z146 : u 146 = _ := (hD 4 rfl); have z147 : u 147 = _ := (hD 5 rfl); exact upon_val _ (by unfold execOp; simp [go_sem, evU, z146, z147]) ⟨hR.again, rfl⟩
      · refine stepU_plain rfl fun u wr hR hK hD => ?_; exact upon_move _ _ rfl (hD 6 rfl) ⟨hR.again, rfl⟩
      · refine stepU_yes 7 149 true rfl rfl (fun u wr hK hD => hD 7 rfl) fun u wr hR hK hD => ?_; exact upon_loadIt _ _ _ _ _ _ rfl (hK 11 rfl) (hR.old x_G.lt x_G) ⟨hR.again, rfl⟩
      · refine stepU_yes 7 149 true rfl rfl (fun u wr hK hD => hD 7 rfl) fun u wr hR hK hD => ?_; exact upon_buildIt _ _ _ _ _ rfl (hD 8 rfl) ⟨hR.next ((Below.refl _ _).alloc (Nat.le_refl _) _), ⟨_, rfl, Nat.le_trans hR.hB hR.be.size, RdI.new _ _ [sI Gt]⟩⟩
      · refine stepU_yes 7 149 true rfl rfl (fun u wr hK hD => hD 7 rfl) fun u wr hR hK hD => ?_; obtain ⟨g, h1, h2, h3⟩ := (hD 9 rfl); exact upon_call1 _ _ _ Tryz.func14 (by kernel_rfl) rfl h1 ((lrow_any _ _ _ _).mono fun e wn ⟨he, hw⟩ => ⟨_, he, by subst hw; exact ⟨hR.again, ⟨g, rfl, h2, h3⟩⟩⟩)
      · refine stepU_yes 7 149 true rfl rfl (fun u wr hK hD => hD 7 rfl) fun u wr hR hK hD => ?_; obtain ⟨g1, h1, h2, h3⟩ := (hD 10 rfl); exact upon_rows1 _ _ _ _ rfl h1 ⟨hR.next ((Below.refl _ _).alloc (Nat.le_refl _) _), ⟨(_, 0), rfl, ArgsR.new1 h3 rfl⟩⟩
      · refine stepU_yes 7 149 true rfl rfl (fun u wr hK hD => hD 7 rfl) fun u wr hR hK hD => ?_; obtain ⟨⟨g, _⟩, h1, h2⟩ := (hD 11 rfl); exact upon_call2 _ _ _ _ _ Tryz.func16 (by kernel_rfl) rfl rfl h1 ((HgLo.out wr g 1 (He.out.keep (chain0 hB.drew hR.be)) h2).mono fun e wn ⟨he, hb⟩ => ⟨_, he, hR.next hb, rfl⟩)
      · refine stepU_yes 7 149 true rfl rfl (fun u wr hK hD => hD 7 rfl) fun u wr hR hK hD => ?_; exact upon_loadIt _ _ _ _ _ _ rfl (hK 12 rfl) (hR.old x_W.lt x_W) ⟨hR.again, rfl⟩
      · refine stepU_yes 7 149 true rfl rfl (fun u wr hK hD => hD 7 rfl) fun u wr hR hK hD => ?_; have z154 : u 154 = _ := (hD 12 rfl); have z155 : u 155 = _ := (hD 13 rfl); exact upon_val _ (by unfold execOp; simp [go_sem, evU, z154, z155]) ⟨hR.again, rfl⟩
      · refine stepU_plain rfl fun u wr hR hK hD => ?_; exact upon_pick _ _ _ _ _ rfl (hD 7 rfl) (by first | rfl | exact (hD 14 rfl) | exact rfl) ⟨hR.again, rfl⟩
      · refine stepU_plain rfl fun u wr hR hK hD => ?_; exact upon_move _ _ rfl (hD 15 rfl) ⟨hR.again, rfl⟩
      · refine stepU_yes 16 158 true rfl rfl (fun u wr hK hD => hD 16 rfl) fun u wr hR hK hD => ?_; exact upon_loadIt _ _ _ _ _ _ rfl (hK 12 rfl) (hR.old x_W.lt x_W) ⟨hR.again, rfl⟩
      · refine stepU_yes 16 158 true rfl rfl (fun u wr hK hD => hD 16 rfl) fun u wr hR hK hD => ?_; exact upon_buildIt _ _ _ _ _ rfl (hD 17 rfl) ⟨hR.next ((Below.refl _ _).alloc (Nat.le_refl _) _), ⟨_, rfl, Nat.le_trans hR.hB hR.be.size, RdI.new _ _ [sI Lw]⟩⟩
      · refine stepU_yes 16 158 true rfl rfl (fun u wr hK hD => hD 16 rfl) fun u wr hR hK hD => ?_; obtain ⟨g, h1, h2, h3⟩ := (hD 18 rfl); exact upon_call1 _ _ _ Tryz.func14 (by kernel_rfl) rfl h1 ((lrow_any _ _ _ _).mono fun e wn ⟨he, hw⟩ => ⟨_, he, by subst hw; exact ⟨hR.again, ⟨g, rfl, h2, h3⟩⟩⟩)
      · refine stepU_yes 16 158 true rfl rfl (fun u wr hK hD => hD 16 rfl) fun u wr hR hK hD => ?_; obtain ⟨g1, h1, h2, h3⟩ := (hD 19 rfl); exact upon_rows1 _ _ _ _ rfl h1 ⟨hR.next ((Below.refl _ _).alloc (Nat.le_refl _) _), ⟨(_, 0), rfl, ArgsR.new1 h3 rfl⟩⟩
      · refine stepU_yes 16 158 true rfl rfl (fun u wr hK hD => hD 16 rfl) fun u wr hR hK hD => ?_; obtain ⟨⟨g, _⟩, h1, h2⟩ := (hD 20 rfl); exact upon_call2 _ _ _ _ _ Tryz.func16 (by kernel_rfl) rfl rfl h1 ((HlUp.out wr g 1 (He.out.keep (chain0 hB.drew hR.be)) h2).mono fun e wn ⟨he, hb⟩ => ⟨_, he, hR.next hb, rfl⟩)
      · refine stepU_yes 16 158 true rfl rfl (fun u wr hK hD => hD 16 rfl) fun u wr hR hK hD => ?_; exact upon_loadIt _ _ _ _ _ _ rfl (hK 11 rfl) (hR.old x_G.lt x_G) ⟨hR.again, rfl⟩
      · refine stepU_yes 16 158 true rfl rfl (fun u wr hK hD => hD 16 rfl) fun u wr hR hK hD => ?_; have z163 : u 163 = _ := (hD 21 rfl); have z164 : u 164 = _ := (hD 22 rfl); exact upon_val _ (by unfold execOp; simp [go_sem, evU, z163, z164]) ⟨hR.again, rfl⟩
      · refine stepU_plain rfl fun u wr hR hK hD => ?_; exact upon_pick _ _ _ _ _ rfl (hD 16 rfl) (by first | rfl | exact (hD 23 rfl) | exact rfl) ⟨hR.again, rfl⟩
      · refine stepU_plain rfl fun u wr hR hK hD => ?_; exact upon_move _ _ rfl (hD 24 rfl) ⟨hR.again, rfl⟩
      · refine stepU_yes 25 167 true rfl rfl (fun u wr hK hD => hD 25 rfl) fun u wr hR hK hD => ?_; exact upon_loadIt _ _ _ _ _ _ rfl (hK 13 rfl) (hR.old x_O.lt x_O) ⟨hR.again, rfl⟩
      · refine stepU_yes 25 167 true rfl rfl (fun u wr hK hD => hD 25 rfl) fun u wr hR hK hD => ?_; exact upon_buildIt _ _ _ _ _ rfl (hD 26 rfl) ⟨hR.next ((Below.refl _ _).alloc (Nat.le_refl _) _), ⟨_, rfl, Nat.le_trans hR.hB hR.be.size, RdI.new _ _ [sI On]⟩⟩
      · refine stepU_yes 25 167 true rfl rfl (fun u wr hK hD => hD 25 rfl) fun u wr hR hK hD => ?_; obtain ⟨g, h1, h2, h3⟩ := (hD 27 rfl); exact upon_call1 _ _ _ Tryz.func14 (by kernel_rfl) rfl h1 ((lrow_any _ _ _ _).mono fun e wn ⟨he, hw⟩ => ⟨_, he, by subst hw; exact ⟨hR.again, ⟨g, rfl, h2, h3⟩⟩⟩)
      · refine stepU_yes 25 167 true rfl rfl (fun u wr hK hD => hD 25 rfl) fun u wr hR hK hD => ?_; obtain ⟨g1, h1, h2, h3⟩ := (hD 28 rfl); exact upon_rows1 _ _ _ _ rfl h1 ⟨hR.next ((Below.refl _ _).alloc (Nat.le_refl _) _), ⟨(_, 0), rfl, ArgsR.new1 h3 rfl⟩⟩
      · refine stepU_yes 25 167 true rfl rfl (fun u wr hK hD => hD 25 rfl) fun u wr hR hK hD => ?_; obtain ⟨⟨g, _⟩, h1, h2⟩ := (hD 29 rfl); exact upon_call2 _ _ _ _ _ Tryz.func16 (by kernel_rfl) rfl rfl h1 ((HoNo.out wr g 1 (He.out.keep (chain0 hB.drew hR.be)) h2).mono fun e wn ⟨he, hb⟩ => ⟨_, he, hR.next hb, rfl⟩)
      · refine stepU_yes 25 167 true rfl rfl (fun u wr hK hD => hD 25 rfl) fun u wr hR hK hD => ?_; exact upon_loadIt _ _ _ _ _ _ rfl (hK 13 rfl) (hR.old x_O.lt x_O) ⟨hR.again, rfl⟩
      · refine stepU_yes 25 167 true rfl rfl (fun u wr hK hD => hD 25 rfl) fun u wr hR hK hD => ?_; have z172 : u 172 = _ := (hD 30 rfl); have z173 : u 173 = _ := (hD 31 rfl); exact upon_val _ (by unfold execOp; simp [go_sem, evU, z172, z173]) ⟨hR.again, rfl⟩
      · refine stepU_plain rfl fun u wr hR hK hD => ?_; exact upon_pick _ _ _ _ _ rfl (hD 25 rfl) (by first | rfl | exact (hD 32 rfl) | exact rfl) ⟨hR.again, rfl⟩
      · refine stepU_plain rfl fun u wr hR hK hD => ?_; exact upon_move _ _ rfl (hD 33 rfl) ⟨hR.again, rfl⟩
      · refine stepU_yes 34 176 true rfl rfl (fun u wr hK hD => hD 34 rfl) fun u wr hR hK hD => ?_; have z13 : u 13 = _ := (hK 13 rfl); exact upon_val _ (by unfold execOp; simp [go_sem, evU, z13]) ⟨hR.again, rfl⟩
      · refine stepU_yes 34 176 true rfl rfl (fun u wr hK hD => hD 34 rfl) fun u wr hR hK hD => ?_; have z : u 177 = _ := (hD 35 rfl); have c := (hR.old x_O.lt x_O).cell 2; simp only [List.getElem?_toArray, List.getElem?_cons_succ, List.getElem?_cons_zero] at c; exact upon_val _ (by unfold execOp; simp [go_sem, evU, z, c]) ⟨hR.again, rfl⟩
      · refine stepU_yes 34 176 true rfl rfl (fun u wr hK hD => hD 34 rfl) fun u wr hR hK hD => ?_; exact upon_call2 _ _ _ _ _ Tryz.func18 (by kernel_rfl) rfl (hD 36 rfl) rfl ((contains_is On ⟨#[32, 32]⟩ false m wr Hdbl.out (by have := HOz.out; omega) (He.out.keep (chain0 hB.drew hR.be)).m).mono fun e wn ⟨he, hb⟩ => ⟨_, he, hR.next hb, rfl⟩)
      · refine stepU_yes 34 176 true rfl rfl (fun u wr hK hD => hD 34 rfl) fun u wr hR hK hD => ?_; have z179 : u 179 = _ := (hD 37 rfl); exact upon_val _ (by unfold execOp; simp [go_sem, evU, z179]) ⟨hR.again, rfl⟩
      · refine stepU_plain rfl fun u wr hR hK hD => ?_; exact upon_pick _ _ _ _ _ rfl (hD 34 rfl) (by first | rfl | exact (hD 38 rfl) | exact rfl) ⟨hR.again, rfl⟩
      · refine stepU_plain rfl fun u wr hR hK hD => ?_; exact upon_move _ _ rfl (hD 39 rfl) ⟨hR.again, rfl⟩
      · refine stepU_yes 40 182 true rfl rfl (fun u wr hK hD => hD 40 rfl) fun u wr hR hK hD => ?_; have z13 : u 13 = _ := (hK 13 rfl); exact upon_val _ (by unfold execOp; simp [go_sem, evU, z13]) ⟨hR.again, rfl⟩
      · refine stepU_yes 40 182 true rfl rfl (fun u wr hK hD => hD 40 rfl) fun u wr hR hK hD => ?_; have z : u 183 = _ := (hD 41 rfl); have c := (hR.old x_O.lt x_O).cell 2; simp only [List.getElem?_toArray, List.getElem?_cons_succ, List.getElem?_cons_zero] at c; exact upon_val _ (by unfold execOp; simp [go_sem, evU, z, c]) ⟨hR.again, rfl⟩
      · refine stepU_yes 40 182 true rfl rfl (fun u wr hK hD => hD 40 rfl) fun u wr hR hK hD => ?_; exact upon_call2 _ _ _ _ _ Tryz.func19 (by kernel_rfl) rfl (hD 42 rfl) rfl ((any_no On Hany.out HtO.out (by have := HOz.out; omega) wr).mono fun e wn ⟨he, hb⟩ => ⟨_, he, hR.next hb, rfl⟩)
      · refine stepU_yes 40 182 true rfl rfl (fun u wr hK hD => hD 40 rfl) fun u wr hR hK hD => ?_; have z185 : u 185 = _ := (hD 43 rfl); exact upon_val _ (by unfold execOp; simp [go_sem, evU, z185]) ⟨hR.again, rfl⟩
      · refine stepU_plain rfl fun u wr hR hK hD => ?_; exact upon_pick _ _ _ _ _ rfl (hD 40 rfl) (by first | rfl | exact (hD 44 rfl) | exact rfl) ⟨hR.again, rfl⟩
      · refine stepU_plain rfl fun u wr hR hK hD => ?_; exact upon_move _ _ rfl (hD 45 rfl) ⟨hR.again, rfl⟩
      · refine stepU_yes 46 188 true rfl rfl (fun u wr hK hD => hD 46 rfl) fun u wr hR hK hD => ?_; have z13 : u 13 = _ := (hK 13 rfl); exact upon_val _ (by unfold execOp; simp [go_sem, evU, z13]) ⟨hR.again, rfl⟩
      · refine stepU_yes 46 188 true rfl rfl (fun u wr hK hD => hD 46 rfl) fun u wr hR hK hD => ?_; have z : u 189 = _ := (hD 47 rfl); have c := (hR.old x_O.lt x_O).cell 2; simp only [List.getElem?_toArray, List.getElem?_cons_succ, List.getElem?_cons_zero] at c; exact upon_val _ (by unfold execOp; simp [go_sem, evU, z, c]) ⟨hR.again, rfl⟩
      · refine stepU_yes 46 188 true rfl rfl (fun u wr hK hD => hD 46 rfl) fun u wr hR hK hD => ?_; exact upon_call2 _ _ _ _ _ Tryz.func20 (by kernel_rfl) rfl (hD 48 rfl) rfl ((trim_is On Htrm.out (by have := HOz.out; omega) wr).mono fun e wn ⟨he, hb⟩ => ⟨_, he, hR.next hb, rfl⟩)
      · refine stepU_yes 46 188 true rfl rfl (fun u wr hK hD => hD 46 rfl) fun u wr hR hK hD => ?_; have z13 : u 13 = _ := (hK 13 rfl); exact upon_val _ (by unfold execOp; simp [go_sem, evU, z13]) ⟨hR.again, rfl⟩
      · refine stepU_yes 46 188 true rfl rfl (fun u wr hK hD => hD 46 rfl) fun u wr hR hK hD => ?_; have z : u 192 = _ := (hD 50 rfl); have c := (hR.old x_O.lt x_O).cell 2; simp only [List.getElem?_toArray, List.getElem?_cons_succ, List.getElem?_cons_zero] at c; exact upon_val _ (by unfold execOp; simp [go_sem, evU, z, c]) ⟨hR.again, rfl⟩
      · refine stepU_yes 46 188 true rfl rfl (fun u wr hK hD => hD 46 rfl) fun u wr hR hK hD => ?_; have z191 : u 191 = _ := (hD 49 rfl); have z193 : u 193 = _ := (hD 51 rfl); exact upon_val _ (by unfold execOp; simp [go_sem, evU, z191, z193]) ⟨hR.again, rfl⟩
      · refine stepU_plain rfl fun u wr hR hK hD => ?_; exact upon_pick _ _ _ _ _ rfl (hD 46 rfl) (by first | rfl | exact (hD 52 rfl) | exact rfl) ⟨hR.again, rfl⟩
      · refine stepU_plain rfl fun u wr hR hK hD => ?_; exact upon_assign _ _ rfl (hD 53 rfl) ⟨hR.again, rfl⟩
    intro u w30 hR hF
    have e142 : u 142 = .agg #[.int .u8 3, .int .i64 0, .string Gt, .int .i64 0] := hF 0 (by decide)
    have e146 : u 146 = .agg #[.int .u8 2, .int .i64 (q : Int), .string ⟨#[]⟩, .int .i64 0] := hF 4 (by decide)
    have e147 : u 147 = .agg #[.int .u8 2, .int .i64 (q : Int), .string ⟨#[]⟩, .int .i64 0] := hF 5 (by decide)
    have e148 : u 148 = .bool true := hF 6 (by decide)
    have e149 : u 149 = .bool true := hF 7 (by decide)
    have e150 : u 150 = .agg #[.int .u8 3, .int .i64 0, .string Gt, .int .i64 0] := hF 8 (by decide)
    have e154 : u 154 = .agg #[.int .u8 3, .int .i64 0, .string Lw, .int .i64 0] := hF 12 (by decide)
    have e155 : u 155 = .agg #[.int .u8 3, .int .i64 0, .string Lw, .int .i64 0] := hF 13 (by decide)
    have e156 : u 156 = .bool true := hF 14 (by decide)
    have e157 : u 157 = .bool true := hF 15 (by decide)
    have e158 : u 158 = .bool true := hF 16 (by decide)
    have e159 : u 159 = .agg #[.int .u8 3, .int .i64 0, .string Lw, .int .i64 0] := hF 17 (by decide)
    have e163 : u 163 = .agg #[.int .u8 3, .int .i64 0, .string Gt, .int .i64 0] := hF 21 (by decide)
    have e164 : u 164 = .agg #[.int .u8 3, .int .i64 0, .string Gt, .int .i64 0] := hF 22 (by decide)
    have e165 : u 165 = .bool true := hF 23 (by decide)
    have e166 : u 166 = .bool true := hF 24 (by decide)
    have e167 : u 167 = .bool true := hF 25 (by decide)
    have e168 : u 168 = .agg #[.int .u8 3, .int .i64 0, .string On, .int .i64 0] := hF 26 (by decide)
    have e172 : u 172 = .agg #[.int .u8 3, .int .i64 0, .string On, .int .i64 0] := hF 30 (by decide)
    have e173 : u 173 = .agg #[.int .u8 3, .int .i64 0, .string On, .int .i64 0] := hF 31 (by decide)
    have e174 : u 174 = .bool true := hF 32 (by decide)
    have e175 : u 175 = .bool true := hF 33 (by decide)
    have e176 : u 176 = .bool true := hF 34 (by decide)
    have e177 : u 177 = .pointer (some ⟨bo, 2, none⟩) := hF 35 (by decide)
    have e178 : u 178 = .string On := hF 36 (by decide)
    have e179 : u 179 = .bool false := hF 37 (by decide)
    have e180 : u 180 = .bool true := hF 38 (by decide)
    have e181 : u 181 = .bool true := hF 39 (by decide)
    have e182 : u 182 = .bool true := hF 40 (by decide)
    have e183 : u 183 = .pointer (some ⟨bo, 2, none⟩) := hF 41 (by decide)
    have e184 : u 184 = .string On := hF 42 (by decide)
    have e185 : u 185 = .bool false := hF 43 (by decide)
    have e186 : u 186 = .bool true := hF 44 (by decide)
    have e187 : u 187 = .bool true := hF 45 (by decide)
    have e188 : u 188 = .bool true := hF 46 (by decide)
    have e189 : u 189 = .pointer (some ⟨bo, 2, none⟩) := hF 47 (by decide)
    have e190 : u 190 = .string On := hF 48 (by decide)
    have e191 : u 191 = .string On := hF 49 (by decide)
    have e192 : u 192 = .pointer (some ⟨bo, 2, none⟩) := hF 50 (by decide)
    have e193 : u 193 = .string On := hF 51 (by decide)
    have e194 : u 194 = .bool true := hF 52 (by decide)
    have e195 : u 195 = .bool true := hF 53 (by decide)
    have e4 : u 4 = .bool true := hF 54 (by decide)
    obtain ⟨a143, e143, p143, r143⟩ := hF 1 (by decide)
    obtain ⟨a144, e144, p144, r144⟩ := hF 2 (by decide)
    obtain ⟨⟨a145, p145⟩, e145, r145⟩ := hF 3 (by decide)
    dsimp only at e145 r145
    obtain ⟨a151, e151, p151, r151⟩ := hF 9 (by decide)
    obtain ⟨a152, e152, p152, r152⟩ := hF 10 (by decide)
    obtain ⟨⟨a153, p153⟩, e153, r153⟩ := hF 11 (by decide)
    dsimp only at e153 r153
    obtain ⟨a160, e160, p160, r160⟩ := hF 18 (by decide)
    obtain ⟨a161, e161, p161, r161⟩ := hF 19 (by decide)
    obtain ⟨⟨a162, p162⟩, e162, r162⟩ := hF 20 (by decide)
    dsimp only at e162 r162
    obtain ⟨a169, e169, p169, r169⟩ := hF 27 (by decide)
    obtain ⟨a170, e170, p170, r170⟩ := hF 28 (by decide)
    obtain ⟨⟨a171, p171⟩, e171, r171⟩ := hF 29 (by decide)
    dsimp only at e171 r171
    simp only [finU, Act.put, List.setIfInBounds_toArray, List.set_cons_succ, List.set_cons_zero, e142, e143, e144, e145, e146, e147, e148, e149, e150, e151, e152, e153, e154, e155, e156, e157, e158, e159, e160, e161, e162, e163, e164, e165, e166, e167, e168, e169, e170, e171, e172, e173, e174, e175, e176, e177, e178, e179, e180, e181, e182, e183, e184, e185, e186, e187, e188, e189, e190, e191, e192, e193, e194, e195, e4]
    clear hF e142 e143 e144 e145 e146 e147 e148 e149 e150 e151 e152 e153 e154 e155 e156 e157 e158 e159 e160 e161 e162 e163 e164 e165 e166 e167 e168 e169 e170 e171 e172 e173 e174 e175 e176 e177 e178 e179 e180 e181 e182 e183 e184 e185 e186 e187 e188 e189 e190 e191 e192 e193 e194 e195 e4
    have hB2 : Below w.heap.size w w30 := chain hB.drew hB.size hR.be
    have hb_w30 : Below w29.heap.size w29 w30 := ⟨hR.be.os, hR.be.tape, hR.be.output, hR.be.size, hR.be.block⟩
    have y_T : RdI w30 (some ⟨gt, 0, none⟩) [sI s] := x_T.keep hb_w30
    have y_L : Blk w30 bl 37 #[.int .u8 2, .int .i64 (q : Int), .string ⟨#[]⟩, .int .i64 0] := hR.old x_L.lt x_L
    have y_G : Blk w30 bg 37 #[.int .u8 3, .int .i64 0, .string Gt, .int .i64 0] := hR.old x_G.lt x_G
    have y_W : Blk w30 (bg + 1) 37 #[.int .u8 3, .int .i64 0, .string Lw, .int .i64 0] := hR.old x_W.lt x_W
    have y_O : Blk w30 bo 37 #[.int .u8 3, .int .i64 0, .string On, .int .i64 0] := hR.old x_O.lt x_O
    clear hB hR x_T x_L x_G x_W x_O
    have hB := hB2
    clear hB2
    have x_T := y_T
    have x_L := y_L
    have x_G := y_G
    have x_W := y_W
    have x_O := y_O
    clear y_T y_L y_G y_W y_O
    go_wp2
    go_ret
    exact ⟨rfl, hB⟩
end Go.Proofs.YtmnmnnocgimcpaaGreatDoor
