/- LabelApart: the walk. -/
import Derived.Test.YtofbcgehemclbaaFl7
import Derived.Test.YtofbcgehemclbaaRow
namespace Go.Proofs.Ytofbcgehemclbaa
open Go.RowKit Bm
def AllP (B : Nat) (W : World) (ps : List Pc) : Prop := ∀ p ∈ ps, OkP B W p
theorem AllP.keep {B : Nat} {W W' : World} {ps : List Pc} (h : AllP B W ps) (hb : Below W.heap.size W W') : AllP B W' ps := fun p hp => (h p hp).keep hb
theorem AllP.alloc {B : Nat} {W : World} {ps : List Pc} (h : AllP B W ps) (o : Obj) : AllP B (W.alloc o) ps := fun p hp => (h p hp).alloc o
theorem AllP.other {B m size n : Nat} {W W' : World} {ps : List Pc} {v : Value} {xs : List Value} (h : AllP B W ps) (hg : W.grownBy W' v.ownBlock) (ho : W.ownsRow m 22 size v n xs) : AllP B W' ps := fun p hp => (h p hp).other hg ho
theorem one_pcs (ps : List Pc) : ∀ u ∈ ps.map pcV, u.oneCell' = true := by
  intro u hu
  obtain ⟨q, _, rfl⟩ := List.mem_map.1 hu
  rfl
set_option maxRecDepth 100000 in
set_option maxHeartbeats 4000000 in
theorem labelApart_walk (a0 : Option Addr) (len0 cap0 : Nat) (z0 : List Int) (a1 : Int) (w : World) (w0 : IsRow .u8 w a0 len0 cap0 z0) (w1 : (Lit.int IntKind.i64 a1).wf = true) :
    Calls Try.prog 5 #[.slice a0 len0 cap0, .int .i64 a1] w fun e w' => e = .returned (.bool true) ∧ Below w.heap.size w w' := by
  have hB := Below.refl w.heap.size w
  obtain ⟨xs, hl0, hr0, hz0⟩ := rd_of_row w0
  clear w0 w1
  by_cases hs : (200 : Int) < (len0 : Int)
  · clear hl0
    go_enter Try.func5, Try.ntmps5
    go_wp2_with fail
    refine (awake_any _).mono ?_
    rintro e w1 ⟨rfl, hb1⟩
    have hB2 : Below w.heap.size w w1 := by first | exact chain0 hB hb1 | exact chain1 hB hb1 | exact chain2 hB hb1 | exact chain3 hB hb1
    clear hB
    have hB := hB2
    clear hB2
    go_wp2
    go_ret
    exact ⟨rfl, hB⟩
  have hs' : (len0 : Int) ≤ 200 := by omega
  have Hl0 : Hid (len0 = xs.length) := hl0.symm
  obtain ⟨i1, hi1, hi2, hi3, hi4⟩ := info_parts pieceInfo
  have Hi : Hid (Try.prog.info? 22 = some i1 ∧ i1.zero = some (.slice none 0 0) ∧ i1.size = 1 ∧ i1.bytes = 24) := ⟨hi1, hi2, hi3, hi4⟩
  clear hl0 hi1 hi2 hi3 hi4
  clear hs
  go_enter Try.func5, Try.ntmps5
  go_wp2_with fail
  refine (awake_any _).mono ?_
  rintro e w1 ⟨rfl, hb1⟩
  have hB2 : Below w.heap.size w w1 := by first | exact chain0 hB hb1 | exact chain1 hB hb1 | exact chain2 hB hb1 | exact chain3 hB hb1
  clear hB
  have hB := hB2
  clear hB2
  have x_X : RdB w1 a0 xs := hr0.keep hB
  clear hr0
  go_wp2_with fail
  refine (copyP_any a0 xs len0 cap0 _ x_X Hl0.out (by omega)).mono ?_
  rintro e w2 ⟨bo, no, co, rfl, hno, ko, ro, hb2⟩
  have hB2 : Below w.heap.size w w2 := by first | exact chain0 hB hb2 | exact chain1 hB hb2 | exact chain2 hB hb2 | exact chain3 hB hb2
  clear hB
  have hB := hB2
  clear hB2
  have y_X : RdB w2 a0 xs := by first | exact x_X.keep hb2 | exact (x_X.alloc _).keep hb2 | exact ((x_X.alloc _).alloc _).keep hb2 | exact (((x_X.alloc _).alloc _).alloc _).keep hb2
  clear x_X
  have x_X := y_X
  clear y_X
  have Hno := hide hno
  have hnob : no ≤ 200 := by have := Hl0.out; omega
  clear hno
  have x_O : RdB w2 (pcA (bo, no, co)) xs := ro
  have Ko := hide ko
  have x_KO : OkP (w1.heap.size) w2 (bo, no, co) := ko
  clear ro ko
  go_wp2_with fail
  refine (pick_any a1 9 _ (by omega) (by omega)).mono ?_
  rintro e W1 ⟨m, hm, rfl, rfl⟩
  go_wp2_with fail
  refine (kidsP _ xs no _ m _ x_O Hno.out (by omega) (by omega)).mono ?_
  rintro e w3 ⟨aA, kA, cA, EA, psA, rfl, hkA, hkA8, rA, okA, apA, hb3⟩
  have hB2 : Below w.heap.size w w3 := by first | exact chain0 hB hb3 | exact chain1 hB hb3 | exact chain2 hB hb3 | exact chain3 hB hb3
  clear hB
  have hB := hB2
  clear hB2
  have y_X : RdB w3 a0 xs := by first | exact x_X.keep hb3 | exact (x_X.alloc _).keep hb3 | exact ((x_X.alloc _).alloc _).keep hb3 | exact (((x_X.alloc _).alloc _).alloc _).keep hb3
  have y_O : RdB w3 (pcA (bo, no, co)) xs := by first | exact x_O.keep hb3 | exact (x_O.alloc _).keep hb3 | exact ((x_O.alloc _).alloc _).keep hb3 | exact (((x_O.alloc _).alloc _).alloc _).keep hb3
  have y_KO : OkP (w1.heap.size) w3 (bo, no, co) := by first | exact x_KO.keep hb3 | exact (x_KO.alloc _).keep hb3 | exact ((x_KO.alloc _).alloc _).keep hb3 | exact (((x_KO.alloc _).alloc _).alloc _).keep hb3
  clear x_X x_O x_KO
  have x_X := y_X
  have x_O := y_O
  have x_KO := y_KO
  clear y_X y_O y_KO
  have HkA := hide hkA
  have KA := hide okA
  have PA := hide apA
  have okA : AllP w2.heap.size w3 psA := okA
  have x_RA : Rd w3 aA (psA.map pcV) := rA
  have x_KA : AllP (w2.heap.size) w3 psA := okA
  clear hkA okA apA rA
  go_wp2_with fail
  refine (pick_any a1 9 _ (by omega) (by omega)).mono ?_
  rintro e W2 ⟨m2, hm2, rfl, rfl⟩
  go_wp2_with fail
  refine (kidsP _ xs no _ m2 _ x_O Hno.out (by omega) (by omega)).mono ?_
  rintro e w4 ⟨aB, kB, cB, EB, psB, rfl, hkB, hkB8, rB, okB, apB, hb4⟩
  have hB2 : Below w.heap.size w w4 := by first | exact chain0 hB hb4 | exact chain1 hB hb4 | exact chain2 hB hb4 | exact chain3 hB hb4
  clear hB
  have hB := hB2
  clear hB2
  have y_X : RdB w4 a0 xs := by first | exact x_X.keep hb4 | exact (x_X.alloc _).keep hb4 | exact ((x_X.alloc _).alloc _).keep hb4 | exact (((x_X.alloc _).alloc _).alloc _).keep hb4
  have y_O : RdB w4 (pcA (bo, no, co)) xs := by first | exact x_O.keep hb4 | exact (x_O.alloc _).keep hb4 | exact ((x_O.alloc _).alloc _).keep hb4 | exact (((x_O.alloc _).alloc _).alloc _).keep hb4
  have y_KO : OkP (w1.heap.size) w4 (bo, no, co) := by first | exact x_KO.keep hb4 | exact (x_KO.alloc _).keep hb4 | exact ((x_KO.alloc _).alloc _).keep hb4 | exact (((x_KO.alloc _).alloc _).alloc _).keep hb4
  have y_RA : Rd w4 aA (psA.map pcV) := by first | exact x_RA.keep hb4 | exact (x_RA.alloc _).keep hb4 | exact ((x_RA.alloc _).alloc _).keep hb4 | exact (((x_RA.alloc _).alloc _).alloc _).keep hb4
  have y_KA : AllP (w2.heap.size) w4 psA := by first | exact x_KA.keep hb4 | exact (x_KA.alloc _).keep hb4 | exact ((x_KA.alloc _).alloc _).keep hb4 | exact (((x_KA.alloc _).alloc _).alloc _).keep hb4
  clear x_X x_O x_KO x_RA x_KA
  have x_X := y_X
  have x_O := y_O
  have x_KO := y_KO
  have x_RA := y_RA
  have x_KA := y_KA
  clear y_X y_O y_KO y_RA y_KA
  have HkB := hide hkB
  have KB := hide okB
  have PB := hide apB
  have okB : AllP w3.heap.size w4 psB := okB
  have x_RB : Rd w4 aB (psB.map pcV) := rB
  have x_KB : AllP (w3.heap.size) w4 psB := okB
  clear hkB okB apB rB
  go_wp2_with fail
  refine (parentP _ xs no _ _ x_O Hno.out (by omega)).mono ?_
  rintro e w5 ⟨bp, np, cp, qp, rfl, okp, hb5⟩
  have hB2 : Below w.heap.size w w5 := by first | exact chain0 hB hb5 | exact chain1 hB hb5 | exact chain2 hB hb5 | exact chain3 hB hb5
  clear hB
  have hB := hB2
  clear hB2
  have y_X : RdB w5 a0 xs := by first | exact x_X.keep hb5 | exact (x_X.alloc _).keep hb5 | exact ((x_X.alloc _).alloc _).keep hb5 | exact (((x_X.alloc _).alloc _).alloc _).keep hb5
  have y_O : RdB w5 (pcA (bo, no, co)) xs := by first | exact x_O.keep hb5 | exact (x_O.alloc _).keep hb5 | exact ((x_O.alloc _).alloc _).keep hb5 | exact (((x_O.alloc _).alloc _).alloc _).keep hb5
  have y_KO : OkP (w1.heap.size) w5 (bo, no, co) := by first | exact x_KO.keep hb5 | exact (x_KO.alloc _).keep hb5 | exact ((x_KO.alloc _).alloc _).keep hb5 | exact (((x_KO.alloc _).alloc _).alloc _).keep hb5
  have y_RA : Rd w5 aA (psA.map pcV) := by first | exact x_RA.keep hb5 | exact (x_RA.alloc _).keep hb5 | exact ((x_RA.alloc _).alloc _).keep hb5 | exact (((x_RA.alloc _).alloc _).alloc _).keep hb5
  have y_KA : AllP (w2.heap.size) w5 psA := by first | exact x_KA.keep hb5 | exact (x_KA.alloc _).keep hb5 | exact ((x_KA.alloc _).alloc _).keep hb5 | exact (((x_KA.alloc _).alloc _).alloc _).keep hb5
  have y_RB : Rd w5 aB (psB.map pcV) := by first | exact x_RB.keep hb5 | exact (x_RB.alloc _).keep hb5 | exact ((x_RB.alloc _).alloc _).keep hb5 | exact (((x_RB.alloc _).alloc _).alloc _).keep hb5
  have y_KB : AllP (w3.heap.size) w5 psB := by first | exact x_KB.keep hb5 | exact (x_KB.alloc _).keep hb5 | exact ((x_KB.alloc _).alloc _).keep hb5 | exact (((x_KB.alloc _).alloc _).alloc _).keep hb5
  clear x_X x_O x_KO x_RA x_KA x_RB x_KB
  have x_X := y_X
  have x_O := y_O
  have x_KO := y_KO
  have x_RA := y_RA
  have x_KA := y_KA
  have x_RB := y_RB
  have x_KB := y_KB
  clear y_X y_O y_KO y_RA y_KA y_RB y_KB
  have Kp := hide okp
  have x_KP : OkP (w4.heap.size) w5 (bp, np, cp) := okp
  clear okp
  go_wp2_with fail
  refine (betweenP _ xs no _ _ x_O Hno.out (by omega)).mono ?_
  rintro e w6 ⟨bm, nm, cm, Em, rfl, okm, hb6⟩
  have hB2 : Below w.heap.size w w6 := by first | exact chain0 hB hb6 | exact chain1 hB hb6 | exact chain2 hB hb6 | exact chain3 hB hb6
  clear hB
  have hB := hB2
  clear hB2
  have y_X : RdB w6 a0 xs := by first | exact x_X.keep hb6 | exact (x_X.alloc _).keep hb6 | exact ((x_X.alloc _).alloc _).keep hb6 | exact (((x_X.alloc _).alloc _).alloc _).keep hb6
  have y_O : RdB w6 (pcA (bo, no, co)) xs := by first | exact x_O.keep hb6 | exact (x_O.alloc _).keep hb6 | exact ((x_O.alloc _).alloc _).keep hb6 | exact (((x_O.alloc _).alloc _).alloc _).keep hb6
  have y_KO : OkP (w1.heap.size) w6 (bo, no, co) := by first | exact x_KO.keep hb6 | exact (x_KO.alloc _).keep hb6 | exact ((x_KO.alloc _).alloc _).keep hb6 | exact (((x_KO.alloc _).alloc _).alloc _).keep hb6
  have y_RA : Rd w6 aA (psA.map pcV) := by first | exact x_RA.keep hb6 | exact (x_RA.alloc _).keep hb6 | exact ((x_RA.alloc _).alloc _).keep hb6 | exact (((x_RA.alloc _).alloc _).alloc _).keep hb6
  have y_KA : AllP (w2.heap.size) w6 psA := by first | exact x_KA.keep hb6 | exact (x_KA.alloc _).keep hb6 | exact ((x_KA.alloc _).alloc _).keep hb6 | exact (((x_KA.alloc _).alloc _).alloc _).keep hb6
  have y_RB : Rd w6 aB (psB.map pcV) := by first | exact x_RB.keep hb6 | exact (x_RB.alloc _).keep hb6 | exact ((x_RB.alloc _).alloc _).keep hb6 | exact (((x_RB.alloc _).alloc _).alloc _).keep hb6
  have y_KB : AllP (w3.heap.size) w6 psB := by first | exact x_KB.keep hb6 | exact (x_KB.alloc _).keep hb6 | exact ((x_KB.alloc _).alloc _).keep hb6 | exact (((x_KB.alloc _).alloc _).alloc _).keep hb6
  have y_KP : OkP (w4.heap.size) w6 (bp, np, cp) := by first | exact x_KP.keep hb6 | exact (x_KP.alloc _).keep hb6 | exact ((x_KP.alloc _).alloc _).keep hb6 | exact (((x_KP.alloc _).alloc _).alloc _).keep hb6
  clear x_X x_O x_KO x_RA x_KA x_RB x_KB x_KP
  have x_X := y_X
  have x_O := y_O
  have x_KO := y_KO
  have x_RA := y_RA
  have x_KA := y_KA
  have x_RB := y_RB
  have x_KB := y_KB
  have x_KP := y_KP
  clear y_X y_O y_KO y_RA y_KA y_RB y_KB y_KP
  have Km := hide okm
  have x_KM : OkP (w5.heap.size) w6 (bm, nm, cm) := okm
  clear okm
  have own0 : (w6.alloc (.cells #[] 22 (0, 0))).ownsRow w6.heap.size 22 1 (.slice (some ⟨w6.heap.size, 0, none⟩) 0 0) 0 [] := ⟨rfl, .inr ⟨_, 0, #[], rfl, Nat.le_refl _, heap_alloc_new _ _, Nat.le_refl _, by decide, rfl, rfl⟩⟩
  have hk0 := (Below.refl w6.heap.size w6).alloc (Nat.le_refl _) (.cells #[] 22 (0, 0))
  have ra0 := x_RA.keep hk0
  obtain ⟨Wa, hWa⟩ : ∃ W, W = w6.alloc (.cells #[] 22 (0, 0)) := ⟨_, rfl⟩
  have hst : ∀ p W, Sem.run Try.prog (storeCells p (#[] : Array Value).toList) W = .ok () W := fun _ _ => rfl
  have hpu : ∀ W, Sem.run Try.prog (pure (#[] : Array Value)) W = .ok #[] W := fun _ => rfl
  rw [← hWa] at own0 hk0 ra0
  have Own0 := hide own0
  have Ra0 := hide ra0
  have HWa := hide hWa
  clear own0 ra0 hWa
  go_wp2_with (at_builtin; rw [← HWa.out]; refine wpList_appR rfl _ _ 25 rfl i1 _ 24 cA Try.underlying25 Hi.out.1 Hi.out.2.1 Hi.out.2.2.1 Hi.out.2.2.2 rfl (by decide) rfl rfl ?e1 Own0.out Ra0.out (m := kA) ?e5 ?e2 ?e3 ?e4 ?_)
  case e1 => exact one_pcs _
  case e5 => rw [List.length_map, HkA.out, Nat.mul_one]
  case e2 => omega
  case e3 => omega
  case e4 => exact hk0.size
  intro v7 W7 own7 hg7 _
  have hk7 : Below w6.heap.size w6 W7 := hk0.grown hg7 hk0.size (fun k hk => Nat.le_of_eq (by simpa [Value.ownBlock] using hk))
  have rb7 := x_RB.keep hk7
  have Own7 := hide own7
  have Rb7 := hide rb7
  clear own7 rb7 hg7 Own0 Ra0 HWa hk0
  go_wp2_with (at_builtin; refine wpList_appR rfl _ _ 25 rfl i1 _ 24 cB Try.underlying25 Hi.out.1 Hi.out.2.1 Hi.out.2.2.1 Hi.out.2.2.2 rfl (by decide) rfl rfl ?f1 Own7.out Rb7.out (m := kB) ?f5 ?f2 ?f3 ?f4 ?_)
  case f1 => exact one_pcs _
  case f5 => rw [List.length_map, HkB.out, Nat.mul_one]
  case f2 => omega
  case f3 => omega
  case f4 => exact hk7.size
  intro v8 W8 own8 hg8 _
  have hk8 : Below w6.heap.size w6 W8 := hk7.grown hg8 hk7.size (fun k hk => (ow_lt Own7.out k hk).1)
  have ro8 := x_O.keep hk8
  have Own8 := hide own8
  clear own8 hg8 Own7 Rb7 hk7
  go_wp2_with fail
  refine (afterP _ xs no _ _ ro8 Hno.out (by omega)).mono ?_
  rintro e w9 ⟨bx, nx, cx, rfl, kx, hb9⟩
  have hk9 := chain0 hk8 hb9
  have ro9 := ro8.keep hb9
  have Kx := hide kx
  have own9 := ow_keep Own8.out hb9
  have Own9 := hide own9
  clear Own8 ro8 own9 kx
  go_wp2_with fail
  refine (afterP _ xs no _ _ ro9 Hno.out (by omega)).mono ?_
  rintro e w10 ⟨by_, ny, cy, rfl, ky, hb10⟩
  have hk10 := chain0 hk9 hb10
  have Ky := hide ky
  have own10 := ow_keep Own9.out hb10
  have hka := (Below.refl w10.heap.size w10).alloc (Nat.le_refl _) (.cells #[.slice (pcA (bo, no, co)) no co, .slice (pcA (bp, np, cp)) np cp, .slice (pcA (bm, nm, cm)) nm cm, .slice (pcA (bx, nx, cx)) nx cx, .slice (pcA (by_, ny, cy)) ny cy] 22)
  have own11 := ow_keep own10 hka
  have rd11 := Rd.new w10 22 [.slice (pcA (bo, no, co)) no co, .slice (pcA (bp, np, cp)) np cp, .slice (pcA (bm, nm, cm)) nm cm, .slice (pcA (bx, nx, cx)) nx cx, .slice (pcA (by_, ny, cy)) ny cy]
  have Own11 := hide own11
  have Rd11 := hide rd11
  have Hka := hide hka
  clear Own9 ro9 ky own10 own11 rd11 hka
  go_wp2_with (at_builtin; refine wpList_appR rfl _ _ 25 rfl i1 _ 24 5 Try.underlying25 Hi.out.1 Hi.out.2.1 Hi.out.2.2.1 Hi.out.2.2.2 rfl (by decide) rfl rfl ?g1 Own11.out Rd11.out (m := 5) rfl ?g2 ?g3 ?g4 ?_)
  case g1 => intro u hu; simp at hu; rcases hu with rfl | rfl | rfl | rfl | rfl <;> rfl
  case g2 => omega
  case g3 => omega
  case g4 => have := hk10.size; simp; omega
  intro v12 W12 own12 hg12 _
  have h23 := hb3.size
  have h34 := hb4.size
  have h45 := hb5.size
  have h56 := hb6.size
  have h68 := hk8.size
  have h89 := hb9.size
  have h01 := hb1.size
  have h12 := hb2.size
  have h910 := hb10.size
  obtain ⟨ps, hps⟩ : ∃ ps : List Pc, ps = psA ++ psB ++ [(bo, no, co), (bp, np, cp), (bm, nm, cm), (bx, nx, cx), (by_, ny, cy)] := ⟨_, rfl⟩
  have hka6 : Below w6.heap.size w6 (w10.alloc (.cells #[.slice (pcA (bo, no, co)) no co, .slice (pcA (bp, np, cp)) np cp, .slice (pcA (bm, nm, cm)) nm cm, .slice (pcA (bx, nx, cx)) nx cx, .slice (pcA (by_, ny, cy)) ny cy] 22)) := chain0 hk10 Hka.out
  have to12 : ∀ B p, OkP B (w10.alloc (.cells #[.slice (pcA (bo, no, co)) no co, .slice (pcA (bp, np, cp)) np cp, .slice (pcA (bm, nm, cm)) nm cm, .slice (pcA (bx, nx, cx)) nx cx, .slice (pcA (by_, ny, cy)) ny cy] 22)) p → OkP B W12 p := fun B p h => h.other hg12 Own11.out
  have hok : ∀ p ∈ ps, OkP w1.heap.size W12 p := by
    intro p hp
    rw [hps] at hp
    simp only [List.append_assoc, List.mem_append, List.mem_cons, List.not_mem_nil, or_false] at hp
    rcases hp with hp | hp | rfl | rfl | rfl | rfl | rfl
    · exact (to12 _ _ ((x_KA p hp).keep hka6)).mono h12
    · exact (to12 _ _ ((x_KB p hp).keep hka6)).mono (by omega)
    · exact to12 _ _ (x_KO.keep hka6)
    · exact (to12 _ _ (x_KP.keep hka6)).mono (by omega)
    · exact (to12 _ _ (x_KM.keep hka6)).mono (by omega)
    · exact (to12 _ _ ((Kx.out.keep hb10).keep Hka.out)).mono (by omega)
    · exact (to12 _ _ (Ky.out.keep Hka.out)).mono (by omega)
  have hpw : ps.Pairwise Apart2 := by
    rw [hps, List.append_assoc]
    refine List.pairwise_append.2 ⟨PA.out, List.pairwise_append.2 ⟨PB.out, ?_, ?_⟩, ?_⟩
    · simp only [List.pairwise_cons, List.mem_cons, List.not_mem_nil, or_false, forall_eq_or_imp, forall_eq]
      exact ⟨⟨Ko.out.apart Kp.out (by omega), Ko.out.apart Km.out (by omega), Ko.out.apart Kx.out (by omega), Ko.out.apart Ky.out (by omega)⟩,
        ⟨Kp.out.apart Km.out (by omega), Kp.out.apart Kx.out (by omega), Kp.out.apart Ky.out (by omega)⟩,
        ⟨Km.out.apart Kx.out (by omega), Km.out.apart Ky.out (by omega)⟩, Kx.out.apart Ky.out (by omega), fun _ h => h.elim, List.Pairwise.nil⟩
    · intro p hp q hq
      simp only [List.mem_cons, List.not_mem_nil, or_false] at hq
      rcases hq with rfl | rfl | rfl | rfl | rfl
      · exact (Ko.out.apart (KB.out p hp) (by omega)).symm
      · exact (KB.out p hp).apart Kp.out (by omega)
      · exact (KB.out p hp).apart Km.out (by omega)
      · exact (KB.out p hp).apart Kx.out (by omega)
      · exact (KB.out p hp).apart Ky.out (by omega)
    · intro p hp q hq
      simp only [List.mem_append, List.mem_cons, List.not_mem_nil, or_false] at hq
      rcases hq with hq | rfl | rfl | rfl | rfl | rfl
      · exact (KA.out p hp).apart (KB.out q hq) (by omega)
      · exact (Ko.out.apart (KA.out p hp) (by omega)).symm
      · exact (KA.out p hp).apart Kp.out (by omega)
      · exact (KA.out p hp).apart Km.out (by omega)
      · exact (KA.out p hp).apart Kx.out (by omega)
      · exact (KA.out p hp).apart Ky.out (by omega)
  have hmap : ps.map pcV = psA.map pcV ++ (psB.map pcV ++ [.slice (pcA (bo, no, co)) no co, .slice (pcA (bp, np, cp)) np cp, .slice (pcA (bm, nm, cm)) nm cm, .slice (pcA (bx, nx, cx)) nx cx, .slice (pcA (by_, ny, cy)) ny cy]) := by
    rw [hps, List.map_append, List.map_append, List.append_assoc]; rfl
  have hpl : kA + kB + 5 = ps.length := by
    rw [hps, HkA.out, HkB.out]; simp; omega
  rw [← hmap] at own12
  have hB12 : Below w.heap.size w W12 := by
    have h1 : Below w.heap.size w (w10.alloc (.cells #[.slice (pcA (bo, no, co)) no co, .slice (pcA (bp, np, cp)) np cp, .slice (pcA (bm, nm, cm)) nm cm, .slice (pcA (bx, nx, cx)) nx cx, .slice (pcA (by_, ny, cy)) ny cy] 22)) := chain0 hB hka6
    exact h1.grown hg12 h1.size fun k hk => by have := (ow_lt Own11.out k hk).1; omega
  obtain ⟨g12, c12, hv12, _, _, _⟩ := ow_form own12 (by omega)
  subst hv12
  have hrd12 := ow_rd own12
  have hall : All W12 ps (fun _ _ => []) := fun j p hp => (hok p (List.mem_of_getElem? hp)).cont
  have hsm : ∀ p ∈ ps, p.2.1 ≤ 1000 ∧ p.2.1 ≤ p.2.2 := fun p hp => (hok p hp).sm
  have hps0 : ps ≠ [] := by rw [hps]; simp
  have Hrd12 := hide hrd12
  have Hall := hide hall
  have Hsm := hide hsm
  have Hdist := hide (dist_of hpw)
  have Hpl := hide hpl
  have Hok := hide hok
  have hnb : kA + kB + 5 ≤ 1000 := by omega
  clear own12 hg12 hrd12 hall hsm hpw hpl hok hmap to12 hka6 hps
  go_wp2_with fail
  refine (apartBytes_any (some ⟨g12, 0, none⟩) (kA + kB + 5) c12 ps _ Hrd12.out Hpl.out hps0 hnb Hall.out Hdist.out Hsm.out).mono ?_
  rintro e w13 ⟨rfl, hk13⟩
  have hB13 : Below w.heap.size w w13 := hB12.trans (hk13.below hB12.size fun p hp g hg => by
    have := ((Hok.out p hp).lt g hg).1
    omega)
  go_wp2
  go_ret
  exact ⟨rfl, hB13⟩
end Go.Proofs.Ytofbcgehemclbaa

