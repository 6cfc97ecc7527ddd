/- label.row: steps are written. -/
import Derived.Test.YtofbcgehemclbaaLb2
namespace Go.Proofs.Ytofbcgehemclbaa
open Go.RowKit Bm
theorem tx_app (a b : List Bool) : tx (a ++ b) = tx a ++ tx b := by simp [tx]
theorem bcells_get (ss : List (List Bool)) (i : Nat) (s : List Bool) (h : ss[i]? = some s) : (bcells ss)[i * 2]? = some (.string (pk s)) ∧ (bcells ss)[i * 2 + 1]? = some (.int .i64 s.length) := by
  induction ss generalizing i with
  | nil => simp at h
  | cons x ss ih =>
    have hc : bcells (x :: ss) = .string (pk x) :: .int .i64 x.length :: bcells ss := rfl
    cases i with
    | zero => simp at h; subst h; simp [hc]
    | succ i =>
      obtain ⟨h1, h2⟩ := ih i (by simpa using h)
      rw [hc, show (i + 1) * 2 = i * 2 + 2 from by omega]
      exact ⟨by simpa using h1, by simpa using h2⟩
theorem RdS.row {w : World} {a : Option Addr} {ss : List (List Bool)} (h : RdS w a ss) (i : Nat) (s : List Bool) (hs : ss[i]? = some s) :
    ∃ b off, a = some ⟨b, off, none⟩ ∧ w.cell? ⟨b, off + i * 2, none⟩ = some (.string (pk s)) ∧ w.cell? ⟨b, off + i * 2 + 1, none⟩ = some (.int .i64 s.length) := by
  obtain ⟨h1, h2⟩ := bcells_get ss i s hs
  obtain ⟨b, off, ha, hc⟩ := Rd.cellAt h _ _ h1
  obtain ⟨b', off', ha', hc'⟩ := Rd.cellAt h _ _ h2
  rw [ha] at ha'
  injection ha' with ha'
  injection ha' with e1 e2
  subst e1 e2
  exact ⟨b, off, ha, hc, by rw [Nat.add_assoc]; exact hc'⟩
theorem RdS.keep {w w' : World} {a : Option Addr} {ss : List (List Bool)} (h : RdS w a ss) (hb : Below w.heap.size w w') : RdS w' a ss := Rd.keep h hb
theorem RdS.alloc {w : World} {a : Option Addr} {ss : List (List Bool)} (h : RdS w a ss) (o : Obj) : RdS (w.alloc o) a ss := Rd.alloc h o
/-- the outer loop: i steps are written -/
structure Ro (w W : World) (tt : List (List Bool)) (i : Nat) (v : Value) : Prop where
  hi : i ≤ tt.length
  own : OwB W (w.heap.size + 1) v (tx (wr (tt.take i)))
  r0 : Blk W w.heap.size 50 #[.string ⟨#[]⟩, .int .i64 0]
  be : Below w.heap.size w W
/-- the inner loop: of the next one k bits -/
structure Rn (w W : World) (tt : List (List Bool)) (i : Nat) (s : List Bool) (k g5 : Nat) (v : Value) : Prop where
  hk : k ≤ s.length
  hs : tt[i]? = some s
  own : OwB W (w.heap.size + 1) v (tx (wr (tt.take i) ++ pairs (s.take k)))
  nf : v.ownBlock ≠ some g5
  b5 : Blk W g5 50 #[.string (pk s), .int .i64 s.length]
  g5l : w.heap.size < g5
  r0 : Blk W w.heap.size 50 #[.string ⟨#[]⟩, .int .i64 0]
  be : Below w.heap.size w W
section
variable {w W W' : World} {tt : List (List Bool)} {i : Nat} {s : List Bool} {k g5 : Nat} {v v' : Value}
theorem Ro.keep (h : Ro w W tt i v) (hb : Below W.heap.size W W') : Ro w W' tt i v := ⟨h.hi, h.own.keep hb, h.r0.keep hb, chain0 h.be hb⟩
theorem Rn.keep (h : Rn w W tt i s k g5 v) (hb : Below W.heap.size W W') : Rn w W' tt i s k g5 v := ⟨h.hk, h.hs, h.own.keep hb, h.nf, h.b5.keep hb, h.g5l, h.r0.keep hb, chain0 h.be hb⟩
theorem Ro.inner (h : Ro w W tt i v) (hs : tt[i]? = some s) : Rn w (W.alloc (.cells #[.string (pk s), .int .i64 s.length] 50)) tt i s 0 W.heap.size v :=
  ⟨Nat.zero_le _, hs, by
    have := h.own.keep ((Below.refl _ _).alloc (Nat.le_refl _) (.cells #[.string (pk s), .int .i64 s.length] 50))
    simpa [pairs] using this, fun e => by have := (h.own.lt _ e).2; omega, Blk.new _ _ _, h.r0.lt, h.r0.alloc _, h.be.alloc h.be.size _⟩
theorem Rn.app (h : Rn w W tt i s k g5 v) (b : Bool) (hown : OwB W' (w.heap.size + 1) v' (tx (wr (tt.take i) ++ pairs (s.take k)) ++ [49, if b then 49 else 48])) (hg : W.grownBy W' v.ownBlock)
    (hv : v'.ownBlock = v.ownBlock ∨ v'.ownBlock = some W.heap.size) (hlt : k < s.length) (hb : s.getD k false = b) : Rn w W' tt i s (k + 1) g5 v' := by
  have hB : Below (w.heap.size + 1) W W' := (Below.refl _ _).grown hg (by have := h.r0.lt; omega) (fun k hk => (h.own.lt k hk).1)
  refine ⟨by omega, h.hs, ?_, ?_, ?_, h.g5l, (hB.block _ (by omega)).trans h.r0, h.be.trans (hB.mono (by omega))⟩
  · have e : tx (wr (tt.take i) ++ pairs (s.take k)) ++ [49, if b then 49 else 48] = tx (wr (tt.take i) ++ pairs (s.take (k + 1))) := by
      rw [take_snoc s k hlt, hb, pairs_snoc, ← List.append_assoc, tx_app _ [true, b]]
      rfl
    rw [← e]; exact hown
  · rcases hv with e | e
    · rw [e]; exact h.nf
    · rw [e]; intro h'; injection h' with h'; have := h.b5.lt; omega
  · exact (hg.block g5 h.b5.lt (fun e => h.nf e.symm)).trans h.b5
theorem Rn.done (h : Rn w W tt i s s.length g5 v) (hown : OwB W' (w.heap.size + 1) v' (tx (wr (tt.take i) ++ pairs (s.take s.length)) ++ [48])) (hg : W.grownBy W' v.ownBlock) : Ro w W' tt (i + 1) v' := by
  have hB : Below (w.heap.size + 1) W W' := (Below.refl _ _).grown hg (by have := h.r0.lt; omega) (fun k hk => (h.own.lt k hk).1)
  have hi : i < tt.length := (List.getElem?_eq_some_iff.1 h.hs).1
  refine ⟨by omega, ?_, (hB.block _ (by omega)).trans h.r0, h.be.trans (hB.mono (by omega))⟩
  have e : tx (wr (tt.take i) ++ pairs (s.take s.length)) ++ [48] = tx (wr (tt.take (i + 1))) := by
    have h1 : tt[i]'hi = s := (List.getElem?_eq_some_iff.1 h.hs).2
    rw [List.take_succ_eq_append_getElem hi, h1, wr_snoc, List.take_length, enc, ← List.append_assoc, tx_app _ [false]]
    rfl
  rw [← e]; exact hown
theorem wr_take_le (tt : List (List Bool)) (i : Nat) : (wr (tt.take i)).length ≤ (wr tt).length := by
  have := congrArg List.length (congrArg wr (List.take_append_drop i tt))
  rw [wr_app, List.length_append] at this
  omega
theorem wr_item (tt : List (List Bool)) (i : Nat) (s : List Bool) (h : tt[i]? = some s) : (wr (tt.take i)).length + (2 * s.length + 1) ≤ (wr tt).length := by
  have hi : i < tt.length := (List.getElem?_eq_some_iff.1 h).1
  have h1 : tt[i]'hi = s := (List.getElem?_eq_some_iff.1 h).2
  have := wr_take_le tt (i + 1)
  rw [List.take_succ_eq_append_getElem hi, h1, wr_snoc, List.length_append, enc_length] at this
  exact this
end
theorem rd_two (w : World) (u : UInt8) (c : Int) (hc : c = (u.toNat : Int)) : RdB (w.alloc (.cells #[.int .u8 49, .int .u8 c] 5)) (some ⟨w.heap.size, 0, none⟩) [49, u] := by
  subst hc
  refine .inr ⟨w.heap.size, 0, rfl, by simp, fun i hi => ?_⟩
  have h := Blk.new w 5 #[.int .u8 49, .int .u8 (u.toNat : Int)]
  match i, hi with
  | 0, _ => exact h.cell 0
  | 1, _ => exact h.cell 1
set_option maxRecDepth 100000 in
set_option maxHeartbeats 2000000 in
theorem row_any (a : Option Addr) (tt : List (List Bool)) (n c : Nat) (w : World) (hr : RdS w a tt) (hn : n = tt.length) (hle : (wr tt).length ≤ 1048576) (hnl : n ≤ 1048576) :
    Calls Try.prog 45 #[.slice a n c] w fun e w' => e = .returned (.agg #[.string (pk (wr tt)), .int .i64 (wr tt).length]) ∧ Below w.heap.size w w' := by
  have Hn := hide hn
  clear hn
  go_enter Try.func45, Try.ntmps45
  go_wp2_with fail
  go_loopw [3, 11] (fun v x W => ∃ i : Nat, i ≤ n ∧ x = .int .i64 i ∧ Ro w W tt i v) (fun _ x _ => n - (intOf x).toNat)
  case atStart => exact ⟨0, Nat.zero_le _, rfl, Nat.zero_le _, OwB.nil _ _, Blk.new _ _ _, (Below.refl _ _).alloc (Nat.le_refl _) _⟩
  case round =>
    obtain ⟨i, hi, rfl, H⟩ := hrel
    by_cases hlt : i < n
    · obtain ⟨s, hs⟩ : ∃ s, tt[i]? = some s := ⟨tt[i]'(by have := Hn.out; omega), List.getElem?_eq_getElem _⟩
      obtain ⟨b, off, ha, k0, k1⟩ := (hr.keep H.be).row i s hs
      subst ha
      have hix : ∀ W, (Instr.indexAt 46 (.slice (some ⟨b, off, none⟩) n c) (.int .i64 (i : Int))).run Try.prog W = .ok (.pointer (some ⟨b, off + i * 2, none⟩)) W := fun W => by
        obtain ⟨j0, hj, _, hj1, _⟩ := info_parts bitsInfo
        exact run_ix Try.underlying46 hj hj1 b off n c i (i : Int) rfl hlt W
      have I := H.inner hs
      have Hs := hide hs
      clear hs
      have hsl := wr_item tt i s Hs.out
      have hlI : (i : Int) < n := by omega
      obtain ⟨g5, hg5⟩ : ∃ g, g = wr.heap.size := ⟨_, rfl⟩
      go_wp2_with fail
      rw [← hg5]
      rw [← hg5] at I
      clear hg5 k0 k1 hix H
      refine (lenR s _).mono ?_
      rintro e W1 ⟨rfl, hb1⟩
      have I1 := I.keep hb1
      clear I hb1
      go_wp2_with fail
      go_loopw [3, 17] (fun v x W => ∃ k : Nat, x = .int .i64 k ∧ Rn w W tt i s k g5 v) (fun _ x _ => s.length - (intOf x).toNat)
      case atStart => exact ⟨0, rfl, I1⟩
      case round =>
        clear I1
        obtain ⟨k, rfl, I⟩ := hrel
        by_cases hlk : k < s.length
        · cases hbit : s.getD k false
          · have hq : (0 : Int) = atZ s k := (atZ_in s k false hlk hbit).symm
            have Hq := hide hq
            have Hbit := hide hbit
            clear hq hbit
            have c0 := I.b5.cell 0
            have c1 := I.b5.cell 1
            simp only [List.getElem?_toArray, List.getElem?_cons_zero, List.getElem?_cons_succ] at c0 c1
            go_wp2_with fail
            refine (atR s _ _ _ (by omega) Hq.out).mono ?_
            rintro e W2 ⟨rfl, hb2⟩
            have I2 := I.keep hb2
            clear c0 c1 hb2 I
            have I3 := I2.keep ((Below.refl W2.heap.size W2).alloc (Nat.le_refl _) (.cells #[.int .u8 49, .int .u8 48] 5))
            obtain ⟨xs, hxs⟩ : ∃ xs, xs = tx (Bm.wr (tt.take i) ++ pairs (s.take k)) := ⟨_, rfl⟩
            have hxl : xs.length ≤ 1048576 := by
              rw [hxs, length_tx, List.length_append, pairs_length, List.length_take]; omega
            have Hxs := hide hxs
            clear hxs
            go_wp2_with (at_builtin; refine wpList_appB rfl _ _ rfl (w.heap.size + 1) _ xs (some ⟨W2.heap.size, 0, none⟩) 2 2 [49, 48] rfl rfl ?c1 ?c2 ?c3 ?c4 ?c5 ?_)
            case c1 => rw [Hxs.out]; exact I3.own
            case c2 => exact rd_two _ _ _ rfl
            case c3 => rfl
            case c4 => simp; omega
            case c5 => exact I3.r0.lt
            intro v' W3 hown3 hg3 hv3
            rw [Hxs.out] at hown3
            have I4 := I3.app false hown3 hg3 (by rw [World.size_alloc]; exact hv3) hlk Hbit.out
            clear hown3 hg3 hv3 I2 I3
            go_wp2
            go_roundw
            case rel => exact ⟨k + 1, by go_num, I4⟩
            case measure => simp [intOf]; omega
          · have hq : (1 : Int) = atZ s k := (atZ_in s k true hlk hbit).symm
            have Hq := hide hq
            have Hbit := hide hbit
            clear hq hbit
            have c0 := I.b5.cell 0
            have c1 := I.b5.cell 1
            simp only [List.getElem?_toArray, List.getElem?_cons_zero, List.getElem?_cons_succ] at c0 c1
            go_wp2_with fail
            refine (atR s _ _ _ (by omega) Hq.out).mono ?_
            rintro e W2 ⟨rfl, hb2⟩
            have I2 := I.keep hb2
            clear c0 c1 hb2 I
            have I3 := I2.keep ((Below.refl W2.heap.size W2).alloc (Nat.le_refl _) (.cells #[.int .u8 49, .int .u8 49] 5))
            obtain ⟨xs, hxs⟩ : ∃ xs, xs = tx (Bm.wr (tt.take i) ++ pairs (s.take k)) := ⟨_, rfl⟩
            have hxl : xs.length ≤ 1048576 := by
              rw [hxs, length_tx, List.length_append, pairs_length, List.length_take]; omega
            have Hxs := hide hxs
            clear hxs
            go_wp2_with (at_builtin; refine wpList_appB rfl _ _ rfl (w.heap.size + 1) _ xs (some ⟨W2.heap.size, 0, none⟩) 2 2 [49, 49] rfl rfl ?c1 ?c2 ?c3 ?c4 ?c5 ?_)
            case c1 => rw [Hxs.out]; exact I3.own
            case c2 => exact rd_two _ _ _ rfl
            case c3 => rfl
            case c4 => simp; omega
            case c5 => exact I3.r0.lt
            intro v' W3 hown3 hg3 hv3
            rw [Hxs.out] at hown3
            have I4 := I3.app true hown3 hg3 (by rw [World.size_alloc]; exact hv3) hlk Hbit.out
            clear hown3 hg3 hv3 I2 I3
            go_wp2
            go_roundw
            case rel => exact ⟨k + 1, by go_num, I4⟩
            case measure => simp [intOf]; omega
        · have hk : k = s.length := by have := I.hk; omega
          subst hk
          have I3 := I.keep ((Below.refl wr.heap.size wr).alloc (Nat.le_refl _) (.cells #[.int .u8 48] 5))
          obtain ⟨xs, hxs⟩ : ∃ xs, xs = tx (Bm.wr (tt.take i) ++ pairs (s.take s.length)) := ⟨_, rfl⟩
          have hxl : xs.length ≤ 1048576 := by
            rw [hxs, length_tx, List.length_append, pairs_length, List.length_take]; omega
          have Hxs := hide hxs
          clear hxs
          go_wp2_with (at_builtin; refine wpList_appB rfl _ _ rfl (w.heap.size + 1) _ xs (some ⟨wr.heap.size, 0, none⟩) 1 1 [48] rfl rfl ?c1 ?c2 ?c3 ?c4 ?c5 ?_)
          case c1 => rw [Hxs.out]; exact I3.own
          case c2 => exact rd_one _ _ _ rfl
          case c3 => rfl
          case c4 => simp; omega
          case c5 => exact I3.r0.lt
          intro v' W3 hown3 hg3 hv3
          rw [Hxs.out] at hown3
          have H4 := I3.done hown3 hg3
          clear hown3 hg3 hv3 I I3
          go_wp2
          go_roundw
          case rel => exact ⟨i + 1, by omega, by go_num, H4⟩
          case measure => simp [intOf]; omega
    · have hii : i = tt.length := by have := H.hi; have := Hn.out; omega
      obtain ⟨r, hrr⟩ : ∃ r, r = Bm.wr tt := ⟨_, rfl⟩
      have hown := H.own
      rw [hii, List.take_length, ← hrr] at hown
      rw [← hrr] at hle
      obtain ⟨a3, c3, hv⟩ := hown.forms
      subst hv
      obtain ⟨st, hst⟩ : ∃ st, st = txS r := ⟨_, rfl⟩
      have hstr : (convert 22 9 (.slice a3 (tx r).length c3)).run Try.prog wr = .ok (.string st) wr := by
        rw [hst]; exact hown.rd.str _ c3 rfl
      have Hr := hide hrr
      have Hst := hide hst
      have Hii := hide hii
      have hlI : ¬ (i : Int) < n := by omega
      clear hrr hst hii
      have R0 := H.r0
      have hbe := H.be
      clear hown H
      go_wp2_with fail
      refine (ofR r st _ hle Hst.out).mono ?_
      rintro e W2 ⟨rfl, hb2⟩
      have hB := chain0 hbe hb2
      have R2 := R0.keep hb2
      have hl0 := R2.lt
      clear hbe hb2 R0 hstr
      have d2 := R2.cell 0
      have d3 := R2.cell 1
      have d4 := R2.frozen 0
      have d5 := R2.frozen 1
      simp only [List.getElem?_toArray, List.getElem?_cons_zero, List.getElem?_cons_succ] at d2 d3
      go_wp2
      (try simp only [Exit.inBlock, Exit.then])
      refine bodyPost_ret (results_cell_row (P := Try.prog) (fn := Try.f45) rfl _ _ w.heap.size 50 #[.string (pk r), .int .i64 r.length] (0, 0) _ rfl (((R2.set_ 0 _).set_ 1 _).alloc _) Try.underlying50 rfl (by kernel_rfl)) rfl ?_
      exact ⟨by rw [Hr.out], ((hB.setCell (by dsimp only; omega) _).setCell (by dsimp only; omega) _).alloc (by have := hB.size; simp [World.setCell]; omega) _⟩
end Go.Proofs.Ytofbcgehemclbaa

