/- The reference of layer 3: Steps. -/
import Derived.Test.YtofbcgehemclbaaLb11
import Derived.Test.YtofbcgehemclbaaBr2
import Derived.Outline
namespace Go.Proofs.Ytofbcgehemclbaa
open Go.RowKit Bm
theorem txtInfo : (Try.prog.info? 9).map (fun i => (i.zero, i.size, i.bytes)) = some (some (.string ⟨#[]⟩), 1, 16) := by kernel_rfl
def tcells (ss : List (List Bool)) : List Value := ss.map fun s => .string (txS s)
/-- an address: texts that say the rows ss -/
def RdT (w : World) (a : Option Addr) (ss : List (List Bool)) : Prop := Rd w a (tcells ss)
theorem RdT.keep {w w' : World} {a : Option Addr} {ss : List (List Bool)} (h : RdT w a ss) (hb : Below w.heap.size w w') : RdT w' a ss := Rd.keep h hb
theorem RdT.alloc {w : World} {a : Option Addr} {ss : List (List Bool)} (h : RdT w a ss) (o : Obj) : RdT (w.alloc o) a ss := Rd.alloc h o
theorem RdT.take {w : World} {a : Option Addr} {ss : List (List Bool)} (h : RdT w a ss) (k : Nat) : RdT w a (ss.take k) := by
  have := Rd.take h k
  unfold RdT tcells
  rw [List.map_take]
  exact this
theorem txS_extract (l : List Bool) (i n : Nat) : (txS l).extract i (i + n) = txS ((l.drop i).take n) := by
  have h : ((txS l).extract i (i + n)).data = (txS ((l.drop i).take n)).data := by
    rw [ByteArray.data_extract]
    simp [txS, tx, List.map_take, List.map_drop, List.extract_eq_take_drop]
  exact ByteArray.ext h
/-- a text's bit, as the walk tests it -/
theorem bit_is (l : List Bool) (st : ByteArray) (hst : st = txS l) (p : Nat) (h : p < st.size) (b : Bool) (hb : l.getD p false = b) : ((st[p]'h).toNat : Int) = if b then 49 else 48 := by
  subst hst
  rw [txS_get, hb]
  cases b <;> rfl
def RStepsPost (w : World) (bs : List UInt8) (e : Ending) (w' : World) : Prop :=
  (∃ ss v, IsL bs ss ∧ e = .returned (.tuple #[v, .bool true]) ∧ w'.ownsRow w.heap.size 9 1 v ss.length (tcells ss) ∧ Below w.heap.size w w') ∨
  ((¬ ∃ ss, IsL bs ss) ∧ e = .returned (.tuple #[.slice none 0 0, .bool false]) ∧ Below w.heap.size w w')
/-- the outer loop: p bits are read, they say out -/
structure Rp (w W : World) (l : List Bool) (p : Nat) (out : List (List Bool)) (v : Value) : Prop where
  hp : p ≤ l.length
  ok : okS out
  eq : l = wr out ++ l.drop p
  le : out.length ≤ p
  own : W.ownsRow w.heap.size 9 1 v out.length (tcells out)
  be : Below w.heap.size w W
set_option maxRecDepth 100000 in
set_option maxHeartbeats 400000 in
theorem rsteps_long (a : Option Addr) (bs : List UInt8) (n c : Nat) (w : World) (hn : n = bs.length) (hbig : 128 < n) (hle : (n : Int) ≤ 9223372036854775807) :
    Calls Try.prog 37 #[.slice a n c] w (RStepsPost w bs) := by
  have hno : ¬ ∃ ss, IsL bs ss := fun ⟨ss, h⟩ => by have := (isL_bits h).1; omega
  have Hno := hide hno
  have Hn := hide hn
  have hbig' : (128 : Int) < n := by omega
  clear hno hn hbig
  go_enter Try.func37, Try.ntmps37
  go_wp2
  go_ret2
  exact .inr ⟨Hno.out, rfl, Below.refl _ _⟩
theorem runpackR (l : List Bool) (st : ByteArray) (a : Option Addr) (n cap : Nat) (m : Int) (w : World) (hl : l.length ≤ 1048576) (hr : RdB w a (pkL l)) (hn : n = nb l.length) (hm : m = l.length) (hst : st = txS l) :
    Calls Try.prog 61 #[.slice a n cap, .int .i64 m] w fun e w' => e = .returned (.tuple #[.string st, .bool true]) ∧ Below w.heap.size w w' := by
  subst hn hm hst; exact runpack_ok l a cap w hl hr
set_option maxRecDepth 100000 in
set_option maxHeartbeats 4000000 in
theorem rsteps_short (a : Option Addr) (bs : List UInt8) (n c : Nat) (w : World) (hr : RdB w a bs) (hn : n = bs.length) (hle : n ≤ 128) :
    Calls Try.prog 37 #[.slice a n c] w (RStepsPost w bs) := by
  obtain ⟨l, hl⟩ : ∃ l, l = unb bs := ⟨_, rfl⟩
  have hll : l.length = 8 * n := by rw [hl, unb_length, hn]
  have hlen : l.length ≤ 1024 := by omega
  have hrl : RdB w a (pkL l) := by rw [hl, pk_unb]; exact hr
  have hnb : n = nb l.length := by unfold nb; omega
  obtain ⟨st, hst⟩ : ∃ st, st = txS l := ⟨_, rfl⟩
  have hsz : st.size = l.length := by rw [hst, size_txS]
  have hle' : (n : Int) ≤ 128 := by omega
  obtain ⟨i0, hi1, hi2, hi3, hi4⟩ := info_parts txtInfo
  have Hi : Hid (Try.prog.info? 9 = some i0 ∧ i0.zero = some (.string ⟨#[]⟩) ∧ i0.size = 1 ∧ i0.bytes = 16) := ⟨hi1, hi2, hi3, hi4⟩
  have Hl := hide hl
  have Hll := hide hll
  have Hnb := hide hnb
  have Hn := hide hn
  have Hst := hide hst
  have Hsz := hide hsz
  have hs1024 : st.size ≤ 1024 := by omega
  clear hl hll hnb hn hr hst hsz hi1 hi2 hi3 hi4
  have hB := Below.refl w.heap.size w
  go_enter Try.func37, Try.ntmps37
  go_wp2_with fail
  refine (runpackR l st a n c (8 * (n : Int)) _ (by omega) hrl Hnb.out (by have := Hll.out; omega) Hst.out).mono ?_
  rintro e w1 ⟨rfl, hb1⟩
  have hB1 := chain0 hB hb1
  clear hB hb1
  go_wp2_with fail
  have h0 : Rp w w1 l 0 [] (.slice none 0 0) := ⟨Nat.zero_le _, okS_nil, rfl, Nat.le_refl _, ow_nil _ _ _ _, hB1⟩
  clear hB1
  go_loopw [6, 7] (fun v x W => ∃ (p : Nat) (out : List (List Bool)), x = .int .i64 p ∧ Rp w W l p out v) (fun _ x _ => l.length - (intOf x).toNat)
  case atStart => exact ⟨0, [], rfl, h0⟩
  case round =>
    clear h0
    obtain ⟨p, out, rfl, H⟩ := hrel
    by_cases hlt : p < l.length
    · have hlt2 : p < st.size := by have := Hsz.out; omega
      cases hbit : l.getD p false
      · have hb1 := bit_is l st Hst.out p hlt2 false hbit
        have t1 : (((st[p]'hlt2).toNat : Int) == 49) = false := by rw [hb1]; rfl
        have Hbit := hide hbit
        clear hb1 hbit
        go_wp2_with fail
        clear t1
        have hp := H.hp
        have hz : l.drop p = [] ∨ ∃ r, l.drop p = false :: r := (.inr ⟨_, by rw [drop_cons l p hlt, Hbit.out]⟩)
        have Hz := hide hz
        clear hz
        go_loop [9] (fun x => ∃ j : Nat, x = .int .i64 j ∧ p ≤ j ∧ j ≤ l.length ∧ (p < j → l.length - p < 8) ∧ Hid (∀ i, p ≤ i → i < j → l.getD i false = false)) (fun x => l.length + 1 - (intOf x).toNat)
        case atStart => exact ⟨p, rfl, Nat.le_refl _, hp, fun h => absurd h (by omega), hide (fun i h1 h2 => absurd h1 (by omega))⟩
        case round =>
          obtain ⟨j, rfl, hpj, hjl, h8, hzs⟩ := hrel
          have H8 := hide h8
          clear h8
          by_cases hjl2 : j < l.length
          · have hjs : j < st.size := by have := Hsz.out; omega
            cases hbj : l.getD j false
            · have hb1 := bit_is l st Hst.out j hjs false hbj
              have t1 : (((st[j]'hjs).toNat : Int) != 48) = false := by rw [hb1]; rfl
              have Hbj := hide hbj
              clear hb1 hbj
              by_cases h8' : 8 ≤ l.length - p
              · have h8I : (8 : Int) ≤ (st.size : Int) - p := by have := Hsz.out; omega
                go_wp2
                go_ret2
                refine .inr ⟨?_, rfl, H.be⟩
                rcases Hz.out with hz | ⟨r, hz⟩
                · have := congrArg List.length hz
                  rw [List.length_drop, List.length_nil] at this; omega
                · refine no_label H.ok (rest := l.drop p) (by rw [← Hl.out]; exact H.eq) (.inr ⟨r, hz, fun hn => ?_⟩)
                  have := hn.2
                  rw [List.length_drop] at this; omega
              · have h8I : ¬ (8 : Int) ≤ (st.size : Int) - p := by have := Hsz.out; omega
                go_wp2
                go_round
                case rel =>
                  refine ⟨j + 1, by go_num, by omega, by omega, fun _ => by omega, hide (fun i h1 h2 => ?_)⟩
                  by_cases hij : i < j
                  · exact hzs.out i h1 hij
                  · rw [show i = j from by omega]; exact Hbj.out
                case measure => simp [intOf]; omega
            · have hb1 := bit_is l st Hst.out j hjs true hbj
              have t1 : (((st[j]'hjs).toNat : Int) != 48) = true := by rw [hb1]; rfl
              have Hbj := hide hbj
              clear hb1 hbj
              go_wp2
              go_ret2
              refine .inr ⟨?_, rfl, H.be⟩
              rcases Hz.out with hz | ⟨r, hz⟩
              · have := congrArg List.length hz
                rw [List.length_drop, List.length_nil] at this; omega
              · refine no_label H.ok (rest := l.drop p) (by rw [← Hl.out]; exact H.eq) (.inr ⟨r, hz, fun hn => ?_⟩)
                have h1 := Hbj.out
                have h2 : (l.drop p).getD (j - p) false = true := by
                  rw [List.getD_eq_getElem?_getD, List.getElem?_drop, show p + (j - p) = j from by omega, ← List.getD_eq_getElem?_getD]; exact h1
                rw [hn.1, nought, List.getD_eq_getElem?_getD, List.getElem?_replicate] at h2
                split at h2 <;> cases h2
          · have hjs : ¬ (j : Int) < st.size := by have := Hsz.out; omega
            have hjs2 : decide (j < st.size) = false := by have := Hsz.out; simp; omega
            go_wp2
            go_ret2
            refine .inl ⟨out, _, ?_, rfl, H.own, H.be⟩
            refine isL_of (k := (l.drop p).length) H.ok (by rw [← Hn.out]; exact hle) ?_ ?_
            · rw [List.length_drop]
              by_cases hpl : p < j
              · exact H8.out hpl
              · omega
            · rw [← Hl.out]
              have h1 := all_nought (x := l.drop p) (fun i hi => by
                rw [List.length_drop] at hi
                rw [List.getD_eq_getElem?_getD, List.getElem?_drop, ← List.getD_eq_getElem?_getD]
                exact hzs.out (p + i) (by omega) (by omega))
              rw [← h1]
              exact H.eq
      · have hb1 := bit_is l st Hst.out p hlt2 true hbit
        have t1 : (((st[p]'hlt2).toNat : Int) == 49) = true := by rw [hb1]; rfl
        have Hbit := hide hbit
        clear hb1 hbit
        go_wp2_with fail
        clear t1
        go_loop [7, 8] (fun x y => ∃ (s : List Bool) (q : Nat), x = .int .i64 q ∧ y = .string (txS s) ∧ Hid (q = p + 2 * s.length) ∧ q ≤ l.length ∧ Hid (l.drop p = pairs s ++ l.drop q)) (fun x _ => l.length + 2 - (intOf x).toNat)
        case atStart => exact ⟨[], p, rfl, rfl, hide (by simp), by omega, hide rfl⟩
        case round =>
          obtain ⟨s, q, rfl, rfl, hq, hql, heq⟩ := hrel
          obtain ⟨X, hX⟩ : ∃ X, X = txS s := ⟨_, rfl⟩
          rw [← hX]
          have hXs : X.size = s.length := by rw [hX, size_txS]
          have hsl : s.length ≤ 1024 := by have := hq.out; omega
          have hX1024 : X.size ≤ 1024 := by omega
          have HX := hide hX
          have HXs := hide hXs
          clear hX hXs
          by_cases hq1 : q + 1 < l.length
          · have hq1I : (q : Int) + 1 < st.size := by have := Hsz.out; omega
            have hqs : q < st.size := by omega
            cases hbq : l.getD q false
            · have hb1 := bit_is l st Hst.out q hqs false hbq
              have t1 : (((st[q]'hqs).toNat : Int) == 49) = false := by rw [hb1]; rfl
              have t2 : (((st[q]'hqs).toNat : Int) != 48) = false := by rw [hb1]; rfl
              have hs0 : 0 < s.length := by
                rcases Nat.eq_zero_or_pos s.length with h | h
                · have h1 := hq.out
                  rw [h, Nat.mul_zero, Nat.add_zero] at h1
                  rw [h1, Hbit.out] at hbq; cases hbq
                · exact h
              obtain ⟨m, hm⟩ : ∃ m, s.length = m + 1 := ⟨s.length - 1, by omega⟩
              have hXm : X.size = m + 1 := by have := HXs.out; omega
              have hmX : m < X.size := by omega
              have Hbq := hide hbq
              have Hm := hide hm
              have hqlt : ¬ (st.size : Int) ≤ q := by omega
              have hw3 : wrap64 (m : Int) = (m : Int) := by unfold wrap64; omega
              clear hb1 hbq hm hs0
              cases hL : lastOne s
              · have hb2 := bit_is s X HX.out m hmX false (by rw [← lastOne_getD s m Hm.out, hL])
                have t3 : (((X[m]'hmX).toNat : Int) != 49) = true := by rw [hb2]; rfl
                have HL := hide hL
                clear hb2 hL
                go_wp2
                go_ret2
                refine .inr ⟨?_, rfl, H.be⟩
                refine no_label H.ok (rest := l.drop p) (by rw [← Hl.out]; exact H.eq) (.inl ⟨l.drop (p + 1), ?_, fun s' t hst => ?_⟩)
                · rw [drop_cons l p hlt, Hbit.out]
                · rw [heq.out, rdStep_pairs] at hst
                  (rw [drop_cons l q (by omega), Hbq.out] at hst; simp only [rdStep, Option.map_some, Option.some.injEq, Prod.mk.injEq, List.append_nil] at hst; rw [← hst.1]; exact HL.out)
              · have hb2 := bit_is s X HX.out m hmX true (by rw [← lastOne_getD s m Hm.out, hL])
                have t3 : (((X[m]'hmX).toNat : Int) != 49) = false := by rw [hb2]; rfl
                have HL := hide hL
                clear hb2 hL
                have hrd := Rd.new wr 9 [.string X]
                have hk6 := (Below.refl wr.heap.size wr).alloc (Nat.le_refl _) (.cells #[.string X] 9)
                have own6 := ow_keep H.own hk6
                have be6 := chain0 H.be hk6
                have Hrd := hide hrd
                have Own6 := hide own6
                clear hrd hk6 own6
                go_wp2_with (at_builtin; refine wpList_appR rfl _ _ 54 rfl i0 _ 16 1 Try.underlying54 Hi.out.1 Hi.out.2.1 Hi.out.2.2.1 Hi.out.2.2.2 rfl (by decide) rfl rfl ?e1 Own6.out Hrd.out (m := 1) rfl ?e2 ?e3 ?e4 ?_)
                case e1 => intro u hu; simp at hu; subst hu; rfl
                case e2 => have := H.le; have := H.hp; omega
                case e3 => have := H.le; have := H.hp; omega
                case e4 => exact be6.size
                intro v' W7 hown7 hg7 _
                have H7 : Rp w W7 l (q + 1) (out ++ [s]) v' := by
                  refine ⟨by omega, okS_snoc H.ok HL.out, ?_, ?_, ?_, be6.grown hg7 be6.size (fun k hk => (ow_lt Own6.out k hk).1)⟩
                  · have h1 := H.eq
                    rw [heq.out, drop_cons l q (by omega), Hbq.out] at h1
                    rw [wr_snoc, enc, List.append_assoc, List.append_assoc]
                    exact h1
                  · have := H.le
                    have := hq.out
                    rw [List.length_append, List.length_singleton]; omega
                  · rw [List.length_append, List.length_singleton]
                    have e : tcells (out ++ [s]) = tcells out ++ [.string X] := by rw [HX.out]; simp [tcells]
                    rw [e]; exact hown7
                have hqp : p ≤ q := by have := hq.out; omega
                clear hown7 hg7 Own6 be6 hw3
                go_wp2
                go_roundw
                case rel => exact ⟨q + 1, _, by go_num, H7⟩
                case measure => simp [intOf]; omega
            · have hb1 := bit_is l st Hst.out q hqs true hbq
              have t1 : (((st[q]'hqs).toNat : Int) == 49) = true := by rw [hb1]; rfl
              have Hbq := hide hbq
              have hex : X ++ st.extract (q + 1) (q + 2) = txS (s ++ [l.getD (q + 1) false]) := by
                rw [HX.out, Hst.out, show q + 2 = q + 1 + 1 from rfl, txS_extract, txS_append]
                congr 2
                rw [drop_cons l (q + 1) hq1]; rfl
              have Hex := hide hex
              have hq2I : (q : Int) + 2 ≤ st.size := by omega
              clear hb1 hbq hex hsl
              have hrest : l.drop p = pairs (s ++ [l.getD (q + 1) false]) ++ l.drop (q + 2) := by
                rw [heq.out, pairs_snoc, List.append_assoc, drop_cons l q (by omega), Hbq.out, drop_cons l (q + 1) hq1]
                rfl
              have Hrest := hide hrest
              clear hrest
              go_wp2
              refine ⟨⟨s ++ [l.getD (q + 1) false], q + 2, by go_num, ?_, hide (by have := hq.out; simp; omega), by omega, Hrest⟩, ?_⟩
              · rw [Hex.out]
              · simp [intOf]; omega
          · have hq1I : ¬ (q : Int) + 1 < st.size := by have := Hsz.out; omega
            rcases (by omega : q = l.length ∨ q + 1 = l.length) with hql2 | hql2
            · have hge : (st.size : Int) ≤ q := by have := Hsz.out; omega
              have Hql2 := hide hql2
              clear hql2 hsl
              go_wp2
              go_ret2
              refine .inr ⟨?_, rfl, H.be⟩
              refine no_label H.ok (rest := l.drop p) (by rw [← Hl.out]; exact H.eq) (.inl ⟨l.drop (p + 1), ?_, fun s' t hst => ?_⟩)
              · rw [drop_cons l p hlt, Hbit.out]
              · rw [heq.out, rdStep_pairs] at hst
                (rw [Hql2.out, List.drop_eq_nil_of_le (Nat.le_refl _)] at hst; simp [rdStep] at hst)
            · have hqs : q < st.size := by have := Hsz.out; omega
              have hge : ¬ (st.size : Int) ≤ q := by omega
              cases hbq : l.getD q false
              · have hb1 := bit_is l st Hst.out q hqs false hbq
                have t2 : (((st[q]'hqs).toNat : Int) != 48) = false := by rw [hb1]; rfl
                have hs0 : 0 < s.length := by
                  rcases Nat.eq_zero_or_pos s.length with h | h
                  · have h1 := hq.out
                    rw [h, Nat.mul_zero, Nat.add_zero] at h1
                    rw [h1, Hbit.out] at hbq; cases hbq
                  · exact h
                obtain ⟨m, hm⟩ : ∃ m, s.length = m + 1 := ⟨s.length - 1, by omega⟩
                have hXm : X.size = m + 1 := by have := HXs.out; omega
                have hmX : m < X.size := by omega
                have Hbq := hide hbq
                have Hm := hide hm
                have hqlt : ¬ (st.size : Int) ≤ q := by omega
                have hw3 : wrap64 (m : Int) = (m : Int) := by unfold wrap64; omega
                clear hb1 hbq hm hs0
                cases hL : lastOne s
                · have hb2 := bit_is s X HX.out m hmX false (by rw [← lastOne_getD s m Hm.out, hL])
                  have t3 : (((X[m]'hmX).toNat : Int) != 49) = true := by rw [hb2]; rfl
                  have HL := hide hL
                  clear hb2 hL
                  go_wp2
                  go_ret2
                  refine .inr ⟨?_, rfl, H.be⟩
                  refine no_label H.ok (rest := l.drop p) (by rw [← Hl.out]; exact H.eq) (.inl ⟨l.drop (p + 1), ?_, fun s' t hst => ?_⟩)
                  · rw [drop_cons l p hlt, Hbit.out]
                  · rw [heq.out, rdStep_pairs] at hst
                    (rw [drop_cons l q (by omega), Hbq.out] at hst; simp only [rdStep, Option.map_some, Option.some.injEq, Prod.mk.injEq, List.append_nil] at hst; rw [← hst.1]; exact HL.out)
                · have hb2 := bit_is s X HX.out m hmX true (by rw [← lastOne_getD s m Hm.out, hL])
                  have t3 : (((X[m]'hmX).toNat : Int) != 49) = false := by rw [hb2]; rfl
                  have HL := hide hL
                  clear hb2 hL
                  have hrd := Rd.new wr 9 [.string X]
                  have hk6 := (Below.refl wr.heap.size wr).alloc (Nat.le_refl _) (.cells #[.string X] 9)
                  have own6 := ow_keep H.own hk6
                  have be6 := chain0 H.be hk6
                  have Hrd := hide hrd
                  have Own6 := hide own6
                  clear hrd hk6 own6
                  go_wp2_with (at_builtin; refine wpList_appR rfl _ _ 54 rfl i0 _ 16 1 Try.underlying54 Hi.out.1 Hi.out.2.1 Hi.out.2.2.1 Hi.out.2.2.2 rfl (by decide) rfl rfl ?e1 Own6.out Hrd.out (m := 1) rfl ?e2 ?e3 ?e4 ?_)
                  case e1 => intro u hu; simp at hu; subst hu; rfl
                  case e2 => have := H.le; have := H.hp; omega
                  case e3 => have := H.le; have := H.hp; omega
                  case e4 => exact be6.size
                  intro v' W7 hown7 hg7 _
                  have H7 : Rp w W7 l (q + 1) (out ++ [s]) v' := by
                    refine ⟨by omega, okS_snoc H.ok HL.out, ?_, ?_, ?_, be6.grown hg7 be6.size (fun k hk => (ow_lt Own6.out k hk).1)⟩
                    · have h1 := H.eq
                      rw [heq.out, drop_cons l q (by omega), Hbq.out] at h1
                      rw [wr_snoc, enc, List.append_assoc, List.append_assoc]
                      exact h1
                    · have := H.le
                      have := hq.out
                      rw [List.length_append, List.length_singleton]; omega
                    · rw [List.length_append, List.length_singleton]
                      have e : tcells (out ++ [s]) = tcells out ++ [.string X] := by rw [HX.out]; simp [tcells]
                      rw [e]; exact hown7
                  have hqp : p ≤ q := by have := hq.out; omega
                  clear hown7 hg7 Own6 be6 hw3
                  go_wp2
                  go_roundw
                  case rel => exact ⟨q + 1, _, by go_num, H7⟩
                  case measure => simp [intOf]; omega
              · have hb1 := bit_is l st Hst.out q hqs true hbq
                have t2 : (((st[q]'hqs).toNat : Int) != 48) = true := by rw [hb1]; rfl
                have Hbq := hide hbq
                have Hql2 := hide hql2
                clear hb1 hbq hql2 hsl
                go_wp2
                go_ret2
                refine .inr ⟨?_, rfl, H.be⟩
                refine no_label H.ok (rest := l.drop p) (by rw [← Hl.out]; exact H.eq) (.inl ⟨l.drop (p + 1), ?_, fun s' t hst => ?_⟩)
                · rw [drop_cons l p hlt, Hbit.out]
                · rw [heq.out, rdStep_pairs] at hst
                  (rw [drop_cons l q (by have := Hql2.out; omega), Hbq.out, List.drop_eq_nil_of_le (by have := Hql2.out; omega)] at hst; simp [rdStep] at hst)
    · have hlt2 : ¬ p < st.size := by have := Hsz.out; omega
      have hltd : decide (p < st.size) = false := by simpa using hlt2
      go_wp2_with fail
      clear hltd
      have hp := H.hp
      have hz : l.drop p = [] ∨ ∃ r, l.drop p = false :: r := (.inl (List.drop_eq_nil_of_le (by omega)))
      have Hz := hide hz
      clear hz
      go_loop [9] (fun x => ∃ j : Nat, x = .int .i64 j ∧ p ≤ j ∧ j ≤ l.length ∧ (p < j → l.length - p < 8) ∧ Hid (∀ i, p ≤ i → i < j → l.getD i false = false)) (fun x => l.length + 1 - (intOf x).toNat)
      case atStart => exact ⟨p, rfl, Nat.le_refl _, hp, fun h => absurd h (by omega), hide (fun i h1 h2 => absurd h1 (by omega))⟩
      case round =>
        obtain ⟨j, rfl, hpj, hjl, h8, hzs⟩ := hrel
        have H8 := hide h8
        clear h8
        by_cases hjl2 : j < l.length
        · have hjs : j < st.size := by have := Hsz.out; omega
          cases hbj : l.getD j false
          · have hb1 := bit_is l st Hst.out j hjs false hbj
            have t1 : (((st[j]'hjs).toNat : Int) != 48) = false := by rw [hb1]; rfl
            have Hbj := hide hbj
            clear hb1 hbj
            by_cases h8' : 8 ≤ l.length - p
            · have h8I : (8 : Int) ≤ (st.size : Int) - p := by have := Hsz.out; omega
              go_wp2
              go_ret2
              refine .inr ⟨?_, rfl, H.be⟩
              rcases Hz.out with hz | ⟨r, hz⟩
              · have := congrArg List.length hz
                rw [List.length_drop, List.length_nil] at this; omega
              · refine no_label H.ok (rest := l.drop p) (by rw [← Hl.out]; exact H.eq) (.inr ⟨r, hz, fun hn => ?_⟩)
                have := hn.2
                rw [List.length_drop] at this; omega
            · have h8I : ¬ (8 : Int) ≤ (st.size : Int) - p := by have := Hsz.out; omega
              go_wp2
              go_round
              case rel =>
                refine ⟨j + 1, by go_num, by omega, by omega, fun _ => by omega, hide (fun i h1 h2 => ?_)⟩
                by_cases hij : i < j
                · exact hzs.out i h1 hij
                · rw [show i = j from by omega]; exact Hbj.out
              case measure => simp [intOf]; omega
          · have hb1 := bit_is l st Hst.out j hjs true hbj
            have t1 : (((st[j]'hjs).toNat : Int) != 48) = true := by rw [hb1]; rfl
            have Hbj := hide hbj
            clear hb1 hbj
            go_wp2
            go_ret2
            refine .inr ⟨?_, rfl, H.be⟩
            rcases Hz.out with hz | ⟨r, hz⟩
            · have := congrArg List.length hz
              rw [List.length_drop, List.length_nil] at this; omega
            · refine no_label H.ok (rest := l.drop p) (by rw [← Hl.out]; exact H.eq) (.inr ⟨r, hz, fun hn => ?_⟩)
              have h1 := Hbj.out
              have h2 : (l.drop p).getD (j - p) false = true := by
                rw [List.getD_eq_getElem?_getD, List.getElem?_drop, show p + (j - p) = j from by omega, ← List.getD_eq_getElem?_getD]; exact h1
              rw [hn.1, nought, List.getD_eq_getElem?_getD, List.getElem?_replicate] at h2
              split at h2 <;> cases h2
        · have hjs : ¬ (j : Int) < st.size := by have := Hsz.out; omega
          have hjs2 : decide (j < st.size) = false := by have := Hsz.out; simp; omega
          go_wp2
          go_ret2
          refine .inl ⟨out, _, ?_, rfl, H.own, H.be⟩
          refine isL_of (k := (l.drop p).length) H.ok (by rw [← Hn.out]; exact hle) ?_ ?_
          · rw [List.length_drop]
            by_cases hpl : p < j
            · exact H8.out hpl
            · omega
          · rw [← Hl.out]
            have h1 := all_nought (x := l.drop p) (fun i hi => by
              rw [List.length_drop] at hi
              rw [List.getD_eq_getElem?_getD, List.getElem?_drop, ← List.getD_eq_getElem?_getD]
              exact hzs.out (p + i) (by omega) (by omega))
            rw [← h1]
            exact H.eq
theorem rsteps_any (a : Option Addr) (bs : List UInt8) (n c : Nat) (w : World) (hr : RdB w a bs) (hn : n = bs.length) (hle : (n : Int) ≤ 9223372036854775807) :
    Calls Try.prog 37 #[.slice a n c] w (RStepsPost w bs) := by
  by_cases h : n ≤ 128
  · exact rsteps_short a bs n c w hr hn h
  · exact rsteps_long a bs n c w hn (by omega) hle
theorem rsteps_yes (a : Option Addr) (bs : List UInt8) (ss : List (List Bool)) (n c : Nat) (w : World) (hr : RdB w a bs) (hn : n = bs.length) (hle : (n : Int) ≤ 9223372036854775807) (hs : IsL bs ss) :
    Calls Try.prog 37 #[.slice a n c] w fun e w' => ∃ a' c', e = .returned (.tuple #[.slice a' ss.length c', .bool true]) ∧ (RdT w' a' ss ∧ ss.length ≤ c') ∧ Below w.heap.size w w' := by
  refine (rsteps_any a bs n c w hr hn hle).mono ?_
  rintro e w' (⟨tt, v, hl, rfl, ho, hb⟩ | ⟨hno, _⟩)
  · have := isL_uniq hl hs
    subst this
    obtain ⟨a', c', rfl⟩ := ow_forms ho
    exact ⟨a', c', rfl, ⟨ow_rd ho, ow_cap ho⟩, hb⟩
  · exact absurd ⟨ss, hs⟩ hno
theorem rsteps_no (a : Option Addr) (bs : List UInt8) (n c : Nat) (w : World) (hr : RdB w a bs) (hn : n = bs.length) (hle : (n : Int) ≤ 9223372036854775807) (hs : ¬ ∃ ss, IsL bs ss) :
    Calls Try.prog 37 #[.slice a n c] w fun e w' => e = .returned (.tuple #[.slice none 0 0, .bool false]) ∧ Below w.heap.size w w' := by
  refine (rsteps_any a bs n c w hr hn hle).mono ?_
  rintro e w' (⟨tt, v, hl, _⟩ | ⟨_, he, hb⟩)
  · exact absurd ⟨tt, hl⟩ hs
  · exact ⟨he, hb⟩
end Go.Proofs.Ytofbcgehemclbaa

