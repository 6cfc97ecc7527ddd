/- value.Call at functions of texts: normalize-space. -/
import Derived.Test.YtaieiogmolaebaaGreatDoorC17
import Derived.Test.YtaieiogmolaebaaGreatDoorKe1
import Derived.Test.YtaieiogmolaebaaGreatDoorC30
import Derived.Shelf.Abstract
import Derived.Shelf.Strings.FieldsFuncGrows
namespace Go.Proofs.YtaieiogmolaebaaGreatDoor
set_option maxRecDepth 100000
set_option maxHeartbeats 4000000
open Go.RowKit
def isBl (x : Nat) : Bool := x == 32 || x == 9 || x == 10 || x == 13
def fNorm : List ByteArray → List It × Int
 | t :: _ => joinR ⟨#[32]⟩ (Lib.goFieldsP isBl t)
 | [] => ([], 0)
theorem spans_len (p : Nat → Bool) (s : ByteArray) : ∀ (f pos : Nat) (st : Option Nat) (acc : List (Nat × Nat)), (Lib.spansFromP p s f pos st acc).1.length ≤ acc.length + f
 | 0, _, _, acc => by simp [Lib.spansFromP]
 | f + 1, pos, st, acc => by
  unfold Lib.spansFromP
  split
  ·split
   ·cases st with
    | some a => have := spans_len p s f (pos + (Utf8.decode s pos).2) none (acc ++ [(a, pos)]); rw [List.length_append] at this; simp only [List.length_singleton] at this; dsimp only; omega
    | none => have := spans_len p s f (pos + (Utf8.decode s pos).2) none acc; dsimp only; omega
   ·cases st with
    | some a => have := spans_len p s f (pos + (Utf8.decode s pos).2) (some a) acc; dsimp only; omega
    | none => have := spans_len p s f (pos + (Utf8.decode s pos).2) (some pos) acc; dsimp only; omega
  ·dsimp only; omega
theorem fields_len (s : ByteArray) : (Lib.goFieldsP isBl s).length ≤ s.size + 1 := by
 unfold Lib.goFieldsP Lib.spansOfP
 rw [List.length_map]
 have h := spans_len isBl s s.size 0 none []
 generalize Lib.spansFromP isBl s s.size 0 none [] = r at h
 obtain ⟨l, o⟩ := r
 simp only [List.length_nil, Nat.zero_add] at h
 cases o <;> simp [Lib.closeSpans] <;> omega
theorem fields_small (s : ByteArray) : ∀ t ∈ Lib.goFieldsP isBl s, t.size ≤ s.size := by
 intro t ht
 unfold Lib.goFieldsP at ht
 obtain ⟨x, _, rfl⟩ := List.mem_map.1 ht
 rw [ByteArray.size_extract]
 omega
theorem enc_last (x : Nat) (hv : Utf8.valid (x : Int) = true) (h : 128 ≤ x) : ∃ z c : Nat, (z = 2 ∨ z = 3 ∨ z = 4) ∧ (Utf8.encode (x : Int)).size = z ∧ bt (Utf8.encode (x : Int)) (z - 1) = (c : Int) ∧ 128 ≤ c ∧ c < 256 := by
 obtain ⟨h1, h2, h3⟩ := encode_facts (x : Int) hv (by omega)
 generalize Utf8.encode (x : Int) = E at h1 h2 h3 ⊢
 have h4 : E.size - 1 < E.size := by omega
 obtain ⟨z, hz⟩ : ∃ z, z = E.size := ⟨_, rfl⟩
 refine ⟨z, (E[E.size - 1]'h4).toNat, by omega, hz.symm, ?_, h3 h4, UInt8.toNat_lt _⟩
 rw [hz]; exact (bt_get _ _ h4).symm
theorem valid_of {x : Nat} (h : Lib.validRune (x : Int) = true) : Utf8.valid (x : Int) = true := by
 simp only [Lib.validRune, decide_eq_true_eq] at h
 simp only [Utf8.valid, Bool.or_eq_true, Bool.and_eq_true, decide_eq_true_eq]
 omega
theorem indexByte_small : ∀ (l : List UInt8) (c : UInt8), (∀ b ∈ l, b.toNat < 128) → 128 ≤ c.toNat → Lib.indexByte l c = -1
 | [], c, _, _ => rfl
 | b :: l, c, h, hc => by
  have h1 := h b (by simp)
  have ih := indexByte_small l c (fun d hd => h d (by simp [hd])) hc
  have hne : (b == c) = false := by
   rw [beq_eq_false_iff_ne]
   intro e; subst e; omega
  unfold Lib.indexByte
  simp [hne, ih]
theorem u8_of (c : Nat) (h : c < 256) : ((c : Int)).toNat.toUInt8.toNat = c := by
 rw [Int.toNat_natCast]; simp; omega
theorem ixByte_hi (s : ByteArray) (c : Nat) (h128 : 128 ≤ c) (h256 : c < 256) (hs : ∀ b ∈ s.data.toList, b.toNat < 128) (W : World) : Calls Tryz.prog 120 #[.string s, .int .u8 c] W fun e w' => e = .returned (.int .i64 (-1)) ∧ Below W.heap.size W w' := by
 refine (Tryz.strings_IndexByte s c W).mono ?_
 rintro e w' ⟨rfl, hw⟩
 rw [indexByte_small _ _ hs (by rw [u8_of c h256]; exact h128)]
 exact ⟨rfl, by rw [hw]; exact Below.refl _ _⟩
theorem indexRune_hi (x : Nat) (h128 : 128 ≤ x) (hx : x ≤ 1114111) (W : World) : Calls Tryz.prog 71 #[.string ⟨#[32, 9, 10, 13]⟩, .int .i32 x] W fun e w' => e = .returned (.int .i64 (-1)) ∧ Below W.heap.size W w' := by
 have f1 : decide ((x : Int) < 128) = false := decide_eq_false (by omega)
 have f2 : ¬ x < 128 := by omega
 by_cases hr : x = 65533
 ·subst hr
  clear f1 f2
  go_enter Tryz.func71, Tryz.ntmps71
  have n0 : ∀ ty, (Instr.next (.pointer (some ⟨W.heap.size, 0, none⟩)) true ty).run Tryz.prog (W.iter ⟨#[32, 9, 10, 13]⟩ 0) = .ok (.tuple #[.bool true, .int .i64 0, .int .i32 32]) (W.iter ⟨#[32, 9, 10, 13]⟩ 1) := fun ty => run_next_ascii W ⟨#[32, 9, 10, 13]⟩ 0 ty (by decide) (by decide)
  have n1 : ∀ ty, (Instr.next (.pointer (some ⟨W.heap.size, 0, none⟩)) true ty).run Tryz.prog (W.iter ⟨#[32, 9, 10, 13]⟩ 1) = .ok (.tuple #[.bool true, .int .i64 1, .int .i32 9]) (W.iter ⟨#[32, 9, 10, 13]⟩ 2) := fun ty => run_next_ascii W ⟨#[32, 9, 10, 13]⟩ 1 ty (by decide) (by decide)
  have n2 : ∀ ty, (Instr.next (.pointer (some ⟨W.heap.size, 0, none⟩)) true ty).run Tryz.prog (W.iter ⟨#[32, 9, 10, 13]⟩ 2) = .ok (.tuple #[.bool true, .int .i64 2, .int .i32 10]) (W.iter ⟨#[32, 9, 10, 13]⟩ 3) := fun ty => run_next_ascii W ⟨#[32, 9, 10, 13]⟩ 2 ty (by decide) (by decide)
  have n3 : ∀ ty, (Instr.next (.pointer (some ⟨W.heap.size, 0, none⟩)) true ty).run Tryz.prog (W.iter ⟨#[32, 9, 10, 13]⟩ 3) = .ok (.tuple #[.bool true, .int .i64 3, .int .i32 13]) (W.iter ⟨#[32, 9, 10, 13]⟩ 4) := fun ty => run_next_ascii W ⟨#[32, 9, 10, 13]⟩ 3 ty (by decide) (by decide)
  have n4 : ∀ ty, (Instr.next (.pointer (some ⟨W.heap.size, 0, none⟩)) true ty).run Tryz.prog (W.iter ⟨#[32, 9, 10, 13]⟩ 4) = .ok (.tuple #[.bool false]) (W.iter ⟨#[32, 9, 10, 13]⟩ 4) := fun ty => run_next_end W ⟨#[32, 9, 10, 13]⟩ 4 ty (by decide)
  go_wp2_with fail
  refine wp_loop_rounds 6 ?_
  rw [rounds_succ]
  go_wp2_with fail
  rw [rounds_succ]
  go_wp2_with fail
  rw [rounds_succ]
  go_wp2_with fail
  rw [rounds_succ]
  go_wp2_with fail
  rw [rounds_succ]
  go_wp2
  go_ret
  exact ⟨rfl, below_iterN (Below.refl _ _)⟩
 have f3 : ((x : Int) == 65533) = false := by simpa using (show (x : Int) ≠ 65533 by omega)
 rcases Bool.eq_false_or_eq_true (Lib.validRune (x : Int)) with hv | hv
 ·obtain ⟨z, c, hzz, hz, hbt, hc1, hc2⟩ := enc_last x (valid_of hv) h128
  have Hv := hide hv
  clear hv hr
  rcases hzz with rfl | rfl | rfl
  ·have hsz : (Utf8.encode (x : Int)).size = 2 := hz
   have hxl : ∀ W : World, (Instr.index 9 (.string (Utf8.encode (x : Int))) (.int .i64 (1 : Int))).run Tryz.prog W = .ok (.int .u8 (c : Int)) W := fun W => by
    rw [run_sx (Utf8.encode (x : Int)) 1 (by omega) 1 rfl W]
    rw [show bt (Utf8.encode (x : Int)) 1 = (c : Int) from hbt]
   have hxs : ∀ W : World, (Instr.index 9 (.string ⟨#[32, 9, 10, 13]⟩) (.int .i64 (1 : Int))).run Tryz.prog W = .ok (.int .u8 9) W := fun W => by kernel_rfl
   have hne : ((9 : Int) == (c : Int)) = false := by simpa using (show (9 : Int) ≠ (c : Int) by omega)
   have hne2 : ((9 : Int) != (c : Int)) = true := by simpa using (show (9 : Int) ≠ (c : Int) by omega)
   have Hc1 := hide hc1
   have Hc2 := hide hc2
   clear hz hbt hc1 hc2
   go_enter Tryz.func71, Tryz.ntmps71
   go_wp2_with fail
   refine (Tryz.utf8_ValidRune (x : Int) _).mono ?_
   rintro e w1 ⟨rfl, hw1⟩
   rw [Hv.out]
   have hB1 : Below W.heap.size W w1 := by rw [hw1]; exact Below.refl _ _
   clear hw1
   go_wp2_with fail
   go_step3
   go_wp2_with fail
   refine wp_loop_rounds 3 ?_
   rw [rounds_succ]
   go_wp2_with fail
   (repeat go_step3)
   (try go_wp2_with fail)
   refine wp_region_later (by kernel_rfl) (by kernel_rfl) ?_
   repeat (go_big_quiet_step (fail))
   refine wpQuiet_nil ?_
   intro _ hw'
   obtain ⟨y2, hw''⟩ := hw'
   subst hw''
   have hB2 := chain0 hB1 y2.2
   clear hB1
   go_wp2_with fail
   refine wp_region_later (by kernel_rfl) (by kernel_rfl) ?_
   repeat (go_big_quiet_step ((go_at_call 120; exact later_of (ixByte_hi _ c Hc1.out Hc2.out (by decide) _))))
   refine wpQuiet_nil ?_
   intro _ hw'
   obtain ⟨y3, hw''⟩ := hw'
   subst hw''
   have hB3 := chain0 hB2 y3.2
   clear hB2
   go_wp2
   (try rw [Exit.noGoto_ret])
   (try simp only [Exit.inBlock, Exit.then])
   (try rw [Exit.noGoto_ret])
   (try simp only [Exit.inBlock])
   go_ret
   exact ⟨rfl, hB3⟩
  ·have hsz : (Utf8.encode (x : Int)).size = 3 := hz
   have hxl : ∀ W : World, (Instr.index 9 (.string (Utf8.encode (x : Int))) (.int .i64 (2 : Int))).run Tryz.prog W = .ok (.int .u8 (c : Int)) W := fun W => by
    rw [run_sx (Utf8.encode (x : Int)) 2 (by omega) 2 rfl W]
    rw [show bt (Utf8.encode (x : Int)) 2 = (c : Int) from hbt]
   have hxs : ∀ W : World, (Instr.index 9 (.string ⟨#[32, 9, 10, 13]⟩) (.int .i64 (2 : Int))).run Tryz.prog W = .ok (.int .u8 10) W := fun W => by kernel_rfl
   have hne : ((10 : Int) == (c : Int)) = false := by simpa using (show (10 : Int) ≠ (c : Int) by omega)
   have hne2 : ((10 : Int) != (c : Int)) = true := by simpa using (show (10 : Int) ≠ (c : Int) by omega)
   have Hc1 := hide hc1
   have Hc2 := hide hc2
   clear hz hbt hc1 hc2
   go_enter Tryz.func71, Tryz.ntmps71
   go_wp2_with fail
   refine (Tryz.utf8_ValidRune (x : Int) _).mono ?_
   rintro e w1 ⟨rfl, hw1⟩
   rw [Hv.out]
   have hB1 : Below W.heap.size W w1 := by rw [hw1]; exact Below.refl _ _
   clear hw1
   go_wp2_with fail
   go_step3
   go_wp2_with fail
   refine wp_loop_rounds 3 ?_
   rw [rounds_succ]
   go_wp2_with fail
   (repeat go_step3)
   (try go_wp2_with fail)
   refine wp_region_later (by kernel_rfl) (by kernel_rfl) ?_
   repeat (go_big_quiet_step (fail))
   refine wpQuiet_nil ?_
   intro _ hw'
   obtain ⟨y2, hw''⟩ := hw'
   subst hw''
   have hB2 := chain0 hB1 y2.2
   clear hB1
   go_wp2_with fail
   refine wp_region_later (by kernel_rfl) (by kernel_rfl) ?_
   repeat (go_big_quiet_step ((go_at_call 120; exact later_of (ixByte_hi _ c Hc1.out Hc2.out (by decide) _))))
   refine wpQuiet_nil ?_
   intro _ hw'
   obtain ⟨y3, hw''⟩ := hw'
   subst hw''
   have hB3 := chain0 hB2 y3.2
   clear hB2
   go_wp2
   (try rw [Exit.noGoto_ret])
   (try simp only [Exit.inBlock, Exit.then])
   (try rw [Exit.noGoto_ret])
   (try simp only [Exit.inBlock])
   go_ret
   exact ⟨rfl, hB3⟩
  ·have hsz : (Utf8.encode (x : Int)).size = 4 := hz
   have hxl : ∀ W : World, (Instr.index 9 (.string (Utf8.encode (x : Int))) (.int .i64 (3 : Int))).run Tryz.prog W = .ok (.int .u8 (c : Int)) W := fun W => by
    rw [run_sx (Utf8.encode (x : Int)) 3 (by omega) 3 rfl W]
    rw [show bt (Utf8.encode (x : Int)) 3 = (c : Int) from hbt]
   have hxs : ∀ W : World, (Instr.index 9 (.string ⟨#[32, 9, 10, 13]⟩) (.int .i64 (3 : Int))).run Tryz.prog W = .ok (.int .u8 13) W := fun W => by kernel_rfl
   have hne : ((13 : Int) == (c : Int)) = false := by simpa using (show (13 : Int) ≠ (c : Int) by omega)
   have hne2 : ((13 : Int) != (c : Int)) = true := by simpa using (show (13 : Int) ≠ (c : Int) by omega)
   have Hc1 := hide hc1
   have Hc2 := hide hc2
   clear hz hbt hc1 hc2
   go_enter Tryz.func71, Tryz.ntmps71
   go_wp2_with fail
   refine (Tryz.utf8_ValidRune (x : Int) _).mono ?_
   rintro e w1 ⟨rfl, hw1⟩
   rw [Hv.out]
   have hB1 : Below W.heap.size W w1 := by rw [hw1]; exact Below.refl _ _
   clear hw1
   go_wp2_with fail
   go_step3
   go_wp2_with fail
   refine wp_loop_rounds 3 ?_
   rw [rounds_succ]
   go_wp2_with fail
   (repeat go_step3)
   (try go_wp2_with fail)
   refine wp_region_later (by kernel_rfl) (by kernel_rfl) ?_
   repeat (go_big_quiet_step (fail))
   refine wpQuiet_nil ?_
   intro _ hw'
   obtain ⟨y2, hw''⟩ := hw'
   subst hw''
   have hB2 := chain0 hB1 y2.2
   clear hB1
   go_wp2_with fail
   refine wp_region_later (by kernel_rfl) (by kernel_rfl) ?_
   repeat (go_big_quiet_step ((go_at_call 120; exact later_of (ixByte_hi _ c Hc1.out Hc2.out (by decide) _))))
   refine wpQuiet_nil ?_
   intro _ hw'
   obtain ⟨y3, hw''⟩ := hw'
   subst hw''
   have hB3 := chain0 hB2 y3.2
   clear hB2
   go_wp2
   (try rw [Exit.noGoto_ret])
   (try simp only [Exit.inBlock, Exit.then])
   (try rw [Exit.noGoto_ret])
   (try simp only [Exit.inBlock])
   go_ret
   exact ⟨rfl, hB3⟩
 ·have Hv := hide hv
  clear hv hr
  go_enter Tryz.func71, Tryz.ntmps71
  go_wp2_with fail
  refine (Tryz.utf8_ValidRune (x : Int) _).mono ?_
  rintro e w1 ⟨rfl, hw1⟩
  rw [Hv.out]
  have hB1 : Below W.heap.size W w1 := by rw [hw1]; exact Below.refl _ _
  clear hw1
  go_wp2
  go_ret
  exact ⟨rfl, hB1⟩
theorem isBl_low : ∀ x : Nat, x < 128 → decide (0 ≤ Lib.indexByte (⟨#[32, 9, 10, 13]⟩ : ByteArray).data.toList ((x : Int)).toNat.toUInt8) = isBl x := by decide +kernel
theorem containsRune_any (x : Nat) (hx : x ≤ 1114111) (W : World) : Calls Tryz.prog 35 #[.string ⟨#[32, 9, 10, 13]⟩, .int .i32 x] W fun e w' => e = .returned (.bool (isBl x)) ∧ Below W.heap.size W w' := by
 by_cases h : x < 128
 ·refine (Tryz.strings_ContainsRune_ascii ⟨#[32, 9, 10, 13]⟩ (x : Int) W (by omega) (by omega)).mono ?_
  rintro e w' ⟨rfl, hw⟩
  rw [isBl_low x h]
  exact ⟨rfl, by rw [hw]; exact Below.refl _ _⟩
 ·have HF : Hid (isBl x = false) := by show _ = _; simp [isBl]; omega
  have Hi := hide (indexRune_hi x (by omega) hx)
  clear h hx
  go_enter Tryz.func35, Tryz.ntmps35
  go_wp2_with fail
  refine (Hi.out _).mono ?_
  rintro e w1 ⟨rfl, hb1⟩
  go_wp2
  go_ret
  exact ⟨by rw [HF.out]; rfl, hb1⟩
theorem blank_clo (w : World) : PredGrows Tryz.prog 34 #[] isBl w := by
 intro W x hx _
 show Calls Tryz.prog 34 #[.int .i32 (x : Int)] W _
 have Hc := hide (containsRune_any x hx)
 generalize isBl x = bb at *
 clear hx
 go_enter Tryz.func34, Tryz.ntmps34
 go_wp2_with fail
 refine (Hc.out _).mono ?_
 rintro e w1 ⟨rfl, hb1⟩
 go_wp2
 go_ret
 exact ⟨rfl, hb1⟩
theorem fields_any (s : ByteArray) (w : World) (hs : s.size ≤ 4294967296) : Calls Tryz.prog 36 #[.string s, .func (.func 34) #[] #[]] w fun e w' => ∃ A, e = .returned (.slice (some ⟨A, 0, none⟩) (Lib.goFieldsP isBl s).length (Lib.goFieldsP isBl s).length) ∧ w.heap.size ≤ A ∧
      w'.ownsRow w.heap.size 9 1 (.slice (some ⟨A, 0, none⟩) (Lib.goFieldsP isBl s).length (Lib.goFieldsP isBl s).length) (Lib.goFieldsP isBl s).length ((Lib.goFieldsP isBl s).map Value.string) ∧ Below w.heap.size w w' :=
 Any.strings_FieldsFunc_grows Tryz.lays229 34 #[] (enters_of Tryz.func34 (by kernel_rfl) rfl) isBl s w hs (blank_clo w) (by kernel_rfl) (by kernel_rfl)
theorem callT_normalize_space (p : Option Addr) (n c : Nat) (ls : List Lst) (m : Int) (w : World) (he : Env w) (hm : w.cell? ⟨3, 0, none⟩ = some (.int .i64 m)) (hc : Counts w) (hr : Rd w p (ls.map Lst.v)) (hok : OkAs w ls)
  (hR : ∀ x ∈ ls, ∀ y ∈ x.l, R64 y.num) (hsz : ∀ x ∈ ls, ∀ y ∈ x.l, y.text.size ≤ 100000) (hn : n = ls.length) (hnm : n ≤ 1000000) :
  Calls Tryz.prog 7 #[.string ⟨#[110, 111, 114, 109, 97, 108, 105, 122, 101, 45, 115, 112, 97, 99, 101]⟩, .slice p n c] w (Res w (callT [110, 111, 114, 109, 97, 108, 105, 122, 101, 45, 115, 112, 97, 99, 101] fNorm ls).1 (callT [110, 111, 114, 109, 97, 108, 105, 122, 101, 45, 115, 112, 97, 99, 101] fNorm ls).2) := by
 obtain ⟨i0, hi⟩ := info_parts (show (Tryz.prog.info? 9).map (fun i => (i.zero, i.size, i.bytes)) = some (some (.string ⟨#[]⟩), 1, 16) by kernel_rfl)
 have Hi := hide hi
 have He := hide he
 have Hm := hide hm
 have Hc := hide hc
 have Hr := hide hr
 have Hok := hide hok
 have HR := hide hR
 have Hsz := hide hsz
 have Hn := hide hn
 have Hnm := hide hnm
 have Hrt := hide (right_any p n c ls w he.t8 hn (by omega) hr hok)
 have Hkn : Hid (∀ W, Below w.heap.size w W → Calls Tryz.prog 22 #[.string ⟨#[110, 111, 114, 109, 97, 108, 105, 122, 101, 45, 115, 112, 97, 99, 101]⟩, .int .i64 n] W fun e w' => e = .returned (.bool (knV [110, 111, 114, 109, 97, 108, 105, 122, 101, 45, 115, 112, 97, 99, 101] n)) ∧ Below W.heap.size W w') := fun W hW => known_any ⟨#[110, 111, 114, 109, 97, 108, 105, 122, 101, 45, 115, 112, 97, 99, 101]⟩ n m W (cell_keep hW hm) (hc.keep hW) (by decide)
 have hnl : n < 9223372036854775807 := by omega
 have Hall : Hid (callT [110, 111, 114, 109, 97, 108, 105, 122, 101, 45, 115, 112, 97, 99, 101] fNorm ls = if rightL ls = true then (if knV [110, 111, 114, 109, 97, 108, 105, 122, 101, 45, 115, 112, 97, 99, 101] n = true then (if errS ls = 0 then fNorm (txs ls) else ([], errS ls)) else ([], 241)) else ([], 2)) := by show _ = _; unfold callT; rw [hn]
 clear he hm hc hr hok hR hsz hn hnm hi
 rcases Bool.eq_false_or_eq_true (rightL ls) with hq | hq
 rotate_left
 ·rw [hq] at Hrt
  have HA : Hid (callT [110, 111, 114, 109, 97, 108, 105, 122, 101, 45, 115, 112, 97, 99, 101] fNorm ls = ([], 2)) := by show _ = _; rw [Hall.out, hq]; rfl
  clear hq Hall
  go_enter Tryz.func7, Tryz.ntmps7
  go_wp2_with fail
  refine Hrt.out.mono ?_
  rintro e w1 ⟨rfl, hb1⟩
  go_wp2
  go_ret2
  exact ⟨.slice none 0 0, by rw [HA.out]; rfl, by rw [HA.out]; exact OwI.nil _ _, hb1⟩
 rw [hq] at Hrt
 rcases Bool.eq_false_or_eq_true (knV [110, 111, 114, 109, 97, 108, 105, 122, 101, 45, 115, 112, 97, 99, 101] n) with hk | hk
 rotate_left
 ·rw [hk] at Hkn
  have HA : Hid (callT [110, 111, 114, 109, 97, 108, 105, 122, 101, 45, 115, 112, 97, 99, 101] fNorm ls = ([], 241)) := by show _ = _; rw [Hall.out, hq, hk]; rfl
  clear hq hk Hall
  go_enter Tryz.func7, Tryz.ntmps7
  go_wp2_with fail
  refine Hrt.out.mono ?_
  rintro e w1 ⟨rfl, hb1⟩
  go_wp2_with fail
  refine (Hkn.out w1 hb1).mono ?_
  rintro e w2 ⟨rfl, hb2⟩
  have hB2 := chain0 hb1 hb2
  go_wp2
  go_ret2
  exact ⟨.slice none 0 0, by rw [HA.out]; rfl, by rw [HA.out]; exact OwI.nil _ _, hB2⟩
 have Hk := hide hk
 have HE : Hid (errS ls = 0 → callT [110, 111, 114, 109, 97, 108, 105, 122, 101, 45, 115, 112, 97, 99, 101] fNorm ls = fNorm (txs ls)) := by show _ → _; intro h; rw [Hall.out, hq, hk, if_pos rfl, if_pos rfl, if_pos h]
 have HE2 : Hid (errS ls ≠ 0 → callT [110, 111, 114, 109, 97, 108, 105, 122, 101, 45, 115, 112, 97, 99, 101] fNorm ls = ([], errS ls)) := by show _ → _; intro h; rw [Hall.out, hq, hk, if_pos rfl, if_pos rfl, if_neg h]
 rw [hk] at Hkn
 have hn0 : 0 < n := by
  rcases Nat.eq_zero_or_pos n with h | h
  ·subst h; rw [show knV [110, 111, 114, 109, 97, 108, 105, 122, 101, 45, 115, 112, 97, 99, 101] 0 = false by decide +kernel] at hk; cases hk
  ·exact h
 clear hq hk Hall
 obtain ⟨y0, hy0⟩ : ∃ y, ls[0]? = some y := ⟨_, List.getElem?_eq_getElem (by have := Hn.out; omega)⟩
 obtain ⟨b0, off0, rfl, hcz⟩ := Hr.out.cellAt 0 y0.v (by simp [hy0])
 clear hcz
 have Hy0 := hide hy0
 have hix0 := ix_rowA b0 off0 n c hn0
 clear hy0
 go_enter Tryz.func7, Tryz.ntmps7
 go_wp2_with fail
 refine Hrt.out.mono ?_
 rintro e w1 ⟨rfl, hb1⟩
 go_wp2_with fail
 refine (Hkn.out w1 hb1).mono ?_
 rintro e w2 ⟨rfl, hb2⟩
 have hB2 := chain0 hb1 hb2
 clear hb1 hb2 Hkn Hrt
 obtain ⟨b1, off1, e1, hcz⟩ := (Hr.out.keep hB2).cellAt 0 y0.v (by simp [Hy0.out])
 injection e1 with e1
 injection e1 with e1 e2
 subst e1 e2
 rw [Nat.add_zero] at hcz
 obtain ⟨ya, yl, yc⟩ := y0
 have hc0 : w2.cell? ⟨b0, off0, none⟩ = some (.slice ya yl.length yc) := hcz
 clear hcz
 go_wp2_with fail
 refine (ofItems_no_normalize_space b0 off0 n c _ _ hn0 hc0 ⟨_, _, _, rfl⟩).mono ?_
 rintro e wx ⟨rfl, rfl⟩
 go_wp2_with fail
 refine (ofNumbers_no_normalize_space _ _).mono ?_
 rintro e wx ⟨rfl, rfl⟩
 clear hc0 hix0
 go_wp2_with fail
 go_loopw [12, 51] (fun lv iv W => ∃ k : Nat, k ≤ n ∧ iv = .int .i64 k ∧ Hid (∀ x ∈ ls.take k, (strV x.l).2 = 0) ∧ Hid (W.ownsRow w.heap.size 9 1 lv k ((txs (ls.take k)).map Value.string)) ∧ Below w.heap.size w W) (fun _ iv _ => n - (intOf iv).toNat)
 case atStart => exact ⟨0, Nat.zero_le _, rfl, hide (by simp), hide (ow_nil _ _ _ _), hB2⟩
 case round =>
  clear hB2
  obtain ⟨k, hk, rfl, Hz, Ho, hB⟩ := hrel
  by_cases hlt : k < n
  ·have hI : (k : Int) < (n : Int) := by omega
   obtain ⟨x, hx⟩ : ∃ x, ls[k]? = some x := ⟨_, List.getElem?_eq_getElem (by have := Hn.out; omega)⟩
   obtain ⟨b1, off1, e1, hcz⟩ := (Hr.out.keep hB).cellAt k x.v (by simp [hx])
   injection e1 with e1
   injection e1 with e1 e2
   subst e1 e2
   have hix := ix_row b0 off0 n c k hlt
   have Hx := hide hx
   have Hokx := hide (Hok.out x (List.mem_of_getElem? hx))
   have HRx := hide (HR.out x (List.mem_of_getElem? hx))
   clear hx
   obtain ⟨xa, xl, xc⟩ := x
   obtain ⟨q, hq⟩ : ∃ q, q = xl.length := ⟨_, rfl⟩
   have hcx : wr.cell? ⟨b0, off0 + k, none⟩ = some (.slice xa q xc) := by rw [hq]; exact hcz
   clear hcz
   have Hq := hide hq
   clear hq
   go_wp2_with fail
   refine (string_any xa q xc xl _ (He.out.keep hB) ⟨Hokx.out.1.keep hB, Hokx.out.2⟩ HRx.out Hq.out).mono ?_
   rintro e w4 ⟨rfl, hb4⟩
   have hB4 := chain0 hB hb4
   have Ho4 := hide (ow_keep Ho.out hb4)
   clear hb4 hB hcx hix Ho
   by_cases hz0 : (strV xl).2 = 0
   ·have Hz2 : Hid (∀ x ∈ ls.take (k + 1), (strV x.l).2 = 0) := by
     show ∀ x ∈ _, _
     intro x hx
     rw [List.take_add_one, Hx.out] at hx
     rcases List.mem_append.1 hx with hx | hx
     ·exact Hz.out x hx
     ·simp at hx; subst hx; exact hz0
    have Htk : Hid (txs (ls.take (k + 1)) = txs (ls.take k) ++ [(strV xl).1]) := by show _ = _; rw [List.take_add_one, Hx.out]; simp [txs]
    rw [hz0]
    generalize (strV xl).1 = sx at *
    have hrd := Rd.new w4 9 [.string sx]
    have hk6 := (Below.refl w4.heap.size w4).alloc (Nat.le_refl _) (.cells #[.string sx] 9)
    have own6 := ow_keep Ho4.out hk6
    have be6 := chain0 hB4 hk6
    have Hrd := hide hrd
    have Own6 := hide own6
    clear hrd hk6 own6 hz0 Hz Ho4 hB4
    go_wp2_with (at_builtin; refine wpList_appR rfl _ _ 50 rfl i0 _ 16 1 Tryz.underlying50 Hi.out.1 Hi.out.2.1 Hi.out.2.2.1 Hi.out.2.2.2 rfl (by decide) rfl rfl ?e1 Own6.out Hrd.out (m := 1) rfl ?e2 ?e3 ?e4 ?_)
    case e1 => intro u hu; simp at hu; subst hu; rfl
    case e2 => have := Hnm.out; omega
    case e3 => have := Hnm.out; omega
    case e4 => exact be6.size
    intro v' W7 hown7 hg7 _
    have Hown7 : Hid (W7.ownsRow w.heap.size 9 1 v' (k + 1) ((txs (ls.take (k + 1))).map Value.string)) := by
     show World.ownsRow _ _ _ _ _ _ _
     rw [Htk.out, List.map_append]; exact hown7
    have hB7 := be6.grown hg7 be6.size (fun k hk => (ow_lt Own6.out k hk).1)
    clear hown7 hg7 Own6 be6 Hrd
    go_wp2
    go_roundw
    case rel => exact ⟨k + 1, by omega, by simp, Hz2, Hown7, hB7⟩
    case measure => simp [intOf]; omega
   ·have hz1 : ((strV xl).2 != 0) = true := by simpa using hz0
    have HEr : Hid (errS ls = (strV xl).2) := errS_at ls k _ Hz.out Hx.out hz0
    have HA : Hid (callT [110, 111, 114, 109, 97, 108, 105, 122, 101, 45, 115, 112, 97, 99, 101] fNorm ls = ([], (strV xl).2)) := by show _ = _; rw [HE2.out (by rw [HEr.out]; exact hz0), HEr.out]
    generalize (strV xl).2 = er at *
    generalize (strV xl).1 = sx at *
    clear hz0 HEr Hz Ho4
    go_wp2
    go_ret2
    exact ⟨.slice none 0 0, by rw [HA.out]; rfl, by rw [HA.out]; exact OwI.nil _ _, hB4⟩
  ·have hI : ¬ (k : Int) < (n : Int) := by omega
   have hkn : k = n := by omega
   have htk : ls.take n = ls := List.take_of_length_le (by have := Hn.out; omega)
   have Hz2 := Hz.out
   have Ho2 := Ho.out
   rw [hkn, htk] at Hz2 Ho2
   have HA := hide (HE.out (errS_no ls Hz2))
   have Hown := hide Ho2
   subst hkn
   have Htl : Hid ((txs ls).length = k) := by show _ = _; rw [Hn.out]; simp [txs]
   have Hts : Hid (∀ t ∈ txs ls, t.size ≤ 100000) := by
    show ∀ t ∈ txs ls, _
    intro t ht
    obtain ⟨x, hx, rfl⟩ := List.mem_map.1 ht
    exact strV_small x.l (HR.out x hx) (Hsz.out x hx)
   clear Hz Ho Hz2 Ho2 htk HE HE2
   obtain ⟨g, cap, rfl, hg, hglt, hcap⟩ := ow_form Hown.out (by omega)
   generalize txs ls = tl at *
   have hk1 : k = 1 := by
    have h := Hk.out
    unfold knV at h
    simp [wK0, wK1] at h
    omega
   subst hk1
   obtain ⟨t0, rfl⟩ := List.length_eq_one_iff.1 Htl.out
   have hs0 := Hts.out t0 (by simp)
   have d0 : wr.cell? ⟨g, 0, none⟩ = some (.string t0) := ow_cell Hown.out 0 _ rfl
   have hx0 := ix_str g 0 1 cap 0 (by decide)
   clear Hts Hk Htl hg hcap
   have Hs0 := hide hs0
   clear hs0
   go_wp2_with fail
   refine (fields_any t0 _ (by have := Hs0.out; omega)).mono ?_
   rintro e w8 ⟨A, rfl, hA, hown8, hb8⟩
   have hB8 := chain0 hB hb8
   have Hn8 := hide (fields_len t0)
   have Hp8 := hide (fields_small t0)
   have Ho8 := hide hown8
   have hlt8 : A < w8.heap.size ∨ Lib.goFieldsP isBl t0 = [] := by
    rcases hown8.2 with ⟨h1, _⟩ | ⟨g', cap', cur', h1, _, h2, _⟩
    ·cases h1
    ·injection h1 with h1
     injection h1 with h1
     injection h1 with h1
     subst h1
     exact .inl (lt_of_heap h2)
   have Hlt8 : Hid (A < w8.heap.size) := by
    show A < w8.heap.size
    rcases hown8.2 with ⟨h1, _⟩ | ⟨g', cap', cur', h1, _, h2, _⟩
    ·cases h1
    ·injection h1 with h1
     injection h1 with h1
     injection h1 with h1
     subst h1
     exact lt_of_heap h2
   clear hb8 hB hown8 hlt8 hA
   have hB := hB8
   clear hB8
   have hfe : Hid (fNorm [t0] = joinR ⟨#[32]⟩ (Lib.goFieldsP isBl t0)) := by show _ = _; rfl
   generalize Lib.goFieldsP isBl t0 = fl at *
   obtain ⟨q, hq⟩ : ∃ q, q = fl.length := ⟨_, rfl⟩
   rw [← hq] at Ho8 ⊢
   have Hq := hide hq
   clear hq
   go_wp2_with fail
   refine (joined_any ⟨#[32]⟩ (some ⟨A, 0, none⟩) q q fl _ (ow_rd Ho8.out) Hq.out (Nat.le_refl _) (by have := Hn8.out; have := Hq.out; have := Hs0.out; omega) ?z1 (by decide) (.inr ⟨_, _, rfl, Hlt8.out⟩)).mono ?_
   case z1 => intro x hx; have := Hp8.out x hx; have := Hs0.out; omega
   rintro e w9 ⟨v9, rfl, ho9, hb9⟩
   have Ho9 := hide (ho9.mono (by first | exact hB.size | exact Nat.le_trans hB.size (by simp)))
   have hB9 : Below w.heap.size w w9 := by first | exact chain1 hB hb9 | exact chain0 hB hb9
   have Hsl := ow_forms Ho9.out
   clear hb9 ho9
   have HA2 : Hid (callT [110, 111, 114, 109, 97, 108, 105, 122, 101, 45, 115, 112, 97, 99, 101] fNorm ls = joinR ⟨#[32]⟩ fl) := by show _ = _; rw [HA.out]; exact hfe.out
   clear HA
   have HA := HA2
   clear HA2
   generalize joinR ⟨#[32]⟩ fl = jr at *
   obtain ⟨r1, r2⟩ := jr
   go_wp2
   go_ret2
   exact ⟨v9, by rw [HA.out]; rfl, by rw [HA.out]; exact Ho9.out, hB9⟩
end Go.Proofs.YtaieiogmolaebaaGreatDoor
