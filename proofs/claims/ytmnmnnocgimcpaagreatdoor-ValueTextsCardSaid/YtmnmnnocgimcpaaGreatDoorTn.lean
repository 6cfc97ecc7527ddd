/- value.number and value.order at any items. -/
import Derived.Test.YtmnmnnocgimcpaaGreatDoorTr
import Derived.Test.YtmnmnnocgimcpaaGreatDoorVi
import Derived.Test.YtmnmnnocgimcpaaGreatDoorVc
import Derived.Lib.AppendIntMem
namespace Go.Proofs.YtmnmnnocgimcpaaGreatDoor
open Go.RowKit
/-- what start-up laid -/
structure Env (w : World) : Prop where
  t8 : Tabs8 w
  pow : Lib.TabIs Tryz.prog w "internal/strconv.uint64pow10" .u64 Lib.pow10Tab
  syn : ∃ ev, w.cell? ⟨5, 0, none⟩ = some ev ∧ (ev = .nilIface ∨ ∃ te pe, ev = .iface te pe)
  rng : ∃ ev, w.cell? ⟨6, 0, none⟩ = some ev ∧ (ev = .nilIface ∨ ∃ te pe, ev = .iface te pe)
theorem tab_keep {w w' : World} {name : String} {k : IntKind} {zs : List Int} (h : Lib.TabIs Tryz.prog w name k zs) (hb : Below w.heap.size w w') : Lib.TabIs Tryz.prog w' name k zs := by
  unfold Lib.TabIs World.var? at *
  cases hg : Tryz.prog.globalNamed name with
  | none => rw [hg] at h; simp at h
  | some g =>
    rw [hg] at h
    simp only [Option.bind_some] at h ⊢
    cases ho : w.heap[g]? with
    | none => rw [ho] at h; simp at h
    | some o =>
      have := heap_keep ho hb
      rw [ho] at h
      rw [this]
      exact h
theorem Env.keep {w w' : World} (h : Env w) (hb : Below w.heap.size w w') : Env w' :=
  ⟨h.t8.keep hb, tab_keep h.pow hb, let ⟨ev, h1, h2⟩ := h.syn; ⟨ev, cell_keep hb h1, h2⟩, let ⟨ev, h1, h2⟩ := h.rng; ⟨ev, cell_keep hb h1, h2⟩⟩
theorem parse_R {l : List UInt8} {v : Int} (h : Lib.parseIntB 64 l = .ok v) : R64 v := by
  unfold Lib.parseIntB at h
  unfold R64
  split at h
  · cases h
  · dsimp only at h
    split at h
    · cases h
    · cases h
    · split at h
      · cases h
      · split at h
        · cases h
        · injection h with h
          rename_i h1 h2
          subst h
          split
          · rename_i h3
            have : ¬ (2 ^ (64 - 1) < _) := fun h4 => h2 ⟨h3, h4⟩
            omega
          · rename_i h3
            have : ¬ (2 ^ (64 - 1) ≤ _) := fun h4 => h1 ⟨h3, h4⟩
            omega
/-- is a text a number? -/
def whB (s : ByteArray) : Bool := match Lib.parseIntB 64 s.data.toList with
  | .ok v => decide ((⟨(Lib.itoa v).toArray⟩ : ByteArray).toList = s.toList)
  | _ => false
/-- which one -/
def whN (s : ByteArray) : Int := match Lib.parseIntB 64 s.data.toList with
  | .ok v => if (⟨(Lib.itoa v).toArray⟩ : ByteArray).toList = s.toList then v else 0
  | _ => 0
set_option maxRecDepth 100000 in
set_option maxHeartbeats 1000000 in
theorem whole_any (s : ByteArray) (w : World) (he : Env w) (hs : s.size ≤ 140737488355328) :
    Calls Tryz.prog 172 #[.string s] w fun e w' => e = .returned (.tuple #[.int .i64 (whN s), .bool (whB s)]) ∧ Below w.heap.size w w' := by
  have He := hide he
  clear he
  cases hp : Lib.parseIntB 64 s.data.toList with
  | ok v =>
    have HR := hide (parse_R hp)
    by_cases hq : (⟨(Lib.itoa v).toArray⟩ : ByteArray).toList = s.toList
    · have HN : Hid (whN s = v) := by show whN s = v; unfold whN; rw [hp]; exact if_pos hq
      have HB : Hid (whB s = true) := by show whB s = true; unfold whB; rw [hp]; exact decide_eq_true hq
      have Hp := hide hp
      clear hp
      go_enter Tryz.func172, Tryz.ntmps172
      go_wp2_with fail
      refine (Tryz.strconv_ParseInt_10_at64_ok s (by omega) v Hp.out _).mono ?_
      rintro e w1 ⟨rfl, hw1⟩
      have hb1 : Below w.heap.size w w1 := by
        rcases hw1 with rfl | ⟨t, rfl⟩
        · exact Below.refl _ _
        · exact Go.Joins.below_bytesWorld _ _ _ _ (Nat.le_refl _)
      clear hw1
      go_wp2_with fail
      refine (Tryz.strconv_FormatInt_10 v HR.out.1 HR.out.2 _ (tab_keep He.out.pow hb1)).mono ?_
      rintro e w2 ⟨rfl, k2, os2, hw2⟩
      have hb2 : Below w.heap.size w w2 := by rw [hw2]; exact chain0 hb1 (Lib.below_grow _ _ (Nat.le_refl _) _ _)
      clear hw2
      generalize (⟨(Lib.itoa v).toArray⟩ : ByteArray) = tx at *
      go_wp2
      go_ret2
      exact ⟨by rw [HN.out, HB.out]; rfl, hb2⟩
    · have hqb : ((⟨(Lib.itoa v).toArray⟩ : ByteArray).toList == s.toList) = false := by simpa using hq
      have HN : Hid (whN s = 0) := by show whN s = 0; unfold whN; rw [hp]; exact if_neg hq
      have HB : Hid (whB s = false) := by show whB s = false; unfold whB; rw [hp]; exact decide_eq_false hq
      clear hq
      have Hp := hide hp
      clear hp
      go_enter Tryz.func172, Tryz.ntmps172
      go_wp2_with fail
      refine (Tryz.strconv_ParseInt_10_at64_ok s (by omega) v Hp.out _).mono ?_
      rintro e w1 ⟨rfl, hw1⟩
      have hb1 : Below w.heap.size w w1 := by
        rcases hw1 with rfl | ⟨t, rfl⟩
        · exact Below.refl _ _
        · exact Go.Joins.below_bytesWorld _ _ _ _ (Nat.le_refl _)
      clear hw1
      go_wp2_with fail
      refine (Tryz.strconv_FormatInt_10 v HR.out.1 HR.out.2 _ (tab_keep He.out.pow hb1)).mono ?_
      rintro e w2 ⟨rfl, k2, os2, hw2⟩
      have hb2 : Below w.heap.size w w2 := by rw [hw2]; exact chain0 hb1 (Lib.below_grow _ _ (Nat.le_refl _) _ _)
      clear hw2
      generalize (⟨(Lib.itoa v).toArray⟩ : ByteArray) = tx at *
      go_wp2
      go_ret2
      exact ⟨by rw [HN.out, HB.out]; rfl, hb2⟩
  | range =>
    have HN : Hid (whN s = 0) := by show whN s = 0; unfold whN; rw [hp]
    have HB : Hid (whB s = false) := by show whB s = false; unfold whB; rw [hp]
    have Hp := hide hp
    clear hp
    obtain ⟨ev, hv, hev⟩ := He.out.rng
    go_enter Tryz.func172, Tryz.ntmps172
    go_wp2_with fail
    refine (Tryz.strconv_ParseInt_10_at64_range s (by omega) Hp.out ev _ hv hev).mono ?_
    rintro e w1 ⟨N, rfl, _, _, hb1⟩
    go_wp2
    go_ret2
    exact ⟨by rw [HN.out, HB.out]; rfl, hb1⟩
  | _ =>
    have HN : Hid (whN s = 0) := by show whN s = 0; unfold whN; rw [hp]
    have HB : Hid (whB s = false) := by show whB s = false; unfold whB; rw [hp]
    have Hp := hide hp
    clear hp
    obtain ⟨ev, hv, hev⟩ := He.out.syn
    go_enter Tryz.func172, Tryz.ntmps172
    go_wp2_with fail
    refine (Tryz.strconv_ParseInt_10_at64_syntax s (by omega) Hp.out ev _ hv hev).mono ?_
    rintro e w1 ⟨N, rfl, _, _, hb1⟩
    go_wp2
    go_ret2
    exact ⟨by rw [HN.out, HB.out]; rfl, hb1⟩
/-- an item's number, and whether it is none -/
def nV (x : It) : Int := if x.kind = 2 then x.num else whN x.text
def nE (x : It) : Int := if x.kind = 2 then 0 else if whB x.text = true then 0 else 250
theorem whN_no {s : ByteArray} (h : whB s = false) : whN s = 0 := by
  unfold whB at h
  unfold whN
  split
  · rename_i v hv
    rw [hv] at h
    exact if_neg (by simpa using h)
  · rfl
set_option maxRecDepth 100000 in
set_option maxHeartbeats 1000000 in
theorem number_any (k : Nat) (n d : Int) (s : ByteArray) (w : World) (he : Env w) (hs : s.size ≤ 140737488355328) :
    Calls Tryz.prog 121 #[.agg #[.int .u8 k, .int .i64 n, .string s, .int .i64 d]] w fun e w' => e = .returned (.tuple #[.int .i64 (nV ⟨k, n, s, d⟩), .int .i64 (nE ⟨k, n, s, d⟩)]) ∧ Below w.heap.size w w' := by
  by_cases hk : k = 2
  · subst hk
    exact number_int n d s w
  · have hk1 : ((k : Int) == 2) = false := by simpa using (show (k : Int) ≠ 2 by omega)
    have HN : Hid (nV ⟨k, n, s, d⟩ = whN s) := by show _ = _; unfold nV; exact if_neg hk
    have HE : Hid (nE ⟨k, n, s, d⟩ = if whB s = true then 0 else 250) := by show _ = _; unfold nE; exact if_neg hk
    have hz := (Below.refl w.heap.size w).alloc (Nat.le_refl _) (.cells #[.int .u8 k, .int .i64 n, .string s, .int .i64 d] 37)
    have He := hide (he.keep hz)
    clear he hk
    go_enter Tryz.func121, Tryz.ntmps121
    go_wp2_with fail
    refine (whole_any s _ He.out hs).mono ?_
    rintro e w1 ⟨rfl, hb1⟩
    have hB1 := chain0 hz hb1
    clear hb1 hz
    rcases Bool.eq_false_or_eq_true (whB s) with hb | hb
    · rw [hb] at HE ⊢
      go_wp2
      go_ret2
      exact ⟨by rw [HN.out, HE.out]; rfl, hB1⟩
    · have hN := hide (whN_no hb)
      rw [hb] at HE ⊢
      go_wp2
      go_ret2
      exact ⟨by rw [HN.out, HE.out, hN.out]; rfl, hB1⟩
/-- how two texts stand -/
def cmpT (x y : ByteArray) : Int := if Op.bytesLess x.toList y.toList = true then -1 else if (x.toList == y.toList) = true then 0 else 1
set_option maxRecDepth 100000 in
set_option maxHeartbeats 1000000 in
theorem cmpS_any (x y : ByteArray) (w : World) : Calls Tryz.prog 120 #[.string x, .string y] w fun e w' => e = .returned (.int .i64 (cmpT x y)) ∧ w = w' := by
  by_cases h1 : Op.bytesLess x.toList y.toList = true
  · have H : Hid (cmpT x y = -1) := by show _ = _; unfold cmpT; exact if_pos h1
    go_enter Tryz.func120, Tryz.ntmps120
    go_wp2_with (go_at_call 171; refine (nanS_any _ _).mono ?_; rintro e w' ⟨rfl, rfl⟩)
    go_ret
    exact ⟨by rw [H.out]; rfl, rfl⟩
  · have h1f : Op.bytesLess x.toList y.toList = false := by simpa using h1
    by_cases h2 : (x.toList == y.toList) = true
    · have H : Hid (cmpT x y = 0) := by show _ = _; unfold cmpT; rw [if_neg h1, if_pos h2]
      clear h1
      go_enter Tryz.func120, Tryz.ntmps120
      go_wp2_with (go_at_call 171; refine (nanS_any _ _).mono ?_; rintro e w' ⟨rfl, rfl⟩)
      go_ret
      exact ⟨by rw [H.out]; rfl, rfl⟩
    · have H : Hid (cmpT x y = 1) := by show _ = _; unfold cmpT; rw [if_neg h1, if_neg h2]
      have h2f : (x.toList == y.toList) = false := by simpa using h2
      clear h1 h2
      go_enter Tryz.func120, Tryz.ntmps120
      go_wp2_with (go_at_call 171; refine (nanS_any _ _).mono ?_; rintro e w' ⟨rfl, rfl⟩)
      go_ret
      exact ⟨by rw [H.out]; rfl, rfl⟩
end Go.Proofs.YtmnmnnocgimcpaaGreatDoor
