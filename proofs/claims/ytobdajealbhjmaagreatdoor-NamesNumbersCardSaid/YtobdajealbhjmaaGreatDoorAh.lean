/- Summaries: rows of bytes. -/
import Derived.Test.YtobdajealbhjmaaGreatDoorAd
import Derived.Test.YtobdajealbhjmaaGreatDoorS1
import Derived.Test.YtobdajealbhjmaaGreatDoorS2
import Derived.Test.YtobdajealbhjmaaGreatDoorS3
import Derived.Test.YtobdajealbhjmaaGreatDoorS4
import Derived.Maps.RangeRun
import Derived.Test.YtobdajealbhjmaaGreatDoorS5
import Derived.Test.YtobdajealbhjmaaGreatDoorS6
namespace Go.Ai
open Go.Proofs Go.Proofs.YtobdajealbhjmaaGreatDoor
section
variable {env : Nat → Value} {ng ro : Nat}
def SumOK (P : Program) (env : Nat → Value) (ro ng : Nat) (f : FuncId) (g : List AV → Heap → Option (AV × Heap)) : Prop :=
  ∀ (args : List AV) (us : List Value) (H : Heap) (w : World) (ρ : Ren) (v : AV) (H' : Heap), Rel env ρ H w → GOK ng ρ → VRs ρ env args us → g args H = some (v, H') →
    Calls P f ⟨us⟩ w fun e w' => ∃ u ρ', e = .returned u ∧ VR ρ' env v u ∧ Step env ro ρ H w ρ' H' w'

/-- a block of which nothing lies ahead -/
theorem obj_zero {ρ : Ren} {x : Nat × Nat} {k : Nat} {cs : List AV} {ob : Obj} (hk : k ≠ 1) (h : ObjR ρ env x (.cells k cs) ob) :
    x.2 = 0 ∧ ∃ l rest t fz, ob = .cells ⟨l ++ rest⟩ t fz ∧ VRs ρ env cs l ∧ rest.length = x.1 * k ∧ loose k (l.length + rest.length) fz := by
  obtain ⟨pre, l, rest, t, fz, rfl, h1, h2, hp, h3⟩ := h
  have h0 := hp.one hk
  have : pre = [] := List.length_eq_zero_iff.1 (by rw [hp.len, h0])
  subst this
  exact ⟨h0, l, rest, t, fz, rfl, h1, h2, by simpa using h3⟩
theorem obj_zeroB {ρ : Ren} {x : Nat × Nat} {len y : Nat} {ob : Obj} (h : ObjR ρ env x (.bytes len y) ob) :
    x.2 = 0 ∧ ∃ l rest t fz, ob = .cells ⟨l ++ rest⟩ t fz ∧ VRs ρ env ((bytesOf len y).map fun b => AV.i .u8 (Int.ofNat b)) l ∧ rest.length = x.1 * 1 ∧ loose 1 (l.length + rest.length) fz := by
  obtain ⟨pre, l, rest, t, fz, rfl, h1, h2, hp, h3⟩ := h
  have h0 := hp.one (by decide)
  have : pre = [] := List.length_eq_zero_iff.1 (by rw [hp.len, h0])
  subst this
  exact ⟨h0, l, rest, t, fz, rfl, h1, h2, by simpa using h3⟩

/-! bytes.trimRightByte -/
noncomputable def trimB (x off c len : Nat) : Nat := Nat.rec 0 (fun n ih => bif Nat.beq (byteAt x (Nat.add off n)) c then ih else Nat.succ n) len
theorem trimB_eq (x off c : Nat) : ∀ len, trimB x off c len = trimN (fun i => byteAt x (off + i)) c len
  | 0 => rfl
  | n + 1 => by
    show (bif Nat.beq (byteAt x (off + n)) c then trimB x off c n else n + 1) = _
    rw [trimN, trimB_eq x off c n]
    cases hb : Nat.beq (byteAt x (off + n)) c with
    | true => rw [if_pos (beq_true hb)]; rfl
    | false => rw [if_neg (beq_false hb)]; rfl
noncomputable def sTrim (args : List AV) (H : Heap) : Option (AV × Heap) :=
  match args with
  | [.sl b off len cap op, .i .u8 (.ofNat c)] => match H.t.get b with
    | some (.bytes L x) => bif Nat.ble (Nat.add off len) L && (Nat.ble len cap && Nat.ble len 281474976710656) then some (.sl b off (trimB x off c len) cap op, H) else none
    | _ => none
  | _ => none
theorem bytes_cells {ρ : Ren} {H : Heap} {w : World} (r : Rel env ρ H w) {b L x c off len : Nat} {y : Nat × Nat} (hb : H.t.get b = some (.bytes L x)) (hc : ρ b = some (c, y)) (hl : off + len ≤ L) (i : Nat) (hi : i < len) :
    w.cell? ⟨c, off + y.2 + i, none⟩ = some (.int .u8 (byteAt x (off + i) : Int)) := by
  have hcell : (AO.bytes L x).cell (off + i) = some (.i .u8 (.ofNat (byteAt x (off + i)))) := by
    have : Nat.blt (off + i) L = true := blt_iff.2 (by omega)
    simp only [AO.cell]
    rw [this]
    rfl
  obtain ⟨u, h1, h2⟩ := cell_of_get r hb hc hcell
  simp only [VR] at h2
  subst h2
  rw [Nat.add_right_comm]
  exact h1
theorem sTrim_ok : SumOK Tryz.prog env ro ng 176 sTrim := by
  intro args us H w ρ v H' r hg ha h
  unfold sTrim at h
  split at h
  · rename_i b off len cap op c
    split at h
    · rename_i L x hb
      cases hq : (Nat.ble (Nat.add off len) L && (Nat.ble len cap && Nat.ble len 281474976710656)) with
      | false => rw [hq] at h; cases h
      | true =>
        rw [hq] at h; cases h
        simp only [Bool.and_eq_true] at hq
        obtain ⟨h1, h2, h3⟩ := hq
        have h1 := ble_true h1
        have h2 := ble_true h2
        have h3 := ble_true h3
        simp only [VRs, VR] at ha
        obtain ⟨u1, us1, rfl, ⟨g, y, hc, rfl⟩, u2, us2, rfl, rfl, rfl⟩ := ha
        refine (trimRight_any g (off + y.2) len (cap + if op then y.1 else 0) c (fun i => byteAt x (off + i)) w (by omega) h3 (fun i hi => bytes_cells r hb hc h1 i hi)).mono fun e w' hq => ?_
        obtain ⟨rfl, rfl⟩ := hq
        refine ⟨_, ρ, rfl, ?_, Step.refl r⟩
        simp only [VR]
        exact ⟨g, y, hc, by rw [trimB_eq]⟩
    · cases h
  · cases h
end
end Go.Ai
/- Summaries: sums, bytes.Compare. -/
namespace Go.Ai
open Go.Proofs Go.Proofs.YtobdajealbhjmaaGreatDoor
section
variable {env : Nat → Value} {ng ro : Nat}
/-- a slice of bytes: number, place, length -/
noncomputable def partA (H : Heap) (v : AV) : Option (Nat × Nat × Nat) :=
  match v with
  | .sl b off len cap _ => match H.t.get b with
    | some (.bytes L x) => bif Nat.ble (Nat.add off len) L && (Nat.ble len cap && Nat.ble len 281474976710656) then some (x, off, len) else none
    | _ => none
  | .sn => some (0, 0, 0)
  | .se => some (0, 0, 0)
  | _ => none
theorem partA_ok {ρ : Ren} {H : Heap} {w : World} (r : Rel env ρ H w) {v : AV} {x off len : Nat} (h : partA H v = some (x, off, len)) {u : Value} (hu : VR ρ env v u) :
    ∃ a c, u = .slice a len c ∧ len ≤ c ∧ len ≤ 281474976710656 ∧ ∀ i, i < len → ∃ g o, a = some ⟨g, o, none⟩ ∧ w.cell? ⟨g, o + i, none⟩ = some (.int .u8 (byteAt x (off + i) : Int)) := by
  unfold partA at h
  split at h
  · rename_i b o l cap op
    split at h
    · rename_i L y hb
      cases hq : (Nat.ble (Nat.add o l) L && (Nat.ble l cap && Nat.ble l 281474976710656)) with
      | false => rw [hq] at h; cases h
      | true =>
        rw [hq] at h; cases h
        simp only [Bool.and_eq_true] at hq
        obtain ⟨h1, h2, h3⟩ := hq
        have h1 := ble_true h1
        have h2 := ble_true h2
        have h3 := ble_true h3
        simp only [VR] at hu
        obtain ⟨g, z, hc, rfl⟩ := hu
        exact ⟨_, _, rfl, by omega, h3, fun i hi => ⟨g, off + z.2, rfl, bytes_cells r hb hc h1 i hi⟩⟩
    · cases h
  · cases h
    simp only [VR] at hu
    subst hu
    exact ⟨none, 0, rfl, by omega, by omega, fun i hi => by omega⟩
  · cases h
    simp only [VR] at hu
    obtain ⟨a, c, rfl⟩ := hu
    exact ⟨some a, c, rfl, by omega, by omega, fun i hi => by omega⟩
  · cases h

/-! CRC-32 -/
noncomputable def crcG (x e n c : Nat) : Nat :=
  (Nat.rec (fun c => c) (fun n ih c => cond (Nat.beq (crcB c (byteAt x (Nat.sub (Nat.sub e n) 1))) 0) (ih 0) (ih (crcB c (byteAt x (Nat.sub (Nat.sub e n) 1))))) n : Nat → Nat) c
theorem crcG_succ (x e n c : Nat) : crcG x e (n + 1) c = crcG x e n (crcB c (byteAt x (e - n - 1))) := by
  show cond (Nat.beq (crcB c (byteAt x (e - n - 1))) 0) (crcG x e n 0) (crcG x e n (crcB c (byteAt x (e - n - 1)))) = _
  cases hb : Nat.beq (crcB c (byteAt x (e - n - 1))) 0 with
  | true => rw [beq_true hb]; rfl
  | false => rfl
theorem crcG_eq (x off c : Nat) : ∀ n m e, off + m + n = e → crcG x e n (crcS (fun i => byteAt x (off + i)) c m) = crcS (fun i => byteAt x (off + i)) c (m + n)
  | 0, m, e, h => rfl
  | n + 1, m, e, h => by
    rw [crcG_succ, show e - n - 1 = off + m by omega]
    have := crcG_eq x off c n (m + 1) e (by omega)
    rw [show m + (n + 1) = m + 1 + n by omega]
    exact this
theorem crcG_all (x off len c : Nat) : crcG x (off + len) len c = crcS (fun i => byteAt x (off + i)) c len := by
  have := crcG_eq x off c len 0 (off + len) (by omega)
  rw [Nat.zero_add] at this
  exact this
noncomputable def sSum (args : List AV) (H : Heap) : Option (AV × Heap) :=
  match args with
  | [.sl b off len cap op] => match partA H (.sl b off len cap op) with
    | some (x, off, len) => some (.i .u32 (.ofNat (Nat.xor 4294967295 (crcG x (Nat.add off len) len 4294967295))), H)
    | none => none
  | _ => none
theorem sSum_ok : SumOK Tryz.prog env ro ng 157 sSum := by
  intro args us H w ρ v H' r hg ha h
  unfold sSum at h
  split at h
  · rename_i b off len cap op
    split at h
    · rename_i x o l hp
      cases h
      simp only [VRs] at ha
      obtain ⟨u1, us1, rfl, hu, rfl⟩ := ha
      have hu0 := hu
      obtain ⟨a, c, rfl, h1, h2, h3⟩ := partA_ok r hp hu
      simp only [VR] at hu0
      obtain ⟨g, z, _, h4⟩ := hu0
      cases h4
      refine (csum_any g (off + z.2) len _ (fun i => byteAt x (o + i)) w h1 h2 (fun i => byteAt_lt _ _) (fun i hi => ?_)).mono fun e w' hq => ?_
      · obtain ⟨g', o', h5, h6⟩ := h3 i hi
        cases h5
        exact h6
      · obtain ⟨rfl, rfl⟩ := hq
        refine ⟨_, ρ, rfl, ?_, Step.refl r⟩
        simp only [VR]
        rw [← crcG_all]
        rfl
    · cases h
  · cases h
noncomputable def crcF : List (Nat × Nat × Nat) → Nat → Nat
  | [], c => c
  | (x, off, len) :: l, c => crcF l (crcG x (Nat.add off len) len c)
noncomputable def pieces (H : Heap) : List AV → Option (List (Nat × Nat × Nat))
  | [] => some []
  | v :: l => match partA H v with
    | some p => match pieces H l with
      | some ps => some (p :: ps)
      | none => none
    | none => none
theorem pieces_ok (H : Heap) : ∀ {l : List AV} {ps : List (Nat × Nat × Nat)}, pieces H l = some ps → ps.length = l.length ∧ ∀ (i : Nat) (v : AV), l[i]? = some v → ∃ p, ps[i]? = some p ∧ partA H v = some p
  | [], ps, h => by simp only [pieces, Option.some.injEq] at h; subst h; exact ⟨rfl, fun i v hi => by simp at hi⟩
  | v :: l, ps, h => by
    simp only [pieces] at h
    split at h
    · rename_i p hp
      split at h
      · rename_i qs hqs
        cases h
        obtain ⟨h1, h2⟩ := pieces_ok H hqs
        refine ⟨by simp [h1], fun i y hi => ?_⟩
        cases i with
        | zero => simp at hi; subst hi; exact ⟨p, by simp, hp⟩
        | succ i => simp at hi; simpa using h2 i y hi
      · cases h
    · cases h
theorem crcF_snoc : ∀ (l : List (Nat × Nat × Nat)) (p : Nat × Nat × Nat) (c : Nat), crcF (l ++ [p]) c = crcG p.1 (p.2.1 + p.2.2) p.2.2 (crcF l c)
  | [], (x, o, n), c => rfl
  | (x, o, n) :: l, p, c => by simp only [List.cons_append, crcF]; exact crcF_snoc l p _
theorem crcP_eq (ps : List (Nat × Nat × Nat)) (c : Nat) : ∀ k, k ≤ ps.length → crcP (fun i => (ps.getD i (0, 0, 0)).2.2) (fun i j => byteAt (ps.getD i (0, 0, 0)).1 ((ps.getD i (0, 0, 0)).2.1 + j)) c k = crcF (ps.take k) c
  | 0, _ => by simp [crcP, crcF]
  | k + 1, h => by
    have hk : k < ps.length := by omega
    rw [crcP, crcP_eq ps c k (by omega), List.take_succ_eq_append_getElem hk, crcF_snoc]
    have : ps.getD k (0, 0, 0) = ps[k] := by simp [List.getD, hk]
    rw [this, crcG_all]
noncomputable def sLSum (args : List AV) (H : Heap) : Option (AV × Heap) :=
  match args with
  | [.sl b off n cap _] => match H.t.get b with
    | some (.cells _ cs) => bif Nat.ble (Nat.add off n) cs.length && (Nat.ble n cap && Nat.ble n 281474976710656) then
        match pieces H ((cs.drop off).take n) with
        | some ps => some (.i .u32 (.ofNat (Nat.xor 4294967295 (crcF ps 4294967295))), H)
        | none => none
      else none
    | _ => none
  | _ => none
theorem sLSum_ok : SumOK Tryz.prog env ro ng 128 sLSum := by
  intro args us H w ρ v H' r hg ha h
  unfold sLSum at h
  split at h
  · rename_i b off n cap op
    split at h
    · rename_i sz cs hb
      cases hq : (Nat.ble (Nat.add off n) cs.length && (Nat.ble n cap && Nat.ble n 281474976710656)) with
      | false => rw [hq] at h; cases h
      | true =>
        rw [hq] at h
        simp only [cond_true] at h
        split at h
        · rename_i ps hps
          cases h
          simp only [Bool.and_eq_true] at hq
          obtain ⟨h1, h2, h3⟩ := hq
          have h1 : off + n ≤ cs.length := ble_true h1
          have h2 := ble_true h2
          have h3 := ble_true h3
          obtain ⟨hl, hp⟩ := pieces_ok H hps
          simp only [VRs, VR] at ha
          obtain ⟨u1, us1, rfl, ⟨g, z, hc, rfl⟩, rfl⟩ := ha
          have hln : ps.length = n := by rw [hl]; simp; omega
          have hget : ∀ i, i < n → ∃ y q u, cs[off + i]? = some y ∧ ps[i]? = some q ∧ partA H y = some q ∧ w.cell? ⟨g, off + z.2 + i, none⟩ = some u ∧ VR ρ env y u := fun i hi => by
            have hi2 : off + i < cs.length := by omega
            obtain ⟨q, h4, h5⟩ := hp i cs[off + i] (by simp [hi, hi2])
            obtain ⟨u, h6, h7⟩ := cell_of_get r (off := off + i) hb hc (v := cs[off + i]) (by simp [AO.cell, hi2])
            exact ⟨_, q, u, by simp [hi2], h4, h5, by rw [Nat.add_right_comm]; exact h6, h7⟩
          refine (lsum_any g (off + z.2) n (cap + if op then z.1 else 0) (fun i => (ps.getD i (0, 0, 0)).2.2) (fun i j => byteAt (ps.getD i (0, 0, 0)).1 ((ps.getD i (0, 0, 0)).2.1 + j)) (fun i => (w.cell? ⟨g, off + z.2 + i, none⟩).getD undef) w (by omega) h3 (fun _ _ => byteAt_lt _ _)
            (fun i hi => ?_) (fun i hi => ?_) (fun i hi => ?_)).mono fun e w' hq => ?_
          · obtain ⟨y, q, u, _, _, _, h6, _⟩ := hget i hi
            simp [h6]
          · obtain ⟨y, q, u, _, h4, h5, h6, h7⟩ := hget i hi
            obtain ⟨x, o, l⟩ := q
            obtain ⟨a, c, h8, h9, h10, h11⟩ := partA_ok r h5 h7
            simp only [h6, List.getD, h4, Option.getD_some]
            exact ⟨a, c, h8, h11⟩
          · obtain ⟨y, q, u, _, h4, h5, h6, h7⟩ := hget i hi
            obtain ⟨x, o, l⟩ := q
            obtain ⟨a, c, h8, h9, h10, h11⟩ := partA_ok r h5 h7
            simp only [List.getD, h4, Option.getD_some]
            exact h10
          · obtain ⟨rfl, rfl⟩ := hq
            refine ⟨_, ρ, rfl, ?_, Step.refl r⟩
            simp only [VR]
            have := crcP_eq ps 4294967295 n (by omega)
            rw [List.take_of_length_le (by omega)] at this
            rw [this]
            rfl
        · cases h
    · cases h
  · cases h

/-! bytes.Compare -/
def cmpL : List Nat → List Nat → Int
  | [], [] => .ofNat 0
  | [], _ :: _ => .negSucc 0
  | _ :: _, [] => .ofNat 1
  | a :: l, b :: k => bif Nat.blt a b then .negSucc 0 else bif Nat.blt b a then .ofNat 1 else cmpL l k
noncomputable def byteL (x e n : Nat) : List Nat := Nat.rec [] (fun n ih => byteAt x (Nat.sub (Nat.sub e n) 1) :: ih) n
theorem byteL_get (x e : Nat) : ∀ (n i : Nat), i < n → n ≤ e → (byteL x e n)[i]? = some (byteAt x (e - n + i))
  | n + 1, 0, _, he => by
    show (byteAt x (e - n - 1) :: byteL x e n)[0]? = _
    rw [List.getElem?_cons_zero, show e - n - 1 = e - (n + 1) + 0 by omega]
  | n + 1, i + 1, h, he => by
    show (byteAt x (e - n - 1) :: byteL x e n)[i + 1]? = _
    rw [List.getElem?_cons_succ, byteL_get x e n i (by omega) (by omega), show e - n + i = e - (n + 1) + (i + 1) by omega]
theorem byteL_length (x e : Nat) : ∀ n, (byteL x e n).length = n
  | 0 => rfl
  | n + 1 => by show (byteL x e n).length + 1 = _; rw [byteL_length x e n]
theorem byteL_lt (x e : Nat) : ∀ n, ∀ y ∈ byteL x e n, y < 256
  | 0, y, h => by cases h
  | n + 1, y, h => by
    have h' : y ∈ byteAt x (e - n - 1) :: byteL x e n := h
    rcases List.mem_cons.1 h' with rfl | h2
    · exact byteAt_lt _ _
    · exact byteL_lt x e n y h2
theorem cmpL_eq : ∀ (l k : List Nat), (∀ y ∈ l, y < 256) → (∀ y ∈ k, y < 256) → cmpL l k = Lib.compareBytes (l.map UInt8.ofNat) (k.map UInt8.ofNat)
  | [], [], _, _ => rfl
  | [], _ :: _, _, _ => rfl
  | _ :: _, [], _, _ => rfl
  | a :: l, b :: k, ha, hb => by
    have h1 := ha a (by simp)
    have h2 := hb b (by simp)
    have lt : ∀ {p q : Nat}, p < 256 → q < 256 → ((UInt8.ofNat p < UInt8.ofNat q) ↔ p < q) := fun hp hq => by
      rw [UInt8.lt_iff_toNat_lt, UInt8.toNat_ofNat', UInt8.toNat_ofNat', Nat.mod_eq_of_lt hp, Nat.mod_eq_of_lt hq]
    simp only [cmpL, List.map_cons, Lib.compareBytes, lt h1 h2, lt h2 h1]
    cases hc : Nat.blt a b with
    | true => rw [if_pos (blt_iff.1 hc)]; rfl
    | false =>
      have hn : ¬ a < b := fun e => by rw [blt_iff.2 e] at hc; cases hc
      rw [if_neg hn]
      cases hd : Nat.blt b a with
      | true => rw [if_pos (blt_iff.1 hd)]; rfl
      | false =>
        have hn : ¬ b < a := fun e => by rw [blt_iff.2 e] at hd; cases hd
        rw [if_neg hn]
        exact cmpL_eq l k (fun y hy => ha y (by simp [hy])) (fun y hy => hb y (by simp [hy]))
noncomputable def sCmp (args : List AV) (H : Heap) : Option (AV × Heap) :=
  match args with
  | [a, b] => match partA H a with
    | some (x, o, n) => match partA H b with
      | some (y, p, m) => some (.i .i64 (cmpL (byteL x (Nat.add o n) n) (byteL y (Nat.add p m) m)), H)
      | none => none
    | none => none
  | _ => none
theorem rd_of {ρ : Ren} {H : Heap} {w : World} (r : Rel env ρ H w) {v : AV} {x off len : Nat} (h : partA H v = some (x, off, len)) {u : Value} (hu : VR ρ env v u) :
    ∃ a c, u = .slice a len c ∧ RdB w a ((byteL x (Nat.add off len) len).map UInt8.ofNat) := by
  obtain ⟨a, c, h1, _, _, h2⟩ := partA_ok r h hu
  refine ⟨a, c, h1, ?_⟩
  cases len with
  | zero => exact .inl rfl
  | succ n =>
    obtain ⟨g, o, rfl, h3⟩ := h2 0 (by omega)
    right
    refine ⟨g, o, rfl, World.block_lt_of_cell? _ _ h3, fun i hi => ?_⟩
    have hi' : i < n + 1 := by simpa [byteL_length] using hi
    obtain ⟨g', o', h4, h5⟩ := h2 i hi'
    cases h4
    rw [h5]
    have h6 := byteL_get x (off + (n + 1)) (n + 1) i hi' (by omega)
    rw [show off + (n + 1) - (n + 1) + i = off + i by omega] at h6
    have h7 : ((byteL x (Nat.add off (n + 1)) (n + 1)).map UInt8.ofNat)[i]'hi = UInt8.ofNat (byteAt x (off + i)) := by
      have : ((byteL x (Nat.add off (n + 1)) (n + 1)).map UInt8.ofNat)[i]? = some (UInt8.ofNat (byteAt x (off + i))) := by
        rw [List.getElem?_map]
        show Option.map UInt8.ofNat (byteL x (off + (n + 1)) (n + 1))[i]? = _
        rw [h6]; rfl
      exact (List.getElem?_eq_some_iff.1 this).2
    rw [h7, UInt8.toNat_ofNat', Nat.mod_eq_of_lt (byteAt_lt _ _)]
theorem sCmp_ok : SumOK Tryz.prog env ro ng 112 sCmp := by
  intro args us H w ρ v H' r hg ha h
  unfold sCmp at h
  split at h
  · rename_i a b
    split at h
    · rename_i x o n hp
      split at h
      · rename_i y p m hp2
        cases h
        simp only [VRs] at ha
        obtain ⟨u1, us1, rfl, hu, u2, us2, rfl, hu2, rfl⟩ := ha
        obtain ⟨a1, c1, rfl, q1⟩ := rd_of r hp hu
        obtain ⟨a2, c2, rfl, q2⟩ := rd_of r hp2 hu2
        refine (bytesCompare_any a1 a2 _ _ n c1 m c2 w q1 q2 (by simp [byteL_length]) (by simp [byteL_length])).mono fun e w' hq => ?_
        obtain ⟨rfl, rfl⟩ := hq
        refine ⟨_, ρ, rfl, ?_, Step.refl r⟩
        simp only [VR]
        rw [cmpL_eq _ _ (byteL_lt _ _ _) (byteL_lt _ _ _)]
      · cases h
    · cases h
  · cases h
end
end Go.Ai
/- A round of Sync's loop, run by the interpreter over a small memory. -/
namespace Go.Ai
open Go.Proofs Go.Proofs.YtobdajealbhjmaaGreatDoor
def resT : R0 → TT AV
  | .ok _ T _ => T
  | .no => .e
def resH : R0 → Heap
  | .ok _ _ H => H
  | .no => ⟨.e, 0⟩
/-- the parts of a code -/
def Code.fst : Code → Code
  | .seq a _ => a
  | .block _ c => c
  | .loop c => c
  | .scope c => c
  | c => c
def Code.snd : Code → Code
  | .seq _ b => b
  | c => c
def Code.opsOf : Code → Array Oper
  | .region _ ops _ => ops
  | _ => #[]
def findLoop : Code → Option Code
  | .seq a b => match findLoop a with
    | some c => some c
    | none => findLoop b
  | .cond _ a b => match findLoop a with
    | some c => some c
    | none => findLoop b
  | .block _ c => findLoop c
  | .scope c => findLoop c
  | .loop c => some c
  | _ => none
noncomputable def syncBody : Code := ((Tryz.f85.body).bind findLoop).getD .skip
/-- regions 8 and 9 -/
noncomputable def sync8 : Code := Code.fst (Code.fst (Code.snd (Code.snd syncBody)))
noncomputable def sync9 : Code := Code.snd (Code.fst (Code.snd (Code.snd syncBody)))
def S0 : Sums := fun _ => none
/-- block 4 is the device, 5 the map that is safe, 6 the iterator -/
noncomputable def smallH (n n0 : Nat) (t : TT Nat) : Heap := ⟨((TT.e).set (.cells 1 [.i .i64 (.ofNat n), .m 5, .q 0, .i .i64 (.ofNat 0), .b false]) 4).set (.pm 512 n0 t) 5, 7⟩
noncomputable def smallT (k y : Nat) : TT AV := ((((TT.e).set (.p 4 0) 0).set (.i .i64 (.ofNat 0)) 2).set (.p 6 0) 17).set (.tu [.i .i64 (.ofNat k), .by_ 512 y]) 20
noncomputable def go8 (n n0 : Nat) (t : TT Nat) (k y : Nat) : R0 := sgo 33 (opX Tryz.prog 4 5 (fns Tryz.prog 4 5 S0 0).ca (fns Tryz.prog 4 5 S0 0).yi) (Code.opsOf sync8) ((Code.opsOf sync8).toList.drop 1) (smallT k y) (smallH n n0 t)
noncomputable def go9 (n n0 : Nat) (t : TT Nat) (k y : Nat) : R0 := (fns Tryz.prog 4 5 S0 1).ex 33 sync9 (resT (go8 n n0 t k y)) (resH (go8 n n0 t k y))
def boxY (y : Nat) : Nat := cut (over 0 0 512 y) 0 512
set_option maxRecDepth 100000 in
theorem go8_ok (n n0 : Nat) (t : TT Nat) (k y : Nat) : go8 n n0 t k y = .ok .normal (resT (go8 n n0 t k y)) (resH (go8 n n0 t k y)) := by kernel_rfl
set_option maxRecDepth 100000 in
theorem go9_ok (n n0 : Nat) (t : TT Nat) (k y : Nat) : go9 n n0 t k y = .ok .normal (resT (go9 n n0 t k y)) (resH (go9 n n0 t k y)) := by kernel_rfl
set_option maxRecDepth 100000 in
theorem go9_pm (n n0 : Nat) (t : TT Nat) (k y : Nat) : (resH (go9 n n0 t k y)).t.get 5 = some (.pm 512 n0 (t.set (boxY y) k)) := by kernel_rfl
set_option maxRecDepth 100000 in
theorem go9_t (n n0 : Nat) (t : TT Nat) (k y : Nat) : (resT (go9 n n0 t k y)).get 0 = some (.p 4 0) ∧ (resT (go9 n n0 t k y)).get 2 = some (.i .i64 (.ofNat 0)) ∧ (resT (go9 n n0 t k y)).get 17 = some (.p 6 0) := ⟨by kernel_rfl, by kernel_rfl, by kernel_rfl⟩
theorem boxY_eq (y : Nat) : bytesOf 512 (boxY y) = bytesOf 512 y := by
  apply List.ext_getElem?
  intro i
  rw [bytesOf_get, bytesOf_get]
  by_cases h : i < 512
  · rw [if_pos h, if_pos h]
    unfold boxY
    rw [byteAt_cut, if_pos h, byteAt_over, if_neg (by omega), if_pos (by omega)]
    congr 2
    omega
  · rw [if_neg h, if_neg h]
theorem names_all : (Tryz.prog.funcs.toList.all fun fn => !(fn.name == "runtime.NumGoroutine")) = true := by kernel_rfl
theorem namesOK : NamesOK Tryz.prog := fun f fn h => by
  have := List.all_eq_true.1 names_all fn (by rw [Array.mem_toList_iff]; exact Array.mem_of_getElem? h)
  simpa using this
theorem S0_ok {env : Nat → Value} {ng ro : Nat} : SumsOK Tryz.prog env ro ng S0 := fun f g h => by cases h
def smallR (d ms r x : Nat) : Ren := fun a => if a < 4 then some (a, 0, 0) else if a = 4 then some (d, x, 0) else if a = 5 then some (ms, 0, 0) else if a = 6 then some (r, 0, 0) else none
theorem small_rel {d ms r n n0 : Nat} {t : TT Nat} {w : World} {v2 : Value} {rest : List Value} {e : TypeId} {fz : Nat × Nat} {ls : List MapEntry} {cs : Nat} (h1 : v2.oneCell' = true)
    (hd : w.heap[d]? = some (.cells ⟨[.int .i64 n, .map (some ms), v2, .int .i64 0, .bool false] ++ rest⟩ e fz)) (hl : loose 1 (5 + rest.length) fz)
    (hs : w.heap[ms]? = some (.map ⟨ls⟩ cs)) (hp : PMR 512 ls cs (pget n0 t)) : Rel (fun _ => v2) (smallR d ms r rest.length) (smallH n n0 t) w := by
  have hget : ∀ a, (smallH n n0 t).t.get a = if a = 4 then some (.cells 1 [.i .i64 (.ofNat n), .m 5, .q 0, .i .i64 (.ofNat 0), .b false]) else if a = 5 then some (.pm 512 n0 t) else none := fun a => by
    show (((TT.e).set _ 4).set _ 5).get a = _
    rw [TT.get_set, TT.get_set, TT.get_e]
    by_cases h4 : a = 4
    · subst h4; simp
    · by_cases h5 : a = 5
      · subst h5; simp
      · simp [h4, h5]
  refine ⟨fun a o c x ha hc => ?_, fun a a' o o' c x x' ha ha' hc hc' => ?_, fun a ha => ?_, fun _ => h1⟩
  · rw [hget] at ha
    by_cases h4 : a = 4
    · subst h4
      simp only [if_true, Option.some.injEq] at ha
      simp [smallR] at hc
      obtain ⟨rfl, rfl⟩ := hc
      subst ha
      refine ⟨_, hd, old_row ⟨[.int .i64 n, .map (some ms), v2, .int .i64 0, .bool false], rest, e, fz, rfl, ?_, by simp, hl⟩⟩
      simp [VRs, VR, smallR]
    · rw [if_neg h4] at ha
      by_cases h5 : a = 5
      · subst h5
        simp only [if_true, Option.some.injEq] at ha
        simp [smallR] at hc
        obtain ⟨rfl, rfl⟩ := hc
        subst ha
        exact ⟨_, hs, ls, cs, rfl, hp⟩
      · rw [if_neg h5] at ha; cases ha
  · rw [hget] at ha ha'
    have hne : d ≠ ms := fun e => by subst e; rw [hs] at hd; cases hd
    have h45 : ∀ b o, (if b = 4 then some (AO.cells 1 [.i .i64 (.ofNat n), .m 5, .q 0, .i .i64 (.ofNat 0), .b false]) else if b = 5 then some (.pm 512 n0 t) else none) = some o → b = 4 ∨ b = 5 := fun b o h => by
      by_cases h4 : b = 4
      · exact .inl h4
      · rw [if_neg h4] at h
        by_cases h5 : b = 5
        · exact .inr h5
        · rw [if_neg h5] at h; cases h
    rcases h45 a o ha with rfl | rfl <;> rcases h45 a' o' ha' with rfl | rfl
    · rfl
    · simp [smallR] at hc hc'
      exact absurd (hc.1.trans hc'.1.symm) hne
    · simp [smallR] at hc hc'
      exact absurd (hc'.1.trans hc.1.symm) hne
    · rfl
  · have ha' : 7 ≤ a := ha
    rw [hget, if_neg (by omega), if_neg (by omega)]
    simp only [smallR]
    rw [if_neg (by omega), if_neg (by omega), if_neg (by omega), if_neg (by omega)]
    exact ⟨rfl, by simp⟩
end Go.Ai
/- Sync's loop over the map: one round, in words of the world. -/
namespace Go.Ai
open Go.Proofs Go.Proofs.YtobdajealbhjmaaGreatDoor
/-- what stays between two worlds beside one map -/
structure But (ms : Nat) (w w' : World) : Prop where
  same : ∀ c, c < w.heap.size → c ≠ ms → w'.heap[c]? = w.heap[c]?
  size : w.heap.size ≤ w'.heap.size
  os : w'.os = w.os
  tape : w'.tape = w.tape
  output : w'.output = w.output
theorem But.trans {ms : Nat} {a b c : World} (h : But ms a b) (k : But ms b c) : But ms a c :=
  ⟨fun i hi hn => (k.same i (Nat.lt_of_lt_of_le hi h.size) hn).trans (h.same i hi hn), Nat.le_trans h.size k.size, k.os.trans h.os, k.tape.trans h.tape, k.output.trans h.output⟩
def RoundPost (d ms r n0 : Nat) (t : TT Nat) (w : World) : Exit → Act → World → Prop := fun e a' w' =>
  e = .normal ∧ a'.tmps.size = 33 ∧ a'.defers = [] ∧ a'.tmps[0]? = some (.pointer (some ⟨d, 0, none⟩)) ∧ a'.tmps[2]? = some (.int .i64 0) ∧ a'.tmps[17]? = some (.pointer (some ⟨r, 0, none⟩)) ∧
  But ms w w' ∧ ∃ ls cs, w'.heap[ms]? = some (.map ⟨ls⟩ cs) ∧ PMR 512 ls cs (pget n0 t)
theorem sync_round {d ms r n n0 k y : Nat} {t : TT Nat} {w : World} {v2 : Value} {rest : List Value} {e : TypeId} {fz : Nat × Nat} {ls : List MapEntry} {cs : Nat} (h1 : v2.oneCell' = true)
    (hd : w.heap[d]? = some (.cells ⟨[.int .i64 n, .map (some ms), v2, .int .i64 0, .bool false] ++ rest⟩ e fz)) (hl : loose 1 (5 + rest.length) fz)
    (hs : w.heap[ms]? = some (.map ⟨ls⟩ cs)) (hp : PMR 512 ls cs (pget n0 t)) {a : Act} (hsz : a.tmps.size = 33) (hdf : a.defers = [])
    (q0 : a.tmps[0]? = some (.pointer (some ⟨d, 0, none⟩))) (q2 : a.tmps[2]? = some (.int .i64 0)) (q17 : a.tmps[17]? = some (.pointer (some ⟨r, 0, none⟩)))
    (q20 : a.tmps[20]? = some (.tuple #[.int .i64 k, pageV 512 y])) :
    wpListIn (Fc none) 0 Tryz.prog (Code.opsOf sync8) (fun e a' w' => e = .normal ∧ sync9.wpIn (Fc none) 0 Tryz.prog (RoundPost d ms r n0 (t.set (boxY y) k) w) a' w') ((Code.opsOf sync8).toList.drop 1) a w := by
  have r0 := small_rel (r := r) h1 hd hl hs hp
  have hg0 : GOK 4 (smallR d ms r rest.length) := fun g hg => by simp [smallR, hg]
  have hF : FR (smallR d ms r rest.length) (fun _ => v2) (smallT k y) a.tmps := fun i v hv => by
    have : (smallT k y).get i = if i = 20 then some (.tu [.i .i64 (.ofNat k), .by_ 512 y]) else if i = 17 then some (.p 6 0) else if i = 2 then some (.i .i64 (.ofNat 0)) else if i = 0 then some (.p 4 0) else none := by
      show (((((TT.e).set _ 0).set _ 2).set _ 17).set _ 20).get i = _
      simp only [TT.get_set, TT.get_e]
    rw [this] at hv
    by_cases e20 : i = 20
    · subst e20; simp at hv; subst hv
      exact ⟨_, q20, by simp [VR, VRs, pageV]⟩
    · rw [if_neg e20] at hv
      by_cases e17 : i = 17
      · subst e17; simp at hv; subst hv
        exact ⟨_, q17, by simp [VR, smallR]⟩
      · rw [if_neg e17] at hv
        by_cases e2 : i = 2
        · subst e2; simp at hv; subst hv
          exact ⟨_, q2, by simp [VR]⟩
        · rw [if_neg e2] at hv
          by_cases e0 : i = 0
          · subst e0; simp at hv; subst hv
            exact ⟨_, q0, by simp [VR, smallR]⟩
          · rw [if_neg e0] at hv; cases hv
  have hmk : Marks (0, some []) (smallR d ms r rest.length) (smallH n n0 t) w a.defers := ⟨Nat.zero_le _, fun d0 h => (by cases h; exact hdf), [], by rw [hdf]; rfl, .nil, fun D hD => by cases hD⟩
  have hfns := fun m => fns_ok (P := Tryz.prog) (env := fun _ => v2) (ng := 4) (ro := 5) namesOK (by kernel_rfl) S0_ok m
  have h8 := sgo_ok (n0 := (0, some [])) (rd := none) (ops := Code.opsOf sync8) (opX_ok (env := fun _ => v2) (ro := 5) (ng := 4) namesOK (hfns 0).ca (hfns 0).yi) _ _ _ _ a w _ _ _ r0 hg0 hF hsz hmk (go8_ok n n0 t k y)
  refine wpList_post ?_ h8
  rintro e1 a1 w1 ⟨ρ1, rfl, f1, z1, m1, g1, s1⟩
  refine ⟨rfl, ?_⟩
  have h9 := ((hfns 1).ex none 33 (0, some []) sync9 _ _ ρ1 a1 w1 _ _ _ s1.rel g1 f1 z1 m1 (fun _ => by kernel_rfl) (go9_ok n n0 t k y)).1
  refine wpIn_mono h9 ?_
  rintro e2 a2 w2 ⟨ρ2, rfl, f2, z2, m2, g2, s2⟩
  have s := s1.trans s2
  have hle := s.le r0
  obtain ⟨t0, t2, t17⟩ := go9_t n n0 t k y
  obtain ⟨u0, x0, y0⟩ := f2 _ _ t0
  obtain ⟨u2, x2, y2⟩ := f2 _ _ t2
  obtain ⟨u17, x17, y17⟩ := f2 _ _ t17
  have c4 : ρ2 4 = some (d, rest.length, 0) := hle _ _ (by simp [smallR])
  have c5 : ρ2 5 = some (ms, 0, 0) := hle _ _ (by simp [smallR])
  have c6 : ρ2 6 = some (r, 0, 0) := hle _ _ (by simp [smallR])
  simp only [VR, c4, c6] at y0 y2 y17
  obtain ⟨_, _, e0, rfl⟩ := y0
  obtain ⟨_, _, e17, rfl⟩ := y17
  cases e0; cases e17; subst y2
  obtain ⟨ob, b1, ls', cs', rfl, b2⟩ := s2.rel.obj _ _ _ _ (go9_pm n n0 t k y) c5
  refine ⟨rfl, z2, m2.keep _ rfl, x0, x2, x17, ⟨fun c hc hne => s.keep c hc ?_, s.size, s.os, s.tape, s.output⟩, ls', cs', b1, b2⟩
  rintro ⟨b, o, x, hb, h2, h3⟩
  simp only [smallR] at h3
  rw [if_neg (by omega), if_neg (by omega)] at h3
  by_cases e5 : b = 5
  · subst e5; simp at h3; exact hne h3.1.symm
  · rw [if_neg e5] at h3
    by_cases e6 : b = 6
    · subst e6
      have : (smallH n n0 t).t.get 6 = none := by
        show (((TT.e).set _ 4).set _ 5).get 6 = _
        simp [TT.get_set, TT.get_e]
      rw [this] at h2; cases h2
    · rw [if_neg e6] at h3; cases h3
end Go.Ai
/- Sync: the loop. -/
namespace Go.Ai
open Go.Proofs Go.Proofs.YtobdajealbhjmaaGreatDoor
noncomputable def sync7 : Code := Code.fst syncBody
theorem sync7_ok {a : Act} {w w' : World} {b : Bool} {more : List Value} {r : Nat} {Q : Exit → Act → World → Prop} (hsz : a.tmps.size = 33) (q17 : a.tmps[17]? = some (.pointer (some ⟨r, 0, none⟩)))
    (hrun : ∀ ty, (Instr.next (.pointer (some ⟨r, 0, none⟩)) false ty).run Tryz.prog w = .ok (.tuple ⟨.bool b :: more⟩) w')
    (hQ : Q .normal ((a.put (some 18) (.tuple ⟨.bool b :: more⟩)).put (some 19) (.bool b)) w') : sync7.wpIn (Fc none) 0 Tryz.prog Q a w := by
  have e7 : sync7 = .region 7 (Code.opsOf sync7) false := by kernel_rfl
  have e17 : a.eval (.tmp 17) = .pointer (some ⟨r, 0, none⟩) := by simp [Act.eval, Array.getD_eq_getD_getElem?, q17]
  rw [e7]
  refine wpIn_region_list ?_
  have eo : Code.opsOf sync7 = #[{ dst := some 18, op := Op.next (Operand.tmp 17) false, type := 0, pos := "device.go:95", after := #[], guard := none }, { dst := some 19, op := Op.extract (Operand.tmp 18) 0, type := 4, pos := "device.go:95", after := #[{ on := 0, ground := Ground.data }], guard := none }] := by kernel_rfl
  rw [eo]
  refine wpListIn_plain rfl fun K hK => ?_
  refine wp_run (fun c h => by cases h) (n := .value (.tuple ⟨.bool b :: more⟩)) (w' := w') (by simp [execOp, e17, hrun]) ?_
  refine hK _ _ (wpListIn_plain rfl fun K hK => ?_)
  have e18 : (a.put (some 18) (.tuple ⟨.bool b :: more⟩)).eval (.tmp 18) = .tuple ⟨.bool b :: more⟩ := by simp [Act.eval, Act.put, Array.getD_eq_getD_getElem?, hsz]
  refine wp_run (fun c h => by cases h) (n := .value (.bool b)) (w' := w') (by simp [execOp, e18, Instr.extract]) ?_
  exact hK _ _ hQ
theorem sync89_ok {d ms r n n0 k y : Nat} {t : TT Nat} {w : World} {v2 : Value} {rest : List Value} {e : TypeId} {fz : Nat × Nat} {ls : List MapEntry} {cs : Nat} (h1 : v2.oneCell' = true)
    (hd : w.heap[d]? = some (.cells ⟨[.int .i64 n, .map (some ms), v2, .int .i64 0, .bool false] ++ rest⟩ e fz)) (hl : loose 1 (5 + rest.length) fz)
    (hs : w.heap[ms]? = some (.map ⟨ls⟩ cs)) (hp : PMR 512 ls cs (pget n0 t)) {a : Act} (hsz : a.tmps.size = 33) (hdf : a.defers = [])
    (q0 : a.tmps[0]? = some (.pointer (some ⟨d, 0, none⟩))) (q2 : a.tmps[2]? = some (.int .i64 0)) (q17 : a.tmps[17]? = some (.pointer (some ⟨r, 0, none⟩)))
    (hen : (Instr.entry (.pointer (some ⟨r, 0, none⟩))).run Tryz.prog w = .ok (.tuple #[.int .i64 k, pageV 512 y]) w) :
    (Code.seq sync8 sync9).wpIn (Fc none) 0 Tryz.prog (RoundPost d ms r n0 (t.set (boxY y) k) w) a w := by
  refine wpIn_seq ?_
  have e8 : sync8 = .region 8 (Code.opsOf sync8) false := by kernel_rfl
  have e17 : a.eval (.tmp 17) = .pointer (some ⟨r, 0, none⟩) := by simp [Act.eval, Array.getD_eq_getD_getElem?, q17]
  have el : (Code.opsOf sync8).toList = { dst := some 20, op := Op.entry (Operand.tmp 17), type := 0, pos := "device.go:95", after := #[], guard := none } :: (Code.opsOf sync8).toList.drop 1 := by kernel_rfl
  have hr := sync_round (r := r) (k := k) (y := y) h1 hd hl hs hp (a := a.put (some 20) (.tuple #[.int .i64 k, pageV 512 y])) (by simp [Act.put, hsz]) (by simp [Act.put, hdf]) (by simp [Act.put, q0]) (by simp [Act.put, q2]) (by simp [Act.put, q17]) (by simp [Act.put, hsz])
  suffices hh : (Code.region 8 (Code.opsOf sync8) false).wpIn (Fc none) 0 Tryz.prog (Exit.then (sync9.wpIn (Fc none) 0 Tryz.prog (RoundPost d ms r n0 (t.set (boxY y) k) w)) (RoundPost d ms r n0 (t.set (boxY y) k) w)) a w by
    rw [← e8] at hh; exact hh
  refine wpIn_region_list ?_
  rw [el]
  refine wpListIn_plain rfl fun K hK => ?_
  refine wp_run (fun c h => by cases h) (n := .value (.tuple #[.int .i64 k, pageV 512 y])) (w' := w) (by simp [execOp, e17, hen]) ?_
  refine hK _ _ (wpList_post ?_ hr)
  rintro e a w ⟨rfl, h⟩
  exact h
/-- the loop's body, whole -/
theorem syncBody_eq : syncBody = .seq sync7 (.seq (.cond (.tmp 19) .skip (.exit 0)) (.block 1 (.seq sync8 sync9))) := by kernel_rfl
def Held (d n ms mo : Nat) (w : World) : Prop := ∃ rest e fz, w.heap[d]? = some (.cells ⟨[.int .i64 n, .map (some ms), .map (some mo), .int .i64 0, .bool false] ++ rest⟩ e fz) ∧ loose 1 (5 + rest.length) fz
/-- two contents of maps that hold the same pages -/
def same1 : Option Nat → Option Nat → Prop
  | none, none => True
  | some a, some b => bytesOf 512 a = bytesOf 512 b
  | _, _ => False
/-- what has been copied is the one's, the rest the other's -/
def Mix (lo : List MapEntry) (seen : Array Nat) (f g h : Nat → Option Nat) : Prop :=
  ∀ j : Nat, ((∃ e ∈ lo, seen.contains e.born = true ∧ e.key = .int .i64 (j : Int)) ∧ same1 (h j) (f j)) ∨ ((¬ ∃ e ∈ lo, seen.contains e.born = true ∧ e.key = .int .i64 (j : Int)) ∧ h j = g j)
structure LoopInv (d n ms mo r co n0 : Nat) (lo : List MapEntry) (t : TT Nat) (f : Nat → Option Nat) (w0 : World) (a : Act) (w : World) : Prop where
  sz : a.tmps.size = 33
  df : a.defers = []
  q0 : a.tmps[0]? = some (.pointer (some ⟨d, 0, none⟩))
  q2 : a.tmps[2]? = some (.int .i64 0)
  q17 : a.tmps[17]? = some (.pointer (some ⟨r, 0, none⟩))
  but : But ms w0 w
  it : ∃ seen ls cs tr, w.heap[r]? = some (.mapIter (some mo) co seen co) ∧ w.heap[ms]? = some (.map ⟨ls⟩ cs) ∧ PMR 512 ls cs (pget n0 tr) ∧ Mix lo seen f (pget n0 t) (pget n0 tr)
def leftN (lo : List MapEntry) (r : Nat) (w : World) : Nat := match w.heap[r]? with
  | some (.mapIter _ _ seen _) => (leftOf ⟨lo⟩ seen).size
  | _ => 0
theorem born_inj : ∀ {l : List MapEntry}, (l.map (·.born)).Nodup → ∀ {a b : MapEntry}, a ∈ l → b ∈ l → a.born = b.born → a = b
  | x :: l, h, a, b, ha, hb, e => by
    rw [List.map_cons, List.nodup_cons] at h
    rcases List.mem_cons.1 ha with rfl | ha' <;> rcases List.mem_cons.1 hb with rfl | hb'
    · rfl
    · exact (h.1 (by rw [e]; exact List.mem_map_of_mem hb')).elim
    · exact (h.1 (by rw [← e]; exact List.mem_map_of_mem ha')).elim
    · exact born_inj h.2 ha' hb' e
theorem left_less {lo : List MapEntry} {seen : Array Nat} {e : MapEntry} (he : e ∈ (leftOf ⟨lo⟩ seen).toList) : (leftOf ⟨lo⟩ (seen.push e.born)).size < (leftOf ⟨lo⟩ seen).size := by
  have h : leftOf ⟨lo⟩ (seen.push e.born) = (leftOf ⟨lo⟩ seen).filter fun x => !(x.born == e.born) := by
    unfold leftOf
    rw [Array.filter_filter]
    congr 1
    funext x
    simp [Bool.not_or, Bool.and_comm]
    rfl
  rw [h, Array.size_filter_lt_size_iff_exists]
  exact ⟨e, by simpa using he, by simp⟩
theorem sync_iter {d n ms mo r co n0 : Nat} {lo : List MapEntry} {t : TT Nat} {f : Nat → Option Nat} {w0 : World} (hlo : PMR 512 lo co f) (hmo0 : w0.heap[mo]? = some (.map ⟨lo⟩ co)) (hmm : mo ≠ ms)
    (hd0 : Held d n ms mo w0) (hdm : d ≠ ms) (hms0 : ms < w0.heap.size) (hr0 : w0.heap.size ≤ r) {a : Act} {w : World} (inv : LoopInv d n ms mo r co n0 lo t f w0 a w) {Qx : Exit → Act → World → Prop}
    (hdone : ∀ a' w', LoopInv d n ms mo r co n0 lo t f w0 a' w' → leftN lo r w' = 0 → Qx (.exit 0) a' w') :
    syncBody.wpIn (Fc none) 0 Tryz.prog (Exit.then (fun a' w' => LoopInv d n ms mo r co n0 lo t f w0 a' w' ∧ leftN lo r w' < leftN lo r w) Qx) a w := by
  obtain ⟨hsz, hdf, q0, q2, q17, hbut, seen, ls, cs, tr, hit, hms, hpm, hmix⟩ := inv
  have hmo : w.heap[mo]? = some (.map ⟨lo⟩ co) := (hbut.same mo (Array.getElem?_eq_some_iff.1 hmo0).1 hmm).trans hmo0
  have hput : ∀ (x y : Value) (i : Nat) (v : Value), i < 18 → a.tmps[i]? = some v → ((a.put (some 18) x).put (some 19) y).tmps[i]? = some v := fun x y i v hi h => by
    simp only [Act.put]
    rw [Array.getElem?_setIfInBounds_ne (by omega), Array.getElem?_setIfInBounds_ne (by omega)]
    exact h
  rw [syncBody_eq]
  refine wpIn_seq ?_
  rcases run_next_at (P := Tryz.prog) w 0 r mo co co seen ⟨lo⟩ co hit hmo (fun x hx => hlo.clock x hx) (Nat.le_refl _) with ⟨h0, hrun⟩ | ⟨e, he, w1, hw1, hrun⟩
  · refine sync7_ok (b := false) (more := []) hsz q17 (fun _ => hrun) ?_
    refine wpIn_seq (wpIn_cond_false ?_ (wpIn_exit ?_))
    · simp [Act.eval, Act.put, Array.getD_eq_getD_getElem?, hsz]
    · refine hdone _ _ ⟨by simp [Act.put, hsz], by simp [Act.put, hdf], hput _ _ _ _ (by omega) q0, hput _ _ _ _ (by omega) q2, hput _ _ _ _ (by omega) q17, hbut, seen, ls, cs, tr, hit, hms, hpm, hmix⟩ ?_
      simp only [leftN, hit]; exact h0
  · have he' : e ∈ lo := by unfold leftOf at he; simp at he; exact he.1
    have hns : seen.contains e.born = false := by unfold leftOf at he; simp at he; simpa using he.2
    obtain ⟨k, x, hk, hv, hfk⟩ := hlo.has e he'
    have hrlt : r < w.heap.size := (Array.getElem?_eq_some_iff.1 hit).1
    have hw1h : w1.heap = w.heap := by rcases hw1 with rfl | rfl <;> rfl
    have hw1o : w1.os = w.os ∧ w1.tape = w.tape ∧ w1.output = w.output := by rcases hw1 with rfl | rfl <;> exact ⟨rfl, rfl, rfl⟩
    obtain ⟨w2, hw2⟩ : ∃ w2, ChangeMaps.setBlock w1 r (.mapIter (some mo) co (seen.push e.born) co) = w2 := ⟨_, rfl⟩
    rw [hw2] at hrun
    have h2 : ∀ c, c ≠ r → w2.heap[c]? = w.heap[c]? := fun c hc => by
      rw [← hw2, ← hw1h]
      exact Array.getElem?_setIfInBounds_ne (Ne.symm hc)
    have h2r : w2.heap[r]? = some (.mapIter (some mo) co (seen.push e.born) co) := by
      rw [← hw2]
      show (w1.heap.setIfInBounds r _)[r]? = _
      rw [hw1h]
      simp [hrlt]
    have hsz2 : w2.heap.size = w.heap.size := by rw [← hw2, ← hw1h]; simp [ChangeMaps.setBlock]
    have hbut2 : But ms w0 w2 := ⟨fun c hc hn => (h2 c (by omega)).trans (hbut.same c hc hn), by rw [hsz2]; exact hbut.size, by rw [← hw2]; exact hw1o.1.trans hbut.os, by rw [← hw2]; exact hw1o.2.1.trans hbut.tape, by rw [← hw2]; exact hw1o.2.2.trans hbut.output⟩
    have hnd : (lo.map (·.born)).Nodup := by
      unfold List.Nodup
      rw [List.pairwise_map]
      exact hlo.born
    have hmolt := (Array.getElem?_eq_some_iff.1 hmo0).1
    have hen := run_entry_at (P := Tryz.prog) w2 r mo co seen ⟨lo⟩ co e h2r ((h2 mo (by omega)).trans hmo) he' hnd
    rw [hk, hv] at hrun hen
    refine sync7_ok (b := true) (more := [.int .i64 (k : Int), pageV 512 x]) hsz q17 (fun _ => hrun) ?_
    refine wpIn_seq (wpIn_cond_true ?_ (wpIn_skip ?_))
    · simp [Act.eval, Act.put, Array.getD_eq_getD_getElem?, hsz]
    · refine wpIn_block ?_
      obtain ⟨rest, et, fz, hd, hl⟩ := hd0
      have hdlt := (Array.getElem?_eq_some_iff.1 hd).1
      have hdw := (h2 d (by omega)).trans ((hbut.same d hdlt hdm).trans hd)
      refine wpIn_mono (sync89_ok (r := r) (k := k) (y := x) rfl hdw hl ((h2 ms (by omega)).trans hms) hpm (by simp [Act.put, hsz]) (by simp [Act.put, hdf]) (hput _ _ _ _ (by omega) q0) (hput _ _ _ _ (by omega) q2) (hput _ _ _ _ (by omega) q17) hen) ?_
      rintro e2 a2 w3 ⟨rfl, z, df, p0, p2, p17, b3, ls3, cs3, m3, pm3⟩
      have hr3 : w3.heap[r]? = some (.mapIter (some mo) co (seen.push e.born) co) := (b3.same r (by omega) (by omega)).trans h2r
      refine ⟨⟨z, df, p0, p2, p17, hbut2.trans b3, seen.push e.born, ls3, cs3, tr.set (boxY x) k, hr3, m3, pm3, fun j => ?_⟩, ?_⟩
      · rw [pget_set]
        by_cases hj : j = k
        · subst hj
          left
          refine ⟨⟨e, he', by simp, hk⟩, ?_⟩
          rw [hfk]
          simp only [upd, if_true, same1]
          exact boxY_eq x
        · have hup : upd (pget n0 tr) k (boxY x) j = pget n0 tr j := by simp [upd, hj]
          rw [hup]
          have hiff : (∃ e' ∈ lo, (seen.push e.born).contains e'.born = true ∧ e'.key = .int .i64 (j : Int)) ↔ ∃ e' ∈ lo, seen.contains e'.born = true ∧ e'.key = .int .i64 (j : Int) := by
            constructor
            · rintro ⟨e', a1, a2, a3⟩
              refine ⟨e', a1, ?_, a3⟩
              simp at a2
              rcases a2 with a2 | a2
              · simpa using a2
              · exfalso
                have : e' = e := born_inj hnd a1 he' a2
                subst this
                rw [hk] at a3
                cases a3
                exact hj rfl
            · rintro ⟨e', a1, a2, a3⟩
              exact ⟨e', a1, by simp at a2 ⊢; exact .inl a2, a3⟩
          rcases hmix j with ⟨m1, m2⟩ | ⟨m1, m2⟩
          · exact .inl ⟨hiff.2 m1, m2⟩
          · exact .inr ⟨fun h => m1 (hiff.1 h), m2⟩
      · simp only [leftN, hr3, hit]
        exact left_less he
end Go.Ai
/- Sync: behind the loop. -/
namespace Go.Ai
open Go.Proofs Go.Proofs.YtobdajealbhjmaaGreatDoor
/-- the code behind the first loop of a code -/
def behind : Code → Option Code
  | .seq a b => match findLoop a with
    | some _ => some b
    | none => behind b
  | _ => none
noncomputable def syncRest : Code := ((Tryz.f85.body).bind behind).getD .skip
noncomputable def restH (n n1 : Nat) (u : TT Nat) : Heap := ⟨((TT.e).set (.cells 1 [.i .i64 (.ofNat n), .q 0, .m 5, .i .i64 (.ofNat 0), .b false]) 4).set (.pm 512 n1 u) 5, 7⟩
noncomputable def restT : TT AV := (TT.e).set (.p 4 0) 0
noncomputable def goR (n n1 : Nat) (u : TT Nat) : R0 := (fns Tryz.prog 4 5 S0 5).ex 33 syncRest restT (restH n n1 u)
def isRet : R0 → Bool
  | .ok .ret _ _ => true
  | _ => false
set_option maxRecDepth 100000 in
theorem goR_ok (n n1 : Nat) (u : TT Nat) : goR n n1 u = .ok .ret (resT (goR n n1 u)) (resH (goR n n1 u)) := by kernel_rfl
set_option maxRecDepth 100000 in
theorem goR_pm (n n1 : Nat) (u : TT Nat) : (resH (goR n n1 u)).t.get 5 = some (.pm 512 0 .e) := by kernel_rfl
set_option maxRecDepth 100000 in
theorem goR_t (n n1 : Nat) (u : TT Nat) : (resT (goR n n1 u)).get 2 = some (.i .i64 (.ofNat 0)) := by kernel_rfl
/-! two trees in one: the first one's entries go ahead -/
noncomputable def TT.merge {α : Type} (a : TT α) : TT α → TT α :=
  TT.rec (motive := fun _ => TT α → TT α) (fun b => b) (fun _ v _ il ir b => match b with
    | .e => .n (il .e) v (ir .e)
    | .n l' v' r' => .n (il l') (match v with | some x => some x | none => v') (ir r')) a
theorem TT.get_merge {α : Type} : ∀ (a b : TT α) (k : Nat), (TT.merge a b).get k = match a.get k with | some x => some x | none => b.get k := by
  intro a
  induction a with
  | e => intro b k; rw [TT.get_e]; rfl
  | n l v r ihl ihr =>
    intro b k
    cases b with
    | e =>
      show (TT.n (TT.merge l .e) v (TT.merge r .e)).get k = _
      simp only [TT.get_n, TT.get_e]
      split
      · cases v <;> rfl
      · split
        · rw [ihr]; simp only [TT.get_e]
        · rw [ihl]; simp only [TT.get_e]
    | n l' v' r' =>
      show (TT.n (TT.merge l l') (match v with | some x => some x | none => v') (TT.merge r r')).get k = _
      simp only [TT.get_n]
      split
      · cases v <;> rfl
      · split
        · exact ihr _ _
        · exact ihl _ _
theorem rest_rel {d ms r n n1 : Nat} {t : TT Nat} {w : World} {v2 : Value} {rest : List Value} {e : TypeId} {fz : Nat × Nat} {ls : List MapEntry} {cs : Nat} (h1 : v2.oneCell' = true)
    (hd : w.heap[d]? = some (.cells ⟨[.int .i64 n, v2, .map (some ms), .int .i64 0, .bool false] ++ rest⟩ e fz)) (hl : loose 1 (5 + rest.length) fz)
    (hs : w.heap[ms]? = some (.map ⟨ls⟩ cs)) (hp : PMR 512 ls cs (pget n1 t)) : Rel (fun _ => v2) (smallR d ms r rest.length) (restH n n1 t) w := by
  have hget : ∀ a, (restH n n1 t).t.get a = if a = 4 then some (.cells 1 [.i .i64 (.ofNat n), .q 0, .m 5, .i .i64 (.ofNat 0), .b false]) else if a = 5 then some (.pm 512 n1 t) else none := fun a => by
    show (((TT.e).set _ 4).set _ 5).get a = _
    rw [TT.get_set, TT.get_set, TT.get_e]
    by_cases h4 : a = 4
    · subst h4; simp
    · by_cases h5 : a = 5
      · subst h5; simp
      · simp [h4, h5]
  refine ⟨fun a o c x ha hc => ?_, fun a a' o o' c x x' ha ha' hc hc' => ?_, fun a ha => ?_, fun _ => h1⟩
  · rw [hget] at ha
    by_cases h4 : a = 4
    · subst h4
      simp only [if_true, Option.some.injEq] at ha
      simp [smallR] at hc
      obtain ⟨rfl, rfl⟩ := hc
      subst ha
      refine ⟨_, hd, old_row ⟨[.int .i64 n, v2, .map (some ms), .int .i64 0, .bool false], rest, e, fz, rfl, ?_, by simp, hl⟩⟩
      simp [VRs, VR, smallR]
    · rw [if_neg h4] at ha
      by_cases h5 : a = 5
      · subst h5
        simp only [if_true, Option.some.injEq] at ha
        simp [smallR] at hc
        obtain ⟨rfl, rfl⟩ := hc
        subst ha
        exact ⟨_, hs, ls, cs, rfl, hp⟩
      · rw [if_neg h5] at ha; cases ha
  · rw [hget] at ha ha'
    have hne : d ≠ ms := fun e => by subst e; rw [hs] at hd; cases hd
    have h45 : ∀ b o, (if b = 4 then some (AO.cells 1 [.i .i64 (.ofNat n), .q 0, .m 5, .i .i64 (.ofNat 0), .b false]) else if b = 5 then some (.pm 512 n1 t) else none) = some o → b = 4 ∨ b = 5 := fun b o h => by
      by_cases h4 : b = 4
      · exact .inl h4
      · rw [if_neg h4] at h
        by_cases h5 : b = 5
        · exact .inr h5
        · rw [if_neg h5] at h; cases h
    rcases h45 a o ha with rfl | rfl <;> rcases h45 a' o' ha' with rfl | rfl
    · rfl
    · simp [smallR] at hc hc'
      exact absurd (hc.1.trans hc'.1.symm) hne
    · simp [smallR] at hc hc'
      exact absurd (hc'.1.trans hc.1.symm) hne
    · rfl
  · have ha' : 7 ≤ a := ha
    rw [hget, if_neg (by omega), if_neg (by omega)]
    simp only [smallR]
    rw [if_neg (by omega), if_neg (by omega), if_neg (by omega), if_neg (by omega)]
    exact ⟨rfl, by simp⟩
theorem PMR.congr {l : List MapEntry} {c : Nat} {f g : Nat → Option Nat} (h : PMR 512 l c f) (hs : ∀ k, same1 (f k) (g k)) : PMR 512 l c g := by
  refine ⟨fun e he => ?_, fun k x hk => ?_, h.keys, h.born, h.clock⟩
  · obtain ⟨k, x, h1, h2, h3⟩ := h.has e he
    have := hs k
    rw [h3] at this
    cases hg : g k with
    | none => rw [hg] at this; exact this.elim
    | some y =>
      rw [hg] at this
      have hb : bytesOf 512 x = bytesOf 512 y := this
      exact ⟨k, y, h1, by rw [h2]; unfold pageV; rw [hb], hg⟩
  · have := hs k
    rw [hk] at this
    cases hf : f k with
    | none => rw [hf] at this; exact this.elim
    | some y => exact h.got k y hf
/-- the one's pages, and the other's where it has none -/
def mixF (f g : Nat → Option Nat) (k : Nat) : Option Nat := match f k with
  | some x => some x
  | none => g k
theorem mix_end {lo : List MapEntry} {seen : Array Nat} {co n0 : Nat} {t tr : TT Nat} {f : Nat → Option Nat} (hlo : PMR 512 lo co f) (hm : Mix lo seen f (pget n0 t) (pget n0 tr)) (hall : ∀ e ∈ lo, seen.contains e.born = true) (k : Nat) :
    same1 (pget n0 tr k) (mixF f (pget n0 t) k) := by
  unfold mixF
  rcases hm k with ⟨⟨e, h1, _, h2⟩, h3⟩ | ⟨h1, h2⟩
  · obtain ⟨k', x, h4, _, h5⟩ := hlo.has e h1
    rw [h2] at h4
    have : k = k' := by cases h4; rfl
    subst this
    rw [h5] at h3 ⊢
    exact h3
  · have hn : f k = none := by
      cases hf : f k with
      | none => rfl
      | some x =>
        obtain ⟨e, h3, h4⟩ := hlo.got k x hf
        exact (h1 ⟨e, h3, hall e h3, h4⟩).elim
    rw [hn, h2]
    cases pget n0 t k <;> simp [same1]
theorem mixF_merge (n0 : Nat) (u t : TT Nat) : mixF (pget 0 u) (pget n0 t) = pget n0 (TT.merge u t) := by
  funext k
  have hu : pget 0 u k = u.get k := by
    unfold pget
    cases u.get k with
    | some x => rfl
    | none => have : Nat.blt k 0 = false := by cases k <;> rfl
              rw [this]; rfl
  unfold mixF
  rw [hu]
  unfold pget
  rw [TT.get_merge]
  cases u.get k <;> rfl
theorem mixF_nil (f : Nat → Option Nat) : mixF f (pget 0 .e) = f := by
  funext k
  unfold mixF
  rw [pget_nil]
  cases f k <;> rfl
theorem all_seen {lo : List MapEntry} {seen : Array Nat} (h : (leftOf ⟨lo⟩ seen).size = 0) : ∀ e ∈ lo, seen.contains e.born = true := fun e he => by
  cases hc : seen.contains e.born with
  | true => rfl
  | false =>
    have : e ∈ leftOf ⟨lo⟩ seen := by unfold leftOf; simp; exact ⟨he, by simpa using hc⟩
    rw [Array.eq_empty_of_size_eq_zero h] at this
    simp at this
end Go.Ai
/- Sync, whole. -/
namespace Go.Ai
open Go.Proofs Go.Proofs.YtobdajealbhjmaaGreatDoor Go.RowKit
set_option maxRecDepth 100000 in
set_option maxHeartbeats 800000 in
theorem sync_walk {d n ms mo co n0 n1 cs0 : Nat} {ls0 lo : List MapEntry} {t u : TT Nat} {w : World} (hn : 0 < n) (hd0 : Held d n ms mo w) (hdm : d ≠ ms) (_hdo : d ≠ mo) (hmm : mo ≠ ms)
    (hms : w.heap[ms]? = some (.map ⟨ls0⟩ cs0)) (hp0 : PMR 512 ls0 cs0 (pget n0 t)) (hmo : w.heap[mo]? = some (.map ⟨lo⟩ co)) (hp : PMR 512 lo co (pget n1 u)) :
    Calls Tryz.prog 85 #[.pointer (some ⟨d, 0, none⟩)] w fun e w' => e = .returned (.int .i64 0) ∧
      (∀ c, c < w.heap.size → c ≠ ms → c ≠ mo → w'.heap[c]? = w.heap[c]?) ∧ w.heap.size ≤ w'.heap.size ∧ w'.os = w.os ∧ w'.tape = w.tape ∧ w'.output = w.output ∧
      (∃ ls cs, w'.heap[ms]? = some (.map ⟨ls⟩ cs) ∧ PMR 512 ls cs (mixF (pget n1 u) (pget n0 t))) ∧ ∃ ls cs, w'.heap[mo]? = some (.map ⟨ls⟩ cs) ∧ PMR 512 ls cs (pget 0 .e) := by
  have hcell : ∀ i v, ([.int .i64 n, .map (some ms), .map (some mo), .int .i64 0, .bool false] : List Value)[i]? = some v → w.cell? ⟨d, i, none⟩ = some v := fun i v h => by
    obtain ⟨rest, e, fz, h1, _⟩ := hd0
    have hi := (List.getElem?_eq_some_iff.1 h).1
    simp only [World.cell?, h1]
    rw [List.getElem?_toArray, List.getElem?_append_left hi, h]
    rfl
  have h0 := hcell 0 _ rfl
  have h2 := hcell 2 _ rfl
  have h3 := hcell 3 _ rfl
  have h4 := hcell 4 _ rfl
  have hr : (Instr.range 135 (.map (some mo))).run Tryz.prog w = .ok (.pointer (some ⟨w.heap.size, 0, none⟩)) (w.alloc (.mapIter (some mo) co #[] co)) := by
    have ht : Tryz.prog.underlying 135 = some (.map 3 196) := by kernel_rfl
    simp [Instr.range, Sem.run_bind, run_underlying ht, getObj, Sem.run, hmo, Result.andThen]
  have Hmo := hide hmo
  have Hp := hide hp
  have Hms := hide hms
  have Hp0 := hide hp0
  have Hd0 := hide hd0
  clear hmo hp hms hp0 hd0 hcell
  go_enter Tryz.func85, Tryz.ntmps85
  go_wp2_with (first
    | (go_at_call 132
       refine (may_up d n 0 w hn h0 h4).mono ?_
       rintro e w1 ⟨rfl, rfl⟩)
    | (go_at_call 135
       refine (crash_up d _ h3 h4).mono ?_
       rintro e w2 ⟨rfl, rfl⟩))
  refine wp_loop (LoopInv d n ms mo w2.heap.size co n0 lo t (pget n1 u) w2) (fun _ w' => leftN lo w2.heap.size w') ?_ ?_
  · have hlt := fun (c : Nat) (h : c < w2.heap.size) => show (w2.alloc (.mapIter (some mo) co #[] co)).heap[c]? = w2.heap[c]? by
      show (w2.heap.push _)[c]? = _
      rw [Array.getElem?_push, if_neg (by omega)]
    have hmsl := (Array.getElem?_eq_some_iff.1 Hms.out).1
    exact ⟨rfl, rfl, rfl, rfl, rfl, ⟨fun c hc _ => hlt c hc, by simp, rfl, rfl, rfl⟩, #[], ls0, cs0, t, by show (w2.heap.push _)[w2.heap.size]? = _; simp, (hlt ms hmsl).trans Hms.out, Hp0.out, fun j => .inr ⟨fun ⟨e, _, h, _⟩ => by simp at h, rfl⟩⟩
  · intro a w inv
    refine (wpIn_wide (n := 0)).1 (sync_iter Hp.out Hmo.out hmm Hd0.out hdm (Array.getElem?_eq_some_iff.1 Hms.out).1 (Nat.le_refl _) inv ?_)
    intro a' w' inv' hleft
    simp only [Exit.inBlock, Exit.then, if_true]
    rename_i hK
    apply hK
    clear hK
    refine (wpIn_wide (n := 0)).1 (?_ : syncRest.wpIn (Fc none) 0 Tryz.prog _ a' w')
    obtain ⟨hsz, hdf, q0, q2, q17, hbut, seen, ls, cs, tr, hit, hms, hpm, hmix⟩ := inv'
    obtain ⟨rest, et, fz, hd, hl⟩ := Hd0.out
    have hall := all_seen (lo := lo) (seen := seen) (by simpa [leftN, hit] using hleft)
    have hdw := (hbut.same d (Array.getElem?_eq_some_iff.1 hd).1 hdm).trans hd
    have hmow := (hbut.same mo (Array.getElem?_eq_some_iff.1 Hmo.out).1 hmm).trans Hmo.out
    have r0 := rest_rel (r := w2.heap.size) (v2 := .map (some ms)) rfl hdw hl hmow Hp.out
    have hg0 : GOK 4 (smallR d mo w2.heap.size rest.length) := fun g hg => by simp [smallR, hg]
    have hF : FR (smallR d mo w2.heap.size rest.length) (fun _ => .map (some ms)) restT a'.tmps := fun i v hv => by
      have : restT.get i = if i = 0 then some (.p 4 0) else none := by
        show ((TT.e).set _ 0).get i = _
        simp only [TT.get_set, TT.get_e]
      rw [this] at hv
      by_cases e0 : i = 0
      · subst e0; simp at hv; subst hv
        exact ⟨_, q0, by simp [VR, smallR]⟩
      · rw [if_neg e0] at hv; cases hv
    have hmk : Marks (0, some []) (smallR d mo w2.heap.size rest.length) (restH n n1 u) w' a'.defers := ⟨Nat.zero_le _, fun d0 h => (by cases h; exact hdf), [], by rw [hdf]; rfl, .nil, fun D hD => by cases hD⟩
    have h := ((fns_ok (P := Tryz.prog) (env := fun _ => .map (some ms)) (ng := 4) (ro := 5) namesOK (by kernel_rfl) S0_ok 5).ex none 33 (0, some []) syncRest restT (restH n n1 u) _ a' w' _ _ _ r0 hg0 hF hsz hmk (fun _ => by kernel_rfl) (goR_ok n n1 u)).1
    refine wpIn_mono h ?_
    rintro e3 a3 w3 ⟨ρ3, rfl, f3, z3, m3, g3, s3⟩
    obtain ⟨u2, x2, y2⟩ := f3 _ _ (goR_t n n1 u)
    simp only [VR] at y2
    subst y2
    have c5 : ρ3 5 = some (mo, 0, 0) := s3.le r0 _ _ (by simp [smallR])
    obtain ⟨ob, b1, ls', cs', rfl, b2⟩ := s3.rel.obj _ _ _ _ (goR_pm n n1 u) c5
    have hkeep : ∀ c, c < w'.heap.size → c ≠ mo → w3.heap[c]? = w'.heap[c]? := fun c hc hne => s3.keep c hc (by
      rintro ⟨b, o, x, hb, h2, h3⟩
      simp only [smallR] at h3
      rw [if_neg (by omega), if_neg (by omega)] at h3
      by_cases e5 : b = 5
      · subst e5; simp at h3; exact hne h3.1.symm
      · rw [if_neg e5] at h3
        by_cases e6 : b = 6
        · subst e6
          have : (restH n n1 u).t.get 6 = none := by
            show (((TT.e).set _ 4).set _ 5).get 6 = _
            simp [TT.get_set, TT.get_e]
          rw [this] at h2; cases h2
        · rw [if_neg e6] at h3; cases h3)
    have hmsl := (Array.getElem?_eq_some_iff.1 hms).1
    refine ⟨m3.keep _ rfl, .int .i64 0, ?_, rfl, fun c hc h1 h2 => (hkeep c (Nat.lt_of_lt_of_le hc hbut.size) h2).trans (hbut.same c hc h1), Nat.le_trans hbut.size s3.size, s3.os.trans hbut.os, s3.tape.trans hbut.tape, s3.output.trans hbut.output, ⟨ls, cs, (hkeep ms hmsl (Ne.symm hmm)).trans hms, PMR.congr hpm (mix_end Hp.out hmix hall)⟩, ls', cs', b1, b2⟩
    have hg2 : a3.tmps.getD 2 undef = .int .i64 0 := by simp [Array.getD_eq_getD_getElem?, x2]
    rw [results_tmp rfl, hg2]
end Go.Ai
/- Summary: Sync. -/
namespace Go.Ai
open Go.Proofs Go.Proofs.YtobdajealbhjmaaGreatDoor
section
variable {env : Nat → Value} {ng ro : Nat}
noncomputable def sSync (ro : Nat) (args : List AV) (H : Heap) : Option (AV × Heap) :=
  match args with
  | [.p d 0] => match H.t.get d with
    | some (.cells 0 [.i .i64 (.ofNat n), .m s, .m o, .i .i64 (.ofNat 0), .b false]) => match H.t.get s with
      | some (.pm l n0 t) => match H.t.get o with
        | some (.pm l' n1 u) => bif (Nat.blt 0 n && (Bool.not (Nat.beq s o) && (Nat.ble ro s && Nat.ble ro o))) && (Nat.beq l 512 && Nat.beq l' 512) then
            bif Nat.beq n1 0 then some (.i .i64 (.ofNat 0), (H.put s (.pm 512 n0 (TT.merge u t))).put o (.pm 512 0 .e))
            else bif Nat.beq n0 0 && isE t then some (.i .i64 (.ofNat 0), (H.put s (.pm 512 n1 u)).put o (.pm 512 0 .e)) else none
          else none
        | _ => none
      | _ => none
    | _ => none
  | _ => none
theorem Step.two {ρ : Ren} {H : Heap} {w w' : World} (r : Rel env ρ H w) {s o ms mo : Nat} {xs xo : Nat × Nat} {os oo os' oo' : AO} (hs : H.t.get s = some os) (ho : H.t.get o = some oo) (cs : ρ s = some (ms, xs)) (co : ρ o = some (mo, xo)) (hso : s ≠ o)
    (h1 : ro ≤ s) (h2 : ro ≤ o) (hk : ∀ c, c < w.heap.size → c ≠ ms → c ≠ mo → w'.heap[c]? = w.heap[c]?) (hz : w.heap.size ≤ w'.heap.size) (ho1 : w'.os = w.os) (ho2 : w'.tape = w.tape) (ho3 : w'.output = w.output)
    {bs bo : Obj} (b1 : w'.heap[ms]? = some bs) (b2 : w'.heap[mo]? = some bo) (r1 : ObjR ρ env xs os' bs) (r2 : ObjR ρ env xo oo' bo) : Step env ro ρ H w ρ ((H.put s os').put o oo') w' := by
  have hget : ∀ b, ((H.put s os').put o oo').t.get b = if b = o then some oo' else if b = s then some os' else H.t.get b := fun b => by
    show ((H.t.set os' s).set oo' o).get b = _
    rw [TT.get_set, TT.get_set]
  have hold : ∀ b q, ((H.put s os').put o oo').t.get b = some q → ∃ q', H.t.get b = some q' := fun b q h => by
    rw [hget] at h
    by_cases e1 : b = o
    · subst e1; exact ⟨_, ho⟩
    · rw [if_neg e1] at h
      by_cases e2 : b = s
      · subst e2; exact ⟨_, hs⟩
      · rw [if_neg e2] at h; exact ⟨_, h⟩
  refine ⟨⟨fun b q c x h3 h4 => ?_, fun b b' q q' c x x' h3 h4 h5 h6 => ?_, fun b hb => ?_, r.one⟩, fun _ _ => rfl, Nat.le_refl _, fun lo c _ ⟨b, q, x, h3, h4, h5⟩ => ?_, fun c hc hn => hk c hc ?_ ?_, hz, ho1, ho2, ho3⟩
  · obtain ⟨q', h5⟩ := hold b q h3
    rw [hget] at h3
    by_cases e1 : b = o
    · subst e1
      rw [if_pos rfl] at h3; cases h3
      rw [co] at h4; cases h4
      exact ⟨_, b2, r2⟩
    · rw [if_neg e1] at h3
      by_cases e2 : b = s
      · subst e2
        rw [if_pos rfl] at h3; cases h3
        rw [cs] at h4; cases h4
        exact ⟨_, b1, r1⟩
      · rw [if_neg e2] at h3
        obtain ⟨ob, h6, h7⟩ := r.obj b q c x h3 h4
        exact ⟨ob, (hk c (Array.getElem?_eq_some_iff.1 h6).1 (fun e => e2 (r.inj b s _ _ c x xs h3 hs h4 (e ▸ cs))) (fun e => e1 (r.inj b o _ _ c x xo h3 ho h4 (e ▸ co)))).trans h6, h7⟩
  · obtain ⟨p, h7⟩ := hold b q h3
    obtain ⟨p', h8⟩ := hold b' q' h4
    exact r.inj b b' p p' c x x' h7 h8 h5 h6
  · have hb' : H.nx ≤ b := hb
    obtain ⟨h3, h4⟩ := r.new b hb'
    refine ⟨h3, ?_⟩
    rw [hget, if_neg (fun e => by subst e; rw [h4] at ho; cases ho), if_neg (fun e => by subst e; rw [h4] at hs; cases hs)]
    exact h4
  · obtain ⟨q', h6⟩ := hold b q h4
    exact .inl ⟨b, q', x, h3, h6, h5⟩
  · intro e; exact hn ⟨s, os, xs, h1, hs, e ▸ cs⟩
  · intro e; exact hn ⟨o, oo, xo, h2, ho, e ▸ co⟩
theorem sSync_ok : SumOK Tryz.prog env ro ng 85 (sSync ro) := by
  intro args us H w ρ v H' r hg ha h
  unfold sSync at h
  split at h
  · rename_i d
    split at h
    · rename_i n s o hd
      split at h
      · rename_i l n0 t hs
        split at h
        · rename_i l' n1 u ho
          cases hq : (Nat.blt 0 n && (Bool.not (Nat.beq s o) && (Nat.ble ro s && Nat.ble ro o))) && (Nat.beq l 512 && Nat.beq l' 512) with
          | false => rw [hq] at h; cases h
          | true =>
            rw [hq] at h
            simp only [cond_true] at h
            have hr : ∃ ns ts, mixF (pget n1 u) (pget n0 t) = pget ns ts ∧ v = .i .i64 (.ofNat 0) ∧ H' = (H.put s (.pm 512 ns ts)).put o (.pm 512 0 .e) := by
              cases hz : Nat.beq n1 0 with
              | true =>
                rw [hz] at h; cases h
                have := beq_true hz
                subst this
                exact ⟨n0, _, mixF_merge n0 u t, rfl, rfl⟩
              | false =>
                rw [hz] at h
                simp only [cond_false] at h
                cases hy : Nat.beq n0 0 && isE t with
                | false => rw [hy] at h; cases h
                | true =>
                  rw [hy] at h; cases h
                  simp only [Bool.and_eq_true] at hy
                  have h1 := beq_true hy.1
                  have h2 := isE_ok hy.2
                  subst h1 h2
                  exact ⟨n1, u, mixF_nil _, rfl, rfl⟩
            obtain ⟨ns, ts, hmix, rfl, rfl⟩ := hr
            simp only [Bool.and_eq_true] at hq
            obtain ⟨⟨g1, g2, g3, g4⟩, g5, g6⟩ := hq
            have g1 := blt_iff.1 g1
            have g2 : s ≠ o := fun e => by subst e; simp at g2
            have g3 := ble_true g3
            have g4 := ble_true g4
            have g5 := beq_true g5
            have g6 := beq_true g6
            subst g5 g6
            simp only [VRs, VR] at ha
            obtain ⟨u1, us1, rfl, ⟨db, dx, hdc, rfl⟩, rfl⟩ := ha
            obtain ⟨ob, w1, hob⟩ := r.obj _ _ _ _ hd hdc
            obtain ⟨hdx, lv, rest, et, fz, rfl, w2, w3, w4⟩ := obj_zero (by decide) hob
            rw [hdx]
            simp only [VRs, VR] at w2
            obtain ⟨_, _, rfl, rfl, _, _, rfl, ⟨ms, xs, hsc, rfl⟩, _, _, rfl, ⟨mo, xo, hoc, rfl⟩, _, _, rfl, rfl, _, _, rfl, rfl, rfl⟩ := w2
            obtain ⟨ob1, m1, ls0, cs0, rfl, m2⟩ := r.obj _ _ _ _ hs hsc
            obtain ⟨ob2, m3, lo, co, rfl, m4⟩ := r.obj _ _ _ _ ho hoc
            have hdm : db ≠ ms := fun e => by subst e; rw [m1] at w1; cases w1
            have hdo : db ≠ mo := fun e => by subst e; rw [m3] at w1; cases w1
            have hmm : mo ≠ ms := fun e => g2 (r.inj s o _ _ ms xs xo hs ho hsc (e ▸ hoc))
            refine (sync_walk g1 ⟨rest, et, fz, w1, by simpa using w4.one⟩ hdm hdo hmm m1 m2 m3 m4).mono fun e w' hq => ?_
            obtain ⟨rfl, k1, k2, k3, k4, k5, ⟨ls, cs, k6, k7⟩, ls', cs', k8, k9⟩ := hq
            rw [hmix] at k7
            exact ⟨_, ρ, rfl, by simp [VR], Step.two r hs ho hsc hoc g2 g3 g4 k1 k2 k3 k4 k5 k6 k8 ⟨ls, cs, rfl, k7⟩ ⟨ls', cs', rfl, k9⟩⟩
        · cases h
      · cases h
    · cases h
  · cases h
end
end Go.Ai
/- Summaries: redo at no records, PutInt at an unknown number; all of them. -/
namespace Go.Ai
open Go.Proofs Go.Proofs.YtobdajealbhjmaaGreatDoor Go.RowKit
section
variable {env : Nat → Value} {ng ro : Nat}
theorem Step.of_below {ρ : Ren} {H : Heap} {w w' : World} (r : Rel env ρ H w) (h : Below w.heap.size w w') : Step env ro ρ H w ρ H w' where
  rel := ⟨fun a o c x h1 h2 => by
    obtain ⟨ob, h3, h4⟩ := r.obj a o c x h1 h2
    exact ⟨ob, (h.block c (Array.getElem?_eq_some_iff.1 h3).1).trans h3, h4⟩, r.inj, r.new, r.one⟩
  old := fun _ _ => rfl
  nx := Nat.le_refl _
  img := fun _ _ _ h => .inl h
  keep := fun c hc _ => h.block c hc
  size := h.size
  os := h.os
  tape := h.tape
  output := h.output
noncomputable def sRedo (args : List AV) (H : Heap) : Option (AV × Heap) :=
  match args with
  | [.sn, _, _] => some (.i .i64 (.ofNat 0), H)
  | _ => none
theorem sRedo_ok : SumOK Tryz.prog env ro ng 93 sRedo := by
  intro args us H w ρ v H' r hg ha h
  unfold sRedo at h
  split at h
  · cases h
    simp only [VRs, VR] at ha
    obtain ⟨u1, us1, rfl, rfl, u2, us2, rfl, _, u3, us3, rfl, _, rfl⟩ := ha
    refine (redo_nil u2 u3 w).mono fun e w' hq => ?_
    obtain ⟨rfl, hb⟩ := hq
    exact ⟨_, ρ, rfl, by simp [VR], Step.of_below r hb⟩
  · cases h
noncomputable def sPut (args : List AV) (H : Heap) : Option (AV × Heap) :=
  match args with
  | [.q 0] => some (.sl H.nx 0 8 8 false, H.push (.cells 1 []))
  | _ => none
theorem sPut_ok {n : Int} (he : env 0 = .int .i64 n) : SumOK Tryz.prog env ro ng 31 sPut := by
  intro args us H w ρ v H' r hg ha h
  unfold sPut at h
  split at h
  · cases h
    simp only [VRs, VR] at ha
    obtain ⟨u1, us1, rfl, rfl, rfl⟩ := ha
    rw [he]
    refine (putInt_any n w).mono fun e w' hq => ?_
    obtain ⟨rfl, l, hl, rfl⟩ := hq
    refine ⟨_, ρ.put H.nx (w.heap.size, 8, 0), rfl, ?_, Step.alloc (x := (8, 0)) r (old_row (k := 1) ⟨[], l, _, _, rfl, by simp [VRs], by simpa using hl, .inl rfl⟩)⟩
    simp only [VR]
    exact ⟨w.heap.size, (8, 0), Ren.put_self _ _ _, rfl⟩
  · cases h
/-- summaries by the functions' numbers -/
noncomputable def sumsOf : List (FuncId × (List AV → Heap → Option (AV × Heap))) → Sums
  | [], _ => none
  | (f, g) :: l, k => bif Nat.beq f k then some g else sumsOf l k
theorem sumsOf_ok {P : Program} : ∀ (l : List (FuncId × (List AV → Heap → Option (AV × Heap)))), (∀ p ∈ l, SumOK P env ro ng p.1 p.2) → SumsOK P env ro ng (sumsOf l)
  | [], _ => fun f g h => by cases h
  | (f, g) :: l, hl => fun k g' h => by
    simp only [sumsOf] at h
    cases hb : Nat.beq f k with
    | true =>
      rw [hb] at h; cases h
      have := beq_true hb
      subst this
      exact hl (f, g) (by simp)
    | false =>
      rw [hb] at h
      exact sumsOf_ok l (fun p hp => hl p (by simp [hp])) k g' h
end
end Go.Ai
/- Summary: Write. -/
namespace Go.Ai
open Go.Proofs Go.Proofs.YtobdajealbhjmaaGreatDoor Go.RowKit
/-- the region of a number, and what follows it -/
def findR (id : Nat) : Code → Option (Code × Code)
  | .seq (.region j ops d) b => bif Nat.beq j id then some (.region j ops d, b) else findR id b
  | .seq a b => match findR id a with
    | some r => some r
    | none => findR id b
  | .cond _ a b => match findR id a with
    | some r => some r
    | none => findR id b
  | .block _ c => findR id c
  | .scope c => findR id c
  | .loop c => findR id c
  | _ => none
noncomputable def write6 : Code × Code := ((Tryz.f84.body).bind (findR 6)).getD (.skip, .skip)
/-- block 3 is the device, 5 the map that is open, 4 the bytes -/
noncomputable def wrH (n x : Nat) (u : TT Nat) : Heap := ⟨(((TT.e).set (.cells 1 [.i .i64 (.ofNat n), .q 0, .m 5, .i .i64 (.ofNat 0), .b false]) 3).set (.pm 512 0 u) 5).set (.bytes 512 x) 4, 6⟩
noncomputable def wrT (k cap : Nat) : TT AV := (((TT.e).set (.p 3 0) 0).set (.i .i64 (.ofNat k)) 1).set (.sl 4 0 512 cap false) 2
noncomputable def goW (n x k cap : Nat) (u : TT Nat) : R0 := (fns Tryz.prog 3 5 S0 1).ex 27 write6.1 (wrT k cap) (wrH n x u)
noncomputable def goV (n x k cap : Nat) (u : TT Nat) : R0 := (fns Tryz.prog 3 5 S0 20).ex 27 write6.2 (resT (goW n x k cap u)) (resH (goW n x k cap u))
set_option maxRecDepth 100000 in
theorem goW_ok (n x k cap : Nat) (u : TT Nat) : goW n x k cap u = .ok .normal (resT (goW n x k cap u)) (resH (goW n x k cap u)) := by kernel_rfl
set_option maxRecDepth 100000 in
theorem goV_ok (n x k cap : Nat) (u : TT Nat) : goV n x k cap u = .ok .ret (resT (goV n x k cap u)) (resH (goV n x k cap u)) := by kernel_rfl
set_option maxRecDepth 100000 in
theorem goV_pm (n x k cap : Nat) (u : TT Nat) : (resH (goV n x k cap u)).t.get 5 = some (.pm 512 0 (u.set (cut x 0 512) k)) := by kernel_rfl
set_option maxRecDepth 100000 in
theorem goV_t (n x k cap : Nat) (u : TT Nat) : (resT (goV n x k cap u)).get 6 = some (.i .i64 (.ofNat 0)) := by kernel_rfl
def wrR (d mo g r : Nat) (x : Nat × Nat) : Ren := fun a => if a < 3 then some (a, 0, 0) else if a = 3 then some (d, r, 0) else if a = 5 then some (mo, 0, 0) else if a = 4 then some (g, x) else none
theorem wr_rel {d mo g n x : Nat} {xg : Nat × Nat} {u : TT Nat} {w : World} {v1 : Value} {rest : List Value} {e : TypeId} {fz : Nat × Nat} {ls : List MapEntry} {cs : Nat} {ob : Obj} (h1 : v1.oneCell' = true)
    (hd : w.heap[d]? = some (.cells ⟨[.int .i64 n, v1, .map (some mo), .int .i64 0, .bool false] ++ rest⟩ e fz)) (hl : loose 1 (5 + rest.length) fz)
    (hs : w.heap[mo]? = some (.map ⟨ls⟩ cs)) (hp : PMR 512 ls cs (pget 0 u)) (hg : w.heap[g]? = some ob) (hob : ObjR (fun _ => none) (fun _ => v1) xg (.bytes 512 x) ob) (hdg : d ≠ g) :
    Rel (fun _ => v1) (wrR d mo g rest.length xg) (wrH n x u) w := by
  have hget : ∀ a, (wrH n x u).t.get a = if a = 4 then some (.bytes 512 x) else if a = 5 then some (.pm 512 0 u) else if a = 3 then some (.cells 1 [.i .i64 (.ofNat n), .q 0, .m 5, .i .i64 (.ofNat 0), .b false]) else none := fun a => by
    show ((((TT.e).set _ 3).set _ 5).set _ 4).get a = _
    rw [TT.get_set, TT.get_set, TT.get_set, TT.get_e]
  have hdm : d ≠ mo := fun e => by subst e; rw [hs] at hd; cases hd
  have hgm : g ≠ mo := fun e => by subst e; rw [hs] at hg; cases hg; obtain ⟨_, _, _, _, _, h, _⟩ := hob; cases h
  refine ⟨fun a o c y ha hc => ?_, fun a a' o o' c y y' ha ha' hc hc' => ?_, fun a ha => ?_, fun _ => h1⟩
  · rw [hget] at ha
    by_cases h6 : a = 4
    · subst h6; simp [wrR] at hc ha; obtain ⟨rfl, rfl⟩ := hc; subst ha
      exact ⟨_, hg, hob.mono (fun b z h => by cases h)⟩
    · rw [if_neg h6] at ha
      by_cases h5 : a = 5
      · subst h5; simp [wrR] at hc ha; obtain ⟨rfl, rfl⟩ := hc; subst ha
        exact ⟨_, hs, ls, cs, rfl, hp⟩
      · rw [if_neg h5] at ha
        by_cases h4 : a = 3
        · subst h4; simp [wrR] at hc ha; obtain ⟨rfl, rfl⟩ := hc; subst ha
          exact ⟨_, hd, old_row ⟨[.int .i64 n, v1, .map (some mo), .int .i64 0, .bool false], rest, e, fz, rfl, by simp [VRs, VR, wrR], by simp, hl⟩⟩
        · rw [if_neg h4] at ha; cases ha
  · rw [hget] at ha ha'
    have key : ∀ b q z, (if b = 4 then some (AO.bytes 512 x) else if b = 5 then some (.pm 512 0 u) else if b = 3 then some (.cells 1 [.i .i64 (.ofNat n), .q 0, .m 5, .i .i64 (.ofNat 0), .b false]) else none) = some q → wrR d mo g rest.length xg b = some (c, z) → (b = 4 ∧ c = g) ∨ (b = 5 ∧ c = mo) ∨ (b = 3 ∧ c = d) := fun b q z h k => by
      by_cases h6 : b = 4
      · subst h6; simp [wrR] at k; exact .inl ⟨rfl, k.1.symm⟩
      · by_cases h5 : b = 5
        · subst h5; simp [wrR] at k; exact .inr (.inl ⟨rfl, k.1.symm⟩)
        · by_cases h4 : b = 3
          · subst h4; simp [wrR] at k; exact .inr (.inr ⟨rfl, k.1.symm⟩)
          · rw [if_neg h6, if_neg h5, if_neg h4] at h; cases h
    rcases key a o y ha hc with ⟨rfl, e1⟩ | ⟨rfl, e1⟩ | ⟨rfl, e1⟩ <;> rcases key a' o' y' ha' hc' with ⟨rfl, e2⟩ | ⟨rfl, e2⟩ | ⟨rfl, e2⟩ <;> first | rfl | (exfalso; omega)
  · have ha' : 6 ≤ a := ha
    rw [hget, if_neg (by omega), if_neg (by omega), if_neg (by omega)]
    simp only [wrR]
    rw [if_neg (by omega), if_neg (by omega), if_neg (by omega), if_neg (by omega)]
    exact ⟨rfl, by simp⟩
set_option maxRecDepth 100000 in
set_option maxHeartbeats 800000 in
theorem write_walk {d mo g n i cap x : Nat} {xg : Nat × Nat} {u : TT Nat} {w : World} {v1 : Value} {rest : List Value} {e : TypeId} {fz : Nat × Nat} {ls : List MapEntry} {cs : Nat} {ob : Obj} (hi : i < n) (h1 : v1.oneCell' = true)
    (hd : w.heap[d]? = some (.cells ⟨[.int .i64 n, v1, .map (some mo), .int .i64 0, .bool false] ++ rest⟩ e fz)) (hl : loose 1 (5 + rest.length) fz)
    (hs : w.heap[mo]? = some (.map ⟨ls⟩ cs)) (hp : PMR 512 ls cs (pget 0 u)) (hg : w.heap[g]? = some ob) (hob : ObjR (fun _ => none) (fun _ => v1) xg (.bytes 512 x) ob) (hdg : d ≠ g) :
    Calls Tryz.prog 84 #[.pointer (some ⟨d, 0, none⟩), .int .i64 i, .slice (some ⟨g, 0, none⟩) 512 cap] w fun e w' => e = .returned (.int .i64 0) ∧
      ∃ ρ' H', Step (fun _ => v1) 5 (wrR d mo g rest.length xg) (wrH n x u) w ρ' H' w' ∧ H'.t.get 5 = some (.pm 512 0 (u.set (cut x 0 512) i)) := by
  have h0 : w.cell? ⟨d, 0, none⟩ = some (.int .i64 n) := by simp only [World.cell?, hd]; rfl
  have h4 : w.cell? ⟨d, 4, none⟩ = some (.bool false) := by simp only [World.cell?, hd]; rfl
  have hx0 : xg.2 = 0 := (obj_zeroB hob).1
  have r0 := wr_rel (u := u) (x := x) h1 hd hl hs hp hg hob hdg
  have R0 := hide r0
  clear hd hl hs hp hg hob r0
  go_enter Tryz.func84, Tryz.ntmps84
  go_wp2_with (first
    | (go_at_call 132
       refine (may_up d n i w hi h0 h4).mono ?_
       rintro e w1 ⟨rfl, rfl⟩))
  rename_i K hK
  refine (wpIn_wide (n := 0)).1 (?_ : write6.1.wpIn (Fc none) 0 Tryz.prog _ _ _)
  have hg0 : GOK 3 (wrR d mo g rest.length xg) := fun g hg => by simp [wrR, hg]
  have hfns := fun m => fns_ok (P := Tryz.prog) (env := fun _ => v1) (ng := 3) (ro := 5) namesOK (by kernel_rfl) S0_ok m
  have hmk : Marks (0, some []) (wrR d mo g rest.length xg) (wrH n x u) w1 [] := ⟨Nat.zero_le _, fun d0 h => (by cases h; rfl), [], rfl, .nil, fun D hD => by cases hD⟩
  have h6 := fun a hF hsz hdf => ((hfns 1).ex none 27 (0, some []) write6.1 (wrT i cap) (wrH n x u) (wrR d mo g rest.length xg) a w1 _ _ _ R0.out hg0 hF hsz hdf (fun _ => by kernel_rfl) (goW_ok n x i cap u)).1
  refine wpIn_mono (h6 _ ?_ rfl hmk) ?_
  · intro t v hv
    have : (wrT i cap).get t = if t = 2 then some (.sl 4 0 512 cap false) else if t = 1 then some (.i .i64 (.ofNat i)) else if t = 0 then some (.p 3 0) else none := by
      show ((((TT.e).set _ 0).set _ 1).set _ 2).get t = _
      simp only [TT.get_set, TT.get_e]
    rw [this] at hv
    by_cases e2 : t = 2
    · subst e2; simp at hv; subst hv
      exact ⟨_, rfl, by simp only [VR]; exact ⟨g, xg, by simp [wrR], by simp [hx0]⟩⟩
    · rw [if_neg e2] at hv
      by_cases e1 : t = 1
      · subst e1; simp at hv; subst hv
        exact ⟨_, rfl, by simp [VR]⟩
      · rw [if_neg e1] at hv
        by_cases e0 : t = 0
        · subst e0; simp at hv; subst hv
          exact ⟨_, rfl, by simp [VR, wrR]⟩
        · rw [if_neg e0] at hv; cases hv
  rintro e1 a1 w2 ⟨ρ1, rfl, f1, z1, m1, g1, s1⟩
  simp only [toExit, Exit.then]
  refine hK _ _ ?_
  refine (wpIn_wide (n := 0)).1 (?_ : write6.2.wpIn (Fc none) 0 Tryz.prog _ a1 w2)
  refine wpIn_mono ((hfns 20).ex none 27 (0, some []) write6.2 _ _ ρ1 a1 w2 _ _ _ s1.rel g1 f1 z1 m1 (fun _ => by kernel_rfl) (goV_ok n x i cap u)).1 ?_
  rintro e3 a3 w3 ⟨ρ3, rfl, f3, z3, m3, g3, s3⟩
  obtain ⟨u2, x2, y2⟩ := f3 _ _ (goV_t n x i cap u)
  simp only [VR] at y2
  subst y2
  refine ⟨m3.keep _ rfl, .int .i64 0, ?_, rfl, ρ3, _, s1.trans s3, goV_pm n x i cap u⟩
  have hg2 : a3.tmps.getD 6 undef = .int .i64 0 := by simp [Array.getD_eq_getD_getElem?, x2]
  rw [results_tmp rfl, hg2]
section
variable {env : Nat → Value} {ng ro : Nat}
theorem ObjR.bytes_any {ρ ρ' : Ren} {env env' : Nat → Value} {x : Nat × Nat} {l y : Nat} {ob : Obj} (h : ObjR ρ env x (.bytes l y) ob) : ObjR ρ' env' x (.bytes l y) ob := by
  obtain ⟨pre, l, rest, e, fz, h1, h2, h3⟩ := h
  refine ⟨pre, l, rest, e, fz, h1, ?_, h3⟩
  rw [bytes_only _ _ h2]
  exact bytes_rel _
theorem Step.one {ρ : Ren} {H : Heap} {w w' : World} (r : Rel env ρ H w) {o mo : Nat} {xo : Nat × Nat} {oo oo' : AO} (ho : H.t.get o = some oo) (co : ρ o = some (mo, xo))
    (h2 : ro ≤ o) (hk : ∀ c, c < w.heap.size → c ≠ mo → w'.heap[c]? = w.heap[c]?) (hz : w.heap.size ≤ w'.heap.size) (ho1 : w'.os = w.os) (ho2 : w'.tape = w.tape) (ho3 : w'.output = w.output)
    {bo : Obj} (b2 : w'.heap[mo]? = some bo) (r2 : ObjR ρ env xo oo' bo) : Step env ro ρ H w ρ (H.put o oo') w' := by
  have hget : ∀ b, (H.put o oo').t.get b = if b = o then some oo' else H.t.get b := fun b => by
    show (H.t.set oo' o).get b = _
    rw [TT.get_set]
  have hold : ∀ b q, (H.put o oo').t.get b = some q → ∃ q', H.t.get b = some q' := fun b q h => by
    rw [hget] at h
    by_cases e1 : b = o
    · subst e1; exact ⟨_, ho⟩
    · rw [if_neg e1] at h; exact ⟨_, h⟩
  refine ⟨⟨fun b q c x h3 h4 => ?_, fun b b' q q' c x x' h3 h4 h5 h6 => ?_, fun b hb => ?_, r.one⟩, fun _ _ => rfl, Nat.le_refl _, fun lo c _ ⟨b, q, x, h3, h4, h5⟩ => ?_, fun c hc hn => hk c hc ?_, hz, ho1, ho2, ho3⟩
  · obtain ⟨q', h5⟩ := hold b q h3
    rw [hget] at h3
    by_cases e1 : b = o
    · subst e1
      rw [if_pos rfl] at h3; cases h3
      rw [co] at h4; cases h4
      exact ⟨_, b2, r2⟩
    · rw [if_neg e1] at h3
      obtain ⟨ob, h6, h7⟩ := r.obj b q c x h3 h4
      exact ⟨ob, (hk c (Array.getElem?_eq_some_iff.1 h6).1 (fun e => e1 (r.inj b o _ _ c x xo h3 ho h4 (e ▸ co)))).trans h6, h7⟩
  · obtain ⟨p, h7⟩ := hold b q h3
    obtain ⟨p', h8⟩ := hold b' q' h4
    exact r.inj b b' p p' c x x' h7 h8 h5 h6
  · have hb' : H.nx ≤ b := hb
    obtain ⟨h3, h4⟩ := r.new b hb'
    refine ⟨h3, ?_⟩
    rw [hget, if_neg (fun e => by subst e; rw [h4] at ho; cases ho)]
    exact h4
  · obtain ⟨q', h6⟩ := hold b q h4
    exact .inl ⟨b, q', x, h3, h6, h5⟩
  · intro e; exact hn ⟨o, oo, xo, h2, ho, e ▸ co⟩
noncomputable def sWrite (ro : Nat) (args : List AV) (H : Heap) : Option (AV × Heap) :=
  match args with
  | [.p d 0, .i .i64 (.ofNat i), .sl b 0 512 _ _] => match H.t.get d with
    | some (.cells 0 [.i .i64 (.ofNat n), .m _, .m o, .i .i64 (.ofNat 0), .b false]) => match H.t.get b with
      | some (.bytes l x) => match H.t.get o with
        | some (.pm l' n0 u) => bif (Nat.blt i n && Nat.ble ro o) && (Nat.beq l 512 && (Nat.beq l' 512 && Nat.beq n0 0)) then
            some (.i .i64 (.ofNat 0), H.put o (.pm 512 0 (u.set (cut x 0 512) i))) else none
        | _ => none
      | _ => none
    | _ => none
  | _ => none
theorem sWrite_ok : SumOK Tryz.prog env ro ng 84 (sWrite ro) := by
  intro args us H w ρ v H' r hg ha h
  unfold sWrite at h
  split at h
  · rename_i d i b cap op
    split at h
    · rename_i n s o hd
      split at h
      · rename_i l x hb
        split at h
        · rename_i l' n0 u ho
          cases hq : (Nat.blt i n && Nat.ble ro o) && (Nat.beq l 512 && (Nat.beq l' 512 && Nat.beq n0 0)) with
          | false => rw [hq] at h; cases h
          | true =>
            rw [hq] at h; cases h
            simp only [Bool.and_eq_true] at hq
            obtain ⟨⟨g1, g2⟩, g3, g4, g5⟩ := hq
            have g1 := blt_iff.1 g1
            have g2 := ble_true g2
            have g3 := beq_true g3
            have g4 := beq_true g4
            have g5 := beq_true g5
            subst g3 g4 g5
            simp only [VRs, VR] at ha
            obtain ⟨u1, us1, rfl, ⟨db, dx, hdc, rfl⟩, u2, us2, rfl, rfl, u3, us3, rfl, ⟨gb, gx, hgc, rfl⟩, rfl⟩ := ha
            obtain ⟨ob, w1, hobd⟩ := r.obj _ _ _ _ hd hdc
            obtain ⟨hdx, lv, rest, et, fz, rfl, w2, w3, w4⟩ := obj_zero (by decide) hobd
            simp only [VRs, VR] at w2
            obtain ⟨_, _, rfl, rfl, _, _, rfl, ⟨ms, xs, hsc, rfl⟩, _, _, rfl, ⟨mo, xo, hoc, rfl⟩, _, _, rfl, rfl, _, _, rfl, rfl, rfl⟩ := w2
            obtain ⟨ob1, m1, hob⟩ := r.obj _ _ _ _ hb hgc
            have hgx := (obj_zeroB hob).1
            rw [hdx, hgx]
            obtain ⟨ob2, m3, lo, co, rfl, m4⟩ := r.obj _ _ _ _ ho hoc
            have hdg : db ≠ gb := fun e => by
              subst e
              have := r.inj d b _ _ db dx gx hd hb hdc hgc
              subst this; rw [hd] at hb; cases hb
            have hdm : mo ≠ db := fun e => by subst e; rw [m3] at w1; cases w1
            have hob' := ObjR.bytes_any (ρ' := fun _ => none) (env' := fun _ => Value.map (some ms)) hob
            refine (write_walk (v1 := .map (some ms)) (xg := gx) (cap := cap + if op then gx.1 else 0) g1 rfl w1 (by simpa using w4.one) m3 m4 m1 hob' hdg).mono fun e w' hq => ?_
            obtain ⟨rfl, ρ', H', st, hpm⟩ := hq
            have c5 : ρ' 5 = some (mo, 0, 0) := (st.old 5 (show 5 < 6 by decide)).trans (by simp [wrR])
            obtain ⟨ob3, k1, lz, cz, rfl, k2⟩ := st.rel.obj _ _ _ _ hpm c5
            refine ⟨_, ρ, rfl, by simp [VR], Step.one (xo := xo) r ho hoc g2 (fun c hc hne => st.keep c hc ?_) st.size st.os st.tape st.output k1 ⟨lz, cz, rfl, k2⟩⟩
            rintro ⟨b', q, x', hb', h2, h3⟩
            simp only [wrR] at h3
            rw [if_neg (by omega), if_neg (by omega)] at h3
            by_cases e5 : b' = 5
            · subst e5; simp at h3; exact hne h3.1.symm
            · rw [if_neg e5, if_neg (by omega)] at h3; cases h3
        · cases h
      · cases h
    · cases h
  · cases h
end
end Go.Ai
