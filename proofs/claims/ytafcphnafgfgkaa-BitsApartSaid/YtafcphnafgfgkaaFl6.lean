/- parchmentkit.ApartBytes of pieces that lie apart. -/
import Derived.Test.YtafcphnafgfgkaaFl5
namespace Go.Proofs.Ytafcphnafgfgkaa
open Go.RowKit Bm
set_option maxRecDepth 100000 in
set_option maxHeartbeats 2000000 in
theorem apartBytes_any (a : Option Addr) (N c : Nat) (ps : List Pc) (w : World) (hr : Rd w a (ps.map pcV)) (hN : N = ps.length) (hN0 : ps ≠ []) (hNb : N ≤ 1000) (hal : All w ps (fun _ _ => [])) (hd : Dist ps) (hsm : ∀ p ∈ ps, p.2.1 ≤ 1000 ∧ p.2.1 ≤ p.2.2) :
    Calls Try.prog 17 #[.slice a N c] w fun e w' => e = .returned (.bool true) ∧ KeptB ps w w' := by
  have HN := hide hN
  have Hd := hide hd
  have Hsm := hide hsm
  have Hr := hide hr
  have Hal := hide hal
  have hN1 : 0 < N := by rw [hN]; exact List.length_pos_iff.2 hN0
  clear hN hd hsm hr hal
  go_enter Try.func17, Try.ntmps17
  go_wp2_with fail
  obtain ⟨W0, hW0⟩ : ∃ W, W = w.alloc (.cells (bagC (.slice none 0 0)) 83) := ⟨_, rfl⟩
  have hbg : Blk W0 w.heap.size 83 (bagC (.slice none 0 0)) := by rw [hW0]; exact Blk.new _ _ _
  have hb0 : Below w.heap.size w W0 := by rw [hW0]; exact (Below.refl _ _).alloc (Nat.le_refl _) _
  have hz0 : w.heap.size + 1 ≤ W0.heap.size := by rw [hW0]; simp
  change Code.wp _ _ _ _ _ at ⊢
  rw [show (w.alloc (.cells #[.slice none 0 0, .slice none 0 0, .slice none 0 0, .slice none 0 0, .slice none 0 0, .slice none 0 0, .slice none 0 0, .slice none 0 0, .slice none 0 0, .slice none 0 0, .slice none 0 0, .slice none 0 0, .slice none 0 0, .slice none 0 0, .slice none 0 0, .slice none 0 0, .slice none 0 0, .slice none 0 0] 83)) = W0 from hW0.symm]
  clear hW0
  go_loopw [4] (fun x W => ∃ (k : Nat) (v : Value), k ≤ N ∧ x = .int .i64 k ∧ Blk W w.heap.size 83 (bagC v) ∧ W.ownsRow (w.heap.size + 1) 24 1 v k ((ps.map pcV).take k) ∧ Below w.heap.size w W ∧ w.heap.size + 1 ≤ W.heap.size) (fun x _ => N - (intOf x).toNat)
  case atStart => exact ⟨0, _, Nat.zero_le _, rfl, hbg, ow_nil _ _ _ _, hb0, hz0⟩
  case round =>
    clear hbg hb0 hz0
    obtain ⟨k, v, hk, rfl, hbg, own, hB, hz⟩ := hrel
    by_cases hkN : k < N
    · obtain ⟨p, hp⟩ : ∃ p, ps[k]? = some p := ⟨_, List.getElem?_eq_getElem (by rw [← HN.out]; exact hkN)⟩
      have hx : (ps.map pcV)[k]? = some (pcV p) := by simp [hp]
      have htk : (ps.map pcV).take (k + 1) = (ps.map pcV).take k ++ [pcV p] := by
        have hl : k < (ps.map pcV).length := by rw [List.length_map, ← HN.out]; exact hkN
        rw [List.take_succ_eq_append_getElem hl]
        rw [List.getElem?_eq_getElem hl] at hx
        injection hx with hx
        rw [hx]
      obtain ⟨b, off, ha, hcell⟩ := (Hr.out.keep hB).cellAt k _ hx
      subst ha
      obtain ⟨pb, n, cp⟩ := p
      have hcell : wr.cell? ⟨b, off + k, none⟩ = some (.slice (pcA (pb, n, cp)) n cp) := hcell
      have hix := fun W => ix_pc b off N c k hkN W
      have Hbg := hide hbg
      have Hown := hide own
      have Htk := hide htk
      clear hbg own htk hx
      go_wp2_with fail
      refine (putBytes_any w.heap.size (w.heap.size + 1) k n cp v (pcA (pb, n, cp)) _ _ Hbg.out Hown.out (by omega) hz (by omega)).mono ?_
      rintro e W1 ⟨rfl, v', hbg1, own1, hB1⟩
      have hB2 : Below w.heap.size w W1 := hB.trans hB1
      have hz1 : w.heap.size + 1 ≤ W1.heap.size := Nat.le_trans hz hB1.size
      have own2 : W1.ownsRow (w.heap.size + 1) 24 1 v' (k + 1) ((ps.map pcV).take (k + 1)) := by rw [Htk.out]; exact own1
      clear hcell hB1 own1 Hbg Hown Htk
      go_wp2
      go_roundw
      case rel => exact ⟨k + 1, v', by omega, by go_num, hbg1, own2, hB2, hz1⟩
      case measure => simp [intOf]; omega
    · have hkN' : k = N := by omega
      subst hkN'
      have htk : (ps.map pcV).take k = ps.map pcV := List.take_of_length_le (by rw [List.length_map, ← HN.out]; exact Nat.le_refl _)
      rw [htk] at own
      obtain ⟨gl, cl, hv, _, _, _⟩ := ow_form own (by omega)
      subst hv
      have hls : Ls wr gl cl ps := by
        unfold Ls
        rw [← HN.out]
        exact ow_mono own (Nat.zero_le _)
      have hal1 : All wr ps (fun _ _ => []) := Hal.out.keep hB
      have hpg : ∀ p ∈ ps, p.1 ≠ some w.heap.size := fun p hp e => by
        obtain ⟨j, hj⟩ := List.mem_iff_getElem?.1 hp
        have := (Hal.out j p hj).lt _ e
        omega
      have hK := (KeptB.refl ps w).keep hB
      have Hbg := hide hbg
      have Hls := hide hls
      have Hal1 := hide hal1
      have Hpg := hide hpg
      clear hbg own hls hal1 hpg htk
      go_wp2_with fail
      refine (apart_any w.heap.size gl cl k ps _ Hbg.out HN.out hN0 hNb Hls.out Hal1.out Hd.out Hsm.out Hpg.out).mono ?_
      rintro e W1 ⟨rfl, hk1⟩
      have hK1 := hK.trans hk1
      go_wp2
      go_ret
      exact ⟨rfl, hK1⟩
end Go.Proofs.Ytafcphnafgfgkaa

