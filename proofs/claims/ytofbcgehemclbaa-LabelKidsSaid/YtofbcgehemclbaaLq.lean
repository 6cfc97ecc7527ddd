/- parchmentkit.SamePieces. -/
import Derived.Test.YtofbcgehemclbaaLl1
import Derived.Test.YtofbcgehemclbaaLp
namespace Go.Proofs.Ytofbcgehemclbaa
open Go.RowKit Bm
set_option maxRecDepth 100000 in
set_option maxHeartbeats 2000000 in
theorem samePieces_any (a b : Option Addr) (bss : List (List UInt8)) (n c m d : Nat) (w : World) (hx : RdP w a bss) (hy : RdP w b bss) (hn : n = bss.length) (hm : m = bss.length) (hle : n ≤ 1048576) (hall : ∀ bs ∈ bss, bs.length ≤ 1048576) :
    Calls Try.prog 13 #[.slice a n c, .slice b m d] w fun e w' => e = .returned (.bool true) ∧ Below w.heap.size w w' := by
  have hne : ((n : Int) != (m : Int)) = false := by rw [hn, hm]; simp
  have Hn := hide hn
  have Hm := hide hm
  have Hall := hide hall
  clear hn hm hall
  go_enter Try.func13, Try.ntmps13
  go_wp2_with fail
  clear hne
  go_loopw [5] (fun x W => ∃ k : Nat, k ≤ n ∧ x = .int .i64 k ∧ Below w.heap.size w W) (fun x _ => n - (intOf x).toNat)
  case atStart => exact ⟨0, Nat.zero_le _, rfl, Below.refl _ _⟩
  case round =>
    obtain ⟨k, hk, rfl, hB⟩ := hrel
    by_cases hlt : k < n
    · obtain ⟨bs, hbs⟩ : ∃ bs, bss[k]? = some bs := ⟨_, List.getElem?_eq_getElem (by rw [← Hn.out]; exact hlt)⟩
      have hbl : bs.length ≤ 1048576 := Hall.out bs (List.mem_of_getElem? hbs)
      obtain ⟨b1, o1, p1, c1, rfl, k1, r1⟩ := (hx.keep hB).at k bs hbs
      obtain ⟨b2, o2, p2, c2, rfl, k2, r2⟩ := (hy.keep hB).at k bs hbs
      obtain ⟨bl, hbl2⟩ : ∃ l, l = bs.length := ⟨_, rfl⟩
      rw [← hbl2] at k1 k2 hbl
      have Hbl := hide hbl2
      have i1 := fun W => ix_pc b1 o1 n c k hlt W
      have i2 := fun W => ix_pc b2 o2 m d k (by rw [Hm.out, ← Hn.out]; exact hlt) W
      have l1 := later_cell k1
      have l2 := later_cell k2
      clear hbs hbl2 k1 k2
      go_wp2_with fail
      refine wp_region_later (by kernel_rfl) (by kernel_rfl) ?_
      repeat (go_big_quiet_step ((go_at_call 17; exact later_of (sameT p1 p2 bs bl c1 bl c2 _ (r1.keep (Subtype.property _)) (r2.keep (Subtype.property _)) Hbl.out Hbl.out hbl))))
      refine wpQuiet_nil ?_
      intro w5 hw'
      obtain ⟨⟨w5', hb5⟩, hw''⟩ := hw'
      change w5 = w5' at hw''
      subst hw''
      have hB5 := chain0 hB hb5
      clear hB hb5 l1 l2
      go_wp2
      go_roundw
      case rel => exact ⟨k + 1, by omega, by go_num, hB5⟩
      case measure => simp [intOf]; omega
    · have hkn : k = n := by omega
      subst hkn
      go_wp2
      go_ret
      exact ⟨rfl, hB⟩
end Go.Proofs.Ytofbcgehemclbaa
