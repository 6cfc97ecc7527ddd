/- Kids answers what the reference does. -/
import Derived.Test.YtofbcgehemclbaaLr8
import Derived.Test.YtofbcgehemclbaaLq
namespace Go.Proofs.Ytofbcgehemclbaa
open Go.RowKit Bm Classical
def KidIs (f : FuncId) (ls : List UInt8) (x q : Int) (bss : List (List UInt8)) (l : Nat) : Prop :=
  ∀ (a : Option Addr) (n c : Nat) (w : World), RdB w a ls → n = ls.length → (n : Int) ≤ 9223372036854775807 →
    Calls Try.prog f #[.slice a n c, .int .i64 x] w fun e w' => ∃ a' c', e = .returned (.tuple #[.slice a' l c', .int .i64 q]) ∧ RdP w' a' bss ∧ Below w.heap.size w w'
theorem kidRows_length (ss : List (List Bool)) (k n : Nat) : (kidRows ss k n).length = n := by simp [kidRows]
theorem pcs_rdp {B : Nat} {W : World} {a : Option Addr} {ps : List Piece} {rs : List (List Bool)} (hps : ps.map (·.2.2) = rs) (hrd : Rd W a (vsOf ps)) (hpc : Pcs B W ps) : RdP W a (rs.map pkL) := by
  subst hps
  refine ⟨ps.map fun p => (some ⟨p.1, 0, none⟩, p.2.1, pkL p.2.2), by simp, ?_, fun p hp => ?_⟩
  · have : vsP (ps.map fun p => ((some ⟨p.1, 0, none⟩, p.2.1, pkL p.2.2) : PcV)) = vsOf ps := by
      simp [vsP, vsOf, length_pkL]
    rw [this]; exact hrd
  · obtain ⟨q, hq, rfl⟩ := List.mem_map.1 hp
    exact (hpc.fr q hq).rd
theorem kidBad {f : FuncId} {ls : List UInt8} {x : Int}
    (h : ∀ (a : Option Addr) (n c : Nat) (w : World), RdB w a ls → n = ls.length → (n : Int) ≤ 9223372036854775807 →
    Calls Try.prog f #[.slice a n c, .int .i64 x] w fun e w' => e = .returned (.tuple #[.slice none 0 0, .int .i64 2]) ∧ Below w.heap.size w w') : KidIs f ls x 2 [] 0 :=
  fun a n c w h1 h2 h3 => (h a n c w h1 h2 h3).mono fun e w' ⟨he, hb⟩ => ⟨none, 0, he, RdP.nil _ _, hb⟩
theorem kids_both (ls : List UInt8) (x : Int) (hx : x ≤ 300 ∨ 16384 < x) : ∃ (q : Int) (bss : List (List UInt8)) (l : Nat), l = bss.length ∧ l ≤ 1048576 ∧ (∀ bs ∈ bss, bs.length ≤ 1048576) ∧
    KidIs 11 ls x q bss l ∧ KidIs 12 ls x q bss l := by
  by_cases hp : ∃ pp, IsL ls pp
  · obtain ⟨pp, hp⟩ := hp
    by_cases hbad : x < 0 ∨ 16384 < x
    · exact ⟨2, [], 0, rfl, by decide, by simp,
        kidBad fun a n c w h1 h2 h3 => kids_count a ls pp n c x w h1 h2 h3 hp hbad,
        kidBad fun a n c w h1 h2 h3 => rkids_count a ls pp n c x w h1 h2 h3 hp hbad⟩
    · obtain ⟨m, rfl⟩ : ∃ m : Nat, x = m := ⟨x.toNat, by omega⟩
      have hm : m ≤ 16384 := by omega
      obtain ⟨k, hk1, hk2⟩ := least_pow m
      by_cases hall : ∀ r ∈ kidRows pp k m, r.length ≤ 1024
      · refine ⟨0, (kidRows pp k m).map pkL, m, by rw [List.length_map, kidRows_length], by omega, ?_,
          fun a n c w h1 h2 h3 => (kids_any a ls pp n c m k w h1 h2 h3 hp hm hk1 hk2).mono ?_,
          fun a n c w h1 h2 h3 => (rkids_any a ls pp n c m k w h1 h2 h3 hp hm hk1 hk2).mono ?_⟩
        · intro bs hbs
          obtain ⟨r, hr, rfl⟩ := List.mem_map.1 hbs
          have := hall r hr
          rw [length_pkL]; unfold nb; omega
        · rintro e w' (⟨_, a', c', ps, hps, he, hrd, hpc, hb⟩ | ⟨⟨r, hr, h⟩, _⟩)
          · exact ⟨a', c', he, pcs_rdp hps hrd hpc, hb⟩
          · have := hall r hr; omega
        · rintro e w' (⟨_, a', c', he, hrd, hb⟩ | ⟨⟨r, hr, h⟩, _⟩)
          · exact ⟨a', c', he, hrd, hb⟩
          · have := hall r hr; omega
      · refine ⟨140, [], 0, rfl, by decide, by simp,
          fun a n c w h1 h2 h3 => (kids_any a ls pp n c m k w h1 h2 h3 hp hm hk1 hk2).mono ?_,
          fun a n c w h1 h2 h3 => (rkids_any a ls pp n c m k w h1 h2 h3 hp hm hk1 hk2).mono ?_⟩
        · rintro e w' (⟨h, _⟩ | ⟨_, he, hb⟩)
          · exact absurd h hall
          · exact ⟨none, 0, he, RdP.nil _ _, hb⟩
        · rintro e w' (⟨h, _⟩ | ⟨_, he, hb⟩)
          · exact absurd h hall
          · exact ⟨none, 0, he, RdP.nil _ _, hb⟩
  · exact ⟨2, [], 0, rfl, by decide, by simp,
      kidBad fun a n c w h1 h2 h3 => kids_noparent a ls n c x w h1 h2 h3 hp,
      kidBad fun a n c w h1 h2 h3 => rkids_noparent a ls n c x w h1 h2 h3 hp⟩
end Go.Proofs.Ytofbcgehemclbaa
