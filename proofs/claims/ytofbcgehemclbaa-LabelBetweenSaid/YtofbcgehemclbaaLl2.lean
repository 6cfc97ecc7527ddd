/- Between answers what the reference does. -/
import Derived.Test.YtofbcgehemclbaaLr7
import Derived.Test.YtofbcgehemclbaaLb9
import Derived.Test.YtofbcgehemclbaaLl1
namespace Go.Proofs.Ytofbcgehemclbaa
open Go.RowKit Bm Classical
def BetIs (f : FuncId) (ps as_ bs : List UInt8) (q : Int) (out : List UInt8) (l : Nat) : Prop :=
  ∀ (p a b : Option Addr) (n c m d k f' : Nat) (w : World), RdB w p ps → RdB w a as_ → RdB w b bs → n = ps.length → m = as_.length → k = bs.length →
    (n : Int) ≤ 9223372036854775807 → (m : Int) ≤ 9223372036854775807 → (k : Int) ≤ 9223372036854775807 →
    Calls Try.prog f #[.slice p n c, .slice a m d, .slice b k f'] w fun e w' => ∃ a' c', e = .returned (.tuple #[.slice a' l c', .int .i64 q]) ∧ RdB w' a' out ∧ Below w.heap.size w w'
theorem lex_not {s t : List Bool} (h : ¬ lexB s t = -1) : 0 ≤ lexB s t := by
  rcases lex_or s t with h1 | h1
  · exact absurd h1 h
  · exact h1
theorem betBad {f : FuncId} {ps as_ bs : List UInt8}
    (h : ∀ (p a b : Option Addr) (n c m d k f' : Nat) (w : World), RdB w p ps → RdB w a as_ → RdB w b bs → n = ps.length → m = as_.length → k = bs.length →
    (n : Int) ≤ 9223372036854775807 → (m : Int) ≤ 9223372036854775807 → (k : Int) ≤ 9223372036854775807 →
    Calls Try.prog f #[.slice p n c, .slice a m d, .slice b k f'] w fun e w' => e = .returned (.tuple #[.slice none 0 0, .int .i64 2]) ∧ Below w.heap.size w w') : BetIs f ps as_ bs 2 [] 0 :=
  fun p a b n c m d k f' w h1 h2 h3 h4 h5 h6 h7 h8 h9 => (h p a b n c m d k f' w h1 h2 h3 h4 h5 h6 h7 h8 h9).mono fun e w' ⟨he, hb⟩ => ⟨none, 0, he, .inl rfl, hb⟩
theorem between_both (ps as_ bs : List UInt8) : ∃ (q : Int) (out : List UInt8) (l : Nat), l = out.length ∧ l ≤ 1000 ∧ BetIs 15 ps as_ bs q out l ∧ BetIs 16 ps as_ bs q out l := by
  by_cases hp : ∃ pp, IsL ps pp
  · obtain ⟨pp, hp⟩ := hp
    by_cases hbad : (¬ ∃ s, ChildOf pp as_ s) ∨ (¬ ∃ s, ChildOf pp bs s) ∨ ∃ s t, IsL as_ (pp ++ [s]) ∧ IsL bs (pp ++ [t]) ∧ 0 ≤ lexB s t
    · exact ⟨2, [], 0, rfl, by decide,
        betBad fun p a b n c m d k f' w h1 h2 h3 h4 h5 h6 h7 h8 h9 => between_arg p a b ps as_ bs pp n c m d k f' w h1 h2 h3 h4 h5 h6 h7 h8 h9 hp hbad,
        betBad fun p a b n c m d k f' w h1 h2 h3 h4 h5 h6 h7 h8 h9 => rbetween_arg p a b ps as_ bs pp n c m d k f' w h1 h2 h3 h4 h5 h6 h7 h8 h9 hp hbad⟩
    · have hs : ∃ s, ChildOf pp as_ s := Classical.not_not.1 fun h => hbad (.inl h)
      have ht : ∃ s, ChildOf pp bs s := Classical.not_not.1 fun h => hbad (.inr (.inl h))
      obtain ⟨s, hs⟩ := hs
      obtain ⟨t, ht⟩ := ht
      have hlt : as_ ≠ [] → bs ≠ [] → lexB s t = -1 := fun h1 h2 => by
        rcases hs with ⟨h, _⟩ | hs
        · exact absurd h h1
        · rcases ht with ⟨h, _⟩ | ht
          · exact absurd h h2
          · exact Classical.byContradiction fun h => hbad (.inr (.inr ⟨s, t, hs, ht, lex_not h⟩))
      obtain ⟨r, hr⟩ : ∃ r, r = wr (pp ++ [short s t]) := ⟨_, rfl⟩
      by_cases hl : r.length ≤ 1024
      · refine ⟨0, pkL r, nb r.length, (length_pkL r).symm, by unfold nb; omega,
          fun p a b n c m d k f' w h1 h2 h3 h4 h5 h6 h7 h8 h9 => (between_any p a b ps as_ bs pp s t r n c m d k f' w h1 h2 h3 h4 h5 h6 h7 h8 h9 hp hs ht hlt hr).mono ?_,
          fun p a b n c m d k f' w h1 h2 h3 h4 h5 h6 h7 h8 h9 => (rbetween_any p a b ps as_ bs pp s t r n c m d k f' w h1 h2 h3 h4 h5 h6 h7 h8 h9 hp hs ht hlt hr).mono ?_⟩
        · rintro e w' (⟨_, g, cap, he, hp, hb⟩ | ⟨h, _⟩)
          · exact ⟨_, cap, he, hp.rd, hb⟩
          · omega
        · rintro e w' (⟨_, a', cap, he, hp, hb⟩ | ⟨h, _⟩)
          · exact ⟨_, cap, he, hp, hb⟩
          · omega
      · refine ⟨140, [], 0, rfl, by decide,
          fun p a b n c m d k f' w h1 h2 h3 h4 h5 h6 h7 h8 h9 => (between_any p a b ps as_ bs pp s t r n c m d k f' w h1 h2 h3 h4 h5 h6 h7 h8 h9 hp hs ht hlt hr).mono ?_,
          fun p a b n c m d k f' w h1 h2 h3 h4 h5 h6 h7 h8 h9 => (rbetween_any p a b ps as_ bs pp s t r n c m d k f' w h1 h2 h3 h4 h5 h6 h7 h8 h9 hp hs ht hlt hr).mono ?_⟩
        · rintro e w' (⟨h, _⟩ | ⟨_, he, hb⟩)
          · omega
          · exact ⟨none, 0, he, .inl rfl, hb⟩
        · rintro e w' (⟨h, _⟩ | ⟨_, he, hb⟩)
          · omega
          · exact ⟨none, 0, he, .inl rfl, hb⟩
  · exact ⟨2, [], 0, rfl, by decide,
      betBad fun p a b n c m d k f' w h1 h2 h3 h4 h5 h6 h7 h8 h9 => between_noparent a b p ps n c m d k f' w h1 h4 h7 hp,
      betBad fun p a b n c m d k f' w h1 h2 h3 h4 h5 h6 h7 h8 h9 => rbetween_noparent a b p ps n c m d k f' w h1 h4 h7 hp⟩
end Go.Proofs.Ytofbcgehemclbaa
