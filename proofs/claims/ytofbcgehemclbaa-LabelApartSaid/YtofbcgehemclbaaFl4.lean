/- parchmentkit: putBytes, apart, ApartBytes. -/
import Derived.Test.YtofbcgehemclbaaFl0
import Derived.Test.YtofbcgehemclbaaFl3
namespace Go.Proofs.Ytofbcgehemclbaa
open Go.RowKit Bm
def nl : Value := .slice none 0 0
def bagC (v : Value) : Array Value := #[.slice none 0 0, .slice none 0 0, .slice none 0 0, .slice none 0 0, v, .slice none 0 0, .slice none 0 0, .slice none 0 0, .slice none 0 0, .slice none 0 0, .slice none 0 0, .slice none 0 0, .slice none 0 0, .slice none 0 0, .slice none 0 0, .slice none 0 0, .slice none 0 0, .slice none 0 0]
set_option maxRecDepth 100000 in
set_option maxHeartbeats 2000000 in
theorem putBytes_any (gbg B n m c : Nat) (v : Value) (a : Option Addr) (xs : List Value) (w : World) (hbg : Blk w gbg 87 (bagC v)) (ho : w.ownsRow B 22 1 v n xs) (hBg : gbg < B) (hB : B ≤ w.heap.size) (hn : n ≤ 1000) :
    Calls Try.prog 47 #[.pointer (some ⟨gbg, 0, none⟩), .slice a m c] w fun e w' => e = .returned (.tuple #[]) ∧
      ∃ v', Blk w' gbg 87 (bagC v') ∧ w'.ownsRow B 22 1 v' (n + 1) (xs ++ [.slice a m c]) ∧ Below gbg w w' := by
  obtain ⟨i1, hi1, hi2, hi3, hi4⟩ := info_parts pieceInfo
  have Hi : Hid (Try.prog.info? 22 = some i1 ∧ i1.zero = some (.slice none 0 0) ∧ i1.size = 1 ∧ i1.bytes = 24) := ⟨hi1, hi2, hi3, hi4⟩
  obtain ⟨av, cv, hv⟩ := ow_forms ho
  subst hv
  have c4 : w.cell? ⟨gbg, 4, none⟩ = some (.slice av n cv) := hbg.cell 4
  have hk := (Below.refl w.heap.size w).alloc (Nat.le_refl _) (.cells #[.slice a m c] 22)
  have ho1 := ow_keep ho hk
  have hb1 := hbg.keep hk
  have hrd := Rd.new w 22 [.slice a m c]
  have Ho1 := hide ho1
  have Hb1 := hide hb1
  have Hrd := hide hrd
  clear hi1 hi2 hi3 hi4 ho hbg ho1 hb1 hrd
  go_enter Try.func47, Try.ntmps47
  go_wp2_with (at_builtin; refine wpList_appR rfl _ _ 25 rfl i1 _ 24 1 Try.underlying25 Hi.out.1 Hi.out.2.1 Hi.out.2.2.1 Hi.out.2.2.2 rfl (by decide) rfl rfl ?e1 Ho1.out Hrd.out (m := 1) rfl ?e2 ?e3 ?e4 ?_)
  case e1 => intro u hu; simp at hu; subst hu; rfl
  case e2 => omega
  case e3 => omega
  case e4 => simp; omega
  intro v' W3 own3 hg3 hv3
  have hbl := fun b hb => (ow_lt Ho1.out b hb).1
  have hb3 : Blk W3 gbg 87 (bagC (.slice av n cv)) := Hb1.out.other hg3 fun e => by have := hbl gbg e; omega
  have hB3 : Below gbg w W3 := (((Below.refl gbg w).alloc (by omega) _).grown hg3 (by simp; omega) fun b hb => by have := hbl b hb; omega)
  obtain ⟨a', c', hv'⟩ := ow_forms own3
  subst hv'
  have d4 : W3.cell? ⟨gbg, 4, none⟩ = some (.slice av n cv) := hb3.cell 4
  have f4 := hb3.frozen 4
  have hb4 : Blk (W3.setCell ⟨gbg, 4, none⟩ (.slice a' (n + 1) c')) gbg 87 (bagC (.slice a' (n + 1) c')) := hb3.set_ 4 _
  have hB4 : Below gbg w (W3.setCell ⟨gbg, 4, none⟩ (.slice a' (n + 1) c')) := hB3.setCell (p := ⟨gbg, 4, none⟩) (Nat.le_refl _) _
  have own4 : (W3.setCell ⟨gbg, 4, none⟩ (.slice a' (n + 1) c')).ownsRow B 22 1 (.slice a' (n + 1) c') (n + 1) (xs ++ [.slice a m c]) := by
    refine World.ownsRow.kept own3 (grown_setCell W3 ⟨gbg, 4, none⟩ (.slice a' (n + 1) c')) ?_
    cases hv : (Value.slice a' (n + 1) c').ownBlock with
    | none => exact .inl rfl
    | some b => exact .inr fun e => by injection e with e; have := (ow_lt own3 b hv).1; dsimp only at e; omega
  have Hb4 := hide hb4
  have Hown4 := hide own4
  clear own3 hg3 hv3 hb3 hb4 own4 c4 Ho1 Hb1 Hrd hB3
  go_wp2
  go_end0
  exact ⟨rfl, _, Hb4.out, Hown4.out, hB4⟩
end Go.Proofs.Ytofbcgehemclbaa

