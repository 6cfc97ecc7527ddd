/- A map of two rows of bits, laid by a literal and looked at. -/
import Derived.Test.YtofbcgehemclbaaMem
import Derived.MapKept
import Derived.Carry
namespace Go.Proofs.Ytofbcgehemclbaa
open Go.RowKit
def mp1 (v0 : Value) : Obj := .map #[{ key := .int .i64 0, val := v0, born := 0 }] 1
def mp2 (v0 v1 : Value) : Obj := .map #[{ key := .int .i64 0, val := v0, born := 0 }, { key := .int .i64 1, val := v1, born := 1 }] 2
theorem alloc_set (W : World) (x y : Obj) : { W.alloc x with heap := (W.alloc x).heap.setIfInBounds W.heap.size y } = W.alloc y := by
  have h : (W.heap.push x).setIfInBounds W.heap.size y = W.heap.push y := by
    apply Array.ext_getElem?
    intro i
    rw [Array.getElem?_setIfInBounds, Array.getElem?_push, Array.getElem?_push]
    by_cases e : W.heap.size = i
    · subst e; simp
    · rw [if_neg e, if_neg (fun h => e h.symm), if_neg (fun h => e h.symm)]
  show World.mk _ _ _ _ _ = World.mk _ _ _ _ _
  rw [World.mk.injEq]
  exact ⟨h, rfl, rfl, rfl, rfl⟩
theorem key_int (n : Int) : MapKept.IsKey (.int .i64) (.int .i64 n) := by trivial
theorem run_ins0 (W : World) (v0 : Value) : (Instr.mapUpdate 101 (.map (some W.heap.size)) (.int .i64 0) v0).run Try.prog (W.alloc (.map #[] 0)) = .ok () (W.alloc (mp1 v0)) := by
  have hb : (W.alloc (.map #[] 0)).heap[W.heap.size]? = some (.map #[] 0) := heap_alloc_new _ _
  have hf : (Instr.findKey 3 (.int .i64 0) []).run Try.prog (W.alloc (.map #[] 0)) = .ok none (W.alloc (.map #[] 0)) := MapKept.run_findKey Try.underlying3 rfl
  have hs := MapKept.run_setObj_map (P := Try.prog) (mp1 v0) hb
  rw [alloc_set] at hs
  simp only [Instr.mapUpdate, Sem.run_bind, run_underlying Try.underlying101, Result.andThen_ok, MapKept.run_getObj_map hb, MapKept.run_checkKey Try.underlying3 (key_int 0)]
  rw [hf]
  exact hs
theorem run_ins1 (W : World) (v0 v1 : Value) : (Instr.mapUpdate 101 (.map (some W.heap.size)) (.int .i64 1) v1).run Try.prog (W.alloc (mp1 v0)) = .ok () (W.alloc (mp2 v0 v1)) := by
  have hb : (W.alloc (mp1 v0)).heap[W.heap.size]? = some (.map #[{ key := .int .i64 0, val := v0, born := 0 }] 1) := heap_alloc_new _ _
  have hf : (Instr.findKey 3 (.int .i64 1) [{ key := .int .i64 0, val := v0, born := 0 }]).run Try.prog (W.alloc (mp1 v0)) = .ok none (W.alloc (mp1 v0)) := MapKept.run_findKey Try.underlying3 rfl
  have hs := MapKept.run_setObj_map (P := Try.prog) (mp2 v0 v1) hb
  rw [alloc_set] at hs
  simp only [Instr.mapUpdate, Sem.run_bind, run_underlying Try.underlying101, Result.andThen_ok, MapKept.run_getObj_map hb, MapKept.run_checkKey Try.underlying3 (key_int 1)]
  rw [hf]
  exact hs
theorem run_look0 (W : World) (v0 v1 : Value) : (Instr.lookup 101 (.map (some W.heap.size)) (.int .i64 0) false).run Try.prog (W.alloc (mp2 v0 v1)) = .ok v0 (W.alloc (mp2 v0 v1)) := by
  have hb : (W.alloc (mp2 v0 v1)).heap[W.heap.size]? = some (.map #[{ key := .int .i64 0, val := v0, born := 0 }, { key := .int .i64 1, val := v1, born := 1 }] 2) := heap_alloc_new _ _
  have hf : (Instr.findKey 3 (.int .i64 0) [{ key := .int .i64 0, val := v0, born := 0 }, { key := .int .i64 1, val := v1, born := 1 }]).run Try.prog (W.alloc (mp2 v0 v1)) = .ok (some (0, v0)) (W.alloc (mp2 v0 v1)) := MapKept.run_findKey Try.underlying3 rfl
  simp only [Instr.lookup, Sem.run_bind, run_underlying Try.underlying101, Result.andThen_ok, MapKept.run_getObj_map hb, MapKept.run_checkKey Try.underlying3 (key_int 0), Sem.run_pure, hf]
  rfl
theorem run_look1 (W : World) (v0 v1 : Value) : (Instr.lookup 101 (.map (some W.heap.size)) (.int .i64 1) false).run Try.prog (W.alloc (mp2 v0 v1)) = .ok v1 (W.alloc (mp2 v0 v1)) := by
  have hb : (W.alloc (mp2 v0 v1)).heap[W.heap.size]? = some (.map #[{ key := .int .i64 0, val := v0, born := 0 }, { key := .int .i64 1, val := v1, born := 1 }] 2) := heap_alloc_new _ _
  have hf : (Instr.findKey 3 (.int .i64 1) [{ key := .int .i64 0, val := v0, born := 0 }, { key := .int .i64 1, val := v1, born := 1 }]).run Try.prog (W.alloc (mp2 v0 v1)) = .ok (some (1, v1)) (W.alloc (mp2 v0 v1)) := MapKept.run_findKey Try.underlying3 rfl
  simp only [Instr.lookup, Sem.run_bind, run_underlying Try.underlying101, Result.andThen_ok, MapKept.run_getObj_map hb, MapKept.run_checkKey Try.underlying3 (key_int 1), Sem.run_pure, hf]
  rfl
end Go.Proofs.Ytofbcgehemclbaa
