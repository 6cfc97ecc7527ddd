/- bytes.Compare. -/
import Derived.Test.YtobdajealbhjmaaGreatDoorMem
import Derived.Test.YtobdajealbhjmaaGreatDoorRows
import Derived.Lib.Bytealg
namespace Go.Proofs.YtobdajealbhjmaaGreatDoor
open Go.RowKit
theorem run_loadB {P : Program} {w : World} : ∀ (l : List UInt8) (b off : Nat) (acc : ByteArray), (∀ j (h : j < l.length), w.cell? ⟨b, off + j, none⟩ = some (.int .u8 ((l[j]'h).toNat : Int))) →
    (Extern.Bytes.loadBytes ⟨b, off, none⟩ l.length acc).run P w = .ok ⟨acc.data ++ l.toArray⟩ w
  | [], b, off, acc, _ => by simp [Extern.Bytes.loadBytes]
  | x :: l, b, off, acc, h => by
    have h0 : w.cell? ⟨b, off, none⟩ = some (.int .u8 (x.toNat : Int)) := h 0 (by simp)
    have ih := run_loadB (P := P) (w := w) l b (off + 1) (acc.push x) (fun j hj => by
      have := h (j + 1) (by simp; omega)
      rw [show off + 1 + j = off + (j + 1) from by omega]
      simpa using this)
    have he : (x.toNat : Int).toNat.toUInt8 = x := by simp
    have ha : (Addr.mk b off none).add 1 = ⟨b, off + 1, none⟩ := rfl
    simp only [List.length_cons, Extern.Bytes.loadBytes, Sem.run_bind]
    rw [show (load (Addr.mk b off none)).run P w = .ok (.int .u8 (x.toNat : Int)) w from by simp [load, Sem.run, h0]]
    simp only [Result.andThen, he, ha, ih]
    simp [ByteArray.push]
theorem run_bytesOf {P : Program} {w : World} {a : Option Addr} {bs : List UInt8} (h : RdB w a bs) (n c : Nat) (hn : n = bs.length) :
    (Extern.Bytes.bytesOf (.slice a n c)).run P w = .ok ⟨bs.toArray⟩ w := by
  subst hn
  rcases h with rfl | ⟨b, off, rfl, _, hc⟩
  · cases a <;> simp [Extern.Bytes.bytesOf, Extern.Bytes.loadBytes] <;> rfl
  · have := run_loadB (P := P) bs b off .empty hc
    simp only [Extern.Bytes.bytesOf, this]
    rw [show (ByteArray.empty.data ++ bs.toArray) = bs.toArray from by rw [show ByteArray.empty.data = #[] from rfl, Array.empty_append]]
theorem run_cmp {P : Program} {w : World} {a b : Option Addr} {xs ys : List UInt8} (hx : RdB w a xs) (hy : RdB w b ys) (n c m d : Nat) (hn : n = xs.length) (hm : m = ys.length) :
    (Extern.BytealgCompare.compare #[.slice a n c, .slice b m d]).run P w = .ok (.int .i64 (Lib.compareBytes xs ys)) w := by
  change Sem.run P (do pure (goInt (Extern.BytealgCompare.cmp (← Extern.Bytes.bytesOf (.slice a n c)) (← Extern.Bytes.bytesOf (.slice b m d))))) w = _
  simp only [Sem.run_bind, run_bytesOf hx n c hn, run_bytesOf hy m d hm, Sem.run_pure, Result.andThen]
  rw [Lib.cmp_eq]
  rfl
set_option maxRecDepth 100000 in
set_option maxHeartbeats 400000 in
theorem bytesCompare_any (a b : Option Addr) (xs ys : List UInt8) (n c m d : Nat) (w : World) (hx : RdB w a xs) (hy : RdB w b ys) (hn : n = xs.length) (hm : m = ys.length) :
    Calls Tryz.prog 112 #[.slice a n c, .slice b m d] w fun e w' => e = .returned (.int .i64 (Lib.compareBytes xs ys)) ∧ w = w' := by
  have hrun := run_cmp (P := Tryz.prog) hx hy n c m d hn hm
  clear hx hy hn hm
  go_enter Tryz.func112, Tryz.ntmps112
  go_wp2
  rw [run_callFunc_extern Tryz.func148 (by kernel_rfl) (by kernel_rfl) (by kernel_rfl) (e := Extern.BytealgCompare.compare) (by kernel_rfl)]
  rw [hrun]
  simp only [Result.andThen]
  rw [Oper.upon_value]
  go_wp2
  go_ret
  exact ⟨rfl, rfl⟩
end Go.Proofs.YtobdajealbhjmaaGreatDoor
