/- restore.redo where there are no records. -/
import Derived.Test.YtobdajealbhjmaaGreatDoorMem
import Derived.Conc.LoneCalls
namespace Go.Conc
section
variable {P : Program} {fr : Frame} {cs : List Frame} {w w₁ : World} {es : Array Event} {c cap s r : Nat} {z : Value} {tm : Bool}
/-- A select of one receive, with a default; the channel is closed and its buffer empty. -/
theorem step_lone_select_shut (h : stepG P true (G fr cs) w = .comm (G fr cs) #[rcase c z] false .select w₁ es) (hc : w₁.heap[c]? = some (.chan cap #[] true s r tm)) :
    step P (solo (G fr cs) w) = .next (solo (G (fr.finish (.tuple #[goInt 0, .bool false, z])) cs) w₁) := by
  have hp := partners_alone (c := c) true
  rw [step, stepT_solo rfl]
  simp [runT, solo, G, Array.swapAt!, Array.swapAt, h, GStep.es, communicate, ways, rcase, hc, hp, choose, Sem.run, Question.forced, bind, Sem.bind, pure, Goroutine.finishComm, commResult] at h ⊢
end
end Go.Conc
namespace Go.Proofs.YtobdajealbhjmaaGreatDoor
open Go.Conc Go.RowKit
set_option maxRecDepth 100000
theorem mkchan (w : World) : (Instr.makeChan 229 (.int .i64 0)).run Tryz.prog w = .ok (.chan (some w.heap.size)) (w.alloc (.chan 0 #[] false 0 0 false)) := by
  have h : (Tryz.prog.info? 76).map (·.bytes) = some 112 := by kernel_rfl
  have hu : Tryz.prog.underlying 229 = some (.chan .both 76) := by kernel_rfl
  obtain ⟨i, hi, hb⟩ := Option.map_eq_some_iff.1 h
  simpa using run_makeChan (P := Tryz.prog) (w := w) hu hi .i64 0 (by omega) (by rw [hb]; omega)
def recZ : Value := .agg #[.int .i64 0, .int .i64 0, .int .u8 0, .int .i64 0, .int .i64 0, .int .i64 0, .int .i64 0, .int .i64 0, .slice none 0 0, .slice none 0 0]
set_option maxHeartbeats 1000000 in
theorem redo_nil (p t : Value) (w : World) : Calls Tryz.prog 93 #[.slice none 0 0, p, t] w fun e w' => e = .returned (.int .i64 0) ∧ Below w.heap.size w w' := by
  refine calls_of_loneTo fun cs => ?_
  have e : Frame.enter Tryz.prog 93 #[.slice none 0 0, p, t] .normal = (base 93).at ⟨#[.slice none 0 0, p, t, undef, undef, undef, undef, undef, undef, undef, undef, undef, undef, undef, undef, undef, undef, undef, undef, undef, undef, undef, undef, undef, undef, undef, undef, undef, undef, undef, undef, undef, undef, undef, undef, undef, undef, undef, undef, undef, undef, undef, undef, undef, undef, undef, undef, undef, undef, undef, undef, undef, undef, undef, undef, undef, undef, undef], []⟩ [.code (Tryz.f93.body.getD .skip)] := by
    simp [Frame.enter, Frame.at, Tryz.func93, base, Tryz.f93]
    try rfl
  rw [e]
  have hmc := mkchan
  refine LoneTo.goes (n := 60) ?_
  simp only [Tryz.f93, Option.getD_some]
  s_c stepG_seq
  s_reg
  s_op
  s_c stepG_region_end
  s_c stepG_seq
  s_reg
  s_op
  s_call Tryz.func140 (by kernel_rfl) Tryz.f140
  s_c stepG_seq
  s_reg
  s_op
  s_c stepG_region_end
  s_c stepG_seq
  s_reg
  s_op
  s_op
  s_op
  s_op
  s_c stepG_region_end
  s_c stepG_seq
  s_c stepG_seq
  s_reg
  s_op
  s_op
  s_op
  s_c stepG_region_end
  s_c stepG_block
  s_c stepG_loop
  s_c stepG_seq
  s_reg
  s_op
  s_c stepG_region_end
  s_c stepG_seq
  s_cond false
  s_exit
  s_c stepG_seq
  s_reg
  s_op
  -- close
  s_in
  refine goes_oper_k rfl rfl (by decide) (fun K hK => ?_)
  have hcl := fun ats ty => run_close_open (P := Tryz.prog) (w := (w.alloc (.chan 0 #[] false 0 0 false))) ats ty (heap_alloc_new w (.chan 0 #[] false 0 0 false))
  go_simp
  refine hK _ _ ⟨trivial, ?_⟩
  clear hK K hcl
  s_c stepG_region_end
  s_c stepG_seq
  s_reg
  s_op
  s_op
  s_c stepG_region_end
  s_c stepG_ret'
  s_leave1 Tryz.func140
  s_op
  s_c stepG_region_end
  s_c stepG_block
  s_c stepG_loop
  s_c stepG_block
  s_c stepG_seq
  s_reg
  s_op
  s_c stepG_region_end
  s_c stepG_seq
  s_reg
  s_stop
  refine LoneTo.step (step_lone_select_shut (c := w.heap.size) (z := recZ) (cap := 0) (s := 0) (r := 0) (tm := false) (stepG_comm (cases := #[rcase w.heap.size recZ]) (blocking := false) (shape := .select) (w' := ((w.alloc (.chan 0 #[] false 0 0 false)).setChan w.heap.size 0 #[] true 0 0 false)) rfl rfl (by decide) (by simp [go_sem, execOp, rcase, Act.eval, recZ, World.setChan])) (heap_setChan (w.alloc (.chan 0 #[] false 0 0 false)) w.heap.size 0 #[] true 0 0 false (by simp))) ?_
  rw [Frame.finish_at]
  walk_nrm
  refine LoneTo.goes (n := 40) ?_
  s_op
  s_op
  s_c stepG_region_end
  s_c stepG_block
  s_cond true
  s_c stepG_seq
  s_reg
  s_op
  s_op
  s_op
  simp only [recZ]
  s_op
  s_op
  s_c stepG_region_end
  s_c stepG_seq
  s_c stepG_seq
  s_reg
  s_op
  s_op
  s_c stepG_region_end
  s_cond true
  s_c stepG_seq
  s_reg
  s_op
  s_c stepG_region_end
  s_c stepG_ret'
  s_stop
  refine LoneTo.done ⟨.returned (.int .i64 0), _, rfl, ⟨rfl, ?_⟩, rfl, rfl, rfl, rfl, _, Tryz.func93, by simp [results, Tryz.f93, Frame.at]⟩
  exact (below_setChan ((Below.refl _ w).alloc (Nat.le_refl _) _) (Nat.le_refl _) _ _ _ _ _ _).alloc (by simp [World.setChan]) _
end Go.Proofs.YtobdajealbhjmaaGreatDoor
