/- parchmentkit: the flat functions of a nil list answer true. -/
import Derived.Test.YtnnfhojhbbcbmaaGreatDoorC06
namespace Go.Proofs.YtnnfhojhbbcbmaaGreatDoor
set_option maxRecDepth 100000
set_option maxHeartbeats 4000000
open Go.RowKit
theorem Zf4(w:World):Calls Tryz.prog 122 #[.slice none 0 0] w fun e w'=>e= .returned (.bool true)∧Below w.heap.size w w':=by
 have hB:=Below.refl w.heap.size w;go_enter Tryz.func122,Tryz.ntmps122;go_wp2_with fail;go_loopw[3] (fun x W=>x= .int .i64 0∧Below w.heap.size w W) (fun _ _=>0)
 case atStart=>exact⟨rfl,hB⟩
 case round=>
  clear hB;obtain⟨rfl,hB⟩:=hrel;obtain⟨j0,hj,hj0,hj1,hj2⟩:=info_parts (show(Tryz.prog.info? 197).map (fun i=>(i.zero,i.size,i.bytes))=some (some (.slice none 0 0),1,24)from by kernel_rfl);obtain⟨w1,hmk,_,hg1⟩:=run_make_own (P:=Tryz.prog) wr wr.heap.size 99 197 j0 _ 1 Tryz.underlying99 hj hj0 hj1 .i64 .i64 0 (by rw[hj2];decide) (by decide) (Nat.le_refl _);rw[Int.natCast_zero]at hmk;have hb1:Below wr.heap.size wr w1:=(Below.refl _ _).grown hg1 (Nat.le_refl _) (by simp);have hB:=Zb hB hb1;clear hj hj0 hj1 hj2 hg1 hb1;go_wp2_with fail;go_loopw[6] (fun x W=>x= .int .i64 0∧Below w.heap.size w W) (fun _ _=>0)
  case atStart=>exact⟨rfl,hB⟩
  case round=>
   clear hB;obtain⟨rfl,hB⟩:=hrel;go_wp2_with fail;go_loopw[9] (fun x W=>x= .int .i64 0∧Below w.heap.size w W) (fun _ _=>0)
   case atStart=>exact⟨rfl,hB⟩
   case round=>
    clear hB;obtain⟨rfl,hB⟩:=hrel;go_wp2_with fail;go_loopw[11] (fun x W=>x= .int .i64 0∧Below w.heap.size w W) (fun _ _=>0)
    case atStart=>exact⟨rfl,hB⟩
    case round=>
     clear hB;obtain⟨rfl,hB⟩:=hrel;go_wp2_with fail;go_loopw[14] (fun x W=>x= .int .i64 0∧Below w.heap.size w W) (fun _ _=>0)
     case atStart=>exact⟨rfl,hB⟩
     case round=>clear hB;obtain⟨rfl,hB⟩:=hrel;go_wp2;go_ret;exact⟨rfl,hB⟩
theorem Zhl(w:World):Calls Tryz.prog 123 #[.slice none 0 0] w fun e w'=>e= .returned (.bool true)∧Below w.heap.size w w':=by
 have hB:=Below.refl w.heap.size w;go_enter Tryz.func123,Tryz.ntmps123;go_wp2_with fail;go_loopw[3] (fun x W=>x= .int .i64 0∧Below w.heap.size w W) (fun _ _=>0)
 case atStart=>exact⟨rfl,hB⟩
 case round=>
  clear hB;obtain⟨rfl,hB⟩:=hrel;obtain⟨j0,hj,hj0,hj1,hj2⟩:=info_parts (show(Tryz.prog.info? 198).map (fun i=>(i.zero,i.size,i.bytes))=some (some (.slice none 0 0),1,24)from by kernel_rfl);obtain⟨w1,hmk,_,hg1⟩:=run_make_own (P:=Tryz.prog) wr wr.heap.size 100 198 j0 _ 1 Tryz.underlying100 hj hj0 hj1 .i64 .i64 0 (by rw[hj2];decide) (by decide) (Nat.le_refl _);rw[Int.natCast_zero]at hmk;have hb1:Below wr.heap.size wr w1:=(Below.refl _ _).grown hg1 (Nat.le_refl _) (by simp);have hB:=Zb hB hb1;clear hj hj0 hj1 hj2 hg1 hb1;go_wp2_with fail;go_loopw[6] (fun x W=>x= .int .i64 0∧Below w.heap.size w W) (fun _ _=>0)
  case atStart=>exact⟨rfl,hB⟩
  case round=>
   clear hB;obtain⟨rfl,hB⟩:=hrel;go_wp2_with fail;go_loopw[9] (fun x W=>x= .int .i64 0∧Below w.heap.size w W) (fun _ _=>0)
   case atStart=>exact⟨rfl,hB⟩
   case round=>
    clear hB;obtain⟨rfl,hB⟩:=hrel;go_wp2_with fail;go_loopw[11] (fun x W=>x= .int .i64 0∧Below w.heap.size w W) (fun _ _=>0)
    case atStart=>exact⟨rfl,hB⟩
    case round=>
     clear hB;obtain⟨rfl,hB⟩:=hrel;go_wp2_with fail;go_loopw[14] (fun x W=>x= .int .i64 0∧Below w.heap.size w W) (fun _ _=>0)
     case atStart=>exact⟨rfl,hB⟩
     case round=>clear hB;obtain⟨rfl,hB⟩:=hrel;go_wp2;go_ret;exact⟨rfl,hB⟩
theorem Zf5(w:World):Calls Tryz.prog 124 #[.slice none 0 0] w fun e w'=>e= .returned (.bool true)∧Below w.heap.size w w':=by
 have hB:=Below.refl w.heap.size w;go_enter Tryz.func124,Tryz.ntmps124;go_wp2_with fail;go_loopw[3] (fun x W=>x= .int .i64 0∧Below w.heap.size w W) (fun _ _=>0)
 case atStart=>exact⟨rfl,hB⟩
 case round=>
  clear hB;obtain⟨rfl,hB⟩:=hrel;obtain⟨j0,hj,hj0,hj1,hj2⟩:=info_parts (show(Tryz.prog.info? 173).map (fun i=>(i.zero,i.size,i.bytes))=some (some (.slice none 0 0),1,24)from by kernel_rfl);obtain⟨w1,hmk,_,hg1⟩:=run_make_own (P:=Tryz.prog) wr wr.heap.size 101 173 j0 _ 1 Tryz.underlying101 hj hj0 hj1 .i64 .i64 0 (by rw[hj2];decide) (by decide) (Nat.le_refl _);rw[Int.natCast_zero]at hmk;have hb1:Below wr.heap.size wr w1:=(Below.refl _ _).grown hg1 (Nat.le_refl _) (by simp);have hB:=Zb hB hb1;clear hj hj0 hj1 hj2 hg1 hb1;go_wp2_with fail;go_loopw[6] (fun x W=>x= .int .i64 0∧Below w.heap.size w W) (fun _ _=>0)
  case atStart=>exact⟨rfl,hB⟩
  case round=>
   clear hB;obtain⟨rfl,hB⟩:=hrel;go_wp2_with fail;go_loopw[9] (fun x W=>x= .int .i64 0∧Below w.heap.size w W) (fun _ _=>0)
   case atStart=>exact⟨rfl,hB⟩
   case round=>
    clear hB;obtain⟨rfl,hB⟩:=hrel;go_wp2_with fail;go_loopw[11] (fun x W=>x= .int .i64 0∧Below w.heap.size w W) (fun _ _=>0)
    case atStart=>exact⟨rfl,hB⟩
    case round=>
     clear hB;obtain⟨rfl,hB⟩:=hrel;go_wp2_with fail;go_loopw[14] (fun x W=>x= .int .i64 0∧Below w.heap.size w W) (fun _ _=>0)
     case atStart=>exact⟨rfl,hB⟩
     case round=>clear hB;obtain⟨rfl,hB⟩:=hrel;go_wp2;go_ret;exact⟨rfl,hB⟩
theorem Zf6(w:World):Calls Tryz.prog 125 #[.slice none 0 0] w fun e w'=>e= .returned (.bool true)∧Below w.heap.size w w':=by
 have hB:=Below.refl w.heap.size w;go_enter Tryz.func125,Tryz.ntmps125;go_wp2_with fail;go_loopw[3] (fun x W=>x= .int .i64 0∧Below w.heap.size w W) (fun _ _=>0)
 case atStart=>exact⟨rfl,hB⟩
 case round=>
  clear hB;obtain⟨rfl,hB⟩:=hrel;obtain⟨j0,hj,hj0,hj1,hj2⟩:=info_parts (show(Tryz.prog.info? 29).map (fun i=>(i.zero,i.size,i.bytes))=some (some (.slice none 0 0),1,24)from by kernel_rfl);obtain⟨w1,hmk,_,hg1⟩:=run_make_own (P:=Tryz.prog) wr wr.heap.size 102 29 j0 _ 1 Tryz.underlying102 hj hj0 hj1 .i64 .i64 0 (by rw[hj2];decide) (by decide) (Nat.le_refl _);rw[Int.natCast_zero]at hmk;have hb1:Below wr.heap.size wr w1:=(Below.refl _ _).grown hg1 (Nat.le_refl _) (by simp);have hB:=Zb hB hb1;clear hj hj0 hj1 hj2 hg1 hb1;go_wp2_with fail;go_loopw[6] (fun x W=>x= .int .i64 0∧Below w.heap.size w W) (fun _ _=>0)
  case atStart=>exact⟨rfl,hB⟩
  case round=>
   clear hB;obtain⟨rfl,hB⟩:=hrel;go_wp2_with fail;go_loopw[9] (fun x W=>x= .int .i64 0∧Below w.heap.size w W) (fun _ _=>0)
   case atStart=>exact⟨rfl,hB⟩
   case round=>
    clear hB;obtain⟨rfl,hB⟩:=hrel;go_wp2_with fail;go_loopw[11] (fun x W=>x= .int .i64 0∧Below w.heap.size w W) (fun _ _=>0)
    case atStart=>exact⟨rfl,hB⟩
    case round=>
     clear hB;obtain⟨rfl,hB⟩:=hrel;go_wp2_with fail;go_loopw[14] (fun x W=>x= .int .i64 0∧Below w.heap.size w W) (fun _ _=>0)
     case atStart=>exact⟨rfl,hB⟩
     case round=>clear hB;obtain⟨rfl,hB⟩:=hrel;go_wp2;go_ret;exact⟨rfl,hB⟩
theorem Zf7(w:World):Calls Tryz.prog 126 #[.slice none 0 0] w fun e w'=>e= .returned (.bool true)∧Below w.heap.size w w':=by
 have hB:=Below.refl w.heap.size w;go_enter Tryz.func126,Tryz.ntmps126;go_wp2_with fail;go_loopw[3] (fun x W=>x= .int .i64 0∧Below w.heap.size w W) (fun _ _=>0)
 case atStart=>exact⟨rfl,hB⟩
 case round=>
  clear hB;obtain⟨rfl,hB⟩:=hrel;obtain⟨j0,hj,hj0,hj1,hj2⟩:=info_parts (show(Tryz.prog.info? 61).map (fun i=>(i.zero,i.size,i.bytes))=some (some (.slice none 0 0),1,24)from by kernel_rfl);obtain⟨w1,hmk,_,hg1⟩:=run_make_own (P:=Tryz.prog) wr wr.heap.size 103 61 j0 _ 1 Tryz.underlying103 hj hj0 hj1 .i64 .i64 0 (by rw[hj2];decide) (by decide) (Nat.le_refl _);rw[Int.natCast_zero]at hmk;have hb1:Below wr.heap.size wr w1:=(Below.refl _ _).grown hg1 (Nat.le_refl _) (by simp);have hB:=Zb hB hb1;clear hj hj0 hj1 hj2 hg1 hb1;go_wp2_with fail;go_loopw[6] (fun x W=>x= .int .i64 0∧Below w.heap.size w W) (fun _ _=>0)
  case atStart=>exact⟨rfl,hB⟩
  case round=>
   clear hB;obtain⟨rfl,hB⟩:=hrel;go_wp2_with fail;go_loopw[9] (fun x W=>x= .int .i64 0∧Below w.heap.size w W) (fun _ _=>0)
   case atStart=>exact⟨rfl,hB⟩
   case round=>
    clear hB;obtain⟨rfl,hB⟩:=hrel;go_wp2_with fail;go_loopw[11] (fun x W=>x= .int .i64 0∧Below w.heap.size w W) (fun _ _=>0)
    case atStart=>exact⟨rfl,hB⟩
    case round=>
     clear hB;obtain⟨rfl,hB⟩:=hrel;go_wp2_with fail;go_loopw[14] (fun x W=>x= .int .i64 0∧Below w.heap.size w W) (fun _ _=>0)
     case atStart=>exact⟨rfl,hB⟩
     case round=>clear hB;obtain⟨rfl,hB⟩:=hrel;go_wp2;go_ret;exact⟨rfl,hB⟩
theorem Zf8(w:World):Calls Tryz.prog 127 #[.slice none 0 0] w fun e w'=>e= .returned (.bool true)∧Below w.heap.size w w':=by
 have hB:=Below.refl w.heap.size w;go_enter Tryz.func127,Tryz.ntmps127;go_wp2_with fail;go_loopw[3] (fun x W=>x= .int .i64 0∧Below w.heap.size w W) (fun _ _=>0)
 case atStart=>exact⟨rfl,hB⟩
 case round=>
  clear hB;obtain⟨rfl,hB⟩:=hrel;obtain⟨j0,hj,hj0,hj1,hj2⟩:=info_parts (show(Tryz.prog.info? 201).map (fun i=>(i.zero,i.size,i.bytes))=some (some (.slice none 0 0),1,24)from by kernel_rfl);obtain⟨w1,hmk,_,hg1⟩:=run_make_own (P:=Tryz.prog) wr wr.heap.size 104 201 j0 _ 1 Tryz.underlying104 hj hj0 hj1 .i64 .i64 0 (by rw[hj2];decide) (by decide) (Nat.le_refl _);rw[Int.natCast_zero]at hmk;have hb1:Below wr.heap.size wr w1:=(Below.refl _ _).grown hg1 (Nat.le_refl _) (by simp);have hB:=Zb hB hb1;clear hj hj0 hj1 hj2 hg1 hb1;go_wp2_with fail;go_loopw[6] (fun x W=>x= .int .i64 0∧Below w.heap.size w W) (fun _ _=>0)
  case atStart=>exact⟨rfl,hB⟩
  case round=>
   clear hB;obtain⟨rfl,hB⟩:=hrel;go_wp2_with fail;go_loopw[9] (fun x W=>x= .int .i64 0∧Below w.heap.size w W) (fun _ _=>0)
   case atStart=>exact⟨rfl,hB⟩
   case round=>
    clear hB;obtain⟨rfl,hB⟩:=hrel;go_wp2_with fail;go_loopw[11] (fun x W=>x= .int .i64 0∧Below w.heap.size w W) (fun _ _=>0)
    case atStart=>exact⟨rfl,hB⟩
    case round=>
     clear hB;obtain⟨rfl,hB⟩:=hrel;go_wp2_with fail;go_loopw[14] (fun x W=>x= .int .i64 0∧Below w.heap.size w W) (fun _ _=>0)
     case atStart=>exact⟨rfl,hB⟩
     case round=>clear hB;obtain⟨rfl,hB⟩:=hrel;go_wp2;go_ret;exact⟨rfl,hB⟩
theorem Zf9(w:World):Calls Tryz.prog 128 #[.slice none 0 0] w fun e w'=>e= .returned (.bool true)∧Below w.heap.size w w':=by
 have hB:=Below.refl w.heap.size w;go_enter Tryz.func128,Tryz.ntmps128;go_wp2_with fail;go_loopw[3] (fun x W=>x= .int .i64 0∧Below w.heap.size w W) (fun _ _=>0)
 case atStart=>exact⟨rfl,hB⟩
 case round=>
  clear hB;obtain⟨rfl,hB⟩:=hrel;obtain⟨j0,hj,hj0,hj1,hj2⟩:=info_parts (show(Tryz.prog.info? 206).map (fun i=>(i.zero,i.size,i.bytes))=some (some (.slice none 0 0),1,24)from by kernel_rfl);obtain⟨w1,hmk,_,hg1⟩:=run_make_own (P:=Tryz.prog) wr wr.heap.size 105 206 j0 _ 1 Tryz.underlying105 hj hj0 hj1 .i64 .i64 0 (by rw[hj2];decide) (by decide) (Nat.le_refl _);rw[Int.natCast_zero]at hmk;have hb1:Below wr.heap.size wr w1:=(Below.refl _ _).grown hg1 (Nat.le_refl _) (by simp);have hB:=Zb hB hb1;clear hj hj0 hj1 hj2 hg1 hb1;go_wp2_with fail;go_loopw[6] (fun x W=>x= .int .i64 0∧Below w.heap.size w W) (fun _ _=>0)
  case atStart=>exact⟨rfl,hB⟩
  case round=>
   clear hB;obtain⟨rfl,hB⟩:=hrel;go_wp2_with fail;go_loopw[9] (fun x W=>x= .int .i64 0∧Below w.heap.size w W) (fun _ _=>0)
   case atStart=>exact⟨rfl,hB⟩
   case round=>
    clear hB;obtain⟨rfl,hB⟩:=hrel;go_wp2_with fail;go_loopw[11] (fun x W=>x= .int .i64 0∧Below w.heap.size w W) (fun _ _=>0)
    case atStart=>exact⟨rfl,hB⟩
    case round=>
     clear hB;obtain⟨rfl,hB⟩:=hrel;go_wp2_with fail;go_loopw[14] (fun x W=>x= .int .i64 0∧Below w.heap.size w W) (fun _ _=>0)
     case atStart=>exact⟨rfl,hB⟩
     case round=>clear hB;obtain⟨rfl,hB⟩:=hrel;go_wp2;go_ret;exact⟨rfl,hB⟩
theorem Zga(w:World):Calls Tryz.prog 129 #[.slice none 0 0] w fun e w'=>e= .returned (.bool true)∧Below w.heap.size w w':=by
 have hB:=Below.refl w.heap.size w;go_enter Tryz.func129,Tryz.ntmps129;go_wp2_with fail;go_loopw[3] (fun x W=>x= .int .i64 0∧Below w.heap.size w W) (fun _ _=>0)
 case atStart=>exact⟨rfl,hB⟩
 case round=>
  clear hB;obtain⟨rfl,hB⟩:=hrel;obtain⟨j0,hj,hj0,hj1,hj2⟩:=info_parts (show(Tryz.prog.info? 210).map (fun i=>(i.zero,i.size,i.bytes))=some (some (.slice none 0 0),1,24)from by kernel_rfl);obtain⟨w1,hmk,_,hg1⟩:=run_make_own (P:=Tryz.prog) wr wr.heap.size 106 210 j0 _ 1 Tryz.underlying106 hj hj0 hj1 .i64 .i64 0 (by rw[hj2];decide) (by decide) (Nat.le_refl _);rw[Int.natCast_zero]at hmk;have hb1:Below wr.heap.size wr w1:=(Below.refl _ _).grown hg1 (Nat.le_refl _) (by simp);have hB:=Zb hB hb1;clear hj hj0 hj1 hj2 hg1 hb1;go_wp2_with fail;go_loopw[6] (fun x W=>x= .int .i64 0∧Below w.heap.size w W) (fun _ _=>0)
  case atStart=>exact⟨rfl,hB⟩
  case round=>
   clear hB;obtain⟨rfl,hB⟩:=hrel;go_wp2_with fail;go_loopw[9] (fun x W=>x= .int .i64 0∧Below w.heap.size w W) (fun _ _=>0)
   case atStart=>exact⟨rfl,hB⟩
   case round=>
    clear hB;obtain⟨rfl,hB⟩:=hrel;go_wp2_with fail;go_loopw[11] (fun x W=>x= .int .i64 0∧Below w.heap.size w W) (fun _ _=>0)
    case atStart=>exact⟨rfl,hB⟩
    case round=>
     clear hB;obtain⟨rfl,hB⟩:=hrel;go_wp2_with fail;go_loopw[14] (fun x W=>x= .int .i64 0∧Below w.heap.size w W) (fun _ _=>0)
     case atStart=>exact⟨rfl,hB⟩
     case round=>clear hB;obtain⟨rfl,hB⟩:=hrel;go_wp2;go_ret;exact⟨rfl,hB⟩
theorem Zev(w:World):Calls Tryz.prog 130 #[.slice none 0 0] w fun e w'=>e= .returned (.bool true)∧Below w.heap.size w w':=by
 have hB:=Below.refl w.heap.size w;go_enter Tryz.func130,Tryz.ntmps130;go_wp2_with fail;go_loopw[3] (fun x W=>x= .int .i64 0∧Below w.heap.size w W) (fun _ _=>0)
 case atStart=>exact⟨rfl,hB⟩
 case round=>
  clear hB;obtain⟨rfl,hB⟩:=hrel;obtain⟨j0,hj,hj0,hj1,hj2⟩:=info_parts (show(Tryz.prog.info? 215).map (fun i=>(i.zero,i.size,i.bytes))=some (some (.slice none 0 0),1,24)from by kernel_rfl);obtain⟨w1,hmk,_,hg1⟩:=run_make_own (P:=Tryz.prog) wr wr.heap.size 107 215 j0 _ 1 Tryz.underlying107 hj hj0 hj1 .i64 .i64 0 (by rw[hj2];decide) (by decide) (Nat.le_refl _);rw[Int.natCast_zero]at hmk;have hb1:Below wr.heap.size wr w1:=(Below.refl _ _).grown hg1 (Nat.le_refl _) (by simp);have hB:=Zb hB hb1;clear hj hj0 hj1 hj2 hg1 hb1;go_wp2_with fail;go_loopw[6] (fun x W=>x= .int .i64 0∧Below w.heap.size w W) (fun _ _=>0)
  case atStart=>exact⟨rfl,hB⟩
  case round=>
   clear hB;obtain⟨rfl,hB⟩:=hrel;go_wp2_with fail;go_loopw[9] (fun x W=>x= .int .i64 0∧Below w.heap.size w W) (fun _ _=>0)
   case atStart=>exact⟨rfl,hB⟩
   case round=>
    clear hB;obtain⟨rfl,hB⟩:=hrel;go_wp2_with fail;go_loopw[11] (fun x W=>x= .int .i64 0∧Below w.heap.size w W) (fun _ _=>0)
    case atStart=>exact⟨rfl,hB⟩
    case round=>
     clear hB;obtain⟨rfl,hB⟩:=hrel;go_wp2_with fail;go_loopw[14] (fun x W=>x= .int .i64 0∧Below w.heap.size w W) (fun _ _=>0)
     case atStart=>exact⟨rfl,hB⟩
     case round=>clear hB;obtain⟨rfl,hB⟩:=hrel;go_wp2;go_ret;exact⟨rfl,hB⟩
theorem Zew(w:World):Calls Tryz.prog 131 #[.slice none 0 0] w fun e w'=>e= .returned (.bool true)∧Below w.heap.size w w':=by
 have hB:=Below.refl w.heap.size w;go_enter Tryz.func131,Tryz.ntmps131;go_wp2_with fail;go_loopw[3] (fun x W=>x= .int .i64 0∧Below w.heap.size w W) (fun _ _=>0)
 case atStart=>exact⟨rfl,hB⟩
 case round=>
  clear hB;obtain⟨rfl,hB⟩:=hrel;obtain⟨j0,hj,hj0,hj1,hj2⟩:=info_parts (show(Tryz.prog.info? 219).map (fun i=>(i.zero,i.size,i.bytes))=some (some (.slice none 0 0),1,24)from by kernel_rfl);obtain⟨w1,hmk,_,hg1⟩:=run_make_own (P:=Tryz.prog) wr wr.heap.size 108 219 j0 _ 1 Tryz.underlying108 hj hj0 hj1 .i64 .i64 0 (by rw[hj2];decide) (by decide) (Nat.le_refl _);rw[Int.natCast_zero]at hmk;have hb1:Below wr.heap.size wr w1:=(Below.refl _ _).grown hg1 (Nat.le_refl _) (by simp);have hB:=Zb hB hb1;clear hj hj0 hj1 hj2 hg1 hb1;go_wp2_with fail;go_loopw[6] (fun x W=>x= .int .i64 0∧Below w.heap.size w W) (fun _ _=>0)
  case atStart=>exact⟨rfl,hB⟩
  case round=>
   clear hB;obtain⟨rfl,hB⟩:=hrel;go_wp2_with fail;go_loopw[9] (fun x W=>x= .int .i64 0∧Below w.heap.size w W) (fun _ _=>0)
   case atStart=>exact⟨rfl,hB⟩
   case round=>
    clear hB;obtain⟨rfl,hB⟩:=hrel;go_wp2_with fail;go_loopw[11] (fun x W=>x= .int .i64 0∧Below w.heap.size w W) (fun _ _=>0)
    case atStart=>exact⟨rfl,hB⟩
    case round=>
     clear hB;obtain⟨rfl,hB⟩:=hrel;go_wp2_with fail;go_loopw[14] (fun x W=>x= .int .i64 0∧Below w.heap.size w W) (fun _ _=>0)
     case atStart=>exact⟨rfl,hB⟩
     case round=>clear hB;obtain⟨rfl,hB⟩:=hrel;go_wp2;go_ret;exact⟨rfl,hB⟩
theorem Zgb(w:World):Calls Tryz.prog 132 #[.slice none 0 0] w fun e w'=>e= .returned (.bool true)∧Below w.heap.size w w':=by
 have hB:=Below.refl w.heap.size w;go_enter Tryz.func132,Tryz.ntmps132;go_wp2_with fail;go_loopw[3] (fun x W=>x= .int .i64 0∧Below w.heap.size w W) (fun _ _=>0)
 case atStart=>exact⟨rfl,hB⟩
 case round=>
  clear hB;obtain⟨rfl,hB⟩:=hrel;obtain⟨j0,hj,hj0,hj1,hj2⟩:=info_parts (show(Tryz.prog.info? 225).map (fun i=>(i.zero,i.size,i.bytes))=some (some (.slice none 0 0),1,24)from by kernel_rfl);obtain⟨w1,hmk,_,hg1⟩:=run_make_own (P:=Tryz.prog) wr wr.heap.size 109 225 j0 _ 1 Tryz.underlying109 hj hj0 hj1 .i64 .i64 0 (by rw[hj2];decide) (by decide) (Nat.le_refl _);rw[Int.natCast_zero]at hmk;have hb1:Below wr.heap.size wr w1:=(Below.refl _ _).grown hg1 (Nat.le_refl _) (by simp);have hB:=Zb hB hb1;clear hj hj0 hj1 hj2 hg1 hb1;go_wp2_with fail;go_loopw[6] (fun x W=>x= .int .i64 0∧Below w.heap.size w W) (fun _ _=>0)
  case atStart=>exact⟨rfl,hB⟩
  case round=>
   clear hB;obtain⟨rfl,hB⟩:=hrel;go_wp2_with fail;go_loopw[9] (fun x W=>x= .int .i64 0∧Below w.heap.size w W) (fun _ _=>0)
   case atStart=>exact⟨rfl,hB⟩
   case round=>
    clear hB;obtain⟨rfl,hB⟩:=hrel;go_wp2_with fail;go_loopw[11] (fun x W=>x= .int .i64 0∧Below w.heap.size w W) (fun _ _=>0)
    case atStart=>exact⟨rfl,hB⟩
    case round=>
     clear hB;obtain⟨rfl,hB⟩:=hrel;go_wp2_with fail;go_loopw[14] (fun x W=>x= .int .i64 0∧Below w.heap.size w W) (fun _ _=>0)
     case atStart=>exact⟨rfl,hB⟩
     case round=>clear hB;obtain⟨rfl,hB⟩:=hrel;go_wp2;go_ret;exact⟨rfl,hB⟩
theorem Zgc(w:World):Calls Tryz.prog 133 #[.slice none 0 0] w fun e w'=>e= .returned (.bool true)∧Below w.heap.size w w':=by
 have hB:=Below.refl w.heap.size w;go_enter Tryz.func133,Tryz.ntmps133;go_wp2_with fail;go_loopw[3] (fun x W=>x= .int .i64 0∧Below w.heap.size w W) (fun _ _=>0)
 case atStart=>exact⟨rfl,hB⟩
 case round=>
  clear hB;obtain⟨rfl,hB⟩:=hrel;obtain⟨j0,hj,hj0,hj1,hj2⟩:=info_parts (show(Tryz.prog.info? 230).map (fun i=>(i.zero,i.size,i.bytes))=some (some (.slice none 0 0),1,24)from by kernel_rfl);obtain⟨w1,hmk,_,hg1⟩:=run_make_own (P:=Tryz.prog) wr wr.heap.size 110 230 j0 _ 1 Tryz.underlying110 hj hj0 hj1 .i64 .i64 0 (by rw[hj2];decide) (by decide) (Nat.le_refl _);rw[Int.natCast_zero]at hmk;have hb1:Below wr.heap.size wr w1:=(Below.refl _ _).grown hg1 (Nat.le_refl _) (by simp);have hB:=Zb hB hb1;clear hj hj0 hj1 hj2 hg1 hb1;go_wp2_with fail;go_loopw[6] (fun x W=>x= .int .i64 0∧Below w.heap.size w W) (fun _ _=>0)
  case atStart=>exact⟨rfl,hB⟩
  case round=>
   clear hB;obtain⟨rfl,hB⟩:=hrel;go_wp2_with fail;go_loopw[9] (fun x W=>x= .int .i64 0∧Below w.heap.size w W) (fun _ _=>0)
   case atStart=>exact⟨rfl,hB⟩
   case round=>
    clear hB;obtain⟨rfl,hB⟩:=hrel;go_wp2_with fail;go_loopw[11] (fun x W=>x= .int .i64 0∧Below w.heap.size w W) (fun _ _=>0)
    case atStart=>exact⟨rfl,hB⟩
    case round=>
     clear hB;obtain⟨rfl,hB⟩:=hrel;go_wp2_with fail;go_loopw[14] (fun x W=>x= .int .i64 0∧Below w.heap.size w W) (fun _ _=>0)
     case atStart=>exact⟨rfl,hB⟩
     case round=>clear hB;obtain⟨rfl,hB⟩:=hrel;go_wp2;go_ret;exact⟨rfl,hB⟩
theorem ZeH(w:World):Calls Tryz.prog 134 #[.slice none 0 0] w fun e w'=>e= .returned (.bool true)∧Below w.heap.size w w':=by
 have hB:=Below.refl w.heap.size w;go_enter Tryz.func134,Tryz.ntmps134;go_wp2_with fail;go_loopw[3] (fun x W=>x= .int .i64 0∧Below w.heap.size w W) (fun _ _=>0)
 case atStart=>exact⟨rfl,hB⟩
 case round=>
  clear hB;obtain⟨rfl,hB⟩:=hrel;obtain⟨j0,hj,hj0,hj1,hj2⟩:=info_parts (show(Tryz.prog.info? 235).map (fun i=>(i.zero,i.size,i.bytes))=some (some (.slice none 0 0),1,24)from by kernel_rfl);obtain⟨w1,hmk,_,hg1⟩:=run_make_own (P:=Tryz.prog) wr wr.heap.size 111 235 j0 _ 1 Tryz.underlying111 hj hj0 hj1 .i64 .i64 0 (by rw[hj2];decide) (by decide) (Nat.le_refl _);rw[Int.natCast_zero]at hmk;have hb1:Below wr.heap.size wr w1:=(Below.refl _ _).grown hg1 (Nat.le_refl _) (by simp);have hB:=Zb hB hb1;clear hj hj0 hj1 hj2 hg1 hb1;go_wp2_with fail;go_loopw[6] (fun x W=>x= .int .i64 0∧Below w.heap.size w W) (fun _ _=>0)
  case atStart=>exact⟨rfl,hB⟩
  case round=>
   clear hB;obtain⟨rfl,hB⟩:=hrel;go_wp2_with fail;go_loopw[9] (fun x W=>x= .int .i64 0∧Below w.heap.size w W) (fun _ _=>0)
   case atStart=>exact⟨rfl,hB⟩
   case round=>
    clear hB;obtain⟨rfl,hB⟩:=hrel;go_wp2_with fail;go_loopw[11] (fun x W=>x= .int .i64 0∧Below w.heap.size w W) (fun _ _=>0)
    case atStart=>exact⟨rfl,hB⟩
    case round=>
     clear hB;obtain⟨rfl,hB⟩:=hrel;go_wp2_with fail;go_loopw[14] (fun x W=>x= .int .i64 0∧Below w.heap.size w W) (fun _ _=>0)
     case atStart=>exact⟨rfl,hB⟩
     case round=>clear hB;obtain⟨rfl,hB⟩:=hrel;go_wp2;go_ret;exact⟨rfl,hB⟩
theorem Zgd(w:World):Calls Tryz.prog 135 #[.slice none 0 0] w fun e w'=>e= .returned (.bool true)∧Below w.heap.size w w':=by
 have hB:=Below.refl w.heap.size w;go_enter Tryz.func135,Tryz.ntmps135;go_wp2_with fail;go_loopw[3] (fun x W=>x= .int .i64 0∧Below w.heap.size w W) (fun _ _=>0)
 case atStart=>exact⟨rfl,hB⟩
 case round=>
  clear hB;obtain⟨rfl,hB⟩:=hrel;obtain⟨j0,hj,hj0,hj1,hj2⟩:=info_parts (show(Tryz.prog.info? 240).map (fun i=>(i.zero,i.size,i.bytes))=some (some (.slice none 0 0),1,24)from by kernel_rfl);obtain⟨w1,hmk,_,hg1⟩:=run_make_own (P:=Tryz.prog) wr wr.heap.size 112 240 j0 _ 1 Tryz.underlying112 hj hj0 hj1 .i64 .i64 0 (by rw[hj2];decide) (by decide) (Nat.le_refl _);rw[Int.natCast_zero]at hmk;have hb1:Below wr.heap.size wr w1:=(Below.refl _ _).grown hg1 (Nat.le_refl _) (by simp);have hB:=Zb hB hb1;clear hj hj0 hj1 hj2 hg1 hb1;go_wp2_with fail;go_loopw[6] (fun x W=>x= .int .i64 0∧Below w.heap.size w W) (fun _ _=>0)
  case atStart=>exact⟨rfl,hB⟩
  case round=>
   clear hB;obtain⟨rfl,hB⟩:=hrel;go_wp2_with fail;go_loopw[9] (fun x W=>x= .int .i64 0∧Below w.heap.size w W) (fun _ _=>0)
   case atStart=>exact⟨rfl,hB⟩
   case round=>
    clear hB;obtain⟨rfl,hB⟩:=hrel;go_wp2_with fail;go_loopw[11] (fun x W=>x= .int .i64 0∧Below w.heap.size w W) (fun _ _=>0)
    case atStart=>exact⟨rfl,hB⟩
    case round=>
     clear hB;obtain⟨rfl,hB⟩:=hrel;go_wp2_with fail;go_loopw[14] (fun x W=>x= .int .i64 0∧Below w.heap.size w W) (fun _ _=>0)
     case atStart=>exact⟨rfl,hB⟩
     case round=>clear hB;obtain⟨rfl,hB⟩:=hrel;go_wp2;go_ret;exact⟨rfl,hB⟩
theorem ZeI(w:World):Calls Tryz.prog 137 #[.slice none 0 0] w fun e w'=>e= .returned (.bool true)∧Below w.heap.size w w':=by
 have hB:=Below.refl w.heap.size w;go_enter Tryz.func137,Tryz.ntmps137;go_wp2_with fail;go_loopw[3] (fun x W=>x= .int .i64 0∧Below w.heap.size w W) (fun _ _=>0)
 case atStart=>exact⟨rfl,hB⟩
 case round=>
  clear hB;obtain⟨rfl,hB⟩:=hrel;obtain⟨j0,hj,hj0,hj1,hj2⟩:=info_parts (show(Tryz.prog.info? 248).map (fun i=>(i.zero,i.size,i.bytes))=some (some (.slice none 0 0),1,24)from by kernel_rfl);obtain⟨w1,hmk,_,hg1⟩:=run_make_own (P:=Tryz.prog) wr wr.heap.size 113 248 j0 _ 1 Tryz.underlying113 hj hj0 hj1 .i64 .i64 0 (by rw[hj2];decide) (by decide) (Nat.le_refl _);rw[Int.natCast_zero]at hmk;have hb1:Below wr.heap.size wr w1:=(Below.refl _ _).grown hg1 (Nat.le_refl _) (by simp);have hB:=Zb hB hb1;clear hj hj0 hj1 hj2 hg1 hb1;go_wp2_with fail;go_loopw[6] (fun x W=>x= .int .i64 0∧Below w.heap.size w W) (fun _ _=>0)
  case atStart=>exact⟨rfl,hB⟩
  case round=>
   clear hB;obtain⟨rfl,hB⟩:=hrel;go_wp2_with fail;go_loopw[9] (fun x W=>x= .int .i64 0∧Below w.heap.size w W) (fun _ _=>0)
   case atStart=>exact⟨rfl,hB⟩
   case round=>
    clear hB;obtain⟨rfl,hB⟩:=hrel;go_wp2_with fail;go_loopw[11] (fun x W=>x= .int .i64 0∧Below w.heap.size w W) (fun _ _=>0)
    case atStart=>exact⟨rfl,hB⟩
    case round=>
     clear hB;obtain⟨rfl,hB⟩:=hrel;go_wp2_with fail;go_loopw[14] (fun x W=>x= .int .i64 0∧Below w.heap.size w W) (fun _ _=>0)
     case atStart=>exact⟨rfl,hB⟩
     case round=>clear hB;obtain⟨rfl,hB⟩:=hrel;go_wp2;go_ret;exact⟨rfl,hB⟩
theorem Zge(w:World):Calls Tryz.prog 138 #[.slice none 0 0] w fun e w'=>e= .returned (.bool true)∧Below w.heap.size w w':=by
 have hB:=Below.refl w.heap.size w;go_enter Tryz.func138,Tryz.ntmps138;go_wp2_with fail;go_loopw[3] (fun x W=>x= .int .i64 0∧Below w.heap.size w W) (fun _ _=>0)
 case atStart=>exact⟨rfl,hB⟩
 case round=>
  clear hB;obtain⟨rfl,hB⟩:=hrel;obtain⟨j0,hj,hj0,hj1,hj2⟩:=info_parts (show(Tryz.prog.info? 252).map (fun i=>(i.zero,i.size,i.bytes))=some (some (.slice none 0 0),1,24)from by kernel_rfl);obtain⟨w1,hmk,_,hg1⟩:=run_make_own (P:=Tryz.prog) wr wr.heap.size 114 252 j0 _ 1 Tryz.underlying114 hj hj0 hj1 .i64 .i64 0 (by rw[hj2];decide) (by decide) (Nat.le_refl _);rw[Int.natCast_zero]at hmk;have hb1:Below wr.heap.size wr w1:=(Below.refl _ _).grown hg1 (Nat.le_refl _) (by simp);have hB:=Zb hB hb1;clear hj hj0 hj1 hj2 hg1 hb1;go_wp2_with fail;go_loopw[6] (fun x W=>x= .int .i64 0∧Below w.heap.size w W) (fun _ _=>0)
  case atStart=>exact⟨rfl,hB⟩
  case round=>
   clear hB;obtain⟨rfl,hB⟩:=hrel;go_wp2_with fail;go_loopw[9] (fun x W=>x= .int .i64 0∧Below w.heap.size w W) (fun _ _=>0)
   case atStart=>exact⟨rfl,hB⟩
   case round=>
    clear hB;obtain⟨rfl,hB⟩:=hrel;go_wp2_with fail;go_loopw[11] (fun x W=>x= .int .i64 0∧Below w.heap.size w W) (fun _ _=>0)
    case atStart=>exact⟨rfl,hB⟩
    case round=>
     clear hB;obtain⟨rfl,hB⟩:=hrel;go_wp2_with fail;go_loopw[14] (fun x W=>x= .int .i64 0∧Below w.heap.size w W) (fun _ _=>0)
     case atStart=>exact⟨rfl,hB⟩
     case round=>clear hB;obtain⟨rfl,hB⟩:=hrel;go_wp2;go_ret;exact⟨rfl,hB⟩
theorem ZdU(w:World):Calls Tryz.prog 139 #[.slice none 0 0] w fun e w'=>e= .returned (.bool true)∧Below w.heap.size w w':=by
 have hB:=Below.refl w.heap.size w;go_enter Tryz.func139,Tryz.ntmps139;go_wp2_with fail;go_loopw[3] (fun x W=>x= .int .i64 0∧Below w.heap.size w W) (fun _ _=>0)
 case atStart=>exact⟨rfl,hB⟩
 case round=>
  clear hB;obtain⟨rfl,hB⟩:=hrel;obtain⟨j0,hj,hj0,hj1,hj2⟩:=info_parts (show(Tryz.prog.info? 258).map (fun i=>(i.zero,i.size,i.bytes))=some (some (.slice none 0 0),1,24)from by kernel_rfl);obtain⟨w1,hmk,_,hg1⟩:=run_make_own (P:=Tryz.prog) wr wr.heap.size 115 258 j0 _ 1 Tryz.underlying115 hj hj0 hj1 .i64 .i64 0 (by rw[hj2];decide) (by decide) (Nat.le_refl _);rw[Int.natCast_zero]at hmk;have hb1:Below wr.heap.size wr w1:=(Below.refl _ _).grown hg1 (Nat.le_refl _) (by simp);have hB:=Zb hB hb1;clear hj hj0 hj1 hj2 hg1 hb1;go_wp2_with fail;go_loopw[6] (fun x W=>x= .int .i64 0∧Below w.heap.size w W) (fun _ _=>0)
  case atStart=>exact⟨rfl,hB⟩
  case round=>
   clear hB;obtain⟨rfl,hB⟩:=hrel;go_wp2_with fail;go_loopw[9] (fun x W=>x= .int .i64 0∧Below w.heap.size w W) (fun _ _=>0)
   case atStart=>exact⟨rfl,hB⟩
   case round=>
    clear hB;obtain⟨rfl,hB⟩:=hrel;go_wp2_with fail;go_loopw[11] (fun x W=>x= .int .i64 0∧Below w.heap.size w W) (fun _ _=>0)
    case atStart=>exact⟨rfl,hB⟩
    case round=>
     clear hB;obtain⟨rfl,hB⟩:=hrel;go_wp2_with fail;go_loopw[14] (fun x W=>x= .int .i64 0∧Below w.heap.size w W) (fun _ _=>0)
     case atStart=>exact⟨rfl,hB⟩
     case round=>clear hB;obtain⟨rfl,hB⟩:=hrel;go_wp2;go_ret;exact⟨rfl,hB⟩
end Go.Proofs.YtnnfhojhbbcbmaaGreatDoor
