/- What value.Call asks of texts: their letters, their blanks; the functions themselves. value.substring: 'motor', from 2 on, three of it. -/
import Derived.Shelf.Abstract
import Derived.Shelf.Strings.FieldsFuncGrows
import Derived.Test.YtnnfhojhbbcbmaaGreatDoorC10
import Derived.Test.YtnnfhojhbbcbmaaGreatDoorC14
import Derived.Test.YtnnfhojhbbcbmaaGreatDoorC07
namespace Go.Proofs.YtnnfhojhbbcbmaaGreatDoor
set_option maxRecDepth 100000
set_option maxHeartbeats 4000000
open Go.RowKit
def Zbx:List ByteArray→List It×Int
 |t::_=>joinR ⟨#[]⟩ [t]
 | []=>([],0)
def Zby:List ByteArray→List It×Int
 |t::_=>([⟨2,(Lib.runeCount t:Nat),⟨#[]⟩,0⟩],0)
 | []=>([],0)
def ZaX(l:List ByteArray):List It×Int:=joinR ⟨#[]⟩ l
def fB2(q:List UInt8→List UInt8→Bool):List ByteArray→List It×Int
 |t::u::_=>([⟨4,bN (q t.data.toList u.data.toList),⟨#[]⟩,0⟩],0)
 |_=>([],0)
def ZaF:=fB2 Lib.contains
def Zbz:=fB2 Lib.hasPrefix
def Zer:=fB2 Lib.hasSuffix
theorem Zei {a w:World}(h:Below a.heap.size a w){s:ByteArray}{pos:Nat}:Below a.heap.size a (w.iter s pos):=h.alloc h.size _
def shF(a d:Int)(x:Int):Int:=if a≤x∧x≤a+25 then x+d else x
def upF:Int→Int:=shF 97 (-32)
def loF:Int→Int:=shF 65 32
def mapB(f:Int→Int)(t:ByteArray):ByteArray:=⟨(Lib.mapD f t.data.toList).toArray⟩
def Zcc:List ByteArray→List It×Int
 |t::_=>joinR ⟨#[]⟩ [mapB upF t]
 | []=>([],0)
def Zcd:List ByteArray→List It×Int
 |t::_=>joinR ⟨#[]⟩ [mapB loF t]
 | []=>([],0)
theorem Zce(r:Int):(Lib.encodeRune r).length≤4:=by unfold Lib.encodeRune;rw[List.length_map];exact(Lib.encodeRuneZ_length r).2
theorem ZgM(f:Int→Int):∀(n:Nat) (l:List UInt8),(Lib.mapGoD f n l).length≤4*n
 |0,l=>by simp[Lib.mapGoD]
 |n+1,l=>by
  unfold Lib.mapGoD;split
  ·simp
  ·rw[List.length_append];have h1:=ZgM f n (l.drop (Lib.decodeL l).2)
   have h2:(if 0≤f (Lib.decodeL l).1 then Lib.encodeRune (f (Lib.decodeL l).1)else []).length≤4:=by
    split
    ·exact Zce _
    ·simp
   omega
theorem ZgN(f:Int→Int)(t:ByteArray):(mapB f t).size≤4*t.size:=by show(Lib.mapD f t.data.toList).toArray.size≤_;rw[List.size_toArray];have h:=ZgM f t.data.toList.length t.data.toList;have e:t.data.toList.length=t.size:=Array.length_toList;unfold Lib.mapD;omega
theorem ZmV {a d:Int}{x:Nat}(h:a≤(x:Int))(h2:(x:Int)≤a+25):shF a d x=x+d:=by unfold shF;rw[if_pos ⟨h,h2⟩]
theorem Ze8 {a d:Int}{x:Nat}(h:¬(a≤(x:Int)∧(x:Int)≤a+25)):shF a d x=x:=by unfold shF;rw[if_neg h]
theorem ZkU(A B:Nat)(x:Nat)(hx:x≤1114111)(W:World)(cA:W.cell? ⟨A,0,none⟩=some (.int .i32 97))(cB:W.cell? ⟨B,0,none⟩=some (.int .i32 (-32))):
  FnGives Tryz.prog 105 #[.pointer (some ⟨A,0,none⟩),.pointer (some ⟨B,0,none⟩)] #[.int .i32 (x:Int)] (.int .i32 (upF x)) W:=by
 show Calls Tryz.prog 105 #[.int .i32 (x:Int),.pointer (some ⟨A,0,none⟩),.pointer (some ⟨B,0,none⟩)] W _;by_cases h1:(97:Int)≤(x:Int)
 ·by_cases h2:(x:Int)≤122
  ·have HF:Hid (upF x=x+(-32)):=ZmV h1 (by omega);go_enter Tryz.func105,Tryz.ntmps105;go_wp2;go_ret;exact⟨by rw[HF.out];rfl,0,rfl⟩
  ·have HF:Hid (upF x=x):=Ze8 (by omega);have h2d:decide ((x:Int)≤122)=false:=decide_eq_false h2;have h2n:¬x≤122:=by omega
   go_enter Tryz.func105,Tryz.ntmps105;go_wp2;go_ret;exact⟨by rw[HF.out];rfl,0,rfl⟩
 ·have HF:Hid (upF x=x):=Ze8 (by omega);have h1d:decide ((97:Int)≤(x:Int))=false:=decide_eq_false h1;have h1n:¬97≤x:=by omega
  go_enter Tryz.func105,Tryz.ntmps105;go_wp2;go_ret;exact⟨by rw[HF.out];rfl,0,rfl⟩
theorem Zny:∀x:Nat,x≤1114111→0≤upF x∧upF x≤2147483647:=by intro x hx;unfold upF shF;split<;>omega
theorem ZkV(s:ByteArray)(w:World)(ht:Tabs8 w)(hs:s.size<35184372088832):Calls Tryz.prog 54 #[.string s,.int .i32 97,.int .i32 (-32)] w fun e w'=>e= .returned (.string (mapB upF s))∧Below w.heap.size w w':=by
 have hb2:Below w.heap.size w ((w.alloc (.cells #[.int .i32 97] 21)).alloc (.cells #[.int .i32 (-32)] 21)):=((Below.refl _ _).alloc (Nat.le_refl _) _).alloc (by simp) _;have k1:Blk ((w.alloc (.cells #[.int .i32 97] 21)).alloc (.cells #[.int .i32 (-32)] 21)) w.heap.size 21 #[.int .i32 97]:=(Blk.new w _ _).alloc _;have k2:Blk ((w.alloc (.cells #[.int .i32 97] 21)).alloc (.cells #[.int .i32 (-32)] 21)) (w.heap.size+1) 21 #[.int .i32 (-32)]:=by have:=Blk.new (w.alloc (.cells #[.int .i32 97] 21)) 21 #[.int .i32 (-32)];simpa using this
 have K1:=Za k1;have K2:=Za k2;have Ht:=Za ht;have Hs:=Za hs;clear k1 k2 ht hs;go_enter Tryz.func54,Tryz.ntmps54;go_wp2_with fail;refine(Tryz.strings_Map_runes 105 #[.pointer (some ⟨w.heap.size,0,none⟩),.pointer (some ⟨w.heap.size+1,0,none⟩)] (enters_of Tryz.func105 (by kernel_rfl) rfl) upF s _ Hs.out ?hf Zny (Ht.out.keep hb2)).mono ?_
 case hf=>exact fun W x hx hb=>ZkU _ _ x hx W ((K1.out.keep hb).cell 0) ((K2.out.keep hb).cell 0)
 rintro e w3 ⟨rfl,hb3⟩;have hB3:Below w.heap.size w w3:=Zb hb2 hb3;have he:(⟨(Lib.mapD upF s.data.toList).toArray⟩:ByteArray)=mapB upF s:=rfl;obtain⟨mb,hmb⟩:∃mb,mapB upF s=mb:=⟨_,rfl⟩;rw[he,hmb];have HM:=Za hmb;clear he hmb;go_wp2;go_ret;exact⟨by rw[HM.out];rfl,hB3⟩
theorem ZkW(A B:Nat)(x:Nat)(hx:x≤1114111)(W:World)(cA:W.cell? ⟨A,0,none⟩=some (.int .i32 65))(cB:W.cell? ⟨B,0,none⟩=some (.int .i32 (32))):
  FnGives Tryz.prog 105 #[.pointer (some ⟨A,0,none⟩),.pointer (some ⟨B,0,none⟩)] #[.int .i32 (x:Int)] (.int .i32 (loF x)) W:=by
 show Calls Tryz.prog 105 #[.int .i32 (x:Int),.pointer (some ⟨A,0,none⟩),.pointer (some ⟨B,0,none⟩)] W _;by_cases h1:(65:Int)≤(x:Int)
 ·by_cases h2:(x:Int)≤90
  ·have HF:Hid (loF x=x+(32)):=ZmV h1 (by omega);go_enter Tryz.func105,Tryz.ntmps105;go_wp2;go_ret;exact⟨by rw[HF.out];rfl,0,rfl⟩
  ·have HF:Hid (loF x=x):=Ze8 (by omega);have h2d:decide ((x:Int)≤90)=false:=decide_eq_false h2;have h2n:¬x≤90:=by omega
   go_enter Tryz.func105,Tryz.ntmps105;go_wp2;go_ret;exact⟨by rw[HF.out];rfl,0,rfl⟩
 ·have HF:Hid (loF x=x):=Ze8 (by omega);have h1d:decide ((65:Int)≤(x:Int))=false:=decide_eq_false h1;have h1n:¬65≤x:=by omega
  go_enter Tryz.func105,Tryz.ntmps105;go_wp2;go_ret;exact⟨by rw[HF.out];rfl,0,rfl⟩
theorem Znz:∀x:Nat,x≤1114111→0≤loF x∧loF x≤2147483647:=by intro x hx;unfold loF shF;split<;>omega
theorem ZkX(s:ByteArray)(w:World)(ht:Tabs8 w)(hs:s.size<35184372088832):Calls Tryz.prog 54 #[.string s,.int .i32 65,.int .i32 (32)] w fun e w'=>e= .returned (.string (mapB loF s))∧Below w.heap.size w w':=by
 have hb2:Below w.heap.size w ((w.alloc (.cells #[.int .i32 65] 21)).alloc (.cells #[.int .i32 (32)] 21)):=((Below.refl _ _).alloc (Nat.le_refl _) _).alloc (by simp) _;have k1:Blk ((w.alloc (.cells #[.int .i32 65] 21)).alloc (.cells #[.int .i32 (32)] 21)) w.heap.size 21 #[.int .i32 65]:=(Blk.new w _ _).alloc _;have k2:Blk ((w.alloc (.cells #[.int .i32 65] 21)).alloc (.cells #[.int .i32 (32)] 21)) (w.heap.size+1) 21 #[.int .i32 (32)]:=by have:=Blk.new (w.alloc (.cells #[.int .i32 65] 21)) 21 #[.int .i32 (32)];simpa using this
 have K1:=Za k1;have K2:=Za k2;have Ht:=Za ht;have Hs:=Za hs;clear k1 k2 ht hs;go_enter Tryz.func54,Tryz.ntmps54;go_wp2_with fail;refine(Tryz.strings_Map_runes 105 #[.pointer (some ⟨w.heap.size,0,none⟩),.pointer (some ⟨w.heap.size+1,0,none⟩)] (enters_of Tryz.func105 (by kernel_rfl) rfl) loF s _ Hs.out ?hf Znz (Ht.out.keep hb2)).mono ?_
 case hf=>exact fun W x hx hb=>ZkW _ _ x hx W ((K1.out.keep hb).cell 0) ((K2.out.keep hb).cell 0)
 rintro e w3 ⟨rfl,hb3⟩;have hB3:Below w.heap.size w w3:=Zb hb2 hb3;have he:(⟨(Lib.mapD loF s.data.toList).toArray⟩:ByteArray)=mapB loF s:=rfl;obtain⟨mb,hmb⟩:∃mb,mapB loF s=mb:=⟨_,rfl⟩;rw[he,hmb];have HM:=Za hmb;clear he hmb;go_wp2;go_ret;exact⟨by rw[HM.out];rfl,hB3⟩
def isBl(x:Nat):Bool:=x==32||x==9||x==10||x==13
def ZdA:List ByteArray→List It×Int
 |t::_=>joinR ⟨#[32]⟩ (Lib.goFieldsP isBl t)
 | []=>([],0)
theorem Zb0(p:Nat→Bool)(s:ByteArray):∀(f pos:Nat) (st:Option Nat) (acc:List (Nat×Nat)),(Lib.spansFromP p s f pos st acc).1.length≤acc.length+f
 |0,_,_,acc=>by simp[Lib.spansFromP]
 |f+1,pos,st,acc=>by
  unfold Lib.spansFromP;split
  ·split
   ·cases st with
    |some a=>have:=Zb0 p s f (pos+(Utf8.decode s pos).2) none (acc++[(a,pos)]);rw[List.length_append]at this;simp only[List.length_singleton]at this;dsimp only;omega
    |none=>have:=Zb0 p s f (pos+(Utf8.decode s pos).2) none acc;dsimp only;omega
   ·cases st with
    |some a=>have:=Zb0 p s f (pos+(Utf8.decode s pos).2) (some a) acc;dsimp only;omega
    |none=>have:=Zb0 p s f (pos+(Utf8.decode s pos).2) (some pos) acc;dsimp only;omega
  ·dsimp only;omega
theorem Zi9(s:ByteArray):(Lib.goFieldsP isBl s).length≤s.size+1:=by unfold Lib.goFieldsP Lib.spansOfP;rw[List.length_map];have h:=Zb0 isBl s s.size 0 none [];generalize Lib.spansFromP isBl s s.size 0 none []=r at h;obtain⟨l,o⟩:=r;simp only[List.length_nil,Nat.zero_add]at h;cases o<;>simp[Lib.closeSpans]<;>omega
theorem Zhd(s:ByteArray):∀t∈Lib.goFieldsP isBl s,t.size≤s.size:=by intro t ht;unfold Lib.goFieldsP at ht;obtain⟨x,_,rfl⟩:=List.mem_map.1 ht;rw[ByteArray.size_extract];omega
theorem Zl9(x:Nat)(hv:Utf8.valid (x:Int)=true)(h:128≤x):∃z c:Nat,(z=2∨z=3∨z=4)∧(Utf8.encode (x:Int)).size=z∧bt (Utf8.encode (x:Int)) (z-1)=(c:Int)∧128≤c∧c<256:=by
 obtain⟨h1,h2,h3⟩:=encode_facts (x:Int) hv (by omega);generalize Utf8.encode (x:Int)=E at h1 h2 h3⊢;have h4:E.size-1<E.size:=by omega
 obtain⟨z,hz⟩:∃z,z=E.size:=⟨_,rfl⟩;refine⟨z,(E[E.size-1]'h4).toNat,by omega,hz.symm,?_,h3 h4,UInt8.toNat_lt _⟩;rw[hz];exact(ZQ _ _ h4).symm
theorem Zma {x:Nat}(h:Lib.validRune (x:Int)=true):Utf8.valid (x:Int)=true:=by simp only[Lib.validRune,decide_eq_true_eq]at h;simp only[Utf8.valid,Bool.or_eq_true,Bool.and_eq_true,decide_eq_true_eq];omega
theorem Zcl:∀(l:List UInt8) (c:UInt8),(∀b∈l,b.toNat<128)→128≤c.toNat→Lib.indexByte l c= -1
 | [],c,_,_=>rfl
 |b::l,c,h,hc=>by
  have h1:=h b (by simp);have ih:=Zcl l c (fun d hd=>h d (by simp[hd])) hc;have hne:(b==c)=false:=by rw[beq_eq_false_iff_ne];intro e;subst e;omega
  unfold Lib.indexByte;simp[hne,ih]
theorem Zpt(c:Nat)(h:c<256):((c:Int)).toNat.toUInt8.toNat=c:=by rw[Int.toNat_natCast];simp;omega
theorem Zd6(s:ByteArray)(c:Nat)(h128:128≤c)(h256:c<256)(hs:∀b∈s.data.toList,b.toNat<128)(W:World):Calls Tryz.prog 158 #[.string s,.int .u8 c] W fun e w'=>e= .returned (.int .i64 (-1))∧Below W.heap.size W w':=by refine(Tryz.strings_IndexByte s c W).mono ?_;rintro e w' ⟨rfl,hw⟩;rw[Zcl _ _ hs (by rw[Zpt c h256];exact h128)];exact⟨rfl,by rw[hw];exact Below.refl _ _⟩
theorem Zhe(x:Nat)(h128:128≤x)(hx:x≤1114111)(W:World):Calls Tryz.prog 106 #[.string ⟨#[32,9,10,13]⟩,.int .i32 x] W fun e w'=>e= .returned (.int .i64 (-1))∧Below W.heap.size W w':=by
 have f1:decide ((x:Int)<128)=false:=decide_eq_false (by omega);have f2:¬x<128:=by omega
 by_cases hr:x=65533
 ·subst hr;clear f1 f2;go_enter Tryz.func106,Tryz.ntmps106;have n0:∀ty,(Instr.next (.pointer (some ⟨W.heap.size,0,none⟩)) true ty).run Tryz.prog (W.iter ⟨#[32,9,10,13]⟩ 0)= .ok (.tuple #[.bool true,.int .i64 0,.int .i32 32]) (W.iter ⟨#[32,9,10,13]⟩ 1):=fun ty=>run_next_ascii W ⟨#[32,9,10,13]⟩ 0 ty (by decide) (by decide);have n1:∀ty,(Instr.next (.pointer (some ⟨W.heap.size,0,none⟩)) true ty).run Tryz.prog (W.iter ⟨#[32,9,10,13]⟩ 1)= .ok (.tuple #[.bool true,.int .i64 1,.int .i32 9]) (W.iter ⟨#[32,9,10,13]⟩ 2):=fun ty=>run_next_ascii W ⟨#[32,9,10,13]⟩ 1 ty (by decide) (by decide);have n2:∀ty,(Instr.next (.pointer (some ⟨W.heap.size,0,none⟩)) true ty).run Tryz.prog (W.iter ⟨#[32,9,10,13]⟩ 2)= .ok (.tuple #[.bool true,.int .i64 2,.int .i32 10]) (W.iter ⟨#[32,9,10,13]⟩ 3):=fun ty=>run_next_ascii W ⟨#[32,9,10,13]⟩ 2 ty (by decide) (by decide);have n3:∀ty,(Instr.next (.pointer (some ⟨W.heap.size,0,none⟩)) true ty).run Tryz.prog (W.iter ⟨#[32,9,10,13]⟩ 3)= .ok (.tuple #[.bool true,.int .i64 3,.int .i32 13]) (W.iter ⟨#[32,9,10,13]⟩ 4):=fun ty=>run_next_ascii W ⟨#[32,9,10,13]⟩ 3 ty (by decide) (by decide);have n4:∀ty,(Instr.next (.pointer (some ⟨W.heap.size,0,none⟩)) true ty).run Tryz.prog (W.iter ⟨#[32,9,10,13]⟩ 4)= .ok (.tuple #[.bool false]) (W.iter ⟨#[32,9,10,13]⟩ 4):=fun ty=>run_next_end W ⟨#[32,9,10,13]⟩ 4 ty (by decide);go_wp2_with fail;refine wp_loop_rounds 6 ?_;rw[rounds_succ];go_wp2_with fail;rw[rounds_succ];go_wp2_with fail;rw[rounds_succ];go_wp2_with fail;rw[rounds_succ];go_wp2_with fail;rw[rounds_succ];go_wp2;go_ret;exact⟨rfl,Zei (Below.refl _ _)⟩
 have f3:((x:Int)==65533)=false:=by simpa using(show(x:Int)≠65533 by omega)
 rcases Bool.eq_false_or_eq_true (Lib.validRune (x:Int))with hv|hv
 ·obtain⟨z,c,hzz,hz,hbt,hc1,hc2⟩:=Zl9 x (Zma hv) h128;have Hv:=Za hv;clear hv hr;rcases hzz with rfl|rfl|rfl
  ·have hsz:(Utf8.encode (x:Int)).size=2:=hz;have hxl:∀W:World,(Instr.index 9 (.string (Utf8.encode (x:Int))) (.int .i64 (1:Int))).run Tryz.prog W= .ok (.int .u8 (c:Int)) W:=fun W=>by rw[Zal (Utf8.encode (x:Int)) 1 (by omega) 1 rfl W];rw[show bt (Utf8.encode (x:Int)) 1=(c:Int)from hbt]
   have hxs:∀W:World,(Instr.index 9 (.string ⟨#[32,9,10,13]⟩) (.int .i64 (1:Int))).run Tryz.prog W= .ok (.int .u8 9) W:=fun W=>by kernel_rfl
   have hne:((9:Int)==(c:Int))=false:=by simpa using(show(9:Int)≠(c:Int) by omega)
   have hne2:((9:Int) != (c:Int))=true:=by simpa using(show(9:Int)≠(c:Int) by omega)
   have Hc1:=Za hc1;have Hc2:=Za hc2;clear hz hbt hc1 hc2;go_enter Tryz.func106,Tryz.ntmps106;go_wp2_with fail;refine(Tryz.utf8_ValidRune (x:Int) _).mono ?_;rintro e w1 ⟨rfl,hw1⟩;rw[Hv.out];have hB1:Below W.heap.size W w1:=by rw[hw1];exact Below.refl _ _
   clear hw1;go_wp2_with fail
   go_step3
   go_wp2_with fail;refine wp_loop_rounds 3 ?_;rw[rounds_succ];go_wp2_with fail
   (repeat go_step3)
   (try go_wp2_with fail)
   refine ZH (by kernel_rfl) (by kernel_rfl) ?_
   repeat (go_big_quiet_step (fail))
   refine wpQuiet_nil ?_;intro _ hw';obtain⟨y2,hw''⟩:=hw';subst hw'';have hB2:=Zb hB1 y2.2;clear hB1;go_wp2_with fail;refine ZH (by kernel_rfl) (by kernel_rfl) ?_
   repeat (go_big_quiet_step ((go_at_call 158;exact Zb6 (Zd6 _ c Hc1.out Hc2.out (by decide) _))))
   refine wpQuiet_nil ?_;intro _ hw';obtain⟨y3,hw''⟩:=hw';subst hw'';have hB3:=Zb hB2 y3.2;clear hB2;go_wp2
   (try rw[Exit.noGoto_ret])
   (try simp only[Exit.inBlock,Exit.then])
   (try rw[Exit.noGoto_ret])
   (try simp only[Exit.inBlock])
   go_ret;exact⟨rfl,hB3⟩
  ·have hsz:(Utf8.encode (x:Int)).size=3:=hz;have hxl:∀W:World,(Instr.index 9 (.string (Utf8.encode (x:Int))) (.int .i64 (2:Int))).run Tryz.prog W= .ok (.int .u8 (c:Int)) W:=fun W=>by rw[Zal (Utf8.encode (x:Int)) 2 (by omega) 2 rfl W];rw[show bt (Utf8.encode (x:Int)) 2=(c:Int)from hbt]
   have hxs:∀W:World,(Instr.index 9 (.string ⟨#[32,9,10,13]⟩) (.int .i64 (2:Int))).run Tryz.prog W= .ok (.int .u8 10) W:=fun W=>by kernel_rfl
   have hne:((10:Int)==(c:Int))=false:=by simpa using(show(10:Int)≠(c:Int) by omega)
   have hne2:((10:Int) != (c:Int))=true:=by simpa using(show(10:Int)≠(c:Int) by omega)
   have Hc1:=Za hc1;have Hc2:=Za hc2;clear hz hbt hc1 hc2;go_enter Tryz.func106,Tryz.ntmps106;go_wp2_with fail;refine(Tryz.utf8_ValidRune (x:Int) _).mono ?_;rintro e w1 ⟨rfl,hw1⟩;rw[Hv.out];have hB1:Below W.heap.size W w1:=by rw[hw1];exact Below.refl _ _
   clear hw1;go_wp2_with fail
   go_step3
   go_wp2_with fail;refine wp_loop_rounds 3 ?_;rw[rounds_succ];go_wp2_with fail
   (repeat go_step3)
   (try go_wp2_with fail)
   refine ZH (by kernel_rfl) (by kernel_rfl) ?_
   repeat (go_big_quiet_step (fail))
   refine wpQuiet_nil ?_;intro _ hw';obtain⟨y2,hw''⟩:=hw';subst hw'';have hB2:=Zb hB1 y2.2;clear hB1;go_wp2_with fail;refine ZH (by kernel_rfl) (by kernel_rfl) ?_
   repeat (go_big_quiet_step ((go_at_call 158;exact Zb6 (Zd6 _ c Hc1.out Hc2.out (by decide) _))))
   refine wpQuiet_nil ?_;intro _ hw';obtain⟨y3,hw''⟩:=hw';subst hw'';have hB3:=Zb hB2 y3.2;clear hB2;go_wp2
   (try rw[Exit.noGoto_ret])
   (try simp only[Exit.inBlock,Exit.then])
   (try rw[Exit.noGoto_ret])
   (try simp only[Exit.inBlock])
   go_ret;exact⟨rfl,hB3⟩
  ·have hsz:(Utf8.encode (x:Int)).size=4:=hz;have hxl:∀W:World,(Instr.index 9 (.string (Utf8.encode (x:Int))) (.int .i64 (3:Int))).run Tryz.prog W= .ok (.int .u8 (c:Int)) W:=fun W=>by rw[Zal (Utf8.encode (x:Int)) 3 (by omega) 3 rfl W];rw[show bt (Utf8.encode (x:Int)) 3=(c:Int)from hbt]
   have hxs:∀W:World,(Instr.index 9 (.string ⟨#[32,9,10,13]⟩) (.int .i64 (3:Int))).run Tryz.prog W= .ok (.int .u8 13) W:=fun W=>by kernel_rfl
   have hne:((13:Int)==(c:Int))=false:=by simpa using(show(13:Int)≠(c:Int) by omega)
   have hne2:((13:Int) != (c:Int))=true:=by simpa using(show(13:Int)≠(c:Int) by omega)
   have Hc1:=Za hc1;have Hc2:=Za hc2;clear hz hbt hc1 hc2;go_enter Tryz.func106,Tryz.ntmps106;go_wp2_with fail;refine(Tryz.utf8_ValidRune (x:Int) _).mono ?_;rintro e w1 ⟨rfl,hw1⟩;rw[Hv.out];have hB1:Below W.heap.size W w1:=by rw[hw1];exact Below.refl _ _
   clear hw1;go_wp2_with fail
   go_step3
   go_wp2_with fail;refine wp_loop_rounds 3 ?_;rw[rounds_succ];go_wp2_with fail
   (repeat go_step3)
   (try go_wp2_with fail)
   refine ZH (by kernel_rfl) (by kernel_rfl) ?_
   repeat (go_big_quiet_step (fail))
   refine wpQuiet_nil ?_;intro _ hw';obtain⟨y2,hw''⟩:=hw';subst hw'';have hB2:=Zb hB1 y2.2;clear hB1;go_wp2_with fail;refine ZH (by kernel_rfl) (by kernel_rfl) ?_
   repeat (go_big_quiet_step ((go_at_call 158;exact Zb6 (Zd6 _ c Hc1.out Hc2.out (by decide) _))))
   refine wpQuiet_nil ?_;intro _ hw';obtain⟨y3,hw''⟩:=hw';subst hw'';have hB3:=Zb hB2 y3.2;clear hB2;go_wp2
   (try rw[Exit.noGoto_ret])
   (try simp only[Exit.inBlock,Exit.then])
   (try rw[Exit.noGoto_ret])
   (try simp only[Exit.inBlock])
   go_ret;exact⟨rfl,hB3⟩
 ·have Hv:=Za hv;clear hv hr;go_enter Tryz.func106,Tryz.ntmps106;go_wp2_with fail;refine(Tryz.utf8_ValidRune (x:Int) _).mono ?_;rintro e w1 ⟨rfl,hw1⟩;rw[Hv.out];have hB1:Below W.heap.size W w1:=by rw[hw1];exact Below.refl _ _
  clear hw1;go_wp2;go_ret;exact⟨rfl,hB1⟩
theorem Zmb:∀x:Nat,x<128→decide (0≤Lib.indexByte (⟨#[32,9,10,13]⟩:ByteArray).data.toList ((x:Int)).toNat.toUInt8)=isBl x:=by decide+kernel
theorem ZdO(x:Nat)(hx:x≤1114111)(W:World):Calls Tryz.prog 56 #[.string ⟨#[32,9,10,13]⟩,.int .i32 x] W fun e w'=>e= .returned (.bool (isBl x))∧Below W.heap.size W w':=by
 by_cases h:x<128
 ·refine(Tryz.strings_ContainsRune_ascii ⟨#[32,9,10,13]⟩ (x:Int) W (by omega) (by omega)).mono ?_;rintro e w' ⟨rfl,hw⟩;rw[Zmb x h];exact⟨rfl,by rw[hw];exact Below.refl _ _⟩
 ·have HF:Hid (isBl x=false):=by show _=_;simp[isBl];omega
  have Hi:=Za (Zhe x (by omega) hx);clear h hx;go_enter Tryz.func56,Tryz.ntmps56;go_wp2_with fail;refine(Hi.out _).mono ?_;rintro e w1 ⟨rfl,hb1⟩;go_wp2;go_ret;exact⟨by rw[HF.out];rfl,hb1⟩
theorem ZkY(w:World):PredGrows Tryz.prog 55 #[] isBl w:=by intro W x hx _;show Calls Tryz.prog 55 #[.int .i32 (x:Int)] W _;have Hc:=Za (ZdO x hx);generalize isBl x=bb at*;clear hx;go_enter Tryz.func55,Tryz.ntmps55;go_wp2_with fail;refine(Hc.out _).mono ?_;rintro e w1 ⟨rfl,hb1⟩;go_wp2;go_ret;exact⟨rfl,hb1⟩
theorem Zja(s:ByteArray)(w:World)(hs:s.size≤4294967296):Calls Tryz.prog 57 #[.string s,.func (.func 55) #[] #[]] w fun e w'=>∃A,e= .returned (.slice (some ⟨A,0,none⟩) (Lib.goFieldsP isBl s).length (Lib.goFieldsP isBl s).length)∧w.heap.size≤A∧
      w'.ownsRow w.heap.size 9 1 (.slice (some ⟨A,0,none⟩) (Lib.goFieldsP isBl s).length (Lib.goFieldsP isBl s).length) (Lib.goFieldsP isBl s).length ((Lib.goFieldsP isBl s).map Value.string)∧Below w.heap.size w w':=
 Any.strings_FieldsFunc_grows Tryz.lays229 55 #[] (enters_of Tryz.func55 (by kernel_rfl) rfl) isBl s w hs (ZkY w) (by kernel_rfl) (by kernel_rfl)
end Go.Proofs.YtnnfhojhbbcbmaaGreatDoor
namespace Go.Proofs.YtnnfhojhbbcbmaaGreatDoor
open Go.RowKit
theorem ZdP(w:World)(B b:Nat)(hB:B≤b)(h:Blk w b 63 #[.pointer none,.slice none 0 0]):Lib.IsBuilderF 63 5 B b [] w:=
 .of (.inl ⟨hB,.slice none 0 0,h,⟨by simp,.inl ⟨rfl,rfl⟩⟩,by simp[Value.ownBlock]⟩)
end Go.Proofs.YtnnfhojhbbcbmaaGreatDoor
