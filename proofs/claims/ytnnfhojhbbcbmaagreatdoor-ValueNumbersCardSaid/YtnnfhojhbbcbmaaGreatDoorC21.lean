/- value.order, value.holds, value.Compare at any items. value.Compare at any rows of items. Plain laws of how items stand; the six signs; one item held against one. great, and how long the rows are where it is false. The reference on texts: Texts. The reference: which items are right (ref25.Right, rights). -/
import Derived.Test.YtnnfhojhbbcbmaaGreatDoorC13
import Derived.Test.YtnnfhojhbbcbmaaGreatDoorC07
import Derived.Test.YtnnfhojhbbcbmaaGreatDoorC02
import Derived.Test.YtnnfhojhbbcbmaaGreatDoorC10
import Derived.Test.YtnnfhojhbbcbmaaGreatDoorC05
import Derived.Test.YtnnfhojhbbcbmaaGreatDoorC14
namespace Go.Proofs.YtnnfhojhbbcbmaaGreatDoor
open Go.RowKit
def oE(x y:It):Int:=
 if (decide (x.kind=4) != decide (y.kind=4))=true then 250
 else if x.kind=4 then 0
 else if x.kind≠2∧y.kind≠2 then 0
 else if nE x=0∧nE y=0 then 0 else 250
def oV(x y:It):Int:=
 if (decide (x.kind=4) != decide (y.kind=4))=true then 0
 else if x.kind=4 then ZaA x.num y.num
 else if x.kind≠2∧y.kind≠2 then Zeh x.text y.text
 else if nE x=0∧nE y=0 then ZaA (nV x) (nV y)else 0
theorem Zos {x y:It}(p:¬x.kind=4)(q:¬y.kind=4):(decide (x.kind=4) != decide (y.kind=4))=false:=by simp[p,q]
theorem n22 {x y:It}(h:x.kind=2∨y.kind=2):¬(x.kind≠2∧y.kind≠2):=by omega
theorem ZhV {x y:It}(p:¬x.kind=4)(q:¬y.kind=4)(h:x.kind=2∨y.kind=2)(n1:nE x=0)(n2:nE y=0):oV x y=ZaA (nV x) (nV y):=by unfold oV;rw[if_neg (by rw[Zos p q];decide),if_neg p,if_neg (n22 h),if_pos ⟨n1,n2⟩]
theorem ZhW {x y:It}(p:¬x.kind=4)(q:¬y.kind=4)(h:x.kind=2∨y.kind=2)(n1:nE x=0)(n2:nE y=0):oE x y=0:=by unfold oE;rw[if_neg (by rw[Zos p q];decide),if_neg p,if_neg (n22 h),if_pos ⟨n1,n2⟩]
theorem Zfc {x y:It}(p:¬x.kind=4)(q:¬y.kind=4)(h:x.kind=2∨y.kind=2)(n:¬nE x=0∨¬nE y=0):oV x y=0:=by unfold oV;rw[if_neg (by rw[Zos p q];decide),if_neg p,if_neg (n22 h),if_neg (by rintro⟨a,b⟩;rcases n with n|n<;>contradiction)]
theorem Zfd {x y:It}(p:¬x.kind=4)(q:¬y.kind=4)(h:x.kind=2∨y.kind=2)(n:¬nE x=0∨¬nE y=0):oE x y=250:=by unfold oE;rw[if_neg (by rw[Zos p q];decide),if_neg p,if_neg (n22 h),if_neg (by rintro⟨a,b⟩;rcases n with n|n<;>contradiction)]
set_option maxRecDepth 100000 in
set_option maxHeartbeats 4000000 in
theorem ZgW(k1 k2:Nat)(a1 a2 d1 d2:Int)(t1 t2:ByteArray)(w:World)(he:Env w)(hs1:t1.size≤140737488355328)(hs2:t2.size≤140737488355328):
  Calls Tryz.prog 60 #[.agg #[.int .u8 k1,.int .i64 a1,.string t1,.int .i64 d1],.agg #[.int .u8 k2,.int .i64 a2,.string t2,.int .i64 d2]] w fun e w'=>e= .returned (.tuple #[.int .i64 (oV ⟨k1,a1,t1,d1⟩ ⟨k2,a2,t2,d2⟩),.int .i64 (oE ⟨k1,a1,t1,d1⟩ ⟨k2,a2,t2,d2⟩)])∧Below w.heap.size w w':=by
 have He:=Za he;clear he;have hB0:Below w.heap.size w ((w.alloc (.cells #[.int .u8 k1,.int .i64 a1,.string t1,.int .i64 d1] 24)).alloc (.cells #[.int .u8 k2,.int .i64 a2,.string t2,.int .i64 d2] 24)):=((Below.refl _ _).alloc (Nat.le_refl _) _).alloc (by simp) _;have y_b:Blk ((w.alloc (.cells #[.int .u8 k1,.int .i64 a1,.string t1,.int .i64 d1] 24)).alloc (.cells #[.int .u8 k2,.int .i64 a2,.string t2,.int .i64 d2] 24)) (w.heap.size+1) 24 #[.int .u8 k2,.int .i64 a2,.string t2,.int .i64 d2]:=by have:=Blk.new (w.alloc (.cells #[.int .u8 k1,.int .i64 a1,.string t1,.int .i64 d1] 24)) 24 #[.int .u8 k2,.int .i64 a2,.string t2,.int .i64 d2];simpa using this
 by_cases p4:k1=4
 ·have f1:((k1:Int)==4)=true:=by simpa using(show(k1:Int)=4 by omega)
  by_cases q4:k2=4
  ·have f2:((k2:Int)==4)=true:=by simpa using(show(k2:Int)=4 by omega)
   have HV:Hid (oV ⟨k1,a1,t1,d1⟩ ⟨k2,a2,t2,d2⟩=ZaA a1 a2):=by show _=_;simp[oV,p4,q4]
   have HE:Hid (oE ⟨k1,a1,t1,d1⟩ ⟨k2,a2,t2,d2⟩=0):=by show _=_;simp[oE,p4,q4]
   clear p4 q4;go_enter Tryz.func60,Tryz.ntmps60;go_wp2_with fail;refine(Zbk _ _ _).mono ?_;rintro e w3 ⟨rfl,rfl⟩;go_wp2;go_ret2;exact⟨by rw[HV.out,HE.out];rfl,hB0⟩
  ·have f2:((k2:Int)==4)=false:=by simpa using(show(k2:Int)≠4 by omega)
   have HV:Hid (oV ⟨k1,a1,t1,d1⟩ ⟨k2,a2,t2,d2⟩=0):=by show _=_;simp[oV,p4,q4]
   have HE:Hid (oE ⟨k1,a1,t1,d1⟩ ⟨k2,a2,t2,d2⟩=250):=by show _=_;simp[oE,p4,q4]
   clear p4 q4;go_enter Tryz.func60,Tryz.ntmps60;go_wp2;go_ret2;exact⟨by rw[HV.out,HE.out];rfl,hB0⟩
 ·have f1:((k1:Int)==4)=false:=by simpa using(show(k1:Int)≠4 by omega)
  by_cases q4:k2=4
  ·have f2:((k2:Int)==4)=true:=by simpa using(show(k2:Int)=4 by omega)
   have HV:Hid (oV ⟨k1,a1,t1,d1⟩ ⟨k2,a2,t2,d2⟩=0):=by show _=_;simp[oV,p4,q4]
   have HE:Hid (oE ⟨k1,a1,t1,d1⟩ ⟨k2,a2,t2,d2⟩=250):=by show _=_;simp[oE,p4,q4]
   clear p4 q4;go_enter Tryz.func60,Tryz.ntmps60;go_wp2;go_ret2;exact⟨by rw[HV.out,HE.out];rfl,hB0⟩
  ·have f2:((k2:Int)==4)=false:=by simpa using(show(k2:Int)≠4 by omega)
   by_cases p2:k1=2
   ·have g1:((k1:Int) != 2)=false:=by simpa using(show(k1:Int)=2 by omega)
    have H2:Hid (k1=2∨k2=2):= .inl p2;have H4:=Za p4;have H5:=Za q4;clear p2 p4 q4;go_enter Tryz.func60,Tryz.ntmps60;go_wp2_with fail;refine(Zax k1 a1 d1 t1 _ (He.out.keep hB0) hs1).mono ?_;rintro e w1 ⟨rfl,hb1⟩;have hB1:=Zb hB0 hb1;have x_b:Blk w1 (w.heap.size+1) 24 #[.int .u8 k2,.int .i64 a2,.string t2,.int .i64 d2]:=y_b.keep hb1;clear hb1;have c0:=x_b.cell 0;have c1:=x_b.cell 1;have c2:=x_b.cell 2;have c3:=x_b.cell 3;simp only[List.getElem?_toArray,List.getElem?_cons_zero,List.getElem?_cons_succ]at c0 c1 c2 c3;go_wp2_with fail;refine(Zax k2 a2 d2 t2 _ (He.out.keep hB1) hs2).mono ?_;rintro e w2 ⟨rfl,hb2⟩;have hB2:=Zb hB1 hb2;clear hb2 c0 c1 c2 c3 hB1;by_cases n1:nE ⟨k1,a1,t1,d1⟩=0
    ·by_cases n2:nE ⟨k2,a2,t2,d2⟩=0
     ·have HV:Hid (oV ⟨k1,a1,t1,d1⟩ ⟨k2,a2,t2,d2⟩=ZaA (nV ⟨k1,a1,t1,d1⟩) (nV ⟨k2,a2,t2,d2⟩)):=ZhV H4.out H5.out H2.out n1 n2;have HE:Hid (oE ⟨k1,a1,t1,d1⟩ ⟨k2,a2,t2,d2⟩=0):=ZhW H4.out H5.out H2.out n1 n2;rw[n1,n2];have n1':True:=trivial;generalize nV ⟨k1,a1,t1,d1⟩=v1 at*;generalize nV ⟨k2,a2,t2,d2⟩=v2 at*;clear n1 n2 H2 H4 H5 f1 f2 g1;go_wp2_with fail;refine(Zbk _ _ _).mono ?_;rintro e w3 ⟨rfl,rfl⟩;go_wp2;go_ret2;exact⟨by rw[HV.out,HE.out];rfl,hB2⟩
     ·have n2':(nE ⟨k2,a2,t2,d2⟩ != 0)=true:=by simpa using n2
      have HV:Hid (oV ⟨k1,a1,t1,d1⟩ ⟨k2,a2,t2,d2⟩=0):=Zfc H4.out H5.out H2.out (.inr n2);have HE:Hid (oE ⟨k1,a1,t1,d1⟩ ⟨k2,a2,t2,d2⟩=250):=Zfd H4.out H5.out H2.out (.inr n2);rw[n1];generalize nE ⟨k2,a2,t2,d2⟩=e2 at n2'⊢;clear n1 n2 H2 H4 H5 f1 f2 g1;go_wp2;go_ret2;exact⟨by rw[HV.out,HE.out];rfl,hB2⟩
    ·have n1':(nE ⟨k1,a1,t1,d1⟩ != 0)=true:=by simpa using n1
     have HV:Hid (oV ⟨k1,a1,t1,d1⟩ ⟨k2,a2,t2,d2⟩=0):=Zfc H4.out H5.out H2.out (.inl n1);have HE:Hid (oE ⟨k1,a1,t1,d1⟩ ⟨k2,a2,t2,d2⟩=250):=Zfd H4.out H5.out H2.out (.inl n1);generalize nE ⟨k1,a1,t1,d1⟩=e1 at n1'⊢;clear n1 H2 H4 H5 f1 f2 g1;go_wp2;go_ret2;exact⟨by rw[HV.out,HE.out];rfl,hB2⟩
   ·have g1:((k1:Int) != 2)=true:=by simpa using(show(k1:Int)≠2 by omega)
    by_cases q2:k2=2
    ·have g2:((k2:Int) != 2)=false:=by simpa using(show(k2:Int)=2 by omega)
     have H2:Hid (k1=2∨k2=2):= .inr q2;have H4:=Za p4;have H5:=Za q4;clear p2 q2 p4 q4;go_enter Tryz.func60,Tryz.ntmps60;go_wp2_with fail;refine(Zax k1 a1 d1 t1 _ (He.out.keep hB0) hs1).mono ?_;rintro e w1 ⟨rfl,hb1⟩;have hB1:=Zb hB0 hb1;have x_b:Blk w1 (w.heap.size+1) 24 #[.int .u8 k2,.int .i64 a2,.string t2,.int .i64 d2]:=y_b.keep hb1;clear hb1;have c0:=x_b.cell 0;have c1:=x_b.cell 1;have c2:=x_b.cell 2;have c3:=x_b.cell 3;simp only[List.getElem?_toArray,List.getElem?_cons_zero,List.getElem?_cons_succ]at c0 c1 c2 c3;go_wp2_with fail;refine(Zax k2 a2 d2 t2 _ (He.out.keep hB1) hs2).mono ?_;rintro e w2 ⟨rfl,hb2⟩;have hB2:=Zb hB1 hb2;clear hb2 c0 c1 c2 c3 hB1;by_cases n1:nE ⟨k1,a1,t1,d1⟩=0
     ·by_cases n2:nE ⟨k2,a2,t2,d2⟩=0
      ·have HV:Hid (oV ⟨k1,a1,t1,d1⟩ ⟨k2,a2,t2,d2⟩=ZaA (nV ⟨k1,a1,t1,d1⟩) (nV ⟨k2,a2,t2,d2⟩)):=ZhV H4.out H5.out H2.out n1 n2;have HE:Hid (oE ⟨k1,a1,t1,d1⟩ ⟨k2,a2,t2,d2⟩=0):=ZhW H4.out H5.out H2.out n1 n2;rw[n1,n2];have n1':True:=trivial;generalize nV ⟨k1,a1,t1,d1⟩=v1 at*;generalize nV ⟨k2,a2,t2,d2⟩=v2 at*;clear n1 n2 H2 H4 H5 f1 f2 g1;go_wp2_with fail;refine(Zbk _ _ _).mono ?_;rintro e w3 ⟨rfl,rfl⟩;go_wp2;go_ret2;exact⟨by rw[HV.out,HE.out];rfl,hB2⟩
      ·have n2':(nE ⟨k2,a2,t2,d2⟩ != 0)=true:=by simpa using n2
       have HV:Hid (oV ⟨k1,a1,t1,d1⟩ ⟨k2,a2,t2,d2⟩=0):=Zfc H4.out H5.out H2.out (.inr n2);have HE:Hid (oE ⟨k1,a1,t1,d1⟩ ⟨k2,a2,t2,d2⟩=250):=Zfd H4.out H5.out H2.out (.inr n2);rw[n1];generalize nE ⟨k2,a2,t2,d2⟩=e2 at n2'⊢;clear n1 n2 H2 H4 H5 f1 f2 g1;go_wp2;go_ret2;exact⟨by rw[HV.out,HE.out];rfl,hB2⟩
     ·have n1':(nE ⟨k1,a1,t1,d1⟩ != 0)=true:=by simpa using n1
      have HV:Hid (oV ⟨k1,a1,t1,d1⟩ ⟨k2,a2,t2,d2⟩=0):=Zfc H4.out H5.out H2.out (.inl n1);have HE:Hid (oE ⟨k1,a1,t1,d1⟩ ⟨k2,a2,t2,d2⟩=250):=Zfd H4.out H5.out H2.out (.inl n1);generalize nE ⟨k1,a1,t1,d1⟩=e1 at n1'⊢;clear n1 H2 H4 H5 f1 f2 g1;go_wp2;go_ret2;exact⟨by rw[HV.out,HE.out];rfl,hB2⟩
    ·have g2:((k2:Int) != 2)=true:=by simpa using(show(k2:Int)≠2 by omega)
     have HV:Hid (oV ⟨k1,a1,t1,d1⟩ ⟨k2,a2,t2,d2⟩=Zeh t1 t2):=by show _=_;simp[oV,p4,q4,p2,q2]
     have HE:Hid (oE ⟨k1,a1,t1,d1⟩ ⟨k2,a2,t2,d2⟩=0):=by show _=_;simp[oE,p4,q4,p2,q2]
     clear p2 q2 p4 q4;go_enter Tryz.func60,Tryz.ntmps60;go_wp2_with fail;refine(Zl8 _ _ _).mono ?_;rintro e w3 ⟨rfl,rfl⟩;go_wp2;go_ret2;exact⟨by rw[HV.out,HE.out];rfl,hB0⟩
end Go.Proofs.YtnnfhojhbbcbmaaGreatDoor
namespace Go.Proofs.YtnnfhojhbbcbmaaGreatDoor
open Go.RowKit
def cIn(hf:Int→Bool)(x:It):List It→Option (Bool×Int)
 | []=>none
 |y::r=>if oE x y=0 then(if hf (oV x y)=true then some (true,0)else cIn hf x r)else some (false,oE x y)
def Zdt(hf:Int→Bool)(b:List It):List It→Bool×Int
 | []=>(false,0)
 |x::r=>match cIn hf x b with
  |some v=>v
  |none=>Zdt hf b r
def ZbN(hf:Int→Bool)(A B:Lst):Bool×Int:=if rightL [A,B]=true then Zdt hf B.l A.l else(false,2)
theorem ZbU {α:Type}(l:List α)(k:Nat)(x:α)(hx:l[k]? =some x):l.drop k=x::l.drop (k+1):=by obtain⟨h1,h2⟩:=List.getElem?_eq_some_iff.1 hx;rw[List.drop_eq_getElem_cons h1,h2]
theorem Zki {hf:Int→Bool}{x y:It}{r:List It}(h:¬oE x y=0):cIn hf x (y::r)=some (false,oE x y):=by unfold cIn;exact if_neg h
theorem Zkj {hf:Int→Bool}{x y:It}{r:List It}(h:oE x y=0)(h2:hf (oV x y)=true):cIn hf x (y::r)=some (true,0):=by unfold cIn;rw[if_pos h,if_pos h2]
theorem ZmX {hf:Int→Bool}{x y:It}{r:List It}(h:oE x y=0)(h2:hf (oV x y)=false):cIn hf x (y::r)=cIn hf x r:=by
 conv=>lhs;unfold cIn
 rw[if_pos h,if_neg (by rw[h2];decide)]
theorem ZcY {hf:Int→Bool}{b r:List It}{x:It}{v:Bool×Int}(h:cIn hf x b=some v):Zdt hf b (x::r)=v:=by unfold Zdt;rw[h]
theorem ZgX {hf:Int→Bool}{b r:List It}{x:It}(h:cIn hf x b=none):Zdt hf b (x::r)=Zdt hf b r:=by
 conv=>lhs;unfold Zdt
 rw[h]
def Zkk(op:ByteArray)(hf:Int→Bool):Prop:=∀(n:Int) (w:World),Calls Tryz.prog 59 #[.string op,.int .i64 n] w fun e w'=>e= .returned (.tuple #[.bool (hf n),.bool true])∧w=w'
set_option maxRecDepth 100000 in
set_option maxHeartbeats 8000000 in
theorem Zat(op:ByteArray)(hf:Int→Bool)(pa pb:Option Addr)(na nb ca cb:Nat)(la lb:List It)(w:World)(he:Env w)(hh:Zkk op hf)(ha:OkA w ⟨pa,la,ca⟩)(hb:OkA w ⟨pb,lb,cb⟩)(hna:na=la.length)(hnb:nb=lb.length):
  Calls Tryz.prog 20 #[.string op,.slice pa na ca,.slice pb nb cb] w fun e w'=>e= .returned (.tuple #[.bool (ZbN hf ⟨pa,la,ca⟩ ⟨pb,lb,cb⟩).1,.int .i64 (ZbN hf ⟨pa,la,ca⟩ ⟨pb,lb,cb⟩).2])∧Below w.heap.size w w':=by
 have He:=Za he;have Hh:=Za hh;have Ha:=Za ha;have Hb:=Za hb;have Hna:=Za hna;have Hnb:=Za hnb;have hna2:na<9223372036854775807:=by rw[hna];exact ha.2.2
 have hnb2:nb<9223372036854775807:=by rw[hnb];exact hb.2.2
 have hrd:Rd (w.alloc (.cells #[.slice pa na ca,.slice pb nb cb] 28)) (some ⟨w.heap.size,0,none⟩) (([⟨pa,la,ca⟩,⟨pb,lb,cb⟩]:List Lst).map Lst.v):=by rw[hna,hnb];exact Rd.new w 28 [.slice pa la.length ca,.slice pb lb.length cb]
 have Hrd:=Za hrd;have hb0:Below w.heap.size w (w.alloc (.cells #[.slice pa na ca,.slice pb nb cb] 28)):=(Below.refl _ _).alloc (Nat.le_refl _) _;clear he hh ha hb hna hnb hrd;go_enter Tryz.func20,Tryz.ntmps20;go_wp2_with fail;refine(Hh.out 0 _).mono ?_;rintro e wx ⟨rfl,rfl⟩;go_wp2_with fail;refine(Z7 (some ⟨w.heap.size,0,none⟩) 2 2 [⟨pa,la,ca⟩,⟨pb,lb,cb⟩] _ (He.out.keep hb0).t8 rfl (by decide) Hrd.out ?ok).mono ?_
 case ok=>
  intro x hx;simp only[List.mem_cons,List.not_mem_nil,or_false]at hx;rcases hx with rfl|rfl
  ·exact⟨Ha.out.1.keep hb0,Ha.out.2⟩
  ·exact⟨Hb.out.1.keep hb0,Hb.out.2⟩
 rintro e w1 ⟨rfl,hb1⟩;have hB1:=Zb hb0 hb1;clear hb0 hb1 Hrd;rcases Bool.eq_false_or_eq_true (rightL [⟨pa,la,ca⟩,⟨pb,lb,cb⟩])with hr|hr
 ·have Hc:Hid (ZbN hf ⟨pa,la,ca⟩ ⟨pb,lb,cb⟩=Zdt hf lb la):=by show _=_;unfold ZbN;rw[if_pos hr]
  rw[hr];clear hr;go_wp2_with fail;go_loopw[34] (fun i W=>∃k:Nat,k≤na∧i= .int .i64 k∧Hid (Zdt hf lb (la.drop k)=Zdt hf lb la)∧Below w.heap.size w W) (fun i _=>na-(intOf i).toNat)
  case atStart=>exact⟨0,Nat.zero_le _,rfl,Za rfl,hB1⟩
  case round=>
   clear hB1;obtain⟨k,hk,rfl,Hk,hB⟩:=hrel;by_cases hlt:k<na
   ·have hI:(k:Int)<(na:Int):=by omega
    obtain⟨x,hx⟩:∃x,la[k]? =some x:=⟨_,List.getElem?_eq_getElem (by have:=Hna.out;omega)⟩;obtain⟨b1,off1,e1,c0,c1,c2,c3⟩:=(Ha.out.1.keep hB).at k x hx;dsimp only at e1;subst e1;have hs1:=Ha.out.2.1 x (List.mem_of_getElem? hx);have hix:=Zr b1 off1 na ca k hlt;have hst:=ZbU la k x hx;have Hst:=Za hst;clear hx hst;obtain⟨k1,a1,t1,d1⟩:=x;dsimp only at c0 c1 c2 c3 hs1;have x_x:=Blk.new wr 24 #[.int .u8 k1,.int .i64 a1,.string t1,.int .i64 d1];have hB2:=hB.alloc hB.size (.cells #[.int .u8 k1,.int .i64 a1,.string t1,.int .i64 d1] 24);obtain⟨bx,hbx⟩:∃bx,bx=wr.heap.size:=⟨_,rfl⟩;go_wp2_with fail;rw[←hbx]at x_x⊢;clear c0 c1 c2 c3 hix hbx;go_loopw[40] (fun i W=>∃j:Nat,j≤nb∧i= .int .i64 j∧Hid (cIn hf ⟨k1,a1,t1,d1⟩ (lb.drop j)=cIn hf ⟨k1,a1,t1,d1⟩ lb)∧Below w.heap.size w W∧Blk W bx 24 #[.int .u8 k1,.int .i64 a1,.string t1,.int .i64 d1]) (fun i _=>nb-(intOf i).toNat)
    case atStart=>exact⟨0,Nat.zero_le _,rfl,Za rfl,hB2,x_x⟩
    case round=>
     clear hB2 x_x hB;obtain⟨j,hj,rfl,Hj,hB3,y_x⟩:=hrel;by_cases hlj:j<nb
     ·have hI2:(j:Int)<(nb:Int):=by omega
      obtain⟨y,hy⟩:∃y,lb[j]? =some y:=⟨_,List.getElem?_eq_getElem (by have:=Hnb.out;omega)⟩;obtain⟨b2,off2,e2,c0,c1,c2,c3⟩:=(Hb.out.1.keep hB3).at j y hy;dsimp only at e2;subst e2;have hs2:=Hb.out.2.1 y (List.mem_of_getElem? hy);have hix2:=Zr b2 off2 nb cb j hlj;have Hsj:=Za (ZbU lb j y hy);clear hy;obtain⟨k2,a2,t2,d2⟩:=y;dsimp only at c0 c1 c2 c3 hs2;have z_x:=y_x.alloc (.cells #[.int .u8 k2,.int .i64 a2,.string t2,.int .i64 d2] 24);have q0:=z_x.cell 0;have q1:=z_x.cell 1;have q2:=z_x.cell 2;have q3:=z_x.cell 3;simp only[List.getElem?_toArray,List.getElem?_cons_zero,List.getElem?_cons_succ]at q0 q1 q2 q3;have hB4:=hB3.alloc hB3.size (.cells #[.int .u8 k2,.int .i64 a2,.string t2,.int .i64 d2] 24);go_wp2_with fail;refine(ZgW k1 k2 a1 a2 d1 d2 t1 t2 _ (He.out.keep hB4) hs1 hs2).mono ?_;rintro e w5 ⟨rfl,hb5⟩;have hB5:=Zb hB4 hb5;have z5:=z_x.keep hb5;clear hb5 z_x q0 q1 q2 q3 c0 c1 c2 c3 hix2 hB4 y_x;by_cases hE:oE ⟨k1,a1,t1,d1⟩ ⟨k2,a2,t2,d2⟩=0
      ·rw[hE];go_wp2_with fail;refine(Hh.out _ _).mono ?_;rintro e wx ⟨rfl,rfl⟩;rcases Bool.eq_false_or_eq_true (hf (oV ⟨k1,a1,t1,d1⟩ ⟨k2,a2,t2,d2⟩))with hv|hv
       ·have HR:Hid (ZbN hf ⟨some ⟨b1,off1,none⟩,la,ca⟩ ⟨some ⟨b2,off2,none⟩,lb,cb⟩=(true,0)):=by
         show _=_;rw[Hc.out,←Hk.out,Hst.out];refine ZcY ?_;rw[←Hj.out,Hsj.out];exact Zkj hE hv
        rw[hv];clear Hc Hk Hst Hj Hsj hE hv;go_wp2;go_ret2;exact⟨by rw[HR.out];rfl,hB5⟩
       ·have Hj2:Hid (cIn hf ⟨k1,a1,t1,d1⟩ (lb.drop (j+1))=cIn hf ⟨k1,a1,t1,d1⟩ lb):=by
         show _=_;rw[←Hj.out,Hsj.out];exact(ZmX hE hv).symm
        rw[hv];clear Hc Hk Hst Hj Hsj hE hv;go_wp2;go_roundw
        case rel=>exact⟨j+1,by omega,by simp,Hj2,hB5,z5⟩
        case measure=>simp[intOf];omega
      ·have hE2:(oE ⟨k1,a1,t1,d1⟩ ⟨k2,a2,t2,d2⟩ != 0)=true:=by simpa using hE
       have HR:Hid (ZbN hf ⟨some ⟨b1,off1,none⟩,la,ca⟩ ⟨some ⟨b2,off2,none⟩,lb,cb⟩=(false,oE ⟨k1,a1,t1,d1⟩ ⟨k2,a2,t2,d2⟩)):=by show _=_;rw[Hc.out,←Hk.out,Hst.out];refine ZcY ?_;rw[←Hj.out,Hsj.out];exact Zki hE
       clear Hc Hk Hst Hj Hsj hE;go_wp2;go_ret2;exact⟨by rw[HR.out];rfl,hB5⟩
     ·have hI2:¬(j:Int)<(nb:Int):=by omega
      have Hk2:Hid (Zdt hf lb (la.drop (k+1))=Zdt hf lb la):=by show _=_;rw[←Hk.out,Hst.out];refine(ZgX ?_).symm;rw[←Hj.out,List.drop_eq_nil_of_le (by have:=Hnb.out;omega)];rfl
      clear Hk Hst Hj;go_wp2;go_roundw
      case rel=>exact⟨k+1,by omega,by simp,Hk2,hB3⟩
      case measure=>simp[intOf];omega
   ·have hI:¬(k:Int)<(na:Int):=by omega
    have HR:Hid (ZbN hf ⟨pa,la,ca⟩ ⟨pb,lb,cb⟩=(false,0)):=by show _=_;rw[Hc.out,←Hk.out,List.drop_eq_nil_of_le (by have:=Hna.out;omega)];rfl
    clear Hc Hk;go_wp2;go_ret2;exact⟨by rw[HR.out];rfl,hB⟩
 ·have HR:Hid (ZbN hf ⟨pa,la,ca⟩ ⟨pb,lb,cb⟩=(false,2)):=by show _=_;unfold ZbN;rw[if_neg (by rw[hr];decide)]
  rw[hr];clear hr;go_wp2;go_ret2;exact⟨by rw[HR.out];rfl,hB1⟩
end Go.Proofs.YtnnfhojhbbcbmaaGreatDoor
namespace Go.Proofs.YtnnfhojhbbcbmaaGreatDoor
set_option maxRecDepth 100000
set_option maxHeartbeats 4000000
open Go.RowKit
theorem Zmi(n:Int)(q:Bool)(w:World)(hq:(n != 0)=q):Calls Tryz.prog 59 #[.string ⟨#[33,61]⟩,.int .i64 n] w fun e w'=>e= .returned (.tuple #[.bool q,.bool true])∧w=w':=by go_enter Tryz.func59,Tryz.ntmps59;go_wp2;go_ret2;exact⟨rfl,rfl⟩
theorem Zmj(n:Int)(q:Bool)(w:World)(hq:(decide (n≤0))=q):Calls Tryz.prog 59 #[.string ⟨#[60,61]⟩,.int .i64 n] w fun e w'=>e= .returned (.tuple #[.bool q,.bool true])∧w=w':=by go_enter Tryz.func59,Tryz.ntmps59;go_wp2;go_ret2;exact⟨rfl,rfl⟩
theorem Zmk(n:Int)(q:Bool)(w:World)(hq:(decide (0<n))=q):Calls Tryz.prog 59 #[.string ⟨#[62]⟩,.int .i64 n] w fun e w'=>e= .returned (.tuple #[.bool q,.bool true])∧w=w':=by go_enter Tryz.func59,Tryz.ntmps59;go_wp2;go_ret2;exact⟨rfl,rfl⟩
theorem Zml(n:Int)(q:Bool)(w:World)(hq:(decide (0≤n))=q):Calls Tryz.prog 59 #[.string ⟨#[62,61]⟩,.int .i64 n] w fun e w'=>e= .returned (.tuple #[.bool q,.bool true])∧w=w':=by go_enter Tryz.func59,Tryz.ntmps59;go_wp2;go_ret2;exact⟨rfl,rfl⟩
theorem sEq:Zkk ⟨#[61]⟩ (fun n=>n==0):=fun n w=>ZlW n _ w rfl
theorem sLt:Zkk ⟨#[60]⟩ (fun n=>decide (n<0)):=fun n w=>ZlX n _ w rfl
theorem sNe:Zkk ⟨#[33,61]⟩ (fun n=>n != 0):=fun n w=>Zmi n _ w rfl
theorem sLe:Zkk ⟨#[60,61]⟩ (fun n=>decide (n≤0)):=fun n w=>Zmj n _ w rfl
theorem sGt:Zkk ⟨#[62]⟩ (fun n=>decide (0<n)):=fun n w=>Zmk n _ w rfl
theorem sGe:Zkk ⟨#[62,61]⟩ (fun n=>decide (0≤n)):=fun n w=>Zml n _ w rfl
end Go.Proofs.YtnnfhojhbbcbmaaGreatDoor
namespace Go.Proofs.YtnnfhojhbbcbmaaGreatDoor
open Go.RowKit
def gq3(b:Bool):Nat:=if b=true then 0 else 1
theorem ZoV(b:Bool):(gq3 b==0)=b:=by cases b<;>rfl
theorem Zkl {α:Type}{P:α→Prop}{l:List α}{i:Nat}{x:α}(h:∀y∈l.take i,P y)(hx:l[i]? =some x)(hp:P x):∀y∈l.take (i+1),P y:=by
 rw[List.take_add_one,hx];intro y hy;rcases List.mem_append.1 hy with h1|h1
 ·exact h y h1
 ·simp at h1;subst h1;exact hp
set_option maxRecDepth 100000 in
set_option maxHeartbeats 4000000 in
theorem Zk3(p:Option Addr)(n c:Nat)(ls:List Lst)(w:World)(hn:n=ls.length)(hle:n<9223372036854775807)(hr:Rd w p (ls.map Lst.v))(hok:OkAs w ls):
  Calls Tryz.prog 18 #[.slice p n c] w fun e w'=>(∃q:Nat,e= .returned (.bool (q==0))∧(q≠0→∀x∈ls,x.l.length≤300))∧Below w.heap.size w w':=by
 have Hn:=Za hn;have Hr:=Za hr;have Hok:=Za hok;clear hn hr hok;go_enter Tryz.func18,Tryz.ntmps18;go_wp2_with fail;go_loopw[3,4] (fun nv iv W=>∃(z:Int) (i:Nat),i≤n∧nv= .int .i64 z∧iv= .int .i64 i∧Hid (∀x∈ls.take i,x.l.length≤300)∧Below w.heap.size w W) (fun _ iv _=>n-(intOf iv).toNat)
 case atStart=>exact⟨0,0,Nat.zero_le _,rfl,rfl,Za (by simp),Below.refl _ _⟩
 case round=>
  obtain⟨z,i,hi,rfl,rfl,Htk,hB⟩:=hrel;by_cases hlt:i<n
  ·have hI:(i:Int)<(n:Int):=by omega
   obtain⟨x,hx⟩:∃x,ls[i]? =some x:=⟨_,List.getElem?_eq_getElem (by have:=Hn.out;omega)⟩;obtain⟨b,off,rfl,hc⟩:=Hr.out.cellAt i x.v (by simp[hx]);have hix:=ZP b off n c i hlt;have Hx:=Za (Hok.out x (List.mem_of_getElem? hx));have Hnx:=Za hx;clear hx;obtain⟨xa,xl,xc⟩:=x;obtain⟨m,hm⟩:∃m,m=xl.length:=⟨_,rfl⟩;have hml:m<9223372036854775807:=by rw[hm];exact Hx.out.2.2
   have hc:w.cell? ⟨b,off+i,none⟩=some (.slice xa m xc):=by rw[hm];exact hc
   have Hc:=Za hc;have Hm:=Za hm;clear hc hm;go_wp2_with fail;go_loopw[3,5] (fun nv kv W=>∃(z:Int) (k:Nat),k≤m∧nv= .int .i64 z∧kv= .int .i64 k∧Below w.heap.size w W) (fun _ kv _=>m-(intOf kv).toNat)
   case atStart=>exact⟨z,0,Nat.zero_le _,rfl,rfl,hB⟩
   case round=>
    clear hB;obtain⟨z,k,hk,rfl,rfl,hB⟩:=hrel;have hcell:=Zc hB Hc.out;by_cases hlk:k<m
    ·have hI2:(k:Int)<(m:Int):=by omega
     by_cases hz:z<100000
     ·obtain⟨y,hy⟩:∃y,xl[k]? =some y:=⟨_,List.getElem?_eq_getElem (by have:=Hm.out;omega)⟩;obtain⟨b2,off2,e2,c0,c1,c2,c3⟩:=(Hx.out.1.keep hB).at k y hy;dsimp only at e2;subst e2;have hix2:=Zr b2 off2 m xc k hlk;clear hy;go_wp2;go_roundw
      case rel=>exact⟨_,k+1,by omega,rfl,by simp,hB⟩
      case measure=>simp[intOf];omega
     ·have hzd:decide (z<100000)=false:=by simpa using hz
      clear hz;by_cases h3:(300:Int)<(m:Int)
      ·go_wp2;go_ret;exact⟨⟨0,rfl,fun h=>absurd rfl h⟩,hB⟩
      ·have h3d:decide ((300:Int)<(m:Int))=false:=by simpa using h3
       go_wp2;go_roundw
       case rel=>exact⟨z,i+1,by omega,rfl,by simp,Za (Zkl Htk.out Hnx.out (by have:=Hm.out;show xl.length≤300;omega)),hB⟩
       case measure=>simp[intOf];omega
    ·have hI2:decide ((k:Int)<(m:Int))=false:=by simp;omega
     have hI3:¬(k:Int)<(m:Int):=by omega
     by_cases h3:(300:Int)<(m:Int)
     ·go_wp2;go_ret;exact⟨⟨0,rfl,fun h=>absurd rfl h⟩,hB⟩
     ·have h3d:decide ((300:Int)<(m:Int))=false:=by simpa using h3
      go_wp2;go_roundw
      case rel=>exact⟨z,i+1,by omega,rfl,by simp,Za (Zkl Htk.out Hnx.out (by have:=Hm.out;show xl.length≤300;omega)),hB⟩
      case measure=>simp[intOf];omega
  ·have hI:¬(i:Int)<(n:Int):=by omega
   go_wp2;go_ret;refine⟨⟨gq3 (decide (100000≤z)),by rw[ZoV];rfl,fun _ x hx=>Htk.out x ?_⟩,hB⟩;rw[List.take_of_length_le (by have:=Hn.out;omega)];exact hx
end Go.Proofs.YtnnfhojhbbcbmaaGreatDoor
namespace Go.Proofs.YtnnfhojhbbcbmaaGreatDoor
open Go.RowKit
set_option maxRecDepth 100000 in
set_option maxHeartbeats 2000000 in
theorem Zia(s:ByteArray)(w:World)(hs:s.size≤140737488355328):Calls Tryz.prog 164 #[.string s] w fun e w'=>e= .returned (.bool (rTf s s.size 0))∧w=w':=by
 go_enter Tryz.func164,Tryz.ntmps164;go_wp2_with fail;go_loopw[3] (fun v W=>∃k:Nat,v= .int .i64 k∧k≤s.size+4∧Hid (rTf s s.size k=rTf s s.size 0)∧w=W) (fun v _=>s.size-(intOf v).toNat)
 case atStart=>exact⟨0,rfl,Nat.zero_le _,Za rfl,rfl⟩
 case round=>
  obtain⟨k,rfl,hk4,Hk,rfl⟩:=hrel;by_cases hlt:k<s.size
  ·have hI:(k:Int)<(s.size:Int):=by omega
   have Hst:=Za (Znr s k hlt);have Hno:=Za (Zpr s k hlt);go_wp2_with fail;refine(ZcV s k hlt hs _).mono ?_;rintro e w1 ⟨rfl,rfl⟩;obtain⟨r,hr⟩:∃r,r=nxt s k:=⟨_,rfl⟩;rw[←hr]at Hst Hno⊢;have hd:=ZoH s k;rw[←hr]at hd;clear hr;obtain⟨r,d⟩:=r;dsimp only at Hst Hno hd;by_cases h0:d=0
   ·subst h0;have HR:Hid (rTf s s.size 0=false):=by show _=_;rw[←Hk.out];exact Hno.out rfl
    clear Hst Hno Hk hd;go_wp2;go_ret;exact⟨by rw[HR.out];rfl,rfl⟩
   ·have h0i:((d:Int)==0)=false:=by simpa using(show(d:Int)≠0 by omega)
    have Hst2:=Za (Hst.out h0);clear Hst Hno;rcases Bool.eq_false_or_eq_true (ZbL r)with hc|hc
    ·have Hk2:Hid (rTf s s.size (k+d)=rTf s s.size 0):=by show _=_;rw[←Hk.out,Hst2.out,hc,Bool.true_and]
     clear Hst2 Hk;go_wp2_with (go_at_call 201;refine(ZgI _ _).mono ?_;rintro e w1 ⟨rfl,rfl⟩);go_roundw
     case rel=>exact⟨k+d,by simp,by omega,Hk2,by trivial⟩
     case measure=>simp[intOf];omega
    ·have HR:Hid (rTf s s.size 0=false):=by show _=_;rw[←Hk.out,Hst2.out,hc,Bool.false_and]
     clear Hst2 Hk;go_wp2_with (go_at_call 201;refine(ZgI _ _).mono ?_;rintro e w1 ⟨rfl,rfl⟩);go_ret;exact⟨by rw[HR.out];rfl,rfl⟩
  ·have hI:¬(k:Int)<(s.size:Int):=by omega
   have HR:Hid (rTf s s.size 0=true):=by show _=_;rw[←Hk.out];exact ZoF s k hlt
   clear Hk;go_wp2;go_ret;exact⟨by rw[HR.out];rfl,rfl⟩
end Go.Proofs.YtnnfhojhbbcbmaaGreatDoor
namespace Go.Proofs.YtnnfhojhbbcbmaaGreatDoor
set_option maxRecDepth 100000
set_option maxHeartbeats 4000000
open Go.RowKit
theorem Zfe(s:ByteArray)(w:World)(hs:s.size≤140737488355328):Calls Tryz.prog 164 #[.string s] w fun e w'=>e= .returned (.bool (tS s))∧w=w':=by rw[←Znb];exact Zia s w hs
theorem Zjc(k:Nat)(n d:Int)(s:ByteArray)(w:World)(hs:s.size≤140737488355328):
  Calls Tryz.prog 110 #[.agg #[.int .u8 k,.int .i64 n,.string s,.int .i64 d]] w fun e w'=>e= .returned (.bool (okI ⟨k,n,s,d⟩))∧Below w.heap.size w w':=by
 have hz:=(Below.refl w.heap.size w).alloc (Nat.le_refl _) (.cells #[.int .u8 k,.int .i64 n,.string s,.int .i64 d] 24);by_cases k1:k=1
 ·subst k1;by_cases hd:0≤d
  ·by_cases hn:n=0
   ·subst hn;have H:Hid (okI ⟨1,0,s,d⟩=tS s):=by show _=_;simp[okI,hd]
    go_enter Tryz.func110,Tryz.ntmps110;go_wp2_with fail;refine(Zfe s _ hs).mono ?_;rintro e w1 ⟨rfl,rfl⟩;go_wp2;go_ret;exact⟨by rw[H.out];rfl,hz⟩
   ·have hnf:(n==0)=false:=by simpa using hn
    have H:Hid (okI ⟨1,n,s,d⟩=false):=by show _=_;simp[okI];intro h;exact absurd h.symm hn
    clear hn;go_enter Tryz.func110,Tryz.ntmps110;go_wp2;go_ret;exact⟨by rw[H.out];rfl,hz⟩
  ·have hdf:decide (0≤d)=false:=by simpa using hd
   have H:Hid (okI ⟨1,n,s,d⟩=false):=by show _=_;simp[okI,hd]
   clear hd;go_enter Tryz.func110,Tryz.ntmps110;go_wp2;go_ret;exact⟨by rw[H.out];rfl,hz⟩
 by_cases k2:k=2
 ·subst k2;clear k1;by_cases hd:d=0
  ·subst hd;by_cases ht:s.toList=[]
   ·have te:=Zai ht;subst te;clear ht;have H:Hid (okI ⟨2,n,⟨#[]⟩,0⟩=true):=by show _=_;simp[okI];rfl
    go_enter Tryz.func110,Tryz.ntmps110;go_wp2;go_ret;exact⟨by rw[H.out];rfl,hz⟩
   ·have H:Hid (okI ⟨2,n,s,0⟩=false):=by show _=_;simp[okI,ht]
    have hte:s.toList.isEmpty=false:=by cases hl:s.toList with|nil=>exact absurd hl ht|cons _ _=>rfl
    go_enter Tryz.func110,Tryz.ntmps110;go_wp2;go_ret;exact⟨by rw[H.out];rfl,hz⟩
  ·have hdf:(d==0)=false:=by simpa using hd
   have H:Hid (okI ⟨2,n,s,d⟩=false):=by show _=_;simp[okI];intro _ h;exact absurd h.symm hd
   clear hd;go_enter Tryz.func110,Tryz.ntmps110;go_wp2;go_ret;exact⟨by rw[H.out];rfl,hz⟩
 by_cases k3:k=3
 ·subst k3;clear k1 k2;by_cases hd:d=0
  ·subst hd;by_cases hn:n=0
   ·subst hn;have H:Hid (okI ⟨3,0,s,0⟩=tS s):=by show _=_;simp[okI]
    go_enter Tryz.func110,Tryz.ntmps110;go_wp2_with fail;refine(Zfe s _ hs).mono ?_;rintro e w1 ⟨rfl,rfl⟩;go_wp2;go_ret;exact⟨by rw[H.out];rfl,hz⟩
   ·have hnf:(n==0)=false:=by simpa using hn
    have H:Hid (okI ⟨3,n,s,0⟩=false):=by show _=_;simp[okI];intro h;exact absurd h.symm hn
    clear hn;go_enter Tryz.func110,Tryz.ntmps110;go_wp2;go_ret;exact⟨by rw[H.out];rfl,hz⟩
  ·have hdf:(d==0)=false:=by simpa using hd
   have H:Hid (okI ⟨3,n,s,d⟩=false):=by show _=_;simp[okI];intro _ h;exact absurd h.symm hd
   clear hd;go_enter Tryz.func110,Tryz.ntmps110;go_wp2;go_ret;exact⟨by rw[H.out];rfl,hz⟩
 by_cases k4:k=4
 ·subst k4;clear k1 k2 k3;by_cases hd:d=0
  ·subst hd;by_cases ht:s.toList=[]
   ·have te:=Zai ht;subst te;clear ht;by_cases hn:n=0
    ·subst hn;have H:Hid (okI ⟨4,0,⟨#[]⟩,0⟩=true):=by show _=_;simp[okI];rfl
     go_enter Tryz.func110,Tryz.ntmps110;go_wp2;go_ret;exact⟨by rw[H.out];rfl,hz⟩
    ·have hnf:(n==0)=false:=by simpa using hn
     by_cases hn1:n=1
     ·subst hn1;clear hn hnf;have H:Hid (okI ⟨4,1,⟨#[]⟩,0⟩=true):=by show _=_;simp[okI];rfl
      go_enter Tryz.func110,Tryz.ntmps110;go_wp2;go_ret;exact⟨by rw[H.out];rfl,hz⟩
     ·have hnf1:(n==1)=false:=by simpa using hn1
      have H:Hid (okI ⟨4,n,⟨#[]⟩,0⟩=false):=by show _=_;simp[okI,hn,hn1]
      clear hn hn1;go_enter Tryz.func110,Tryz.ntmps110;go_wp2;go_ret;exact⟨by rw[H.out];rfl,hz⟩
   ·have H:Hid (okI ⟨4,n,s,0⟩=false):=by show _=_;simp[okI,ht]
    have hte:s.toList.isEmpty=false:=by cases hl:s.toList with|nil=>exact absurd hl ht|cons _ _=>rfl
    go_enter Tryz.func110,Tryz.ntmps110;go_wp2;go_ret;exact⟨by rw[H.out];rfl,hz⟩
  ·have hdf:(d==0)=false:=by simpa using hd
   have H:Hid (okI ⟨4,n,s,d⟩=false):=by show _=_;simp[okI];intro _ _ h;exact absurd h.symm hd
   clear hd;go_enter Tryz.func110,Tryz.ntmps110;go_wp2;go_ret;exact⟨by rw[H.out];rfl,hz⟩
 ·have i1:((k:Int)==1)=false:=by simpa using(show(k:Int)≠1 by omega)
  have i2:((k:Int)==2)=false:=by simpa using(show(k:Int)≠2 by omega)
  have i3:((k:Int)==3)=false:=by simpa using(show(k:Int)≠3 by omega)
  have i4:((k:Int)==4)=false:=by simpa using(show(k:Int)≠4 by omega)
  have H:Hid (okI ⟨k,n,s,d⟩=false):=by show _=_;simp[okI,k1,k2,k3,k4]
  clear k1 k2 k3 k4;go_enter Tryz.func110,Tryz.ntmps110;go_wp2;go_ret;exact⟨by rw[H.out];rfl,hz⟩
theorem Zt(p:Option Addr)(n c:Nat)(l:List It)(w:World)(ha:OkA w ⟨p,l,c⟩)(hn:n=l.length):
  Calls Tryz.prog 61 #[.slice p n c] w fun e w'=>e= .returned (.bool (l.all okI))∧Below w.heap.size w w':=by
 have Ha:=Za ha;have Hn:=Za hn;have hnl:n<9223372036854775807:=by rw[hn];exact ha.2.2
 clear ha hn;go_enter Tryz.func61,Tryz.ntmps61;go_wp2_with fail;go_loopw[3] (fun v W=>∃k:Nat,k≤n∧v= .int .i64 k∧Hid ((l.drop k).all okI=l.all okI)∧Below w.heap.size w W) (fun v _=>n-(intOf v).toNat)
 case atStart=>exact⟨0,Nat.zero_le _,rfl,Za rfl,Below.refl _ _⟩
 case round=>
  obtain⟨k,hk,rfl,Hk,hB⟩:=hrel;by_cases hlt:k<n
  ·have hI:(k:Int)<(n:Int):=by omega
   obtain⟨x,hx⟩:∃x,l[k]? =some x:=⟨_,List.getElem?_eq_getElem (by have:=Hn.out;omega)⟩;obtain⟨b1,off1,e1,c0,c1,c2,c3⟩:=(Ha.out.1.keep hB).at k x hx;dsimp only at e1;subst e1;have hs1:=Ha.out.2.1 x (List.mem_of_getElem? hx);have hix:=Zr b1 off1 n c k hlt;have hst:=Za (ZF okI l k x hx);clear hx;obtain⟨k1,a1,t1,d1⟩:=x;dsimp only at c0 c1 c2 c3 hs1;go_wp2_with fail;refine(Zjc k1 a1 d1 t1 _ hs1).mono ?_;rintro e w1 ⟨rfl,hb1⟩;have hB1:=Zb hB hb1;clear hb1 c0 c1 c2 c3 hB;rcases Bool.eq_false_or_eq_true (okI ⟨k1,a1,t1,d1⟩)with hq|hq
   ·have Hk2:Hid ((l.drop (k+1)).all okI=l.all okI):=by show _=_;rw[←Hk.out,hst.out,hq,Bool.true_and]
    rw[hq];clear hst Hk hq;go_wp2;go_roundw
    case rel=>exact⟨k+1,by omega,by simp,Hk2,hB1⟩
    case measure=>simp[intOf];omega
   ·have HR:Hid (l.all okI=false):=by show _=_;rw[←Hk.out,hst.out,hq,Bool.false_and]
    rw[hq];clear hst Hk hq;go_wp2;go_ret;exact⟨by rw[HR.out];rfl,hB1⟩
  ·have hI:¬(k:Int)<(n:Int):=by omega
   have HR:Hid (l.all okI=true):=by show _=_;rw[←Hk.out];exact ZfA okI l k (by have:=Hn.out;omega)
   clear Hk;go_wp2;go_ret;exact⟨by rw[HR.out];rfl,hB⟩
end Go.Proofs.YtnnfhojhbbcbmaaGreatDoor
