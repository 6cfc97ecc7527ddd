/- cmp.Compare at int64 and at one text; value.order at what awake asks. value.holds. value.Compare at what awake asks. value.made. value.Arith at two single items. Texts of items; texts put together; value.substring at plain text. Items alone, in blocks of their own (str, whole, truth); texts put together (joined). Rows of items with room behind: what is written into them, appended to them. -/
import Derived.Test.YtnnfhojhbbcbmaaGreatDoorC06
import Derived.Test.YtnnfhojhbbcbmaaGreatDoorC01
import Derived.Test.YtnnfhojhbbcbmaaGreatDoorC03
import Derived.Test.YtnnfhojhbbcbmaaGreatDoorC02
import Derived.ArgAppend
namespace Go.Proofs.YtnnfhojhbbcbmaaGreatDoor
set_option maxRecDepth 100000
set_option maxHeartbeats 4000000
open Go.RowKit
def ZaA(x y:Int):Int:=if x<y then-1 else if y<x then 1 else 0
theorem Zni(x:Int)(w:World):Calls Tryz.prog 162 #[.int .i64 x] w fun e w'=>e= .returned (.bool false)∧w=w':=by
 have hx:(x != x)=false:=by simp
 go_enter Tryz.func162,Tryz.ntmps162;go_wp2;go_ret;exact⟨rfl,rfl⟩
theorem ZfB(x:ByteArray)(w:World):Calls Tryz.prog 163 #[.string x] w fun e w'=>e= .returned (.bool false)∧w=w':=by go_enter Tryz.func163,Tryz.ntmps163;go_wp2;go_ret;exact⟨rfl,rfl⟩
theorem Zbk(x y:Int)(w:World):Calls Tryz.prog 108 #[.int .i64 x,.int .i64 y] w fun e w'=>e= .returned (.int .i64 (ZaA x y))∧w=w':=by
 have hfin:Hid (ZaA x y=if x<y then-1 else if y<x then 1 else 0):=by show ZaA x y=_;rfl
 go_enter Tryz.func108,Tryz.ntmps108;go_wp2_with (go_at_call 162;refine(Zni _ _).mono ?_;rintro e w' ⟨rfl,rfl⟩)
 ·go_ret;exact⟨ZdJ (by rw[hfin.out,if_pos (by assumption)]),rfl⟩
 ·go_ret;have h1:y≤x:=by assumption
  have h2:y<x:=by assumption
  exact⟨ZdJ (by rw[hfin.out,if_neg (by omega),if_pos h2]),rfl⟩
 ·go_ret;have h1:y≤x:=by assumption
  have h2:x≤y:=by assumption
  exact⟨ZdJ (by rw[hfin.out,if_neg (by omega),if_neg (by omega)]),rfl⟩
end Go.Proofs.YtnnfhojhbbcbmaaGreatDoor
namespace Go.Proofs.YtnnfhojhbbcbmaaGreatDoor
set_option maxRecDepth 100000
set_option maxHeartbeats 4000000
open Go.RowKit
theorem ZlW(n:Int)(q:Bool)(w:World)(hq:(n==0)=q):Calls Tryz.prog 59 #[.string ⟨#[61]⟩,.int .i64 n] w fun e w'=>e= .returned (.tuple #[.bool q,.bool true])∧w=w':=by go_enter Tryz.func59,Tryz.ntmps59;go_wp2;go_ret2;exact⟨rfl,rfl⟩
theorem ZlX(n:Int)(q:Bool)(w:World)(hq:decide (n<0)=q):Calls Tryz.prog 59 #[.string ⟨#[60]⟩,.int .i64 n] w fun e w'=>e= .returned (.tuple #[.bool q,.bool true])∧w=w':=by go_enter Tryz.func59,Tryz.ntmps59;go_wp2;go_ret2;exact⟨rfl,rfl⟩
end Go.Proofs.YtnnfhojhbbcbmaaGreatDoor
namespace Go.Proofs.YtnnfhojhbbcbmaaGreatDoor
open Go.RowKit
theorem RdI.z {w:World}{g:Nat}{l:List It}(h:RdI w (some ⟨g,0,none⟩) l)(i:Nat)(x:It)(hx:l[i]? =some x):
  w.cell? ⟨g,i*4,none⟩=some (.int .u8 x.kind)∧w.cell? ⟨g,i*4+1,none⟩=some (.int .i64 x.num)∧w.cell? ⟨g,i*4+2,none⟩=some (.string x.text)∧w.cell? ⟨g,i*4+3,none⟩=some (.int .i64 x.node):=by
 obtain⟨b,off,e,h0,h1,h2,h3⟩:=h.at i x hx;injection e with e;injection e with e1 e2;subst e1 e2;rw[Nat.zero_add]at h0 h1 h2 h3;exact⟨h0,h1,h2,h3⟩
theorem RdI.z0 {w:World}{g:Nat}{l:List It}(h:RdI w (some ⟨g,0,none⟩) l)(x:It)(hx:l[0]? =some x):
  w.cell? ⟨g,0,none⟩=some (.int .u8 x.kind)∧w.cell? ⟨g,1,none⟩=some (.int .i64 x.num)∧w.cell? ⟨g,2,none⟩=some (.string x.text)∧w.cell? ⟨g,3,none⟩=some (.int .i64 x.node):=h.z 0 x hx
theorem RdI.z1 {w:World}{g:Nat}{l:List It}(h:RdI w (some ⟨g,0,none⟩) l)(x:It)(hx:l[1]? =some x):
  w.cell? ⟨g,4,none⟩=some (.int .u8 x.kind)∧w.cell? ⟨g,5,none⟩=some (.int .i64 x.num)∧w.cell? ⟨g,6,none⟩=some (.string x.text)∧w.cell? ⟨g,7,none⟩=some (.int .i64 x.node):=h.z 1 x hx
end Go.Proofs.YtnnfhojhbbcbmaaGreatDoor
namespace Go.Proofs.YtnnfhojhbbcbmaaGreatDoor
set_option maxRecDepth 100000
set_option maxHeartbeats 4000000
open Go.RowKit
def mkV(ok:Bool)(n:Int):Int:=if ok then n else 0
def erV(ok:Bool):Int:=if ok then 0 else 251
theorem Zbu {ok:Bool}{n:Int}(h:ok=true):mkV ok n=n:=by unfold mkV;rw[if_pos h]
theorem Zdw {ok:Bool}{n:Int}(h:ok=false):mkV ok n=0:=by unfold mkV;rw[h];rfl
theorem Zbv {ok:Bool}(h:ok=true):erV ok=0:=by unfold erV;rw[if_pos h]
theorem Zc3 {ok:Bool}(h:ok=false):erV ok=251:=by unfold erV;rw[h];rfl
def ZfS(s:ByteArray)(x y v r:Int):Prop:=∀w,Calls Tryz.prog 66 #[.string s,.int .i64 x,.int .i64 y] w fun e w'=>e= .returned (.tuple #[.int .i64 v,.int .i64 r])∧w=w'
theorem ZkM(a b:Int)(ha:R64 a)(hb:R64 b):ZfS ⟨#[43]⟩ a b (mkV (fit (a+b)) (a+b)) (erV (fit (a+b))):=by
 intro w;have Ha:=Za ha;have Hb:=Za hb;clear ha hb;rcases Bool.eq_false_or_eq_true (fit (a+b))with hf|hf
 ·rw[Zbu hf,Zbv hf];have Hw:=Za (ZaC hf);go_enter Tryz.func66,Tryz.ntmps66;go_wp2_with fail;refine(ZcG a b Ha.out Hb.out _).mono ?_;rintro e w1 ⟨rfl,rfl⟩;rw[Hw.out];go_wp2;go_ret2;exact⟨rfl,rfl⟩
 ·rw[Zdw hf,Zc3 hf];go_enter Tryz.func66,Tryz.ntmps66;go_wp2_with fail;refine(ZcG a b Ha.out Hb.out _).mono ?_;rintro e w1 ⟨rfl,rfl⟩;go_wp2;go_ret2;exact⟨rfl,rfl⟩
theorem Zi4(a b:Int)(ha:R64 a)(hb:R64 b):ZfS ⟨#[42]⟩ a b (mkV (fit (a*b)) (a*b)) (erV (fit (a*b))):=by
 intro w;have Ha:=Za ha;have Hb:=Za hb;clear ha hb;rcases Bool.eq_false_or_eq_true (fit (a*b))with hf|hf
 ·rw[Zbu hf,Zbv hf];have Hw:=Za (ZaC hf);go_enter Tryz.func66,Tryz.ntmps66;go_wp2_with fail;refine(ZgD a b Ha.out Hb.out _).mono ?_;rintro e w1 ⟨rfl,rfl⟩;rw[Hw.out];go_wp2;go_ret2;exact⟨rfl,rfl⟩
 ·rw[Zdw hf,Zc3 hf];go_enter Tryz.func66,Tryz.ntmps66;go_wp2_with fail;refine(ZgD a b Ha.out Hb.out _).mono ?_;rintro e w1 ⟨rfl,rfl⟩;go_wp2;go_ret2;exact⟨rfl,rfl⟩
theorem Zi5(a b:Int)(ha:R64 a)(hb:R64 b):ZfS ⟨#[45]⟩ a b (mkV (fit (a-b)) (a-b)) (erV (fit (a-b))):=by
 intro w;have H:=Za (ZkE a b ha hb);clear ha hb;rcases Bool.eq_false_or_eq_true (fit (a-b))with hf|hf
 ·rw[Zbu hf,Zbv hf];have Hw:=Za (ZaC hf);have hq:decide (0≤bits .and .i64 (bits .xor .i64 a b) (bits .xor .i64 a (wrap64 (a-b))))=true:=by rw[H.out,hf]
  go_enter Tryz.func66,Tryz.ntmps66;go_wp2;go_ret2;exact⟨by rw[Hw.out];rfl,rfl⟩
 ·rw[Zdw hf,Zc3 hf];have hq:decide (0≤bits .and .i64 (bits .xor .i64 a b) (bits .xor .i64 a (wrap64 (a-b))))=false:=by rw[H.out,hf]
  go_enter Tryz.func66,Tryz.ntmps66;go_wp2;go_ret2;exact⟨rfl,rfl⟩
theorem ZhS(a b:Int)(ha:R64 a)(hb:R64 b)(h:b≠ -1∨a≠ -9223372036854775808):R64 (a.tdiv b):=by
 have h1:=Int.natAbs_tdiv_le_natAbs a b;unfold R64 at*;rcases Decidable.em (b= -1)with e|e
 ·subst e;have:a.tdiv (-1)= -a:=by rw[Int.tdiv_neg,Int.tdiv_one]
  omega
 ·rcases Decidable.em (a= -9223372036854775808)with e2|e2
  ·subst e2;rcases Decidable.em (b=1)with e3|e3
   ·subst e3;simp
   ·rcases Decidable.em (b=0)with e4|e4
    ·subst e4;simp
    ·have h2:(Int.tdiv (-9223372036854775808) b).natAbs=9223372036854775808 / b.natAbs:=by rw[Int.natAbs_tdiv];rfl
     have h3:9223372036854775808 / b.natAbs≤9223372036854775808 / 2:=Nat.div_le_div_left (by omega) (by decide);omega
  ·omega
theorem Znj(a b:Int)(ha:R64 a)(hb:R64 b):fit (a.tdiv b)= !(b== -1&&a== -9223372036854775808):=by
 rcases Decidable.em (b= -1∧a= -9223372036854775808)with⟨h1,h2⟩|h
 ·subst h1 h2;decide
 ·have:=(ZbR _).2 (ZhS a b ha hb (by omega));rw[this];simp only[Bool.true_eq,Bool.not_eq_true',Bool.and_eq_false_iff,beq_eq_false_iff_ne];omega
theorem ZlY(a b:Int)(ha:R64 a)(hb:R64 b)(h0:b≠0):ZfS ⟨#[100,105,118]⟩ a b (mkV (fit (a.tdiv b)) (a.tdiv b)) (erV (fit (a.tdiv b))):=by
 intro w;have H:=Za (Znj a b ha hb);clear ha hb;have h0':(b==0)=false:=by simpa using h0
 by_cases h1:b= -1
 ·subst h1;by_cases h2:a= -9223372036854775808
  ·subst h2;have hf:fit (Int.tdiv (-9223372036854775808) (-1))=false:=by decide
   rw[Zdw hf,Zc3 hf];go_enter Tryz.func66,Tryz.ntmps66;go_wp2;go_ret2;exact⟨rfl,rfl⟩
  ·have hf:fit (a.tdiv (-1))=true:=by rw[H.out];simp[h2]
   rw[Zbu hf,Zbv hf];have Hw:=Za (ZaC hf);have hm:(a != -9223372036854775808)=true:=by simpa using h2
   have ht:Hid (a.tdiv (-1)= -a):=by show a.tdiv (-1)= -a;rw[Int.tdiv_neg,Int.tdiv_one]
   rw[ht.out]at Hw⊢;go_enter Tryz.func66,Tryz.ntmps66;go_wp2;go_ret2;exact⟨by rw[Hw.out];rfl,rfl⟩
 ·have hf:fit (a.tdiv b)=true:=by rw[H.out];simp[h1]
  rw[Zbu hf,Zbv hf];have Hw:=Za (ZaC hf);have hm:(b != -1)=true:=by simpa using h1
  go_enter Tryz.func66,Tryz.ntmps66;go_wp2;go_ret2;exact⟨by rw[Hw.out];rfl,rfl⟩
theorem ZlZ(a b:Int)(_ha:R64 a)(_hb:R64 b)(h0:b≠0):ZfS ⟨#[109,111,100]⟩ a b (a.tmod b) 0:=by
 intro w;have h0':(b==0)=false:=by simpa using h0
 go_enter Tryz.func66,Tryz.ntmps66;go_wp2;go_ret2;exact⟨rfl,rfl⟩
theorem ZkN(a:Int):ZfS ⟨#[100,105,118]⟩ a 0 0 252:=by intro w;go_enter Tryz.func66,Tryz.ntmps66;go_wp2;go_ret2;exact⟨rfl,rfl⟩
theorem ZkO(a:Int):ZfS ⟨#[109,111,100]⟩ a 0 0 252:=by intro w;go_enter Tryz.func66,Tryz.ntmps66;go_wp2;go_ret2;exact⟨rfl,rfl⟩
end Go.Proofs.YtnnfhojhbbcbmaaGreatDoor
namespace Go.Proofs.YtnnfhojhbbcbmaaGreatDoor
open Go.RowKit
def One(w:World)(v:Value)(x:It):Prop:=∃g c,v= .slice (some ⟨g,0,none⟩) 1 c∧RdI w (some ⟨g,0,none⟩) [x]
end Go.Proofs.YtnnfhojhbbcbmaaGreatDoor
namespace Go.Proofs.YtnnfhojhbbcbmaaGreatDoor
open Go.RowKit
end Go.Proofs.YtnnfhojhbbcbmaaGreatDoor
namespace Go.Proofs.YtnnfhojhbbcbmaaGreatDoor
set_option maxRecDepth 100000
set_option maxHeartbeats 4000000
open Go.RowKit
def Res(w:World)(L:List It)(E:Int):Ending→World→Prop:=fun e w'=>∃v,e= .returned (.tuple #[v,.int .i64 E])∧OwI w' w.heap.size v L∧Below w.heap.size w w'
theorem OwI.nil(w:World)(B:Nat):OwI w B (.slice none 0 0) []:=Zb8 w B _ _
theorem OwI.keep {w w':World}{B:Nat}{v:Value}{l:List It}(h:OwI w B v l)(hb:Below w.heap.size w w'):OwI w' B v l:=ZL h hb
theorem OwI.mono {w:World}{B B':Nat}{v:Value}{l:List It}(h:OwI w B v l)(hB:B'≤B):OwI w B' v l:=ZdK h hB
theorem OwI.one(w:World)(B:Nat)(hB:B≤w.heap.size)(x:It):OwI (w.alloc (.cells #[.int .u8 x.kind,.int .i64 x.num,.string x.text,.int .i64 x.node] 24)) B (.slice (some ⟨w.heap.size,0,none⟩) 1 1) [x]:=
 ⟨rfl,.inr ⟨w.heap.size,1,#[.int .u8 x.kind,.int .i64 x.num,.string x.text,.int .i64 x.node],rfl,hB,heap_alloc_new _ _,Nat.le_refl _,by decide,rfl,rfl⟩⟩
theorem Zak(n:Int)(w:World):Calls Tryz.prog 49 #[.int .i64 n] w fun e w'=>∃v,e= .returned v∧OwI w' w.heap.size v [⟨2,n,⟨#[]⟩,0⟩]∧Below w.heap.size w w':=by have hk:=(Below.refl w.heap.size w).alloc (Nat.le_refl _) (.cells #[.int .u8 2,.int .i64 n,.string ⟨#[]⟩,.int .i64 0] 24);have hr:=OwI.one w w.heap.size (Nat.le_refl _) ⟨2,n,⟨#[]⟩,0⟩;go_enter Tryz.func49,Tryz.ntmps49;go_wp2;go_ret;exact⟨_,rfl,hr,hk⟩
theorem Ziz(s:ByteArray)(w:World):Calls Tryz.prog 100 #[.string s] w fun e w'=>∃v,e= .returned v∧OwI w' w.heap.size v [⟨3,0,s,0⟩]∧Below w.heap.size w w':=by have hk:=(Below.refl w.heap.size w).alloc (Nat.le_refl _) (.cells #[.int .u8 3,.int .i64 0,.string s,.int .i64 0] 24);have hr:=OwI.one w w.heap.size (Nat.le_refl _) ⟨3,0,s,0⟩;go_enter Tryz.func100,Tryz.ntmps100;go_wp2;go_ret;exact⟨_,rfl,hr,hk⟩
def bN(b:Bool):Int:=if b=true then 1 else 0
theorem ZR(b:Bool)(w:World):Calls Tryz.prog 51 #[.bool b] w fun e w'=>∃v,e= .returned v∧OwI w' w.heap.size v [⟨4,bN b,⟨#[]⟩,0⟩]∧Below w.heap.size w w':=by
 cases b with
 |true=>
  have hk:=((Below.refl w.heap.size w).alloc (Nat.le_refl _) (.cells #[.int .u8 4,.int .i64 1,.string ⟨#[]⟩,.int .i64 0] 24)).alloc (by simp) (.cells #[.int .u8 4,.int .i64 1,.string ⟨#[]⟩,.int .i64 0] 24);have hr:=OwI.one (w.alloc (.cells #[.int .u8 4,.int .i64 1,.string ⟨#[]⟩,.int .i64 0] 24)) w.heap.size (by simp) ⟨4,1,⟨#[]⟩,0⟩;go_enter Tryz.func51,Tryz.ntmps51;go_wp2;go_ret;refine⟨_,rfl,?_,?_⟩
  ·simpa[bN]using hr
  ·simpa using hk
 |false=>
  have hk:=((Below.refl w.heap.size w).alloc (Nat.le_refl _) (.cells #[.int .u8 4,.int .i64 0,.string ⟨#[]⟩,.int .i64 0] 24)).alloc (by simp) (.cells #[.int .u8 4,.int .i64 0,.string ⟨#[]⟩,.int .i64 0] 24);have hr:=OwI.one (w.alloc (.cells #[.int .u8 4,.int .i64 0,.string ⟨#[]⟩,.int .i64 0] 24)) w.heap.size (by simp) ⟨4,0,⟨#[]⟩,0⟩;go_enter Tryz.func51,Tryz.ntmps51;go_wp2;go_ret;refine⟨_,rfl,?_,?_⟩
  ·simpa[bN]using hr
  ·simpa using hk
def joinB(sep:ByteArray)(xs:List ByteArray):ByteArray:=⟨(Lib.join (xs.map (·.data.toList)) sep.data.toList).toArray⟩
def joinR(sep:ByteArray)(xs:List ByteArray):List It×Int:=if 65536<(joinB sep xs).size then([],3)else([⟨3,0,joinB sep xs,0⟩],0)
def szS(sep:ByteArray):List ByteArray→Nat
 | []=>0
 |x::r=>sep.size+x.size+szS sep r
theorem ZhB(sep:ByteArray):∀xs ys:List ByteArray,szS sep (xs++ys)=szS sep xs+szS sep ys
 | [],ys=>by simp[szS]
 |x::r,ys=>by simp only[List.cons_append,szS,ZhB sep r ys];omega
theorem Zl0(sep:ByteArray)(xs:List ByteArray)(k:Nat)(x:ByteArray)(h:xs[k]? =some x):szS sep (xs.take (k+1))=szS sep (xs.take k)+(sep.size+x.size):=by rw[List.take_add_one,h,ZhB];simp[szS]
theorem ZoD(sep:ByteArray)(xs:List ByteArray)(k:Nat):szS sep (xs.take k)≤szS sep xs:=by have h:=ZhB sep (xs.take k) (xs.drop k);rw[List.take_append_drop]at h;omega
theorem ZcU(sep:ByteArray):∀xs:List ByteArray,xs≠ []→(joinB sep xs).size+sep.size=szS sep xs
 | [],h=>absurd rfl h
 | [x],_=>by
  show(List.intercalate sep.data.toList [x.data.toList]).toArray.size+sep.size=_;have:x.data.toList.length=x.size:=Array.length_toList;simp[List.intercalate,szS];omega
 |x::y::r,_=>by
  have ih:=ZcU sep (y::r) (by simp);have h1:(joinB sep (x::y::r)).size=x.size+sep.size+(joinB sep (y::r)).size:=by show(List.intercalate sep.data.toList (x.data.toList::y.data.toList::r.map (·.data.toList))).toArray.size=x.size+sep.size+(List.intercalate sep.data.toList (y.data.toList::r.map (·.data.toList))).toArray.size;rw[List.intercalate_cons_cons];have e1:x.data.toList.length=x.size:=Array.length_toList;have e2:sep.data.toList.length=sep.size:=Array.length_toList;simp only[List.size_toArray,List.length_append,e1,e2]
  rw[h1];have:szS sep (x::y::r)=sep.size+x.size+szS sep (y::r):=rfl;omega
theorem Z0(b off n c k:Nat)(h:k<n)(W:World):(Instr.indexAt 29 (.slice (some ⟨b,off,none⟩) n c) (.int .i64 k)).run Tryz.prog W= .ok (.pointer (some ⟨b,off+k,none⟩)) W:=by
 have e:(Tryz.prog.info? 9).map (fun i=>(i.zero,i.size,i.bytes))=some (some (.string ⟨#[]⟩),1,16):=by kernel_rfl
 obtain⟨j0,hj,_,hj1,_⟩:=info_parts e;have:=ZfP Tryz.underlying29 hj hj1 b off n c k k rfl h W;rwa[Nat.mul_one]at this
theorem Z2(sep:ByteArray)(p:Option Addr)(n c:Nat)(xs:List ByteArray)(w:World)(hr:Rd w p (xs.map Value.string))(hn:n=xs.length)(hc:n≤c)(hnm:n≤140737488355328)(hz:∀x∈xs,x.size≤140737488355328)(hs:sep.size≤140737488355328)
  (hp:(p=none∧c=0)∨∃b off,p=some ⟨b,off,none⟩∧b<w.heap.size):
  Calls Tryz.prog 48 #[.string sep,.slice p n c] w (Res w (joinR sep xs).1 (joinR sep xs).2):=by
 have Hr:=Za hr;have Hn:=Za hn;have Hc:=Za hc;have Hz:=Za hz;have Hp:=Za hp;have Hnm:=Za hnm;clear hr hn hc hz hp;go_enter Tryz.func48,Tryz.ntmps48;go_wp2_with fail;go_loopw[6,14] (fun v i W=>∃(S k:Nat),k≤n∧v= .int .i64 ((S:Int)-sep.size)∧i= .int .i64 k∧Hid (S=szS sep (xs.take k))∧(S=0∨S≤65536+sep.size)∧w=W) (fun _ i _=>n-(intOf i).toNat)
 case atStart=>exact⟨0,0,Nat.zero_le _,by simp,rfl,Za rfl,.inl rfl,rfl⟩
 case round=>
  obtain⟨S,k,hk,rfl,rfl,HS,hSle,rfl⟩:=hrel;by_cases hlt:k<n
  ·have hI:(k:Int)<(n:Int):=by omega
   obtain⟨x,hx⟩:∃x,xs[k]? =some x:=⟨_,List.getElem?_eq_getElem (by have:=Hn.out;omega)⟩;obtain⟨b,off,rfl,hcell⟩:=Hr.out.cellAt k (.string x) (by simp[hx]);have hix:=Z0 b off n c k hlt;have hxz:=Hz.out x (List.mem_of_getElem? hx);have HS2:=Za (Zl0 sep xs k x hx);have HSl:=Za (ZoD sep xs (k+1));have Hne:Hid (xs≠ []):=by show xs≠ [];intro e;subst e;simp at hx
   clear hx;by_cases hbig:65536+sep.size<S+(sep.size+x.size)
   ·have hg:(65536:Int)<(S:Int)-sep.size+(sep.size+x.size):=by omega
    have HR:Hid (joinR sep xs=([],3)):=by show _=_;unfold joinR;rw[if_pos];have h1:=ZcU sep xs Hne.out;have h2:=HS2.out;have h3:=HSl.out;have h4:=HS.out;omega
    clear hbig;go_wp2;go_ret2;exact⟨.slice none 0 0,by rw[HR.out];rfl,by rw[HR.out];exact OwI.nil _ _,Below.refl _ _⟩
   ·have hg:¬(65536:Int)<(S:Int)-sep.size+(sep.size+x.size):=by omega
    have Hle2:=Za (Nat.le_of_not_lt hbig);clear hbig;go_wp2;go_roundw
    case rel=>exact⟨S+(sep.size+x.size),k+1,by omega,by simp;omega,by simp,Za (by show _=_;rw[HS2.out,←HS.out]),.inr Hle2.out,by trivial⟩
    case measure=>simp[intOf];omega
  ·have hI:¬(k:Int)<(n:Int):=by omega
   have hall:xs.take k=xs:=List.take_of_length_le (by have:=Hn.out;omega)
   have HR:Hid (joinR sep xs=([⟨3,0,joinB sep xs,0⟩],0)∧(joinB sep xs).size≤65536):=by
    show _∧_
    have hsm:(joinB sep xs).size≤65536:=by
     by_cases h0:xs=[]
     ·subst h0;show(List.intercalate sep.data.toList []).toArray.size≤65536;simp[List.intercalate]
     ·have h1:=ZcU sep xs h0;have h4:=HS.out;rw[hall]at h4;omega
    refine⟨?_,hsm⟩;unfold joinR;rw[if_neg (by omega)]
   have Hjl:Hid ((Lib.join (xs.map (·.data.toList)) sep.data.toList).length≤140737488355328):=by show _≤_;have:=HR.out.2;unfold joinB at this;rw[show(ByteArray.mk (Lib.join (xs.map (·.data.toList)) sep.data.toList).toArray).size=(Lib.join (xs.map (·.data.toList)) sep.data.toList).length from List.size_toArray]at this;omega
   clear hall HS hSle;rcases Hp.out with⟨rfl,rfl⟩|⟨b,off,rfl,hlt2⟩
   ·have hn0:n=0:=by have:=Hc.out;omega
    subst hn0;have hx0:xs=[]:=List.length_eq_zero_iff.1 Hn.out.symm;subst hx0;go_wp2_with fail;refine(Tryz.strings_Join_none none 0 sep _).mono ?_;rintro e w1 ⟨rfl,rfl⟩;go_wp2_with fail;refine(Ziz _ _).mono ?_;rintro e w2 ⟨v,rfl,ho2,hb2⟩;have Ho2:=Za ho2;clear ho2;go_wp2;go_ret2;exact⟨v,by rw[HR.out.1];rfl,by rw[HR.out.1];exact Ho2.out,hb2⟩
   ·have Hlt2:=Za hlt2;have hnx:n=xs.length:=Hn.out;clear hlt2 hlt hk;subst hnx;go_wp2_with fail;refine(Tryz.strings_Join b off c xs sep _ ?j1 Hlt2.out Hnm.out Hc.out Hjl.out).mono ?_
    case j1=>intro j x hx;obtain⟨b2,off2,e,hcell⟩:=Hr.out.cellAt j (.string x) (by simp[hx]);injection e with e;injection e with e1 e2;subst e1 e2;exact hcell
    rintro e w1 ⟨rfl,hb1⟩;have hj:(⟨(Lib.join (xs.map (·.data.toList)) sep.data.toList).toArray⟩:ByteArray)=joinB sep xs:=rfl;rw[hj];clear hj;generalize joinB sep xs=jb at*;go_wp2_with fail;refine(Ziz _ _).mono ?_;rintro e w2 ⟨v,rfl,ho2,hb2⟩;have Ho2:=Za (ho2.mono hb1.size);have hB2:=Zb hb1 hb2;clear ho2 hb1 hb2;go_wp2;go_ret2;exact⟨v,by rw[HR.out.1];rfl,by rw[HR.out.1];exact Ho2.out,hB2⟩
end Go.Proofs.YtnnfhojhbbcbmaaGreatDoor
namespace Go.Proofs.YtnnfhojhbbcbmaaGreatDoor
open Go.RowKit
abbrev PcI:=Option Nat×Nat×Nat×Option Addr
def piV(p:PcI):Value:= .slice p.2.2.2 p.2.1 p.2.2.1
def ContI(W:World)(p:PcI)(xs:List It):Prop:=
 (p.1=none∧p.2.1=0∧p.2.2.1=0∧xs=[])∨∃g,p.1=some g∧p.2.2.2=some ⟨g,0,none⟩∧p.2.1≤p.2.2.1∧W.ownsRow 0 24 4 (.slice (some ⟨g,0,none⟩) xs.length p.2.2.1) xs.length (Zi xs)
theorem ZcD:∀(l:List It) (k:Nat),Zi (l.take k)=(Zi l).take (k*4)
 | [],k=>by simp[Zi]
 |x::l,0=>by simp[Zi]
 |x::l,k+1=>by
  rw[List.take_succ_cons,Za2,Za2,ZcD l k,show(k+1)*4=(itC x).length+k*4 from by simp[itC];omega,List.take_length_add_append]
theorem ZaE {w:World}{B g n cap:Nat}{e:TypeId}{size:Nat}{xs:List Value}(h:w.ownsRow B e size (.slice (some ⟨g,0,none⟩) n cap) n xs):
  ∃cur,B≤g∧w.heap[g]? =some (.cells cur e (0,0))∧n≤cap∧cap≤maxLen∧cur.size=cap*size∧cur.toList.take (n*size)=xs:=by
 rcases h.2 with⟨e1,_⟩|⟨g',cap',cur,e1,h1,h2⟩
 ·injection e1 with e1;cases e1
 ·injection e1 with e1 e2 e3;injection e1 with e1;injection e1 with e1;subst e1 e3;exact⟨cur,h1,h2⟩
section
variable {W W' : World} {p : PcI} {xs : List It}
theorem ContI.keep(h:ContI W p xs)(hb:Below W.heap.size W W'):ContI W' p xs:=
 h.imp id fun⟨g,h1,ha,h2,h3⟩=>⟨g,h1,ha,h2,ZL h3 hb⟩
theorem ContI.other {r:Option Nat}(h:ContI W p xs)(hg:W.grownBy W' r)(hne:∀g,p.1=some g→r≠some g):ContI W' p xs:=
 h.imp id fun⟨g,h1,ha,h2,h3⟩=>⟨g,h1,ha,h2,World.ownsRow.kept h3 hg (.inr fun e=>hne g h1 (by rw[←e];rfl))⟩
theorem ContI.rd(h:ContI W p xs):RdI W p.2.2.2 xs:=by
 rcases h with⟨h1,h2,h3,h4⟩|⟨g,h1,ha,h2,h3⟩
 ·subst h4;exact .inl rfl
 ·rw[ha];exact ZcQ h3
theorem ContI.lt(h:ContI W p xs)(g:Nat)(hg:p.1=some g):g<W.heap.size:=by
 rcases h with⟨h1,_⟩|⟨g',h1,ha,h2,h3⟩
 ·rw[h1]at hg;cases hg
 ·rw[h1]at hg;injection hg with hg;subst hg;exact(Z5 h3 g' rfl).2
theorem ContI.take(h:ContI W p xs)(k:Nat):ContI W p (xs.take k):=by
 rcases h with⟨h1,h2,h3,h4⟩|⟨g,h1,ha,h2,h3⟩
 ·exact .inl ⟨h1,h2,h3,by simp[h4]⟩
 ·refine .inr ⟨g,h1,ha,h2,?_⟩;obtain⟨cur,q1,q2,q3,q4,q5,q6⟩:=ZaE h3;refine⟨Zg _,.inr ⟨g,p.2.2.1,cur,rfl,q1,q2,by rw[List.length_take];omega,q4,q5,?_⟩⟩;rw[ZcD,←q6,List.take_take,List.length_take];congr 1;omega
theorem ContI.set(h:ContI W p xs)(y:It)(hlt:xs.length<p.2.2.1):∃g cur cur1,p.1=some g∧p.2.2.2=some ⟨g,0,none⟩∧W.heap[g]? =some (.cells cur 24 (0,0))∧
  (∀W':World,W'.heap[g]? =some (.cells cur 24 (0,0))∨W'.heap[g]? =some (.cells cur1 24 (0,0))→(storeCells ⟨g,xs.length*4,none⟩ (itC y) 0).run Tryz.prog W'= .ok () (W'.setRow g cur1))∧
  (∀W':World,W'.heap[g]? =some (.cells cur1 24 (0,0))→ContI W' p (xs++[y])):=by
 rcases h with⟨h1,h2,h3,h4⟩|⟨g,h1,ha,h2,h3⟩
 ·omega
 ·obtain⟨cur,q1,q2,q3,q4,q5,q6⟩:=ZaE h3;have hn:(itC y).length=4:=rfl;have hfit:xs.length*4+0+(itC y).length≤cur.size:=by rw[hn,q5];omega
  have h14:∀v∈itC y,v.oneCell'=true:=fun v hv=>Zv [y] v (by simpa[Zi]using hv);have hcl:cur.toList.length=cur.size:=Array.length_toList;have hl0:(cur.toList.take (xs.length*4)).length=xs.length*4:=by rw[List.length_take];omega
  refine⟨g,cur,(cur.toList.take (xs.length*4)++itC y++cur.toList.drop (xs.length*4+(itC y).length)).toArray,h1,ha,q2,?_,?_⟩
  ·intro W' hW';rcases hW' with hW'|hW'
   ·have:=run_storeCells_at Tryz.prog g (xs.length*4) 24 (itC y) 0 cur W' hW' hfit h14;simpa using this
   ·have:=run_storeCells_at Tryz.prog g (xs.length*4) 24 (itC y) 0 _ W' hW' (by simp only[List.size_toArray,List.length_append,hl0,hn,List.length_drop,hcl];omega) h14;rw[this];congr 2;apply congrArg;simp only[Nat.add_zero];have e1:List.take (xs.length*4) (cur.toList.take (xs.length*4)++itC y++cur.toList.drop (xs.length*4+(itC y).length))=cur.toList.take (xs.length*4):=by rw[List.append_assoc,List.take_left' hl0]
    have e2:List.drop (xs.length*4+(itC y).length) (cur.toList.take (xs.length*4)++itC y++cur.toList.drop (xs.length*4+(itC y).length))=cur.toList.drop (xs.length*4+(itC y).length):=by rw[List.drop_left' (by rw[List.length_append,hl0])]
    rw[e1,e2]
  ·intro W' hW';refine .inr ⟨g,h1,ha,by omega,Zg _,.inr ⟨g,p.2.2.1,_,rfl,Nat.zero_le _,hW',by rw[List.length_append,List.length_singleton];omega,q4,?_,?_⟩⟩
   ·simp only[List.size_toArray,List.length_append,hl0,hn,List.length_drop,hcl];omega
   ·show List.take ((xs++[y]).length*4) (cur.toList.take (xs.length*4)++itC y++cur.toList.drop (xs.length*4+(itC y).length))=_;rw[List.take_left' (by rw[List.length_append,hl0,hn,List.length_append,List.length_singleton];omega),Zj,q6];simp[Zi]
end
theorem Zc4(W:World)(a:Addr)(v:Value):W.grownBy (W.setCell a v) (some a.block):=by refine⟨rfl,rfl,rfl,by simp[World.setCell],fun k _ hne=>?_⟩;simp only[World.setCell,Array.getElem?_modify];rw[if_neg (fun e=>hne (by rw[e]))]
theorem Znk(z:It):(itC z).length=4:=rfl
theorem ZcE {W W1 W2:World}{r:Option Nat}(h:W.grownBy W1 r)(k:W1.grownBy W2 r):W.grownBy W2 r:=
 ⟨k.os.trans h.os,k.tape.trans h.tape,k.output.trans h.output,Nat.le_trans h.size k.size,fun j hj hne=>(k.block j (Nat.lt_of_lt_of_le hj h.size) hne).trans (h.block j hj hne)⟩
theorem ZeV {W W':World}{r:Option Nat}(h:W.grownBy W' none):W.grownBy W' r:=⟨h.os,h.tape,h.output,h.size,fun k hk _=>h.block k hk (by simp)⟩
theorem ZbG {W W':World}(h:W.grownBy W' none):Below W.heap.size W W':=⟨h.os,h.tape,h.output,h.size,fun k hk=>h.block k hk (by simp)⟩
theorem Zeg {W W':World}{r:Option Nat}(h:Below W.heap.size W W'):W.grownBy W' r:=⟨h.os,h.tape,h.output,h.size,fun k hk _=>h.block k hk⟩
def GrI(B:Nat)(W:World)(p:PcI)(v:Value)(xs:List It):Prop:=
 (v= .slice p.2.2.2 xs.length p.2.2.1∧p.1≠none∧p.2.1≤xs.length∧ContI W p xs)∨(((OwI W B v xs∧xs≠ [])∨(xs=[]∧∃a,v= .slice a 0 0))∧p.2.1≤xs.length∧ContI W p (xs.take p.2.1))
theorem GrI.start {B:Nat}{W:World}{p:PcI}{xs:List It}(h:ContI W p xs)(hl:xs.length=p.2.1):GrI B W p (piV p) xs:=by
 rcases h with⟨h1,h2,h3,h4⟩|h
 ·right
  subst h4;exact⟨.inr ⟨rfl,p.2.2.2,by rw[piV,h2,h3]⟩,by omega,.inl ⟨h1,h2,h3,by simp⟩⟩
 ·left
  refine⟨by rw[piV,hl],by obtain⟨g,h,_⟩:=h;rw[h];simp,by omega,.inr h⟩
theorem GrI.keep {B:Nat}{W W':World}{p:PcI}{v:Value}{xs:List It}(h:GrI B W p v xs)(hb:Below W.heap.size W W'):GrI B W' p v xs:=
 h.imp (fun⟨h1,h2,h3,h4⟩=>⟨h1,h2,h3,h4.keep hb⟩) fun⟨h1,h2,h3⟩=>⟨h1.imp (fun h=>⟨ZL h.1 hb,h.2⟩) id,h2,h3.keep hb⟩
theorem GrI.cont {B:Nat}{W:World}{p:PcI}{v:Value}{xs:List It}(h:GrI B W p v xs):ContI W p (xs.take p.2.1):=by
 rcases h with⟨_,_,_,h⟩|⟨_,_,h⟩
 ·exact h.take _
 ·exact h
theorem GrI.form {B:Nat}{W:World}{p:PcI}{v:Value}{xs:List It}(h:GrI B W p v xs):∃a cap,v= .slice a xs.length cap∧RdI W a xs:=by
 rcases h with⟨h1,_,_,h⟩|⟨⟨h,_⟩|⟨rfl,a,h⟩,_,_⟩
 ·exact⟨_,_,h1,h.rd⟩
 ·obtain⟨a,c,hv⟩:=Zl h;subst hv;exact⟨a,c,rfl,ZcQ h⟩
 ·exact⟨a,0,h,.inl rfl⟩
def ZiA(v:Value):Option Nat:=match v with
 | .slice _ _ 0=>none
 |v=>v.ownBlock
theorem ZgG {a:Option Addr}{n c:Nat}(h:0<c):ZiA (.slice a n c)=(Value.slice a n c).ownBlock:=by
 cases c with
 |zero=>omega
 |succ c=>rfl
theorem ZfC {W:World}{B:Nat}{v:Value}{xs:List It}(h:OwI W B v xs)(h0:xs≠ []):ZiA v=v.ownBlock:=by
 have hl:0<xs.length:=List.length_pos_iff.2 h0;rcases h.2 with⟨_,e⟩|⟨g,cap,cur,e1,_,_,q3,_⟩
 ·omega
 ·rw[e1];exact ZgG (by omega)
theorem GrI.blk {B:Nat}{W:World}{p:PcI}{v:Value}{xs:List It}(h:GrI B W p v xs)(k:Nat)(hk:ZiA v=some k):p.1=some k∨(B≤k∧k<W.heap.size):=by
 have hk':v.ownBlock=some k:=by
  unfold ZiA at hk;split at hk
  ·cases hk
  ·exact hk
 rcases h with⟨h1,h2,_,h⟩|⟨⟨h,_⟩|⟨_,a,h⟩,_,_⟩
 ·left
  rcases h with⟨h3,_⟩|⟨g,h3,ha,_⟩
  ·exact absurd h3 h2
  ·rw[h1,ha]at hk';rw[h3];simpa[Value.ownBlock]using hk'
 ·exact .inr (Z5 h k hk')
 ·rw[h]at hk;cases hk
theorem ZkP {B:Nat}{W:World}{p:PcI}{v:Value}{xs ys:List It}(src:Option Addr)(m c:Nat)(ty:TypeId)(h:GrI B W p v xs)(hr:RdI W src ys)(hm:m=ys.length)(hle:xs.length+ys.length≤1000000)(hB:B≤W.heap.size)(hpB:∀g,p.1=some g→g<B):
  ∃v' W',(Builtin.append_ #[28,28] ty #[v,.slice src m c]).run Tryz.prog W= .ok v' W'∧GrI B W' p v' (xs++ys)∧W.grownBy W' (ZiA v):=by
 obtain⟨i0,hi,hz0,hz1,hz2⟩:=info_parts ZaD;subst hm;by_cases hys:ys=[]
 ·subst hys;refine⟨v,W,?_,by rw[List.append_nil];exact h,World.grownBy.refl W _⟩
  obtain⟨a,cap,hv,hcap⟩:∃a cap,v= .slice a xs.length cap∧(a=none→xs.length=0∧cap=0)∧xs.length≤cap:=by
   rcases h with⟨h1,h2,_,h⟩|⟨⟨h,_⟩|⟨rfl,a,h⟩,_,_⟩
   ·rcases h with⟨h3,_⟩|⟨g,h3,ha,h4,h5⟩
    ·exact absurd h3 h2
    ·obtain⟨cur,_,_,q3,_⟩:=ZaE h5;exact⟨_,_,h1,by rw[ha];simp,q3⟩
   ·rcases h.2 with⟨e1,e2⟩|⟨g,cap,cur,e1,_,_,q3,_⟩
    ·exact⟨none,0,by rw[e1,e2],fun _=>⟨e2,rfl⟩,by omega⟩
    ·exact⟨_,_,e1,by simp,q3⟩
   ·exact⟨a,0,h,fun _=>⟨rfl,rfl⟩,Nat.le_refl _⟩
  obtain⟨hc1,hc2⟩:=hcap;rw[hv];cases a with
  |none=>
   obtain⟨e1,e2⟩:=hc1 rfl;rw[e1,e2];cases src<;>simp[Builtin.append_,run_underlying Tryz.underlying28,sizeOf,typeInfo,hi,Builtin.lenOf,Builtin.firstCells,loadCells,loadCellsFrom]
  |some a=>cases src<;>simp[Builtin.append_,run_underlying Tryz.underlying28,sizeOf,typeInfo,hi,Builtin.lenOf,Builtin.firstCells,hc2,storeCells,loadCells,loadCellsFrom]
 have hne:Zi ys≠ []:=by intro e;have h1:=Zg ys;rw[e]at h1;exact hys (List.length_eq_zero_iff.1 (by simp at h1;omega))
 obtain⟨b,off,rfl,hlt,hcc⟩:=Rd.addrAt hr hne;have hy0:0<ys.length:=List.length_pos_iff.2 hys;rcases h with⟨hv,hp,hpl,hc⟩|⟨⟨hown,hx0⟩|⟨rfl,a,hv⟩,hpl,hc⟩
 ·rcases hc with⟨h1,_⟩|⟨g,h1,ha,h2,h3⟩
  ·exact absurd h1 hp
  ·have hva:v= .slice (some ⟨g,0,none⟩) xs.length p.2.2.1:=by rw[hv,ha]
   have hgB:=hpB g h1;obtain⟨cur,q1,q2,q3,q4,q5,q6⟩:=ZaE h3;by_cases hroom:xs.length+ys.length≤p.2.2.1
   ·have hrun:=run_append_room (P:=Tryz.prog) W 28 ty 24 i0 Tryz.underlying28 hi g xs.length p.2.2.1 cur q2 ⟨b,off,none⟩ ys.length c (Zi ys) (by rw[Zg,hz1]) (Rd.news hr) (Zv ys) hroom (by rw[hz1,Zg,q5];omega);rw[hz1]at hrun;have hcl:cur.toList.length=cur.size:=Array.length_toList;have hl0:(cur.toList.take (xs.length*4)).length=xs.length*4:=by rw[List.length_take];omega
    refine⟨_,_,by rw[hva];exact hrun,.inl ⟨by rw[ha,List.length_append],hp,by rw[List.length_append];omega,.inr ⟨g,h1,ha,h2,Zg _,.inr ⟨g,p.2.2.1,_,rfl,Nat.zero_le _,setRow_heap W g _ _ _ _ q2,by rw[List.length_append];exact hroom,q4,?_,?_⟩⟩⟩,?_⟩
    ·simp only[List.size_toArray,List.length_append,hl0,Zg,List.length_drop,hcl];omega
    ·show List.take ((xs++ys).length*4) (cur.toList.take (xs.length*4)++Zi ys++cur.toList.drop (xs.length*4+(Zi ys).length))=_;rw[List.take_left' (by rw[List.length_append,hl0,Zg,List.length_append];omega),Zj,q6]
    ·rw[hva,ZgG (by omega)];exact⟨rfl,rfl,rfl,by simp,fun k hk hne=>setRow_other W g k _ fun e=>hne (by rw[e];rfl)⟩
   ·obtain⟨v',w',hrun,r2,r3⟩:=run_append_arg_grows (P:=Tryz.prog) W 28 ty 24 i0 _ 4 40 Tryz.underlying28 hi hz0 hz1 hz2 rfl (by decide) ⟨g,0,none⟩ xs.length p.2.2.1 (Zi xs) (by rw[Zg]) (World.ownsRow.cells h3 (g:=g) rfl) ⟨b,off,none⟩ ys.length c (Zi ys) (by rw[Zg]) (Rd.news hr) (by omega) (by unfold maxLen;omega) (by omega);have hk:ContI W p (xs.take p.2.1):=(show ContI W p xs from .inr ⟨g,h1,ha,h2,h3⟩).take _;refine⟨v',w',by rw[hva];exact hrun,.inr ⟨.inl ⟨?_,by simp[hys]⟩,by rw[List.length_append];omega,?_⟩,ZeV r3⟩
    ·unfold OwI;rw[Zj,List.length_append];exact ZdK r2 hB
    ·rw[List.take_append_of_le_length hpl];exact hk.keep (ZbG r3)
 ·obtain⟨v',W',q1,q2,q3,q4⟩:=Zfx (w:=W) i0 _ 40 28 ty c Tryz.underlying28 hi hz0 hz1 hz2 rfl (by decide) (Zv ys) hown hr (by rw[Zg]) (by omega) (by omega) hB;rw[←ZfC hown hx0]at q3;refine⟨v',W',q1,.inr ⟨.inl ⟨?_,by simp[hys]⟩,by rw[List.length_append];omega,?_⟩,q3⟩
  ·unfold OwI;rw[Zj,List.length_append];exact q2
  rw[List.take_append_of_le_length hpl];rw[ZfC hown hx0]at q3;refine hc.other q3 fun g hg e=>?_;have:=(Z5 hown g e).1;have:=hpB g hg;omega
 ·subst hv;have hn0:p.2.1=0:=by simpa using hpl
  cases a with
  |none=>
   have hown:W.ownsRow B 24 4 (.slice none 0 0) 0 (Zi []):=Zb8 _ _ _ _;obtain⟨v',W',q1,q2,q3,q4⟩:=Zfx (w:=W) i0 _ 40 28 ty c Tryz.underlying28 hi hz0 hz1 hz2 rfl (by decide) (Zv ys) hown hr (by rw[Zg]) (by omega) (by omega) hB;refine⟨v',W',q1,.inr ⟨.inl ⟨?_,by simp[hys]⟩,by omega,?_⟩,q3⟩
   ·unfold OwI;rw[List.nil_append];rw[Nat.zero_add]at q2;exact q2
   ·rw[hn0];rw[hn0]at hc;exact hc.keep (ZbG q3)
  |some a=>
   obtain⟨v',w',hrun,r2,r3⟩:=run_append_arg_grows (P:=Tryz.prog) W 28 ty 24 i0 _ 4 40 Tryz.underlying28 hi hz0 hz1 hz2 rfl (by decide) a 0 0 [] rfl (by simp) ⟨b,off,none⟩ ys.length c (Zi ys) (by rw[Zg]) (Rd.news hr) (by omega) (by unfold maxLen;omega) (by omega);refine⟨v',w',hrun,.inr ⟨.inl ⟨?_,by simp[hys]⟩,by omega,?_⟩,ZeV r3⟩
   ·unfold OwI;rw[Nat.zero_add]at r2;exact ZdK r2 hB
   ·rw[hn0];rw[hn0]at hc;exact hc.keep (ZbG r3)
end Go.Proofs.YtnnfhojhbbcbmaaGreatDoor
