/- value.Truth, value.String at any rows of items. value.ofItems, value.ofNumbers at functions of texts. -/
import Derived.Test.YtnnfhojhbbcbmaaGreatDoorC13
import Derived.Test.YtnnfhojhbbcbmaaGreatDoorC07
import Derived.Test.YtnnfhojhbbcbmaaGreatDoorHa
namespace Go.Proofs.YtnnfhojhbbcbmaaGreatDoor
set_option maxRecDepth 100000
set_option maxHeartbeats 4000000
open Go.RowKit
theorem Zdh(p:Option Addr)(n c:Nat)(l:List It)(w:World)(ht8:Tabs8 w)(ha:OkA w ⟨p,l,c⟩)(hn:n=l.length):
  Calls Tryz.prog 44 #[.slice (some ⟨w.heap.size,0,none⟩) 1 1] (w.alloc (.cells #[.slice p n c] 28)) fun e w'=>e= .returned (.bool (l.all okI))∧Below w.heap.size w w':=by
 subst hn;have hb0:Below w.heap.size w (w.alloc (.cells #[.slice p l.length c] 28)):=(Below.refl _ _).alloc (Nat.le_refl _) _;have hrd:Rd (w.alloc (.cells #[.slice p l.length c] 28)) (some ⟨w.heap.size,0,none⟩) (([⟨p,l,c⟩]:List Lst).map Lst.v):=Rd.new w 28 [.slice p l.length c];refine(Z7 (some ⟨w.heap.size,0,none⟩) 1 1 [⟨p,l,c⟩] _ (ht8.keep hb0) rfl (by decide) hrd ?_).mono ?_
 ·intro x hx;rw[List.mem_singleton]at hx;subst hx;exact⟨ha.1.keep hb0,ha.2⟩
 ·rintro e w' ⟨rfl,hb⟩;refine⟨by simp[rightL],Zb hb0 hb⟩
def truthV(l:List It):Bool×Int:=
 if l.all okI=true then
  match l with
  | []=>(false,0)
  |x::r=>if x.kind=1 then(true,0)else if r=[]then(decide (x.num≠0)||decide (x.text.toList≠ []),0)else(false,250)
 else(false,2)
theorem at0 {w:World}{p:Option Addr}{x:It}{r:List It}(h:RdI w p (x::r)):
  ∃b off,p=some ⟨b,off,none⟩∧w.cell? ⟨b,off,none⟩=some (.int .u8 x.kind)∧w.cell? ⟨b,off+1,none⟩=some (.int .i64 x.num)∧w.cell? ⟨b,off+2,none⟩=some (.string x.text)∧w.cell? ⟨b,off+3,none⟩=some (.int .i64 x.node):=by
 obtain⟨b,off,h1,h2,h3,h4,h5⟩:=h.at 0 x rfl;exact⟨b,off,h1,by simpa using h2,by simpa using h3,by simpa using h4,by simpa using h5⟩
theorem ZaP(b off n c:Nat)(h:0<n)(W:World):(Instr.indexAt 28 (.slice (some ⟨b,off,none⟩) n c) (.int .i64 0)).run Tryz.prog W= .ok (.pointer (some ⟨b,off,none⟩)) W:=by have:=Zr b off n c 0 h W;simpa using this
theorem ZcW(p:Option Addr)(n c:Nat)(l:List It)(w:World)(he:Env w)(ha:OkA w ⟨p,l,c⟩)(hn:n=l.length):
  Calls Tryz.prog 22 #[.slice p n c] w fun e w'=>e= .returned (.tuple #[.bool (truthV l).1,.int .i64 (truthV l).2])∧Below w.heap.size w w':=by
 have Hr:=Za (Zdh p n c l w he.t8 ha hn);have Ha:=Za ha;have hnl:n<9223372036854775807:=by rw[hn];exact ha.2.2
 clear ha he;rcases Bool.eq_false_or_eq_true (l.all okI)with hq|hq
 ·match l with
  | []=>
   have HT:Hid (truthV []=(false,0)):=by show _=_;rfl
   have hn0:n=0:=hn;subst hn0;rw[hq]at Hr;clear hn hq;go_enter Tryz.func22,Tryz.ntmps22;go_wp2_with fail;refine Hr.out.mono ?_;rintro e w1 ⟨rfl,hb1⟩;go_wp2;go_ret2;exact⟨by rw[HT.out];rfl,hb1⟩
  |x::r=>
   obtain⟨m,hm⟩:∃m,m=r.length:=⟨_,rfl⟩;have hn1:n=m+1:=by rw[hn,List.length_cons,hm]
   rw[hq]at Hr;obtain⟨b,off,hp,_⟩:=at0 Ha.out.1;dsimp only at hp;subst hp;have hix:=ZaP b off n c (by omega);by_cases k1:x.kind=1
   ·have HT:Hid (truthV (x::r)=(true,0)):=by show _=_;unfold truthV;rw[if_pos hq];exact if_pos k1
    clear hn hm;obtain⟨xk,xa,xt,xd⟩:=x;have k1:xk=1:=k1;subst k1;clear hq;subst hn1;go_enter Tryz.func22,Tryz.ntmps22;go_wp2_with fail;refine Hr.out.mono ?_;rintro e w1 ⟨rfl,hb1⟩;obtain⟨b2,off2,e2,c0,c1,c2,c3⟩:=at0 (Ha.out.1.keep hb1);injection e2 with e2;injection e2 with e2 e3;subst e2 e3;dsimp only at c0 c1 c2 c3;go_wp2;go_ret2;exact⟨by rw[HT.out];rfl,hb1⟩
   ·have k1i:((x.kind:Int)==1)=false:=by simpa using(show(x.kind:Int)≠1 by omega)
    by_cases hr0:r=[]
    ·subst hr0;have hm0:m=0:=hm;subst hm0;have hn2:n=1:=hn1;subst hn2;have HT:Hid (truthV [x]=(decide (x.num≠0)||decide (x.text.toList≠ []),0)):=by show _=_;unfold truthV;rw[if_pos hq];simp only;rw[if_neg k1,if_pos trivial]
     clear hn hm hn1 hq k1;obtain⟨xk,xa,xt,xd⟩:=x;dsimp only at k1i HT;by_cases hz:xa=0
     ·have hz1:(xa != 0)=false:=by simpa using hz
      have HT2:Hid (truthV [⟨xk,xa,xt,xd⟩]=(decide (xt.toList≠ []),0)):=by show _=_;rw[HT.out];simp[hz]
      clear hz HT;go_enter Tryz.func22,Tryz.ntmps22;go_wp2_with fail;refine Hr.out.mono ?_;rintro e w1 ⟨rfl,hb1⟩;obtain⟨b2,off2,e2,c0,c1,c2,c3⟩:=at0 (Ha.out.1.keep hb1);injection e2 with e2;injection e2 with e2 e3;subst e2 e3;dsimp only at c0 c1 c2 c3;go_wp2;go_ret2;exact⟨by rw[HT2.out];simp;cases xt.toList<;>rfl,hb1⟩
     ·have hz1:(xa != 0)=true:=by simpa using hz
      have HT2:Hid (truthV [⟨xk,xa,xt,xd⟩]=(true,0)):=by show _=_;rw[HT.out];simp[hz]
      clear hz HT;go_enter Tryz.func22,Tryz.ntmps22;go_wp2_with fail;refine Hr.out.mono ?_;rintro e w1 ⟨rfl,hb1⟩;obtain⟨b2,off2,e2,c0,c1,c2,c3⟩:=at0 (Ha.out.1.keep hb1);injection e2 with e2;injection e2 with e2 e3;subst e2 e3;dsimp only at c0 c1 c2 c3;go_wp2;go_ret2;exact⟨by rw[HT2.out];rfl,hb1⟩
    ·have HT:Hid (truthV (x::r)=(false,250)):=by show _=_;unfold truthV;rw[if_pos hq];simp only;rw[if_neg k1,if_neg hr0]
     have hm1:(1:Int)<(n:Int):=by have:r.length≠0:=fun h=>hr0 (List.length_eq_zero_iff.1 h);omega
     have hn3:((n:Int)==0)=false:=by simpa using(show(n:Int)≠0 by omega)
     clear hn hm hq k1 hn1;obtain⟨xk,xa,xt,xd⟩:=x;dsimp only at k1i;go_enter Tryz.func22,Tryz.ntmps22;go_wp2_with fail;refine Hr.out.mono ?_;rintro e w1 ⟨rfl,hb1⟩;obtain⟨b2,off2,e2,c0,c1,c2,c3⟩:=at0 (Ha.out.1.keep hb1);injection e2 with e2;injection e2 with e2 e3;subst e2 e3;dsimp only at c0 c1 c2 c3;go_wp2;go_ret2;exact⟨by rw[HT.out];rfl,hb1⟩
 ·have HT:Hid (truthV l=(false,2)):=by show _=_;unfold truthV;rw[if_neg (by rw[hq];decide)]
  rw[hq]at Hr;clear hq hn;go_enter Tryz.func22,Tryz.ntmps22;go_wp2_with fail;refine Hr.out.mono ?_;rintro e w1 ⟨rfl,hb1⟩;go_wp2;go_ret2;exact⟨by rw[HT.out];rfl,hb1⟩
def bT:ByteArray:=⟨#[116,114,117,101]⟩
def bF:ByteArray:=⟨#[102,97,108,115,101]⟩
def txt(x:It):ByteArray:=if x.kind=2 then⟨(Lib.itoa x.num).toArray⟩else if x.kind=4 then(if x.num=1 then bT else bF)else x.text
def strV(l:List It):ByteArray×Int:=
 if l.all okI=true then
  match l with
  | []=>(⟨#[]⟩,0)
  |x::r=>if r=[]then(txt x,0)else(⟨#[]⟩,253)
 else(⟨#[]⟩,2)
theorem ZfE(k:Nat)(n d:Int)(s:ByteArray)(w:World)(he:Env w)(hR:R64 n):Calls Tryz.prog 64 #[.agg #[.int .u8 k,.int .i64 n,.string s,.int .i64 d]] w fun e w'=>e= .returned (.string (txt ⟨k,n,s,d⟩))∧Below w.heap.size w w':=by
 have hz:=(Below.refl w.heap.size w).alloc (Nat.le_refl _) (.cells #[.int .u8 k,.int .i64 n,.string s,.int .i64 d] 24);have He:=Za (he.keep hz);have HR:=Za hR;clear he hR;by_cases k2:k=2
 ·subst k2;have HT:Hid (txt ⟨2,n,s,d⟩=⟨(Lib.itoa n).toArray⟩):=by show _=_;rfl
  go_enter Tryz.func64,Tryz.ntmps64;go_wp2_with fail;refine(Tryz.strconv_FormatInt_10 n HR.out.1 HR.out.2 _ He.out.pow).mono ?_;rintro e w2 ⟨rfl,k2,os2,hw2⟩;have hb2:Below w.heap.size w w2:=by rw[hw2];exact Zb hz (Lib.below_grow _ _ (Nat.le_refl _) _ _)
  clear hw2;go_wp2;go_ret;exact⟨by rw[HT.out];rfl,hb2⟩
 ·have k2i:((k:Int)==2)=false:=by simpa using(show(k:Int)≠2 by omega)
  by_cases k4:k=4
  ·subst k4;clear k2 k2i;by_cases h1:n=1
   ·subst h1;have HT:Hid (txt ⟨4,1,s,d⟩=bT):=by show _=_;rfl
    go_enter Tryz.func64,Tryz.ntmps64;go_wp2;go_ret;exact⟨by rw[HT.out];rfl,hz⟩
   ·have h1f:(n==1)=false:=by simpa using h1
    have HT:Hid (txt ⟨4,n,s,d⟩=bF):=by show _=_;unfold txt;rw[if_neg (show ¬(4=2) by decide),if_pos rfl,if_neg h1]
    clear h1;go_enter Tryz.func64,Tryz.ntmps64;go_wp2;go_ret;exact⟨by rw[HT.out];rfl,hz⟩
  ·have k4i:((k:Int)==4)=false:=by simpa using(show(k:Int)≠4 by omega)
   have HT:Hid (txt ⟨k,n,s,d⟩=s):=by show _=_;unfold txt;rw[if_neg k2,if_neg k4]
   clear k2 k4;go_enter Tryz.func64,Tryz.ntmps64;go_wp2;go_ret;exact⟨by rw[HT.out];rfl,hz⟩
theorem Zbw(p:Option Addr)(n c:Nat)(l:List It)(w:World)(he:Env w)(ha:OkA w ⟨p,l,c⟩)(hR:∀y∈l,R64 y.num)(hn:n=l.length):
  Calls Tryz.prog 24 #[.slice p n c] w fun e w'=>e= .returned (.tuple #[.string (strV l).1,.int .i64 (strV l).2])∧Below w.heap.size w w':=by
 have Hr:=Za (Zdh p n c l w he.t8 ha hn);have Ha:=Za ha;have He:=Za he;have hnl:n<9223372036854775807:=by rw[hn];exact ha.2.2
 clear ha he;rcases Bool.eq_false_or_eq_true (l.all okI)with hq|hq
 ·match l with
  | []=>
   have HT:Hid (strV []=(⟨#[]⟩,0)):=by show _=_;rfl
   have hn0:n=0:=hn;subst hn0;rw[hq]at Hr;clear hn hq;go_enter Tryz.func24,Tryz.ntmps24;go_wp2_with fail;refine Hr.out.mono ?_;rintro e w1 ⟨rfl,hb1⟩;go_wp2;go_ret2;exact⟨by rw[HT.out];rfl,hb1⟩
  |x::r=>
   have HR:=Za (hR x (by simp));clear hR;obtain⟨m,hm⟩:∃m,m=r.length:=⟨_,rfl⟩;have hn1:n=m+1:=by rw[hn,List.length_cons,hm]
   rw[hq]at Hr;obtain⟨b,off,hp,_⟩:=at0 Ha.out.1;dsimp only at hp;subst hp;have hix:=ZaP b off n c (by omega);by_cases hr0:r=[]
   ·subst hr0;have hm0:m=0:=hm;subst hm0;have hn2:n=1:=hn1;subst hn2;have HT:Hid (strV [x]=(txt x,0)):=by show _=_;unfold strV;rw[if_pos hq];simp only;rw[if_pos trivial]
    clear hn hm hn1 hq;obtain⟨xk,xa,xt,xd⟩:=x;go_enter Tryz.func24,Tryz.ntmps24;go_wp2_with fail;refine Hr.out.mono ?_;rintro e w1 ⟨rfl,hb1⟩;obtain⟨b2,off2,e2,c0,c1,c2,c3⟩:=at0 (Ha.out.1.keep hb1);injection e2 with e2;injection e2 with e2 e3;subst e2 e3;dsimp only at c0 c1 c2 c3;go_wp2_with fail;refine(ZfE xk xa xd xt _ (He.out.keep hb1) HR.out).mono ?_;rintro e w2 ⟨rfl,hb2⟩;have hB2:=Zb hb1 hb2;clear hb2 c0 c1 c2 c3;generalize txt ⟨xk,xa,xt,xd⟩=tx at*;go_wp2;go_ret2;exact⟨by rw[HT.out];rfl,hB2⟩
   ·have HT:Hid (strV (x::r)=(⟨#[]⟩,253)):=by show _=_;unfold strV;rw[if_pos hq];simp only;rw[if_neg hr0]
    have hm1:(1:Int)<(n:Int):=by have:r.length≠0:=fun h=>hr0 (List.length_eq_zero_iff.1 h);omega
    clear hn hm hq hn1;go_enter Tryz.func24,Tryz.ntmps24;go_wp2_with fail;refine Hr.out.mono ?_;rintro e w1 ⟨rfl,hb1⟩;go_wp2;go_ret2;exact⟨by rw[HT.out];rfl,hb1⟩
 ·have HT:Hid (strV l=(⟨#[]⟩,2)):=by show _=_;unfold strV;rw[if_neg (by rw[hq];decide)]
  rw[hq]at Hr;clear hq hn hR;go_enter Tryz.func24,Tryz.ntmps24;go_wp2_with fail;refine Hr.out.mono ?_;rintro e w1 ⟨rfl,hb1⟩;go_wp2;go_ret2;exact⟨by rw[HT.out];rfl,hb1⟩
end Go.Proofs.YtnnfhojhbbcbmaaGreatDoor
namespace Go.Proofs.YtnnfhojhbbcbmaaGreatDoor
set_option maxRecDepth 100000
set_option maxHeartbeats 4000000
open Go.RowKit
theorem Zp(b off n c:Nat)(h:0<n)(W:World):(Instr.indexAt 34 (.slice (some ⟨b,off,none⟩) n c) (.int .i64 0)).run Tryz.prog W= .ok (.pointer (some ⟨b,off,none⟩)) W:=by have:=ZP b off n c 0 h W;simpa using this
theorem ZcX(x:It)(hR:R64 x.num)(hs:x.text.size≤100000):(txt x).size≤100000:=by
 unfold txt;split
 ·show(Lib.itoa x.num).toArray.size≤100000
  have h1:(Lib.itoa x.num).length≤20:=by
   unfold Lib.itoa;unfold R64 at hR;split
   ·rw[List.length_cons,Lib.decDigits_length];have:=ZdN (u:=x.num.natAbs) (by omega);omega
   ·rw[Lib.decDigits_length];have:=ZdN (u:=x.num.toNat) (by omega);omega
  rw[List.size_toArray];omega
 ·split
  ·split<;>decide
  ·exact hs
theorem ZaM(l:List It)(hR:∀y∈l,R64 y.num)(hs:∀y∈l,y.text.size≤100000):(strV l).1.size≤100000:=by
 unfold strV;split
 ·match l,hR,hs with
  | [],_,_=>decide
  |x::r,hR,hs=>
   dsimp only;split
   ·exact ZcX x (hR x (by simp)) (hs x (by simp))
   ·decide
 ·decide
theorem Zct {α:Type}:∀{l:List α},l.length=2→∃a b,l=[a,b]
 | [a,b],_=>⟨a,b,rfl⟩
def txs(ls:List Lst):List ByteArray:=ls.map fun x=>(strV x.l).1
def Zck:List Lst→Int
 | []=>0
 |x::r=>if (strV x.l).2=0 then Zck r else(strV x.l).2
theorem ZhG:∀ls:List Lst,(∀x∈ls,(strV x.l).2=0)→Zck ls=0
 | [],_=>rfl
 |x::r,h=>by unfold Zck;rw[if_pos (h x (by simp))];exact ZhG r fun y hy=>h y (by simp[hy])
theorem ZhH:∀(ls:List Lst) (k:Nat) (x:Lst),(∀y∈ls.take k,(strV y.l).2=0)→ls[k]? =some x→(strV x.l).2≠0→Zck ls=(strV x.l).2
 | [],k,x,_,h,_=>by simp at h
 |y::r,0,x,_,h,h2=>by simp at h;subst h;unfold Zck;rw[if_neg h2]
 |y::r,k+1,x,h1,h,h2=>by
  unfold Zck;rw[if_pos (h1 y (by simp))];exact ZhH r k x (fun z hz=>h1 z (by simp[hz])) (by simpa using h) h2
def ZaS(nm:List UInt8)(f:List ByteArray→List It×Int)(ls:List Lst):List It×Int:=
 if rightL ls=true then(if knV nm ls.length=true then(if Zck ls=0 then f (txs ls)else([],Zck ls))else([],241))else([],2)
theorem Zdl(b off n c:Nat)(v:Value)(w:World)(hn:0<n)(h0:w.cell? ⟨b,off,none⟩=some v)(hv:∃a k d,v= .slice a k d):Calls Tryz.prog 46 #[.string ⟨#[115,116,114,105,110,103]⟩,.slice (some ⟨b,off,none⟩) n c] w fun e w'=>e= .returned (.tuple #[.slice none 0 0,.int .i64 0,.bool false])∧w=w':=by
 have hix:=Zp b off n c hn;have hn1:¬(n:Int)=0:=by omega
 have hn2:((n:Int)==0)=false:=by simpa using hn1
 have hn3:¬n=0:=by omega
 obtain⟨a,k,d,rfl⟩:=hv;clear hn;go_enter Tryz.func46,Tryz.ntmps46;go_wp2;go_ret3;exact⟨rfl,rfl⟩
theorem ZcI(v:Value)(w:World):Calls Tryz.prog 47 #[.string ⟨#[115,116,114,105,110,103]⟩,v] w fun e w'=>e= .returned (.tuple #[.slice none 0 0,.int .i64 0,.bool false])∧w=w':=by go_enter Tryz.func47,Tryz.ntmps47;go_wp2;go_ret3;exact⟨rfl,rfl⟩
theorem ZbE(b off n c:Nat)(v:Value)(w:World)(hn:0<n)(h0:w.cell? ⟨b,off,none⟩=some v)(hv:∃a k d,v= .slice a k d):Calls Tryz.prog 46 #[.string ⟨#[115,116,114,105,110,103,45,108,101,110,103,116,104]⟩,.slice (some ⟨b,off,none⟩) n c] w fun e w'=>e= .returned (.tuple #[.slice none 0 0,.int .i64 0,.bool false])∧w=w':=by
 have hix:=Zp b off n c hn;have hn1:¬(n:Int)=0:=by omega
 have hn2:((n:Int)==0)=false:=by simpa using hn1
 have hn3:¬n=0:=by omega
 obtain⟨a,k,d,rfl⟩:=hv;clear hn;go_enter Tryz.func46,Tryz.ntmps46;go_wp2;go_ret3;exact⟨rfl,rfl⟩
theorem Zbi(v:Value)(w:World):Calls Tryz.prog 47 #[.string ⟨#[115,116,114,105,110,103,45,108,101,110,103,116,104]⟩,v] w fun e w'=>e= .returned (.tuple #[.slice none 0 0,.int .i64 0,.bool false])∧w=w':=by go_enter Tryz.func47,Tryz.ntmps47;go_wp2;go_ret3;exact⟨rfl,rfl⟩
theorem Zdm(b off n c:Nat)(v:Value)(w:World)(hn:0<n)(h0:w.cell? ⟨b,off,none⟩=some v)(hv:∃a k d,v= .slice a k d):Calls Tryz.prog 46 #[.string ⟨#[99,111,110,99,97,116]⟩,.slice (some ⟨b,off,none⟩) n c] w fun e w'=>e= .returned (.tuple #[.slice none 0 0,.int .i64 0,.bool false])∧w=w':=by
 have hix:=Zp b off n c hn;have hn1:¬(n:Int)=0:=by omega
 have hn2:((n:Int)==0)=false:=by simpa using hn1
 have hn3:¬n=0:=by omega
 obtain⟨a,k,d,rfl⟩:=hv;clear hn;go_enter Tryz.func46,Tryz.ntmps46;go_wp2;go_ret3;exact⟨rfl,rfl⟩
theorem ZcJ(v:Value)(w:World):Calls Tryz.prog 47 #[.string ⟨#[99,111,110,99,97,116]⟩,v] w fun e w'=>e= .returned (.tuple #[.slice none 0 0,.int .i64 0,.bool false])∧w=w':=by go_enter Tryz.func47,Tryz.ntmps47;go_wp2;go_ret3;exact⟨rfl,rfl⟩
theorem ZcK(b off n c:Nat)(v:Value)(w:World)(hn:0<n)(h0:w.cell? ⟨b,off,none⟩=some v)(hv:∃a k d,v= .slice a k d):Calls Tryz.prog 46 #[.string ⟨#[99,111,110,116,97,105,110,115]⟩,.slice (some ⟨b,off,none⟩) n c] w fun e w'=>e= .returned (.tuple #[.slice none 0 0,.int .i64 0,.bool false])∧w=w':=by
 have hix:=Zp b off n c hn;have hn1:¬(n:Int)=0:=by omega
 have hn2:((n:Int)==0)=false:=by simpa using hn1
 have hn3:¬n=0:=by omega
 obtain⟨a,k,d,rfl⟩:=hv;clear hn;go_enter Tryz.func46,Tryz.ntmps46;go_wp2;go_ret3;exact⟨rfl,rfl⟩
theorem Zco(v:Value)(w:World):Calls Tryz.prog 47 #[.string ⟨#[99,111,110,116,97,105,110,115]⟩,v] w fun e w'=>e= .returned (.tuple #[.slice none 0 0,.int .i64 0,.bool false])∧w=w':=by go_enter Tryz.func47,Tryz.ntmps47;go_wp2;go_ret3;exact⟨rfl,rfl⟩
theorem ZbY(b off n c:Nat)(v:Value)(w:World)(hn:0<n)(h0:w.cell? ⟨b,off,none⟩=some v)(hv:∃a k d,v= .slice a k d):Calls Tryz.prog 46 #[.string ⟨#[115,116,97,114,116,115,45,119,105,116,104]⟩,.slice (some ⟨b,off,none⟩) n c] w fun e w'=>e= .returned (.tuple #[.slice none 0 0,.int .i64 0,.bool false])∧w=w':=by
 have hix:=Zp b off n c hn;have hn1:¬(n:Int)=0:=by omega
 have hn2:((n:Int)==0)=false:=by simpa using hn1
 have hn3:¬n=0:=by omega
 obtain⟨a,k,d,rfl⟩:=hv;clear hn;go_enter Tryz.func46,Tryz.ntmps46;go_wp2;go_ret3;exact⟨rfl,rfl⟩
theorem ZbF(v:Value)(w:World):Calls Tryz.prog 47 #[.string ⟨#[115,116,97,114,116,115,45,119,105,116,104]⟩,v] w fun e w'=>e= .returned (.tuple #[.slice none 0 0,.int .i64 0,.bool false])∧w=w':=by go_enter Tryz.func47,Tryz.ntmps47;go_wp2;go_ret3;exact⟨rfl,rfl⟩
theorem Zcy(b off n c:Nat)(v:Value)(w:World)(hn:0<n)(h0:w.cell? ⟨b,off,none⟩=some v)(hv:∃a k d,v= .slice a k d):Calls Tryz.prog 46 #[.string ⟨#[101,110,100,115,45,119,105,116,104]⟩,.slice (some ⟨b,off,none⟩) n c] w fun e w'=>e= .returned (.tuple #[.slice none 0 0,.int .i64 0,.bool false])∧w=w':=by
 have hix:=Zp b off n c hn;have hn1:¬(n:Int)=0:=by omega
 have hn2:((n:Int)==0)=false:=by simpa using hn1
 have hn3:¬n=0:=by omega
 obtain⟨a,k,d,rfl⟩:=hv;clear hn;go_enter Tryz.func46,Tryz.ntmps46;go_wp2;go_ret3;exact⟨rfl,rfl⟩
theorem ZbZ(v:Value)(w:World):Calls Tryz.prog 47 #[.string ⟨#[101,110,100,115,45,119,105,116,104]⟩,v] w fun e w'=>e= .returned (.tuple #[.slice none 0 0,.int .i64 0,.bool false])∧w=w':=by go_enter Tryz.func47,Tryz.ntmps47;go_wp2;go_ret3;exact⟨rfl,rfl⟩
theorem Zcp(b off n c:Nat)(v:Value)(w:World)(hn:0<n)(h0:w.cell? ⟨b,off,none⟩=some v)(hv:∃a k d,v= .slice a k d):Calls Tryz.prog 46 #[.string ⟨#[117,112,112,101,114,45,99,97,115,101]⟩,.slice (some ⟨b,off,none⟩) n c] w fun e w'=>e= .returned (.tuple #[.slice none 0 0,.int .i64 0,.bool false])∧w=w':=by
 have hix:=Zp b off n c hn;have hn1:¬(n:Int)=0:=by omega
 have hn2:((n:Int)==0)=false:=by simpa using hn1
 have hn3:¬n=0:=by omega
 obtain⟨a,k,d,rfl⟩:=hv;clear hn;go_enter Tryz.func46,Tryz.ntmps46;go_wp2;go_ret3;exact⟨rfl,rfl⟩
theorem ZbP(v:Value)(w:World):Calls Tryz.prog 47 #[.string ⟨#[117,112,112,101,114,45,99,97,115,101]⟩,v] w fun e w'=>e= .returned (.tuple #[.slice none 0 0,.int .i64 0,.bool false])∧w=w':=by go_enter Tryz.func47,Tryz.ntmps47;go_wp2;go_ret3;exact⟨rfl,rfl⟩
theorem Zcq(b off n c:Nat)(v:Value)(w:World)(hn:0<n)(h0:w.cell? ⟨b,off,none⟩=some v)(hv:∃a k d,v= .slice a k d):Calls Tryz.prog 46 #[.string ⟨#[108,111,119,101,114,45,99,97,115,101]⟩,.slice (some ⟨b,off,none⟩) n c] w fun e w'=>e= .returned (.tuple #[.slice none 0 0,.int .i64 0,.bool false])∧w=w':=by
 have hix:=Zp b off n c hn;have hn1:¬(n:Int)=0:=by omega
 have hn2:((n:Int)==0)=false:=by simpa using hn1
 have hn3:¬n=0:=by omega
 obtain⟨a,k,d,rfl⟩:=hv;clear hn;go_enter Tryz.func46,Tryz.ntmps46;go_wp2;go_ret3;exact⟨rfl,rfl⟩
theorem ZbQ(v:Value)(w:World):Calls Tryz.prog 47 #[.string ⟨#[108,111,119,101,114,45,99,97,115,101]⟩,v] w fun e w'=>e= .returned (.tuple #[.slice none 0 0,.int .i64 0,.bool false])∧w=w':=by go_enter Tryz.func47,Tryz.ntmps47;go_wp2;go_ret3;exact⟨rfl,rfl⟩
theorem Zbj(b off n c:Nat)(v:Value)(w:World)(hn:0<n)(h0:w.cell? ⟨b,off,none⟩=some v)(hv:∃a k d,v= .slice a k d):Calls Tryz.prog 46 #[.string ⟨#[110,111,114,109,97,108,105,122,101,45,115,112,97,99,101]⟩,.slice (some ⟨b,off,none⟩) n c] w fun e w'=>e= .returned (.tuple #[.slice none 0 0,.int .i64 0,.bool false])∧w=w':=by
 have hix:=Zp b off n c hn;have hn1:¬(n:Int)=0:=by omega
 have hn2:((n:Int)==0)=false:=by simpa using hn1
 have hn3:¬n=0:=by omega
 obtain⟨a,k,d,rfl⟩:=hv;clear hn;go_enter Tryz.func46,Tryz.ntmps46;go_wp2;go_ret3;exact⟨rfl,rfl⟩
theorem Za4(v:Value)(w:World):Calls Tryz.prog 47 #[.string ⟨#[110,111,114,109,97,108,105,122,101,45,115,112,97,99,101]⟩,v] w fun e w'=>e= .returned (.tuple #[.slice none 0 0,.int .i64 0,.bool false])∧w=w':=by go_enter Tryz.func47,Tryz.ntmps47;go_wp2;go_ret3;exact⟨rfl,rfl⟩
end Go.Proofs.YtnnfhojhbbcbmaaGreatDoor
