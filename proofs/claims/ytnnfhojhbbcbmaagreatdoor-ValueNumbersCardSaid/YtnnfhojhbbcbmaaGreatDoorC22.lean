/- The reference: a number's text (ref25.Digits). Plain law: key.Whole is what is told by hand. The reference: an item's text and number. The reference: whether a row is true; a row's text. The reference: what a sign says. The reference: how two items stand (ref25.order). -/
import Derived.Test.YtnnfhojhbbcbmaaGreatDoorC03
import Derived.Test.YtnnfhojhbbcbmaaGreatDoorC02
import Derived.Test.YtnnfhojhbbcbmaaGreatDoorHa
import Derived.Test.YtnnfhojhbbcbmaaGreatDoorC13
import Derived.Test.YtnnfhojhbbcbmaaGreatDoorHp
import Derived.Test.YtnnfhojhbbcbmaaGreatDoorC14
import Derived.Test.YtnnfhojhbbcbmaaGreatDoorC21
namespace Go.Proofs.YtnnfhojhbbcbmaaGreatDoor
open Go.RowKit
def dg(u:Nat)(l:List UInt8):List UInt8:=if u=0∧l≠ []then l else Lib.decDigits u++l
theorem Zkm(u:Nat)(l:List UInt8)(h:0<u∨l=[]):dg (u / 10) (UInt8.ofNat (48+u % 10)::l)=dg u l:=by
 have h1:dg u l=Lib.decDigits u++l:=by
  unfold dg;rw[if_neg];rintro⟨h2,h3⟩;rcases h with h|h
  ·omega
  ·exact h3 h
 rw[h1];unfold dg;by_cases hu:u<10
 ·rw[if_pos ⟨by omega,by simp⟩,Lib.decDigits,dif_pos hu,Nat.mod_eq_of_lt hu];rfl
 ·rw[if_neg (by omega)]
  conv=>rhs;rw[Lib.decDigits,dif_neg hu]
  rw[List.append_assoc];rfl
theorem ZmY {u:Nat}{l:List UInt8}(h:u=0)(h2:l≠ []):dg u l=l:=by unfold dg;rw[if_pos ⟨h,h2⟩]
theorem ZiI(u:Nat):dg u []=Lib.decDigits u:=by unfold dg;rw[if_neg (by simp),List.append_nil]
theorem Zf2(u:UInt8)(t:ByteArray):((⟨[u].toArray⟩:ByteArray)++t).data.toList=u::t.data.toList:=by simp[ByteArray.data_append]
theorem ba_empty {t:ByteArray}:t.toList=[]↔t.data.toList=[]:=by rw[ByteArray.toList_eq]
theorem Zot {s t:ByteArray}(h:s.data.toList=t.data.toList):s=t:=by apply ByteArray.ext;exact Array.toList_inj.1 h
theorem ba_size0 {t:ByteArray}:t.data.toList=[]↔t.size=0:=by rw[←List.length_eq_zero_iff,Array.length_toList];rfl
theorem Zkn {u m:Nat}{t:ByteArray}(h:dg u t.data.toList=Lib.decDigits m)(hm:m≤9223372036854775808):t.size≤19:=by
 have h1:t.data.toList.length≤(dg u t.data.toList).length:=by
  unfold dg;split
  ·exact Nat.le_refl _
  ·rw[List.length_append];omega
 rw[h,Lib.decDigits_length,Array.length_toList]at h1;exact Nat.le_trans h1 (ZdN hm)
set_option maxRecDepth 100000 in
set_option maxHeartbeats 2000000 in
theorem Zib(n:Int)(hR:R64 n)(w:World):Calls Tryz.prog 113 #[.int .i64 n] w fun e w'=>e= .returned (.string ⟨(Lib.itoa n).toArray⟩)∧Below w.heap.size w w':=by
 obtain⟨hR1,hR2⟩:=hR;by_cases hn:n<0
 ·obtain⟨m,hm⟩:=Int.eq_ofNat_of_zero_le (show 0≤ -n by omega);have hnm:n= -(m:Int):=by omega
  subst hnm;have hstart:True:=trivial;have Hle:Hid (m≤9223372036854775808):=by show m≤9223372036854775808;omega
  have HF:Hid (Lib.itoa (-(m:Int))=45::Lib.decDigits m):=by show _=_;unfold Lib.itoa;rw[if_pos hn,Int.natAbs_neg,Int.natAbs_natCast]
  have hw:IntKind.u64.wrap (-IntKind.u64.wrap (-(m:Int)))=(m:Int):=by rw[IntKind.wrap_u64,IntKind.wrap_u64];omega
  have h45:(ByteArray.mk #[45]).size=1:=rfl;clear hm;go_enter Tryz.func113,Tryz.ntmps113;go_wp2_with fail;go_loopw[3,4] (fun v x W=>∃(u:Nat) (t:ByteArray),v= .int .u64 u∧x= .string t∧u<18446744073709551616∧Hid (dg u t.data.toList=Lib.decDigits m)∧Below w.heap.size w W) (fun v x _=>2*(intOf v).toNat+(1-ZaR x))
  case atStart=>exact⟨m,⟨#[]⟩,by simp,rfl,Nat.lt_of_le_of_lt Hle.out (by decide),Za (ZiI m),Below.refl _ _⟩
  case round=>
   obtain⟨u,t,rfl,rfl,hu,Hk,hB⟩:=hrel;have hc:(48+(u:Int) % 10)=(((UInt8.ofNat (48+u % 10)).toNat:Nat):Int):=by simp;omega
   have hst0:=Zkm u t.data.toList;generalize UInt8.ofNat (48+u % 10)=q at hc hst0;have hcv:=(Zbl wr (48+(u:Int) % 10) q hc).str 1 1 rfl;have Hst0:=Za hst0;have hts:=Zkn Hk.out Hle.out;have htsz:(ByteArray.mk #[q]).size=1:=rfl;clear hc hst0;have hB2:=hB.alloc hB.size (.cells #[.int .u8 (48+(u:Int) % 10)] 5);by_cases h0:0<u
   ·have hI:(0:Int)<(u:Int):=by omega
    have Hst:=Za (Hst0.out (.inl h0));clear hstart Hst0;go_wp2_with fail;go_roundw
    case rel=>exact⟨u / 10,⟨[q].toArray⟩++t,by simp,rfl,by omega,Za (by show _=_;rw[Zf2,Hst.out];exact Hk.out),hB2⟩
    case measure=>simp[intOf,ZaR];omega
   ·have hI:decide ((0:Int)<(u:Int))=false:=by simp;omega
    by_cases ht:t.toList=[]
    ·have htb:(t.toList== [])=true:=by rw[ht];rfl
     have Hst:=Za (Hst0.out (.inr (ba_empty.1 ht)));have hsz:=ba_size0.1 (ba_empty.1 ht);clear hstart Hst0;go_wp2_with fail;go_roundw
     case rel=>exact⟨u / 10,⟨[q].toArray⟩++t,by simp,rfl,by omega,Za (by show _=_;rw[Zf2,Hst.out];exact Hk.out),hB2⟩
     case measure=>simp[intOf,ZaR];omega
    ·have htb:(t.toList== [])=false:=by simpa using ht
     have HR:Hid (t.data.toList=Lib.decDigits m):=by show _=_;rw[←Hk.out];exact(ZmY (by omega) (fun h=>ht (ba_empty.2 h))).symm
     clear ht Hk hcv hB2 hstart Hst0;go_wp2;go_ret;exact⟨by rw[show(⟨(Lib.itoa (-(m:Int))).toArray⟩:ByteArray)=⟨#[45]⟩++t from Zot (by rw[show(⟨#[45]⟩++t:ByteArray).data.toList=45::t.data.toList from Zf2 45 t,HR.out,HF.out])];rfl,hB⟩
 ·obtain⟨m,rfl⟩:=Int.eq_ofNat_of_zero_le (show 0≤n by omega);have hstart:True:=trivial;have Hle:Hid (m≤9223372036854775808):=by show m≤9223372036854775808;omega
  have HF:Hid (Lib.itoa (m:Int)=Lib.decDigits m):=by show _=_;unfold Lib.itoa;rw[if_neg (by omega),Int.toNat_natCast]
  go_enter Tryz.func113,Tryz.ntmps113;go_wp2_with fail;go_loopw[3,4] (fun v x W=>∃(u:Nat) (t:ByteArray),v= .int .u64 u∧x= .string t∧u<18446744073709551616∧Hid (dg u t.data.toList=Lib.decDigits m)∧Below w.heap.size w W) (fun v x _=>2*(intOf v).toNat+(1-ZaR x))
  case atStart=>exact⟨m,⟨#[]⟩,by simp,rfl,Nat.lt_of_le_of_lt Hle.out (by decide),Za (ZiI m),Below.refl _ _⟩
  case round=>
   obtain⟨u,t,rfl,rfl,hu,Hk,hB⟩:=hrel;have hc:(48+(u:Int) % 10)=(((UInt8.ofNat (48+u % 10)).toNat:Nat):Int):=by simp;omega
   have hst0:=Zkm u t.data.toList;generalize UInt8.ofNat (48+u % 10)=q at hc hst0;have hcv:=(Zbl wr (48+(u:Int) % 10) q hc).str 1 1 rfl;have Hst0:=Za hst0;have hts:=Zkn Hk.out Hle.out;have htsz:(ByteArray.mk #[q]).size=1:=rfl;clear hc hst0;have hB2:=hB.alloc hB.size (.cells #[.int .u8 (48+(u:Int) % 10)] 5);by_cases h0:0<u
   ·have hI:(0:Int)<(u:Int):=by omega
    have Hst:=Za (Hst0.out (.inl h0));clear hstart Hst0;go_wp2_with fail;go_roundw
    case rel=>exact⟨u / 10,⟨[q].toArray⟩++t,by simp,rfl,by omega,Za (by show _=_;rw[Zf2,Hst.out];exact Hk.out),hB2⟩
    case measure=>simp[intOf,ZaR];omega
   ·have hI:decide ((0:Int)<(u:Int))=false:=by simp;omega
    by_cases ht:t.toList=[]
    ·have htb:(t.toList== [])=true:=by rw[ht];rfl
     have Hst:=Za (Hst0.out (.inr (ba_empty.1 ht)));have hsz:=ba_size0.1 (ba_empty.1 ht);clear hstart Hst0;go_wp2_with fail;go_roundw
     case rel=>exact⟨u / 10,⟨[q].toArray⟩++t,by simp,rfl,by omega,Za (by show _=_;rw[Zf2,Hst.out];exact Hk.out),hB2⟩
     case measure=>simp[intOf,ZaR];omega
    ·have htb:(t.toList== [])=false:=by simpa using ht
     have HR:Hid (t.data.toList=Lib.decDigits m):=by show _=_;rw[←Hk.out];exact(ZmY (by omega) (fun h=>ht (ba_empty.2 h))).symm
     clear ht Hk hcv hB2 hstart Hst0;go_wp2;go_ret;exact⟨by rw[show(⟨(Lib.itoa (m:Int)).toArray⟩:ByteArray)=t from Zot (by rw[HR.out,HF.out])];rfl,hB⟩
end Go.Proofs.YtnnfhojhbbcbmaaGreatDoor
namespace Go.Proofs.YtnnfhojhbbcbmaaGreatDoor
open Go.RowKit
theorem bl_ext {x y:ByteArray}:x.toList=y.toList↔x.data.toList=y.data.toList:=by rw[ByteArray.toList_eq,ByteArray.toList_eq]
theorem Zpv(s:ByteArray):rfO s.data.toList=if whB s=true then some (whN s)else none:=by
 by_cases h:whB s=true
 ·rw[if_pos h];unfold whB at h;unfold whN;split at h
  ·rename_i v hv;have h2:(⟨(Lib.itoa v).toArray⟩:ByteArray).toList=s.toList:=of_decide_eq_true h;rw[if_pos h2];have h3:=bl_ext.1 h2;simp only at h3;have hR:=Ze7 hv;unfold R64 at hR;rw[←h3];exact Zl4 hR.1 (by have:=hR.2;omega)
  ·cases h
 ·rw[if_neg h];cases hr:rfO s.data.toList with
  |none=>rfl
  |some v=>
   exfalso;obtain⟨h1,h2⟩:=Zhc hr;apply h;unfold whB;rw[h1];simp only;apply decide_eq_true;rw[bl_ext];simpa using h2
end Go.Proofs.YtnnfhojhbbcbmaaGreatDoor
namespace Go.Proofs.YtnnfhojhbbcbmaaGreatDoor
set_option maxRecDepth 100000
set_option maxHeartbeats 4000000
open Go.RowKit
theorem Zou(s:ByteArray):rfN s=whN s∧rfB s=whB s:=by
 unfold rfN rfB;rw[Zpv];rcases Bool.eq_false_or_eq_true (whB s)with h|h
 ·rw[if_pos h,h];exact⟨rfl,rfl⟩
 ·rw[if_neg (by rw[h];decide),h,ZfU h];exact⟨rfl,rfl⟩
theorem Zff(s:ByteArray)(w:World)(hs:s.size≤140737488355328):Calls Tryz.prog 116 #[.string s] w fun e w'=>e= .returned (.tuple #[.int .i64 (whN s),.bool (whB s)])∧w=w':=by rw[←(Zou s).1,←(Zou s).2];exact Zh4 s w hs
theorem ZgY(k:Nat)(n d:Int)(s:ByteArray)(w:World)(hR:R64 n):Calls Tryz.prog 65 #[.agg #[.int .u8 k,.int .i64 n,.string s,.int .i64 d]] w fun e w'=>e= .returned (.string (txt ⟨k,n,s,d⟩))∧Below w.heap.size w w':=by
 have hz:=(Below.refl w.heap.size w).alloc (Nat.le_refl _) (.cells #[.int .u8 k,.int .i64 n,.string s,.int .i64 d] 24);have HR:=Za hR;clear hR;by_cases k2:k=2
 ·subst k2;have HT:Hid (txt ⟨2,n,s,d⟩=⟨(Lib.itoa n).toArray⟩):=by show _=_;rfl
  go_enter Tryz.func65,Tryz.ntmps65;go_wp2_with fail;refine(Zib n HR.out _).mono ?_;rintro e w2 ⟨rfl,hb2⟩;have hB2:=Zb hz hb2;clear hb2;go_wp2;go_ret;exact⟨by rw[HT.out];rfl,hB2⟩
 ·have k2i:((k:Int)==2)=false:=by simpa using(show(k:Int)≠2 by omega)
  by_cases k4:k=4
  ·subst k4;clear k2 k2i;by_cases h1:n=1
   ·subst h1;have HT:Hid (txt ⟨4,1,s,d⟩=bT):=by show _=_;rfl
    go_enter Tryz.func65,Tryz.ntmps65;go_wp2;go_ret;exact⟨by rw[HT.out];rfl,hz⟩
   ·have h1f:(n==1)=false:=by simpa using h1
    have HT:Hid (txt ⟨4,n,s,d⟩=bF):=by show _=_;unfold txt;rw[if_neg (show ¬(4=2) by decide),if_pos rfl,if_neg h1]
    clear h1;go_enter Tryz.func65,Tryz.ntmps65;go_wp2;go_ret;exact⟨by rw[HT.out];rfl,hz⟩
  ·have k4i:((k:Int)==4)=false:=by simpa using(show(k:Int)≠4 by omega)
   have HT:Hid (txt ⟨k,n,s,d⟩=s):=by show _=_;unfold txt;rw[if_neg k2,if_neg k4]
   clear k2 k4;go_enter Tryz.func65,Tryz.ntmps65;go_wp2;go_ret;exact⟨by rw[HT.out];rfl,hz⟩
theorem Zko:whB ⟨#[]⟩=false:=by decide+kernel
theorem Zy(k:Nat)(n d:Int)(s:ByteArray)(w:World)(hok:k=4→s=⟨#[]⟩)(hs:s.size≤140737488355328):
  Calls Tryz.prog 68 #[.agg #[.int .u8 k,.int .i64 n,.string s,.int .i64 d]] w fun e w'=>e= .returned (.tuple #[.int .i64 (nV ⟨k,n,s,d⟩),.int .i64 (nE ⟨k,n,s,d⟩)])∧Below w.heap.size w w':=by
 have hz:=(Below.refl w.heap.size w).alloc (Nat.le_refl _) (.cells #[.int .u8 k,.int .i64 n,.string s,.int .i64 d] 24);by_cases hk:k=2
 ·subst hk;have HN:Hid (nV ⟨2,n,s,d⟩=n):=by show _=_;rfl
  have HE:Hid (nE ⟨2,n,s,d⟩=0):=by show _=_;rfl
  clear hok;go_enter Tryz.func68,Tryz.ntmps68;go_wp2;go_ret2;exact⟨by rw[HN.out,HE.out];rfl,hz⟩
 ·have hk1:((k:Int)==2)=false:=by simpa using(show(k:Int)≠2 by omega)
  have HN:Hid (nV ⟨k,n,s,d⟩=whN s):=by show _=_;unfold nV;exact if_neg hk
  have HE:Hid (nE ⟨k,n,s,d⟩=if whB s=true then 0 else 250):=by show _=_;unfold nE;exact if_neg hk
  by_cases h4:k=4
  ·subst h4;have hse:=hok rfl;subst hse;have HN2:Hid (nV ⟨4,n,⟨#[]⟩,d⟩=0):=by show _=_;rw[HN.out,ZfU Zko]
   have HE2:Hid (nE ⟨4,n,⟨#[]⟩,d⟩=250):=by show _=_;rw[HE.out,Zko];rfl
   clear hk hk1 HN HE hok hs;go_enter Tryz.func68,Tryz.ntmps68;go_wp2;go_ret2;exact⟨by rw[HN2.out,HE2.out];rfl,hz⟩
  ·have h4i:((k:Int)==4)=false:=by simpa using(show(k:Int)≠4 by omega)
   clear hk h4 hok;rcases Bool.eq_false_or_eq_true (whB s)with hb|hb
   ·have HW:=Za (Zff s (w.alloc (.cells #[.int .u8 k,.int .i64 n,.string s,.int .i64 d] 24)) hs);rw[hb]at HE HW;clear hb;go_enter Tryz.func68,Tryz.ntmps68;go_wp2_with fail;refine HW.out.mono ?_;rintro e w1 ⟨rfl,rfl⟩;go_wp2;go_ret2;exact⟨by rw[HN.out,HE.out];rfl,hz⟩
   ·have hN:=Za (ZfU hb);have HW:=Za (Zff s (w.alloc (.cells #[.int .u8 k,.int .i64 n,.string s,.int .i64 d] 24)) hs);rw[hb]at HE HW;clear hb;go_enter Tryz.func68,Tryz.ntmps68;go_wp2_with fail;refine HW.out.mono ?_;rintro e w1 ⟨rfl,rfl⟩;go_wp2;go_ret2;exact⟨by rw[HN.out,HE.out,hN.out];rfl,hz⟩
end Go.Proofs.YtnnfhojhbbcbmaaGreatDoor
namespace Go.Proofs.YtnnfhojhbbcbmaaGreatDoor
set_option maxRecDepth 100000
set_option maxHeartbeats 4000000
open Go.RowKit
theorem ZnC {n d:Int}{t:ByteArray}(h:okI ⟨3,n,t,d⟩=true):n=0:=by simp[okI]at h;exact h.1.1.symm
theorem ZnD {k:Nat}{n d:Int}{t:ByteArray}(h:okI ⟨k,n,t,d⟩=true)(h1:k≠1)(h3:k≠3):t=⟨#[]⟩:=by
 by_cases h2:k=2
 ·subst h2;simp[okI]at h;exact Zai h.1.1
 ·by_cases h4:k=4
  ·subst h4;simp[okI]at h;exact Zai h.1.2.1
  ·simp[okI,h1,h2,h3,h4]at h
theorem Zdi(p:Option Addr)(n c:Nat)(l:List It)(w:World)(ha:OkA w ⟨p,l,c⟩)(hn:n=l.length):
  Calls Tryz.prog 23 #[.slice p n c] w fun e w'=>e= .returned (.tuple #[.bool (truthV l).1,.int .i64 (truthV l).2])∧Below w.heap.size w w':=by
 have Hr:=Za (Zt p n c l w ha hn);have Ha:=Za ha;have hnl:n<9223372036854775807:=by rw[hn];exact ha.2.2
 clear ha;rcases Bool.eq_false_or_eq_true (l.all okI)with hq|hq
 ·match l with
  | []=>
   have HT:Hid (truthV []=(false,0)):=by show _=_;rfl
   have hn0:n=0:=hn;subst hn0;rw[hq]at Hr;clear hn hq;go_enter Tryz.func23,Tryz.ntmps23;go_wp2_with fail;refine Hr.out.mono ?_;rintro e w1 ⟨rfl,hb1⟩;go_wp2;go_ret2;exact⟨by rw[HT.out];rfl,by first|exact hb1|exact hb1.alloc hb1.size _⟩
  |x::r=>
   obtain⟨m,hm⟩:∃m,m=r.length:=⟨_,rfl⟩;have hn1:n=m+1:=by rw[hn,List.length_cons,hm]
   rw[hq]at Hr;obtain⟨b,off,hp,_⟩:=at0 Ha.out.1;dsimp only at hp;subst hp;have hix:=ZaP b off n c (by omega);by_cases k1:x.kind=1
   ·have HT:Hid (truthV (x::r)=(true,0)):=by show _=_;unfold truthV;rw[if_pos hq];exact if_pos k1
    clear hn hm;obtain⟨xk,xa,xt,xd⟩:=x;have k1:xk=1:=k1;subst k1;clear hq;subst hn1;go_enter Tryz.func23,Tryz.ntmps23;go_wp2_with fail;refine Hr.out.mono ?_;rintro e w1 ⟨rfl,hb1⟩;obtain⟨b2,off2,e2,c0,c1,c2,c3⟩:=at0 (Ha.out.1.keep hb1);injection e2 with e2;injection e2 with e2 e3;subst e2 e3;dsimp only at c0 c1 c2 c3;go_wp2;go_ret2;exact⟨by rw[HT.out];rfl,by first|exact hb1|exact hb1.alloc hb1.size _⟩
   ·have k1i:((x.kind:Int)==1)=false:=by simpa using(show(x.kind:Int)≠1 by omega)
    by_cases hr0:r=[]
    ·subst hr0;have hm0:m=0:=hm;subst hm0;have hn2:n=1:=hn1;subst hn2;have HT:Hid (truthV [x]=(decide (x.num≠0)||decide (x.text.toList≠ []),0)):=by show _=_;unfold truthV;rw[if_pos hq];simp only;rw[if_neg k1,if_pos trivial]
     have hok:okI x=true:=by simpa using hq
     clear hn hm hn1 hq k1;obtain⟨xk,xa,xt,xd⟩:=x;dsimp only at k1i HT;by_cases k3:xk=3
     ·subst k3;have hz:=ZnC hok;subst hz;have HT2:Hid (truthV [⟨3,0,xt,xd⟩]=(decide (xt.toList≠ []),0)):=by show _=_;rw[HT.out];simp
      clear HT hok k1i;go_enter Tryz.func23,Tryz.ntmps23;go_wp2_with fail;refine Hr.out.mono ?_;rintro e w1 ⟨rfl,hb1⟩;obtain⟨b2,off2,e2,c0,c1,c2,c3⟩:=at0 (Ha.out.1.keep hb1);injection e2 with e2;injection e2 with e2 e3;subst e2 e3;dsimp only at c0 c1 c2 c3;have hB1:=hb1.alloc hb1.size (.cells #[.int .u8 3,.int .i64 0,.string xt,.int .i64 xd] 24);go_wp2;go_ret2;exact⟨by rw[HT2.out];simp;cases xt.toList<;>rfl,by first|exact hB1|exact hb1⟩
     ·have k3i:((xk:Int)==3)=false:=by simpa using(show(xk:Int)≠3 by omega)
      have hte:=ZnD hok (by intro h;subst h;simp at k1i) k3;subst hte;by_cases hz:xa=0
      ·have hz1:(xa != 0)=false:=by simpa using hz
       have HT2:Hid (truthV [⟨xk,xa,⟨#[]⟩,xd⟩]=(false,0)):=by show _=_;rw[HT.out];simp[hz]
       clear hz HT hok k3;go_enter Tryz.func23,Tryz.ntmps23;go_wp2_with fail;refine Hr.out.mono ?_;rintro e w1 ⟨rfl,hb1⟩;obtain⟨b2,off2,e2,c0,c1,c2,c3⟩:=at0 (Ha.out.1.keep hb1);injection e2 with e2;injection e2 with e2 e3;subst e2 e3;dsimp only at c0 c1 c2 c3;have hB1:=hb1.alloc hb1.size (.cells #[.int .u8 xk,.int .i64 xa,.string ⟨#[]⟩,.int .i64 xd] 24);go_wp2;go_ret2;exact⟨by rw[HT2.out];rfl,by first|exact hB1|exact hb1⟩
      ·have hz1:(xa != 0)=true:=by simpa using hz
       have HT2:Hid (truthV [⟨xk,xa,⟨#[]⟩,xd⟩]=(true,0)):=by show _=_;rw[HT.out];simp[hz]
       clear hz HT hok k3;go_enter Tryz.func23,Tryz.ntmps23;go_wp2_with fail;refine Hr.out.mono ?_;rintro e w1 ⟨rfl,hb1⟩;obtain⟨b2,off2,e2,c0,c1,c2,c3⟩:=at0 (Ha.out.1.keep hb1);injection e2 with e2;injection e2 with e2 e3;subst e2 e3;dsimp only at c0 c1 c2 c3;have hB1:=hb1.alloc hb1.size (.cells #[.int .u8 xk,.int .i64 xa,.string ⟨#[]⟩,.int .i64 xd] 24);go_wp2;go_ret2;exact⟨by rw[HT2.out];rfl,by first|exact hB1|exact hb1⟩
    ·have HT:Hid (truthV (x::r)=(false,250)):=by show _=_;unfold truthV;rw[if_pos hq];simp only;rw[if_neg k1,if_neg hr0]
     have hm1:(1:Int)<(n:Int):=by have:r.length≠0:=fun h=>hr0 (List.length_eq_zero_iff.1 h);omega
     have hn3:((n:Int)==0)=false:=by simpa using(show(n:Int)≠0 by omega)
     clear hn hm hq k1 hn1;obtain⟨xk,xa,xt,xd⟩:=x;dsimp only at k1i;go_enter Tryz.func23,Tryz.ntmps23;go_wp2_with fail;refine Hr.out.mono ?_;rintro e w1 ⟨rfl,hb1⟩;obtain⟨b2,off2,e2,c0,c1,c2,c3⟩:=at0 (Ha.out.1.keep hb1);injection e2 with e2;injection e2 with e2 e3;subst e2 e3;dsimp only at c0 c1 c2 c3;go_wp2;go_ret2;exact⟨by rw[HT.out];rfl,by first|exact hb1|exact hb1.alloc hb1.size _⟩
 ·have HT:Hid (truthV l=(false,2)):=by show _=_;unfold truthV;rw[if_neg (by rw[hq];decide)]
  rw[hq]at Hr;clear hq hn;go_enter Tryz.func23,Tryz.ntmps23;go_wp2_with fail;refine Hr.out.mono ?_;rintro e w1 ⟨rfl,hb1⟩;go_wp2;go_ret2;exact⟨by rw[HT.out];rfl,by first|exact hb1|exact hb1.alloc hb1.size _⟩
theorem ZbH(p:Option Addr)(n c:Nat)(l:List It)(w:World)(ha:OkA w ⟨p,l,c⟩)(hR:∀y∈l,R64 y.num)(hn:n=l.length):
  Calls Tryz.prog 25 #[.slice p n c] w fun e w'=>e= .returned (.tuple #[.string (strV l).1,.int .i64 (strV l).2])∧Below w.heap.size w w':=by
 have Hr:=Za (Zt p n c l w ha hn);have Ha:=Za ha;have hnl:n<9223372036854775807:=by rw[hn];exact ha.2.2
 clear ha;rcases Bool.eq_false_or_eq_true (l.all okI)with hq|hq
 ·match l with
  | []=>
   have HT:Hid (strV []=(⟨#[]⟩,0)):=by show _=_;rfl
   have hn0:n=0:=hn;subst hn0;rw[hq]at Hr;clear hn hq;go_enter Tryz.func25,Tryz.ntmps25;go_wp2_with fail;refine Hr.out.mono ?_;rintro e w1 ⟨rfl,hb1⟩;go_wp2;go_ret2;exact⟨by rw[HT.out];rfl,hb1⟩
  |x::r=>
   have HR:=Za (hR x (by simp));clear hR;obtain⟨m,hm⟩:∃m,m=r.length:=⟨_,rfl⟩;have hn1:n=m+1:=by rw[hn,List.length_cons,hm]
   rw[hq]at Hr;obtain⟨b,off,hp,_⟩:=at0 Ha.out.1;dsimp only at hp;subst hp;have hix:=ZaP b off n c (by omega);by_cases hr0:r=[]
   ·subst hr0;have hm0:m=0:=hm;subst hm0;have hn2:n=1:=hn1;subst hn2;have HT:Hid (strV [x]=(txt x,0)):=by show _=_;unfold strV;rw[if_pos hq];simp only;rw[if_pos trivial]
    clear hn hm hn1 hq;obtain⟨xk,xa,xt,xd⟩:=x;go_enter Tryz.func25,Tryz.ntmps25;go_wp2_with fail;refine Hr.out.mono ?_;rintro e w1 ⟨rfl,hb1⟩;obtain⟨b2,off2,e2,c0,c1,c2,c3⟩:=at0 (Ha.out.1.keep hb1);injection e2 with e2;injection e2 with e2 e3;subst e2 e3;dsimp only at c0 c1 c2 c3;go_wp2_with fail;refine(ZgY xk xa xd xt _ HR.out).mono ?_;rintro e w2 ⟨rfl,hb2⟩;have hB2:=Zb hb1 hb2;clear hb2 c0 c1 c2 c3;generalize txt ⟨xk,xa,xt,xd⟩=tx at*;go_wp2;go_ret2;exact⟨by rw[HT.out];rfl,hB2⟩
   ·have HT:Hid (strV (x::r)=(⟨#[]⟩,253)):=by show _=_;unfold strV;rw[if_pos hq];simp only;rw[if_neg hr0]
    have hm1:(1:Int)<(n:Int):=by have:r.length≠0:=fun h=>hr0 (List.length_eq_zero_iff.1 h);omega
    clear hn hm hq hn1;go_enter Tryz.func25,Tryz.ntmps25;go_wp2_with fail;refine Hr.out.mono ?_;rintro e w1 ⟨rfl,hb1⟩;go_wp2;go_ret2;exact⟨by rw[HT.out];rfl,hb1⟩
 ·have HT:Hid (strV l=(⟨#[]⟩,2)):=by show _=_;unfold strV;rw[if_neg (by rw[hq];decide)]
  rw[hq]at Hr;clear hq hn hR;go_enter Tryz.func25,Tryz.ntmps25;go_wp2_with fail;refine Hr.out.mono ?_;rintro e w1 ⟨rfl,hb1⟩;go_wp2;go_ret2;exact⟨by rw[HT.out];rfl,hb1⟩
end Go.Proofs.YtnnfhojhbbcbmaaGreatDoor
namespace Go.Proofs.YtnnfhojhbbcbmaaGreatDoor
set_option maxRecDepth 100000
set_option maxHeartbeats 4000000
open Go.RowKit
def Zgy(op:ByteArray)(hf:Int→Bool):Prop:=∀(n:Int) (w:World),Calls Tryz.prog 63 #[.string op,.int .i64 n] w fun e w'=>e= .returned (.bool (hf n))∧w=w'
theorem Zk4(n:Int)(q:Bool)(w:World)(hq:(n==0)=q):Calls Tryz.prog 63 #[.string ⟨#[61]⟩,.int .i64 n] w fun e w'=>e= .returned (.bool q)∧w=w':=by go_enter Tryz.func63,Tryz.ntmps63;go_wp2;go_ret;exact⟨rfl,rfl⟩
theorem Zk5(n:Int)(q:Bool)(w:World)(hq:(n != 0)=q):Calls Tryz.prog 63 #[.string ⟨#[33,61]⟩,.int .i64 n] w fun e w'=>e= .returned (.bool q)∧w=w':=by go_enter Tryz.func63,Tryz.ntmps63;go_wp2;go_ret;exact⟨rfl,rfl⟩
theorem Zk6(n:Int)(q:Bool)(w:World)(hq:(decide (n<0))=q):Calls Tryz.prog 63 #[.string ⟨#[60]⟩,.int .i64 n] w fun e w'=>e= .returned (.bool q)∧w=w':=by go_enter Tryz.func63,Tryz.ntmps63;go_wp2;go_ret;exact⟨rfl,rfl⟩
theorem Zk7(n:Int)(q:Bool)(w:World)(hq:(decide (n≤0))=q):Calls Tryz.prog 63 #[.string ⟨#[60,61]⟩,.int .i64 n] w fun e w'=>e= .returned (.bool q)∧w=w':=by go_enter Tryz.func63,Tryz.ntmps63;go_wp2;go_ret;exact⟨rfl,rfl⟩
theorem Zk8(n:Int)(q:Bool)(w:World)(hq:(decide (0<n))=q):Calls Tryz.prog 63 #[.string ⟨#[62]⟩,.int .i64 n] w fun e w'=>e= .returned (.bool q)∧w=w':=by go_enter Tryz.func63,Tryz.ntmps63;go_wp2;go_ret;exact⟨rfl,rfl⟩
theorem Zk9(n:Int)(q:Bool)(w:World)(hq:(decide (0≤n))=q):Calls Tryz.prog 63 #[.string ⟨#[62,61]⟩,.int .i64 n] w fun e w'=>e= .returned (.bool q)∧w=w':=by go_enter Tryz.func63,Tryz.ntmps63;go_wp2;go_ret;exact⟨rfl,rfl⟩
theorem rsEq:Zgy ⟨#[61]⟩ (fun n=>n==0):=fun n w=>Zk4 n _ w rfl
theorem rsLt:Zgy ⟨#[60]⟩ (fun n=>decide (n<0)):=fun n w=>Zk6 n _ w rfl
theorem rsNe:Zgy ⟨#[33,61]⟩ (fun n=>n != 0):=fun n w=>Zk5 n _ w rfl
theorem rsLe:Zgy ⟨#[60,61]⟩ (fun n=>decide (n≤0)):=fun n w=>Zk7 n _ w rfl
theorem rsGt:Zgy ⟨#[62]⟩ (fun n=>decide (0<n)):=fun n w=>Zk8 n _ w rfl
theorem rsGe:Zgy ⟨#[62,61]⟩ (fun n=>decide (0≤n)):=fun n w=>Zk9 n _ w rfl
end Go.Proofs.YtnnfhojhbbcbmaaGreatDoor
namespace Go.Proofs.YtnnfhojhbbcbmaaGreatDoor
open Go.RowKit
theorem Zd9 {a b:Int}(h:a<b):ZaA a b= -1:=by unfold ZaA;rw[if_pos h]
theorem Zea {a b:Int}(h:b<a):ZaA a b=1:=by unfold ZaA;rw[if_neg (by omega),if_pos h]
theorem Zeb(a:Int):ZaA a a=0:=by unfold ZaA;rw[if_neg (by omega),if_neg (by omega)]
theorem ZnE {a b:ByteArray}(h:Op.bytesLess a.toList b.toList=true):Zeh a b= -1:=by unfold Zeh;rw[if_pos h]
theorem ZnF {a b:ByteArray}(h:Op.bytesLess a.toList b.toList=false)(h2:(a.toList==b.toList)=false):Zeh a b=1:=by unfold Zeh;rw[if_neg (by rw[h];decide),if_neg (by rw[h2];decide)]
theorem ZnG {a b:ByteArray}(h:Op.bytesLess a.toList b.toList=false)(h2:(a.toList==b.toList)=true):Zeh a b=0:=by unfold Zeh;rw[if_neg (by rw[h];decide),if_pos h2]
set_option maxRecDepth 100000 in
set_option maxHeartbeats 4000000 in
theorem Zfg(k1 k2:Nat)(a1 a2 d1 d2:Int)(t1 t2:ByteArray)(w:World)(hs1:t1.size≤140737488355328)(hs2:t2.size≤140737488355328):
  Calls Tryz.prog 62 #[.agg #[.int .u8 k1,.int .i64 a1,.string t1,.int .i64 d1],.agg #[.int .u8 k2,.int .i64 a2,.string t2,.int .i64 d2]] w fun e w'=>e= .returned (.tuple #[.int .i64 (oV ⟨k1,a1,t1,d1⟩ ⟨k2,a2,t2,d2⟩),.int .i64 (oE ⟨k1,a1,t1,d1⟩ ⟨k2,a2,t2,d2⟩)])∧Below w.heap.size w w':=by
 have hB0:Below w.heap.size w ((w.alloc (.cells #[.int .u8 k1,.int .i64 a1,.string t1,.int .i64 d1] 24)).alloc (.cells #[.int .u8 k2,.int .i64 a2,.string t2,.int .i64 d2] 24)):=((Below.refl _ _).alloc (Nat.le_refl _) _).alloc (by simp) _;have y_b:Blk ((w.alloc (.cells #[.int .u8 k1,.int .i64 a1,.string t1,.int .i64 d1] 24)).alloc (.cells #[.int .u8 k2,.int .i64 a2,.string t2,.int .i64 d2] 24)) (w.heap.size+1) 24 #[.int .u8 k2,.int .i64 a2,.string t2,.int .i64 d2]:=by have:=Blk.new (w.alloc (.cells #[.int .u8 k1,.int .i64 a1,.string t1,.int .i64 d1] 24)) 24 #[.int .u8 k2,.int .i64 a2,.string t2,.int .i64 d2];simpa using this
 by_cases p4:k1=4
 ·have f1:((k1:Int)==4)=true:=by simpa using(show(k1:Int)=4 by omega)
  by_cases q4:k2=4
  ·have f2:((k2:Int)==4)=true:=by simpa using(show(k2:Int)=4 by omega)
   have HV:Hid (oV ⟨k1,a1,t1,d1⟩ ⟨k2,a2,t2,d2⟩=ZaA a1 a2):=by show _=_;simp[oV,p4,q4]
   have HE:Hid (oE ⟨k1,a1,t1,d1⟩ ⟨k2,a2,t2,d2⟩=0):=by show _=_;simp[oE,p4,q4]
   clear p4 q4;rcases Int.lt_trichotomy a1 a2 with hc|hc|hc
   ·have HC:=Za (Zd9 hc);go_enter Tryz.func62,Tryz.ntmps62;go_wp2_with fail;go_region;go_wp2_with fail;go_region;go_wp2;go_ret2;exact⟨by rw[HV.out,HE.out,HC.out];rfl,hB0.drew.drew⟩
   ·subst hc;have HC:=Za (Zeb a1);have hc:¬a1<a1:=by omega
    go_enter Tryz.func62,Tryz.ntmps62;go_wp2_with fail;go_region;go_wp2_with fail;go_region;go_wp2;go_ret2;exact⟨by rw[HV.out,HE.out,HC.out];rfl,hB0.drew.drew⟩
   ·have HC:=Za (Zea hc);have hc2:¬a1<a2:=by omega
    go_enter Tryz.func62,Tryz.ntmps62;go_wp2_with fail;go_region;go_wp2_with fail;go_region;go_wp2;go_ret2;exact⟨by rw[HV.out,HE.out,HC.out];rfl,hB0.drew.drew⟩
  ·have f2:((k2:Int)==4)=false:=by simpa using(show(k2:Int)≠4 by omega)
   have HV:Hid (oV ⟨k1,a1,t1,d1⟩ ⟨k2,a2,t2,d2⟩=0):=by show _=_;simp[oV,p4,q4]
   have HE:Hid (oE ⟨k1,a1,t1,d1⟩ ⟨k2,a2,t2,d2⟩=250):=by show _=_;simp[oE,p4,q4]
   clear p4 q4;go_enter Tryz.func62,Tryz.ntmps62;go_wp2_with fail;go_region;go_wp2;go_ret2;exact⟨by rw[HV.out,HE.out];rfl,hB0.drew⟩
 ·have f1:((k1:Int)==4)=false:=by simpa using(show(k1:Int)≠4 by omega)
  by_cases q4:k2=4
  ·have f2:((k2:Int)==4)=true:=by simpa using(show(k2:Int)=4 by omega)
   have HV:Hid (oV ⟨k1,a1,t1,d1⟩ ⟨k2,a2,t2,d2⟩=0):=by show _=_;simp[oV,p4,q4]
   have HE:Hid (oE ⟨k1,a1,t1,d1⟩ ⟨k2,a2,t2,d2⟩=250):=by show _=_;simp[oE,p4,q4]
   clear p4 q4;go_enter Tryz.func62,Tryz.ntmps62;go_wp2_with fail;go_region;go_wp2;go_ret2;exact⟨by rw[HV.out,HE.out];rfl,hB0.drew⟩
  ·have f2:((k2:Int)==4)=false:=by simpa using(show(k2:Int)≠4 by omega)
   by_cases p2:k1=2
   ·have g1:((k1:Int) != 2)=false:=by simpa using(show(k1:Int)=2 by omega)
    have H2:Hid (k1=2∨k2=2):= .inl p2;have H4:=Za p4;have H5:=Za q4;clear p2 p4 q4;go_enter Tryz.func62,Tryz.ntmps62;go_wp2_with fail;go_region;go_wp2_with fail;go_region;go_wp2_with fail;refine(Zy k1 a1 d1 t1 _ (fun h=>absurd h H4.out) hs1).mono ?_;rintro e w1 ⟨rfl,hb1⟩;have hB1:=Zb hB0.drew.drew hb1;have x_b:Blk w1 (w.heap.size+1) 24 #[.int .u8 k2,.int .i64 a2,.string t2,.int .i64 d2]:=y_b.drew.drew.keep hb1;clear hb1;have c0:=x_b.cell 0;have c1:=x_b.cell 1;have c2:=x_b.cell 2;have c3:=x_b.cell 3;simp only[List.getElem?_toArray,List.getElem?_cons_zero,List.getElem?_cons_succ]at c0 c1 c2 c3;go_wp2_with fail;refine(Zy k2 a2 d2 t2 _ (fun h=>absurd h H5.out) hs2).mono ?_;rintro e w2 ⟨rfl,hb2⟩;have hB2:=Zb hB1 hb2;clear hb2 c0 c1 c2 c3 hB1;by_cases n1:nE ⟨k1,a1,t1,d1⟩=0
    ·by_cases n2:nE ⟨k2,a2,t2,d2⟩=0
     ·have HV:Hid (oV ⟨k1,a1,t1,d1⟩ ⟨k2,a2,t2,d2⟩=ZaA (nV ⟨k1,a1,t1,d1⟩) (nV ⟨k2,a2,t2,d2⟩)):=ZhV H4.out H5.out H2.out n1 n2;have HE:Hid (oE ⟨k1,a1,t1,d1⟩ ⟨k2,a2,t2,d2⟩=0):=ZhW H4.out H5.out H2.out n1 n2;rw[n1,n2];have n1':True:=trivial;generalize nV ⟨k1,a1,t1,d1⟩=v1 at*;generalize nV ⟨k2,a2,t2,d2⟩=v2 at*;clear n1 n2 H2 H4 H5 f1 f2 g1;rcases Int.lt_trichotomy v1 v2 with hc|hc|hc
      ·have HC:=Za (Zd9 hc);skip;go_wp2;go_ret2;exact⟨by rw[HV.out,HE.out,HC.out];rfl,hB2⟩
      ·subst hc;have HC:=Za (Zeb v1);have hc:¬v1<v1:=by omega
       skip;go_wp2;go_ret2;exact⟨by rw[HV.out,HE.out,HC.out];rfl,hB2⟩
      ·have HC:=Za (Zea hc);have hc2:¬v1<v2:=by omega
       skip;go_wp2;go_ret2;exact⟨by rw[HV.out,HE.out,HC.out];rfl,hB2⟩
     ·have n2':(nE ⟨k2,a2,t2,d2⟩ != 0)=true:=by simpa using n2
      have HV:Hid (oV ⟨k1,a1,t1,d1⟩ ⟨k2,a2,t2,d2⟩=0):=Zfc H4.out H5.out H2.out (.inr n2);have HE:Hid (oE ⟨k1,a1,t1,d1⟩ ⟨k2,a2,t2,d2⟩=250):=Zfd H4.out H5.out H2.out (.inr n2);rw[n1];generalize nE ⟨k2,a2,t2,d2⟩=e2 at n2'⊢;clear n1 n2 H2 H4 H5 f1 f2 g1;go_wp2;go_ret2;exact⟨by rw[HV.out,HE.out];rfl,hB2⟩
    ·have n1':(nE ⟨k1,a1,t1,d1⟩ != 0)=true:=by simpa using n1
     have HV:Hid (oV ⟨k1,a1,t1,d1⟩ ⟨k2,a2,t2,d2⟩=0):=Zfc H4.out H5.out H2.out (.inl n1);have HE:Hid (oE ⟨k1,a1,t1,d1⟩ ⟨k2,a2,t2,d2⟩=250):=Zfd H4.out H5.out H2.out (.inl n1);generalize nE ⟨k1,a1,t1,d1⟩=e1 at n1'⊢;clear n1 H2 H4 H5 f1 f2 g1;go_wp2;go_ret2;exact⟨by rw[HV.out,HE.out];rfl,hB2⟩
   ·have g1:((k1:Int) != 2)=true:=by simpa using(show(k1:Int)≠2 by omega)
    by_cases q2:k2=2
    ·have g2:((k2:Int) != 2)=false:=by simpa using(show(k2:Int)=2 by omega)
     have H2:Hid (k1=2∨k2=2):= .inr q2;have H4:=Za p4;have H5:=Za q4;clear p2 q2 p4 q4;go_enter Tryz.func62,Tryz.ntmps62;go_wp2_with fail;go_region;go_wp2_with fail;go_region;go_wp2_with fail;refine(Zy k1 a1 d1 t1 _ (fun h=>absurd h H4.out) hs1).mono ?_;rintro e w1 ⟨rfl,hb1⟩;have hB1:=Zb hB0.drew.drew hb1;have x_b:Blk w1 (w.heap.size+1) 24 #[.int .u8 k2,.int .i64 a2,.string t2,.int .i64 d2]:=y_b.drew.drew.keep hb1;clear hb1;have c0:=x_b.cell 0;have c1:=x_b.cell 1;have c2:=x_b.cell 2;have c3:=x_b.cell 3;simp only[List.getElem?_toArray,List.getElem?_cons_zero,List.getElem?_cons_succ]at c0 c1 c2 c3;go_wp2_with fail;refine(Zy k2 a2 d2 t2 _ (fun h=>absurd h H5.out) hs2).mono ?_;rintro e w2 ⟨rfl,hb2⟩;have hB2:=Zb hB1 hb2;clear hb2 c0 c1 c2 c3 hB1;by_cases n1:nE ⟨k1,a1,t1,d1⟩=0
     ·by_cases n2:nE ⟨k2,a2,t2,d2⟩=0
      ·have HV:Hid (oV ⟨k1,a1,t1,d1⟩ ⟨k2,a2,t2,d2⟩=ZaA (nV ⟨k1,a1,t1,d1⟩) (nV ⟨k2,a2,t2,d2⟩)):=ZhV H4.out H5.out H2.out n1 n2;have HE:Hid (oE ⟨k1,a1,t1,d1⟩ ⟨k2,a2,t2,d2⟩=0):=ZhW H4.out H5.out H2.out n1 n2;rw[n1,n2];have n1':True:=trivial;generalize nV ⟨k1,a1,t1,d1⟩=v1 at*;generalize nV ⟨k2,a2,t2,d2⟩=v2 at*;clear n1 n2 H2 H4 H5 f1 f2 g1;rcases Int.lt_trichotomy v1 v2 with hc|hc|hc
       ·have HC:=Za (Zd9 hc);skip;go_wp2;go_ret2;exact⟨by rw[HV.out,HE.out,HC.out];rfl,hB2⟩
       ·subst hc;have HC:=Za (Zeb v1);have hc:¬v1<v1:=by omega
        skip;go_wp2;go_ret2;exact⟨by rw[HV.out,HE.out,HC.out];rfl,hB2⟩
       ·have HC:=Za (Zea hc);have hc2:¬v1<v2:=by omega
        skip;go_wp2;go_ret2;exact⟨by rw[HV.out,HE.out,HC.out];rfl,hB2⟩
      ·have n2':(nE ⟨k2,a2,t2,d2⟩ != 0)=true:=by simpa using n2
       have HV:Hid (oV ⟨k1,a1,t1,d1⟩ ⟨k2,a2,t2,d2⟩=0):=Zfc H4.out H5.out H2.out (.inr n2);have HE:Hid (oE ⟨k1,a1,t1,d1⟩ ⟨k2,a2,t2,d2⟩=250):=Zfd H4.out H5.out H2.out (.inr n2);rw[n1];generalize nE ⟨k2,a2,t2,d2⟩=e2 at n2'⊢;clear n1 n2 H2 H4 H5 f1 f2 g1;go_wp2;go_ret2;exact⟨by rw[HV.out,HE.out];rfl,hB2⟩
     ·have n1':(nE ⟨k1,a1,t1,d1⟩ != 0)=true:=by simpa using n1
      have HV:Hid (oV ⟨k1,a1,t1,d1⟩ ⟨k2,a2,t2,d2⟩=0):=Zfc H4.out H5.out H2.out (.inl n1);have HE:Hid (oE ⟨k1,a1,t1,d1⟩ ⟨k2,a2,t2,d2⟩=250):=Zfd H4.out H5.out H2.out (.inl n1);generalize nE ⟨k1,a1,t1,d1⟩=e1 at n1'⊢;clear n1 H2 H4 H5 f1 f2 g1;go_wp2;go_ret2;exact⟨by rw[HV.out,HE.out];rfl,hB2⟩
    ·have g2:((k2:Int) != 2)=true:=by simpa using(show(k2:Int)≠2 by omega)
     have HV:Hid (oV ⟨k1,a1,t1,d1⟩ ⟨k2,a2,t2,d2⟩=Zeh t1 t2):=by show _=_;simp[oV,p4,q4,p2,q2]
     have HE:Hid (oE ⟨k1,a1,t1,d1⟩ ⟨k2,a2,t2,d2⟩=0):=by show _=_;simp[oE,p4,q4,p2,q2]
     clear p2 q2 p4 q4;cases h1:Op.bytesLess t1.toList t2.toList with
     |true=>
      have HC:=Za (ZnE h1);go_enter Tryz.func62,Tryz.ntmps62;go_wp2_with fail;go_region;go_wp2_with fail;go_region;go_wp2;go_ret2;exact⟨by rw[HV.out,HE.out,HC.out];rfl,hB0.drew.drew⟩
     |false=>
      rcases Bool.eq_false_or_eq_true (t1.toList==t2.toList)with h2|h2
      ·have HC:=Za (ZnG h1 h2);go_enter Tryz.func62,Tryz.ntmps62;go_wp2_with fail;go_region;go_wp2_with fail;go_region;go_wp2;go_ret2;exact⟨by rw[HV.out,HE.out,HC.out];rfl,hB0.drew.drew⟩
      ·have HC:=Za (ZnF h1 h2);go_enter Tryz.func62,Tryz.ntmps62;go_wp2_with fail;go_region;go_wp2_with fail;go_region;go_wp2;go_ret2;exact⟨by rw[HV.out,HE.out,HC.out];rfl,hB0.drew.drew⟩
end Go.Proofs.YtnnfhojhbbcbmaaGreatDoor
