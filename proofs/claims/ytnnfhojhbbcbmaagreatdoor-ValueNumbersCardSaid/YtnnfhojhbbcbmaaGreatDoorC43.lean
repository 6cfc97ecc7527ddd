/- The reference: stands, joined, join. The reference: joined, join, distinct. The reference: join. -/
import Derived.Test.YtnnfhojhbbcbmaaGreatDoorC42
import Derived.Test.YtnnfhojhbbcbmaaGreatDoorC22
import Derived.Test.YtnnfhojhbbcbmaaGreatDoorC19
namespace Go.Proofs.YtnnfhojhbbcbmaaGreatDoor
set_option maxRecDepth 100000
set_option maxHeartbeats 4000000
open Go.RowKit
theorem Zd0(s t:ByteArray)(w:World)(hs:s.size≤140737488355328)(ht:t.size≤140737488355328):Calls Tryz.prog 146 #[.string ⟨#[99,111,110,116,97,105,110,115]⟩,.string s,.string t] w fun e w'=>e= .returned (.bool (Lib.contains s.data.toList t.data.toList))∧w=w':=by
 obtain⟨q,hq⟩:∃q,q=Lib.contains s.data.toList t.data.toList:=⟨_,rfl⟩;have Hq:=Za hq;rw[←hq];clear hq;go_enter Tryz.func146,Tryz.ntmps146;go_wp2_with fail;go_loopw[7] (fun iv W=>∃k:Nat,k≤s.size+1∧iv= .int .i64 k∧Hid (∀j,j<k→j+t.size≤s.size→s.extract j (j+t.size)=t→¬(True))∧w=W) (fun iv _=>s.size+1-(intOf iv).toNat)
 case atStart=>exact⟨0,Nat.zero_le _,rfl,Za (fun j hj=>absurd hj (Nat.not_lt_zero _)),rfl⟩
 case round=>
  obtain⟨k,hk,rfl,HF,rfl⟩:=hrel;by_cases hlt:k+t.size≤s.size
  ·have hI:(k:Int)+(t.size:Int)≤(s.size:Int):=by omega
   have hks:k≤s.size:=by omega
   by_cases he:s.extract k (k+t.size)=t
   ·have hE:(s.extract k (k+t.size)).toList=t.toList:=by rw[he]
    have hq:q=true:=by rw[Hq.out];exact Zn1 hlt he
    subst hq;clear he HF Hq;go_wp2;go_ret;exact⟨rfl,rfl⟩
   ·have hE:((s.extract k (k+t.size)).toList==t.toList)=false:=by
     simp only[beq_eq_false_iff_ne,ne_eq,ZaN];exact he
    have hE2:¬(s.extract k (k+t.size)).toList=t.toList:=by rw[ZaN];exact he
    have HF2:Hid (∀j,j<k+1→j+t.size≤s.size→s.extract j (j+t.size)=t→¬(True)):=by
     show ∀j,_;intro j hj h1 h2;by_cases ej:j=k
     ·subst ej;exact absurd h2 he
     ·exact HF.out j (by omega) h1 h2
    clear he HF;go_wp2;go_roundw
    case rel=>exact⟨k+1,by omega,by simp,HF2,by trivial⟩
    case measure=>simp[intOf];omega
  ·have hI:¬(k:Int)+(t.size:Int)≤(s.size:Int):=by omega
   have hq:q=false:=by rw[Hq.out];exact Zo6 fun j hj h2=>HF.out j (by omega) hj h2 trivial
   subst hq;clear HF Hq;go_wp2;go_ret;exact⟨rfl,rfl⟩
theorem ZeR(s t:ByteArray)(w:World)(hs:s.size≤140737488355328)(ht:t.size≤140737488355328):Calls Tryz.prog 146 #[.string ⟨#[115,116,97,114,116,115,45,119,105,116,104]⟩,.string s,.string t] w fun e w'=>e= .returned (.bool (Lib.hasPrefix s.data.toList t.data.toList))∧w=w':=by
 obtain⟨q,hq⟩:∃q,q=Lib.hasPrefix s.data.toList t.data.toList:=⟨_,rfl⟩;have Hq:=Za hq;rw[←hq];clear hq;go_enter Tryz.func146,Tryz.ntmps146;go_wp2_with fail;go_loopw[7] (fun iv W=>∃k:Nat,k≤s.size+1∧iv= .int .i64 k∧Hid (∀j,j<k→j+t.size≤s.size→s.extract j (j+t.size)=t→¬(j=0))∧w=W) (fun iv _=>s.size+1-(intOf iv).toNat)
 case atStart=>exact⟨0,Nat.zero_le _,rfl,Za (fun j hj=>absurd hj (Nat.not_lt_zero _)),rfl⟩
 case round=>
  obtain⟨k,hk,rfl,HF,rfl⟩:=hrel;by_cases hlt:k+t.size≤s.size
  ·have hI:(k:Int)+(t.size:Int)≤(s.size:Int):=by omega
   have hks:k≤s.size:=by omega
   by_cases he:s.extract k (k+t.size)=t
   ·have hE:(s.extract k (k+t.size)).toList=t.toList:=by rw[he]
    by_cases hk0:k=0
    ·subst hk0;have hq:q=true:=by rw[Hq.out];exact pre_iff.2 ⟨by omega,by simpa using he⟩
     have hE3:(s.extract 0 t.size).toList=t.toList:=by simpa using hE
     subst hq;clear he HF Hq;go_wp2;go_ret;exact⟨rfl,rfl⟩
    ·have hz:((k:Int)==0)=false:=by simpa using(show ¬(k:Int)=0 by omega)
     have hz2:¬(k:Int)=0:=by omega
     have HF2:Hid (∀j,j<k+1→j+t.size≤s.size→s.extract j (j+t.size)=t→¬(j=0)):=by
      show ∀j,_;intro j hj h1 h2;by_cases ej:j=k
      ·subst ej;exact hk0
      ·exact HF.out j (by omega) h1 h2
     clear he HF hk0;go_wp2;go_roundw
     case rel=>exact⟨k+1,by omega,by simp,HF2,by trivial⟩
     case measure=>simp[intOf];omega
   ·have hE:((s.extract k (k+t.size)).toList==t.toList)=false:=by
     simp only[beq_eq_false_iff_ne,ne_eq,ZaN];exact he
    have hE2:¬(s.extract k (k+t.size)).toList=t.toList:=by rw[ZaN];exact he
    have HF2:Hid (∀j,j<k+1→j+t.size≤s.size→s.extract j (j+t.size)=t→¬(j=0)):=by
     show ∀j,_;intro j hj h1 h2;by_cases ej:j=k
     ·subst ej;exact absurd h2 he
     ·exact HF.out j (by omega) h1 h2
    clear he HF;go_wp2;go_roundw
    case rel=>exact⟨k+1,by omega,by simp,HF2,by trivial⟩
    case measure=>simp[intOf];omega
  ·have hI:¬(k:Int)+(t.size:Int)≤(s.size:Int):=by omega
   have hq:q=false:=by
    rw[Hq.out];rcases Bool.eq_false_or_eq_true (Lib.hasPrefix s.data.toList t.data.toList)with h2|h2
    ·obtain⟨h3,h4⟩:=pre_iff.1 h2
     have hk0:0<k:=by
      rcases Nat.eq_zero_or_pos k with h|h
      ·subst h;omega
      ·exact h
     exact absurd rfl (HF.out 0 hk0 (by omega) (by simpa using h4))
    ·exact h2
   subst hq;clear HF Hq;go_wp2;go_ret;exact⟨rfl,rfl⟩
theorem Zhy(s t:ByteArray)(w:World)(hs:s.size≤140737488355328)(ht:t.size≤140737488355328):Calls Tryz.prog 146 #[.string ⟨#[101,110,100,115,45,119,105,116,104]⟩,.string s,.string t] w fun e w'=>e= .returned (.bool (Lib.hasSuffix s.data.toList t.data.toList))∧w=w':=by
 obtain⟨q,hq⟩:∃q,q=Lib.hasSuffix s.data.toList t.data.toList:=⟨_,rfl⟩;have Hq:=Za hq;rw[←hq];clear hq;go_enter Tryz.func146,Tryz.ntmps146;go_wp2_with fail;go_loopw[7] (fun iv W=>∃k:Nat,k≤s.size+1∧iv= .int .i64 k∧Hid (∀j,j<k→j+t.size≤s.size→s.extract j (j+t.size)=t→¬(j+t.size=s.size))∧w=W) (fun iv _=>s.size+1-(intOf iv).toNat)
 case atStart=>exact⟨0,Nat.zero_le _,rfl,Za (fun j hj=>absurd hj (Nat.not_lt_zero _)),rfl⟩
 case round=>
  obtain⟨k,hk,rfl,HF,rfl⟩:=hrel;by_cases hlt:k+t.size≤s.size
  ·have hI:(k:Int)+(t.size:Int)≤(s.size:Int):=by omega
   have hks:k≤s.size:=by omega
   by_cases he:s.extract k (k+t.size)=t
   ·have hE:(s.extract k (k+t.size)).toList=t.toList:=by rw[he]
    by_cases hk0:k+t.size=s.size
    ·have hq:q=true:=by rw[Hq.out];exact suf_iff.2 ⟨by omega,by rw[show s.size-t.size=k by omega];exact he⟩
     have hz:(k:Int)+(t.size:Int)=(s.size:Int):=by omega
     have hE3:(s.extract k s.size).toList=t.toList:=by rw[←hk0];exact hE
     subst hq;clear he HF Hq hk0;go_wp2;go_ret;exact⟨rfl,rfl⟩
    ·have hz:((k:Int)+(t.size:Int)==(s.size:Int))=false:=by simpa using(show ¬(k:Int)+(t.size:Int)=(s.size:Int) by omega)
     have hz2:¬(k:Int)+(t.size:Int)=(s.size:Int):=by omega
     have HF2:Hid (∀j,j<k+1→j+t.size≤s.size→s.extract j (j+t.size)=t→¬(j+t.size=s.size)):=by
      show ∀j,_;intro j hj h1 h2;by_cases ej:j=k
      ·subst ej;exact hk0
      ·exact HF.out j (by omega) h1 h2
     clear he HF hk0;go_wp2;go_roundw
     case rel=>exact⟨k+1,by omega,by simp,HF2,by trivial⟩
     case measure=>simp[intOf];omega
   ·have hE:((s.extract k (k+t.size)).toList==t.toList)=false:=by
     simp only[beq_eq_false_iff_ne,ne_eq,ZaN];exact he
    have hE2:¬(s.extract k (k+t.size)).toList=t.toList:=by rw[ZaN];exact he
    have HF2:Hid (∀j,j<k+1→j+t.size≤s.size→s.extract j (j+t.size)=t→¬(j+t.size=s.size)):=by
     show ∀j,_;intro j hj h1 h2;by_cases ej:j=k
     ·subst ej;exact absurd h2 he
     ·exact HF.out j (by omega) h1 h2
    clear he HF;go_wp2;go_roundw
    case rel=>exact⟨k+1,by omega,by simp,HF2,by trivial⟩
    case measure=>simp[intOf];omega
  ·have hI:¬(k:Int)+(t.size:Int)≤(s.size:Int):=by omega
   have hq:q=false:=by
    rw[Hq.out];rcases Bool.eq_false_or_eq_true (Lib.hasSuffix s.data.toList t.data.toList)with h2|h2
    ·obtain⟨h3,h4⟩:=suf_iff.1 h2;exact absurd (by omega) (HF.out (s.size-t.size) (by omega) (by omega) h4)
    ·exact h2
   subst hq;clear HF Hq;go_wp2;go_ret;exact⟨rfl,rfl⟩
end Go.Proofs.YtnnfhojhbbcbmaaGreatDoor
namespace Go.Proofs.YtnnfhojhbbcbmaaGreatDoor
open Go.RowKit
def ZjK(sep:ByteArray):Bool→List ByteArray→Nat
 |_,[]=>0
 |first,x::r=>(if first=true then 0 else sep.size)+x.size+ZjK sep false r
def jby(sep:ByteArray):Bool→List ByteArray→List UInt8
 |_,[]=>[]
 |first,x::r=>(if first=true then []else sep.data.toList)++x.data.toList++jby sep false r
theorem ZfM(sep:ByteArray):∀xs:List ByteArray,jby sep true xs=(joinB sep xs).data.toList
 | []=>rfl
 | [x]=>by
  show []++x.data.toList++[]=(List.intercalate sep.data.toList [x.data.toList]).toArray.toList;simp[List.intercalate]
 |x::y::r=>by
  have ih:=ZfM sep (y::r);have h1:(joinB sep (x::y::r)).data.toList=x.data.toList++sep.data.toList++(joinB sep (y::r)).data.toList:=by show(List.intercalate sep.data.toList (x.data.toList::y.data.toList::r.map (·.data.toList))).toArray.toList=_++(List.intercalate sep.data.toList (y.data.toList::r.map (·.data.toList))).toArray.toList;rw[List.intercalate_cons_cons,List.toList_toArray,List.toList_toArray]
  rw[h1,←ih];simp[jby]
theorem ZiW(sep:ByteArray):∀(xs:List ByteArray) (f:Bool),ZjK sep f xs=(jby sep f xs).length
 | [],_=>rfl
 |x::r,f=>by
  have e1:x.data.toList.length=x.size:=Array.length_toList;have e2:sep.data.toList.length=sep.size:=Array.length_toList;unfold ZjK jby;rw[List.length_append,List.length_append,ZiW sep r false,e1];cases f<;>simp[e2]
theorem ZlA(sep:ByteArray)(xs:List ByteArray):ZjK sep true xs=(joinB sep xs).size:=by rw[ZiW,ZfM];exact Array.length_toList
set_option maxRecDepth 100000 in
set_option maxHeartbeats 4000000 in
theorem Zeo(sep:ByteArray)(p:Option Addr)(n c:Nat)(xs:List ByteArray)(w:World)(hr:Rd w p (xs.map Value.string))(hn:n=xs.length)(hnm:n≤1000000)(hz:∀x∈xs,x.size≤1000000)(hs:sep.size≤1000000):
  Calls Tryz.prog 140 #[.slice p n c,.string sep] w (Res w (joinR sep xs).1 (joinR sep xs).2):=by
 obtain⟨J1,hJ1⟩:∃x,x=(joinR sep xs).1:=⟨_,rfl⟩;obtain⟨J2,hJ2⟩:∃x,x=(joinR sep xs).2:=⟨_,rfl⟩;rw[←hJ1,←hJ2];have HJ:Hid (J1=(if 65536<(joinB sep xs).size then([],3)else([⟨3,0,joinB sep xs,0⟩],0):List It×Int).1∧J2=(if 65536<(joinB sep xs).size then([],3)else([⟨3,0,joinB sep xs,0⟩],0):List It×Int).2):=⟨hJ1,hJ2⟩;have Hr:=Za hr;have Hn:=Za hn;have Hz:=Za hz;clear hr hn hz hJ1 hJ2;go_enter Tryz.func140,Tryz.ntmps140;go_wp2_with fail;go_loopw[6,7] (fun v i W=>∃(S k:Nat),k≤n∧v= .int .i64 (S:Int)∧i= .int .i64 k∧Hid (S+ZjK sep (decide (k=0)) (xs.drop k)=(joinB sep xs).size)∧S≤65536∧w=W) (fun _ i _=>n-(intOf i).toNat)
 case atStart=>exact⟨0,0,Nat.zero_le _,rfl,rfl,Za (by show 0+_=_;rw[Nat.zero_add];exact ZlA sep xs),by omega,rfl⟩
 case round=>
  obtain⟨S,k,hk,rfl,rfl,HS,hSle,rfl⟩:=hrel;by_cases hlt:k<n
  ·have hI:(k:Int)<(n:Int):=by omega
   obtain⟨x,hx⟩:∃x,xs[k]? =some x:=⟨_,List.getElem?_eq_getElem (by have:=Hn.out;omega)⟩;obtain⟨b,off,rfl,hcell⟩:=Hr.out.cellAt k (.string x) (by simp[hx]);have hix:=Z0 b off n c k hlt;have hxz:=Hz.out x (List.mem_of_getElem? hx);have HS2:Hid (S+((if decide (k=0)=true then 0 else sep.size)+x.size+ZjK sep false (xs.drop (k+1)))=(joinB sep xs).size):=by show _=_;rw[←HS.out,ZdC xs k x hx];rfl
   clear hx HS;by_cases hk0:k=0
   ·have hk1:¬(0:Int)<(k:Int):=by omega
    have HS3:Hid ((S+x.size)+ZjK sep (decide (k+1=0)) (xs.drop (k+1))=(joinB sep xs).size):=by show _=_;rw[←HS2.out,if_pos (by simpa using hk0)];simp;omega
    clear HS2 hk0;by_cases hbig:65536<S+x.size
    ·have hg:(65536:Int)<(S:Int)+(x.size:Int):=by omega
     have HR:Hid (J1=[]∧J2=3):=by have h3:=HS3.out;obtain⟨e1,e2⟩:=HJ.out;rw[if_pos (by omega)]at e1 e2;exact⟨e1,e2⟩
     clear hbig;go_wp2;go_ret2;exact⟨.slice none 0 0,by rw[HR.out.2];rfl,by rw[HR.out.1];exact OwI.nil _ _,Below.refl _ _⟩
    ·have hg:¬(65536:Int)<(S:Int)+(x.size:Int):=by omega
     go_wp2;go_roundw
     case rel=>exact⟨S+x.size,k+1,by omega,by simp,by simp,HS3,by omega,by trivial⟩
     case measure=>simp[intOf];omega
   ·have hk1:(0:Int)<(k:Int):=by omega
    have HS3:Hid ((S+x.size+sep.size)+ZjK sep (decide (k+1=0)) (xs.drop (k+1))=(joinB sep xs).size):=by show _=_;rw[←HS2.out,if_neg (by simpa using hk0)];simp;omega
    clear HS2;by_cases hbig:65536<S+x.size+sep.size
    ·have hg:(65536:Int)<(S:Int)+(x.size:Int)+(sep.size:Int):=by omega
     have HR:Hid (J1=[]∧J2=3):=by have h3:=HS3.out;obtain⟨e1,e2⟩:=HJ.out;rw[if_pos (by omega)]at e1 e2;exact⟨e1,e2⟩
     clear hbig hk0;go_wp2;go_ret2;exact⟨.slice none 0 0,by rw[HR.out.2];rfl,by rw[HR.out.1];exact OwI.nil _ _,Below.refl _ _⟩
    ·have hg:¬(65536:Int)<(S:Int)+(x.size:Int)+(sep.size:Int):=by omega
     clear hk0;go_wp2;go_roundw
     case rel=>exact⟨S+x.size+sep.size,k+1,by omega,by simp,by simp,HS3,by omega,by trivial⟩
     case measure=>simp[intOf];omega
  ·have hI:¬(k:Int)<(n:Int):=by omega
   have HR:Hid (J1=[⟨3,0,joinB sep xs,0⟩]∧J2=0∧(joinB sep xs).size≤65536):=by
    have h3:=HS.out;rw[List.drop_eq_nil_of_le (by have:=Hn.out;omega)]at h3;have h4:ZjK sep (decide (k=0)) []=0:=by cases decide (k=0)<;>rfl
    obtain⟨e1,e2⟩:=HJ.out;rw[if_neg (by omega)]at e1 e2;exact⟨e1,e2,by omega⟩
   have HB:Hid ((joinB sep xs)=⟨(jby sep true xs).toArray⟩∧(jby sep true xs).length≤65536):=by
    have h3:=ZfM sep xs;refine⟨?_,?_⟩
    ·rw[h3]
    ·rw[h3,show(joinB sep xs).data.toList.length=(joinB sep xs).size from Array.length_toList];exact HR.out.2.2
   clear HS hSle hlt;generalize joinB sep xs=jb at*;go_wp2_with fail;clear hI hk;go_loopw[8,9] (fun ov iv W=>∃(k:Nat) (out:List UInt8),k≤n∧iv= .int .i64 k∧Hid (OwB W w.heap.size ov out)∧Hid (out++jby sep (decide (k=0)) (xs.drop k)=jby sep true xs)∧Below w.heap.size w W) (fun _ iv _=>n-(intOf iv).toNat)
   case atStart=>exact⟨0,[],Nat.zero_le _,rfl,Za (OwB.nil _ _),Za rfl,Below.refl _ _⟩
   case round=>
    obtain⟨k,out,hk,rfl,Ho,HT,hB⟩:=hrel;obtain⟨av,cv,hv⟩:=Ho.out.forms;subst hv;obtain⟨m,hm⟩:∃m,m=out.length:=⟨_,rfl⟩;rw[←hm]at Ho⊢;have Hm:=Za hm;have hml:m≤65536:=by have h1:=congrArg List.length HT.out;rw[List.length_append]at h1;have:=HB.out.2;omega
    clear hm;by_cases hlt:k<n
    ·have hI:(k:Int)<(n:Int):=by omega
     obtain⟨x,hx⟩:∃x,xs[k]? =some x:=⟨_,List.getElem?_eq_getElem (by have:=Hn.out;omega)⟩;obtain⟨b,off,rfl,hcell⟩:=(Hr.out.keep hB).cellAt k (.string x) (by simp[hx]);have hix:=Z0 b off n c k hlt;have hxz:=Hz.out x (List.mem_of_getElem? hx);have HT2:Hid (out++((if decide (k=0)=true then []else sep.data.toList)++x.data.toList++jby sep false (xs.drop (k+1)))=jby sep true xs):=by show _=_;rw[←HT.out,ZdC xs k x hx];rfl
     have hbs:=hB.size;clear hx HT;by_cases hk0:k=0
     ·have hk1:¬(0:Int)<(k:Int):=by omega
      have HT3:Hid ((out++x.data.toList)++jby sep (decide (k+1=0)) (xs.drop (k+1))=jby sep true xs):=by show _=_;rw[←HT2.out,if_pos (by simpa using hk0)];simp
      clear HT2 hk0;go_wp2_with (refine Za5 rfl _ _ rfl w.heap.size (.slice av m cv) out x rfl rfl Ho.out ?s1 hbs ?_)
      case s1=>have:=Hm.out;omega
      intro v3 W3 own3 hg3;have hB3:Below w.heap.size w W3:=hB.grown hg3 hbs fun b hb=>(OwB.lt Ho.out b hb).1;have Hown3:=Za own3;clear own3 hg3 hB Ho hcell hix;go_wp2;go_roundw
      case rel=>exact⟨k+1,out++x.data.toList,by omega,by simp,Hown3,HT3,hB3⟩
      case measure=>simp[intOf];omega
     ·have hk1:(0:Int)<(k:Int):=by omega
      have HT3:Hid (((out++sep.data.toList)++x.data.toList)++jby sep (decide (k+1=0)) (xs.drop (k+1))=jby sep true xs):=by show _=_;rw[←HT2.out,if_neg (by simpa using hk0)];simp
      clear HT2 hk0;go_wp2_with (refine Za5 rfl _ _ rfl w.heap.size (.slice av m cv) out sep rfl rfl Ho.out ?s1 hbs ?_)
      case s1=>have:=Hm.out;omega
      intro v3 W3 own3 hg3;have hB3:Below w.heap.size w W3:=hB.grown hg3 hbs fun b hb=>(OwB.lt Ho.out b hb).1;have Hown3:=Za own3
      have hcell3:=hg3.cell hcell (fun e=>by
       have:=(OwB.lt Ho.out b e.symm).1;have h2:=Rd.addrAt Hr.out (by intro e2;have h3:=congrArg List.length e2;rw[List.length_map,←Hn.out]at h3;simp at h3;omega);obtain⟨b5,o5,e5,h5,_⟩:=h2;injection e5 with e5;injection e5 with e5
       omega)
      obtain⟨av2,cv2,hv2⟩:=own3.forms;subst hv2;obtain⟨m2,hm2⟩:∃m,m=(out++sep.data.toList).length:=⟨_,rfl⟩;rw[←hm2]at Hown3⊢;have Hm2:=Za hm2;have hm2b:(out++sep.data.toList).length≤2000000:=by rw[List.length_append,show sep.data.toList.length=sep.size from Array.length_toList,←Hm.out];omega
      have Hm2b:=Za hm2b;clear own3 hg3 hB Ho hcell hm2 hm2b;go_wp2_with (refine Za5 rfl _ _ rfl w.heap.size (.slice av2 m2 cv2) (out++sep.data.toList) x rfl rfl Hown3.out ?s3 ?s4 ?_)
      case s3=>have:=Hm2b.out;omega
      case s4=>exact hB3.size
      intro v4 W4 own4 hg4;have hB4:Below w.heap.size w W4:=hB3.grown hg4 hB3.size fun b hb=>(OwB.lt Hown3.out b hb).1;have Hown4:=Za own4;clear own4 hg4 hB3 Hown3 hcell3 hix;go_wp2;go_roundw
      case rel=>exact⟨k+1,out++(sep.data.toList++x.data.toList),by omega,by simp,Hown4,(by show _=_;rw[←HT3.out];simp),hB4⟩
      case measure=>simp[intOf];omega
    ·have hI:¬(k:Int)<(n:Int):=by omega
     have hx:jb=⟨out.toArray⟩:=by
      have h3:=HT.out;rw[List.drop_eq_nil_of_le (by have:=Hn.out;omega)]at h3;have h4:jby sep (decide (k=0)) []=[]:=by cases decide (k=0)<;>rfl
      rw[h4,List.append_nil]at h3;rw[HB.out.1,h3]
     have hcv:=(OwB.rd Ho.out).str m cv Hm.out;rw[←hx]at hcv;have hbs:=hB.size;clear hx HT Ho HB;go_wp2_with fail;refine(ZiT jb _).mono ?_;rintro e w2 ⟨v,rfl,ho2,hb2⟩;have Ho2:=Za (ho2.mono hbs);have hB2:=Zb hB hb2;clear ho2 hB hb2;go_wp2;go_ret2;exact⟨v,by rw[HR.out.2.1];rfl,by rw[HR.out.1];exact Ho2.out,hB2⟩
end Go.Proofs.YtnnfhojhbbcbmaaGreatDoor
namespace Go.Proofs.YtnnfhojhbbcbmaaGreatDoor
open Go.RowKit
set_option maxRecDepth 100000 in
set_option maxHeartbeats 4000000 in
theorem Zg9(aa ba:Option Addr)(q qb ac bc:Nat)(al bl:List It)(w:World)(ha:OkA w ⟨aa,al,ac⟩)(hb:OkA w ⟨ba,bl,bc⟩)(hL:q≤1000000)(hR:∀y∈al,R64 y.num)(hs:∀y∈al,y.text.size≤100000)(hRb:∀y∈bl,R64 y.num)(hsb:∀y∈bl,y.text.size≤100000)(hq:q=al.length)(hqb:qb=bl.length):
  Calls Tryz.prog 83 #[.slice aa q ac,.slice ba qb bc] w (Res w (joinV [⟨aa,al,ac⟩,⟨ba,bl,bc⟩]).1 (joinV [⟨aa,al,ac⟩,⟨ba,bl,bc⟩]).2):=by
 obtain⟨i0,hi⟩:=info_parts (show(Tryz.prog.info? 9).map (fun i=>(i.zero,i.size,i.bytes))=some (some (.string ⟨#[]⟩),1,16) by kernel_rfl);have Hi:=Za hi;have Hq:=Za hq;have Hst:=Za (ZbH ba qb bc bl w hb hRb hqb);have Hss:=Za (ZaM bl hRb hsb);have Ha:=Za ha;have HR:=Za hR;have Hs:=Za hs;have HJ:Hid (joinV [⟨aa,al,ac⟩,⟨ba,bl,bc⟩]=if (strV bl).2=0 then joinR (strV bl).1 (txL al)else([],(strV bl).2)):=by show _=_;rfl
 rw[HJ.out];clear ha hb hR hs hRb hsb hq hqb hi HJ;generalize strV bl=sv at*;obtain⟨s1,s2⟩:=sv;dsimp only at Hst Hss⊢;by_cases hz:s2=0
 ·subst hz;rw[if_pos rfl];obtain⟨jv,hjv⟩:∃x,x=joinR s1 (txL al):=⟨_,rfl⟩;rw[←hjv];have Hjv:=Za hjv;clear hjv;obtain⟨j1,j2⟩:=jv;dsimp only;go_enter Tryz.func83,Tryz.ntmps83;go_wp2_with fail;refine Hst.out.mono ?_;rintro e w1 ⟨rfl,hB2⟩;go_wp2_with fail;go_loopw[8,9] (fun lv iv W=>∃k:Nat,k≤q∧iv= .int .i64 k∧Hid (W.ownsRow w.heap.size 9 1 lv k ((txL (al.take k)).map Value.string))∧Below w.heap.size w W) (fun _ iv _=>q-(intOf iv).toNat)
  case atStart=>exact⟨0,Nat.zero_le _,rfl,Za (Zb8 _ _ _ _),hB2⟩
  case round=>
   clear hB2;obtain⟨k,hk,rfl,Ho,hB⟩:=hrel;by_cases hlt:k<q
   ·have hI:(k:Int)<(q:Int):=by omega
    obtain⟨x,hx⟩:∃x,al[k]? =some x:=⟨_,List.getElem?_eq_getElem (by have:=Hq.out;omega)⟩;obtain⟨b1,off1,e1,c0,c1,c2,c3⟩:=(Ha.out.1.keep hB).at k x hx;dsimp only at e1;subst e1;have hix2:=Zr b1 off1 q ac k hlt;have HxR:=Za (HR.out x (List.mem_of_getElem? hx));have Htk:Hid (txL (al.take (k+1))=txL (al.take k)++[txt x]):=by show _=_;rw[List.take_add_one,hx];simp[txL]
    clear hx;obtain⟨xk,xa,xt,xd⟩:=x;dsimp only at c0 c1 c2 c3;obtain⟨lav,lcv,hv⟩:=Zl Ho.out;subst hv;go_wp2_with fail;refine(ZgY xk xa xd xt _ HxR.out).mono ?_;rintro e w4 ⟨rfl,hb4⟩;have hB4:=Zb hB hb4;have Ho4:=Za (ZL Ho.out hb4);clear hb4 hB c0 c1 c2 c3 hix2 Ho;generalize txt ⟨xk,xa,xt,xd⟩=sx at*;have hrd:=Rd.new w4 9 [.string sx];have hk6:=(Below.refl w4.heap.size w4).alloc (Nat.le_refl _) (.cells #[.string sx] 9);have own6:=ZL Ho4.out hk6;have be6:=Zb hB4 hk6;have Hrd:=Za hrd;have Own6:=Za own6;clear hrd hk6 own6 Ho4 hB4;go_wp2_with (at_builtin;refine Zk rfl _ _ 29 rfl i0 _ 16 1 Tryz.underlying29 Hi.out.1 Hi.out.2.1 Hi.out.2.2.1 Hi.out.2.2.2 rfl (by decide) rfl rfl ?e1 Own6.out Hrd.out (m:=1) rfl ?e2 ?e3 ?e4 ?_)
    case e1=>intro u hu;simp at hu;subst hu;rfl
    case e2=>omega
    case e3=>omega
    case e4=>exact be6.size
    intro v3 W3 own3 hg3 hv3;have own4:W3.ownsRow w.heap.size 9 1 v3 (k+1) ((txL (al.take (k+1))).map Value.string):=by rw[Htk.out,List.map_append];exact own3
    have hB3:Below w.heap.size w W3:=be6.grown hg3 be6.size fun b hb=>(Z5 Own6.out b hb).1;have Hown4:=Za own4;clear own3 hg3 hv3 own4 Own6 Hrd be6;go_wp2;go_roundw
    case rel=>exact⟨k+1,by omega,by simp,Za Hown4.out,hB3⟩
    case measure=>simp[intOf];omega
   ·have hI:¬(k:Int)<(q:Int):=by omega
    have hkq:k=q:=by omega
    subst hkq;have htk:al.take k=al:=List.take_of_length_le (by have:=Hq.out;omega);obtain⟨lav,lcv,hv⟩:=Zl Ho.out;subst hv;have hfin:=Ho.out;rw[htk]at hfin;have Hj:=Za (Zeo s1 lav k lcv (txL al) wr (ZcQ hfin) (by show _=(List.map txt al).length;rw[List.length_map];exact Hq.out) hL (fun x hx=>by obtain⟨y,hy,rfl⟩:=List.mem_map.1 hx;exact Nat.le_trans (ZcX y (HR.out y hy) (Hs.out y hy)) (by decide)) (Nat.le_trans Hss.out (by decide)));rw[←Hjv.out]at Hj;have hbs:=hB.size;clear htk hfin Ho hk Hjv;dsimp only at Hj;go_wp2_with fail;refine Hj.out.mono ?_;rintro e w5 ⟨v,rfl,ho,hb5⟩;have Ho5:=Za (ho.mono hbs);have hB5:=Zb hB hb5;clear ho hb5 hB hbs;go_wp2;go_ret2;exact⟨v,rfl,Ho5.out,hB5⟩
 ·have hz1:(s2 != 0)=true:=by simpa using hz
  rw[if_neg hz];clear hz;go_enter Tryz.func83,Tryz.ntmps83;go_wp2_with fail;refine Hst.out.mono ?_;rintro e w1 ⟨rfl,hb1⟩;go_wp2;go_ret2;exact⟨.slice none 0 0,rfl,OwI.nil _ _,hb1⟩
end Go.Proofs.YtnnfhojhbbcbmaaGreatDoor
