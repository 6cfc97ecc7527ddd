/- The reference: whole numbers (ref04.Whole). -/
import Derived.Test.YtnnfhojhbbcbmaaGreatDoorC10
import Derived.Test.YtnnfhojhbbcbmaaGreatDoorHa
namespace Go.Proofs.YtnnfhojhbbcbmaaGreatDoor
open Go.RowKit
theorem ZeZ(d:ByteArray)(i:Nat)(h:i<d.size):∃u:UInt8,d.data.toList.drop i=u::d.data.toList.drop (i+1)∧bt d i=((u.toNat:Nat):Int):=by
 have h2:i<d.data.toList.length:=by rw[Array.length_toList];exact h
 refine⟨d.data.toList[i],List.drop_eq_getElem_cons h2,?_⟩;rw[←ZQ d i h];rfl
theorem Znc(d:ByteArray)(i a:Nat)(h:i<d.size)(h1:48≤bt d i)(h2:bt d i≤57):rv a (d.data.toList.drop i)=rv (10*a+((bt d i).toNat-48)) (d.data.toList.drop (i+1)):=by
 obtain⟨u,e1,e2⟩:=ZeZ d i h;rw[e1,e2,Int.toNat_natCast]
 conv=>lhs;unfold rv
 rw[if_pos (by unfold isD;rw[e2]at h1 h2;simp;omega)]
theorem ZjO(d:ByteArray)(i a:Nat)(h:i<d.size)(h1:¬(48≤bt d i∧bt d i≤57)):rv a (d.data.toList.drop i)=none:=by obtain⟨u,e1,e2⟩:=ZeZ d i h;rw[e1];unfold rv;rw[if_neg (by unfold isD;rw[e2]at h1;simp;omega)]
theorem ZhE(d:ByteArray)(i a:Nat)(h:¬i<d.size):rv a (d.data.toList.drop i)=some a:=by rw[List.drop_eq_nil_of_le (by rw[Array.length_toList];show d.size≤i;omega)];rfl
theorem Ze0(d:ByteArray)(h:0<d.size)(n:Nat)(hn:n<256):d.data.toList.head?=some (UInt8.ofNat n)↔bt d 0=(n:Int):=by
 obtain⟨u,e1,e2⟩:=ZeZ d 0 h;rw[List.drop_zero]at e1;rw[e1,e2];simp only[List.head?_cons,Option.some.injEq];constructor
 ·rintro rfl;simp;omega
 ·intro h3;apply UInt8.toNat_inj.1;simp;omega
theorem Zcb(d:ByteArray):d.data.toList.length=d.size:=Array.length_toList
theorem Znu(s:ByteArray):(s.extract 1 s.size).data.toList=s.data.toList.tail:=by rw[ByteArray.data_extract,Array.toList_extract,List.extract_eq_take_drop];rw[List.take_of_length_le,List.drop_one];rw[List.length_drop,Zcb];omega
def bad(neg:Bool)(d:ByteArray):Prop:=d.size=0∨19<d.size∨(bt d 0=48∧(1<d.size∨neg=true))
theorem Zc7 {neg:Bool}{d:ByteArray}(h:bad neg d):rfD neg d.data.toList=none:=by
 unfold rfD;rw[if_pos];rw[Zcb];rcases h with h|h|⟨h,h2⟩
 ·exact .inl h
 ·exact .inr (.inl h)
 ·by_cases h0:0<d.size
  ·exact .inr (.inr ⟨(Ze0 d h0 48 (by decide)).2 h,h2⟩)
  ·exact .inl (by omega)
theorem Zl5 {neg:Bool}{d:ByteArray}(h:¬bad neg d):rfD neg d.data.toList=match rv 0 d.data.toList with
  |none=>none
  |some n=>if neg=true then(if n≤9223372036854775808 then some (-(n:Int))else none)else(if n<9223372036854775808 then some (n:Int)else none):=by
 unfold rfD;rw[if_neg]
 ·rfl
 rw[Zcb];rintro(h1|h1|⟨h1,h2⟩)
 ·exact h (.inl h1)
 ·exact h (.inr (.inl h1))
 ·by_cases h0:0<d.size
  ·exact h (.inr (.inr ⟨(Ze0 d h0 48 (by decide)).1 h1,h2⟩))
  ·exact h (.inl (by omega))
theorem Znv {s:ByteArray}(h0:0<s.size)(h:bt s 0=45):rfO s.data.toList=rfD true (s.extract 1 s.size).data.toList:=by unfold rfO;have h2:s.data.toList.head?=some 45:=(Ze0 s h0 45 (by decide)).2 h;rw[if_pos h2,Znu]
theorem Znw {s:ByteArray}(h:¬(0<s.size∧bt s 0=45)):rfO s.data.toList=rfD false s.data.toList:=by
 unfold rfO;rw[if_neg];intro h2;by_cases h0:0<s.size
 ·exact h ⟨h0,(Ze0 s h0 45 (by decide)).1 h2⟩
 ·have:s.data.toList=[]:=List.eq_nil_of_length_eq_zero (by rw[Zcb];omega);rw[this]at h2;cases h2
theorem ZjP {a i:Nat}(h:a<10 ^ i)(hi:i≤18):a<1000000000000000000:=by
 have h2:(10:Nat) ^ i≤10 ^ 18:=Nat.pow_le_pow_right (by decide) hi;have h3:(10:Nat) ^ 18=1000000000000000000:=by decide
 omega
def rfN(s:ByteArray):Int:=(rfO s.data.toList).getD 0
def rfB(s:ByteArray):Bool:=(rfO s.data.toList).isSome
theorem ZbV {s:ByteArray}(h:rfO s.data.toList=none):(rfN s,rfB s)=(0,false):=by unfold rfN rfB;rw[h];rfl
theorem ZjQ {s:ByteArray}{v:Int}(h:rfO s.data.toList=some v):(rfN s,rfB s)=(v,true):=by unfold rfN rfB;rw[h];rfl
theorem Za7 {s:ByteArray}{v:Int}{b:Bool}(h:(rfN s,rfB s)=(v,b)):Ending.returned (.tuple #[.int .i64 v,.bool b])= .returned (.tuple #[.int .i64 (rfN s),.bool (rfB s)]):=by injection h with h1 h2;rw[h1,h2]
def fin(neg:Bool)(n:Nat):Option Int:=if neg=true then(if n≤9223372036854775808 then some (-(n:Int))else none)else(if n<9223372036854775808 then some (n:Int)else none)
theorem Zam {neg:Bool}{d:ByteArray}(h:rv 0 d.data.toList=none):(match rv 0 d.data.toList with|none=>none|some n=>fin neg n)=none:=by rw[h]
theorem ZbM {neg:Bool}{d:ByteArray}{a:Nat}(h:rv 0 d.data.toList=some a):(match rv 0 d.data.toList with|none=>none|some n=>fin neg n)=fin neg a:=by rw[h]
theorem Zd5 {neg:Bool}{d:ByteArray}(h:¬bad neg d):rfD neg d.data.toList=match rv 0 d.data.toList with|none=>none|some n=>fin neg n:=Zl5 h
theorem Znx {n:Nat}(h:n≤9223372036854775808):fin true n=some (-(n:Int)):=by unfold fin;rw[if_pos rfl,if_pos h]
theorem Zl6 {n:Nat}(h:¬n≤9223372036854775808):fin true n=none:=by unfold fin;rw[if_pos rfl,if_neg h]
theorem Zj8 {n:Nat}(h:n<9223372036854775808):fin false n=some (n:Int):=by unfold fin;rw[if_neg (by decide),if_pos h]
theorem ZiE {n:Nat}(h:¬n<9223372036854775808):fin false n=none:=by unfold fin;rw[if_neg (by decide),if_neg h]
set_option maxRecDepth 100000 in
set_option maxHeartbeats 8000000 in
theorem Zh4(s:ByteArray)(w:World)(hs:s.size≤140737488355328):
  Calls Tryz.prog 116 #[.string s] w fun e w'=>e= .returned (.tuple #[.int .i64 (rfN s),.bool (rfB s)])∧w=w':=by
 by_cases hn:0<s.size∧bt s 0=45
 ·obtain⟨h0,h45⟩:=hn;have i0:(0:Int)<(s.size:Int):=by omega
  have hx0:=Zal s 0 h0 0 rfl;rw[h45]at hx0;have hO:=Znv h0 h45;have e1:=Zq s 1;have i1:(1:Int)≤(s.size:Int):=by omega
  obtain⟨d,hd⟩:∃d,s.extract 1 s.size=d:=⟨_,rfl⟩;rw[hd]at hO e1;have hds:d.size≤140737488355328:=by omega
  clear h45;by_cases z0:d.size=0
  ·have HR:=Za (ZbV (hO.trans (Zc7 (.inl z0))));have q0:((d.size:Int)==0)=true:=by simp[z0]
   clear hO e1 z0;go_enter Tryz.func116,Tryz.ntmps116;go_wp2;go_ret2;exact⟨Za7 HR.out,rfl⟩
  have q0:((d.size:Int)==0)=false:=by simpa using(show(d.size:Int)≠0 by omega)
  by_cases z1:19<d.size
  ·have HR:=Za (ZbV (hO.trans (Zc7 (.inr (.inl z1)))));have q1:19<(d.size:Int):=by omega
   clear hO e1 z0 z1;go_enter Tryz.func116,Tryz.ntmps116;go_wp2;go_ret2;exact⟨Za7 HR.out,rfl⟩
  have q1:decide (19<(d.size:Int))=false:=by simp;omega
  have hxd:=Zal d 0 (by omega) 0 rfl;obtain⟨c,lc,ec⟩:=Zae d 0;rw[ec]at hxd;by_cases z2:c=48
  ·have HR:=Za (ZbV (hO.trans (Zc7 (.inr (.inr ⟨by rw[ec,z2];rfl,.inr rfl⟩)))));have q2:((c:Int)==48)=true:=by simp[z2]
   clear hO e1 z0 z1 ec z2;go_enter Tryz.func116,Tryz.ntmps116;by_cases z3:1<d.size
   ·have q3:1<(d.size:Int):=by omega
    clear z3;go_wp2;go_ret2;exact⟨Za7 HR.out,rfl⟩
   ·have q3:decide (1<(d.size:Int))=false:=by simp;omega
    clear z3;go_wp2;go_ret2;exact⟨Za7 HR.out,rfl⟩
  have q2:((c:Int)==48)=false:=by simpa using(show(c:Int)≠48 by omega)
  have Hg:=Za (hO.trans (Zd5 (by
   rintro(h|h|⟨h,_⟩)
   ·exact z0 h
   ·exact z1 h
   ·rw[ec]at h;omega)))
  have hdl:d.size≤19:=by omega
  clear hO e1 z0 ec z2 z1;go_enter Tryz.func116,Tryz.ntmps116;go_wp2_with fail;clear hd hxd hx0;go_loopw[6,7] (fun x v W=>∃a i:Nat,x= .int .u64 a∧v= .int .i64 i∧i≤d.size∧a<10 ^ i∧Hid (rv a (d.data.toList.drop i)=rv 0 d.data.toList)∧w=W) (fun _ v _=>d.size-(intOf v).toNat)
  case atStart=>exact⟨0,0,rfl,rfl,Nat.zero_le _,by decide,Za (by rw[List.drop_zero]),rfl⟩
  case round=>
   obtain⟨a,i,rfl,rfl,hi,ha,Hk,rfl⟩:=hrel;by_cases hlt:i<d.size
   ·have hI:(i:Int)<(d.size:Int):=by omega
    have ha2:=ZjP ha (by omega);have ha3:=Nat.mul_lt_mul_of_pos_right ha (show 0<10 by decide);rw[←Nat.pow_succ]at ha3;obtain⟨c,lc,ec⟩:=Zae d i;have hxi:=Zal d i hlt i rfl;have Hin:=Za (Znc d i a hlt);have Hout:=Za (ZjO d i a hlt);rw[ec]at hxi Hin Hout;clear ec;by_cases c1:c<48
    ·have j1:(c:Int)<48:=by omega
     have HR:=ZbV ((Hg.out).trans (Zam (by rw[←Hk.out];exact Hout.out (by omega))));have HR:=Za HR;clear Hin Hout Hk Hg ha ha3;go_wp2;go_ret2;exact⟨Za7 HR.out,rfl⟩
    have j1:decide ((c:Int)<48)=false:=by simp;omega
    by_cases c2:57<c
    ·have j2:57<(c:Int):=by omega
     have HR:=ZbV ((Hg.out).trans (Zam (by rw[←Hk.out];exact Hout.out (by omega))));have HR:=Za HR;clear Hin Hout Hk Hg ha ha3;go_wp2;go_ret2;exact⟨Za7 HR.out,rfl⟩
    have j2:decide (57<(c:Int))=false:=by simp;omega
    have c3:48≤c:=by omega
    have Hk2:Hid (rv (10*a+(c-48)) (d.data.toList.drop (i+1))=rv 0 d.data.toList):=by show _=_;rw[←Hk.out,Hin.out (by omega) (by omega),Int.toNat_natCast]
    have hn:10*a+(c-48)<10 ^ (i+1):=by have e:10 ^ (i+1)=10 ^ i*10:=Nat.pow_succ ..;omega
    have Hn:=Za hn;clear Hin Hout Hk ha ha3 hn;go_wp2_with fail;go_roundw
    case rel=>exact⟨10*a+(c-48),i+1,by simp;omega,by simp,by omega,Hn.out,Hk2,by trivial⟩
    case measure=>simp[intOf];omega
   ·have hI:¬(i:Int)<(d.size:Int):=by omega
    have hv:rv 0 d.data.toList=some a:=by rw[←Hk.out];exact ZhE d i a hlt
    have Hg2:=(Hg.out).trans (ZbM hv)
    have ha2:a<10000000000000000000:=by
     have h2:(10:Nat) ^ i≤10 ^ 19:=Nat.pow_le_pow_right (by decide) (by omega);have h3:(10:Nat) ^ 19=10000000000000000000:=by decide
     omega
    clear Hk hv Hg ha;by_cases f1:a≤9223372036854775808
    ·have HR:=Za (ZjQ (Hg2.trans (Znx f1)));have hw:wrap64 (IntKind.u64.wrap (-(a:Int)))= -(a:Int):=by rw[IntKind.wrap_u64];unfold wrap64;omega
     have g1:(a:Int)≤9223372036854775808:=by omega
     clear Hg2 f1;go_wp2;go_ret2;exact⟨Za7 HR.out,rfl⟩
    ·have HR:=Za (ZbV (Hg2.trans (Zl6 f1)));have g1:decide ((a:Int)≤9223372036854775808)=false:=by simp;omega
     clear Hg2 f1;go_wp2;go_ret2;exact⟨Za7 HR.out,rfl⟩
 ·have hO:=Znw hn;by_cases z0:s.size=0
  ·have HR:=Za (ZbV (hO.trans (Zc7 (.inl z0))));have q0:((s.size:Int)==0)=true:=by simp[z0]
   have q1:decide ((0:Int)<(s.size:Int))=false:=by simp[z0]
   clear hO z0 hn;go_enter Tryz.func116,Tryz.ntmps116;go_wp2;go_ret2;exact⟨Za7 HR.out,rfl⟩
  have i0:(0:Int)<(s.size:Int):=by omega
  have q0:((s.size:Int)==0)=false:=by simpa using(show(s.size:Int)≠0 by omega)
  have hxd:=Zal s 0 (by omega) 0 rfl;obtain⟨c,lc,ec⟩:=Zae s 0;rw[ec]at hxd;have q45:((c:Int)==45)=false:=by have:bt s 0≠45:=fun h=>hn ⟨by omega,h⟩;simpa using(show(c:Int)≠45 by omega)
  by_cases z1:19<s.size
  ·have HR:=Za (ZbV (hO.trans (Zc7 (.inr (.inl z1)))));have q1:19<(s.size:Int):=by omega
   clear hO z0 z1 hn ec;go_enter Tryz.func116,Tryz.ntmps116;go_wp2;go_ret2;exact⟨Za7 HR.out,rfl⟩
  have q1:decide (19<(s.size:Int))=false:=by simp;omega
  have hdl:s.size≤19:=by omega
  by_cases z2:c=48
  ·have q2:((c:Int)==48)=true:=by simp[z2]
   by_cases z3:1<s.size
   ·have HR:=Za (ZbV (hO.trans (Zc7 (.inr (.inr ⟨by rw[ec,z2];rfl,.inl z3⟩)))));have q3:1<(s.size:Int):=by omega
    clear hO z0 z1 hn ec z2 z3;go_enter Tryz.func116,Tryz.ntmps116;go_wp2;go_ret2;exact⟨Za7 HR.out,rfl⟩
   have q3:decide (1<(s.size:Int))=false:=by simp;omega
   have Hg:=Za (hO.trans (Zd5 (by
    rintro(h|h|⟨_,h|h⟩)
    ·exact z0 h
    ·exact z1 h
    ·exact z3 h
    ·cases h)))
   clear hO z0 z1 hn ec z2 z3;go_enter Tryz.func116,Tryz.ntmps116;go_wp2_with fail;clear hxd;go_loopw[6,7] (fun x v W=>∃a i:Nat,x= .int .u64 a∧v= .int .i64 i∧i≤s.size∧a<10 ^ i∧Hid (rv a (s.data.toList.drop i)=rv 0 s.data.toList)∧w=W) (fun _ v _=>s.size-(intOf v).toNat)
   case atStart=>exact⟨0,0,rfl,rfl,Nat.zero_le _,by decide,Za (by rw[List.drop_zero]),rfl⟩
   case round=>
    obtain⟨a,i,rfl,rfl,hi,ha,Hk,rfl⟩:=hrel;by_cases hlt:i<s.size
    ·have hI:(i:Int)<(s.size:Int):=by omega
     have ha2:=ZjP ha (by omega);have ha3:=Nat.mul_lt_mul_of_pos_right ha (show 0<10 by decide);rw[←Nat.pow_succ]at ha3;obtain⟨c,lc,ec⟩:=Zae s i;have hxi:=Zal s i hlt i rfl;have Hin:=Za (Znc s i a hlt);have Hout:=Za (ZjO s i a hlt);rw[ec]at hxi Hin Hout;clear ec;by_cases c1:c<48
     ·have j1:(c:Int)<48:=by omega
      have HR:=ZbV ((Hg.out).trans (Zam (by rw[←Hk.out];exact Hout.out (by omega))));have HR:=Za HR;clear Hin Hout Hk Hg ha ha3;go_wp2;go_ret2;exact⟨Za7 HR.out,rfl⟩
     have j1:decide ((c:Int)<48)=false:=by simp;omega
     by_cases c2:57<c
     ·have j2:57<(c:Int):=by omega
      have HR:=ZbV ((Hg.out).trans (Zam (by rw[←Hk.out];exact Hout.out (by omega))));have HR:=Za HR;clear Hin Hout Hk Hg ha ha3;go_wp2;go_ret2;exact⟨Za7 HR.out,rfl⟩
     have j2:decide (57<(c:Int))=false:=by simp;omega
     have c3:48≤c:=by omega
     have Hk2:Hid (rv (10*a+(c-48)) (s.data.toList.drop (i+1))=rv 0 s.data.toList):=by show _=_;rw[←Hk.out,Hin.out (by omega) (by omega),Int.toNat_natCast]
     have hn:10*a+(c-48)<10 ^ (i+1):=by have e:10 ^ (i+1)=10 ^ i*10:=Nat.pow_succ ..;omega
     have Hn:=Za hn;clear Hin Hout Hk ha ha3 hn;go_wp2_with fail;go_roundw
     case rel=>exact⟨10*a+(c-48),i+1,by simp;omega,by simp,by omega,Hn.out,Hk2,by trivial⟩
     case measure=>simp[intOf];omega
    ·have hI:¬(i:Int)<(s.size:Int):=by omega
     have hv:rv 0 s.data.toList=some a:=by rw[←Hk.out];exact ZhE s i a hlt
     have Hg2:=(Hg.out).trans (ZbM hv)
     have ha2:a<10000000000000000000:=by
      have h2:(10:Nat) ^ i≤10 ^ 19:=Nat.pow_le_pow_right (by decide) (by omega);have h3:(10:Nat) ^ 19=10000000000000000000:=by decide
      omega
     clear Hk hv Hg ha;by_cases f1:a<9223372036854775808
     ·have HR:=Za (ZjQ (Hg2.trans (Zj8 f1)));have g1:(a:Int)<9223372036854775808:=by omega
      clear Hg2 f1;go_wp2;go_ret2;exact⟨Za7 HR.out,rfl⟩
     ·have HR:=Za (ZbV (Hg2.trans (ZiE f1)));have g1:decide ((a:Int)<9223372036854775808)=false:=by simp;omega
      clear Hg2 f1;go_wp2;go_ret2;exact⟨Za7 HR.out,rfl⟩
  have q2:((c:Int)==48)=false:=by simpa using(show(c:Int)≠48 by omega)
  have Hg:=Za (hO.trans (Zd5 (by
   rintro(h|h|⟨h,_⟩)
   ·exact z0 h
   ·exact z1 h
   ·rw[ec]at h;omega)))
  clear hO z0 z1 hn ec z2;go_enter Tryz.func116,Tryz.ntmps116;go_wp2_with fail;clear hxd;go_loopw[6,7] (fun x v W=>∃a i:Nat,x= .int .u64 a∧v= .int .i64 i∧i≤s.size∧a<10 ^ i∧Hid (rv a (s.data.toList.drop i)=rv 0 s.data.toList)∧w=W) (fun _ v _=>s.size-(intOf v).toNat)
  case atStart=>exact⟨0,0,rfl,rfl,Nat.zero_le _,by decide,Za (by rw[List.drop_zero]),rfl⟩
  case round=>
   obtain⟨a,i,rfl,rfl,hi,ha,Hk,rfl⟩:=hrel;by_cases hlt:i<s.size
   ·have hI:(i:Int)<(s.size:Int):=by omega
    have ha2:=ZjP ha (by omega);have ha3:=Nat.mul_lt_mul_of_pos_right ha (show 0<10 by decide);rw[←Nat.pow_succ]at ha3;obtain⟨c,lc,ec⟩:=Zae s i;have hxi:=Zal s i hlt i rfl;have Hin:=Za (Znc s i a hlt);have Hout:=Za (ZjO s i a hlt);rw[ec]at hxi Hin Hout;clear ec;by_cases c1:c<48
    ·have j1:(c:Int)<48:=by omega
     have HR:=ZbV ((Hg.out).trans (Zam (by rw[←Hk.out];exact Hout.out (by omega))));have HR:=Za HR;clear Hin Hout Hk Hg ha ha3;go_wp2;go_ret2;exact⟨Za7 HR.out,rfl⟩
    have j1:decide ((c:Int)<48)=false:=by simp;omega
    by_cases c2:57<c
    ·have j2:57<(c:Int):=by omega
     have HR:=ZbV ((Hg.out).trans (Zam (by rw[←Hk.out];exact Hout.out (by omega))));have HR:=Za HR;clear Hin Hout Hk Hg ha ha3;go_wp2;go_ret2;exact⟨Za7 HR.out,rfl⟩
    have j2:decide (57<(c:Int))=false:=by simp;omega
    have c3:48≤c:=by omega
    have Hk2:Hid (rv (10*a+(c-48)) (s.data.toList.drop (i+1))=rv 0 s.data.toList):=by show _=_;rw[←Hk.out,Hin.out (by omega) (by omega),Int.toNat_natCast]
    have hn:10*a+(c-48)<10 ^ (i+1):=by have e:10 ^ (i+1)=10 ^ i*10:=Nat.pow_succ ..;omega
    have Hn:=Za hn;clear Hin Hout Hk ha ha3 hn;go_wp2_with fail;go_roundw
    case rel=>exact⟨10*a+(c-48),i+1,by simp;omega,by simp,by omega,Hn.out,Hk2,by trivial⟩
    case measure=>simp[intOf];omega
   ·have hI:¬(i:Int)<(s.size:Int):=by omega
    have hv:rv 0 s.data.toList=some a:=by rw[←Hk.out];exact ZhE s i a hlt
    have Hg2:=(Hg.out).trans (ZbM hv)
    have ha2:a<10000000000000000000:=by
     have h2:(10:Nat) ^ i≤10 ^ 19:=Nat.pow_le_pow_right (by decide) (by omega);have h3:(10:Nat) ^ 19=10000000000000000000:=by decide
     omega
    clear Hk hv Hg ha;by_cases f1:a<9223372036854775808
    ·have HR:=Za (ZjQ (Hg2.trans (Zj8 f1)));have g1:(a:Int)<9223372036854775808:=by omega
     clear Hg2 f1;go_wp2;go_ret2;exact⟨Za7 HR.out,rfl⟩
    ·have HR:=Za (ZbV (Hg2.trans (ZiE f1)));have g1:decide ((a:Int)<9223372036854775808)=false:=by simp;omega
     clear Hg2 f1;go_wp2;go_ret2;exact⟨Za7 HR.out,rfl⟩
end Go.Proofs.YtnnfhojhbbcbmaaGreatDoor
