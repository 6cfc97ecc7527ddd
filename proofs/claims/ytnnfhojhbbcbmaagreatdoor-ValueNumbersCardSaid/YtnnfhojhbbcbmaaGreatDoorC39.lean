/- The reference: Call (true, false, count, empty, exists, not, boolean). The reference: plus, numbers. -/
import Derived.Test.YtnnfhojhbbcbmaaGreatDoorC38
import Derived.Test.YtnnfhojhbbcbmaaGreatDoorC37
import Derived.Test.YtnnfhojhbbcbmaaGreatDoorC22
namespace Go.Proofs.YtnnfhojhbbcbmaaGreatDoor
open Go.RowKit
set_option maxRecDepth 100000 in
set_option maxHeartbeats 16000000 in
theorem Zcu(nm:List UInt8)(body:List Lst→List It×Int)(hG:(nm=[116,114,117,101]∧body=fun _=>([⟨4,bN true,⟨#[]⟩,0⟩],0))∨(nm=[102,97,108,115,101]∧body=fun _=>([⟨4,bN false,⟨#[]⟩,0⟩],0))∨(nm=[99,111,117,110,116]∧body=Zay Zbd)∨(nm=[101,109,112,116,121]∧body=Zay ZaI)∨(nm=[101,120,105,115,116,115]∧body=Zay Zaa)∨(nm=[110,111,116]∧body=Zay ZiF)∨(nm=[98,111,111,108,101,97,110]∧body=Zay ZaL))(p:Option Addr)(n c:Nat)(ls:List Lst)(w:World)(hr:Rd w p (ls.map Lst.v))(hok:OkAs w ls)(hR:∀x∈ls,∀y∈x.l,R64 y.num)(hsz:∀x∈ls,∀y∈x.l,y.text.size≤100000)(hL:∀x∈ls,x.l.length≤1000000)(hn:n=ls.length)(hnm:n≤1000):
  Calls Tryz.prog 37 #[.string ⟨nm.toArray⟩,.slice p n c] w (Res w (cR nm body ls).1 (cR nm body ls).2):=by
 have Hr:=Za hr;have Hok:=Za hok;have HR:=Za hR;have Hsz:=Za hsz;have HL:=Za hL;have Hn:=Za hn;obtain⟨JV,hJV⟩:∃x,x=cR nm body ls:=⟨_,rfl⟩;rw[←hJV];have HJV:Hid (JV=if rightL ls=true then(if knV nm n=true then body ls else([],241))else([],2)):=by show _=_;rw[hJV,hn];rfl
 have HG:=Za hG;clear hr hok hR hsz hL hn hJV hG;go_enter Tryz.func37,Tryz.ntmps37;go_wp2_with fail;go_loopw[6] (fun iv W=>∃k:Nat,k≤n∧iv= .int .i64 k∧Hid (∀x∈ls.take k,x.l.all okI=true)∧Below w.heap.size w W) (fun iv _=>n-(intOf iv).toNat)
 case atStart=>exact⟨0,Nat.zero_le _,rfl,Za (by simp),Below.refl _ _⟩
 case round=>
  obtain⟨k,hk,rfl,Hz,hB⟩:=hrel;by_cases hlt:k<n
  ·have hI:(k:Int)<(n:Int):=by omega
   obtain⟨x,hx⟩:∃x,ls[k]? =some x:=⟨_,List.getElem?_eq_getElem (by have:=Hn.out;omega)⟩;obtain⟨b1,off1,e1,hcz⟩:=(Hr.out.keep hB).cellAt k x.v (by simp[hx]);subst e1;have hix:=ZP b1 off1 n c k hlt;have Hx:=Za hx;have Hokx:=Za (Hok.out x (List.mem_of_getElem? hx));have Hmx:=Za (List.mem_of_getElem? hx);clear hx;obtain⟨xa,xl,xc⟩:=x;obtain⟨q,hq⟩:∃q,q=xl.length:=⟨_,rfl⟩;have hcx:wr.cell? ⟨b1,off1+k,none⟩=some (.slice xa q xc):=by rw[hq];exact hcz
   clear hcz;have Hq:=Za hq;clear hq;have hrt:=Za (Zt xa q xc xl wr ⟨Hokx.out.1.keep hB,Hokx.out.2⟩ Hq.out);rcases Bool.eq_false_or_eq_true (xl.all okI)with ha|ha
   ·rw[ha]at hrt
    have Hz2:Hid (∀x∈ls.take (k+1),x.l.all okI=true):=by
     show ∀x∈_,_;intro x hx;rw[List.take_add_one,Hx.out]at hx;rcases List.mem_append.1 hx with hx|hx
     ·exact Hz.out x hx
     ·simp at hx;subst hx;exact ha
    clear ha Hz;go_wp2_with fail;refine hrt.out.mono ?_;rintro e w4 ⟨rfl,hb4⟩;have hB4:=Zb hB hb4;clear hb4 hB hcx hix;go_wp2;go_roundw
    case rel=>exact⟨k+1,by omega,by simp,Hz2,hB4⟩
    case measure=>simp[intOf];omega
   ·rw[ha]at hrt;have HA:Hid (JV=([],2)):=by show _=_;rw[HJV.out,if_neg];intro h;unfold rightL at h;rw[List.all_eq_true]at h;have:=h _ Hmx.out;rw[ha]at this;cases this
    clear ha Hz;go_wp2_with fail;refine hrt.out.mono ?_;rintro e w4 ⟨rfl,hb4⟩;have hB4:=Zb hB hb4;clear hb4 hB hcx hix;go_wp2;go_ret2;exact⟨.slice none 0 0,by rw[HA.out];rfl,by rw[HA.out];exact OwI.nil _ _,hB4⟩
  ·have hI:¬(k:Int)<(n:Int):=by omega
   have hkn:k=n:=by omega
   subst hkn;have htk:ls.take k=ls:=List.take_of_length_le (by have:=Hn.out;omega);have hri:∀x∈ls,x.l.all okI=true:=by have:=Hz.out;rw[htk]at this;exact this
   have hrl:rightL ls=true:=by unfold rightL;rw[List.all_eq_true];exact hri
   rw[hrl,if_pos rfl]at HJV;have Hri:=Za hri;clear htk Hz hri hrl hk;go_wp2_with fail;rcases HG.out with⟨rfl,rfl⟩|⟨rfl,rfl⟩|⟨rfl,rfl⟩|⟨rfl,rfl⟩|⟨rfl,rfl⟩|⟨rfl,rfl⟩|⟨rfl,rfl⟩
   ·clear HG;rw[show knV [116,114,117,101] k=(decide (0≤k)&&decide (k≤0)) by exact Zi8 (by decide)]at HJV;refine(Zio _).mono ?_;rintro e w4 ⟨rfl,rfl⟩;by_cases hkv:0≤k∧k≤0
    ·have HJ:Hid (JV=(fun _=>([⟨4,bN true,⟨#[]⟩,0⟩],0)) ls):=by show _=_;rw[HJV.out,if_pos (by simp;omega)]
     have q1:¬(k:Int)<0:=by omega
     have q2:¬(0:Int)<(k:Int):=by omega
     clear HJV;have hk0:k=0:=by omega
     subst hk0;clear hkv;have HA9:Hid (JV=([⟨4,bN true,⟨#[]⟩,0⟩],0)):=by show _=_;rw[HJ.out];skip
     go_wp2_with fail;refine(ZT true _).mono ?_;rintro e w9 ⟨v9,rfl,ho9,hb9⟩;have Ho9:=Za (ho9.mono hB.size);have hB9:=Zb hB hb9;clear ho9 hb9 hB;go_wp2;go_ret2;exact⟨v9,by rw[HA9.out];rfl,by rw[HA9.out];exact Ho9.out,hB9⟩
    ·have HA:Hid (JV=([],241)):=by show _=_;rw[HJV.out,if_neg (by simp;omega)]
     clear HJV;have q1:¬(k:Int)<0:=by omega
     have q2:(0:Int)<(k:Int):=by omega
     clear hkv;go_wp2;go_ret2;exact⟨.slice none 0 0,by rw[HA.out];rfl,by rw[HA.out];exact OwI.nil _ _,hB⟩
   ·clear HG;rw[show knV [102,97,108,115,101] k=(decide (0≤k)&&decide (k≤0)) by exact Zi8 (by decide)]at HJV;refine(Zhs _).mono ?_;rintro e w4 ⟨rfl,rfl⟩;by_cases hkv:0≤k∧k≤0
    ·have HJ:Hid (JV=(fun _=>([⟨4,bN false,⟨#[]⟩,0⟩],0)) ls):=by show _=_;rw[HJV.out,if_pos (by simp;omega)]
     have q1:¬(k:Int)<0:=by omega
     have q2:¬(0:Int)<(k:Int):=by omega
     clear HJV;have hk0:k=0:=by omega
     subst hk0;clear hkv;have HA9:Hid (JV=([⟨4,bN false,⟨#[]⟩,0⟩],0)):=by show _=_;rw[HJ.out];skip
     go_wp2_with fail;refine(ZT false _).mono ?_;rintro e w9 ⟨v9,rfl,ho9,hb9⟩;have Ho9:=Za (ho9.mono hB.size);have hB9:=Zb hB hb9;clear ho9 hb9 hB;go_wp2;go_ret2;exact⟨v9,by rw[HA9.out];rfl,by rw[HA9.out];exact Ho9.out,hB9⟩
    ·have HA:Hid (JV=([],241)):=by show _=_;rw[HJV.out,if_neg (by simp;omega)]
     clear HJV;have q1:¬(k:Int)<0:=by omega
     have q2:(0:Int)<(k:Int):=by omega
     clear hkv;go_wp2;go_ret2;exact⟨.slice none 0 0,by rw[HA.out];rfl,by rw[HA.out];exact OwI.nil _ _,hB⟩
   ·clear HG;rw[show knV [99,111,117,110,116] k=(decide (1≤k)&&decide (k≤1)) by exact Zbg (by decide) (by decide)]at HJV;refine(Zht _).mono ?_;rintro e w4 ⟨rfl,rfl⟩;by_cases hkv:1≤k∧k≤1
    ·have HJ:Hid (JV=(Zay Zbd) ls):=by show _=_;rw[HJV.out,if_pos (by simp;omega)]
     have q1:¬(k:Int)<1:=by omega
     have q2:¬(1:Int)<(k:Int):=by omega
     clear HJV;have hk1:k=1:=by omega
     subst hk1;obtain⟨la,rfl⟩:=List.length_eq_one_iff.1 Hn.out.symm;obtain⟨b0,off0,e0,hcz⟩:=(Hr.out.keep hB).cellAt 0 la.v rfl;subst e0;rw[Nat.add_zero]at hcz;have hix0:=Zp b0 off0 1 c (by decide);have Hla:=Za (Hok.out la (by simp));have HlR:=Za (HR.out la (by simp));have HlS:=Za (Hsz.out la (by simp));have HlL:=Za (HL.out la (by simp));have Hlr:=Za (Hri.out la (by simp));obtain⟨aa,al,ac⟩:=la;obtain⟨q,hq⟩:∃q,q=al.length:=⟨_,rfl⟩;have hc0:wr.cell? ⟨b0,off0,none⟩=some (.slice aa q ac):=by rw[hq];exact hcz
     clear hcz;have Hq:=Za hq;have HlT:Hid (∀y∈al,y.kind=4→y.text=⟨#[]⟩):=fun y hy h4=>Zaf (List.all_eq_true.1 Hlr.out y hy) h4;clear hq hkv;have Hla2:=Za (show OkA wr ⟨aa,al,ac⟩from⟨Hla.out.1.keep hB,Hla.out.2⟩);have HA9:Hid (JV=([⟨2,(q:Int),⟨#[]⟩,0⟩],0)):=by show _=_;rw[HJ.out];show Zbd al=_;unfold Zbd;rw[Hq.out]
     go_wp2_with fail;refine(Z8 (q:Int) _).mono ?_;rintro e w9 ⟨v9,rfl,ho9,hb9⟩;have Ho9:=Za (ho9.mono hB.size);have hB9:=Zb hB hb9;clear ho9 hb9 hB;go_wp2;go_ret2;exact⟨v9,by rw[HA9.out];rfl,by rw[HA9.out];exact Ho9.out,hB9⟩
    ·have HA:Hid (JV=([],241)):=by show _=_;rw[HJV.out,if_neg (by simp;omega)]
     clear HJV;by_cases hc:k<1
     ·have q1:(k:Int)<1:=by omega
      clear hkv hc;go_wp2;go_ret2;exact⟨.slice none 0 0,by rw[HA.out];rfl,by rw[HA.out];exact OwI.nil _ _,hB⟩
     ·have q1:¬(k:Int)<1:=by omega
      have q2:(1:Int)<(k:Int):=by omega
      clear hkv hc;go_wp2;go_ret2;exact⟨.slice none 0 0,by rw[HA.out];rfl,by rw[HA.out];exact OwI.nil _ _,hB⟩
   ·clear HG;rw[show knV [101,109,112,116,121] k=(decide (1≤k)&&decide (k≤1)) by exact Zbg (by decide) (by decide)]at HJV;refine(Zhu _).mono ?_;rintro e w4 ⟨rfl,rfl⟩;by_cases hkv:1≤k∧k≤1
    ·have HJ:Hid (JV=(Zay ZaI) ls):=by show _=_;rw[HJV.out,if_pos (by simp;omega)]
     have q1:¬(k:Int)<1:=by omega
     have q2:¬(1:Int)<(k:Int):=by omega
     clear HJV;have hk1:k=1:=by omega
     subst hk1;obtain⟨la,rfl⟩:=List.length_eq_one_iff.1 Hn.out.symm;obtain⟨b0,off0,e0,hcz⟩:=(Hr.out.keep hB).cellAt 0 la.v rfl;subst e0;rw[Nat.add_zero]at hcz;have hix0:=Zp b0 off0 1 c (by decide);have Hla:=Za (Hok.out la (by simp));have HlR:=Za (HR.out la (by simp));have HlS:=Za (Hsz.out la (by simp));have HlL:=Za (HL.out la (by simp));have Hlr:=Za (Hri.out la (by simp));obtain⟨aa,al,ac⟩:=la;obtain⟨q,hq⟩:∃q,q=al.length:=⟨_,rfl⟩;have hc0:wr.cell? ⟨b0,off0,none⟩=some (.slice aa q ac):=by rw[hq];exact hcz
     clear hcz;have Hq:=Za hq;have HlT:Hid (∀y∈al,y.kind=4→y.text=⟨#[]⟩):=fun y hy h4=>Zaf (List.all_eq_true.1 Hlr.out y hy) h4;clear hq hkv;have Hla2:=Za (show OkA wr ⟨aa,al,ac⟩from⟨Hla.out.1.keep hB,Hla.out.2⟩);by_cases hz:q=0
     ·have hz1:(q:Int)=0:=by omega
      have hz2:((q:Int)==0)=true:=by simpa using hz1
      have HA9:Hid (JV=([⟨4,bN true,⟨#[]⟩,0⟩],0)):=by show _=_;rw[HJ.out];show ZaI al=_;unfold ZaI;rw[←Hq.out,decide_eq_true hz]<;>rfl
      have Hzz:=Za hz1;clear hz hz1;go_wp2_with fail;refine(ZT true _).mono ?_;rintro e w9 ⟨v9,rfl,ho9,hb9⟩;have Ho9:=Za (ho9.mono hB.size);have hB9:=Zb hB hb9;clear ho9 hb9 hB;go_wp2;go_ret2;exact⟨v9,by rw[HA9.out];rfl,by rw[HA9.out];exact Ho9.out,hB9⟩
     ·have hz1:¬(q:Int)=0:=by omega
      have hz2:((q:Int)==0)=false:=by simpa using hz1
      have HA9:Hid (JV=([⟨4,bN false,⟨#[]⟩,0⟩],0)):=by show _=_;rw[HJ.out];show ZaI al=_;unfold ZaI;rw[←Hq.out,decide_eq_false hz]<;>rfl
      clear hz;go_wp2_with fail;refine(ZT false _).mono ?_;rintro e w9 ⟨v9,rfl,ho9,hb9⟩;have Ho9:=Za (ho9.mono hB.size);have hB9:=Zb hB hb9;clear ho9 hb9 hB;go_wp2;go_ret2;exact⟨v9,by rw[HA9.out];rfl,by rw[HA9.out];exact Ho9.out,hB9⟩
    ·have HA:Hid (JV=([],241)):=by show _=_;rw[HJV.out,if_neg (by simp;omega)]
     clear HJV;by_cases hc:k<1
     ·have q1:(k:Int)<1:=by omega
      clear hkv hc;go_wp2;go_ret2;exact⟨.slice none 0 0,by rw[HA.out];rfl,by rw[HA.out];exact OwI.nil _ _,hB⟩
     ·have q1:¬(k:Int)<1:=by omega
      have q2:(1:Int)<(k:Int):=by omega
      clear hkv hc;go_wp2;go_ret2;exact⟨.slice none 0 0,by rw[HA.out];rfl,by rw[HA.out];exact OwI.nil _ _,hB⟩
   ·clear HG;rw[show knV [101,120,105,115,116,115] k=(decide (1≤k)&&decide (k≤1)) by exact Zbg (by decide) (by decide)]at HJV;refine(Zgo _).mono ?_;rintro e w4 ⟨rfl,rfl⟩;by_cases hkv:1≤k∧k≤1
    ·have HJ:Hid (JV=(Zay Zaa) ls):=by show _=_;rw[HJV.out,if_pos (by simp;omega)]
     have q1:¬(k:Int)<1:=by omega
     have q2:¬(1:Int)<(k:Int):=by omega
     clear HJV;have hk1:k=1:=by omega
     subst hk1;obtain⟨la,rfl⟩:=List.length_eq_one_iff.1 Hn.out.symm;obtain⟨b0,off0,e0,hcz⟩:=(Hr.out.keep hB).cellAt 0 la.v rfl;subst e0;rw[Nat.add_zero]at hcz;have hix0:=Zp b0 off0 1 c (by decide);have Hla:=Za (Hok.out la (by simp));have HlR:=Za (HR.out la (by simp));have HlS:=Za (Hsz.out la (by simp));have HlL:=Za (HL.out la (by simp));have Hlr:=Za (Hri.out la (by simp));obtain⟨aa,al,ac⟩:=la;obtain⟨q,hq⟩:∃q,q=al.length:=⟨_,rfl⟩;have hc0:wr.cell? ⟨b0,off0,none⟩=some (.slice aa q ac):=by rw[hq];exact hcz
     clear hcz;have Hq:=Za hq;have HlT:Hid (∀y∈al,y.kind=4→y.text=⟨#[]⟩):=fun y hy h4=>Zaf (List.all_eq_true.1 Hlr.out y hy) h4;clear hq hkv;have Hla2:=Za (show OkA wr ⟨aa,al,ac⟩from⟨Hla.out.1.keep hB,Hla.out.2⟩);by_cases hz:q=0
     ·have hz1:(q:Int)=0:=by omega
      have hz2:((q:Int)==0)=true:=by simpa using hz1
      have HA9:Hid (JV=([⟨4,bN false,⟨#[]⟩,0⟩],0)):=by show _=_;rw[HJ.out];show Zaa al=_;unfold Zaa;rw[←Hq.out,decide_eq_true hz]<;>rfl
      have Hzz:=Za hz1;clear hz hz1;go_wp2_with fail;refine(ZT false _).mono ?_;rintro e w9 ⟨v9,rfl,ho9,hb9⟩;have Ho9:=Za (ho9.mono hB.size);have hB9:=Zb hB hb9;clear ho9 hb9 hB;go_wp2;go_ret2;exact⟨v9,by rw[HA9.out];rfl,by rw[HA9.out];exact Ho9.out,hB9⟩
     ·have hz1:¬(q:Int)=0:=by omega
      have hz2:((q:Int)==0)=false:=by simpa using hz1
      have HA9:Hid (JV=([⟨4,bN true,⟨#[]⟩,0⟩],0)):=by show _=_;rw[HJ.out];show Zaa al=_;unfold Zaa;rw[←Hq.out,decide_eq_false hz]<;>rfl
      clear hz;go_wp2_with fail;refine(ZT true _).mono ?_;rintro e w9 ⟨v9,rfl,ho9,hb9⟩;have Ho9:=Za (ho9.mono hB.size);have hB9:=Zb hB hb9;clear ho9 hb9 hB;go_wp2;go_ret2;exact⟨v9,by rw[HA9.out];rfl,by rw[HA9.out];exact Ho9.out,hB9⟩
    ·have HA:Hid (JV=([],241)):=by show _=_;rw[HJV.out,if_neg (by simp;omega)]
     clear HJV;by_cases hc:k<1
     ·have q1:(k:Int)<1:=by omega
      clear hkv hc;go_wp2;go_ret2;exact⟨.slice none 0 0,by rw[HA.out];rfl,by rw[HA.out];exact OwI.nil _ _,hB⟩
     ·have q1:¬(k:Int)<1:=by omega
      have q2:(1:Int)<(k:Int):=by omega
      clear hkv hc;go_wp2;go_ret2;exact⟨.slice none 0 0,by rw[HA.out];rfl,by rw[HA.out];exact OwI.nil _ _,hB⟩
   ·clear HG;rw[show knV [110,111,116] k=(decide (1≤k)&&decide (k≤1)) by exact Zbg (by decide) (by decide)]at HJV;refine(Zjq _).mono ?_;rintro e w4 ⟨rfl,rfl⟩;by_cases hkv:1≤k∧k≤1
    ·have HJ:Hid (JV=(Zay ZiF) ls):=by show _=_;rw[HJV.out,if_pos (by simp;omega)]
     have q1:¬(k:Int)<1:=by omega
     have q2:¬(1:Int)<(k:Int):=by omega
     clear HJV;have hk1:k=1:=by omega
     subst hk1;obtain⟨la,rfl⟩:=List.length_eq_one_iff.1 Hn.out.symm;obtain⟨b0,off0,e0,hcz⟩:=(Hr.out.keep hB).cellAt 0 la.v rfl;subst e0;rw[Nat.add_zero]at hcz;have hix0:=Zp b0 off0 1 c (by decide);have Hla:=Za (Hok.out la (by simp));have HlR:=Za (HR.out la (by simp));have HlS:=Za (Hsz.out la (by simp));have HlL:=Za (HL.out la (by simp));have Hlr:=Za (Hri.out la (by simp));obtain⟨aa,al,ac⟩:=la;obtain⟨q,hq⟩:∃q,q=al.length:=⟨_,rfl⟩;have hc0:wr.cell? ⟨b0,off0,none⟩=some (.slice aa q ac):=by rw[hq];exact hcz
     clear hcz;have Hq:=Za hq;have HlT:Hid (∀y∈al,y.kind=4→y.text=⟨#[]⟩):=fun y hy h4=>Zaf (List.all_eq_true.1 Hlr.out y hy) h4;clear hq hkv;have Hla2:=Za (show OkA wr ⟨aa,al,ac⟩from⟨Hla.out.1.keep hB,Hla.out.2⟩);have hcon:=Za (Zdi aa q ac al wr Hla2.out Hq.out);have HF:Hid (JV=if (truthV al).2=0 then([⟨4,bN (!(truthV al).1),⟨#[]⟩,0⟩],0)else([],(truthV al).2)):=by exact HJ.out.trans rfl
     generalize truthV al=tv at*;obtain⟨tb,te⟩:=tv;dsimp only at hcon HF;by_cases hz:te=0
     ·subst hz;rw[if_pos rfl]at HF;go_wp2_with fail;refine hcon.out.mono ?_;rintro e w8 ⟨rfl,hb8⟩;have hB8:=Zb hB hb8;clear hb8 hB hc0;cases tb with
      |true=>
       have HA9:Hid (JV=([⟨4,bN false,⟨#[]⟩,0⟩],0)):=by exact HF.out.trans rfl
       go_wp2_with fail;refine(ZT false _).mono ?_;rintro e w9 ⟨v9,rfl,ho9,hb9⟩;have Ho9:=Za (ho9.mono hB8.size);have hB9:=Zb hB8 hb9;clear ho9 hb9 hB8;go_wp2;go_ret2;exact⟨v9,by rw[HA9.out];rfl,by rw[HA9.out];exact Ho9.out,hB9⟩
      |false=>
       have HA9:Hid (JV=([⟨4,bN true,⟨#[]⟩,0⟩],0)):=by exact HF.out.trans rfl
       go_wp2_with fail;refine(ZT true _).mono ?_;rintro e w9 ⟨v9,rfl,ho9,hb9⟩;have Ho9:=Za (ho9.mono hB8.size);have hB9:=Zb hB8 hb9;clear ho9 hb9 hB8;go_wp2;go_ret2;exact⟨v9,by rw[HA9.out];rfl,by rw[HA9.out];exact Ho9.out,hB9⟩
     ·have hz1:(te != 0)=true:=by simpa using hz
      rw[if_neg hz]at HF;clear hz;go_wp2_with fail;refine hcon.out.mono ?_;rintro e w8 ⟨rfl,hb8⟩;have hB8:=Zb hB hb8;clear hb8 hB hc0;go_wp2;go_ret2;exact⟨.slice none 0 0,by rw[HF.out];rfl,by rw[HF.out];exact OwI.nil _ _,hB8⟩
    ·have HA:Hid (JV=([],241)):=by show _=_;rw[HJV.out,if_neg (by simp;omega)]
     clear HJV;by_cases hc:k<1
     ·have q1:(k:Int)<1:=by omega
      clear hkv hc;go_wp2;go_ret2;exact⟨.slice none 0 0,by rw[HA.out];rfl,by rw[HA.out];exact OwI.nil _ _,hB⟩
     ·have q1:¬(k:Int)<1:=by omega
      have q2:(1:Int)<(k:Int):=by omega
      clear hkv hc;go_wp2;go_ret2;exact⟨.slice none 0 0,by rw[HA.out];rfl,by rw[HA.out];exact OwI.nil _ _,hB⟩
   ·clear HG;rw[show knV [98,111,111,108,101,97,110] k=(decide (1≤k)&&decide (k≤1)) by exact Zbg (by decide) (by decide)]at HJV;refine(ZeN _).mono ?_;rintro e w4 ⟨rfl,rfl⟩;by_cases hkv:1≤k∧k≤1
    ·have HJ:Hid (JV=(Zay ZaL) ls):=by show _=_;rw[HJV.out,if_pos (by simp;omega)]
     have q1:¬(k:Int)<1:=by omega
     have q2:¬(1:Int)<(k:Int):=by omega
     clear HJV;have hk1:k=1:=by omega
     subst hk1;obtain⟨la,rfl⟩:=List.length_eq_one_iff.1 Hn.out.symm;obtain⟨b0,off0,e0,hcz⟩:=(Hr.out.keep hB).cellAt 0 la.v rfl;subst e0;rw[Nat.add_zero]at hcz;have hix0:=Zp b0 off0 1 c (by decide);have Hla:=Za (Hok.out la (by simp));have HlR:=Za (HR.out la (by simp));have HlS:=Za (Hsz.out la (by simp));have HlL:=Za (HL.out la (by simp));have Hlr:=Za (Hri.out la (by simp));obtain⟨aa,al,ac⟩:=la;obtain⟨q,hq⟩:∃q,q=al.length:=⟨_,rfl⟩;have hc0:wr.cell? ⟨b0,off0,none⟩=some (.slice aa q ac):=by rw[hq];exact hcz
     clear hcz;have Hq:=Za hq;have HlT:Hid (∀y∈al,y.kind=4→y.text=⟨#[]⟩):=fun y hy h4=>Zaf (List.all_eq_true.1 Hlr.out y hy) h4;clear hq hkv;have Hla2:=Za (show OkA wr ⟨aa,al,ac⟩from⟨Hla.out.1.keep hB,Hla.out.2⟩);have hcon:=Za (Zdi aa q ac al wr Hla2.out Hq.out);have HF:Hid (JV=if (truthV al).2=0 then([⟨4,bN ((truthV al).1),⟨#[]⟩,0⟩],0)else([],(truthV al).2)):=by exact HJ.out.trans rfl
     generalize truthV al=tv at*;obtain⟨tb,te⟩:=tv;dsimp only at hcon HF;by_cases hz:te=0
     ·subst hz;rw[if_pos rfl]at HF;go_wp2_with fail;refine hcon.out.mono ?_;rintro e w8 ⟨rfl,hb8⟩;have hB8:=Zb hB hb8;clear hb8 hB hc0;cases tb with
      |true=>
       have HA9:Hid (JV=([⟨4,bN true,⟨#[]⟩,0⟩],0)):=by exact HF.out.trans rfl
       go_wp2_with fail;refine(ZT true _).mono ?_;rintro e w9 ⟨v9,rfl,ho9,hb9⟩;have Ho9:=Za (ho9.mono hB8.size);have hB9:=Zb hB8 hb9;clear ho9 hb9 hB8;go_wp2;go_ret2;exact⟨v9,by rw[HA9.out];rfl,by rw[HA9.out];exact Ho9.out,hB9⟩
      |false=>
       have HA9:Hid (JV=([⟨4,bN false,⟨#[]⟩,0⟩],0)):=by exact HF.out.trans rfl
       go_wp2_with fail;refine(ZT false _).mono ?_;rintro e w9 ⟨v9,rfl,ho9,hb9⟩;have Ho9:=Za (ho9.mono hB8.size);have hB9:=Zb hB8 hb9;clear ho9 hb9 hB8;go_wp2;go_ret2;exact⟨v9,by rw[HA9.out];rfl,by rw[HA9.out];exact Ho9.out,hB9⟩
     ·have hz1:(te != 0)=true:=by simpa using hz
      rw[if_neg hz]at HF;clear hz;go_wp2_with fail;refine hcon.out.mono ?_;rintro e w8 ⟨rfl,hb8⟩;have hB8:=Zb hB hb8;clear hb8 hB hc0;go_wp2;go_ret2;exact⟨.slice none 0 0,by rw[HF.out];rfl,by rw[HF.out];exact OwI.nil _ _,hB8⟩
    ·have HA:Hid (JV=([],241)):=by show _=_;rw[HJV.out,if_neg (by simp;omega)]
     clear HJV;by_cases hc:k<1
     ·have q1:(k:Int)<1:=by omega
      clear hkv hc;go_wp2;go_ret2;exact⟨.slice none 0 0,by rw[HA.out];rfl,by rw[HA.out];exact OwI.nil _ _,hB⟩
     ·have q1:¬(k:Int)<1:=by omega
      have q2:(1:Int)<(k:Int):=by omega
      clear hkv hc;go_wp2;go_ret2;exact⟨.slice none 0 0,by rw[HA.out];rfl,by rw[HA.out];exact OwI.nil _ _,hB⟩
end Go.Proofs.YtnnfhojhbbcbmaaGreatDoor
namespace Go.Proofs.YtnnfhojhbbcbmaaGreatDoor
set_option maxRecDepth 100000
set_option maxHeartbeats 4000000
open Go.RowKit
theorem Zlx {a b c:Int}(ha:R64 a)(hb:R64 b)(hc:c=wrap64 (a+b)):(decide (a<c)==decide (0<b))=fit (a+b):=by
 unfold R64 at ha hb;subst hc;by_cases hf:fit (a+b)=true
 ·have h1:=hf;unfold fit at h1;have h2: -9223372036854775808≤a+b∧a+b≤9223372036854775807:=of_decide_eq_true h1;have hw:wrap64 (a+b)=a+b:=by unfold wrap64;omega
  rw[hf,hw];by_cases h0:0<b
  ·rw[decide_eq_true (show a<a+b by omega),decide_eq_true h0];rfl
  ·rw[decide_eq_false (show ¬a<a+b by omega),decide_eq_false h0];rfl
 ·have h1:fit (a+b)=false:=by simpa using hf
  have h2:¬(-9223372036854775808≤a+b∧a+b≤9223372036854775807):=by unfold fit at h1;exact of_decide_eq_false h1
  rw[h1];by_cases h0:0<b
  ·have hw:wrap64 (a+b)=a+b-18446744073709551616:=by unfold wrap64;omega
   rw[hw,decide_eq_false (show ¬a<a+b-18446744073709551616 by omega),decide_eq_true h0];rfl
  ·have hw:wrap64 (a+b)=a+b+18446744073709551616:=by unfold wrap64;omega
   rw[hw,decide_eq_true (show a<a+b+18446744073709551616 by omega),decide_eq_false h0];rfl
theorem Zly(a b:Int)(ha:R64 a)(hb:R64 b)(w:World):Calls Tryz.prog 117 #[.int .i64 a,.int .i64 b] w fun e w'=>e= .returned (.tuple #[.int .i64 (ZC a b).1,.bool (ZC a b).2])∧w=w':=by
 obtain⟨c,hc⟩:∃c,c=wrap64 (a+b):=⟨_,rfl⟩;have hp:=Za (Zlx ha hb hc);show Calls _ _ _ _ fun e w'=>e= .returned (.tuple #[.int .i64 (wrap64 (a+b)),.bool (fit (a+b))])∧w=w';have hc2:IntKind.i64.wrap (a+b)=c:=by rw[IntKind.wrap_i64,hc];unfold wrap64;omega
 have hc3:(a+b+9223372036854775808) % 18446744073709551616-9223372036854775808=c:=by rw[hc];unfold wrap64;omega
 rw[←hc,←hp.out];clear hp;have Hc:=Za hc;clear hc ha hb;go_enter Tryz.func117,Tryz.ntmps117;go_wp2;go_ret2;exact⟨rfl,rfl⟩
theorem Zhv(p:Option Addr)(n c:Nat)(l:List It)(w:World)(ha:OkA w ⟨p,l,c⟩)(hT:∀y∈l,y.kind=4→y.text=⟨#[]⟩)(hR:∀y∈l,R64 y.num)(hn:n=l.length)(hl:0<n):
  Calls Tryz.prog 81 #[.string ⟨#[115,117,109]⟩,.slice p n c] w (Res w (numR ZC l).1 (numR ZC l).2):=by
 have Ha:=Za ha;have Hn:=Za hn;have HR:=Za hR;have HT:=Za hT;have hnl:n<9223372036854775807:=by rw[hn];exact ha.2.2
 have hl0:(0:Int)<(n:Int):=by omega
 clear ha hn hR hT;go_enter Tryz.func81,Tryz.ntmps81;go_wp2_with fail;go_loopw[7,8] (fun v iv W=>∃(acc:Int) (k:Nat),k≤n∧v= .int .i64 acc∧iv= .int .i64 k∧Hid (ZaO ZC (decide (k=0)) acc (l.drop k)=ZaO ZC true 0 l)∧R64 acc∧Hid (k=0→acc=0)∧Below w.heap.size w W) (fun _ iv _=>n-(intOf iv).toNat)
 case atStart=>exact⟨0,0,Nat.zero_le _,rfl,rfl,Za rfl,by unfold R64;decide,Za (fun _=>rfl),Below.refl _ _⟩
 case round=>
  obtain⟨acc,k,hk,rfl,rfl,Hk,hA,H0,hB⟩:=hrel;have HA:=Za hA;clear hA;by_cases hlt:k<n
  ·have hI:(k:Int)<(n:Int):=by omega
   obtain⟨x,hx⟩:∃x,l[k]? =some x:=⟨_,List.getElem?_eq_getElem (by have:=Hn.out;omega)⟩;obtain⟨b1,off1,e1,c0,c1,c2,c3⟩:=(Ha.out.1.keep hB).at k x hx;dsimp only at e1;subst e1;have hs1:=Ha.out.2.1 x (List.mem_of_getElem? hx);have hix:=Zr b1 off1 n c k hlt;have Hst:=Za (ZbU l k x hx);have HxR:=Za (HR.out x (List.mem_of_getElem? hx));have HxT:=Za (HT.out x (List.mem_of_getElem? hx));clear hx;obtain⟨xk,xa,xt,xd⟩:=x;dsimp only at c0 c1 c2 c3 hs1;go_wp2_with fail;refine(Zy xk xa xd xt _ HxT.out hs1).mono ?_;rintro e w1 ⟨rfl,hb1⟩;have hB3:=Zb hB hb1;have HnR:=Za (ZgO (x:=⟨xk,xa,xt,xd⟩) HxR.out);clear hb1 c0 c1 c2 c3 hB hix;rw[Hst.out]at Hk;have Hk2:Hid ((if nE ⟨xk,xa,xt,xd⟩=0 then(if decide (k=0)=true then ZaO ZC false (nV ⟨xk,xa,xt,xd⟩) (l.drop (k+1))else if (ZC acc (nV ⟨xk,xa,xt,xd⟩)).2=true then ZaO ZC false (ZC acc (nV ⟨xk,xa,xt,xd⟩)).1 (l.drop (k+1))else(0,251))else(0,nE ⟨xk,xa,xt,xd⟩))=ZaO ZC true 0 l):=Hk.out;clear Hk Hst;generalize nV ⟨xk,xa,xt,xd⟩=nv at*;generalize nE ⟨xk,xa,xt,xd⟩=ne at*;by_cases hz:ne=0
   ·subst hz
    have Hk3:Hid ((if (ZC acc nv).2=true then ZaO ZC false (ZC acc nv).1 (l.drop (k+1))else(0,251))=ZaO ZC true 0 l):=by
     show _=_;rw[←Hk2.out,if_pos (rfl:(0:Int)=0)];by_cases hk0:k=0
     ·have h0:=H0.out hk0;have hr:=HnR.out;unfold R64 at hr;have e1:(ZC acc nv).2=true:=by rw[h0];show fit (0+nv)=true;unfold fit;rw[decide_eq_true];omega
      have e2:(ZC acc nv).1=nv:=by rw[h0];show wrap64 (0+nv)=nv;unfold wrap64;omega
      rw[if_pos e1,if_pos (by simpa using hk0),e2]
     ·rw[if_neg (c:=decide (k=0)=true) (by simpa using hk0)]
    clear Hk2;go_wp2_with fail;refine(Zly acc nv HA.out HnR.out _).mono ?_;rintro e w2 ⟨rfl,rfl⟩;rcases Bool.eq_false_or_eq_true (ZC acc nv).2 with hf|hf
    ·have Hk4:Hid (ZaO ZC (decide (k+1=0)) (ZC acc nv).1 (l.drop (k+1))=ZaO ZC true 0 l):=by show _=_;rw[←Hk3.out,if_pos hf];rfl
     have HmR:Hid (R64 (ZC acc nv).1):=ZeA _;rw[hf];generalize (ZC acc nv).1=r1 at*;clear Hk3 hf;go_wp2;go_roundw
     case rel=>exact⟨r1,k+1,by omega,rfl,by simp,Hk4,HmR.out,Za (fun h=>absurd h (Nat.succ_ne_zero k)),hB3⟩
     case measure=>simp[intOf];omega
    ·have HX:Hid (numR ZC l=([],251)):=Zcg (v:=0) (by rw[←Hk3.out,if_neg (by rw[hf];decide)]) (by decide);rw[hf];generalize (ZC acc nv).1=r1 at*;clear Hk3 hf;go_wp2;go_ret2;exact⟨.slice none 0 0,by rw[HX.out];rfl,by rw[HX.out];exact OwI.nil _ _,hB3⟩
   ·have hz1:(ne != 0)=true:=by simpa using hz
    have HX:Hid (numR ZC l=([],ne)):=Zcg (v:=0) (by rw[←Hk2.out];exact if_neg hz) hz;clear Hk2 hz;go_wp2;go_ret2;exact⟨.slice none 0 0,by rw[HX.out];rfl,by rw[HX.out];exact OwI.nil _ _,hB3⟩
  ·have hI:¬(k:Int)<(n:Int):=by omega
   have HX:Hid (numR ZC l=([⟨2,acc,⟨#[]⟩,0⟩],0)):=Zfu (by rw[←Hk.out,List.drop_eq_nil_of_le (by have:=Hn.out;omega)];rfl);clear Hk;go_wp2_with fail;refine(Z8 acc _).mono ?_;rintro e w2 ⟨v,rfl,ho,hb2⟩;have Ho:=Za (ho.mono hB.size);have hB3:=Zb hB hb2;clear ho hb2;go_wp2;go_ret2;exact⟨v,by rw[HX.out];rfl,by rw[HX.out];exact Ho.out,hB3⟩
theorem Zhw(p:Option Addr)(n c:Nat)(l:List It)(w:World)(ha:OkA w ⟨p,l,c⟩)(hT:∀y∈l,y.kind=4→y.text=⟨#[]⟩)(hR:∀y∈l,R64 y.num)(hn:n=l.length)(hl:0<n):
  Calls Tryz.prog 81 #[.string ⟨#[109,105,110]⟩,.slice p n c] w (Res w (numR opLeast l).1 (numR opLeast l).2):=by
 have Ha:=Za ha;have Hn:=Za hn;have HR:=Za hR;have HT:=Za hT;have hnl:n<9223372036854775807:=by rw[hn];exact ha.2.2
 have hl0:(0:Int)<(n:Int):=by omega
 clear ha hn hR hT;go_enter Tryz.func81,Tryz.ntmps81;go_wp2_with fail;go_loopw[7,8] (fun v iv W=>∃(acc:Int) (k:Nat),k≤n∧v= .int .i64 acc∧iv= .int .i64 k∧Hid (ZaO opLeast (decide (k=0)) acc (l.drop k)=ZaO opLeast true 0 l)∧R64 acc∧Hid (k=0→acc=0)∧Below w.heap.size w W) (fun _ iv _=>n-(intOf iv).toNat)
 case atStart=>exact⟨0,0,Nat.zero_le _,rfl,rfl,Za rfl,by unfold R64;decide,Za (fun _=>rfl),Below.refl _ _⟩
 case round=>
  obtain⟨acc,k,hk,rfl,rfl,Hk,hA,H0,hB⟩:=hrel;have HA:=Za hA;clear hA;by_cases hlt:k<n
  ·have hI:(k:Int)<(n:Int):=by omega
   obtain⟨x,hx⟩:∃x,l[k]? =some x:=⟨_,List.getElem?_eq_getElem (by have:=Hn.out;omega)⟩;obtain⟨b1,off1,e1,c0,c1,c2,c3⟩:=(Ha.out.1.keep hB).at k x hx;dsimp only at e1;subst e1;have hs1:=Ha.out.2.1 x (List.mem_of_getElem? hx);have hix:=Zr b1 off1 n c k hlt;have Hst:=Za (ZbU l k x hx);have HxR:=Za (HR.out x (List.mem_of_getElem? hx));have HxT:=Za (HT.out x (List.mem_of_getElem? hx));clear hx;obtain⟨xk,xa,xt,xd⟩:=x;dsimp only at c0 c1 c2 c3 hs1;go_wp2_with fail;refine(Zy xk xa xd xt _ HxT.out hs1).mono ?_;rintro e w1 ⟨rfl,hb1⟩;have hB3:=Zb hB hb1;have HnR:=Za (ZgO (x:=⟨xk,xa,xt,xd⟩) HxR.out);clear hb1 c0 c1 c2 c3 hB hix;rw[Hst.out]at Hk;have Hk2:Hid ((if nE ⟨xk,xa,xt,xd⟩=0 then(if decide (k=0)=true then ZaO opLeast false (nV ⟨xk,xa,xt,xd⟩) (l.drop (k+1))else if (opLeast acc (nV ⟨xk,xa,xt,xd⟩)).2=true then ZaO opLeast false (opLeast acc (nV ⟨xk,xa,xt,xd⟩)).1 (l.drop (k+1))else(0,251))else(0,nE ⟨xk,xa,xt,xd⟩))=ZaO opLeast true 0 l):=Hk.out;clear Hk Hst;generalize nV ⟨xk,xa,xt,xd⟩=nv at*;generalize nE ⟨xk,xa,xt,xd⟩=ne at*;by_cases hz:ne=0
   ·subst hz;obtain⟨r1,hr1⟩:∃r,r=if k=0 then nv else(opLeast acc nv).1:=⟨_,rfl⟩
    have Hk3:Hid (ZaO opLeast (decide (k+1=0)) r1 (l.drop (k+1))=ZaO opLeast true 0 l):=by
     show _=_;rw[←Hk2.out,if_pos (rfl:(0:Int)=0),hr1];by_cases hk0:k=0
     ·rw[if_pos hk0,if_pos (c:=decide (k=0)=true) (by simpa using hk0)];rfl
     ·rw[if_neg hk0,if_neg (c:=decide (k=0)=true) (by simpa using hk0),if_pos (c:=(opLeast acc nv).2=true) rfl];rfl
    have HmR:Hid (R64 r1):=by
     show R64 r1;rw[hr1];split
     ·exact HnR.out
     ·exact Zow HA.out HnR.out
    clear Hk2;by_cases hk0:k=0
    ·have e1:r1=nv:=by rw[hr1,if_pos hk0]
     subst e1;have hk1:(k:Int)=0:=by omega
     have hk2:((k:Int)==0)=true:=by simpa using hk1
     have Hkk:=Za hk0;clear hr1 hk1 hk0 H0;go_wp2;go_roundw
     case rel=>exact⟨r1,k+1,by omega,rfl,by simp,Hk3,HmR.out,Za (fun h=>absurd h (Nat.succ_ne_zero k)),hB3⟩
     case measure=>simp[intOf];omega
    ·have hk1:¬(k:Int)=0:=by omega
     have hk2:((k:Int)==0)=false:=by simpa using hk1
     by_cases hm:(nv<acc)
     ·have e1:r1=nv:=by rw[hr1,if_neg hk0];show(min acc nv)=nv;omega
      subst e1;clear hr1 hk0 H0;go_wp2;go_roundw
      case rel=>exact⟨r1,k+1,by omega,rfl,by simp,Hk3,HmR.out,Za (fun h=>absurd h (Nat.succ_ne_zero k)),hB3⟩
      case measure=>simp[intOf];omega
     ·have e1:r1=acc:=by rw[hr1,if_neg hk0];show(min acc nv)=acc;omega
      subst e1;clear hr1 hk0 H0;go_wp2;go_roundw
      case rel=>exact⟨r1,k+1,by omega,rfl,by simp,Hk3,HmR.out,Za (fun h=>absurd h (Nat.succ_ne_zero k)),hB3⟩
      case measure=>simp[intOf];omega
   ·have hz1:(ne != 0)=true:=by simpa using hz
    have HX:Hid (numR opLeast l=([],ne)):=Zcg (v:=0) (by rw[←Hk2.out];exact if_neg hz) hz;clear Hk2 hz;go_wp2;go_ret2;exact⟨.slice none 0 0,by rw[HX.out];rfl,by rw[HX.out];exact OwI.nil _ _,hB3⟩
  ·have hI:¬(k:Int)<(n:Int):=by omega
   have HX:Hid (numR opLeast l=([⟨2,acc,⟨#[]⟩,0⟩],0)):=Zfu (by rw[←Hk.out,List.drop_eq_nil_of_le (by have:=Hn.out;omega)];rfl);clear Hk;go_wp2_with fail;refine(Z8 acc _).mono ?_;rintro e w2 ⟨v,rfl,ho,hb2⟩;have Ho:=Za (ho.mono hB.size);have hB3:=Zb hB hb2;clear ho hb2;go_wp2;go_ret2;exact⟨v,by rw[HX.out];rfl,by rw[HX.out];exact Ho.out,hB3⟩
theorem Zhx(p:Option Addr)(n c:Nat)(l:List It)(w:World)(ha:OkA w ⟨p,l,c⟩)(hT:∀y∈l,y.kind=4→y.text=⟨#[]⟩)(hR:∀y∈l,R64 y.num)(hn:n=l.length)(hl:0<n):
  Calls Tryz.prog 81 #[.string ⟨#[109,97,120]⟩,.slice p n c] w (Res w (numR opMost l).1 (numR opMost l).2):=by
 have Ha:=Za ha;have Hn:=Za hn;have HR:=Za hR;have HT:=Za hT;have hnl:n<9223372036854775807:=by rw[hn];exact ha.2.2
 have hl0:(0:Int)<(n:Int):=by omega
 clear ha hn hR hT;go_enter Tryz.func81,Tryz.ntmps81;go_wp2_with fail;go_loopw[7,8] (fun v iv W=>∃(acc:Int) (k:Nat),k≤n∧v= .int .i64 acc∧iv= .int .i64 k∧Hid (ZaO opMost (decide (k=0)) acc (l.drop k)=ZaO opMost true 0 l)∧R64 acc∧Hid (k=0→acc=0)∧Below w.heap.size w W) (fun _ iv _=>n-(intOf iv).toNat)
 case atStart=>exact⟨0,0,Nat.zero_le _,rfl,rfl,Za rfl,by unfold R64;decide,Za (fun _=>rfl),Below.refl _ _⟩
 case round=>
  obtain⟨acc,k,hk,rfl,rfl,Hk,hA,H0,hB⟩:=hrel;have HA:=Za hA;clear hA;by_cases hlt:k<n
  ·have hI:(k:Int)<(n:Int):=by omega
   obtain⟨x,hx⟩:∃x,l[k]? =some x:=⟨_,List.getElem?_eq_getElem (by have:=Hn.out;omega)⟩;obtain⟨b1,off1,e1,c0,c1,c2,c3⟩:=(Ha.out.1.keep hB).at k x hx;dsimp only at e1;subst e1;have hs1:=Ha.out.2.1 x (List.mem_of_getElem? hx);have hix:=Zr b1 off1 n c k hlt;have Hst:=Za (ZbU l k x hx);have HxR:=Za (HR.out x (List.mem_of_getElem? hx));have HxT:=Za (HT.out x (List.mem_of_getElem? hx));clear hx;obtain⟨xk,xa,xt,xd⟩:=x;dsimp only at c0 c1 c2 c3 hs1;go_wp2_with fail;refine(Zy xk xa xd xt _ HxT.out hs1).mono ?_;rintro e w1 ⟨rfl,hb1⟩;have hB3:=Zb hB hb1;have HnR:=Za (ZgO (x:=⟨xk,xa,xt,xd⟩) HxR.out);clear hb1 c0 c1 c2 c3 hB hix;rw[Hst.out]at Hk;have Hk2:Hid ((if nE ⟨xk,xa,xt,xd⟩=0 then(if decide (k=0)=true then ZaO opMost false (nV ⟨xk,xa,xt,xd⟩) (l.drop (k+1))else if (opMost acc (nV ⟨xk,xa,xt,xd⟩)).2=true then ZaO opMost false (opMost acc (nV ⟨xk,xa,xt,xd⟩)).1 (l.drop (k+1))else(0,251))else(0,nE ⟨xk,xa,xt,xd⟩))=ZaO opMost true 0 l):=Hk.out;clear Hk Hst;generalize nV ⟨xk,xa,xt,xd⟩=nv at*;generalize nE ⟨xk,xa,xt,xd⟩=ne at*;by_cases hz:ne=0
   ·subst hz;obtain⟨r1,hr1⟩:∃r,r=if k=0 then nv else(opMost acc nv).1:=⟨_,rfl⟩
    have Hk3:Hid (ZaO opMost (decide (k+1=0)) r1 (l.drop (k+1))=ZaO opMost true 0 l):=by
     show _=_;rw[←Hk2.out,if_pos (rfl:(0:Int)=0),hr1];by_cases hk0:k=0
     ·rw[if_pos hk0,if_pos (c:=decide (k=0)=true) (by simpa using hk0)];rfl
     ·rw[if_neg hk0,if_neg (c:=decide (k=0)=true) (by simpa using hk0),if_pos (c:=(opMost acc nv).2=true) rfl];rfl
    have HmR:Hid (R64 r1):=by
     show R64 r1;rw[hr1];split
     ·exact HnR.out
     ·exact Zox HA.out HnR.out
    clear Hk2;by_cases hk0:k=0
    ·have e1:r1=nv:=by rw[hr1,if_pos hk0]
     subst e1;have hk1:(k:Int)=0:=by omega
     have hk2:((k:Int)==0)=true:=by simpa using hk1
     have Hkk:=Za hk0;clear hr1 hk1 hk0 H0;go_wp2;go_roundw
     case rel=>exact⟨r1,k+1,by omega,rfl,by simp,Hk3,HmR.out,Za (fun h=>absurd h (Nat.succ_ne_zero k)),hB3⟩
     case measure=>simp[intOf];omega
    ·have hk1:¬(k:Int)=0:=by omega
     have hk2:((k:Int)==0)=false:=by simpa using hk1
     by_cases hm:(acc<nv)
     ·have e1:r1=nv:=by rw[hr1,if_neg hk0];show(max acc nv)=nv;omega
      subst e1;clear hr1 hk0 H0;go_wp2;go_roundw
      case rel=>exact⟨r1,k+1,by omega,rfl,by simp,Hk3,HmR.out,Za (fun h=>absurd h (Nat.succ_ne_zero k)),hB3⟩
      case measure=>simp[intOf];omega
     ·have e1:r1=acc:=by rw[hr1,if_neg hk0];show(max acc nv)=acc;omega
      subst e1;clear hr1 hk0 H0;go_wp2;go_roundw
      case rel=>exact⟨r1,k+1,by omega,rfl,by simp,Hk3,HmR.out,Za (fun h=>absurd h (Nat.succ_ne_zero k)),hB3⟩
      case measure=>simp[intOf];omega
   ·have hz1:(ne != 0)=true:=by simpa using hz
    have HX:Hid (numR opMost l=([],ne)):=Zcg (v:=0) (by rw[←Hk2.out];exact if_neg hz) hz;clear Hk2 hz;go_wp2;go_ret2;exact⟨.slice none 0 0,by rw[HX.out];rfl,by rw[HX.out];exact OwI.nil _ _,hB3⟩
  ·have hI:¬(k:Int)<(n:Int):=by omega
   have HX:Hid (numR opMost l=([⟨2,acc,⟨#[]⟩,0⟩],0)):=Zfu (by rw[←Hk.out,List.drop_eq_nil_of_le (by have:=Hn.out;omega)];rfl);clear Hk;go_wp2_with fail;refine(Z8 acc _).mono ?_;rintro e w2 ⟨v,rfl,ho,hb2⟩;have Ho:=Za (ho.mono hB.size);have hB3:=Zb hB hb2;clear ho hb2;go_wp2;go_ret2;exact⟨v,by rw[HX.out];rfl,by rw[HX.out];exact Ho.out,hB3⟩
end Go.Proofs.YtnnfhojhbbcbmaaGreatDoor
