/- The reference: Call (sum, min, max, number, abs, distinct-values, reverse). The reference: Blank, spaced, stands. -/
import Derived.Test.YtnnfhojhbbcbmaaGreatDoorC38
import Derived.Test.YtnnfhojhbbcbmaaGreatDoorRg
import Derived.Test.YtnnfhojhbbcbmaaGreatDoorRh
import Derived.Test.YtnnfhojhbbcbmaaGreatDoorC19
namespace Go.Proofs.YtnnfhojhbbcbmaaGreatDoor
open Go.RowKit
set_option maxRecDepth 100000 in
set_option maxHeartbeats 16000000 in
theorem Zcw(nm:List UInt8)(body:List Lst→List It×Int)(hG:(nm=[115,117,109]∧body=Zay Zg6)∨(nm=[109,105,110]∧body=Zay Zel)∨(nm=[109,97,120]∧body=Zay Zem)∨(nm=[110,117,109,98,101,114]∧body=Zay ZZ)∨(nm=[97,98,115]∧body=Zay fAbs)∨(nm=[100,105,115,116,105,110,99,116,45,118,97,108,117,101,115]∧body=Zay ZaQ)∨(nm=[114,101,118,101,114,115,101]∧body=Zay Za9))(p:Option Addr)(n c:Nat)(ls:List Lst)(w:World)(hr:Rd w p (ls.map Lst.v))(hok:OkAs w ls)(hR:∀x∈ls,∀y∈x.l,R64 y.num)(hsz:∀x∈ls,∀y∈x.l,y.text.size≤100000)(hL:∀x∈ls,x.l.length≤1000000)(hn:n=ls.length)(hnm:n≤1000):
  Calls Tryz.prog 37 #[.string ⟨nm.toArray⟩,.slice p n c] w (Res w (cR nm body ls).1 (cR nm body ls).2):=by
 have Hr:=Za hr;have Hok:=Za hok;have HR:=Za hR;have Hsz:=Za hsz;have HL:=Za hL;have Hn:=Za hn;obtain⟨JV,hJV⟩:∃x,x=cR nm body ls:=⟨_,rfl⟩;rw[←hJV];have HJV:Hid (JV=if rightL ls=true then(if knV nm n=true then body ls else([],241))else([],2)):=by show _=_;rw[hJV,hn];rfl
 have HG:=Za hG;clear hr hok hR hsz hL hn hJV hG;go_enter Tryz.func37,Tryz.ntmps37;go_wp2_with fail;go_loopw[6] (fun iv W=>∃k:Nat,k≤n∧iv= .int .i64 k∧Hid (∀x∈ls.take k,x.l.all okI=true)∧Below w.heap.size w W) (fun iv _=>n-(intOf iv).toNat)
 case atStart=>exact⟨0,Nat.zero_le _,rfl,Za (by simp),Below.refl _ _⟩
 case round=>
  obtain⟨k,hk,rfl,Hz,hB⟩:=hrel;by_cases hlt:k<n
  ·have hI:(k:Int)<(n:Int):=by omega
   obtain⟨x,hx⟩:∃x,ls[k]? =some x:=⟨_,List.getElem?_eq_getElem (by have:=Hn.out;omega)⟩;obtain⟨b1,off1,e1,hcz⟩:=(Hr.out.keep hB).cellAt k x.v (by simp[hx]);subst e1;have hix:=ZP b1 off1 n c k hlt;have Hx:=Za hx;have Hokx:=Za (Hok.out x (List.mem_of_getElem? hx));have Hmx:=Za (List.mem_of_getElem? hx);clear hx;obtain⟨xa,xl,xc⟩:=x;obtain⟨q,hq⟩:∃q,q=xl.length:=⟨_,rfl⟩;have hcx:wr.cell? ⟨b1,off1+k,none⟩=some (.slice xa q xc):=by rw[hq];exact hcz
   clear hcz;have Hq:=Za hq;clear hq;have hrt:=Za (Zt xa q xc xl wr ⟨Hokx.out.1.keep hB,Hokx.out.2⟩ Hq.out);rcases Bool.eq_false_or_eq_true (xl.all okI)with ha|ha
   ·rw[ha]at hrt
    have Hz2:Hid (∀x∈ls.take (k+1),x.l.all okI=true):=by
     show ∀x∈_,_;intro x hx;rw[List.take_add_one,Hx.out]at hx;rcases List.mem_append.1 hx with hx|hx
     ·exact Hz.out x hx
     ·simp at hx;subst hx;exact ha
    clear ha Hz;go_wp2_with fail;refine hrt.out.mono ?_;rintro e w4 ⟨rfl,hb4⟩;have hB4:=Zb hB hb4;clear hb4 hB hcx hix;go_wp2;go_roundw
    case rel=>exact⟨k+1,by omega,by simp,Hz2,hB4⟩
    case measure=>simp[intOf];omega
   ·rw[ha]at hrt;have HA:Hid (JV=([],2)):=by show _=_;rw[HJV.out,if_neg];intro h;unfold rightL at h;rw[List.all_eq_true]at h;have:=h _ Hmx.out;rw[ha]at this;cases this
    clear ha Hz;go_wp2_with fail;refine hrt.out.mono ?_;rintro e w4 ⟨rfl,hb4⟩;have hB4:=Zb hB hb4;clear hb4 hB hcx hix;go_wp2;go_ret2;exact⟨.slice none 0 0,by rw[HA.out];rfl,by rw[HA.out];exact OwI.nil _ _,hB4⟩
  ·have hI:¬(k:Int)<(n:Int):=by omega
   have hkn:k=n:=by omega
   subst hkn;have htk:ls.take k=ls:=List.take_of_length_le (by have:=Hn.out;omega);have hri:∀x∈ls,x.l.all okI=true:=by have:=Hz.out;rw[htk]at this;exact this
   have hrl:rightL ls=true:=by unfold rightL;rw[List.all_eq_true];exact hri
   rw[hrl,if_pos rfl]at HJV;have Hri:=Za hri;clear htk Hz hri hrl hk;go_wp2_with fail;rcases HG.out with⟨rfl,rfl⟩|⟨rfl,rfl⟩|⟨rfl,rfl⟩|⟨rfl,rfl⟩|⟨rfl,rfl⟩|⟨rfl,rfl⟩|⟨rfl,rfl⟩
   ·clear HG;rw[show knV [115,117,109] k=(decide (1≤k)&&decide (k≤1)) by exact Zbg (by decide) (by decide)]at HJV;refine(Zjr _).mono ?_;rintro e w4 ⟨rfl,rfl⟩;by_cases hkv:1≤k∧k≤1
    ·have HJ:Hid (JV=(Zay Zg6) ls):=by show _=_;rw[HJV.out,if_pos (by simp;omega)]
     have q1:¬(k:Int)<1:=by omega
     have q2:¬(1:Int)<(k:Int):=by omega
     clear HJV;have hk1:k=1:=by omega
     subst hk1;obtain⟨la,rfl⟩:=List.length_eq_one_iff.1 Hn.out.symm;obtain⟨b0,off0,e0,hcz⟩:=(Hr.out.keep hB).cellAt 0 la.v rfl;subst e0;rw[Nat.add_zero]at hcz;have hix0:=Zp b0 off0 1 c (by decide);have Hla:=Za (Hok.out la (by simp));have HlR:=Za (HR.out la (by simp));have HlS:=Za (Hsz.out la (by simp));have HlL:=Za (HL.out la (by simp));have Hlr:=Za (Hri.out la (by simp));obtain⟨aa,al,ac⟩:=la;obtain⟨q,hq⟩:∃q,q=al.length:=⟨_,rfl⟩;have hc0:wr.cell? ⟨b0,off0,none⟩=some (.slice aa q ac):=by rw[hq];exact hcz
     clear hcz;have Hq:=Za hq;have HlT:Hid (∀y∈al,y.kind=4→y.text=⟨#[]⟩):=fun y hy h4=>Zaf (List.all_eq_true.1 Hlr.out y hy) h4;clear hq hkv;have Hla2:=Za (show OkA wr ⟨aa,al,ac⟩from⟨Hla.out.1.keep hB,Hla.out.2⟩);have HA9:Hid (JV=Zg6 al):=by exact HJ.out.trans rfl
     obtain⟨J1,J2⟩:=JV;have hcon:=Za (Zo7 aa q ac al wr Hla2.out HlT.out HlR.out Hq.out);rw[show Zg6 al=(J1,J2)from HA9.out.symm]at hcon;clear HA9;have HA9:Hid (((J1,J2):List It×Int)=(J1,J2)):=rfl;go_wp2_with fail;refine hcon.out.mono ?_;rintro e w9 ⟨v9,rfl,ho9,hb9⟩;have Ho9:=Za (ho9.mono hB.size);have hB9:=Zb hB hb9;clear ho9 hb9 hB HA9;go_wp2;go_ret2;exact⟨v9,rfl,Ho9.out,hB9⟩
    ·have HA:Hid (JV=([],241)):=by show _=_;rw[HJV.out,if_neg (by simp;omega)]
     clear HJV;by_cases hc:k<1
     ·have q1:(k:Int)<1:=by omega
      clear hkv hc;go_wp2;go_ret2;exact⟨.slice none 0 0,by rw[HA.out];rfl,by rw[HA.out];exact OwI.nil _ _,hB⟩
     ·have q1:¬(k:Int)<1:=by omega
      have q2:(1:Int)<(k:Int):=by omega
      clear hkv hc;go_wp2;go_ret2;exact⟨.slice none 0 0,by rw[HA.out];rfl,by rw[HA.out];exact OwI.nil _ _,hB⟩
   ·clear HG;rw[show knV [109,105,110] k=(decide (1≤k)&&decide (k≤1)) by exact Zbg (by decide) (by decide)]at HJV;refine(Zjs _).mono ?_;rintro e w4 ⟨rfl,rfl⟩;by_cases hkv:1≤k∧k≤1
    ·have HJ:Hid (JV=(Zay Zel) ls):=by show _=_;rw[HJV.out,if_pos (by simp;omega)]
     have q1:¬(k:Int)<1:=by omega
     have q2:¬(1:Int)<(k:Int):=by omega
     clear HJV;have hk1:k=1:=by omega
     subst hk1;obtain⟨la,rfl⟩:=List.length_eq_one_iff.1 Hn.out.symm;obtain⟨b0,off0,e0,hcz⟩:=(Hr.out.keep hB).cellAt 0 la.v rfl;subst e0;rw[Nat.add_zero]at hcz;have hix0:=Zp b0 off0 1 c (by decide);have Hla:=Za (Hok.out la (by simp));have HlR:=Za (HR.out la (by simp));have HlS:=Za (Hsz.out la (by simp));have HlL:=Za (HL.out la (by simp));have Hlr:=Za (Hri.out la (by simp));obtain⟨aa,al,ac⟩:=la;obtain⟨q,hq⟩:∃q,q=al.length:=⟨_,rfl⟩;have hc0:wr.cell? ⟨b0,off0,none⟩=some (.slice aa q ac):=by rw[hq];exact hcz
     clear hcz;have Hq:=Za hq;have HlT:Hid (∀y∈al,y.kind=4→y.text=⟨#[]⟩):=fun y hy h4=>Zaf (List.all_eq_true.1 Hlr.out y hy) h4;clear hq hkv;have Hla2:=Za (show OkA wr ⟨aa,al,ac⟩from⟨Hla.out.1.keep hB,Hla.out.2⟩);have HA9:Hid (JV=Zel al):=by exact HJ.out.trans rfl
     obtain⟨J1,J2⟩:=JV;have hcon:=Za (Zo8 aa q ac al wr Hla2.out HlT.out HlR.out Hq.out);rw[show Zel al=(J1,J2)from HA9.out.symm]at hcon;clear HA9;have HA9:Hid (((J1,J2):List It×Int)=(J1,J2)):=rfl;go_wp2_with fail;refine hcon.out.mono ?_;rintro e w9 ⟨v9,rfl,ho9,hb9⟩;have Ho9:=Za (ho9.mono hB.size);have hB9:=Zb hB hb9;clear ho9 hb9 hB HA9;go_wp2;go_ret2;exact⟨v9,rfl,Ho9.out,hB9⟩
    ·have HA:Hid (JV=([],241)):=by show _=_;rw[HJV.out,if_neg (by simp;omega)]
     clear HJV;by_cases hc:k<1
     ·have q1:(k:Int)<1:=by omega
      clear hkv hc;go_wp2;go_ret2;exact⟨.slice none 0 0,by rw[HA.out];rfl,by rw[HA.out];exact OwI.nil _ _,hB⟩
     ·have q1:¬(k:Int)<1:=by omega
      have q2:(1:Int)<(k:Int):=by omega
      clear hkv hc;go_wp2;go_ret2;exact⟨.slice none 0 0,by rw[HA.out];rfl,by rw[HA.out];exact OwI.nil _ _,hB⟩
   ·clear HG;rw[show knV [109,97,120] k=(decide (1≤k)&&decide (k≤1)) by exact Zbg (by decide) (by decide)]at HJV;refine(Zjt _).mono ?_;rintro e w4 ⟨rfl,rfl⟩;by_cases hkv:1≤k∧k≤1
    ·have HJ:Hid (JV=(Zay Zem) ls):=by show _=_;rw[HJV.out,if_pos (by simp;omega)]
     have q1:¬(k:Int)<1:=by omega
     have q2:¬(1:Int)<(k:Int):=by omega
     clear HJV;have hk1:k=1:=by omega
     subst hk1;obtain⟨la,rfl⟩:=List.length_eq_one_iff.1 Hn.out.symm;obtain⟨b0,off0,e0,hcz⟩:=(Hr.out.keep hB).cellAt 0 la.v rfl;subst e0;rw[Nat.add_zero]at hcz;have hix0:=Zp b0 off0 1 c (by decide);have Hla:=Za (Hok.out la (by simp));have HlR:=Za (HR.out la (by simp));have HlS:=Za (Hsz.out la (by simp));have HlL:=Za (HL.out la (by simp));have Hlr:=Za (Hri.out la (by simp));obtain⟨aa,al,ac⟩:=la;obtain⟨q,hq⟩:∃q,q=al.length:=⟨_,rfl⟩;have hc0:wr.cell? ⟨b0,off0,none⟩=some (.slice aa q ac):=by rw[hq];exact hcz
     clear hcz;have Hq:=Za hq;have HlT:Hid (∀y∈al,y.kind=4→y.text=⟨#[]⟩):=fun y hy h4=>Zaf (List.all_eq_true.1 Hlr.out y hy) h4;clear hq hkv;have Hla2:=Za (show OkA wr ⟨aa,al,ac⟩from⟨Hla.out.1.keep hB,Hla.out.2⟩);have HA9:Hid (JV=Zem al):=by exact HJ.out.trans rfl
     obtain⟨J1,J2⟩:=JV;have hcon:=Za (Zo9 aa q ac al wr Hla2.out HlT.out HlR.out Hq.out);rw[show Zem al=(J1,J2)from HA9.out.symm]at hcon;clear HA9;have HA9:Hid (((J1,J2):List It×Int)=(J1,J2)):=rfl;go_wp2_with fail;refine hcon.out.mono ?_;rintro e w9 ⟨v9,rfl,ho9,hb9⟩;have Ho9:=Za (ho9.mono hB.size);have hB9:=Zb hB hb9;clear ho9 hb9 hB HA9;go_wp2;go_ret2;exact⟨v9,rfl,Ho9.out,hB9⟩
    ·have HA:Hid (JV=([],241)):=by show _=_;rw[HJV.out,if_neg (by simp;omega)]
     clear HJV;by_cases hc:k<1
     ·have q1:(k:Int)<1:=by omega
      clear hkv hc;go_wp2;go_ret2;exact⟨.slice none 0 0,by rw[HA.out];rfl,by rw[HA.out];exact OwI.nil _ _,hB⟩
     ·have q1:¬(k:Int)<1:=by omega
      have q2:(1:Int)<(k:Int):=by omega
      clear hkv hc;go_wp2;go_ret2;exact⟨.slice none 0 0,by rw[HA.out];rfl,by rw[HA.out];exact OwI.nil _ _,hB⟩
   ·clear HG;rw[show knV [110,117,109,98,101,114] k=(decide (1≤k)&&decide (k≤1)) by exact Zbg (by decide) (by decide)]at HJV;refine(Zgq _).mono ?_;rintro e w4 ⟨rfl,rfl⟩;by_cases hkv:1≤k∧k≤1
    ·have HJ:Hid (JV=(Zay ZZ) ls):=by show _=_;rw[HJV.out,if_pos (by simp;omega)]
     have q1:¬(k:Int)<1:=by omega
     have q2:¬(1:Int)<(k:Int):=by omega
     clear HJV;have hk1:k=1:=by omega
     subst hk1;obtain⟨la,rfl⟩:=List.length_eq_one_iff.1 Hn.out.symm;obtain⟨b0,off0,e0,hcz⟩:=(Hr.out.keep hB).cellAt 0 la.v rfl;subst e0;rw[Nat.add_zero]at hcz;have hix0:=Zp b0 off0 1 c (by decide);have Hla:=Za (Hok.out la (by simp));have HlR:=Za (HR.out la (by simp));have HlS:=Za (Hsz.out la (by simp));have HlL:=Za (HL.out la (by simp));have Hlr:=Za (Hri.out la (by simp));obtain⟨aa,al,ac⟩:=la;obtain⟨q,hq⟩:∃q,q=al.length:=⟨_,rfl⟩;have hc0:wr.cell? ⟨b0,off0,none⟩=some (.slice aa q ac):=by rw[hq];exact hcz
     clear hcz;have Hq:=Za hq;have HlT:Hid (∀y∈al,y.kind=4→y.text=⟨#[]⟩):=fun y hy h4=>Zaf (List.all_eq_true.1 Hlr.out y hy) h4;clear hq hkv;have Hla2:=Za (show OkA wr ⟨aa,al,ac⟩from⟨Hla.out.1.keep hB,Hla.out.2⟩);have HA9:Hid (JV=ZZ al):=by exact HJ.out.trans rfl
     obtain⟨J1,J2⟩:=JV;have hcon:=Za (Zlz aa q ac al wr Hla2.out HlT.out HlR.out Hq.out);rw[show ZZ al=(J1,J2)from HA9.out.symm]at hcon;clear HA9;have HA9:Hid (((J1,J2):List It×Int)=(J1,J2)):=rfl;go_wp2_with fail;refine hcon.out.mono ?_;rintro e w9 ⟨v9,rfl,ho9,hb9⟩;have Ho9:=Za (ho9.mono hB.size);have hB9:=Zb hB hb9;clear ho9 hb9 hB HA9;go_wp2;go_ret2;exact⟨v9,rfl,Ho9.out,hB9⟩
    ·have HA:Hid (JV=([],241)):=by show _=_;rw[HJV.out,if_neg (by simp;omega)]
     clear HJV;by_cases hc:k<1
     ·have q1:(k:Int)<1:=by omega
      clear hkv hc;go_wp2;go_ret2;exact⟨.slice none 0 0,by rw[HA.out];rfl,by rw[HA.out];exact OwI.nil _ _,hB⟩
     ·have q1:¬(k:Int)<1:=by omega
      have q2:(1:Int)<(k:Int):=by omega
      clear hkv hc;go_wp2;go_ret2;exact⟨.slice none 0 0,by rw[HA.out];rfl,by rw[HA.out];exact OwI.nil _ _,hB⟩
   ·clear HG;rw[show knV [97,98,115] k=(decide (1≤k)&&decide (k≤1)) by exact Zbg (by decide) (by decide)]at HJV;refine(Zju _).mono ?_;rintro e w4 ⟨rfl,rfl⟩;by_cases hkv:1≤k∧k≤1
    ·have HJ:Hid (JV=(Zay fAbs) ls):=by show _=_;rw[HJV.out,if_pos (by simp;omega)]
     have q1:¬(k:Int)<1:=by omega
     have q2:¬(1:Int)<(k:Int):=by omega
     clear HJV;have hk1:k=1:=by omega
     subst hk1;obtain⟨la,rfl⟩:=List.length_eq_one_iff.1 Hn.out.symm;obtain⟨b0,off0,e0,hcz⟩:=(Hr.out.keep hB).cellAt 0 la.v rfl;subst e0;rw[Nat.add_zero]at hcz;have hix0:=Zp b0 off0 1 c (by decide);have Hla:=Za (Hok.out la (by simp));have HlR:=Za (HR.out la (by simp));have HlS:=Za (Hsz.out la (by simp));have HlL:=Za (HL.out la (by simp));have Hlr:=Za (Hri.out la (by simp));obtain⟨aa,al,ac⟩:=la;obtain⟨q,hq⟩:∃q,q=al.length:=⟨_,rfl⟩;have hc0:wr.cell? ⟨b0,off0,none⟩=some (.slice aa q ac):=by rw[hq];exact hcz
     clear hcz;have Hq:=Za hq;have HlT:Hid (∀y∈al,y.kind=4→y.text=⟨#[]⟩):=fun y hy h4=>Zaf (List.all_eq_true.1 Hlr.out y hy) h4;clear hq hkv;have Hla2:=Za (show OkA wr ⟨aa,al,ac⟩from⟨Hla.out.1.keep hB,Hla.out.2⟩);have HA9:Hid (JV=fAbs al):=by exact HJ.out.trans rfl
     obtain⟨J1,J2⟩:=JV;have hcon:=Za (Zpa aa q ac al wr Hla2.out HlT.out HlR.out Hq.out);rw[show fAbs al=(J1,J2)from HA9.out.symm]at hcon;clear HA9;have HA9:Hid (((J1,J2):List It×Int)=(J1,J2)):=rfl;go_wp2_with fail;refine hcon.out.mono ?_;rintro e w9 ⟨v9,rfl,ho9,hb9⟩;have Ho9:=Za (ho9.mono hB.size);have hB9:=Zb hB hb9;clear ho9 hb9 hB HA9;go_wp2;go_ret2;exact⟨v9,rfl,Ho9.out,hB9⟩
    ·have HA:Hid (JV=([],241)):=by show _=_;rw[HJV.out,if_neg (by simp;omega)]
     clear HJV;by_cases hc:k<1
     ·have q1:(k:Int)<1:=by omega
      clear hkv hc;go_wp2;go_ret2;exact⟨.slice none 0 0,by rw[HA.out];rfl,by rw[HA.out];exact OwI.nil _ _,hB⟩
     ·have q1:¬(k:Int)<1:=by omega
      have q2:(1:Int)<(k:Int):=by omega
      clear hkv hc;go_wp2;go_ret2;exact⟨.slice none 0 0,by rw[HA.out];rfl,by rw[HA.out];exact OwI.nil _ _,hB⟩
   ·clear HG;rw[show knV [100,105,115,116,105,110,99,116,45,118,97,108,117,101,115] k=(decide (1≤k)&&decide (k≤1)) by exact Zbg (by decide) (by decide)]at HJV;refine(Zb4 _).mono ?_;rintro e w4 ⟨rfl,rfl⟩;by_cases hkv:1≤k∧k≤1
    ·have HJ:Hid (JV=(Zay ZaQ) ls):=by show _=_;rw[HJV.out,if_pos (by simp;omega)]
     have q1:¬(k:Int)<1:=by omega
     have q2:¬(1:Int)<(k:Int):=by omega
     clear HJV;have hk1:k=1:=by omega
     subst hk1;obtain⟨la,rfl⟩:=List.length_eq_one_iff.1 Hn.out.symm;obtain⟨b0,off0,e0,hcz⟩:=(Hr.out.keep hB).cellAt 0 la.v rfl;subst e0;rw[Nat.add_zero]at hcz;have hix0:=Zp b0 off0 1 c (by decide);have Hla:=Za (Hok.out la (by simp));have HlR:=Za (HR.out la (by simp));have HlS:=Za (Hsz.out la (by simp));have HlL:=Za (HL.out la (by simp));have Hlr:=Za (Hri.out la (by simp));obtain⟨aa,al,ac⟩:=la;obtain⟨q,hq⟩:∃q,q=al.length:=⟨_,rfl⟩;have hc0:wr.cell? ⟨b0,off0,none⟩=some (.slice aa q ac):=by rw[hq];exact hcz
     clear hcz;have Hq:=Za hq;have HlT:Hid (∀y∈al,y.kind=4→y.text=⟨#[]⟩):=fun y hy h4=>Zaf (List.all_eq_true.1 Hlr.out y hy) h4;clear hq hkv;have Hla2:=Za (show OkA wr ⟨aa,al,ac⟩from⟨Hla.out.1.keep hB,Hla.out.2⟩);have HA9:Hid (JV=(ZaT al,0)):=by exact HJ.out.trans rfl
     have hcon:=Za (Zgw aa q ac al wr Hla2.out.1 Hq.out (by rw[Hq.out];exact HlL.out));go_wp2_with fail;refine hcon.out.mono ?_;rintro e w9 ⟨v9,rfl,ho9,hb9⟩;have Ho9:=Za (ho9.mono hB.size);have hB9:=Zb hB hb9;clear ho9 hb9 hB;go_wp2;go_ret2;exact⟨v9,by rw[HA9.out];rfl,by rw[HA9.out];exact Ho9.out,hB9⟩
    ·have HA:Hid (JV=([],241)):=by show _=_;rw[HJV.out,if_neg (by simp;omega)]
     clear HJV;by_cases hc:k<1
     ·have q1:(k:Int)<1:=by omega
      clear hkv hc;go_wp2;go_ret2;exact⟨.slice none 0 0,by rw[HA.out];rfl,by rw[HA.out];exact OwI.nil _ _,hB⟩
     ·have q1:¬(k:Int)<1:=by omega
      have q2:(1:Int)<(k:Int):=by omega
      clear hkv hc;go_wp2;go_ret2;exact⟨.slice none 0 0,by rw[HA.out];rfl,by rw[HA.out];exact OwI.nil _ _,hB⟩
   ·clear HG;rw[show knV [114,101,118,101,114,115,101] k=(decide (1≤k)&&decide (k≤1)) by exact Zbg (by decide) (by decide)]at HJV;refine(ZeO _).mono ?_;rintro e w4 ⟨rfl,rfl⟩;by_cases hkv:1≤k∧k≤1
    ·have HJ:Hid (JV=(Zay Za9) ls):=by show _=_;rw[HJV.out,if_pos (by simp;omega)]
     have q1:¬(k:Int)<1:=by omega
     have q2:¬(1:Int)<(k:Int):=by omega
     clear HJV;have hk1:k=1:=by omega
     subst hk1;obtain⟨la,rfl⟩:=List.length_eq_one_iff.1 Hn.out.symm;obtain⟨b0,off0,e0,hcz⟩:=(Hr.out.keep hB).cellAt 0 la.v rfl;subst e0;rw[Nat.add_zero]at hcz;have hix0:=Zp b0 off0 1 c (by decide);have Hla:=Za (Hok.out la (by simp));have HlR:=Za (HR.out la (by simp));have HlS:=Za (Hsz.out la (by simp));have HlL:=Za (HL.out la (by simp));have Hlr:=Za (Hri.out la (by simp));obtain⟨aa,al,ac⟩:=la;obtain⟨q,hq⟩:∃q,q=al.length:=⟨_,rfl⟩;have hc0:wr.cell? ⟨b0,off0,none⟩=some (.slice aa q ac):=by rw[hq];exact hcz
     clear hcz;have Hq:=Za hq;have HlT:Hid (∀y∈al,y.kind=4→y.text=⟨#[]⟩):=fun y hy h4=>Zaf (List.all_eq_true.1 Hlr.out y hy) h4;clear hq hkv;have Hla2:=Za (show OkA wr ⟨aa,al,ac⟩from⟨Hla.out.1.keep hB,Hla.out.2⟩);have HA9:Hid (JV=(al.reverse,0)):=by exact HJ.out.trans rfl
     obtain⟨i0,hi,hz0,hz1,hz2⟩:=info_parts ZaD;have Hi:Hid (Tryz.prog.info? 24=some i0∧i0.zero=some (.agg #[.int .u8 0,.int .i64 0,.string ⟨#[]⟩,.int .i64 0])∧i0.size=4∧i0.bytes=40):=⟨hi,hz0,hz1,hz2⟩;have hqL:q≤1000000:=by rw[Hq.out];exact HlL.out
     have Hc0:=Za hc0;obtain⟨W1,rfl⟩:∃W1,W1=wr:=⟨_,rfl⟩;have hBw:=hB;clear hB hi hz0 hz1 hz2;go_wp2_with fail;clear hc0;go_loopw[12,13] (fun ov iv W=>∃k:Nat,k≤q∧iv= .int .i64 ((q:Int)-1-k)∧Hid (OwI W W1.heap.size ov (al.reverse.take k))∧Below W1.heap.size W1 W) (fun iv iv2 W=>(intOf iv2+1).toNat)
     case atStart=>exact⟨0,Nat.zero_le _,by simp,Za (OwI.nil _ _),Below.refl _ _⟩
     case round=>
      obtain⟨j,hj,rfl,Ho,hBb⟩:=hrel;obtain⟨av,cv,hv⟩:=Zl Ho.out;subst hv;have c0:=Zc hBb Hc0.out;have hll:(al.reverse.take j).length=j:=by rw[List.length_take,List.length_reverse,←Hq.out];omega
      by_cases hjq:j<q
      ·have hI:(0:Int)≤(q:Int)-1-j:=by omega
       obtain⟨x,hx⟩:∃x,al[q-1-j]? =some x:=⟨_,List.getElem?_eq_getElem (by have:=Hq.out;omega)⟩;have htk:Hid (al.reverse.take (j+1)=al.reverse.take j++[x]):=by show _=_;rw[List.take_add_one,List.getElem?_reverse (by rw[←Hq.out];exact hjq),←Hq.out,show q-1-j=q-1-j from rfl,hx];rfl
       obtain⟨b1,off1,e1,d0,d1,d2,d3⟩:=((Hla2.out.1).keep hBb).at (q-1-j) x hx;dsimp only at e1;subst e1;have hix2:=Zr b1 off1 q ac (q-1-j) (by omega);rw[show(((q-1-j:Nat)):Int)=(q:Int)-1-j by omega]at hix2;clear hx;obtain⟨xk,xa,xt,xd⟩:=x;dsimp only at d0 d1 d2 d3;rw[hll]at Ho⊢;obtain⟨rv,hrv⟩:∃r,r=al.reverse.take j:=⟨_,rfl⟩;rw[←hrv]at Ho htk;have hrl:rv.length=j:=by rw[hrv];exact hll
       have Hrl:=Za hrl;have hka:=(Below.refl wr.heap.size wr).alloc (Nat.le_refl _) (.cells #[.int .u8 xk,.int .i64 xa,.string xt,.int .i64 xd] 24);have HO2:=Za (OwI.keep Ho.out hka);have Hrd:=Za (RdI.new wr 24 [⟨xk,xa,xt,xd⟩]);have hB4:=hBb.alloc hBb.size (.cells #[.int .u8 xk,.int .i64 xa,.string xt,.int .i64 xd] 24);clear hka hBb hrv hrl hll Ho;go_wp2_with (at_builtin;refine Zk rfl _ _ 28 rfl i0 _ 40 1 Tryz.underlying28 Hi.out.1 Hi.out.2.1 Hi.out.2.2.1 Hi.out.2.2.2 rfl (by decide) rfl rfl (Zv [⟨xk,xa,xt,xd⟩]) HO2.out Hrd.out (m:=1) rfl ?e2 ?e3 ?e4 ?_)
       case e2=>have:=Hrl.out;omega
       case e3=>have:=Hrl.out;omega
       case e4=>first|exact hB4.size|simpa using hB4.size
       intro v3 W3 own3 hg3 hv3;have own4:OwI W3 W1.heap.size v3 (al.reverse.take (j+1)):=by rw[htk.out];unfold OwI;rw[Zj,List.length_append,List.length_singleton];exact own3
       have hB5:Below W1.heap.size W1 W3:=hB4.grown hg3 hB4.size fun b hb=>(Z5 HO2.out b hb).1;have Hown4:=Za own4;clear own3 hg3 hv3 own4 HO2 Hrd hB4 d0 d1 d2 d3 c0 hix2 htk;go_wp2;go_roundw
       case rel=>exact⟨j+1,by omega,by simp;omega,Hown4,hB5⟩
       case measure=>simp[intOf];omega
      ·have hI:¬(0:Int)≤(q:Int)-1-j:=by omega
       have hx:al.reverse.take j=al.reverse:=List.take_of_length_le (by rw[List.length_reverse,←Hq.out];omega);rw[hll]at Ho⊢;have hfin:=Ho.out;rw[hx]at hfin;have Ho9:=Za (OwI.mono hfin hBw.size);have hB9:=Zb hBw hBb;clear hx hfin Ho c0 hll;go_wp2;go_ret2;exact⟨_,by rw[HA9.out];rfl,by rw[HA9.out];exact Ho9.out,hB9⟩
    ·have HA:Hid (JV=([],241)):=by show _=_;rw[HJV.out,if_neg (by simp;omega)]
     clear HJV;by_cases hc:k<1
     ·have q1:(k:Int)<1:=by omega
      clear hkv hc;go_wp2;go_ret2;exact⟨.slice none 0 0,by rw[HA.out];rfl,by rw[HA.out];exact OwI.nil _ _,hB⟩
     ·have q1:¬(k:Int)<1:=by omega
      have q2:(1:Int)<(k:Int):=by omega
      clear hkv hc;go_wp2;go_ret2;exact⟨.slice none 0 0,by rw[HA.out];rfl,by rw[HA.out];exact OwI.nil _ _,hB⟩
end Go.Proofs.YtnnfhojhbbcbmaaGreatDoor
namespace Go.Proofs.YtnnfhojhbbcbmaaGreatDoor
set_option maxRecDepth 100000
set_option maxHeartbeats 4000000
open Go.RowKit
theorem ZjJ(s:ByteArray)(z:Nat)(q:Bool)(w:World)(h1:s.size=1)(hz:bt s 0=(z:Int))(hq:q=(z==32||z==9||z==10||z==13)):Calls Tryz.prog 194 #[.string s] w fun e w'=>e= .returned (.bool q)∧w=w':=by
 have hrx:=Zal s 0 (by omega) 0 rfl;rw[hz]at hrx;have hI0:(0:Int)<(s.size:Int):=by omega
 have hI1:¬(1:Int)<(s.size:Int):=by omega
 clear hz h1;by_cases c9:z=9
 ·subst c9;have hq2:q=true:=by rw[hq];rfl
  clear hq;subst hq2;go_enter Tryz.func194,Tryz.ntmps194;go_wp2_with fail;go_loopw[3] (fun iv W=>∃k:Nat,k≤1∧iv= .int .i64 k∧w=W) (fun iv _=>1-(intOf iv).toNat)
  case atStart=>exact⟨0,by omega,rfl,rfl⟩
  case round=>
   obtain⟨k,hk,rfl,rfl⟩:=hrel
   match k,hk with
   |0,_=>
    go_wp2;go_roundw
    case rel=>exact⟨1,by omega,rfl,by trivial⟩
    case measure=>simp[intOf]
   |1,_=>
    go_wp2;go_ret;exact⟨rfl,rfl⟩
 by_cases c10:z=10
 ·subst c10;have hq2:q=true:=by rw[hq];rfl
  clear hq;subst hq2;go_enter Tryz.func194,Tryz.ntmps194;go_wp2_with fail;go_loopw[3] (fun iv W=>∃k:Nat,k≤1∧iv= .int .i64 k∧w=W) (fun iv _=>1-(intOf iv).toNat)
  case atStart=>exact⟨0,by omega,rfl,rfl⟩
  case round=>
   obtain⟨k,hk,rfl,rfl⟩:=hrel
   match k,hk with
   |0,_=>
    go_wp2;go_roundw
    case rel=>exact⟨1,by omega,rfl,by trivial⟩
    case measure=>simp[intOf]
   |1,_=>
    go_wp2;go_ret;exact⟨rfl,rfl⟩
 by_cases c13:z=13
 ·subst c13;have hq2:q=true:=by rw[hq];rfl
  clear hq;subst hq2;go_enter Tryz.func194,Tryz.ntmps194;go_wp2_with fail;go_loopw[3] (fun iv W=>∃k:Nat,k≤1∧iv= .int .i64 k∧w=W) (fun iv _=>1-(intOf iv).toNat)
  case atStart=>exact⟨0,by omega,rfl,rfl⟩
  case round=>
   obtain⟨k,hk,rfl,rfl⟩:=hrel
   match k,hk with
   |0,_=>
    go_wp2;go_roundw
    case rel=>exact⟨1,by omega,rfl,by trivial⟩
    case measure=>simp[intOf]
   |1,_=>
    go_wp2;go_ret;exact⟨rfl,rfl⟩
 have d9:((z:Int) != 9)=true:=by simpa using(show ¬(z:Int)=9 by omega)
 have d10:((z:Int) != 10)=true:=by simpa using(show ¬(z:Int)=10 by omega)
 have d13:((z:Int) != 13)=true:=by simpa using(show ¬(z:Int)=13 by omega)
 have e9:¬(z:Int)=9:=by omega
 have e10:¬(z:Int)=10:=by omega
 have e13:¬(z:Int)=13:=by omega
 by_cases c32:z=32
 ·subst c32;have hq2:q=true:=by rw[hq];rfl
  clear hq;subst hq2;clear c9 c10 c13 d9 d10 d13 e9 e10 e13;go_enter Tryz.func194,Tryz.ntmps194;go_wp2_with fail;go_loopw[3] (fun iv W=>∃k:Nat,k≤1∧iv= .int .i64 k∧w=W) (fun iv _=>1-(intOf iv).toNat)
  case atStart=>exact⟨0,by omega,rfl,rfl⟩
  case round=>
   obtain⟨k,hk,rfl,rfl⟩:=hrel
   match k,hk with
   |0,_=>
    go_wp2;go_roundw
    case rel=>exact⟨1,by omega,rfl,by trivial⟩
    case measure=>simp[intOf]
   |1,_=>
    go_wp2;go_ret;exact⟨rfl,rfl⟩
 ·have hq2:q=false:=by rw[hq];simp;omega
  clear hq;subst hq2;have d32:((z:Int) != 32)=true:=by simpa using(show ¬(z:Int)=32 by omega)
  have e32:¬(z:Int)=32:=by omega
  clear c9 c10 c13 c32;go_enter Tryz.func194,Tryz.ntmps194;go_wp2_with fail;go_loopw[3] (fun iv W=>iv= .int .i64 0∧w=W) (fun iv _=>0)
  case atStart=>exact⟨rfl,rfl⟩
  case round=>obtain⟨rfl,rfl⟩:=hrel;go_wp2;go_ret;exact⟨rfl,rfl⟩
theorem Zn2(s:ByteArray)(k:Nat)(h:k<s.size):(s.extract k (k+1)).size=1∧bt (s.extract k (k+1)) 0=bt s k:=by
 have hsz:(s.extract k (k+1)).size=1:=by rw[ByteArray.size_extract];omega
 refine⟨hsz,?_⟩;unfold bt;congr 2;have h':k<s.data.size:=h;rw[ByteArray.data_extract];rw[Array.getElem?_eq_getElem h',Array.getElem?_extract];simp;rw[if_pos (by omega),Array.getElem?_eq_getElem h'];rfl
theorem Zis(s:ByteArray)(w:World)(hs:s.size≤1000000):Calls Tryz.prog 144 #[.string s] w fun e w'=>e= .returned (.string (spaceB s))∧Below w.heap.size w w':=by
 have HF:Hid (spaceB s=⟨(spB [] false s.data.toList).toArray⟩):=by show _=_;rfl
 go_enter Tryz.func144,Tryz.ntmps144;go_wp2_with fail;go_loopw[3,4,5] (fun ov gv iv W=>∃(k:Nat) (out:List UInt8) (gap:Bool),k≤s.size∧iv= .int .i64 k∧gv= .bool gap∧OwB W w.heap.size ov out∧Hid (spB out gap (s.data.toList.drop k)=spB [] false s.data.toList)∧out.length≤2*k∧Below w.heap.size w W) (fun _ _ iv _=>s.size-(intOf iv).toNat)
 case atStart=>exact⟨0,[],false,Nat.zero_le _,rfl,rfl,OwB.nil _ _,Za (by rw[List.drop_zero]),Nat.le_refl _,Below.refl _ _⟩
 case round=>
  obtain⟨k,out,gap,hk,rfl,rfl,ho,HT,hol,hB⟩:=hrel;obtain⟨av,cv,hv⟩:=ho.forms;subst hv;have Ho:=Za ho;clear ho;obtain⟨m,hm⟩:∃m,m=out.length:=⟨_,rfl⟩;rw[←hm]at Ho hol⊢;have Hm:=Za hm;have Hol:=Za hol;clear hm hol;by_cases hlt:k<s.size
  ·have hI:(k:Int)<(s.size:Int):=by omega
   obtain⟨b,hd,hbt⟩:=ZhP s k hlt;obtain⟨z,hz⟩:∃z:Nat,z=b.toNat:=⟨_,rfl⟩;have hrx:=Zal s k hlt k rfl;rw[hbt,←hz]at hrx;have HT2:Hid ((if isW b=true then spB out true (s.data.toList.drop (k+1))else spB (Zjw out gap++[b]) false (s.data.toList.drop (k+1)))=spB [] false s.data.toList):=by show _=_;rw[←HT.out,hd];rfl
   obtain⟨ce1,ce2⟩:=Zn2 s k hlt
   have hW:isW b=(z==32||z==9||z==10||z==13):=by
    rw[hz];unfold isW
    have hb:∀n:Nat,n<256→(b==UInt8.ofNat n)=(b.toNat==n):=by
     intro n hn;rw[Bool.eq_iff_iff,beq_iff_eq,beq_iff_eq];constructor
     ·intro h;rw[h,UInt8.toNat_ofNat'];omega
     ·intro h;rw[←h];simp
    rw[←hb 32 (by decide),←hb 9 (by decide),←hb 10 (by decide),←hb 13 (by decide)];rfl
   have Hbl:=Za (ZjJ (s.extract k (k+1)) z (isW b) wr ce1 (by rw[ce2,hbt,←hz]) hW);have Hz:Hid ((z:Int)=(b.toNat:Int)):=by show _=_;rw[hz]
   clear hd hbt HT hz ce1 ce2 hW;rcases Bool.eq_false_or_eq_true (isW b)with hw|hw
   ·rw[hw]at Hbl;rw[if_pos hw]at HT2;clear hw;go_wp2_with fail;refine Hbl.out.mono ?_;rintro e w1 ⟨rfl,rfl⟩;go_wp2;go_roundw
    case rel=>exact⟨k+1,out,true,by omega,by simp,rfl,Ho.out,HT2,by have:=Hm.out;have:=Hol.out;omega,hB⟩
    case measure=>simp[intOf];omega
   ·rw[hw]at Hbl;rw[if_neg (by rw[hw];decide)]at HT2;clear hw;cases gap with
    |false=>
     have HT3:Hid (spB (out++[b]) false (s.data.toList.drop (k+1))=spB [] false s.data.toList):=by show _=_;rw[←HT2.out,Zdj]
     clear HT2;go_wp2_with fail;refine Hbl.out.mono ?_;rintro e w1 ⟨rfl,rfl⟩;have hka:=(Below.refl wr.heap.size wr).alloc (Nat.le_refl _) (.cells #[.int .u8 (z:Int)] 5);have HO2:=Za (OwB.keep Ho.out hka);have Hrd:=Za (Zbl wr (z:Int) b Hz.out);have hbs:=hB.size;have hB0:=hB.alloc hB.size (.cells #[.int .u8 (z:Int)] 5);clear hka hB;go_wp2_with (at_builtin;refine Z4 rfl _ _ rfl w.heap.size (.slice av m cv) out (some ⟨wr.heap.size,0,none⟩) 1 1 [b] rfl rfl HO2.out Hrd.out rfl ?e3 ?e4 ?_)
     case e3=>have:=Hm.out;have:=Hol.out;simp;omega
     case e4=>first|exact hB0.size|omega
     intro v3 W3 own3 hg3 _;have hB3:Below w.heap.size w W3:=hB0.grown hg3 (by simp;omega) fun b hb=>(OwB.lt Ho.out b hb).1;have Hown3:=Za own3;clear own3 hg3 HO2 Hrd hB0;go_wp2;go_roundw
     case rel=>exact⟨k+1,out++[b],false,by omega,by simp,rfl,Hown3.out,HT3,by have:=Hm.out;have:=Hol.out;simp;omega,hB3⟩
     case measure=>simp[intOf];omega
    |true=>
     by_cases hm0:m=0
     ·have HT3:Hid (spB (out++[b]) false (s.data.toList.drop (k+1))=spB [] false s.data.toList):=by
       show _=_;have:out=[]:=List.length_eq_zero_iff.1 (by rw[←Hm.out];exact hm0);rw[←HT2.out,this];rfl
      clear HT2;have hmz:¬(0:Int)<(m:Int):=by omega
      have hmz2:¬0<m:=by omega
      clear hm0;go_wp2_with fail;refine Hbl.out.mono ?_;rintro e w1 ⟨rfl,rfl⟩;have hka:=(Below.refl wr.heap.size wr).alloc (Nat.le_refl _) (.cells #[.int .u8 (z:Int)] 5);have HO2:=Za (OwB.keep Ho.out hka);have Hrd:=Za (Zbl wr (z:Int) b Hz.out);have hbs:=hB.size;have hB0:=hB.alloc hB.size (.cells #[.int .u8 (z:Int)] 5);clear hka hB;go_wp2_with (at_builtin;refine Z4 rfl _ _ rfl w.heap.size (.slice av m cv) out (some ⟨wr.heap.size,0,none⟩) 1 1 [b] rfl rfl HO2.out Hrd.out rfl ?e3 ?e4 ?_)
      case e3=>have:=Hm.out;have:=Hol.out;simp;omega
      case e4=>first|exact hB0.size|omega
      intro v3 W3 own3 hg3 _;have hB3:Below w.heap.size w W3:=hB0.grown hg3 (by simp;omega) fun b hb=>(OwB.lt Ho.out b hb).1;have Hown3:=Za own3;clear own3 hg3 HO2 Hrd hB0;go_wp2;go_roundw
      case rel=>exact⟨k+1,out++[b],false,by omega,by simp,rfl,Hown3.out,HT3,by have:=Hm.out;have:=Hol.out;simp;omega,hB3⟩
      case measure=>simp[intOf];omega
     ·have HT3:Hid (spB (out++[32,b]) false (s.data.toList.drop (k+1))=spB [] false s.data.toList):=by
       show _=_;have:out≠ []:=fun e=>hm0 (by rw[Hm.out,e];rfl);rw[←HT2.out];unfold Zjw;rw[if_pos ⟨rfl,this⟩];simp
      clear HT2;have hmp:0<m:=by omega
      clear hm0;go_wp2_with fail;refine Hbl.out.mono ?_;rintro e w1 ⟨rfl,rfl⟩;have hka:=(Below.refl wr.heap.size wr).alloc (Nat.le_refl _) (.cells #[.int .u8 32] 5);have HO2:=Za (OwB.keep Ho.out hka);have Hrd:=Za (Zbl wr 32 (32:UInt8) rfl);have hbs:=hB.size;have hB0:=hB.alloc hB.size (.cells #[.int .u8 32] 5);clear hka hB;go_wp2_with (at_builtin;refine Z4 rfl _ _ rfl w.heap.size (.slice av m cv) out (some ⟨wr.heap.size,0,none⟩) 1 1 [32] rfl rfl HO2.out Hrd.out rfl ?e3 ?e4 ?_)
      case e3=>have:=Hm.out;have:=Hol.out;simp;omega
      case e4=>first|exact hB0.size|omega
      intro v3 W3 own3 hg3 _;have hB:Below w.heap.size w W3:=hB0.grown hg3 (by simp;omega) fun b hb=>(OwB.lt Ho.out b hb).1;have Ho0:=Ho;clear Ho;have Ho:=Za own3;obtain⟨av2,cv2,hv2⟩:=own3.forms;subst hv2;obtain⟨m2,hm2⟩:∃m,m=(out++[32]).length:=⟨_,rfl⟩;rw[←hm2]at Ho⊢;have hl2:m2=m+1:=by rw[hm2,List.length_append,←Hm.out];rfl
      have Hm2:=Za hm2;clear own3 hg3 HO2 Hrd hB0 Ho0 hm2;have hka:=(Below.refl W3.heap.size W3).alloc (Nat.le_refl _) (.cells #[.int .u8 (z:Int)] 5);have HO2:=Za (OwB.keep Ho.out hka);have Hrd:=Za (Zbl W3 (z:Int) b Hz.out);have hB0:=hB.alloc hB.size (.cells #[.int .u8 (z:Int)] 5);have Hl2:=Za hl2;clear hka hB hl2 hbs;go_wp2_with (at_builtin;refine Z4 rfl _ _ rfl w.heap.size (.slice av2 m2 cv2) (out++[32]) (some ⟨W3.heap.size,0,none⟩) 1 1 [b] rfl rfl HO2.out Hrd.out rfl ?e5 ?e6 ?_)
      case e5=>have:=Hm.out;have:=Hol.out;simp;omega
      case e6=>first|exact hB0.size|omega
      intro v3 W4 own3 hg3 _;have hB3:Below w.heap.size w W4:=hB0.grown hg3 hB0.size fun b hb=>(OwB.lt Ho.out b hb).1;have Hown3:=Za own3;clear own3 hg3 HO2 Hrd hB0;go_wp2;go_roundw
      case rel=>exact⟨k+1,out++[32,b],false,by omega,by simp,rfl,Hown3.out,HT3,by have:=Hm.out;have:=Hol.out;simp;omega,hB3⟩
      case measure=>simp[intOf];omega
  ·have hI:¬(k:Int)<(s.size:Int):=by omega
   have hx:out=spB [] false s.data.toList:=by rw[←HT.out,List.drop_eq_nil_of_le (by rw[show s.data.toList.length=s.size from Array.length_toList];omega)];rfl
   have hcv:=(OwB.rd Ho.out).str m cv Hm.out;have Hx:=Za hx;clear hx HT Ho;go_wp2;go_ret;exact⟨by rw[HF.out,←Hx.out];rfl,hB⟩
end Go.Proofs.YtnnfhojhbbcbmaaGreatDoor
