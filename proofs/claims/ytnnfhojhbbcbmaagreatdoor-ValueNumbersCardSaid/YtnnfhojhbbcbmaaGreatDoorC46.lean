/- The reference: Call (string-join, substring, string, string-length, concat). The reference: Call (normalize-space, upper-case, lower-case, contains, starts-with, ends-with). -/
import Derived.Test.YtnnfhojhbbcbmaaGreatDoorC38
import Derived.Test.YtnnfhojhbbcbmaaGreatDoorC43
import Derived.Test.YtnnfhojhbbcbmaaGreatDoorRi
import Derived.Test.YtnnfhojhbbcbmaaGreatDoorRj
namespace Go.Proofs.YtnnfhojhbbcbmaaGreatDoor
open Go.RowKit
set_option maxRecDepth 100000 in
set_option maxHeartbeats 16000000 in
theorem Zd1(nm:List UInt8)(body:List Lst→List It×Int)(hG:(nm=[115,116,114,105,110,103,45,106,111,105,110]∧body=joinV)∨(nm=[115,117,98,115,116,114,105,110,103]∧body=subV)∨(nm=[115,116,114,105,110,103]∧body=fT Zbx)∨(nm=[115,116,114,105,110,103,45,108,101,110,103,116,104]∧body=fT Zby)∨(nm=[99,111,110,99,97,116]∧body=fT ZaX))(p:Option Addr)(n c:Nat)(ls:List Lst)(w:World)(hr:Rd w p (ls.map Lst.v))(hok:OkAs w ls)(hR:∀x∈ls,∀y∈x.l,R64 y.num)(hsz:∀x∈ls,∀y∈x.l,y.text.size≤100000)(hL:∀x∈ls,x.l.length≤1000000)(hn:n=ls.length)(hnm:n≤1000):
  Calls Tryz.prog 37 #[.string ⟨nm.toArray⟩,.slice p n c] w (Res w (cR nm body ls).1 (cR nm body ls).2):=by
 have Hr:=Za hr;have Hok:=Za hok;have HR:=Za hR;have Hsz:=Za hsz;have HL:=Za hL;have Hn:=Za hn;obtain⟨JV,hJV⟩:∃x,x=cR nm body ls:=⟨_,rfl⟩;rw[←hJV];have HJV:Hid (JV=if rightL ls=true then(if knV nm n=true then body ls else([],241))else([],2)):=by show _=_;rw[hJV,hn];rfl
 have HG:=Za hG;clear hr hok hR hsz hL hn hJV hG;go_enter Tryz.func37,Tryz.ntmps37;go_wp2_with fail;go_loopw[6] (fun iv W=>∃k:Nat,k≤n∧iv= .int .i64 k∧Hid (∀x∈ls.take k,x.l.all okI=true)∧Below w.heap.size w W) (fun iv _=>n-(intOf iv).toNat)
 case atStart=>exact⟨0,Nat.zero_le _,rfl,Za (by simp),Below.refl _ _⟩
 case round=>
  obtain⟨k,hk,rfl,Hz,hB⟩:=hrel;by_cases hlt:k<n
  ·have hI:(k:Int)<(n:Int):=by omega
   obtain⟨x,hx⟩:∃x,ls[k]? =some x:=⟨_,List.getElem?_eq_getElem (by have:=Hn.out;omega)⟩;obtain⟨b1,off1,e1,hcz⟩:=(Hr.out.keep hB).cellAt k x.v (by simp[hx]);subst e1;have hix:=ZP b1 off1 n c k hlt;have Hx:=Za hx;have Hokx:=Za (Hok.out x (List.mem_of_getElem? hx));have Hmx:=Za (List.mem_of_getElem? hx);clear hx;obtain⟨xa,xl,xc⟩:=x;obtain⟨q,hq⟩:∃q,q=xl.length:=⟨_,rfl⟩;have hcx:wr.cell? ⟨b1,off1+k,none⟩=some (.slice xa q xc):=by rw[hq];exact hcz
   clear hcz;have Hq:=Za hq;clear hq;have hrt:=Za (Zt xa q xc xl wr ⟨Hokx.out.1.keep hB,Hokx.out.2⟩ Hq.out);rcases Bool.eq_false_or_eq_true (xl.all okI)with ha|ha
   ·rw[ha]at hrt
    have Hz2:Hid (∀x∈ls.take (k+1),x.l.all okI=true):=by
     show ∀x∈_,_;intro x hx;rw[List.take_add_one,Hx.out]at hx;rcases List.mem_append.1 hx with hx|hx
     ·exact Hz.out x hx
     ·simp at hx;subst hx;exact ha
    clear ha Hz;go_wp2_with fail;refine hrt.out.mono ?_;rintro e w4 ⟨rfl,hb4⟩;have hB4:=Zb hB hb4;clear hb4 hB hcx hix;go_wp2;go_roundw
    case rel=>exact⟨k+1,by omega,by simp,Hz2,hB4⟩
    case measure=>simp[intOf];omega
   ·rw[ha]at hrt;have HA:Hid (JV=([],2)):=by show _=_;rw[HJV.out,if_neg];intro h;unfold rightL at h;rw[List.all_eq_true]at h;have:=h _ Hmx.out;rw[ha]at this;cases this
    clear ha Hz;go_wp2_with fail;refine hrt.out.mono ?_;rintro e w4 ⟨rfl,hb4⟩;have hB4:=Zb hB hb4;clear hb4 hB hcx hix;go_wp2;go_ret2;exact⟨.slice none 0 0,by rw[HA.out];rfl,by rw[HA.out];exact OwI.nil _ _,hB4⟩
  ·have hI:¬(k:Int)<(n:Int):=by omega
   have hkn:k=n:=by omega
   subst hkn;have htk:ls.take k=ls:=List.take_of_length_le (by have:=Hn.out;omega);have hri:∀x∈ls,x.l.all okI=true:=by have:=Hz.out;rw[htk]at this;exact this
   have hrl:rightL ls=true:=by unfold rightL;rw[List.all_eq_true];exact hri
   rw[hrl,if_pos rfl]at HJV;have Hri:=Za hri;clear htk Hz hri hrl hk;go_wp2_with fail;rcases HG.out with⟨rfl,rfl⟩|⟨rfl,rfl⟩|⟨rfl,rfl⟩|⟨rfl,rfl⟩|⟨rfl,rfl⟩
   ·clear HG;rw[show knV [115,116,114,105,110,103,45,106,111,105,110] k=(decide (1≤k)&&decide (k≤2)) by exact Zoo (by decide) (by decide) (by decide) (by decide)]at HJV;refine(Zdf _).mono ?_;rintro e w4 ⟨rfl,rfl⟩;by_cases hkv:1≤k∧k≤2
    ·have HJ:Hid (JV=(joinV) ls):=by show _=_;rw[HJV.out,if_pos (by simp;omega)]
     have q1:¬(k:Int)<1:=by omega
     have q2:¬(2:Int)<(k:Int):=by omega
     clear HJV;have Hkv:=Za hkv;rcases(show k=1∨k=2 by omega)with hk1|hk2
     ·subst hk1;obtain⟨la,rfl⟩:=List.length_eq_one_iff.1 Hn.out.symm;obtain⟨b0,off0,e0,hcz⟩:=(Hr.out.keep hB).cellAt 0 la.v rfl;subst e0;rw[Nat.add_zero]at hcz;have hix0:=Zp b0 off0 1 c (by decide);have Hla:=Za (Hok.out la (by simp));have HlR:=Za (HR.out la (by simp));have HlS:=Za (Hsz.out la (by simp));have HlL:=Za (HL.out la (by simp));obtain⟨aa,al,ac⟩:=la;obtain⟨q,hq⟩:∃q,q=al.length:=⟨_,rfl⟩;have hc0:wr.cell? ⟨b0,off0,none⟩=some (.slice aa q ac):=by rw[hq];exact hcz
      clear hcz;have Hq:=Za hq;clear hq hkv;have HA9:Hid (JV=joinV [⟨aa,al,ac⟩]):=by show _=_;rw[HJ.out]
      obtain⟨J1,J2⟩:=JV;have hcon:=Za (Zg9 aa none q 0 ac 0 al [] wr ⟨Hla.out.1.keep hB,Hla.out.2⟩ ⟨.inl rfl,fun y hy=>(by cases hy),(by decide)⟩ (by rw[Hq.out];exact HlL.out) HlR.out HlS.out (fun y hy=>(by cases hy)) (fun y hy=>(by cases hy)) Hq.out rfl);rw[show joinV [⟨aa,al,ac⟩,⟨none,[],0⟩]=(J1,J2)from HA9.out.symm]at hcon;clear HA9;go_wp2_with fail;refine hcon.out.mono ?_;rintro e w9 ⟨v9,rfl,ho9,hb9⟩;have Ho9:=Za (ho9.mono hB.size);have hB9:=Zb hB hb9;clear ho9 hb9 hB;go_wp2;go_ret2;exact⟨v9,rfl,Ho9.out,hB9⟩
     ·subst hk2;obtain⟨la,lb,rfl⟩:=Zct Hn.out.symm;obtain⟨b0,off0,e0,hcz⟩:=(Hr.out.keep hB).cellAt 0 la.v rfl;subst e0;rw[Nat.add_zero]at hcz;obtain⟨b1,off1,e1,hczb⟩:=(Hr.out.keep hB).cellAt 1 lb.v rfl;injection e1 with e1;injection e1 with e1 e2;subst e1 e2;have hix0:=Zp b0 off0 2 c (by decide);have hix1:∀W,(Instr.indexAt 34 (.slice (some ⟨b0,off0,none⟩) 2 c) (.int .i64 1)).run Tryz.prog W= .ok (.pointer (some ⟨b0,off0+1,none⟩)) W:=ZP b0 off0 2 c 1 (by decide);have Hla:=Za (Hok.out la (by simp));have HlR:=Za (HR.out la (by simp));have HlS:=Za (Hsz.out la (by simp));have HlL:=Za (HL.out la (by simp));have Hlb:=Za (Hok.out lb (by simp));have HbR:=Za (HR.out lb (by simp));have HbS:=Za (Hsz.out lb (by simp));obtain⟨aa,al,ac⟩:=la;obtain⟨ba,bl,bc⟩:=lb;obtain⟨q,hq⟩:∃q,q=al.length:=⟨_,rfl⟩;have hc0:wr.cell? ⟨b0,off0,none⟩=some (.slice aa q ac):=by rw[hq];exact hcz
      obtain⟨qb,hqb⟩:∃q,q=bl.length:=⟨_,rfl⟩;have hc1:wr.cell? ⟨b0,off0+1,none⟩=some (.slice ba qb bc):=by rw[hqb];exact hczb
      clear hcz hczb;have Hq:=Za hq;have Hqb:=Za hqb;clear hq hqb hkv;have HA9:Hid (JV=joinV [⟨aa,al,ac⟩,⟨ba,bl,bc⟩]):=by show _=_;rw[HJ.out]
      obtain⟨J1,J2⟩:=JV;have hcon:∀W,Below wr.heap.size wr W→Calls Tryz.prog 83 #[.slice aa q ac,.slice ba qb bc] W (Res W J1 J2):=by intro W hW;have h:=Zg9 aa ba q qb ac bc al bl W ⟨(Hla.out.1.keep hB).keep hW,Hla.out.2⟩ ⟨(Hlb.out.1.keep hB).keep hW,Hlb.out.2⟩ (by rw[Hq.out];exact HlL.out) HlR.out HlS.out HbR.out HbS.out Hq.out Hqb.out;rw[show joinV [⟨aa,al,ac⟩,⟨ba,bl,bc⟩]=(J1,J2)from HA9.out.symm]at h;exact h
      have Hcon:=Za hcon;clear HA9 hcon;obtain⟨W0,rfl⟩:∃W0,W0=wr:=⟨_,rfl⟩;have hBw:=hB;clear hB;have hB:=Below.refl W0.heap.size W0;go_wp2_with fail;refine wp_region_facts (R:=RB W0.heap.size (⟨#[]⟩) (0)) [eqF _ _ _ 141 (.slice (some ⟨b0,off0,none⟩) 2 c),eqF _ _ _ 142 (.pointer (some ⟨b0,off0,none⟩)),eqF _ _ _ 143 (.slice aa q ac),eqF _ _ _ 144 (.slice (some ⟨b0,off0,none⟩) 2 c),eqF _ _ _ 145 (.pointer (some ⟨b0,off0+1,none⟩)),eqF _ _ _ 146 (.slice ba qb bc),Zcx _ _ _ 147 (fun x:Value×Unit=>Value.tuple #[x.1,.int .i64 J2]) (fun(x:Value×Unit) (W:World)=>OwI W W0.heap.size x.1 J1) (fun x w w1 hR h=>OwI.keep h hR.be),Zcx _ _ _ 148 (fun x:Value×Unit=>x.1) (fun(x:Value×Unit) (W:World)=>OwI W W0.heap.size x.1 J1) (fun x w w1 hR h=>OwI.keep h hR.be),eqF _ _ _ 149 (.int .i64 J2),Zcx _ _ _ 4 (fun x:Value×Unit=>x.1) (fun(x:Value×Unit) (W:World)=>OwI W W0.heap.size x.1 J1) (fun x w w1 hR h=>OwI.keep h hR.be),eqF _ _ _ 5 (.int .i64 J2)] (by kernel_rfl) (by kernel_rfl) (by kernel_rfl) (RB.refl (Nat.le_refl _)) (fun _ h=>h.again) (fun _ _ _ h k=>h.trans k) ?_ ?_
      ·refine stepsU_cons rfl ?_ (stepsU_cons rfl ?_ (stepsU_cons rfl ?_ (stepsU_cons rfl ?_ (stepsU_cons rfl ?_ (stepsU_cons rfl ?_ (stepsU_cons rfl ?_ (stepsU_cons rfl ?_ (stepsU_cons rfl ?_ (stepsU_cons rfl ?_ (stepsU_cons rfl ?_ (stepsU_nil)))))))))))
       ·refine stepU_plain rfl fun u wr hR hK hD=>?_;exact Zd _ _ rfl (hK 1 rfl) ⟨hR.again,rfl⟩
       ·refine stepU_plain rfl fun u wr hR hK hD=>?_;have z:u 141=_:=(hD 0 rfl);exact Ze _ (by unfold execOp;simp[go_sem,evU,z,hix0]) ⟨hR.again,rfl⟩
       ·refine stepU_plain rfl fun u wr hR hK hD=>?_;have z:u 142=_:=(hD 1 rfl);have z2:=Zc hR.be hc0;exact Ze _ (by unfold execOp;simp[go_sem,evU,z,z2]) ⟨hR.again,rfl⟩
       ·refine stepU_plain rfl fun u wr hR hK hD=>?_;exact Zd _ _ rfl (hK 1 rfl) ⟨hR.again,rfl⟩
       ·refine stepU_plain rfl fun u wr hR hK hD=>?_;have z:u 144=_:=(hD 3 rfl);exact Ze _ (by unfold execOp;simp[go_sem,evU,z,hix1]) ⟨hR.again,rfl⟩
       ·refine stepU_plain rfl fun u wr hR hK hD=>?_;have z:u 145=_:=(hD 4 rfl);have z2:=Zc hR.be hc1;exact Ze _ (by unfold execOp;simp[go_sem,evU,z,z2]) ⟨hR.again,rfl⟩
       ·refine stepU_plain rfl fun u wr hR hK hD=>?_;exact Z1 _ _ _ _ _ Tryz.func83 (by kernel_rfl) rfl (hD 2 rfl) (hD 5 rfl) ((Hcon.out wr ⟨hR.be.os,hR.be.tape,hR.be.output,hR.be.size,hR.be.block⟩).mono fun e wn ⟨v,he,ho,hb⟩=>⟨_,he,hR.next hb,⟨(v,()),rfl,OwI.mono ho hR.be.size⟩⟩)
       ·refine stepU_plain rfl fun u wr hR hK hD=>?_;obtain⟨x,h1,h2⟩:=(hD 6 rfl);exact Zaz _ 0 _ _ rfl h1 rfl ⟨hR.again,⟨x,rfl,h2⟩⟩
       ·refine stepU_plain rfl fun u wr hR hK hD=>?_;obtain⟨x,h1,h2⟩:=(hD 6 rfl);exact Zaz _ 1 _ _ rfl h1 rfl ⟨hR.again,rfl⟩
       ·refine stepU_plain rfl fun u wr hR hK hD=>?_;obtain⟨x,h1,h2⟩:=(hD 7 rfl);exact ZA _ _ rfl h1 ⟨hR.again,⟨x,rfl,h2⟩⟩
       ·refine stepU_plain rfl fun u wr hR hK hD=>?_;exact ZA _ _ rfl (hD 8 rfl) ⟨hR.again,rfl⟩
      intro u w5 hR hF;have e141:u 141= .slice (some ⟨b0,off0,none⟩) 2 c:=hF 0 (by decide);have e142:u 142= .pointer (some ⟨b0,off0,none⟩):=hF 1 (by decide);have e143:u 143= .slice aa q ac:=hF 2 (by decide);have e144:u 144= .slice (some ⟨b0,off0,none⟩) 2 c:=hF 3 (by decide);have e145:u 145= .pointer (some ⟨b0,off0+1,none⟩):=hF 4 (by decide);have e146:u 146= .slice ba qb bc:=hF 5 (by decide);have e149:u 149= .int .i64 J2:=hF 8 (by decide);have e5:u 5= .int .i64 J2:=hF 10 (by decide);obtain⟨⟨a147,p147⟩,e147,r147⟩:=hF 6 (by decide);dsimp only at e147 r147;obtain⟨⟨a148,p148⟩,e148,r148⟩:=hF 7 (by decide);dsimp only at e148 r148;obtain⟨⟨a4,p4⟩,e4,r4⟩:=hF 9 (by decide);dsimp only at e4 r4;simp only[ZaW,Act.put,List.setIfInBounds_toArray,List.set_cons_succ,List.set_cons_zero,e141,e142,e143,e144,e145,e146,e147,e148,e149,e4,e5];clear hF e141 e142 e143 e144 e145 e146 e147 e148 e149 e4 e5;have hB2:Below W0.heap.size W0 w5:=Zah hB.drew hB.size hR.be;have hb_w5:Below W0.heap.size W0 w5:=⟨hR.be.os,hR.be.tape,hR.be.output,hR.be.size,hR.be.block⟩;clear hB hR;have hB:=hB2;clear hB2;have hB9:=Zb hBw hb_w5;have Ho9:=Za (OwI.mono r4 hBw.size);clear hB hb_w5 hBw hc0 hc1 r4 r147 r148;go_wp2;go_ret2;exact⟨a4,rfl,Ho9.out,hB9⟩
    ·have HA:Hid (JV=([],241)):=by show _=_;rw[HJV.out,if_neg (by simp;omega)]
     clear HJV;by_cases hc:k<1
     ·have q1:(k:Int)<1:=by omega
      clear hkv hc;go_wp2;go_ret2;exact⟨.slice none 0 0,by rw[HA.out];rfl,by rw[HA.out];exact OwI.nil _ _,hB⟩
     ·have q1:¬(k:Int)<1:=by omega
      have q2:(2:Int)<(k:Int):=by omega
      clear hkv hc;go_wp2;go_ret2;exact⟨.slice none 0 0,by rw[HA.out];rfl,by rw[HA.out];exact OwI.nil _ _,hB⟩
   ·clear HG;rw[show knV [115,117,98,115,116,114,105,110,103] k=(decide (2≤k)&&decide (k≤3)) by exact Zop (by decide) (by decide) (by decide) (by decide) (by decide)]at HJV;refine(ZdZ _).mono ?_;rintro e w4 ⟨rfl,rfl⟩;by_cases hkv:2≤k∧k≤3
    ·have HJ:Hid (JV=(subV) ls):=by show _=_;rw[HJV.out,if_pos (by simp;omega)]
     have q1:¬(k:Int)<2:=by omega
     have q2:¬(3:Int)<(k:Int):=by omega
     clear HJV;have Hkv:=Za hkv
     obtain⟨la,lr,rfl⟩:∃a r,ls=a::r:=by
      cases ls with
      |nil=>have:=Hn.out;simp at this;omega
      |cons a r=>exact⟨a,r,rfl⟩
     obtain⟨b0,off0,e0,hcz⟩:=(Hr.out.keep hB).cellAt 0 la.v rfl;subst e0;clear hcz;have Hokw:=Za (show OkAs wr (la::lr)from OkAs.keep Hok.out hB);have hlr:lr.length=1∨lr.length=2:=by have:=Hn.out;simp at this;omega
     have Hlr:=Za hlr;clear hkv hlr;have HA9:Hid (JV=subV (la::lr)):=by exact HJ.out.trans rfl
     obtain⟨J1,J2⟩:=JV;have hcon:=Za (ZmI b0 off0 k c la lr wr (Hr.out.keep hB) Hokw.out HR.out Hsz.out Hri.out Hlr.out (by have:=Hn.out;simpa using this));rw[show subV (la::lr)=(J1,J2)from HA9.out.symm]at hcon;clear HA9;have HA9:Hid (((J1,J2):List It×Int)=(J1,J2)):=rfl;go_wp2_with fail;refine hcon.out.mono ?_;rintro e w9 ⟨v9,rfl,ho9,hb9⟩;have Ho9:=Za (ho9.mono hB.size);have hB9:=Zb hB hb9;clear ho9 hb9 hB HA9;go_wp2;go_ret2;exact⟨v9,rfl,Ho9.out,hB9⟩
    ·have HA:Hid (JV=([],241)):=by show _=_;rw[HJV.out,if_neg (by simp;omega)]
     clear HJV;by_cases hc:k<2
     ·have q1:(k:Int)<2:=by omega
      clear hkv hc;go_wp2;go_ret2;exact⟨.slice none 0 0,by rw[HA.out];rfl,by rw[HA.out];exact OwI.nil _ _,hB⟩
     ·have q1:¬(k:Int)<2:=by omega
      have q2:(3:Int)<(k:Int):=by omega
      clear hkv hc;go_wp2;go_ret2;exact⟨.slice none 0 0,by rw[HA.out];rfl,by rw[HA.out];exact OwI.nil _ _,hB⟩
   ·clear HG;rw[show knV [115,116,114,105,110,103] k=(decide (1≤k)&&decide (k≤1)) by exact Zbg (by decide) (by decide)]at HJV;refine(Zgp _).mono ?_;rintro e w4 ⟨rfl,rfl⟩;by_cases hkv:1≤k∧k≤1
    ·have HJ:Hid (JV=(fT Zbx) ls):=by show _=_;rw[HJV.out,if_pos (by simp;omega)]
     have q1:¬(k:Int)<1:=by omega
     have q2:¬(1:Int)<(k:Int):=by omega
     clear HJV;have Hkv:=Za hkv;clear hkv;have Hokw:=Za (show OkAs wr ls from OkAs.keep Hok.out hB);have HA9:Hid (JV=fT Zbx ls):=by exact HJ.out.trans rfl
     obtain⟨J1,J2⟩:=JV;have hcon:=Za (ZaG _ _ p k c ls wr (Hr.out.keep hB) Hokw.out HR.out Hsz.out Hri.out Hn.out hnm (.inl ⟨rfl,rfl,(by have:=Hkv.out;omega)⟩));rw[show fT Zbx ls=(J1,J2)from HA9.out.symm]at hcon;clear HA9;have HA9:Hid (((J1,J2):List It×Int)=(J1,J2)):=rfl;go_wp2_with fail;refine hcon.out.mono ?_;rintro e w9 ⟨v9,rfl,ho9,hb9⟩;have Ho9:=Za (ho9.mono hB.size);have hB9:=Zb hB hb9;clear ho9 hb9 hB HA9;go_wp2;go_ret2;exact⟨v9,rfl,Ho9.out,hB9⟩
    ·have HA:Hid (JV=([],241)):=by show _=_;rw[HJV.out,if_neg (by simp;omega)]
     clear HJV;by_cases hc:k<1
     ·have q1:(k:Int)<1:=by omega
      clear hkv hc;go_wp2;go_ret2;exact⟨.slice none 0 0,by rw[HA.out];rfl,by rw[HA.out];exact OwI.nil _ _,hB⟩
     ·have q1:¬(k:Int)<1:=by omega
      have q2:(1:Int)<(k:Int):=by omega
      clear hkv hc;go_wp2;go_ret2;exact⟨.slice none 0 0,by rw[HA.out];rfl,by rw[HA.out];exact OwI.nil _ _,hB⟩
   ·clear HG;rw[show knV [115,116,114,105,110,103,45,108,101,110,103,116,104] k=(decide (1≤k)&&decide (k≤1)) by exact Zbg (by decide) (by decide)]at HJV;refine(ZcA _).mono ?_;rintro e w4 ⟨rfl,rfl⟩;by_cases hkv:1≤k∧k≤1
    ·have HJ:Hid (JV=(fT Zby) ls):=by show _=_;rw[HJV.out,if_pos (by simp;omega)]
     have q1:¬(k:Int)<1:=by omega
     have q2:¬(1:Int)<(k:Int):=by omega
     clear HJV;have Hkv:=Za hkv;clear hkv;have Hokw:=Za (show OkAs wr ls from OkAs.keep Hok.out hB);have HA9:Hid (JV=fT Zby ls):=by exact HJ.out.trans rfl
     obtain⟨J1,J2⟩:=JV;have hcon:=Za (ZaG _ _ p k c ls wr (Hr.out.keep hB) Hokw.out HR.out Hsz.out Hri.out Hn.out hnm (.inr (.inl ⟨rfl,rfl,(by have:=Hkv.out;omega)⟩)));rw[show fT Zby ls=(J1,J2)from HA9.out.symm]at hcon;clear HA9;have HA9:Hid (((J1,J2):List It×Int)=(J1,J2)):=rfl;go_wp2_with fail;refine hcon.out.mono ?_;rintro e w9 ⟨v9,rfl,ho9,hb9⟩;have Ho9:=Za (ho9.mono hB.size);have hB9:=Zb hB hb9;clear ho9 hb9 hB HA9;go_wp2;go_ret2;exact⟨v9,rfl,Ho9.out,hB9⟩
    ·have HA:Hid (JV=([],241)):=by show _=_;rw[HJV.out,if_neg (by simp;omega)]
     clear HJV;by_cases hc:k<1
     ·have q1:(k:Int)<1:=by omega
      clear hkv hc;go_wp2;go_ret2;exact⟨.slice none 0 0,by rw[HA.out];rfl,by rw[HA.out];exact OwI.nil _ _,hB⟩
     ·have q1:¬(k:Int)<1:=by omega
      have q2:(1:Int)<(k:Int):=by omega
      clear hkv hc;go_wp2;go_ret2;exact⟨.slice none 0 0,by rw[HA.out];rfl,by rw[HA.out];exact OwI.nil _ _,hB⟩
   ·clear HG;rw[show knV [99,111,110,99,97,116] k=(decide (2≤k)&&decide (k≤60)) by exact Zoq (by decide) (by decide) (by decide) (by decide) (by decide) (by decide)]at HJV;refine(Zgr _).mono ?_;rintro e w4 ⟨rfl,rfl⟩;by_cases hkv:2≤k∧k≤60
    ·have HJ:Hid (JV=(fT ZaX) ls):=by show _=_;rw[HJV.out,if_pos (by simp;omega)]
     have q1:¬(k:Int)<2:=by omega
     have q2:¬(60:Int)<(k:Int):=by omega
     clear HJV;have Hkv:=Za hkv;clear hkv;have Hokw:=Za (show OkAs wr ls from OkAs.keep Hok.out hB);have HA9:Hid (JV=fT ZaX ls):=by exact HJ.out.trans rfl
     obtain⟨J1,J2⟩:=JV;have hcon:=Za (ZaG _ _ p k c ls wr (Hr.out.keep hB) Hokw.out HR.out Hsz.out Hri.out Hn.out hnm (.inr (.inr (.inl ⟨rfl,rfl,trivial⟩))));rw[show fT ZaX ls=(J1,J2)from HA9.out.symm]at hcon;clear HA9;have HA9:Hid (((J1,J2):List It×Int)=(J1,J2)):=rfl;go_wp2_with fail;refine hcon.out.mono ?_;rintro e w9 ⟨v9,rfl,ho9,hb9⟩;have Ho9:=Za (ho9.mono hB.size);have hB9:=Zb hB hb9;clear ho9 hb9 hB HA9;go_wp2;go_ret2;exact⟨v9,rfl,Ho9.out,hB9⟩
    ·have HA:Hid (JV=([],241)):=by show _=_;rw[HJV.out,if_neg (by simp;omega)]
     clear HJV;by_cases hc:k<2
     ·have q1:(k:Int)<2:=by omega
      clear hkv hc;go_wp2;go_ret2;exact⟨.slice none 0 0,by rw[HA.out];rfl,by rw[HA.out];exact OwI.nil _ _,hB⟩
     ·have q1:¬(k:Int)<2:=by omega
      have q2:(60:Int)<(k:Int):=by omega
      clear hkv hc;go_wp2;go_ret2;exact⟨.slice none 0 0,by rw[HA.out];rfl,by rw[HA.out];exact OwI.nil _ _,hB⟩
end Go.Proofs.YtnnfhojhbbcbmaaGreatDoor
namespace Go.Proofs.YtnnfhojhbbcbmaaGreatDoor
open Go.RowKit
set_option maxRecDepth 100000 in
set_option maxHeartbeats 16000000 in
theorem Zdc(nm:List UInt8)(body:List Lst→List It×Int)(hG:(nm=[110,111,114,109,97,108,105,122,101,45,115,112,97,99,101]∧body=fT ZdA)∨(nm=[117,112,112,101,114,45,99,97,115,101]∧body=fT Zcc)∨(nm=[108,111,119,101,114,45,99,97,115,101]∧body=fT Zcd)∨(nm=[99,111,110,116,97,105,110,115]∧body=fT ZaF)∨(nm=[115,116,97,114,116,115,45,119,105,116,104]∧body=fT Zbz)∨(nm=[101,110,100,115,45,119,105,116,104]∧body=fT Zer))(p:Option Addr)(n c:Nat)(ls:List Lst)(w:World)(hr:Rd w p (ls.map Lst.v))(hok:OkAs w ls)(hR:∀x∈ls,∀y∈x.l,R64 y.num)(hsz:∀x∈ls,∀y∈x.l,y.text.size≤100000)(hL:∀x∈ls,x.l.length≤1000000)(hn:n=ls.length)(hnm:n≤1000):
  Calls Tryz.prog 37 #[.string ⟨nm.toArray⟩,.slice p n c] w (Res w (cR nm body ls).1 (cR nm body ls).2):=by
 have Hr:=Za hr;have Hok:=Za hok;have HR:=Za hR;have Hsz:=Za hsz;have HL:=Za hL;have Hn:=Za hn;obtain⟨JV,hJV⟩:∃x,x=cR nm body ls:=⟨_,rfl⟩;rw[←hJV];have HJV:Hid (JV=if rightL ls=true then(if knV nm n=true then body ls else([],241))else([],2)):=by show _=_;rw[hJV,hn];rfl
 have HG:=Za hG;clear hr hok hR hsz hL hn hJV hG;go_enter Tryz.func37,Tryz.ntmps37;go_wp2_with fail;go_loopw[6] (fun iv W=>∃k:Nat,k≤n∧iv= .int .i64 k∧Hid (∀x∈ls.take k,x.l.all okI=true)∧Below w.heap.size w W) (fun iv _=>n-(intOf iv).toNat)
 case atStart=>exact⟨0,Nat.zero_le _,rfl,Za (by simp),Below.refl _ _⟩
 case round=>
  obtain⟨k,hk,rfl,Hz,hB⟩:=hrel;by_cases hlt:k<n
  ·have hI:(k:Int)<(n:Int):=by omega
   obtain⟨x,hx⟩:∃x,ls[k]? =some x:=⟨_,List.getElem?_eq_getElem (by have:=Hn.out;omega)⟩;obtain⟨b1,off1,e1,hcz⟩:=(Hr.out.keep hB).cellAt k x.v (by simp[hx]);subst e1;have hix:=ZP b1 off1 n c k hlt;have Hx:=Za hx;have Hokx:=Za (Hok.out x (List.mem_of_getElem? hx));have Hmx:=Za (List.mem_of_getElem? hx);clear hx;obtain⟨xa,xl,xc⟩:=x;obtain⟨q,hq⟩:∃q,q=xl.length:=⟨_,rfl⟩;have hcx:wr.cell? ⟨b1,off1+k,none⟩=some (.slice xa q xc):=by rw[hq];exact hcz
   clear hcz;have Hq:=Za hq;clear hq;have hrt:=Za (Zt xa q xc xl wr ⟨Hokx.out.1.keep hB,Hokx.out.2⟩ Hq.out);rcases Bool.eq_false_or_eq_true (xl.all okI)with ha|ha
   ·rw[ha]at hrt
    have Hz2:Hid (∀x∈ls.take (k+1),x.l.all okI=true):=by
     show ∀x∈_,_;intro x hx;rw[List.take_add_one,Hx.out]at hx;rcases List.mem_append.1 hx with hx|hx
     ·exact Hz.out x hx
     ·simp at hx;subst hx;exact ha
    clear ha Hz;go_wp2_with fail;refine hrt.out.mono ?_;rintro e w4 ⟨rfl,hb4⟩;have hB4:=Zb hB hb4;clear hb4 hB hcx hix;go_wp2;go_roundw
    case rel=>exact⟨k+1,by omega,by simp,Hz2,hB4⟩
    case measure=>simp[intOf];omega
   ·rw[ha]at hrt;have HA:Hid (JV=([],2)):=by show _=_;rw[HJV.out,if_neg];intro h;unfold rightL at h;rw[List.all_eq_true]at h;have:=h _ Hmx.out;rw[ha]at this;cases this
    clear ha Hz;go_wp2_with fail;refine hrt.out.mono ?_;rintro e w4 ⟨rfl,hb4⟩;have hB4:=Zb hB hb4;clear hb4 hB hcx hix;go_wp2;go_ret2;exact⟨.slice none 0 0,by rw[HA.out];rfl,by rw[HA.out];exact OwI.nil _ _,hB4⟩
  ·have hI:¬(k:Int)<(n:Int):=by omega
   have hkn:k=n:=by omega
   subst hkn;have htk:ls.take k=ls:=List.take_of_length_le (by have:=Hn.out;omega);have hri:∀x∈ls,x.l.all okI=true:=by have:=Hz.out;rw[htk]at this;exact this
   have hrl:rightL ls=true:=by unfold rightL;rw[List.all_eq_true];exact hri
   rw[hrl,if_pos rfl]at HJV;have Hri:=Za hri;clear htk Hz hri hrl hk;go_wp2_with fail;rcases HG.out with⟨rfl,rfl⟩|⟨rfl,rfl⟩|⟨rfl,rfl⟩|⟨rfl,rfl⟩|⟨rfl,rfl⟩|⟨rfl,rfl⟩
   ·clear HG;rw[show knV [110,111,114,109,97,108,105,122,101,45,115,112,97,99,101] k=(decide (1≤k)&&decide (k≤1)) by exact Zbg (by decide) (by decide)]at HJV;refine(Zb3 _).mono ?_;rintro e w4 ⟨rfl,rfl⟩;by_cases hkv:1≤k∧k≤1
    ·have HJ:Hid (JV=(fT ZdA) ls):=by show _=_;rw[HJV.out,if_pos (by simp;omega)]
     have q1:¬(k:Int)<1:=by omega
     have q2:¬(1:Int)<(k:Int):=by omega
     clear HJV;have Hkv:=Za hkv;clear hkv;have Hokw:=Za (show OkAs wr ls from OkAs.keep Hok.out hB);have HA9:Hid (JV=fT ZdA ls):=by exact HJ.out.trans rfl
     obtain⟨J1,J2⟩:=JV;have hcon:=Za (ZaG _ _ p k c ls wr (Hr.out.keep hB) Hokw.out HR.out Hsz.out Hri.out Hn.out hnm (.inr (.inr (.inr (.inl ⟨rfl,rfl,(by have:=Hkv.out;omega)⟩)))));rw[show fT ZdA ls=(J1,J2)from HA9.out.symm]at hcon;clear HA9;have HA9:Hid (((J1,J2):List It×Int)=(J1,J2)):=rfl;go_wp2_with fail;refine hcon.out.mono ?_;rintro e w9 ⟨v9,rfl,ho9,hb9⟩;have Ho9:=Za (ho9.mono hB.size);have hB9:=Zb hB hb9;clear ho9 hb9 hB HA9;go_wp2;go_ret2;exact⟨v9,rfl,Ho9.out,hB9⟩
    ·have HA:Hid (JV=([],241)):=by show _=_;rw[HJV.out,if_neg (by simp;omega)]
     clear HJV;by_cases hc:k<1
     ·have q1:(k:Int)<1:=by omega
      clear hkv hc;go_wp2;go_ret2;exact⟨.slice none 0 0,by rw[HA.out];rfl,by rw[HA.out];exact OwI.nil _ _,hB⟩
     ·have q1:¬(k:Int)<1:=by omega
      have q2:(1:Int)<(k:Int):=by omega
      clear hkv hc;go_wp2;go_ret2;exact⟨.slice none 0 0,by rw[HA.out];rfl,by rw[HA.out];exact OwI.nil _ _,hB⟩
   ·clear HG;rw[show knV [117,112,112,101,114,45,99,97,115,101] k=(decide (1≤k)&&decide (k≤1)) by exact Zbg (by decide) (by decide)]at HJV;refine(Zdn _).mono ?_;rintro e w4 ⟨rfl,rfl⟩;by_cases hkv:1≤k∧k≤1
    ·have HJ:Hid (JV=(fT Zcc) ls):=by show _=_;rw[HJV.out,if_pos (by simp;omega)]
     have q1:¬(k:Int)<1:=by omega
     have q2:¬(1:Int)<(k:Int):=by omega
     clear HJV;have Hkv:=Za hkv;clear hkv;have Hokw:=Za (show OkAs wr ls from OkAs.keep Hok.out hB);have HA9:Hid (JV=fT Zcc ls):=by exact HJ.out.trans rfl
     obtain⟨J1,J2⟩:=JV;have hcon:=Za (ZaG _ _ p k c ls wr (Hr.out.keep hB) Hokw.out HR.out Hsz.out Hri.out Hn.out hnm (.inr (.inr (.inr (.inr (.inl ⟨rfl,rfl,(by have:=Hkv.out;omega)⟩))))));rw[show fT Zcc ls=(J1,J2)from HA9.out.symm]at hcon;clear HA9;have HA9:Hid (((J1,J2):List It×Int)=(J1,J2)):=rfl;go_wp2_with fail;refine hcon.out.mono ?_;rintro e w9 ⟨v9,rfl,ho9,hb9⟩;have Ho9:=Za (ho9.mono hB.size);have hB9:=Zb hB hb9;clear ho9 hb9 hB HA9;go_wp2;go_ret2;exact⟨v9,rfl,Ho9.out,hB9⟩
    ·have HA:Hid (JV=([],241)):=by show _=_;rw[HJV.out,if_neg (by simp;omega)]
     clear HJV;by_cases hc:k<1
     ·have q1:(k:Int)<1:=by omega
      clear hkv hc;go_wp2;go_ret2;exact⟨.slice none 0 0,by rw[HA.out];rfl,by rw[HA.out];exact OwI.nil _ _,hB⟩
     ·have q1:¬(k:Int)<1:=by omega
      have q2:(1:Int)<(k:Int):=by omega
      clear hkv hc;go_wp2;go_ret2;exact⟨.slice none 0 0,by rw[HA.out];rfl,by rw[HA.out];exact OwI.nil _ _,hB⟩
   ·clear HG;rw[show knV [108,111,119,101,114,45,99,97,115,101] k=(decide (1≤k)&&decide (k≤1)) by exact Zbg (by decide) (by decide)]at HJV;refine(Zdo _).mono ?_;rintro e w4 ⟨rfl,rfl⟩;by_cases hkv:1≤k∧k≤1
    ·have HJ:Hid (JV=(fT Zcd) ls):=by show _=_;rw[HJV.out,if_pos (by simp;omega)]
     have q1:¬(k:Int)<1:=by omega
     have q2:¬(1:Int)<(k:Int):=by omega
     clear HJV;have Hkv:=Za hkv;clear hkv;have Hokw:=Za (show OkAs wr ls from OkAs.keep Hok.out hB);have HA9:Hid (JV=fT Zcd ls):=by exact HJ.out.trans rfl
     obtain⟨J1,J2⟩:=JV;have hcon:=Za (ZaG _ _ p k c ls wr (Hr.out.keep hB) Hokw.out HR.out Hsz.out Hri.out Hn.out hnm (.inr (.inr (.inr (.inr (.inr (.inl ⟨rfl,rfl,(by have:=Hkv.out;omega)⟩)))))));rw[show fT Zcd ls=(J1,J2)from HA9.out.symm]at hcon;clear HA9;have HA9:Hid (((J1,J2):List It×Int)=(J1,J2)):=rfl;go_wp2_with fail;refine hcon.out.mono ?_;rintro e w9 ⟨v9,rfl,ho9,hb9⟩;have Ho9:=Za (ho9.mono hB.size);have hB9:=Zb hB hb9;clear ho9 hb9 hB HA9;go_wp2;go_ret2;exact⟨v9,rfl,Ho9.out,hB9⟩
    ·have HA:Hid (JV=([],241)):=by show _=_;rw[HJV.out,if_neg (by simp;omega)]
     clear HJV;by_cases hc:k<1
     ·have q1:(k:Int)<1:=by omega
      clear hkv hc;go_wp2;go_ret2;exact⟨.slice none 0 0,by rw[HA.out];rfl,by rw[HA.out];exact OwI.nil _ _,hB⟩
     ·have q1:¬(k:Int)<1:=by omega
      have q2:(1:Int)<(k:Int):=by omega
      clear hkv hc;go_wp2;go_ret2;exact⟨.slice none 0 0,by rw[HA.out];rfl,by rw[HA.out];exact OwI.nil _ _,hB⟩
   ·clear HG;rw[show knV [99,111,110,116,97,105,110,115] k=(decide (2≤k)&&decide (k≤2)) by exact ZlJ (by decide) (by decide) (by decide)]at HJV;refine(Zex _).mono ?_;rintro e w4 ⟨rfl,rfl⟩;by_cases hkv:2≤k∧k≤2
    ·have HJ:Hid (JV=(fT ZaF) ls):=by show _=_;rw[HJV.out,if_pos (by simp;omega)]
     have q1:¬(k:Int)<2:=by omega
     have q2:¬(2:Int)<(k:Int):=by omega
     clear HJV;have Hkv:=Za hkv;clear hkv;have Hokw:=Za (show OkAs wr ls from OkAs.keep Hok.out hB);have HA9:Hid (JV=fT ZaF ls):=by exact HJ.out.trans rfl
     obtain⟨J1,J2⟩:=JV;have hcon:=Za (ZaG _ _ p k c ls wr (Hr.out.keep hB) Hokw.out HR.out Hsz.out Hri.out Hn.out hnm (.inr (.inr (.inr (.inr (.inr (.inr (.inl ⟨rfl,rfl,(by have:=Hkv.out;omega)⟩))))))));rw[show fT ZaF ls=(J1,J2)from HA9.out.symm]at hcon;clear HA9;have HA9:Hid (((J1,J2):List It×Int)=(J1,J2)):=rfl;go_wp2_with fail;refine hcon.out.mono ?_;rintro e w9 ⟨v9,rfl,ho9,hb9⟩;have Ho9:=Za (ho9.mono hB.size);have hB9:=Zb hB hb9;clear ho9 hb9 hB HA9;go_wp2;go_ret2;exact⟨v9,rfl,Ho9.out,hB9⟩
    ·have HA:Hid (JV=([],241)):=by show _=_;rw[HJV.out,if_neg (by simp;omega)]
     clear HJV;by_cases hc:k<2
     ·have q1:(k:Int)<2:=by omega
      clear hkv hc;go_wp2;go_ret2;exact⟨.slice none 0 0,by rw[HA.out];rfl,by rw[HA.out];exact OwI.nil _ _,hB⟩
     ·have q1:¬(k:Int)<2:=by omega
      have q2:(2:Int)<(k:Int):=by omega
      clear hkv hc;go_wp2;go_ret2;exact⟨.slice none 0 0,by rw[HA.out];rfl,by rw[HA.out];exact OwI.nil _ _,hB⟩
   ·clear HG;rw[show knV [115,116,97,114,116,115,45,119,105,116,104] k=(decide (2≤k)&&decide (k≤2)) by exact ZlJ (by decide) (by decide) (by decide)]at HJV;refine(Zde _).mono ?_;rintro e w4 ⟨rfl,rfl⟩;by_cases hkv:2≤k∧k≤2
    ·have HJ:Hid (JV=(fT Zbz) ls):=by show _=_;rw[HJV.out,if_pos (by simp;omega)]
     have q1:¬(k:Int)<2:=by omega
     have q2:¬(2:Int)<(k:Int):=by omega
     clear HJV;have Hkv:=Za hkv;clear hkv;have Hokw:=Za (show OkAs wr ls from OkAs.keep Hok.out hB);have HA9:Hid (JV=fT Zbz ls):=by exact HJ.out.trans rfl
     obtain⟨J1,J2⟩:=JV;have hcon:=Za (ZaG _ _ p k c ls wr (Hr.out.keep hB) Hokw.out HR.out Hsz.out Hri.out Hn.out hnm (.inr (.inr (.inr (.inr (.inr (.inr (.inr (.inl ⟨rfl,rfl,(by have:=Hkv.out;omega)⟩)))))))));rw[show fT Zbz ls=(J1,J2)from HA9.out.symm]at hcon;clear HA9;have HA9:Hid (((J1,J2):List It×Int)=(J1,J2)):=rfl;go_wp2_with fail;refine hcon.out.mono ?_;rintro e w9 ⟨v9,rfl,ho9,hb9⟩;have Ho9:=Za (ho9.mono hB.size);have hB9:=Zb hB hb9;clear ho9 hb9 hB HA9;go_wp2;go_ret2;exact⟨v9,rfl,Ho9.out,hB9⟩
    ·have HA:Hid (JV=([],241)):=by show _=_;rw[HJV.out,if_neg (by simp;omega)]
     clear HJV;by_cases hc:k<2
     ·have q1:(k:Int)<2:=by omega
      clear hkv hc;go_wp2;go_ret2;exact⟨.slice none 0 0,by rw[HA.out];rfl,by rw[HA.out];exact OwI.nil _ _,hB⟩
     ·have q1:¬(k:Int)<2:=by omega
      have q2:(2:Int)<(k:Int):=by omega
      clear hkv hc;go_wp2;go_ret2;exact⟨.slice none 0 0,by rw[HA.out];rfl,by rw[HA.out];exact OwI.nil _ _,hB⟩
   ·clear HG;rw[show knV [101,110,100,115,45,119,105,116,104] k=(decide (2≤k)&&decide (k≤2)) by exact ZlJ (by decide) (by decide) (by decide)]at HJV;refine(ZdY _).mono ?_;rintro e w4 ⟨rfl,rfl⟩;by_cases hkv:2≤k∧k≤2
    ·have HJ:Hid (JV=(fT Zer) ls):=by show _=_;rw[HJV.out,if_pos (by simp;omega)]
     have q1:¬(k:Int)<2:=by omega
     have q2:¬(2:Int)<(k:Int):=by omega
     clear HJV;have Hkv:=Za hkv;clear hkv;have Hokw:=Za (show OkAs wr ls from OkAs.keep Hok.out hB);have HA9:Hid (JV=fT Zer ls):=by exact HJ.out.trans rfl
     obtain⟨J1,J2⟩:=JV;have hcon:=Za (ZaG _ _ p k c ls wr (Hr.out.keep hB) Hokw.out HR.out Hsz.out Hri.out Hn.out hnm (.inr (.inr (.inr (.inr (.inr (.inr (.inr (.inr ⟨rfl,rfl,(by have:=Hkv.out;omega)⟩)))))))));rw[show fT Zer ls=(J1,J2)from HA9.out.symm]at hcon;clear HA9;have HA9:Hid (((J1,J2):List It×Int)=(J1,J2)):=rfl;go_wp2_with fail;refine hcon.out.mono ?_;rintro e w9 ⟨v9,rfl,ho9,hb9⟩;have Ho9:=Za (ho9.mono hB.size);have hB9:=Zb hB hb9;clear ho9 hb9 hB HA9;go_wp2;go_ret2;exact⟨v9,rfl,Ho9.out,hB9⟩
    ·have HA:Hid (JV=([],241)):=by show _=_;rw[HJV.out,if_neg (by simp;omega)]
     clear HJV;by_cases hc:k<2
     ·have q1:(k:Int)<2:=by omega
      clear hkv hc;go_wp2;go_ret2;exact⟨.slice none 0 0,by rw[HA.out];rfl,by rw[HA.out];exact OwI.nil _ _,hB⟩
     ·have q1:¬(k:Int)<2:=by omega
      have q2:(2:Int)<(k:Int):=by omega
      clear hkv hc;go_wp2;go_ret2;exact⟨.slice none 0 0,by rw[HA.out];rfl,by rw[HA.out];exact OwI.nil _ _,hB⟩
end Go.Proofs.YtnnfhojhbbcbmaaGreatDoor
