/- ValueCalls: the walk. ValueNumbers answers true. What the rows of the Value laws list: what the walks ask of the world. -/
import Derived.Test.YtnnfhojhbbcbmaaGreatDoorC47
import Derived.Test.YtnnfhojhbbcbmaaGreatDoorC30
import Derived.Test.YtnnfhojhbbcbmaaGreatDoorNz
import Derived.Test.YtnnfhojhbbcbmaaGreatDoorC20
import Derived.Test.YtnnfhojhbbcbmaaGreatDoorC36
import Derived.Test.YtnnfhojhbbcbmaaGreatDoorRows
import Derived.Test.YtnnfhojhbbcbmaaGreatDoorC13
import Derived.Lib.LaidU8
import Derived.LaidLaws
import Derived.Lay
import Derived.SevenTiedAt
import Derived.LaidOnce
import Derived.LaidMore
import Derived.MakeChecks
import Derived.WalkKit
import Derived.ProofKit
import Derived.OpenShut
import Derived.Stop.Joined
namespace Go.Proofs.YtnnfhojhbbcbmaaGreatDoor
open Go.RowKit
theorem PreC.keep {w W:World}{p:Option Addr}{n:Nat}{ls:List Lst}(h:PreC w p n ls)(hb:Below w.heap.size w W):PreC W p n ls:=⟨h.r.keep hb,h.ok.keep hb,h.R,h.s,h.L,h.q,h.m⟩
set_option maxRecDepth 100000 in
set_option maxHeartbeats 8000000 in
theorem Zgx(name:ByteArray)(p:Option Addr)(n c:Nat)(ls:List Lst)(m:Int)(w:World)(he:Env w)(hm:w.cell? ⟨1,0,none⟩=some (.int .i64 m))(hc:Counts w)(hr:Rd w p (ls.map Lst.v))(hok:OkAs w ls)(hR:∀x∈ls,∀y∈x.l,R64 y.num)(hn:n=ls.length)(hle:n<9223372036854775807):
  Calls Tryz.prog 12 #[.string name,.slice p n c] w fun e w'=>e= .returned (.bool true)∧Below w.heap.size w w':=by
 obtain⟨i1,hi1,hi2,hi3,hi4⟩:=info_parts ZeT;have Hi:Hid (Tryz.prog.info? 28=some i1∧i1.zero=some (.slice none 0 0)∧i1.size=1∧i1.bytes=24):=⟨hi1,hi2,hi3,hi4⟩;have He:=Za he;have Hm:=Za hm;have Hc:=Za hc;have Hr:=Za hr;have Hok:=Za hok;have HR:=Za hR;have Hn:=Za hn;clear hi1 hi2 hi3 hi4 he hm hc hr hok hR hn;go_enter Tryz.func12,Tryz.ntmps12;go_wp2_with fail;refine(Zfp p n c ls _ Hn.out hle Hr.out Hok.out).mono ?_;rintro e w1 ⟨⟨q,rfl,hq⟩,hB1⟩;by_cases hq0:q=0
 ·subst hq0;clear hq;go_wp2_with fail;refine(ZaY m _ (He.out.keep hB1) (Zc hB1 Hm.out) (Hc.out.keep hB1)).mono ?_;rintro e w99 ⟨rfl,hb99⟩;have hB99:=Zb hB1 hb99;go_wp2;go_ret;exact⟨rfl,hB99⟩
 ·have hqq:=hq hq0;have H300:=Za hqq.1;have Hsm:=Za hqq.2;have hqf:(q==0)=false:=by simpa using hq0
  rw[hqf];clear hq hqq hqf hq0;by_cases h1000:(1000:Int)<(name.size:Int)
  ·go_wp2_with fail;refine(ZaY m _ (He.out.keep hB1) (Zc hB1 Hm.out) (Hc.out.keep hB1)).mono ?_;rintro e w99 ⟨rfl,hb99⟩;have hB99:=Zb hB1 hb99;go_wp2;go_ret;exact⟨rfl,hB99⟩
  ·have hs1000:name.size≤1000:=by omega
   by_cases h20:(20:Int)<(n:Int)
   ·go_wp2_with fail;refine(ZaY m _ (He.out.keep hB1) (Zc hB1 Hm.out) (Hc.out.keep hB1)).mono ?_;rintro e w99 ⟨rfl,hb99⟩;have hB99:=Zb hB1 hb99;go_wp2;go_ret;exact⟨rfl,hB99⟩
   ·have hn20:n≤20:=by omega
    obtain⟨V,hV1,hV2,hV3⟩:=ZlD name hs1000;have HV1:=Za hV1;have HV2:=Za hV2;have HV3:=Za hV3;clear hV1 hV2 hV3;go_wp2_with fail;go_loopw[5,6] (fun v iv W=>∃(k:Nat) (L:List Lst),k≤n∧iv= .int .i64 k∧InQ w1 W k v ls L) (fun _ iv _=>n-(intOf iv).toNat)
    case atStart=>exact⟨0,[],Nat.zero_le _,rfl,InQ.start w1 ls⟩
    case round=>
     obtain⟨k,L,hk,rfl,I⟩:=hrel;by_cases hlt:k<n
     ·have hI:(k:Int)<(n:Int):=by omega
      obtain⟨x,hx⟩:∃x,ls[k]? =some x:=⟨_,List.getElem?_eq_getElem (by have:=Hn.out;omega)⟩;obtain⟨b,off,rfl,hcl⟩:=Hr.out.cellAt k x.v (by simp[hx]);have hix:=ZP b off n c k hlt;have Hxo:=Za (Hok.out x (List.mem_of_getElem? hx));have hx3:=H300.out x (List.mem_of_getElem? hx);have Hx:=Za hx;clear hx;obtain⟨xa,xl,xc⟩:=x;obtain⟨j,hj⟩:∃j,j=xl.length:=⟨_,rfl⟩;have hj3:j≤1048576:=by dsimp only at hx3;omega
      have hcl2:wr.cell? ⟨b,off+k,none⟩=some (.slice xa j xc):=by rw[hj];exact Zc (Zb hB1 I.hB) hcl
      have Hj:=Za hj;have HI:=Za I;have hrdI:=(Hxo.out.1.keep (Zb hB1 I.hB));have HrdI:=Za hrdI;clear hcl hj I hrdI;go_wp2_with fail;refine(ZcT xa xl j xc _ HrdI.out Hj.out hj3).mono ?_;rintro e w2 ⟨rfl,own2,hb2⟩;have Own2:=Za own2;have I2:=HI.out.keep hb2;have hal:Below w2.heap.size w2 (w2.alloc (.cells #[.slice (some ⟨wr.heap.size,0,none⟩) j (j+12)] 28)):=(Below.refl _ _).alloc (Nat.le_refl _) _;have Hrow:=Za (I2.keep hal).row;have Hrd:=Za (Rd.new w2 28 [.slice (some ⟨wr.heap.size,0,none⟩) j (j+12)]);have hsz:w1.heap.size≤w2.heap.size:=I2.hB.size;clear own2 I2 hal hcl2;go_wp2_with (at_builtin;refine Zk rfl _ _ 34 rfl i1 _ 24 1 Tryz.underlying34 Hi.out.1 Hi.out.2.1 Hi.out.2.2.1 Hi.out.2.2.2 rfl (by decide) rfl rfl ?e1 Hrow.out Hrd.out (m:=1) rfl ?e2 ?e3 ?e4 ?_)
      case e1=>intro u hu;simp at hu;subst hu;rfl
      case e2=>omega
      case e3=>omega
      case e4=>simp;omega
      intro v' W3 own3 hg3 hv3;have I3:=HI.out.next Hx.out Hj.out Own2.out hb2 _ own3 hg3;clear own3 hg3 hv3 Hrow Hrd HI Own2 hb2 HrdI Hxo;go_wp2;go_roundw
      case rel=>exact⟨k+1,_,by omega,by go_num,I3⟩
      case measure=>simp[intOf];omega
     ·have hk':k=n:=by omega
      subst hk';obtain⟨ia,ic,hv⟩:=Zl I.row;subst hv;obtain⟨hcon,hpre⟩:=I.pre HR.out Hsm.out H300.out Hn.out hn20;have hl3:∀l∈conL ls,l.length≤1000:=fun l hl=>by obtain⟨x,hx,rfl⟩:=List.mem_map.1 hl;exact Nat.le_trans (H300.out x hx) (by decide)
      have hla:=HV3.out (conL ls) hl3;obtain⟨WB,rfl⟩:∃W,W=wr:=⟨_,rfl⟩;have hB2:=Zb hB1 I.hB;have C1:=HV1.out ia k ic L m WB (He.out.keep hB2) (Zc hB2 Hm.out) (Hc.out.keep hB2) hpre;rw[hcon]at C1;obtain⟨vv,hvv⟩:∃x,x=V (conL ls):=⟨_,rfl⟩;rw[←hvv]at C1 hla;have Hpre:=Za hpre;have Hvv:=Za hvv;have Hcon:=Za hcon;have HI:=Za I;obtain⟨la,ec⟩:=vv;dsimp only at C1 hla;clear I hcon hpre hvv hl3;go_wp2_with fail;refine C1.mono ?_;rintro e w3 ⟨va,rfl,oa,hb3⟩;clear C1;have hB3:=Zb hB2 hb3;have C2:=HV1.out ia k ic L m w3 (He.out.keep hB3) (Zc hB3 Hm.out) (Hc.out.keep hB3) (Hpre.out.keep hb3);rw[Hcon.out,←Hvv.out]at C2;dsimp only at C2;have Oa:=Za oa;clear oa hB2;go_wp2_with fail;refine C2.mono ?_;rintro e w4 ⟨vb,rfl,ob,hb4⟩;clear C2;have hB4:=Zb hB3 hb4;have C3:=HV2.out p k c ls w4 (Zpg Hr.out Hok.out HR.out Hsm.out H300.out Hn.out hn20 hB4);rw[←Hvv.out]at C3;dsimp only at C3;have Ob:=Za ob;clear ob hB3;go_wp2_with fail;refine C3.mono ?_;rintro e w5 ⟨vr,rfl,oc,hb5⟩;clear C3;have hA:Ans w5 WB.heap.size w3.heap.size w4.heap.size va vb vr la:=by have ea:OwE w3 WB.heap.size w3.heap.size va la:=OwZ.ends (.inl Oa.out);have eb:OwE w4 w3.heap.size w4.heap.size vb la:=OwZ.ends (.inl Ob.out);exact⟨(ea.keep hb4).keep hb5,eb.keep hb5,.inl oc⟩
      have hI5:InR w1 w5 k 0 (.slice ia k ic) L:=((HI.out.turn.keep hb3).keep hb4).keep hb5;have hlt3:=hb3.size;have hlt4:=hb4.size;have hlw:w.heap.size≤WB.heap.size:=(Zb hB1 HI.out.hB).size;have Hlv:Hid (∀x∈L,∀g,x.a=some ⟨g,0,none⟩→g<WB.heap.size):=fun x hx g hg=>by obtain⟨g2,cur,h1,_,_,h2⟩:=(HI.out.own x hx).parts;rw[h1]at hg;injection hg with hg;injection hg with hg;subst hg;exact ZD h2
      generalize WB.heap.size=B1 at hA hlt3 Hlv hlw;generalize w3.heap.size=B2 at hA hlt3 hlt4;generalize w4.heap.size=B3 at hA hlt4;clear oc Oa Ob hb3 hb4 hb5 HI Hpre hB4 Hvv HV1 HV2 HV3;go_wp2_with fail;go_loopw[13] (fun iv W=>∃i:Nat,i≤k∧iv= .int .i64 i∧InR w1 W k i (.slice ia k ic) L∧Ans W B1 B2 B3 va vb vr la) (fun iv _=>k-(intOf iv).toNat)
      case atStart=>exact⟨0,Nat.zero_le _,rfl,hI5,hA⟩
      case round=>
       clear hI5 hA;obtain⟨i,hi,rfl,I,A⟩:=hrel;by_cases hlt:i<k
       ·have hI:(i:Int)<(k:Int):=by omega
        obtain⟨x,hx⟩:∃x,ls[i]? =some x:=⟨_,List.getElem?_eq_getElem (by have:=Hn.out;omega)⟩;obtain⟨y,hy,hyx⟩:=Zpf Hcon.out i hx;obtain⟨W0,rfl⟩:∃W0,W0=wr:=⟨_,rfl⟩;have hB:=Zb hB1 I.hB;obtain⟨b,off,rfl,hc1⟩:=Hr.out.cellAt i x.v (by simp[hx]);have hc2:=Zc hB hc1;obtain⟨ib,io,rfl,hd1⟩:=(ZcQ I.row).cellAt i y.v (by simp[hy]);obtain⟨g,ha,hcc,hgB,hct⟩:=(I.own i y (Nat.le_refl _) hy).cont;obtain⟨_,ha2,_,hrg⟩:=(I.own i y (Nat.le_refl _) hy).rd;rw[ha]at ha2;injection ha2 with ha2;injection ha2 with ha2;subst ha2;have hrx:=(Hok.out x (List.mem_of_getElem? hx)).1.keep hB;have hx3:=H300.out x (List.mem_of_getElem? hx);have hgl:=Hlv.out y (List.mem_of_getElem? hy) g ha;have Hy:=Za hy;have Ha:=Za ha;clear hx hy hc1;obtain⟨ya,yl,yc⟩:=y;obtain⟨xa,xl,xc⟩:=x;dsimp only at ha hcc hyx hct hrg hrx hx3;subst ha hyx hcc;obtain⟨j,hj⟩:∃j,j=yl.length:=⟨_,rfl⟩;have hj3:j≤1048576:=by omega
        have hd:W0.cell? ⟨ib,io+i,none⟩=some (.slice (some ⟨g,0,none⟩) j (j+12)):=by rw[hj];exact hd1
        have hc:W0.cell? ⟨b,off+i,none⟩=some (.slice xa j xc):=by rw[hj];exact hc2
        rw[←hj]at hct;have hix1:=ZP ib io k ic i hlt;have hix2:=ZP b off k c i hlt;have Hj:=Za hj;have HI:=Za I;have HA:=Za A;have Hct:=Za hct;have Hrg:=Za hrg;have Hrx:=Za hrx;clear hc2 hd1 hj I A hct hrg hrx;go_wp2_with fail;refine wp_region_facts (R:=RB W0.heap.size (⟨#[]⟩) (0)) [eqF _ _ _ 65 (.slice (some ⟨ib,io,none⟩) k ic),eqF _ _ _ 66 (.int .i64 i),eqF _ _ _ 67 (.pointer (some ⟨ib,io+i,none⟩)),eqF _ _ _ 68 (.slice (some ⟨g,0,none⟩) j (j+12)),eqF _ _ _ 69 (.slice (some ⟨b,off,none⟩) k c),eqF _ _ _ 70 (.int .i64 i),eqF _ _ _ 71 (.pointer (some ⟨b,off+i,none⟩)),eqF _ _ _ 72 (.slice xa j xc),eqF _ _ _ 73 (.bool true),eqF _ _ _ 74 (.bool false)] (by kernel_rfl) (by kernel_rfl) (by kernel_rfl) (RB.refl (Nat.le_refl _)) (fun _ h=>h.again) (fun _ _ _ h k=>h.trans k) ?_ ?_
        ·refine stepsU_cons rfl ?_ (stepsU_cons rfl ?_ (stepsU_cons rfl ?_ (stepsU_cons rfl ?_ (stepsU_cons rfl ?_ (stepsU_cons rfl ?_ (stepsU_cons rfl ?_ (stepsU_cons rfl ?_ (stepsU_cons rfl ?_ (stepsU_cons rfl ?_ (stepsU_nil))))))))))
         ·refine stepU_plain rfl fun u wr hR hK hD=>?_;exact Zd _ _ rfl (hK 5 rfl) ⟨hR.again,rfl⟩
         ·refine stepU_plain rfl fun u wr hR hK hD=>?_;exact Zd _ _ rfl (hK 13 rfl) ⟨hR.again,rfl⟩
         ·refine stepU_plain rfl fun u wr hR hK hD=>?_;have z:u 65=_:=(hD 0 rfl);have z2:u 66=_:=(hD 1 rfl);exact Ze _ (by unfold execOp;simp[go_sem,evU,z,z2,hix1]) ⟨hR.again,rfl⟩
         ·refine stepU_plain rfl fun u wr hR hK hD=>?_;have z:u 67=_:=(hD 2 rfl);have z2:=Zc hR.be hd;exact Ze _ (by unfold execOp;simp[go_sem,evU,z,z2]) ⟨hR.again,rfl⟩
         ·refine stepU_plain rfl fun u wr hR hK hD=>?_;exact Zd _ _ rfl (hK 1 rfl) ⟨hR.again,rfl⟩
         ·refine stepU_plain rfl fun u wr hR hK hD=>?_;exact Zd _ _ rfl (hK 13 rfl) ⟨hR.again,rfl⟩
         ·refine stepU_plain rfl fun u wr hR hK hD=>?_;have z:u 69=_:=(hD 4 rfl);have z2:u 70=_:=(hD 5 rfl);exact Ze _ (by unfold execOp;simp[go_sem,evU,z,z2,hix2]) ⟨hR.again,rfl⟩
         ·refine stepU_plain rfl fun u wr hR hK hD=>?_;have z:u 71=_:=(hD 6 rfl);have z2:=Zc hR.be hc;exact Ze _ (by unfold execOp;simp[go_sem,evU,z,z2]) ⟨hR.again,rfl⟩
         ·refine stepU_plain rfl fun u wr hR hK hD=>?_;exact Z1 _ _ _ _ _ Tryz.func28 (by kernel_rfl) rfl (hD 3 rfl) (hD 7 rfl) ((Zbt _ _ _ _ _ wr (RdI.keep (w:=W0.drew) Hrg.out hR.be) (RdI.keep (w:=W0.drew) Hrx.out hR.be) Hj.out hj3).mono fun e wn ⟨he,hb⟩=>⟨_,he,hR.next hb,rfl⟩)
         ·refine stepU_plain rfl fun u wr hR hK hD=>?_;have z73:u 73=_:=(hD 8 rfl);exact Ze _ (by unfold execOp;simp[go_sem,evU,z73]) ⟨hR.again,rfl⟩
        intro u w5 hR hF;have e65:u 65= .slice (some ⟨ib,io,none⟩) k ic:=hF 0 (by decide);have e66:u 66= .int .i64 i:=hF 1 (by decide);have e67:u 67= .pointer (some ⟨ib,io+i,none⟩):=hF 2 (by decide);have e68:u 68= .slice (some ⟨g,0,none⟩) j (j+12):=hF 3 (by decide);have e69:u 69= .slice (some ⟨b,off,none⟩) k c:=hF 4 (by decide);have e70:u 70= .int .i64 i:=hF 5 (by decide);have e71:u 71= .pointer (some ⟨b,off+i,none⟩):=hF 6 (by decide);have e72:u 72= .slice xa j xc:=hF 7 (by decide);have e73:u 73= .bool true:=hF 8 (by decide);have e74:u 74= .bool false:=hF 9 (by decide);simp only[ZaW,Act.put,List.setIfInBounds_toArray,List.set_cons_succ,List.set_cons_zero,e65,e66,e67,e68,e69,e70,e71,e72,e73,e74];clear hF e65 e66 e67 e68 e69 e70 e71 e72 e73 e74;have hB2:Below w.heap.size w w5:=Zah hB.drew hB.size hR.be;have hb_w5:Below W0.heap.size W0 w5:=⟨hR.be.os,hR.be.tape,hR.be.output,hR.be.size,hR.be.block⟩;clear hB hR;have hB:=hB2;clear hB2;have hd5:=Zc hb_w5 hd;have I5:=Za (HI.out.keep hb_w5);have A5:=Za (HA.out.keep hb_w5);have Hct5:=Za (Hct.out.keep hb_w5);clear hc hd hb_w5 hB HI HA Hct Hrg Hrx;go_wp2_with fail;refine(ZiM g j _ Hct5.out hj3).mono ?_;rintro e w6 ⟨rfl,hg6⟩;have I6:=I5.out.next Hy.out rfl hg6;have A6:=A5.out.other hg6 hgl hlt3 hlt4;clear hd5 hg6 I5 A5 Hct5;go_wp2;go_roundw
        case rel=>exact⟨i+1,by omega,by go_num,I6,A6⟩
        case measure=>simp[intOf];omega
       ·have hi':i=k:=by omega
        subst hi';have hB:=Zb hB1 I.hB;obtain⟨lj,hlj⟩:∃lj,lj=la.length:=⟨_,rfl⟩;obtain⟨aa,ca,rfl,hra⟩:=A.a.z.form;obtain⟨ba,cb,rfl,hrb⟩:=A.b.z.form;obtain⟨ra,cr,rfl,hrr⟩:=A.r.form;rw[←hlj]at A hla⊢;have HA:=Za A;have Hra:=Za hra;have Hrb:=Za hrb;have Hrr:=Za hrr;have Hlj:=Za hlj;have hlj6:lj≤1000000:=by omega
        clear A I hra hrb hrr hlj;go_wp2_with fail;refine(Zba aa ra lj ca cr la _ Hra.out Hrr.out Hlj.out hlj6).mono ?_;rintro e w7 ⟨rfl,hb7⟩;go_wp2_with fail;refine(Zba ba ra lj cb cr la _ (Hrb.out.keep hb7) (Hrr.out.keep hb7) Hlj.out hlj6).mono ?_;rintro e w8 ⟨rfl,hb8⟩;have hB8:=Zb (Zb hB hb7) hb8;have ha8:=(HA.out.a.keep hb7).keep hb8;have hb8':=(HA.out.b.keep hb7).keep hb8;have hal:Below w8.heap.size w8 (w8.alloc (.cells #[.slice aa lj ca,.slice ba lj cb] 28)):=(Below.refl _ _).alloc (Nat.le_refl _) _;have hB9:=Zb hB8 hal
        have hap:=ZiL (some ⟨w8.heap.size,0,none⟩) 2 2 [⟨B1,B2,.slice aa lj ca,la⟩,⟨B2,B3,.slice ba lj cb,la⟩] w.heap.size _ (Rd.new w8 28 [.slice aa lj ca,.slice ba lj cb]) rfl (by simp) (by decide) hB9.size
         (by
          intro x hx;simp only[List.mem_cons,List.not_mem_nil,or_false]at hx;rcases hx with rfl|rfl
          ·exact⟨ha8.keep hal,by have:=Hlj.out;dsimp only;omega,hlw⟩
          ·exact⟨hb8'.keep hal,by have:=Hlj.out;dsimp only;omega,Nat.le_trans hlw hlt3⟩)
         (by simp)
        clear hb7 hb8 HA Hra Hrb Hrr ha8 hb8' hal hB hB8;go_wp2_with fail;refine hap.mono ?_;rintro e w10 ⟨rfl,hb10⟩;have hB10:=hB9.trans hb10;clear hap hB9 hb10;go_wp2_with fail;refine(ZaY m _ (He.out.keep hB10) (Zc hB10 Hm.out) (Hc.out.keep hB10)).mono ?_;rintro e w99 ⟨rfl,hb99⟩;have hB99:=Zb hB10 hb99;go_wp2;go_ret;exact⟨rfl,hB99⟩
end Go.Proofs.YtnnfhojhbbcbmaaGreatDoor
namespace Go.Proofs.YtnnfhojhbbcbmaaGreatDoor
open Go.RowKit
structure EnvN (m:Int) (w:World):Prop where
 e:Env w
 m:w.cell? ⟨1,0,none⟩=some (.int .i64 m)
 c:Counts w
section
variable {m : Int} {w : World}
theorem EnvN.keep {w':World}(h:EnvN m w)(hb:Below w.heap.size w w'):EnvN m w':=⟨h.e.keep hb,Zc hb h.m,h.c.keep hb⟩
theorem n_lh(h:EnvN m w)(W:World)(hW:Below w.heap.size w W)(s:ByteArray)(A B:List It)(fa:Fine A)(fb:Fine B):Znl W 8 s A B:=fun p q c d W' hb r1 r2=>by have k:=h.keep (Zb hW hb);exact Zgg s p q A.length B.length c d A B m W' k.e k.m k.c (fa.ok r1) (fb.ok r2) fa.r fb.r rfl rfl
theorem n_lm(h:EnvN m w)(W:World)(hW:Below w.heap.size w W)(s:ByteArray)(A B:List It)(fa:Fine A)(fb:Fine B):Znl W 10 s A B:=fun p q c d W' hb r1 r2=>by have k:=h.keep (Zb hW hb);exact Zgh s p q A.length B.length c d A B m W' k.e k.m k.c (fa.ok r1) (fb.ok r2) fa.r fb.r rfl rfl
theorem ZhR {L:List (List It)}(hL:OkS L){ls:List Lst}(h1:ls.map Lst.l=L):∀x∈ls,Fine x.l:=fun x hx=>hL.2 _ (by rw[←h1];exact List.mem_map_of_mem hx)
theorem n_lc(h:EnvN m w)(W:World)(hW:Below w.heap.size w W)(s:ByteArray)(L:List (List It))(hL:OkS L):Zpp W 12 s L:=fun p c W' hb hr=>by
 have k:=h.keep (Zb hW hb);obtain⟨ls,h1,h2,h3⟩:=hr;have hF:=ZhR hL h1;have hn:L.length=ls.length:=by rw[←h1,List.length_map]
 have:=hL.1;exact Zgx s p L.length c ls m W' k.e k.m k.c h2 (fun x hx=>(hF x hx).ok (h3 x hx)) (fun x hx=>(hF x hx).r) hn (by omega)
theorem ZjZ(nm:ByteArray)(V:List Lst→List It×Int)(E:Int)(L:List (List It))(hL:OkS L)(hV:∀ls,ls.map Lst.l=L→(V ls).2=E)
  (hc:∀(p:Option Addr) (n c:Nat) (ls:List Lst) (W:World),EnvN m W→Rd W p (ls.map Lst.v)→OkAs W ls→(∀x∈ls,Fine x.l)→n=ls.length→n≤1000000→Calls Tryz.prog 14 #[.string nm,.slice p n c] W (Res W (V ls).1 (V ls).2))
  (h:EnvN m w) (W:World) (hW:Below w.heap.size w W):Zi7 W 14 nm L E:=fun p c W' hb hr=>by
 have k:=h.keep (Zb hW hb);obtain⟨ls,h1,h2,h3⟩:=hr;have hF:=ZhR hL h1;have hn:L.length=ls.length:=by rw[←h1,List.length_map]
 have h5:=hc p L.length c ls W' k h2 (fun x hx=>(hF x hx).ok (h3 x hx)) hF hn hL.1;rw[hV ls h1]at h5;exact h5.mono fun e w' ⟨v,he,_,hb⟩=>⟨⟨v,he⟩,hb⟩
theorem Zm8(p:Option Addr)(n c:Nat)(ls:List Lst)(W:World)(k:EnvN m W)(h2:Rd W p (ls.map Lst.v))(ho:OkAs W ls)(hF:∀x∈ls,Fine x.l)(hn:n=ls.length)(hm:n≤1000000):
  Calls Tryz.prog 14 #[.string ⟨#[99,111,110,99,97,116]⟩,.slice p n c] W (Res W (ZaS [99,111,110,99,97,116] ZaX ls).1 (ZaS [99,111,110,99,97,116] ZaX ls).2):=
 Zao _ _ _ (.inr (.inr (.inl ⟨rfl,rfl,rfl⟩))) p n c ls m W k.e k.m k.c h2 ho (fun x hx=>(hF x hx).r) (fun x hx=>(hF x hx).s) hn hm
theorem Zm9(p:Option Addr)(n c:Nat)(ls:List Lst)(W:World)(k:EnvN m W)(h2:Rd W p (ls.map Lst.v))(ho:OkAs W ls)(hF:∀x∈ls,Fine x.l)(hn:n=ls.length)(hm:n≤1000000):
  Calls Tryz.prog 14 #[.string ⟨#[115,116,114,105,110,103,45,106,111,105,110]⟩,.slice p n c] W (Res W (Zcz ls).1 (Zcz ls).2):=
 ZgV p n c ls m W k.e k.m k.c h2 ho (fun x hx=>(hF x hx).r) (fun x hx=>(hF x hx).s) (fun x hx=>Nat.le_trans (hF x hx).n (by decide)) hn hm
theorem Txt.fine {t:ByteArray}{n:Nat}(h:Txt t n):Fine [⟨3,0,t,0⟩]:=⟨by simp,fun y hy=>by rw[List.mem_singleton.1 hy];show R64 0;unfold R64;omega,fun y hy=>by rw[List.mem_singleton.1 hy];show t.size≤100000;rw[h.s];exact Nat.le_trans h.n (by decide)⟩
theorem Txt.fine2 {t:ByteArray}{n:Nat}(h:Txt t n):Fine [⟨3,0,t,0⟩,⟨2,1,⟨#[]⟩,0⟩]:=by
 have ht:=h.fine;refine⟨by simp,fun y hy=>?_,fun y hy=>?_⟩
 ·rcases List.mem_cons.1 hy with rfl|hy
  ·exact ht.r _ (by simp)
  ·rw[List.mem_singleton.1 hy];show R64 1;unfold R64;omega
 ·rcases List.mem_cons.1 hy with rfl|hy
  ·exact ht.s _ (by simp)
  ·rw[List.mem_singleton.1 hy];show ByteArray.size ⟨#[]⟩≤100000;decide
theorem Znf(b:UInt8)(n:Nat)(hn:n≤40000):Znm 13 ⟨#[b]⟩ (n:Int) (ZdE n b):=fun W=>by have h:=Tryz.strings_Repeat ⟨#[b]⟩ n W (by omega) (by show 1*n≤_;omega);rw[show(⟨#[b]⟩:ByteArray).data.toList=[b]from rfl,ZiH]at h;exact h
theorem tx:Txt (ZdE 40000 120) 40000:=ZfG _ 120 _ (by decide) (by decide+kernel) (by decide+kernel)
theorem ty:Txt (ZdE 25535 45) 25535:=ZfG _ 45 _ (by decide) (by decide+kernel) (by decide+kernel)
theorem tz:Txt (ZdE 25536 121) 25536:=ZfG _ 121 _ (by decide) (by decide+kernel) (by decide+kernel)
theorem ZlE:Zcz [⟨none,ZeX,0⟩,⟨none,Zbc,0⟩]=(Zcs,0):=by kernel_rfl
theorem Zez(he:Env w)(hm:w.cell? ⟨1,0,none⟩=some (.int .i64 m))(hc:Counts w):
  Calls Tryz.prog 3 #[] w fun e w'=>e= .returned (.bool true)∧Below w.heap.size w w':=by
 have h:EnvN m w:=⟨he,hm,hc⟩
 refine Zoc w (ZdE 40000 120) (ZdE 25535 45) (ZdE 25536 121) ⟨n_lh h,n_lm h,n_lc h,Znf 120 40000 (by decide),Znf 45 25535 (by decide),Znf 121 25536 (by decide),
  ZjZ _ _ 3 _ (fs2 tx.fine tx.fine) (fun ls hl=>?c1) Zm8 h,ZjZ _ _ 0 _ (fs2 tx.fine2 ty.fine) (fun ls hl=>?c2) Zm9 h,ZjZ _ _ 0 _ (fs2 tx.fine tz.fine) (fun ls hl=>?c3) Zm8 h,
  fun p c W hW hr=>?c4,fun a b ac bc W h1 h2=>Zba a b 1 ac bc Zcs W h1 h2 rfl (by decide),
  fun W hW=>ZnO Znd 2 2 (-7) 2 0 0 (-1) ⟨#[]⟩ ⟨#[]⟩ W (he.keep hW) (ZG (by decide+kernel)) (ZG (by decide+kernel)) (by kernel_rfl),
  fun W hW=>ZnO Znd 2 2 (-9223372036854775808) (-1) 0 0 0 ⟨#[]⟩ ⟨#[]⟩ W (he.keep hW) (ZG (by decide+kernel)) (ZG (by decide+kernel)) (by kernel_rfl),
  fun W hW=>ZnO opMinus 2 2 (-1) (-9223372036854775808) 0 0 9223372036854775807 ⟨#[]⟩ ⟨#[]⟩ W (he.keep hW) (ZG (by decide+kernel)) (ZG (by decide+kernel)) (by kernel_rfl),
  fun W hW=>ZaY m W (he.keep hW) (Zc hW hm) (hc.keep hW)⟩
 case c1=>obtain⟨p,c,q,d,rfl⟩:=ZhU hl;exact(Zkh p q c d tx tx).trans (if_pos (by decide))
 case c2=>obtain⟨p,c,q,d,rfl⟩:=ZhU hl;exact Zmh p q c d tx ty (by decide)
 case c3=>obtain⟨p,c,q,d,rfl⟩:=ZhU hl;exact(Zkh p q c d tx tz).trans (if_neg (by decide))
 case c4=>have k:=h.keep hW;obtain⟨ls,h1,h2,h3⟩:=hr;have hF:=ZhR (fs2 (a:=ZeX) (b:=Zbc) (ZG (by decide+kernel)) (ZG (by decide+kernel))) h1;obtain⟨p1,c1,q1,d1,rfl⟩:=ZhU h1;have h5:=Zm9 p 2 c _ W k h2 (fun x hx=>(hF x hx).ok (h3 x hx)) hF rfl (by decide);rw[show Zcz [⟨p1,ZeX,c1⟩,⟨q1,Zbc,d1⟩]=(Zcs,0)from ZlE]at h5;refine h5.mono ?_;rintro e w' ⟨v,rfl,ho,hb⟩;obtain⟨g,cap,rfl,_,_,_⟩:=Z9 ho (by decide);exact⟨⟨_,cap,rfl,OwI.rd ho⟩,hb⟩
end
end Go.Proofs.YtnnfhojhbbcbmaaGreatDoor
namespace Go.Proofs.YtnnfhojhbbcbmaaGreatDoor
set_option maxRecDepth 100000
set_option maxHeartbeats 4000000
open Go.RowKit
theorem ZmM {W:World}(h:Lib.VarReads Tryz.prog W "unicode/utf8.first" Rows.laid_unicode_utf8_first):∀c,c<256→W.cell? ⟨2,c,none⟩=some (.int .u8 (Lib.firstT c)):=by
 intro c hc;have e:Rows.laid_unicode_utf8_first=Lib.firstData:=by kernel_rfl
 rw[e]at h;obtain⟨g,t,cs,fuel,p,hg,ht,hv,hd⟩:=h;obtain rfl:=Option.some.inj ((show Tryz.prog.globalNamed "unicode/utf8.first"=some 2 by kernel_rfl).symm.trans hg);obtain rfl:=Option.some.inj ((show(Tryz.prog.globals[2]?).map (·.type)=some 266 by kernel_rfl).symm.trans ht);have hcs:=Lib.cells_of_tab Tryz.underlying266 Tryz.underlying5 (by kernel_rfl) (by kernel_rfl) hd;rw[World.var?_cell hg hv c,←Array.getElem?_toList,hcs];simp[Lib.firstTab,hc]
theorem ZlF {W:World}(h:Lib.VarReads Tryz.prog W "unicode/utf8.acceptRanges" Rows.laid_unicode_utf8_acceptRanges):∀i,i<16→W.cell? ⟨3,2*i,none⟩=some (.int .u8 (Lib.accLo i))∧W.cell? ⟨3,2*i+1,none⟩=some (.int .u8 (Lib.accHi i)):=by
 intro i hi;have e:(Rows.laid_unicode_utf8_acceptRanges:DataW Unit)=Lib.acceptData:=by kernel_rfl
 rw[e]at h;obtain⟨g,t,cs,fuel,p,hg,ht,hv,hd⟩:=h;obtain rfl:=Option.some.inj ((show Tryz.prog.globalNamed "unicode/utf8.acceptRanges"=some 3 by kernel_rfl).symm.trans hg);obtain rfl:=Option.some.inj ((show(Tryz.prog.globals[3]?).map (·.type)=some 269 by kernel_rfl).symm.trans ht);obtain⟨fuel',d,q,hdi,he⟩:=Lib.array_elem Tryz.underlying269 hd i hi;simp only[List.getElem?_map,List.getElem?_range hi,Option.map_some,Option.some.injEq]at hdi;subst hdi;have c2:Tryz.prog.cellsOf 268=2:=by kernel_rfl
 have c1:Tryz.prog.cellsOf 5=1:=by kernel_rfl
 rw[c2]at he
 have hcs:=Lib.ints_of_struct Tryz.underlying268 (fun j f hj=>by
  match j,hj with
  |0,hj=>simp at hj;subst hj;exact⟨Tryz.underlying5,rfl,c1⟩
  |1,hj=>simp at hj;subst hj;exact⟨Tryz.underlying5,rfl,c1⟩
  |j+2,hj=>simp at hj) (by rw[c2];rfl) he
 have e0:=congrArg (·[0]?) hcs;have e1:=congrArg (·[1]?) hcs;simp only[List.getElem?_take,List.getElem?_drop]at e0 e1;constructor
 ·rw[World.var?_cell hg hv (2*i),←Array.getElem?_toList];simpa[Nat.mul_comm]using e0
 ·rw[World.var?_cell hg hv (2*i+1),←Array.getElem?_toList];simpa[Nat.mul_comm]using e1
theorem Zpi {W:World}(h:Lib.VarReads Tryz.prog W "internal/strconv.uint64pow10" Rows.laid_internal_strconv_uint64pow10):Lib.TabIs Tryz.prog W "internal/strconv.uint64pow10" .u64 Lib.pow10Tab:=by
 have e:(Rows.laid_internal_strconv_uint64pow10:DataW Unit)=Lib.tabData .u64 Lib.pow10Tab:=by kernel_rfl
 rw[e]at h;obtain⟨g,t,cs,fuel,p,hg,ht,hv,hd⟩:=h;obtain rfl:=Option.some.inj ((show Tryz.prog.globalNamed "internal/strconv.uint64pow10"=some 4 by kernel_rfl).symm.trans hg);obtain rfl:=Option.some.inj ((show(Tryz.prog.globals[4]?).map (·.type)=some 285 by kernel_rfl).symm.trans ht);have hcs:=Lib.cells_of_tab Tryz.underlying285 Tryz.underlying126 (by kernel_rfl) (by kernel_rfl) hd;unfold Lib.TabIs;rw[hv];congr 1;exact Array.toList_inj.1 (by rw[hcs])
theorem Zbq(L:List Value)(k:Nat):L.drop k=(L.drop k).take 3++L.drop (k+3):=by
 have h:L.drop (k+3)=(L.drop k).drop 3:=by rw[List.drop_drop]
 rw[h];exact(List.take_append_drop 3 _).symm
theorem Zpm {L a0 a1 a2 a3 a4 a5:List Value}(h:L.length=18)(h0:(L.drop (0*3)).take 3=a0)(h1:(L.drop (1*3)).take 3=a1)(h2:(L.drop (2*3)).take 3=a2)(h3:(L.drop (3*3)).take 3=a3)(h4:(L.drop (4*3)).take 3=a4)(h5:(L.drop (5*3)).take 3=a5):
  L=a0++(a1++(a2++(a3++(a4++a5)))):=by
 have e:L.drop 18=[]:=List.drop_eq_nil_of_le (by omega);have s0:=Zbq L 0;have s1:=Zbq L 3;have s2:=Zbq L 6;have s3:=Zbq L 9;have s4:=Zbq L 12;have s5:=Zbq L 15;simp only[Nat.reduceMul,Nat.reduceAdd,Nat.zero_add,Nat.zero_mul]at*;rw[h0]at s0;rw[h1]at s1;rw[h2]at s2;rw[h3]at s3;rw[h4]at s4;rw[h5,e,List.append_nil]at s5;rw[s5]at s4;rw[s4]at s3;rw[s3]at s2;rw[s2]at s1;rw[s1]at s0;simpa using s0
section
variable {H : Type} {enc : TypeId × Value → H} {w : World} {base : Nat} {sp : Nat → Bool} {held : Bool}
theorem Zbr {fuel:Nat}{cs:List Value}{a b:Int}{bs:List UInt8}{p:List MemPlace}(h:DataW.trod enc Tryz.prog w base sp held fuel 131 cs=some (.agg [.lit (.int .i64 a),.lit (.int .i64 b),.lit (.string bs)],p)):
  cs=[.int .i64 a,.int .i64 b,.string ⟨bs.toArray⟩]:=by
 obtain⟨xs,n,_,hx,hl,hn,hf⟩:=DataW.trod_struct Tryz.underlying131 h;have hl3:cs.length=3:=hl.trans (by kernel_rfl);have f0:DataW.trod enc Tryz.prog w base sp held n 3 (List.take (Tryz.prog.cellsOf 3) (List.drop 0 cs))=xs[0]?:=hf 0 _ rfl;have f1:DataW.trod enc Tryz.prog w base sp held n 3 (List.take (Tryz.prog.cellsOf 3) (List.drop 1 cs))=xs[1]?:=hf 1 _ rfl;have f2:DataW.trod enc Tryz.prog w base sp held n 9 (List.take (Tryz.prog.cellsOf 9) (List.drop 2 cs))=xs[2]?:=hf 2 _ rfl;have c1:Tryz.prog.cellsOf 3=1:=by kernel_rfl
 have c2:Tryz.prog.cellsOf 9=1:=by kernel_rfl
 obtain⟨x0,x1,x2,rfl⟩:∃x0 x1 x2,cs=[x0,x1,x2]:=by
  match cs,hl3 with
  | [x0,x1,x2],_=>exact⟨_,_,_,rfl⟩
 obtain⟨y0,y1,y2,rfl⟩:∃y0 y1 y2,xs=[y0,y1,y2]:=by
  match xs,hn with
  | [y0,y1,y2],_=>exact⟨_,_,_,rfl⟩
 simp only[c1,c2,List.drop_zero,List.drop_succ_cons,List.take_succ_cons,List.take_zero,List.getElem?_cons_zero,List.getElem?_cons_succ]at f0 f1 f2;obtain⟨n0,e0,g0,_⟩:=DataW.trod_int Tryz.underlying3 f0;obtain⟨n1,e1,g1,_⟩:=DataW.trod_int Tryz.underlying3 f1;obtain⟨s2,e2,g2,_⟩:=DataW.trod_string Tryz.underlying9 f2;subst g0 g1 g2;simp only[List.map_cons,List.map_nil,Prod.mk.injEq,DataW.agg.injEq,List.cons.injEq,DataW.lit.injEq,Lit.int.injEq,Lit.string.injEq]at hx;obtain⟨⟨⟨_,r0⟩,⟨_,r1⟩,r2,_⟩,_⟩:=hx;simp only[List.cons.injEq,and_true]at e0 e1 e2;subst r0 r1 r2 e0 e1 e2;rfl
end
theorem ZlG {W:World}(h:Lib.VarReads Tryz.prog W "parchment/value.counts" Rows.laid_parchment_value_counts):Counts W:=by
 obtain⟨g,t,cs,fuel,p,hg,ht,hv,hd⟩:=h;obtain rfl:=Option.some.inj ((show Tryz.prog.globalNamed "parchment/value.counts"=some 0 by kernel_rfl).symm.trans hg);obtain rfl:=Option.some.inj ((show(Tryz.prog.globals[0]?).map (·.type)=some 132 by kernel_rfl).symm.trans ht);obtain⟨xs,m,_,hx,hl,hn,hel⟩:=DataW.trod_array Tryz.underlying132 hd;have c3:Tryz.prog.cellsOf 131=3:=by kernel_rfl
 have c18:cs.toList.length=18:=hl.trans (by kernel_rfl);rw[c3]at hel;have e0:=hel 0 (by decide);have e1:=hel 1 (by decide);have e2:=hel 2 (by decide);have e3:=hel 3 (by decide);have e4:=hel 4 (by decide);have e5:=hel 5 (by decide)
 have hL:cs.toList=cntC:=by
  obtain⟨y0,q0,y1,q1,y2,q2,y3,q3,y4,q4,y5,q5,rfl⟩:∃y0 q0 y1 q1 y2 q2 y3 q3 y4 q4 y5 q5,xs=[(y0,q0),(y1,q1),(y2,q2),(y3,q3),(y4,q4),(y5,q5)]:=by
   match xs,hn with
   | [⟨y0,q0⟩,⟨y1,q1⟩,⟨y2,q2⟩,⟨y3,q3⟩,⟨y4,q4⟩,⟨y5,q5⟩],_=>exact⟨_,_,_,_,_,_,_,_,_,_,_,_,rfl⟩
  have hx1:=congrArg Prod.fst hx;unfold Rows.laid_parchment_value_counts at hx1;simp only[List.map_cons,List.map_nil,DataW.agg.injEq,List.cons.injEq]at hx1;obtain⟨r0,r1,r2,r3,r4,r5,_⟩:=hx1;simp only[List.getElem?_cons_zero,List.getElem?_cons_succ]at e0 e1 e2 e3 e4 e5;rw[←r0]at e0;rw[←r1]at e1;rw[←r2]at e2;rw[←r3]at e3;rw[←r4]at e4;rw[←r5]at e5;exact Zpm c18 (Zbr e0) (Zbr e1) (Zbr e2) (Zbr e3) (Zbr e4) (Zbr e5)
 intro j v hj;rw[World.var?_cell hg hv j,←Array.getElem?_toList,hL];exact hj
theorem Zhz {W:World}(h:Lib.VarReads Tryz.prog W "strconv.ErrSyntax" Rows.laid_strconv_ErrSyntax):∃ev,W.cell? ⟨5,0,none⟩=some ev∧(ev= .nilIface∨∃te pe,ev= .iface te pe):=by obtain⟨g,t,cs,fuel,p,hg,ht,hv,hd⟩:=h;obtain rfl:=Option.some.inj ((show Tryz.prog.globalNamed "strconv.ErrSyntax"=some 5 by kernel_rfl).symm.trans hg);obtain rfl:=Option.some.inj ((show(Tryz.prog.globals[5]?).map (·.type)=some 66 by kernel_rfl).symm.trans ht);obtain⟨f',u,v,hcs,_,_⟩:=iface_of_trod Tryz.underlying66 hd;refine⟨.iface u v,?_,.inr ⟨u,v,rfl⟩⟩;rw[World.var?_cell hg hv 0,←Array.getElem?_toList,hcs];rfl
theorem Zit {W:World}(h:Lib.VarReads Tryz.prog W "strconv.ErrRange" Rows.laid_strconv_ErrRange):∃ev,W.cell? ⟨6,0,none⟩=some ev∧(ev= .nilIface∨∃te pe,ev= .iface te pe):=by obtain⟨g,t,cs,fuel,p,hg,ht,hv,hd⟩:=h;obtain rfl:=Option.some.inj ((show Tryz.prog.globalNamed "strconv.ErrRange"=some 6 by kernel_rfl).symm.trans hg);obtain rfl:=Option.some.inj ((show(Tryz.prog.globals[6]?).map (·.type)=some 66 by kernel_rfl).symm.trans ht);obtain⟨f',u,v,hcs,_,_⟩:=iface_of_trod Tryz.underlying66 hd;refine⟨.iface u v,?_,.inr ⟨u,v,rfl⟩⟩;rw[World.var?_cell hg hv 0,←Array.getElem?_toList,hcs];rfl
theorem ZlH {W:World}(h:W.ShapedOpen Tryz.prog):∃m,W.cell? ⟨1,0,none⟩=some (.int .i64 m):=
 Go.Proofs.cell_of_shapedOpen_int (zero:=#[.int .i64 0]) (t:=3) h (of_decide_eq_true (by kernel_rfl)) (by kernel_rfl) rfl (by kernel_rfl) (by kernel_rfl) Tryz.underlying3
theorem Zpj {laid:List (String×DataW Unit)}{W:World}(h:laidMetH Tryz.prog laid W)(hp:laidMetH Tryz.prog laid W=laidMet Tryz.prog laid W)(m1:("unicode/utf8.first",Rows.laid_unicode_utf8_first)∈laid)(m2:("unicode/utf8.acceptRanges",Rows.laid_unicode_utf8_acceptRanges)∈laid)(m3:("internal/strconv.uint64pow10",Rows.laid_internal_strconv_uint64pow10)∈laid)(m4:("strconv.ErrSyntax",Rows.laid_strconv_ErrSyntax)∈laid)(m5:("strconv.ErrRange",Rows.laid_strconv_ErrRange)∈laid)(m6:("parchment/value.counts",Rows.laid_parchment_value_counts)∈laid):Env W∧Counts W:=by rw[hp]at h;exact⟨⟨⟨ZmM (Lib.laidMet.reads h m1),ZlF (Lib.laidMet.reads h m2)⟩,Zpi (Lib.laidMet.reads h m3),Zhz (Lib.laidMet.reads h m4),Zit (Lib.laidMet.reads h m5)⟩,ZlG (Lib.laidMet.reads h m6)⟩
end Go.Proofs.YtnnfhojhbbcbmaaGreatDoor
