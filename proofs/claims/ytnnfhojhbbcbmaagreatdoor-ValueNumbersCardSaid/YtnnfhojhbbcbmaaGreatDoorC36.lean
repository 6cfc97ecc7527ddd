/- ValueMakes: the walk. value.Call where a row is not right or there is no such function; at true, false. value.numbers: the numbers of a row put together. value.ofNumbers at sum, min, max. -/
import Derived.Test.YtnnfhojhbbcbmaaGreatDoorC30
import Derived.Test.YtnnfhojhbbcbmaaGreatDoorC25
import Derived.Test.YtnnfhojhbbcbmaaGreatDoorUd
import Derived.Test.YtnnfhojhbbcbmaaGreatDoorC17
import Derived.Test.YtnnfhojhbbcbmaaGreatDoorC21
namespace Go.Proofs.YtnnfhojhbbcbmaaGreatDoor
open Go.RowKit
theorem ZdW {w:World}{g n:Nat}{l:List It}{a:Option Addr}{c:Nat}{w0:World}(h:RdI w (some ⟨g,0,none⟩) (Za6 l))(ho:OkA w0 ⟨a,l,c⟩):OkA w ⟨some ⟨g,0,none⟩,l,n⟩:=
 ⟨by have h2:RdI w (some ⟨g,0,none⟩) (l++ZbJ 12):=h;exact h2.left,ho.2⟩
set_option maxRecDepth 100000 in
set_option maxHeartbeats 8000000 in
theorem Zgh(s:ByteArray)(p q:Option Addr)(na nb c d:Nat)(A B:List It)(m:Int)(w:World)(he:Env w)(hm:w.cell? ⟨1,0,none⟩=some (.int .i64 m))(hc:Counts w)(hoa:OkA w ⟨p,A,c⟩)(hob:OkA w ⟨q,B,d⟩)(hRa:∀y∈A,R64 y.num)(hRb:∀y∈B,R64 y.num)(hna:na=A.length)(hnb:nb=B.length):
  Calls Tryz.prog 10 #[.string s,.slice p na c,.slice q nb d] w fun e w'=>e= .returned (.bool true)∧Below w.heap.size w w':=by
 have He:=Za he;have Hm:=Za hm;have Hc:=Za hc;have Hoa:=Za hoa;have Hob:=Za hob;have HRa:=Za hRa;have HRb:=Za hRb;have Hna:=Za hna;have Hnb:=Za hnb;have hal:Below w.heap.size w (w.alloc (.cells #[.slice p na c,.slice q nb d] 28)):=(Below.refl _ _).alloc (Nat.le_refl _) _
 have hg:=Zfp (some ⟨w.heap.size,0,none⟩) 2 2 [⟨p,A,c⟩,⟨q,B,d⟩] (w.alloc (.cells #[.slice p na c,.slice q nb d] 28)) rfl (by decide) (by rw[hna,hnb];exact Rd.new w 28 [.slice p A.length c,.slice q B.length d])
  (by
   intro x hx;simp only[List.mem_cons,List.not_mem_nil,or_false]at hx;rcases hx with rfl|rfl
   ·exact⟨hoa.1.keep hal,hoa.2⟩
   ·exact⟨hob.1.keep hal,hob.2⟩)
 have HG:=Za hg;clear he hm hc hoa hob hRa hRb hna hnb hg;go_enter Tryz.func10,Tryz.ntmps10;go_wp2_with fail;refine HG.out.mono ?_;rintro e w1 ⟨⟨z,rfl,hq⟩,hb1⟩;have hB1:=Zb hal hb1;clear HG hal hb1;by_cases hq0:z=0
 ·subst hq0;clear hq;go_wp2_with fail;refine(ZaY m _ (He.out.keep hB1) (Zc hB1 Hm.out) (Hc.out.keep hB1)).mono ?_;rintro e w99 ⟨rfl,hb99⟩;have hB99:=Zb hB1 hb99;go_wp2;go_ret;exact⟨rfl,hB99⟩
 ·have hqq:=hq hq0;have hza:A.length≤300:=hqq.1 ⟨p,A,c⟩ (by simp);have hzb:B.length≤300:=hqq.1 ⟨q,B,d⟩ (by simp);have hna3:na≤300:=by have:=Hna.out;omega
  have hnb3:nb≤300:=by have:=Hnb.out;omega
  have hqf:(z==0)=false:=by simpa using hq0
  rw[hqf];clear hq hqq hqf hq0 hza hzb;by_cases h1000:(1000:Int)<(s.size:Int)
  ·go_wp2_with fail;refine(ZaY m _ (He.out.keep hB1) (Zc hB1 Hm.out) (Hc.out.keep hB1)).mono ?_;rintro e w99 ⟨rfl,hb99⟩;have hB99:=Zb hB1 hb99;go_wp2;go_ret;exact⟨rfl,hB99⟩
  ·obtain⟨F,hF1,hF2,hF3⟩:=Zji s;have HF1:=Za hF1;have HF2:=Za hF2;have HF3:=Za hF3;clear hF1 hF2 hF3;have C1:=ZcT p A na c w1 (Hoa.out.1.keep hB1) Hna.out (by omega);go_wp2_with fail;refine C1.mono ?_;rintro e w2 ⟨rfl,ox,hb2⟩;have hB2:=Zb hB1 hb2;have C2:=ZcT q B nb d w2 (Hob.out.1.keep hB2) Hnb.out (by omega);have Ox:=Za ox;clear C1 ox;go_wp2_with fail;refine C2.mono ?_;rintro e w3 ⟨rfl,oy,hb3⟩;have hB3:=Zb hB2 hb3;have Ox3:=Za (Ox.out.keep hb3);have Oy3:=Za oy;obtain⟨gx,hgx⟩:∃g,g=w1.heap.size:=⟨_,rfl⟩;obtain⟨gy,hgy⟩:∃g,g=w2.heap.size:=⟨_,rfl⟩;rw[←hgx]at Ox3⊢;rw[←hgy]at Oy3⊢;have hgx3:gx<w3.heap.size:=by have h9:=(Z5 Ox3.out gx rfl).2;exact h9
   have hwx:w.heap.size≤gx:=by rw[hgx];exact hB1.size
   have HGX:=Za hgx3;have HWX:=Za hwx;clear C2 oy Ox hgx hgy hgx3 hwx hb2 hb3 hB1 hB2;have hO0:=Out.start w3 w3.heap.size;have hC3:=Below.refl w3.heap.size w3;have hw3:w.heap.size≤w3.heap.size:=hB3.size;have HW3:=Za hw3;clear hw3;obtain⟨l1,hl1⟩:∃l,l=(F A B).1:=⟨_,rfl⟩;obtain⟨e1,he1⟩:∃e,e=(F A B).2:=⟨_,rfl⟩;have K3:=HF1.out (some ⟨gx,0,none⟩) (some ⟨gy,0,none⟩) na nb (na+12) (nb+12) A B w3 (He.out.keep hB3) (ZdW Ox3.out.rd Hoa.out) (ZdW Oy3.out.rd Hob.out) HRa.out HRb.out Hna.out Hnb.out;have R1:=fun(W:World) (hB:Below w.heap.size w W)=>HF2.out p q na nb c d A B W ⟨Hoa.out.1.keep hB,Hoa.out.2⟩ ⟨Hob.out.1.keep hB,Hob.out.2⟩ HRa.out HRb.out Hna.out Hnb.out;have hl1b:l1.length≤1:=by rw[hl1];exact HF3.out A B
   rw[←hl1,←he1]at K3 R1;have HR1:=Za R1;clear hl1 he1 R1 HF1 HF2 HF3;obtain⟨j1,hj1⟩:∃j,j=l1.length:=⟨_,rfl⟩;have hj1b:j1≤1:=by omega
   have Hj1:=Za hj1;clear hj1 hl1b;have K3h:=Za K3;clear K3;go_wp2_with fail;refine K3h.out.mono ?_;rintro e w4 ⟨v,rfl,ho,hb⟩;have hO1:=hO0.next hC3.size ho hb;have hB4:=Zb hB3 hb;have hC4:=Zb hC3 hb;obtain⟨a1,c1,hv⟩:=Zl ho;rw[←Hj1.out]at hv;subst hv;clear ho hb hB3 hC3 hO0;clear K3h;have K4:=Za (HR1.out w4 hB4);go_wp2_with fail;refine K4.out.mono ?_;rintro e w5 ⟨v,rfl,ho,hb⟩;have hO2:=hO1.next hC4.size ho hb;have hB5:=Zb hB4 hb;have hC5:=Zb hC4 hb;obtain⟨a2,c2,hv⟩:=Zl ho;rw[←Hj1.out]at hv;subst hv;clear ho hb hB4 hC4 hO1;clear K4 HR1;obtain⟨l2,hl2⟩:∃l,l=(arV fMinus [zeroI] A).1:=⟨_,rfl⟩;obtain⟨e2,he2⟩:∃e,e=(arV fMinus [zeroI] A).2:=⟨_,rfl⟩;have K5:=Zld (some ⟨gx,0,none⟩) na (na+12) A w5 (He.out.keep hB5) (ZdW (Ox3.out.keep hC5).rd Hoa.out) HRa.out Hna.out;have R2:=fun(W:World) (hB:Below w.heap.size w W)=>Zjj p na c A W ⟨Hoa.out.1.keep hB,Hoa.out.2⟩ HRa.out Hna.out;have hl2b:l2.length≤1:=by rw[hl2];exact Zkq _ _ _
   rw[←hl2,←he2]at K5 R2;have HR2:=Za R2;clear hl2 he2 R2;obtain⟨j2,hj2⟩:∃j,j=l2.length:=⟨_,rfl⟩;have hj2b:j2≤1:=by omega
   have Hj2:=Za hj2;clear hj2 hl2b;have K5h:=Za K5;clear K5;go_wp2_with fail;refine K5h.out.mono ?_;rintro e w6 ⟨v,rfl,ho,hb⟩;have hO3:=hO2.next hC5.size ho hb;have hB6:=Zb hB5 hb;have hC6:=Zb hC5 hb;obtain⟨a3,c3,hv⟩:=Zl ho;rw[←Hj2.out]at hv;subst hv;clear ho hb hB5 hC5 hO2;clear K5h;have K6:=Za (HR2.out w6 hB6);go_wp2_with fail;refine K6.out.mono ?_;rintro e w7 ⟨v,rfl,ho,hb⟩;have hO4:=hO3.next hC6.size ho hb;have hB7:=Zb hB6 hb;have hC7:=Zb hC6 hb;obtain⟨a4,c4,hv⟩:=Zl ho;rw[←Hj2.out]at hv;subst hv;clear ho hb hB6 hC6 hO3;clear K6 HR2;have K7:=Za (Zg4 (some ⟨gx,0,none⟩) na (na+12) A w7 (He.out.keep hB7).t8 (ZdW (Ox3.out.keep hC7).rd Hoa.out) Hna.out (by omega));go_wp2_with fail;refine K7.out.mono ?_;rintro e w8 ⟨v,l3,e3,rfl,hnp,hll,ho,hb⟩;have HNP:=Za hnp;obtain⟨j3,hj3⟩:∃j,j=l3.length:=⟨_,rfl⟩;have hj3b:j3≤300:=by have:=Hna.out;omega
   have Hj3:=Za hj3;clear hnp hll hj3;have hO5:=hO4.next hC7.size ho hb;have hB8:=Zb hB7 hb;have hC8:=Zb hC7 hb;obtain⟨a5,c5,hv⟩:=Zl ho;rw[←Hj3.out]at hv;subst hv;clear ho hb hB7 hC7 hO4;clear K7;have K8:=Za (Zg4 (some ⟨gx,0,none⟩) na (na+12) A w8 (He.out.keep hB8).t8 (ZdW (Ox3.out.keep hC8).rd Hoa.out) Hna.out (by omega));go_wp2_with fail;refine K8.out.mono ?_;rintro e w9 ⟨v,l4,e4,rfl,hnp,_,ho,hb⟩;obtain⟨h34,he34⟩:=HNP.out.one hnp;subst h34 he34;clear hnp;have hO6:=hO5.next hC8.size ho hb;have hB9:=Zb hB8 hb;have hC9:=Zb hC8 hb;obtain⟨a6,c6,hv⟩:=Zl ho;rw[←Hj3.out]at hv;subst hv;clear ho hb hB8 hC8 hO5;clear K8;have K9:=Za (Zjo p na c A w9 ⟨Hoa.out.1.keep hB9,Hoa.out.2⟩ Hna.out (by omega));go_wp2_with fail;refine K9.out.mono ?_;rintro e w10 ⟨v,l4,e4,rfl,hnp,ho,hb⟩;obtain⟨h34,he34⟩:=HNP.out.one hnp;subst h34 he34;clear hnp;have hO7:=hO6.next hC9.size ho hb;have hB10:=Zb hB9 hb;have hC10:=Zb hC9 hb;obtain⟨a7,c7,hv⟩:=Zl ho;rw[←Hj3.out]at hv;subst hv;clear ho hb hB9 hC9 hO6;clear K9 HNP;have HO:=Za hO7;clear hO7;have K10:=Za (Zbt p A gx na c w10 (Ox3.out.keep hC10).rd (Hoa.out.1.keep hB10) Hna.out (by omega));go_wp2_with fail;refine K10.out.mono ?_;rintro e w11 ⟨rfl,hb⟩;have HO2:=Za (HO.out.keep hb);have hB11:=Zb hB10 hb;have hC11:=Zb hC10 hb;clear hb HO hB10 hC10 K10;have K11:=Za (Zbt q B gy nb d w11 (Oy3.out.keep hC11).rd (Hob.out.1.keep hB11) Hnb.out (by omega));go_wp2_with fail;refine K11.out.mono ?_;rintro e w12 ⟨rfl,hb⟩;have HO:=Za (HO2.out.keep hb);have hB12:=Zb hB11 hb;have hC12:=Zb hC11 hb;clear hb HO2 hB11 hC11 K11;have K12:=Za (ZiM gx na w12 (Zmv Hna.out (Ox3.out.keep hC12)) (by omega));go_wp2_with fail;refine K12.out.mono ?_;rintro e w13 ⟨rfl,hg⟩;have HO2:=Za (HO.out.other hg HGX.out);have hB13:Below w.heap.size w w13:=hB12.grown hg hB12.size fun b hb=>by injection hb with hb;rw[←hb];exact HWX.out
   have hs13:w3.heap.size≤w13.heap.size:=Nat.le_trans hC12.size hg.size;have Hs13:=Za hs13;clear hg HO hB12 hC12 K12 hs13 Ox3 Oy3;have q1:=Za (HO2.out.rd (x:=⟨w3.heap.size,w4.heap.size,.slice a1 j1 c1,l1⟩) (by simp) rfl);have q2:=Za (HO2.out.rd (x:=⟨w4.heap.size,w5.heap.size,.slice a2 j1 c2,l1⟩) (by simp) rfl);have q3:=Za (HO2.out.rd (x:=⟨w5.heap.size,w6.heap.size,.slice a3 j2 c3,l2⟩) (by simp) rfl);have q4:=Za (HO2.out.rd (x:=⟨w6.heap.size,w7.heap.size,.slice a4 j2 c4,l2⟩) (by simp) rfl);have q5:=Za (HO2.out.rd (x:=⟨w7.heap.size,w8.heap.size,.slice a5 j3 c5,l3⟩) (by simp) rfl);have q7:=Za (HO2.out.rd (x:=⟨w9.heap.size,w10.heap.size,.slice a7 j3 c7,l3⟩) (by simp) rfl);have hD13:=Below.refl w13.heap.size w13;go_wp2_with fail;refine(Zba a1 a2 j1 c1 c2 l1 _ q1.out q2.out Hj1.out (by omega)).mono ?_;rintro e w14 ⟨rfl,hb⟩;have hD14:=Zb hD13 hb;clear hb hD13 q1 q2;go_wp2_with fail;refine(Zba a3 a4 j2 c3 c4 l2 _ (q3.out.keep hD14) (q4.out.keep hD14) Hj2.out (by omega)).mono ?_;rintro e w15 ⟨rfl,hb⟩;have hD15:=Zb hD14 hb;clear hb hD14 q3 q4;go_wp2_with fail;refine(Zba a5 a7 j3 c5 c7 l3 _ (q5.out.keep hD15) (q7.out.keep hD15) Hj3.out (by omega)).mono ?_;rintro e w16 ⟨rfl,hb⟩;have hD16:=Zb hD15 hb;clear hb hD15 q5 q7;have hO3:=HO2.out.keep hD16;have hB16:=Zb hB13 hD16;have hs16:w3.heap.size≤w16.heap.size:=Nat.le_trans Hs13.out hD16.size;have hal:Below w16.heap.size w16 (w16.alloc (.cells #[.slice a1 j1 c1,.slice a3 j2 c3,.slice a5 j3 c5,.slice a6 j3 c6] 28)):=(Below.refl _ _).alloc (Nat.le_refl _) _;have hO4:=hO3.keep hal
   have hsub:List.Sublist [(⟨w3.heap.size,w4.heap.size,.slice a1 j1 c1,l1⟩:Hd),⟨w5.heap.size,w6.heap.size,.slice a3 j2 c3,l2⟩,⟨w7.heap.size,w8.heap.size,.slice a5 j3 c5,l3⟩,⟨w8.heap.size,w9.heap.size,.slice a6 j3 c6,l3⟩] ([]++[⟨w3.heap.size,w4.heap.size,.slice a1 j1 c1,l1⟩]++[⟨w4.heap.size,w5.heap.size,.slice a2 j1 c2,l1⟩]++[⟨w5.heap.size,w6.heap.size,.slice a3 j2 c3,l2⟩]++[⟨w6.heap.size,w7.heap.size,.slice a4 j2 c4,l2⟩]++[⟨w7.heap.size,w8.heap.size,.slice a5 j3 c5,l3⟩]++[⟨w8.heap.size,w9.heap.size,.slice a6 j3 c6,l3⟩]++[⟨w9.heap.size,w10.heap.size,.slice a7 j3 c7,l3⟩]):=
    .cons_cons _ (.cons _ (.cons_cons _ (.cons _ (.cons_cons _ (.cons_cons _ (.cons _ .slnil))))))
   have hap:=ZiL (some ⟨w16.heap.size,0,none⟩) 4 4 [⟨w3.heap.size,w4.heap.size,.slice a1 j1 c1,l1⟩,⟨w5.heap.size,w6.heap.size,.slice a3 j2 c3,l2⟩,⟨w7.heap.size,w8.heap.size,.slice a5 j3 c5,l3⟩,⟨w8.heap.size,w9.heap.size,.slice a6 j3 c6,l3⟩] w3.heap.size _ (Rd.new w16 28 [.slice a1 j1 c1,.slice a3 j2 c3,.slice a5 j3 c5,.slice a6 j3 c6]) rfl (by simp) (by decide) (Nat.le_trans hs16 hal.size)
    (fun x hx=>⟨hO4.own x (hsub.subset hx),by
     have g1:=Hj1.out;have g2:=Hj2.out;have g3:=Hj3.out;simp only[List.mem_cons,List.not_mem_nil,or_false]at hx
     rcases hx with rfl|rfl|rfl|rfl<;>dsimp only<;>omega,hO4.lo x (hsub.subset hx)⟩)
    (hO4.pw.sublist hsub)
   have HAP:=Za hap;have hB17:=Zb hB16 hal;clear hap hO3 hO4 HO2 hal hD16 hsub hB13 hB16 hs16 Hs13;go_wp2_with fail;refine HAP.out.mono ?_;rintro e w18 ⟨rfl,hb⟩;have hB18:Below w.heap.size w w18:=hB17.trans (hb.mono HW3.out);clear hb HAP hB17;go_wp2_with fail;refine(ZaY m _ (He.out.keep hB18) (Zc hB18 Hm.out) (Hc.out.keep hB18)).mono ?_;rintro e w99 ⟨rfl,hb99⟩;have hB99:=Zb hB18 hb99;go_wp2;go_ret;exact⟨rfl,hB99⟩
end Go.Proofs.YtnnfhojhbbcbmaaGreatDoor
namespace Go.Proofs.YtnnfhojhbbcbmaaGreatDoor
set_option maxRecDepth 100000
set_option maxHeartbeats 4000000
open Go.RowKit
theorem ZhM(name:ByteArray)(p:Option Addr)(n c:Nat)(ls:List Lst)(m:Int)(w:World)(he:Env w)(hm:w.cell? ⟨1,0,none⟩=some (.int .i64 m))(hc:Counts w)(hr:Rd w p (ls.map Lst.v))(hok:OkAs w ls)
  (hs:name.size<4294967281) (hn:n=ls.length) (hnm:n≤1000000) (hno:rightL ls=false∨knV name.data.toList n=false):
  Calls Tryz.prog 14 #[.string name,.slice p n c] w (Res w [] (if rightL ls=true then 241 else 2)):=by
 have Hrt:=Za (Z7 p n c ls w he.t8 hn (by omega) hr hok);have Hkn:Hid (∀W,Below w.heap.size w W→Calls Tryz.prog 45 #[.string name,.int .i64 n] W fun e w'=>e= .returned (.bool (knV name.data.toList n))∧Below W.heap.size W w'):=fun W hW=>ZI name n m W (Zc hW hm) (hc.keep hW) hs;have hnl:n<9223372036854775807:=by omega
 clear he hm hc hr hok hs hn hnm;rcases Bool.eq_false_or_eq_true (rightL ls)with hq|hq
 ·have hk:knV name.data.toList n=false:=by
   rcases hno with h|h
   ·rw[hq]at h;cases h
   ·exact h
  rw[hq]at Hrt;rw[hk]at Hkn;rw[if_pos hq];clear hq hk hno;go_enter Tryz.func14,Tryz.ntmps14;go_wp2_with fail;refine Hrt.out.mono ?_;rintro e w1 ⟨rfl,hb1⟩;go_wp2_with fail;refine(Hkn.out w1 hb1).mono ?_;rintro e w2 ⟨rfl,hb2⟩;have hB2:=Zb hb1 hb2;go_wp2;go_ret2;exact⟨.slice none 0 0,rfl,OwI.nil _ _,hB2⟩
 ·rw[hq]at Hrt;rw[if_neg (by rw[hq];decide)];clear hq hno Hkn;go_enter Tryz.func14,Tryz.ntmps14;go_wp2_with fail;refine Hrt.out.mono ?_;rintro e w1 ⟨rfl,hb1⟩;go_wp2;go_ret2;exact⟨.slice none 0 0,rfl,OwI.nil _ _,hb1⟩
theorem Zho(p:Option Addr)(c:Nat)(w:World):Calls Tryz.prog 46 #[.string ⟨#[116,114,117,101]⟩,.slice p 0 c] w fun e w'=>∃v,e= .returned (.tuple #[v,.int .i64 0,.bool true])∧OwI w' w.heap.size v [⟨4,bN true,⟨#[]⟩,0⟩]∧Below w.heap.size w w':=by go_enter Tryz.func46,Tryz.ntmps46;go_wp2_with fail;refine(ZR true _).mono ?_;rintro e w1 ⟨v,rfl,ho,hb⟩;have Ho:=Za ho;clear ho;go_wp2;go_ret3;exact⟨v,rfl,Ho.out,hb⟩
theorem Zgi(p:Option Addr)(c:Nat)(w:World):Calls Tryz.prog 46 #[.string ⟨#[102,97,108,115,101]⟩,.slice p 0 c] w fun e w'=>∃v,e= .returned (.tuple #[v,.int .i64 0,.bool true])∧OwI w' w.heap.size v [⟨4,bN false,⟨#[]⟩,0⟩]∧Below w.heap.size w w':=by go_enter Tryz.func46,Tryz.ntmps46;go_wp2_with fail;refine(ZR false _).mono ?_;rintro e w1 ⟨v,rfl,ho,hb⟩;have Ho:=Za ho;clear ho;go_wp2;go_ret3;exact⟨v,rfl,Ho.out,hb⟩
theorem Zll(p:Option Addr)(c:Nat)(m:Int)(w:World)(he:Env w)(hm:w.cell? ⟨1,0,none⟩=some (.int .i64 m))(hc:Counts w):
  Calls Tryz.prog 14 #[.string ⟨#[116,114,117,101]⟩,.slice p 0 c] w (Res w [⟨4,bN true,⟨#[]⟩,0⟩] 0):=by
 have Hrt:=Za (Z7 p 0 c [] w he.t8 rfl (by decide) (Rd.nil w p) (fun x hx=>by cases hx));rw[show rightL []=true from rfl]at Hrt;have Hkn:Hid (∀W,Below w.heap.size w W→Calls Tryz.prog 45 #[.string ⟨#[116,114,117,101]⟩,.int .i64 0] W fun e w'=>e= .returned (.bool (knV [116,114,117,101] 0))∧Below W.heap.size W w'):=fun W hW=>ZI ⟨#[116,114,117,101]⟩ 0 m W (Zc hW hm) (hc.keep hW) (by decide);rw[show knV [116,114,117,101] 0=true by decide+kernel]at Hkn;clear he hm hc;go_enter Tryz.func14,Tryz.ntmps14;go_wp2_with fail;refine Hrt.out.mono ?_;rintro e w1 ⟨rfl,hb1⟩;go_wp2_with fail;refine(Hkn.out w1 hb1).mono ?_;rintro e w2 ⟨rfl,hb2⟩;have hB2:=Zb hb1 hb2;clear hb1 hb2;go_wp2_with fail;refine(Zho p c w2).mono ?_;rintro e w3 ⟨v,rfl,ho,hb3⟩;have Ho:=Za (ho.mono hB2.size);have hB3:=Zb hB2 hb3;clear ho hb3;go_wp2;go_ret2;exact⟨v,rfl,Ho.out,hB3⟩
theorem Zjp(p:Option Addr)(c:Nat)(m:Int)(w:World)(he:Env w)(hm:w.cell? ⟨1,0,none⟩=some (.int .i64 m))(hc:Counts w):
  Calls Tryz.prog 14 #[.string ⟨#[102,97,108,115,101]⟩,.slice p 0 c] w (Res w [⟨4,bN false,⟨#[]⟩,0⟩] 0):=by
 have Hrt:=Za (Z7 p 0 c [] w he.t8 rfl (by decide) (Rd.nil w p) (fun x hx=>by cases hx));rw[show rightL []=true from rfl]at Hrt;have Hkn:Hid (∀W,Below w.heap.size w W→Calls Tryz.prog 45 #[.string ⟨#[102,97,108,115,101]⟩,.int .i64 0] W fun e w'=>e= .returned (.bool (knV [102,97,108,115,101] 0))∧Below W.heap.size W w'):=fun W hW=>ZI ⟨#[102,97,108,115,101]⟩ 0 m W (Zc hW hm) (hc.keep hW) (by decide);rw[show knV [102,97,108,115,101] 0=true by decide+kernel]at Hkn;clear he hm hc;go_enter Tryz.func14,Tryz.ntmps14;go_wp2_with fail;refine Hrt.out.mono ?_;rintro e w1 ⟨rfl,hb1⟩;go_wp2_with fail;refine(Hkn.out w1 hb1).mono ?_;rintro e w2 ⟨rfl,hb2⟩;have hB2:=Zb hb1 hb2;clear hb1 hb2;go_wp2_with fail;refine(Zgi p c w2).mono ?_;rintro e w3 ⟨v,rfl,ho,hb3⟩;have Ho:=Za (ho.mono hB2.size);have hB3:=Zb hB2 hb3;clear ho hb3;go_wp2;go_ret2;exact⟨v,rfl,Ho.out,hB3⟩
end Go.Proofs.YtnnfhojhbbcbmaaGreatDoor
namespace Go.Proofs.YtnnfhojhbbcbmaaGreatDoor
set_option maxRecDepth 100000
set_option maxHeartbeats 4000000
open Go.RowKit
def ZaO(op:Int→Int→Int×Bool):Bool→Int→List It→Int×Int
 |_,n,[]=>(n,0)
 |first,n,x::r=>if nE x=0 then(if first=true then ZaO op false (nV x) r else if (op n (nV x)).2=true then ZaO op false (op n (nV x)).1 r else(0,251))else(0,nE x)
def numR(op:Int→Int→Int×Bool)(l:List It):List It×Int:=if (ZaO op true 0 l).2=0 then([⟨2,(ZaO op true 0 l).1,⟨#[]⟩,0⟩],0)else([],(ZaO op true 0 l).2)
def ZC(a b:Int):Int×Bool:=(wrap64 (a+b),fit (a+b))
def opLeast(a b:Int):Int×Bool:=(min a b,true)
def opMost(a b:Int):Int×Bool:=(max a b,true)
theorem Zcg {op:Int→Int→Int×Bool}{l:List It}{e v:Int}(h:ZaO op true 0 l=(v,e))(he:e≠0):numR op l=([],e):=by unfold numR;rw[h];exact if_neg he
theorem Zfu {op:Int→Int→Int×Bool}{l:List It}{v:Int}(h:ZaO op true 0 l=(v,0)):numR op l=([⟨2,v,⟨#[]⟩,0⟩],0):=by unfold numR;rw[h];exact if_pos rfl
theorem Zow {a b:Int}(ha:R64 a)(hb:R64 b):R64 (min a b):=by unfold R64 at*;omega
theorem Zox {a b:Int}(ha:R64 a)(hb:R64 b):R64 (max a b):=by unfold R64 at*;omega
theorem Zlm(a b:Int)(w:World):Calls Tryz.prog 97 #[.int .i64 a,.int .i64 b] w fun e w'=>e= .returned (.tuple #[.int .i64 (opLeast a b).1,.bool (opLeast a b).2])∧w=w':=by show Calls _ _ _ _ fun e w'=>e= .returned (.tuple #[.int .i64 (min a b),.bool true])∧w=w';go_enter Tryz.func97,Tryz.ntmps97;go_wp2;go_ret2;exact⟨rfl,rfl⟩
theorem ZmD(a b:Int)(w:World):Calls Tryz.prog 98 #[.int .i64 a,.int .i64 b] w fun e w'=>e= .returned (.tuple #[.int .i64 (opMost a b).1,.bool (opMost a b).2])∧w=w':=by show Calls _ _ _ _ fun e w'=>e= .returned (.tuple #[.int .i64 (max a b),.bool true])∧w=w';go_enter Tryz.func98,Tryz.ntmps98;go_wp2;go_ret2;exact⟨rfl,rfl⟩
theorem Zln(a b:Int)(ha:R64 a)(hb:R64 b)(w:World):Calls Tryz.prog 96 #[.int .i64 a,.int .i64 b] w fun e w'=>e= .returned (.tuple #[.int .i64 (ZC a b).1,.bool (ZC a b).2])∧w=w':=ZcG a b ha hb w
theorem ZcF(g:Nat)(op:Int→Int→Int×Bool)(eg:∀args w,(callFunc g args).run Tryz.prog w= .ok (.enter g args) w)(hop:∀a b,R64 a→R64 b→∀w,Calls Tryz.prog g #[.int .i64 a,.int .i64 b] w fun e w'=>e= .returned (.tuple #[.int .i64 (op a b).1,.bool (op a b).2])∧w=w')(hopR:∀a b,R64 a→R64 b→R64 (op a b).1)(p:Option Addr)(n c:Nat)(l:List It)(w:World)(he:Env w)(ha:OkA w ⟨p,l,c⟩)(hR:∀y∈l,R64 y.num)(hn:n=l.length):
  Calls Tryz.prog 95 #[.slice p n c,.func (.func g) #[] #[]] w (Res w (numR op l).1 (numR op l).2):=by
 have Hop:=Za hop;have HopR:=Za hopR;have Ha:=Za ha;have He:=Za he;have Hn:=Za hn;have HR:=Za hR;have hnl:n<9223372036854775807:=by rw[hn];exact ha.2.2
 clear ha he hn hR hop hopR;go_enter Tryz.func95,Tryz.ntmps95;go_wp2_with fail;go_loopw[6,14] (fun v iv W=>∃(acc:Int) (k:Nat),k≤n∧v= .int .i64 acc∧iv= .int .i64 k∧Hid (ZaO op (decide (k=0)) acc (l.drop k)=ZaO op true 0 l)∧R64 acc∧Below w.heap.size w W) (fun _ iv _=>n-(intOf iv).toNat)
 case atStart=>exact⟨0,0,Nat.zero_le _,rfl,rfl,Za rfl,by unfold R64;decide,Below.refl _ _⟩
 case round=>
  obtain⟨acc,k,hk,rfl,rfl,Hk,hA,hB⟩:=hrel;have HA:=Za hA;clear hA;by_cases hlt:k<n
  ·have hI:(k:Int)<(n:Int):=by omega
   obtain⟨x,hx⟩:∃x,l[k]? =some x:=⟨_,List.getElem?_eq_getElem (by have:=Hn.out;omega)⟩;obtain⟨b1,off1,e1,c0,c1,c2,c3⟩:=(Ha.out.1.keep hB).at k x hx;dsimp only at e1;subst e1;have hs1:=Ha.out.2.1 x (List.mem_of_getElem? hx);have hix:=Zr b1 off1 n c k hlt;have Hst:=Za (ZbU l k x hx);have HxR:=Za (HR.out x (List.mem_of_getElem? hx));clear hx;obtain⟨xk,xa,xt,xd⟩:=x;dsimp only at c0 c1 c2 c3 hs1;have hB2:=hB.alloc hB.size (.cells #[.int .u8 xk,.int .i64 xa,.string xt,.int .i64 xd] 24);go_wp2_with fail;refine(Zax xk xa xd xt _ (He.out.keep hB2) hs1).mono ?_;rintro e w1 ⟨rfl,hb1⟩;have hB3:=Zb hB2 hb1;have HnR:=Za (ZgO (x:=⟨xk,xa,xt,xd⟩) HxR.out);clear hb1 c0 c1 c2 c3 hB2 hB hix;rw[Hst.out]at Hk;have Hk2:Hid ((if nE ⟨xk,xa,xt,xd⟩=0 then(if decide (k=0)=true then ZaO op false (nV ⟨xk,xa,xt,xd⟩) (l.drop (k+1))else if (op acc (nV ⟨xk,xa,xt,xd⟩)).2=true then ZaO op false (op acc (nV ⟨xk,xa,xt,xd⟩)).1 (l.drop (k+1))else(0,251))else(0,nE ⟨xk,xa,xt,xd⟩))=ZaO op true 0 l):=Hk.out;clear Hk Hst;generalize nV ⟨xk,xa,xt,xd⟩=nv at*;generalize nE ⟨xk,xa,xt,xd⟩=ne at*;by_cases hz:ne=0
   ·subst hz;by_cases hk0:k=0
    ·subst hk0;have Hk3:Hid (ZaO op (decide (0+1=0)) nv (l.drop (0+1))=ZaO op true 0 l):=Hk2.out;clear Hk2;go_wp2;go_roundw
     case rel=>exact⟨nv,1,by omega,rfl,by simp,Hk3,HnR.out,hB3⟩
     case measure=>simp[intOf];omega
    ·have hk1:(0:Int)<(k:Int):=by omega
     have hk2:0<k:=by omega
     have hcc:=Hop.out acc nv HA.out HnR.out w1;rcases Bool.eq_false_or_eq_true (op acc nv).2 with hf|hf
     ·have Hk3:Hid (ZaO op (decide (k+1=0)) (op acc nv).1 (l.drop (k+1))=ZaO op true 0 l):=by show _=_;rw[←Hk2.out,if_pos rfl,if_neg (by simpa using hk0),if_pos hf];rfl
      have HmR:Hid (R64 (op acc nv).1):=HopR.out _ _ HA.out HnR.out;rw[hf]at hcc;generalize (op acc nv).1=r1 at*;clear Hk2 hk0 hf;go_wp2_with (go_at_fn g;refine hcc.mono ?_;rintro e w2 ⟨rfl,rfl⟩);go_roundw
      case rel=>exact⟨r1,k+1,by omega,rfl,by simp,Hk3,HmR.out,hB3⟩
      case measure=>simp[intOf];omega
     ·have HX:Hid (numR op l=([],251)):=Zcg (v:=0) (by rw[←Hk2.out,if_pos rfl,if_neg (by simpa using hk0),if_neg (by rw[hf];decide)]) (by decide);rw[hf]at hcc;generalize (op acc nv).1=r1 at*;clear Hk2 hk0 hf;go_wp2_with (go_at_fn g;refine hcc.mono ?_;rintro e w2 ⟨rfl,rfl⟩);go_ret2;exact⟨.slice none 0 0,by rw[HX.out];rfl,by rw[HX.out];exact OwI.nil _ _,hB3⟩
   ·have hz1:(ne != 0)=true:=by simpa using hz
    have HX:Hid (numR op l=([],ne)):=Zcg (v:=0) (by rw[←Hk2.out];exact if_neg hz) hz;clear Hk2 hz;go_wp2;go_ret2;exact⟨.slice none 0 0,by rw[HX.out];rfl,by rw[HX.out];exact OwI.nil _ _,hB3⟩
  ·have hI:¬(k:Int)<(n:Int):=by omega
   have HX:Hid (numR op l=([⟨2,acc,⟨#[]⟩,0⟩],0)):=Zfu (by rw[←Hk.out,List.drop_eq_nil_of_le (by have:=Hn.out;omega)];rfl);clear Hk;go_wp2_with fail;refine(Zak acc _).mono ?_;rintro e w2 ⟨v,rfl,ho,hb2⟩;have Ho:=Za (ho.mono hB.size);have hB3:=Zb hB hb2;clear ho hb2;go_wp2;go_ret2;exact⟨v,by rw[HX.out];rfl,by rw[HX.out];exact Ho.out,hB3⟩
theorem Zhp(p:Option Addr)(n c:Nat)(l:List It)(w:World)(he:Env w)(ha:OkA w ⟨p,l,c⟩)(hR:∀y∈l,R64 y.num)(hn:n=l.length):
  Calls Tryz.prog 95 #[.slice p n c,.func (.func 96) #[] #[]] w (Res w (numR ZC l).1 (numR ZC l).2):=
 ZcF 96 ZC (enters_of Tryz.func96 (by kernel_rfl) rfl) (fun a b h1 h2 w=>Zln a b h1 h2 w) (fun _ _ _ _=>ZeA _) p n c l w he ha hR hn
theorem Zgj(p:Option Addr)(n c:Nat)(l:List It)(w:World)(he:Env w)(ha:OkA w ⟨p,l,c⟩)(hR:∀y∈l,R64 y.num)(hn:n=l.length):
  Calls Tryz.prog 95 #[.slice p n c,.func (.func 97) #[] #[]] w (Res w (numR opLeast l).1 (numR opLeast l).2):=
 ZcF 97 opLeast (enters_of Tryz.func97 (by kernel_rfl) rfl) (fun a b _ _ w=>Zlm a b w) (fun _ _ h1 h2=>Zow h1 h2) p n c l w he ha hR hn
theorem Zhq(p:Option Addr)(n c:Nat)(l:List It)(w:World)(he:Env w)(ha:OkA w ⟨p,l,c⟩)(hR:∀y∈l,R64 y.num)(hn:n=l.length):
  Calls Tryz.prog 95 #[.slice p n c,.func (.func 98) #[] #[]] w (Res w (numR opMost l).1 (numR opMost l).2):=
 ZcF 98 opMost (enters_of Tryz.func98 (by kernel_rfl) rfl) (fun a b _ _ w=>ZmD a b w) (fun _ _ h1 h2=>Zox h1 h2) p n c l w he ha hR hn
end Go.Proofs.YtnnfhojhbbcbmaaGreatDoor
namespace Go.Proofs.YtnnfhojhbbcbmaaGreatDoor
set_option maxRecDepth 100000
set_option maxHeartbeats 4000000
open Go.RowKit
def Zg6(l:List It):List It×Int:=numR ZC l
def Zel(l:List It):List It×Int:=if l=[]then([],0)else numR opLeast l
def Zem(l:List It):List It×Int:=if l=[]then([],0)else numR opMost l
theorem Zgk(p:Option Addr)(n c:Nat)(l:List It)(w:World)(he:Env w)(ha:OkA w ⟨p,l,c⟩)(hR:∀y∈l,R64 y.num)(hn:n=l.length):
  Calls Tryz.prog 47 #[.string ⟨#[115,117,109]⟩,.slice p n c] w fun e w'=>∃v,e= .returned (.tuple #[v,.int .i64 (Zg6 l).2,.bool true])∧OwI w' w.heap.size v (Zg6 l).1∧Below w.heap.size w w':=by
 have H:=Za (Zhp p n c l w he ha hR hn);show Calls _ _ _ _ fun e w'=>∃v,e= .returned (.tuple #[v,.int .i64 (numR ZC l).2,.bool true])∧OwI w' w.heap.size v (numR ZC l).1∧Below w.heap.size w w';generalize numR ZC l=sv at*;obtain⟨s1,s2⟩:=sv;dsimp only at H⊢;clear he ha hR hn;go_enter Tryz.func47,Tryz.ntmps47;go_wp2_with fail;refine H.out.mono ?_;rintro e w1 ⟨v,rfl,ho,hb⟩;have Ho:=Za ho;clear ho;go_wp2;go_ret3;exact⟨v,rfl,Ho.out,hb⟩
theorem Zgl(p:Option Addr)(n c:Nat)(l:List It)(w:World)(he:Env w)(ha:OkA w ⟨p,l,c⟩)(hR:∀y∈l,R64 y.num)(hn:n=l.length):
  Calls Tryz.prog 47 #[.string ⟨#[109,105,110]⟩,.slice p n c] w fun e w'=>∃v,e= .returned (.tuple #[v,.int .i64 (Zel l).2,.bool true])∧OwI w' w.heap.size v (Zel l).1∧Below w.heap.size w w':=by
 by_cases h0:l=[]
 ·subst h0;have hn0:n=0:=hn;subst hn0;clear he ha hR hn;go_enter Tryz.func47,Tryz.ntmps47;go_wp2;go_ret3;exact⟨.slice none 0 0,rfl,OwI.nil _ _,Below.refl _ _⟩
 ·have H:=Za (Zgj p n c l w he ha hR hn);have hF:Zel l=numR opLeast l:=by unfold Zel;rw[if_neg h0]
  rw[hF];have hn1:(0:Int)<(n:Int):=by have:l.length≠0:=fun e=>h0 (List.length_eq_zero_iff.1 e);omega
  have hn2:0<n:=by omega
  generalize numR opLeast l=sv at*;obtain⟨s1,s2⟩:=sv;dsimp only at H⊢;clear he ha hR hn h0 hF;go_enter Tryz.func47,Tryz.ntmps47;go_wp2_with fail;refine H.out.mono ?_;rintro e w1 ⟨v,rfl,ho,hb⟩;have Ho:=Za ho;clear ho;go_wp2;go_ret3;exact⟨v,rfl,Ho.out,hb⟩
theorem Zgm(p:Option Addr)(n c:Nat)(l:List It)(w:World)(he:Env w)(ha:OkA w ⟨p,l,c⟩)(hR:∀y∈l,R64 y.num)(hn:n=l.length):
  Calls Tryz.prog 47 #[.string ⟨#[109,97,120]⟩,.slice p n c] w fun e w'=>∃v,e= .returned (.tuple #[v,.int .i64 (Zem l).2,.bool true])∧OwI w' w.heap.size v (Zem l).1∧Below w.heap.size w w':=by
 by_cases h0:l=[]
 ·subst h0;have hn0:n=0:=hn;subst hn0;clear he ha hR hn;go_enter Tryz.func47,Tryz.ntmps47;go_wp2;go_ret3;exact⟨.slice none 0 0,rfl,OwI.nil _ _,Below.refl _ _⟩
 ·have H:=Za (Zhq p n c l w he ha hR hn);have hF:Zem l=numR opMost l:=by unfold Zem;rw[if_neg h0]
  rw[hF];have hn1:(0:Int)<(n:Int):=by have:l.length≠0:=fun e=>h0 (List.length_eq_zero_iff.1 e);omega
  have hn2:0<n:=by omega
  generalize numR opMost l=sv at*;obtain⟨s1,s2⟩:=sv;dsimp only at H⊢;clear he ha hR hn h0 hF;go_enter Tryz.func47,Tryz.ntmps47;go_wp2_with fail;refine H.out.mono ?_;rintro e w1 ⟨v,rfl,ho,hb⟩;have Ho:=Za ho;clear ho;go_wp2;go_ret3;exact⟨v,rfl,Ho.out,hb⟩
end Go.Proofs.YtnnfhojhbbcbmaaGreatDoor
