/- value.Arith, value.Minus at any rows of items. Plain laws of sums, products, quotients. The reference: what a sign makes of two numbers. -/
import Derived.Test.YtnnfhojhbbcbmaaGreatDoorC14
import Derived.Test.YtnnfhojhbbcbmaaGreatDoorC07
namespace Go.Proofs.YtnnfhojhbbcbmaaGreatDoor
set_option maxRecDepth 100000
set_option maxHeartbeats 4000000
open Go.RowKit
theorem Zjd(p q:Option Addr)(n m c d:Nat)(A B:List It)(w:World)(ht8:Tabs8 w)(ha:OkA w ⟨p,A,c⟩)(hb:OkA w ⟨q,B,d⟩)(hn:n=A.length)(hm:m=B.length):
  Calls Tryz.prog 44 #[.slice (some ⟨w.heap.size,0,none⟩) 2 2] (w.alloc (.cells #[.slice p n c,.slice q m d] 28)) fun e w'=>e= .returned (.bool (A.all okI&&B.all okI))∧Below w.heap.size w w':=by
 subst hn hm;have hb0:Below w.heap.size w (w.alloc (.cells #[.slice p A.length c,.slice q B.length d] 28)):=(Below.refl _ _).alloc (Nat.le_refl _) _;have hrd:Rd (w.alloc (.cells #[.slice p A.length c,.slice q B.length d] 28)) (some ⟨w.heap.size,0,none⟩) (([⟨p,A,c⟩,⟨q,B,d⟩]:List Lst).map Lst.v):=Rd.new w 28 [.slice p A.length c,.slice q B.length d];refine(Z7 (some ⟨w.heap.size,0,none⟩) 2 2 [⟨p,A,c⟩,⟨q,B,d⟩] _ (ht8.keep hb0) rfl (by decide) hrd ?_).mono ?_
 ·intro x hx;simp only[List.mem_cons,List.not_mem_nil,or_false]at hx;rcases hx with rfl|rfl
  ·exact⟨ha.1.keep hb0,ha.2⟩
  ·exact⟨hb.1.keep hb0,hb.2⟩
 ·rintro e w' ⟨rfl,hb⟩;refine⟨by simp[rightL],Zb hb0 hb⟩
def arV(f:Int→Int→Int×Int)(A B:List It):List It×Int:=
 if (A.all okI&&B.all okI)=true then
  match A,B with
  | [],_=>([],0)
  |_,[]=>([],0)
  | [x],[y]=>if nE x=0∧nE y=0 then(if (f (nV x) (nV y)).2=0 then([⟨2,(f (nV x) (nV y)).1,⟨#[]⟩,0⟩],0)else([],(f (nV x) (nV y)).2))else([],250)
  |_,_=>([],253)
 else([],2)
variable {f : Int → Int → Int × Int}
theorem ZhK {A B:List It}(h:(A.all okI&&B.all okI)=false):arV f A B=([],2):=by unfold arV;rw[if_neg (by rw[h];decide)]
theorem Zfh {A B:List It}(h:(A.all okI&&B.all okI)=true)(h2:A.length=0∨B.length=0):arV f A B=([],0):=by
 unfold arV;rw[if_pos h]
 match A,B,h2 with
 | [],_,_=>rfl
 |_::_,[],_=>rfl
 |_::_,_::_,h=>simp at h
theorem ZdF {A B:List It}(h:(A.all okI&&B.all okI)=true)(h1:A.length≠0)(h2:B.length≠0)(h3:1<A.length∨1<B.length):arV f A B=([],253):=by
 unfold arV;rw[if_pos h]
 match A,B,h1,h2,h3 with
 | [],_,h,_,_=>exact absurd rfl h
 |_::_,[],_,h,_=>exact absurd rfl h
 | [_],[_],_,_,h=>simp at h
 |_::_::_,[_],_,_,_=>rfl
 |_::_::_,_::_::_,_,_,_=>rfl
 | [_],_::_::_,_,_,_=>rfl
theorem ZiJ {x y:It}(h:([x].all okI&& [y].all okI)=true)(h2:nE x≠0∨nE y≠0):arV f [x] [y]=([],250):=by unfold arV;rw[if_pos h];exact if_neg (by omega)
theorem Zkp {x y:It}{r:Int}(h:([x].all okI&& [y].all okI)=true)(h1:nE x=0)(h2:nE y=0)(h3:(f (nV x) (nV y)).2=r)(hr:r≠0):arV f [x] [y]=([],r):=by unfold arV;rw[if_pos h];show(if _ then _ else _)=_;rw[if_pos ⟨h1,h2⟩,if_neg (by rw[h3];exact hr),h3]
theorem ZmZ {x y:It}{v:Int}(h:([x].all okI&& [y].all okI)=true)(h1:nE x=0)(h2:nE y=0)(h3:(f (nV x) (nV y)).2=0)(hv:(f (nV x) (nV y)).1=v):arV f [x] [y]=([⟨2,v,⟨#[]⟩,0⟩],0):=by unfold arV;rw[if_pos h];show(if _ then _ else _)=_;rw[if_pos ⟨h1,h2⟩,if_pos h3,hv]
theorem ZlK(x:It)(h:R64 x.num):R64 (nV x):=by
 unfold nV;split
 ·exact h
 ·unfold whN;have h0:R64 0:=by unfold R64;omega
  split
  ·rename_i v hv;split
   ·exact Ze7 hv
   ·exact h0
  ·exact h0
theorem ZhY {l:List It}{n:Nat}(hn:n=l.length)(h0:n≠0)(h1:¬1<n):∃x,l=[x]:=by
 match l,hn with
 | [],h=>exact absurd h h0
 | [x],_=>exact⟨x,rfl⟩
 |_::_::_,h=>simp at h;omega
theorem Zec(s:ByteArray)(v1:Int)(hm:∀x y,R64 x→R64 y→ZfS s x y (f x y).1 (f x y).2)(h11:ZfS s 1 1 v1 0)(p q:Option Addr)(n m c d:Nat)(A B:List It)(w:World)(he:Env w)(ha:OkA w ⟨p,A,c⟩)(hb:OkA w ⟨q,B,d⟩)(hRa:∀y∈A,R64 y.num)(hRb:∀y∈B,R64 y.num)(hn:n=A.length)(hm2:m=B.length):
  Calls Tryz.prog 29 #[.string s,.slice p n c,.slice q m d] w fun e w'=>∃v,e= .returned (.tuple #[v,.int .i64 (arV f A B).2])∧OwI w' w.heap.size v (arV f A B).1∧Below w.heap.size w w':=by
 have Hr:=Za (Zjd p q n m c d A B w he.t8 ha hb hn hm2);have Ha:=Za ha;have Hb:=Za hb;have He:=Za he;have Hm:=Za hm;have H11:=Za h11;have HRa:=Za hRa;have HRb:=Za hRb;have hnl:n<9223372036854775807:=by rw[hn];exact ha.2.2
 have hml:m<9223372036854775807:=by rw[hm2];exact hb.2.2
 have Hn:=Za hn;have Hm2:=Za hm2;clear ha hb he hm h11 hRa hRb hn hm2;rcases Bool.eq_false_or_eq_true (A.all okI&&B.all okI)with hq|hq
 ·have HQ:=Za hq;rw[hq]at Hr;clear hq;by_cases hn0:n=0
  ·have HV:Hid (arV f A B=([],0)):=Zfh HQ.out (.inl (by rw[←Hn.out];exact hn0));subst hn0;go_enter Tryz.func29,Tryz.ntmps29;go_wp2_with fail;refine(H11.out _).mono ?_;rintro e w1 ⟨rfl,rfl⟩;go_wp2_with fail;refine Hr.out.mono ?_;rintro e w1 ⟨rfl,hb1⟩;go_wp2;go_ret2;exact⟨_,by rw[HV.out];rfl,by rw[HV.out];exact OwI.nil _ _,hb1⟩
  ·have n0:((n:Int)==0)=false:=by simp;omega
   by_cases hm0:m=0
   ·have HV:Hid (arV f A B=([],0)):=Zfh HQ.out (.inr (by rw[←Hm2.out];exact hm0));subst hm0;go_enter Tryz.func29,Tryz.ntmps29;go_wp2_with fail;refine(H11.out _).mono ?_;rintro e w1 ⟨rfl,rfl⟩;go_wp2_with fail;refine Hr.out.mono ?_;rintro e w1 ⟨rfl,hb1⟩;go_wp2;go_ret2;exact⟨_,by rw[HV.out];rfl,by rw[HV.out];exact OwI.nil _ _,hb1⟩
   ·have m0:((m:Int)==0)=false:=by simp;omega
    by_cases hn1:1<n
    ·have HV:Hid (arV f A B=([],253)):=ZdF HQ.out (by rw[←Hn.out];exact hn0) (by rw[←Hm2.out];exact hm0) (.inl (by rw[←Hn.out];exact hn1));have n1:(1:Int)<(n:Int):=by omega
     go_enter Tryz.func29,Tryz.ntmps29;go_wp2_with fail;refine(H11.out _).mono ?_;rintro e w1 ⟨rfl,rfl⟩;go_wp2_with fail;refine Hr.out.mono ?_;rintro e w1 ⟨rfl,hb1⟩;go_wp2;go_ret2;exact⟨_,by rw[HV.out];rfl,by rw[HV.out];exact OwI.nil _ _,hb1⟩
    ·have n1:decide ((1:Int)<(n:Int))=false:=decide_eq_false (by omega);by_cases hm1:1<m
     ·have HV:Hid (arV f A B=([],253)):=ZdF HQ.out (by rw[←Hn.out];exact hn0) (by rw[←Hm2.out];exact hm0) (.inr (by rw[←Hm2.out];exact hm1));have m1:(1:Int)<(m:Int):=by omega
      go_enter Tryz.func29,Tryz.ntmps29;go_wp2_with fail;refine(H11.out _).mono ?_;rintro e w1 ⟨rfl,rfl⟩;go_wp2_with fail;refine Hr.out.mono ?_;rintro e w1 ⟨rfl,hb1⟩;go_wp2;go_ret2;exact⟨_,by rw[HV.out];rfl,by rw[HV.out];exact OwI.nil _ _,hb1⟩
     ·obtain⟨x,rfl⟩:=ZhY Hn.out hn0 hn1;obtain⟨y,rfl⟩:=ZhY Hm2.out hm0 hm1;have hn9:n=1:=by omega
      have hm9:m=1:=by omega
      clear n0 m0 n1 hn0 hm0 hn1 hm1 hnl hml Hn Hm2;subst hn9 hm9;have hRx:=ZlK x (HRa.out x (by simp));have hRy:=ZlK y (HRb.out y (by simp));have hsx:=Ha.out.2.1 x (by simp);have hsy:=Hb.out.2.1 y (by simp);obtain⟨b1,off1,e1,-,-,-,-⟩:=at0 Ha.out.1;obtain⟨b2,off2,e2,-,-,-,-⟩:=at0 Hb.out.1;dsimp only at e1 e2;subst e1 e2;have i1:=ZaP b1 off1 1 c (by decide);have i2:=ZaP b2 off2 1 d (by decide);have HF:=Za (Hm.out _ _ hRx hRy);obtain⟨fv,hfv⟩:∃z,z=(f (nV x) (nV y)).1:=⟨_,rfl⟩;obtain⟨fr,hfr⟩:∃z,z=(f (nV x) (nV y)).2:=⟨_,rfl⟩;obtain⟨xe,hxe⟩:∃z,z=nE x:=⟨_,rfl⟩;obtain⟨ye,hye⟩:∃z,z=nE y:=⟨_,rfl⟩;have HNx:=Za (fun W=>Zax x.kind x.num x.node x.text W);have HNy:=Za (fun W=>Zax y.kind y.num y.node y.text W);have hex:(⟨x.kind,x.num,x.text,x.node⟩:It)=x:=rfl;have hey:(⟨y.kind,y.num,y.text,y.node⟩:It)=y:=rfl;rw[hex]at HNx;rw[hey]at HNy;rw[←hxe]at HNx;rw[←hye]at HNy;rw[←hfv,←hfr]at HF;have HE:Hid (xe=nE x∧ye=nE y):=⟨hxe,hye⟩;have HFE:Hid (fv=(f (nV x) (nV y)).1∧fr=(f (nV x) (nV y)).2):=⟨hfv,hfr⟩;have HSx:=Za hsx;have HSy:=Za hsy;clear hxe hye hfv hfr hex hey hRx hRy hsx hsy;have HV0:Hid (xe≠0∨ye≠0→arV f [x] [y]=([],250)):=fun h=>ZiJ HQ.out (by rw[←HE.out.1,←HE.out.2];exact h);have HV1:Hid (xe=0→ye=0→fr≠0→arV f [x] [y]=([],fr)):=fun h1 h2 h3=>Zkp HQ.out (by rw[←HE.out.1];exact h1) (by rw[←HE.out.2];exact h2) HFE.out.2.symm h3;have HV2:Hid (xe=0→ye=0→fr=0→arV f [x] [y]=([⟨2,fv,⟨#[]⟩,0⟩],0)):=fun h1 h2 h3=>ZmZ HQ.out (by rw[←HE.out.1];exact h1) (by rw[←HE.out.2];exact h2) (by rw[←HFE.out.2];exact h3) HFE.out.1.symm;clear HE HFE;obtain⟨xv,hxv⟩:∃z,z=nV x:=⟨_,rfl⟩;obtain⟨yv,hyv⟩:∃z,z=nV y:=⟨_,rfl⟩;rw[←hxv]at HNx HF;rw[←hyv]at HNy HF;clear hxv hyv;go_enter Tryz.func29,Tryz.ntmps29;go_wp2_with fail;refine(H11.out _).mono ?_;rintro e w1 ⟨rfl,rfl⟩;go_wp2_with fail;refine Hr.out.mono ?_;rintro e w1 ⟨rfl,hb1⟩;obtain⟨b3,off3,e3,c0,c1,c2,c3⟩:=at0 (Ha.out.1.keep hb1);injection e3 with e3;injection e3 with e3 e4;subst e3 e4;clear Hr H11;go_wp2_with fail;refine(HNx.out _ (He.out.keep hb1) HSx.out).mono ?_;rintro e w2 ⟨rfl,hb2⟩;have hB2:=Zb hb1 hb2;clear hb2 c0 c1 c2 c3 hb1;obtain⟨b3,off3,e3,c0,c1,c2,c3⟩:=at0 (Hb.out.1.keep hB2);injection e3 with e3;injection e3 with e3 e4;subst e3 e4;go_wp2_with fail;refine(HNy.out _ (He.out.keep hB2) HSy.out).mono ?_;rintro e w3 ⟨rfl,hb3⟩;have hB3:=Zb hB2 hb3;clear hb3 c0 c1 c2 c3 hB2;by_cases hxe:xe=0
      ·by_cases hye:ye=0
       ·subst hxe hye;have HW1:Hid (fr≠0→arV f [x] [y]=([],fr)):=fun h=>HV1.out rfl rfl h;have HW2:Hid (fr=0→arV f [x] [y]=([⟨2,fv,⟨#[]⟩,0⟩],0)):=fun h=>HV2.out rfl rfl h;clear HV0 HV1 HV2;go_wp2_with fail;refine(HF.out _).mono ?_;rintro e w4 ⟨rfl,rfl⟩;by_cases hfr:fr=0
        ·subst hfr;have HZ:Hid (arV f [x] [y]=([⟨2,fv,⟨#[]⟩,0⟩],0)):=HW2.out rfl;clear HW1 HW2;go_wp2_with fail;refine(Zak fv _).mono ?_;rintro e w5 ⟨v,rfl,ho,hb5⟩;have hB5:=Zb hB3 hb5;have Ho:=Za (ho.mono hB3.size);clear hb5 ho;go_wp2;go_ret2;exact⟨v,by rw[HZ.out];rfl,by rw[HZ.out];exact Ho.out,hB5⟩
        ·have HZ:Hid (arV f [x] [y]=([],fr)):=HW1.out hfr;clear HW1 HW2;go_wp2;go_ret2;exact⟨_,by rw[HZ.out];rfl,by rw[HZ.out];exact OwI.nil _ _,hB3⟩
       ·have HZ:Hid (arV f [x] [y]=([],250)):=HV0.out (.inr hye);clear HV0 HV1 HV2;subst hxe;go_wp2;go_ret2;exact⟨_,by rw[HZ.out];rfl,by rw[HZ.out];exact OwI.nil _ _,hB3⟩
      ·have HZ:Hid (arV f [x] [y]=([],250)):=HV0.out (.inl hxe);clear HV0 HV1 HV2;go_wp2;go_ret2;exact⟨_,by rw[HZ.out];rfl,by rw[HZ.out];exact OwI.nil _ _,hB3⟩
 ·have HV:Hid (arV f A B=([],2)):=ZhK hq;rw[hq]at Hr;clear hq;go_enter Tryz.func29,Tryz.ntmps29;go_wp2_with fail;refine(H11.out _).mono ?_;rintro e w1 ⟨rfl,rfl⟩;go_wp2_with fail;refine Hr.out.mono ?_;rintro e w1 ⟨rfl,hb1⟩;go_wp2;go_ret2;exact⟨_,by rw[HV.out];rfl,by rw[HV.out];exact OwI.nil _ _,hb1⟩
theorem Zid(s:ByteArray)(hm:ZfS s 1 1 0 2)(a b:Value)(w:World):
  Calls Tryz.prog 29 #[.string s,a,b] w fun e w'=>e= .returned (.tuple #[.slice none 0 0,.int .i64 2])∧w=w':=by
 have Hm:=Za hm;clear hm;go_enter Tryz.func29,Tryz.ntmps29;go_wp2_with fail;refine(Hm.out _).mono ?_;rintro e w1 ⟨rfl,rfl⟩;go_wp2;go_ret2;exact⟨rfl,rfl⟩
end Go.Proofs.YtnnfhojhbbcbmaaGreatDoor
namespace Go.Proofs.YtnnfhojhbbcbmaaGreatDoor
open Go.RowKit
theorem Zed(a b:Int):(0≤a→0≤a.tmod b∧a.tmod b≤a)∧(a<0→a.tmod b≤0∧a≤a.tmod b):=by
 have h1:(a.tmod b).natAbs=a.natAbs % b.natAbs:=Int.natAbs_tmod a b;have h2:a.natAbs % b.natAbs≤a.natAbs:=Nat.mod_le _ _;refine⟨fun h=>?_,fun h=>?_⟩
 ·have:=Int.tmod_nonneg b h;omega
 ·have h3:=Int.tmod_nonneg b (show 0≤ -a by omega);rw[Int.neg_tmod]at h3;omega
theorem Zee(a b:Int):a.tdiv b*b+a.tmod b=a:=Int.tdiv_mul_add_tmod a b
theorem ZnI(a b:Int)(h:b≠0):(a.tmod b).natAbs<b.natAbs:=by rw[Int.natAbs_tmod];exact Nat.mod_lt _ (by omega)
theorem Zmp(a b:Int)(ha:R64 a):fit (a.tdiv b*b)=true:=by
 have h1:=Zee a b;have h2:=Zed a b;rw[ZbR];unfold R64 at*;generalize a.tdiv b*b=p at*;generalize a.tmod b=m at*;rcases Int.lt_or_le a 0 with h|h
 ·have:=h2.2 h;omega
 ·have:=h2.1 h;omega
theorem ZoW(a b:Int)(ha:R64 a):R64 (a.tmod b):=by
 have h2:=Zed a b;unfold R64 at*;generalize a.tmod b=m at*;rcases Int.lt_or_le a 0 with h|h
 ·have:=h2.2 h;omega
 ·have:=h2.1 h;omega
theorem Zpo(a b:Int)(h:a.tmod b≠0):decide (a.tmod b<0)=decide (a<0):=by
 have h2:=Zed a b;generalize a.tmod b=m at*;rcases Int.lt_or_le a 0 with h'|h'
 ·have:=h2.2 h';rw[Bool.eq_iff_iff];simp;omega
 ·have:=h2.1 h';rw[Bool.eq_iff_iff];simp;omega
end Go.Proofs.YtnnfhojhbbcbmaaGreatDoor
namespace Go.Proofs.YtnnfhojhbbcbmaaGreatDoor
set_option maxRecDepth 100000
set_option maxHeartbeats 4000000
open Go.RowKit
theorem Zje {a b c:Int}(ha:R64 a)(hb:R64 b)(hc:c=wrap64 (a+b)):(decide (a<c)==decide (0<b))=fit (a+b):=by
 unfold R64 at ha hb;subst hc;by_cases hf:fit (a+b)=true
 ·have h1:=hf;unfold fit at h1;have h2: -9223372036854775808≤a+b∧a+b≤9223372036854775807:=of_decide_eq_true h1;have hw:wrap64 (a+b)=a+b:=by unfold wrap64;omega
  rw[hf,hw];by_cases h0:0<b
  ·rw[decide_eq_true (show a<a+b by omega),decide_eq_true h0];rfl
  ·rw[decide_eq_false (show ¬a<a+b by omega),decide_eq_false h0];rfl
 ·have h1:fit (a+b)=false:=by simpa using hf
  have h2:¬(-9223372036854775808≤a+b∧a+b≤9223372036854775807):=by unfold fit at h1;exact of_decide_eq_false h1
  rw[h1];by_cases h0:0<b
  ·have hw:wrap64 (a+b)=a+b-18446744073709551616:=by unfold wrap64;omega
   rw[hw,decide_eq_false (show ¬a<a+b-18446744073709551616 by omega),decide_eq_true h0];rfl
  ·have hw:wrap64 (a+b)=a+b+18446744073709551616:=by unfold wrap64;omega
   rw[hw,decide_eq_true (show a<a+b+18446744073709551616 by omega),decide_eq_false h0];rfl
theorem Zfi(a b:Int)(ha:R64 a)(hb:R64 b)(w:World):Calls Tryz.prog 117 #[.int .i64 a,.int .i64 b] w fun e w'=>e= .returned (.tuple #[.int .i64 (wrap64 (a+b)),.bool (fit (a+b))])∧w=w':=by
 obtain⟨c,hc⟩:∃c,c=wrap64 (a+b):=⟨_,rfl⟩;have hp:=Za (Zje ha hb hc);have hc2:IntKind.i64.wrap (a+b)=c:=by rw[IntKind.wrap_i64,hc];unfold wrap64;omega
 have hc3:(a+b+9223372036854775808) % 18446744073709551616-9223372036854775808=c:=by rw[hc];unfold wrap64;omega
 rw[←hc,←hp.out];clear hp;have Hc:=Za hc;clear hc ha hb;go_enter Tryz.func117,Tryz.ntmps117;go_wp2;go_ret2;exact⟨rfl,rfl⟩
theorem Zmq {a b c:Int}(ha:R64 a)(hb:R64 b)(h0:b≠0)(hc:c=wrap64 (a*b))(h1:¬(b= -1∧a= -9223372036854775808)):R64 (c.tdiv b)∧(c.tdiv b==a)=fit (a*b):=by
 have hcR:R64 c:=by rw[hc];exact ZeA _
 by_cases hf:fit (a*b)=true
 ·have e:c=a*b:=by rw[hc];exact ZaC hf
  have e2:c.tdiv b=a:=by rw[e];exact Int.mul_tdiv_cancel a h0
  rw[e2,hf];exact⟨ha,by simp⟩
 ·have hf':fit (a*b)=false:=by simpa using hf
  have hbk:=Zee c b;have hlt:=ZnI c b h0
  have hne:c.tdiv b≠a:=by
   intro e;rw[e]at hbk;apply hf;have hR:R64 (a*b):=by have hcc:c=wrap64 (a*b):=hc;generalize a*b=p at*;generalize c.tmod b=r at*;unfold R64 at*;unfold wrap64 at hcc;omega
   exact(ZbR _).2 hR
  have hcm:b≠ -1∨c≠ -9223372036854775808:=by
   rcases Decidable.em (b= -1)with e|e
   ·subst e
    right
    intro e2;have:a* -1= -a:=by omega
    rw[this]at hc hf';have h3:¬R64 (-a):=fun h=>by rw[(ZbR _).2 h]at hf';cases hf'
    unfold R64 at ha h3;omega
   ·exact .inl e
  exact⟨ZhS c b hcR hb hcm,by rw[hf'];simpa using hne⟩
def tmV(a b:Int):Int:=if (a= -1∧b= -9223372036854775808)∨(b= -1∧a= -9223372036854775808)then 0 else wrap64 (a*b)
theorem ZhL {a b:Int}(h:fit (a*b)=true):tmV a b=a*b:=by
 unfold tmV;rw[if_neg,ZaC h];rintro(⟨rfl,rfl⟩|⟨rfl,rfl⟩)
 ·exact absurd h (by decide)
 ·exact absurd h (by decide)
theorem Zjf(a b:Int)(ha:R64 a)(hb:R64 b)(w:World):Calls Tryz.prog 119 #[.int .i64 a,.int .i64 b] w fun e w'=>e= .returned (.tuple #[.int .i64 (tmV a b),.bool (fit (a*b))])∧Below w.heap.size w w':=by
 have hk:=Below.refl w.heap.size w;have hkd:Below w.heap.size w w.drew:=Lib.below_grow w.heap.size w (Nat.le_refl _) 1 #[] |> fun h=>by rw[Sort.grow_empty]at h;exact h
 have mixed:Tryz.prog.follows .mixedOrders=true:=by kernel_rfl
 by_cases a0:a=0
 ·have H:Hid (tmV a b=0∧fit (a*b)=true):=by
   subst a0;refine⟨?_,by rw[Int.zero_mul];decide⟩;rw[ZhL (by rw[Int.zero_mul];decide),Int.zero_mul]
  rw[H.out.1,H.out.2];clear H;subst a0;clear ha hb;go_enter Tryz.func119,Tryz.ntmps119;go_wp2;go_ret2;exact⟨rfl,hk⟩
 ·have a0f:(a==0)=false:=by simpa using a0
  by_cases b0:b=0
  ·have H:Hid (tmV a b=0∧fit (a*b)=true):=by
    subst b0;refine⟨?_,by rw[Int.mul_zero];decide⟩;rw[ZhL (by rw[Int.mul_zero];decide),Int.mul_zero]
   rw[H.out.1,H.out.2];clear H;subst b0;clear ha hb a0;go_enter Tryz.func119,Tryz.ntmps119;go_wp2;go_ret2;exact⟨rfl,hk⟩
  ·have b0f:(b==0)=false:=by simpa using b0
   by_cases s1:a= -1∧b= -9223372036854775808
   ·obtain⟨rfl,rfl⟩:=s1;have H:Hid (tmV (-1) (-9223372036854775808)=0∧fit (-1* -9223372036854775808)=false):=⟨by decide,by decide⟩;rw[H.out.1,H.out.2];clear H ha hb a0 b0 a0f b0f;go_enter Tryz.func119,Tryz.ntmps119;go_wp2;go_ret2;exact⟨rfl,hk⟩
   ·by_cases s2:b= -1∧a= -9223372036854775808
    ·obtain⟨rfl,rfl⟩:=s2;have H:Hid (tmV (-9223372036854775808) (-1)=0∧fit (-9223372036854775808* -1)=false):=⟨by decide,by decide⟩;rw[H.out.1,H.out.2];clear H ha hb a0 b0 a0f b0f s1;go_enter Tryz.func119,Tryz.ntmps119;go_wp2;go_ret2;exact⟨rfl,hk⟩
    ·obtain⟨c,hc⟩:∃c,c=wrap64 (a*b):=⟨_,rfl⟩;obtain⟨hqR,hqf⟩:=Zmq ha hb b0 hc s2;obtain⟨q,hq⟩:∃q,q=c.tdiv b:=⟨_,rfl⟩;rw[←hq]at hqR hqf;have H:Hid (tmV a b=c):=by show tmV a b=c;unfold tmV;rw[if_neg (fun h=>h.elim s1 s2),hc]
     rw[H.out,←hqf];have hc2:IntKind.i64.wrap (a*b)=c:=by rw[IntKind.wrap_i64,hc];unfold wrap64;omega
     have hc3:(a*b+9223372036854775808) % 18446744073709551616-9223372036854775808=c:=by rw[hc];unfold wrap64;omega
     have hq2:c.tdiv b=q:=hq.symm;have hq3:IntKind.i64.wrap q=q:=by rw[IntKind.wrap_i64];unfold R64 at hqR;omega
     have hq4:(q+9223372036854775808) % 18446744073709551616-9223372036854775808=q:=by unfold R64 at hqR;omega
     clear H hqf hqR hq hc ha hb a0
     have t1:(a== -1)=false∨((a== -1)=true∧(b== -9223372036854775808)=false):=by
      rcases Decidable.em (a= -1)with e|e
      ·exact .inr ⟨by simpa using e,by simpa using fun h=>s1 ⟨e,h⟩⟩
      ·exact .inl (by simpa using e)
     have t2:(b== -1)=false∨((b== -1)=true∧(a== -9223372036854775808)=false):=by
      rcases Decidable.em (b= -1)with e|e
      ·exact .inr ⟨by simpa using e,by simpa using fun h=>s2 ⟨e,h⟩⟩
      ·exact .inl (by simpa using e)
     clear s1 s2;rcases t1 with t1|⟨t1,t3⟩<;>rcases t2 with t2|⟨t2,t4⟩
     all_goals
      go_enter Tryz.func119,Tryz.ntmps119;go_wp2_with fail
      go_big_region_o
      all_goals go_wp2
      go_ret2;exact⟨rfl,hkd⟩
theorem ZnJ(b:Bool)(w:World):Calls Tryz.prog 118 #[.bool b] w fun e w'=>e= .returned (.int .i64 (erV b))∧w=w':=by
 cases b
 all_goals
  go_enter Tryz.func118,Tryz.ntmps118;go_wp2;go_ret;exact⟨rfl,rfl⟩
def Zgz(s:ByteArray)(x y v r:Int):Prop:=∀w,Calls Tryz.prog 69 #[.string s,.int .i64 x,.int .i64 y] w fun e w'=>e= .returned (.tuple #[.int .i64 v,.int .i64 r])∧Below w.heap.size w w'
theorem Zjg(a b:Int)(ha:R64 a)(hb:R64 b):Zgz ⟨#[43]⟩ a b (mkV (fit (a+b)) (a+b)) (erV (fit (a+b))):=by
 intro w;have hk:=Below.refl w.heap.size w;have HP:=Za (Zfi a b ha hb);rcases Bool.eq_false_or_eq_true (fit (a+b))with hf|hf
 ·have Hw:=Za (ZaC hf);rw[Zbu hf,Zbv hf];rw[Hw.out,hf]at HP;clear ha hb hf;go_enter Tryz.func69,Tryz.ntmps69;go_wp2_with fail;refine(HP.out _).mono ?_;rintro e w1 ⟨rfl,rfl⟩;go_wp2;go_ret2;exact⟨rfl,hk⟩
 ·rw[Zdw hf,Zc3 hf];rw[hf]at HP;clear ha hb hf;go_enter Tryz.func69,Tryz.ntmps69;go_wp2_with fail;refine(HP.out _).mono ?_;rintro e w1 ⟨rfl,rfl⟩;go_wp2;go_ret2;exact⟨rfl,hk⟩
theorem Zie(a b:Int)(ha:R64 a)(hb:R64 b):Zgz ⟨#[42]⟩ a b (mkV (fit (a*b)) (a*b)) (erV (fit (a*b))):=by
 intro w;have HP:=Za (Zjf a b ha hb);rcases Bool.eq_false_or_eq_true (fit (a*b))with hf|hf
 ·have Hw:=Za (ZhL hf);rw[Zbu hf,Zbv hf];rw[Hw.out,hf]at HP;clear ha hb hf;go_enter Tryz.func69,Tryz.ntmps69;go_wp2_with fail;refine(HP.out _).mono ?_;rintro e w1 ⟨rfl,hk⟩;go_wp2;go_ret2;exact⟨rfl,hk⟩
 ·rw[Zdw hf,Zc3 hf];rw[hf]at HP;clear ha hb hf;go_enter Tryz.func69,Tryz.ntmps69;go_wp2_with fail;refine(HP.out _).mono ?_;rintro e w1 ⟨rfl,hk⟩;go_wp2;go_ret2;exact⟨rfl,hk⟩
theorem Zif(a b:Int)(ha:R64 a)(hb:R64 b):∃v,Zgz ⟨#[45]⟩ a b v (erV (fit (a-b)))∧(fit (a-b)=true→v=a-b):=by
 by_cases hm:b= -9223372036854775808
 ·subst hm;have hf:fit (a- -9223372036854775808)=decide (a<0):=by unfold fit R64 at*;rw[decide_eq_decide];omega
  obtain⟨c,hc⟩:∃c,c=wrap64 (a- -9223372036854775808):=⟨_,rfl⟩;refine⟨c,?_,fun h=>by rw[hc,ZaC h]⟩;intro w;have hk:=Below.refl w.heap.size w;have hc2:IntKind.i64.wrap (a- -9223372036854775808)=c:=by rw[IntKind.wrap_i64,hc];unfold wrap64;omega
  have hc4:IntKind.i64.wrap (a+9223372036854775808)=c:=by rw[IntKind.wrap_i64,hc];unfold wrap64;omega
  have hc3:(a+9223372036854775808+9223372036854775808) % 18446744073709551616-9223372036854775808=c:=by rw[hc];unfold wrap64;omega
  rw[hf];have HO:=Za (ZnJ (decide (a<0)));clear hc hf ha hb;go_enter Tryz.func69,Tryz.ntmps69;go_wp2_with fail;refine(HO.out _).mono ?_;rintro e w1 ⟨rfl,rfl⟩;go_wp2;go_ret2;exact⟨rfl,hk⟩
 ·have hmf:(b== -9223372036854775808)=false:=by simpa using hm
  have hnb:R64 (-b):=by unfold R64 at*;omega
  have HP:=Za (Zfi a (-b) ha hnb);have hsub:a+ -b=a-b:=by omega
  rw[hsub]at HP;have hw2:IntKind.i64.wrap (-b)= -b:=by rw[IntKind.wrap_i64];unfold R64 at hnb;omega
  have hw3:(-b+9223372036854775808) % 18446744073709551616-9223372036854775808= -b:=by unfold R64 at hnb;omega
  rcases Bool.eq_false_or_eq_true (fit (a-b))with hf|hf
  ·refine⟨a-b,?_,fun _=>rfl⟩;intro w;have hk:=Below.refl w.heap.size w;have Hw:=Za (ZaC hf);rw[Zbv hf];rw[Hw.out,hf]at HP;have HX:Hid (∃z,z=a-b):=⟨_,rfl⟩;generalize a-b=z at HP⊢;clear ha hb hf hm hnb hsub Hw HX;go_enter Tryz.func69,Tryz.ntmps69;go_wp2_with fail;refine(HP.out _).mono ?_;rintro e w1 ⟨rfl,rfl⟩;go_wp2;go_ret2;exact⟨rfl,hk⟩
  ·refine⟨0,?_,fun h=>by rw[hf]at h;cases h⟩;intro w;have hk:=Below.refl w.heap.size w;rw[Zc3 hf];rw[hf]at HP;clear ha hb hf hm hnb hsub;go_enter Tryz.func69,Tryz.ntmps69;go_wp2_with fail;refine(HP.out _).mono ?_;rintro e w1 ⟨rfl,rfl⟩;go_wp2;go_ret2;exact⟨rfl,hk⟩
theorem Zlb(a b:Int)(ha:R64 a)(hb:R64 b)(h0:b≠0):Zgz ⟨#[100,105,118]⟩ a b (mkV (fit (a.tdiv b)) (a.tdiv b)) (erV (fit (a.tdiv b))):=by
 intro w;have hk:=Below.refl w.heap.size w;have h0f:(b==0)=false:=by simpa using h0
 by_cases s:b= -1∧a= -9223372036854775808
 ·obtain⟨rfl,rfl⟩:=s;have hf:fit (Int.tdiv (-9223372036854775808) (-1))=false:=by decide
  rw[Zdw hf,Zc3 hf];clear ha hb h0 h0f hf;go_enter Tryz.func69,Tryz.ntmps69;go_wp2;go_ret2;exact⟨rfl,hk⟩
 ·have hq:=ZhS a b ha hb (by omega);have hf:fit (a.tdiv b)=true:=(ZbR _).2 hq;rw[Zbu hf,Zbv hf];obtain⟨q,hqe⟩:∃q,q=a.tdiv b:=⟨_,rfl⟩;rw[←hqe]at hq⊢;have hq2:a.tdiv b=q:=hqe.symm;have hq3:IntKind.i64.wrap q=q:=by rw[IntKind.wrap_i64];unfold R64 at hq;omega
  have hq4:(q+9223372036854775808) % 18446744073709551616-9223372036854775808=q:=by unfold R64 at hq;omega
  have t1:(b== -1)=false∨((b== -1)=true∧(a== -9223372036854775808)=false):=by
   rcases Decidable.em (b= -1)with e|e
   ·exact .inr ⟨by simpa using e,by simpa using fun h=>s ⟨e,h⟩⟩
   ·exact .inl (by simpa using e)
  clear hqe hf hq s ha hb;rcases t1 with t1|⟨t1,t3⟩
  all_goals
   go_enter Tryz.func69,Tryz.ntmps69;go_wp2;go_ret2;exact⟨rfl,hk⟩
theorem Zlc(a b:Int)(ha:R64 a)(hb:R64 b)(h0:b≠0):Zgz ⟨#[109,111,100]⟩ a b (a.tmod b) 0:=by
 intro w;have hk:=Below.refl w.heap.size w;have h0f:(b==0)=false:=by simpa using h0
 by_cases s:b= -1
 ·subst s;rw[show a.tmod (-1)=0 by rw[Int.tmod_neg,Int.tmod_one]];clear ha hb h0 h0f;go_enter Tryz.func69,Tryz.ntmps69;go_wp2;go_ret2;exact⟨rfl,hk⟩
 ·have hsf:(b== -1)=false:=by simpa using s
  have hq:=ZhS a b ha hb (.inl s);have hm:=ZoW a b ha;have hb1:=Zee a b;have hb2:=(ZbR _).1 (Zmp a b ha);obtain⟨q,hqe⟩:∃q,q=a.tdiv b:=⟨_,rfl⟩;obtain⟨r,hre⟩:∃r,r=a.tmod b:=⟨_,rfl⟩;rw[←hqe]at hq hb1 hb2;rw[←hre]at hm hb1⊢;have hcm:b*q=q*b:=Int.mul_comm _ _;obtain⟨z,hz⟩:∃z,z=b*q:=⟨_,rfl⟩;rw[←hcm,←hz]at hb1 hb2;have hq2:a.tdiv b=q:=hqe.symm;have hq3:IntKind.i64.wrap q=q:=by rw[IntKind.wrap_i64];unfold R64 at hq;omega
  have hq4:(q+9223372036854775808) % 18446744073709551616-9223372036854775808=q:=by unfold R64 at hq;omega
  have hz2:b*q=z:=hz.symm;have hz3:IntKind.i64.wrap z=z:=by rw[IntKind.wrap_i64];unfold R64 at hb2;omega
  have hz4:(z+9223372036854775808) % 18446744073709551616-9223372036854775808=z:=by unfold R64 at hb2;omega
  have hr2:a-z=r:=by omega
  have hr3:IntKind.i64.wrap r=r:=by rw[IntKind.wrap_i64];unfold R64 at hm;omega
  have hr4:(r+9223372036854775808) % 18446744073709551616-9223372036854775808=r:=by unfold R64 at hm;omega
  clear hqe hre hz hcm hb1 hb2 hm hq s ha hb;go_enter Tryz.func69,Tryz.ntmps69;go_wp2;go_ret2;exact⟨rfl,hk⟩
theorem Zfj(s:ByteArray)(a:Int)(h:s=⟨#[100,105,118]⟩∨s=⟨#[109,111,100]⟩):Zgz s a 0 0 252:=by
 intro w;have hk:=Below.refl w.heap.size w;rcases h with rfl|rfl
 all_goals
  go_enter Tryz.func69,Tryz.ntmps69;go_wp2;go_ret2;exact⟨rfl,hk⟩
end Go.Proofs.YtnnfhojhbbcbmaaGreatDoor
