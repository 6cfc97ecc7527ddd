/- value.ofNumbers at abs, number. value.Call at sum, min, max, number, abs. The reference: how many arguments a function has. Plain laws: what the functions of texts make of a right text, as runes. -/
import Derived.Test.YtnnfhojhbbcbmaaGreatDoorC36
import Derived.Test.YtnnfhojhbbcbmaaGreatDoorC18
import Derived.Test.YtnnfhojhbbcbmaaGreatDoorC13
import Derived.Test.YtnnfhojhbbcbmaaGreatDoorC17
import Derived.Lib.TrimByte
import Derived.Lib.IndexAny
namespace Go.Proofs.YtnnfhojhbbcbmaaGreatDoor
set_option maxRecDepth 100000
set_option maxHeartbeats 4000000
open Go.RowKit
theorem ZpA {x:It}(h:nE x≠0):nV x=0:=by
 unfold nE at h;unfold nV;split at h
 ·exact absurd rfl h
 ·rename_i h2;rw[if_neg h2];split at h
  ·exact absurd rfl h
  ·rename_i h3;exact ZfU (by simpa using h3)
theorem ZnX {l:List It}(h:(oneV l).2≠0):(oneV l).1=0:=by
 match l,h with
 | [],_=>rfl
 | [x],h=>exact ZpA h
 |_::_::_,_=>rfl
def fAbs(l:List It):List It×Int:=if l=[]then([],0)else if (oneV l).2=0 then(if (oneV l).1= -9223372036854775808 then([],251)else([⟨2,if (oneV l).1<0 then-(oneV l).1 else(oneV l).1,⟨#[]⟩,0⟩],0))else([],(oneV l).2)
theorem Zgn(p:Option Addr)(n c:Nat)(l:List It)(w:World)(he:Env w)(ha:OkA w ⟨p,l,c⟩)(hR:∀y∈l,R64 y.num)(hn:n=l.length):
  Calls Tryz.prog 47 #[.string ⟨#[97,98,115]⟩,.slice p n c] w fun e w'=>∃v,e= .returned (.tuple #[v,.int .i64 (fAbs l).2,.bool true])∧OwI w' w.heap.size v (fAbs l).1∧Below w.heap.size w w':=by
 by_cases h0:l=[]
 ·subst h0;have hn0:n=0:=hn;subst hn0;clear he ha hR hn;go_enter Tryz.func47,Tryz.ntmps47;go_wp2;go_ret3;exact⟨.slice none 0 0,rfl,OwI.nil _ _,Below.refl _ _⟩
 ·have H:=Za (ZdQ p n c l w he ha hn);have hvR:=ZfV hR;have hno:=ZnX (l:=l);have hn0:l.length≠0:=fun e=>h0 (List.length_eq_zero_iff.1 e);have hn1:((n:Int)==0)=false:=by simpa using(show(n:Int)≠0 by omega)
  have hn2:(n==0)=false:=by simpa using(show n≠0 by omega)
  have hF:fAbs l=if (oneV l).2=0 then(if (oneV l).1= -9223372036854775808 then([],251)else([⟨2,if (oneV l).1<0 then-(oneV l).1 else(oneV l).1,⟨#[]⟩,0⟩],0))else([],(oneV l).2):=by unfold fAbs;rw[if_neg h0]
  generalize fAbs l=fl at*;generalize oneV l=ov at*;obtain⟨nv,ne⟩:=ov;dsimp only at H hvR hno hF;have HvR:=Za hvR;clear he ha hR hn h0 hn0 hvR;by_cases hz:ne=0
  ·subst hz;rw[if_pos rfl]at hF;by_cases hm:nv= -9223372036854775808
   ·have HF:Hid (fl=([],251)):=by show _=_;rw[hF,if_pos hm]
    subst hm;have hw:wrap64 9223372036854775808= -9223372036854775808:=by unfold wrap64;omega
    clear hF hno;go_enter Tryz.func47,Tryz.ntmps47;go_wp2_with fail;refine H.out.mono ?_;rintro e w1 ⟨rfl,hb1⟩;go_wp2;go_ret3;exact⟨.slice none 0 0,by rw[HF.out];rfl,by rw[HF.out];exact OwI.nil _ _,hb1⟩
   ·rw[if_neg hm]at hF;by_cases hneg:nv<0
    ·obtain⟨k,hk⟩:∃k:Int,k= -nv:=⟨_,rfl⟩;have HF:Hid (fl=([⟨2,k,⟨#[]⟩,0⟩],0)):=by show _=_;rw[hF,if_pos hneg,hk]
     have hw:wrap64 (-nv)=k:=by have:=HvR.out;unfold R64 at this;unfold wrap64;omega
     have hk0:¬k<0:=by omega
     have hk1:decide (k<0)=false:=decide_eq_false hk0;have hw2: -nv=k:=hk.symm;have hk2: -9223372036854775808≤k∧k≤9223372036854775807:=by have:=HvR.out;unfold R64 at this;omega
     clear hF hno hm hk;go_enter Tryz.func47,Tryz.ntmps47;go_wp2_with fail;refine H.out.mono ?_;rintro e w1 ⟨rfl,hb1⟩;go_wp2_with fail;refine(Zak k _).mono ?_;rintro e w2 ⟨v,rfl,ho,hb2⟩;have Ho:=Za (ho.mono hb1.size);have hB2:=Zb hb1 hb2;clear ho hb2;go_wp2;go_ret3;exact⟨v,by rw[HF.out];rfl,by rw[HF.out];exact Ho.out,hB2⟩
    ·have HF:Hid (fl=([⟨2,nv,⟨#[]⟩,0⟩],0)):=by show _=_;rw[hF,if_neg hneg]
     have hneg1:decide (nv<0)=false:=decide_eq_false hneg;clear hF hno hm;go_enter Tryz.func47,Tryz.ntmps47;go_wp2_with fail;refine H.out.mono ?_;rintro e w1 ⟨rfl,hb1⟩;go_wp2_with fail;refine(Zak nv _).mono ?_;rintro e w2 ⟨v,rfl,ho,hb2⟩;have Ho:=Za (ho.mono hb1.size);have hB2:=Zb hb1 hb2;clear ho hb2;go_wp2;go_ret3;exact⟨v,by rw[HF.out];rfl,by rw[HF.out];exact Ho.out,hB2⟩
  ·have HF:Hid (fl=([],ne)):=by show _=_;rw[hF,if_neg hz]
   have hnv:=hno hz;subst hnv;have hz1:(ne != 0)=true:=by simpa using hz
   have hz2:(ne==0)=false:=by simpa using hz
   clear hF hno;go_enter Tryz.func47,Tryz.ntmps47;go_wp2_with fail;refine H.out.mono ?_;rintro e w1 ⟨rfl,hb1⟩;go_wp2;go_ret3;exact⟨.slice none 0 0,by rw[HF.out];rfl,by rw[HF.out];exact OwI.nil _ _,hb1⟩
def ZZ:List It→List It×Int
 | []=>([],0)
 | [x]=>if x.kind=4 then([⟨2,x.num,⟨#[]⟩,0⟩],0)else if nE x=0 then([⟨2,nV x,⟨#[]⟩,0⟩],0)else([],nE x)
 |_::_::_=>([],253)
theorem ZdX(p:Option Addr)(n c:Nat)(l:List It)(w:World)(he:Env w)(ha:OkA w ⟨p,l,c⟩)(hn:n=l.length):
  Calls Tryz.prog 47 #[.string ⟨#[110,117,109,98,101,114]⟩,.slice p n c] w fun e w'=>∃v,e= .returned (.tuple #[v,.int .i64 (ZZ l).2,.bool true])∧OwI w' w.heap.size v (ZZ l).1∧Below w.heap.size w w':=by
 have H:=Za (ZdQ p n c l w he ha hn);have Ha:=Za ha;clear he ha
 match l with
 | []=>
  have hn0:n=0:=hn;subst hn0;clear hn H;go_enter Tryz.func47,Tryz.ntmps47;go_wp2;go_ret3;exact⟨.slice none 0 0,rfl,OwI.nil _ _,Below.refl _ _⟩
 | [x]=>
  have hn0:n=1:=hn;subst hn0;clear hn;have HO:Hid (oneV [x]=(nV x,nE x)):=by show _=_;rfl
  rw[HO.out]at H;obtain⟨b,off,hp,_⟩:=at0 Ha.out.1;dsimp only at hp;subst hp;have hix:=ZaP b off 1 c (by omega);have Hc:Hid (∀W,Below w.heap.size w W→W.cell? ⟨b,off,none⟩=some (.int .u8 x.kind)∧W.cell? ⟨b,off+1,none⟩=some (.int .i64 x.num)):=by show ∀W,_;intro W hW;obtain⟨b2,off2,e2,c0,c1,_,_⟩:=at0 (Ha.out.1.keep hW);injection e2 with e2;injection e2 with e2 e3;subst e2 e3;exact⟨c0,c1⟩
  obtain⟨xk,xa,xt,xd⟩:=x;dsimp only at Hc;clear HO;by_cases hk:xk=4
  ·have HF:Hid (ZZ [⟨xk,xa,xt,xd⟩]=([⟨2,xa,⟨#[]⟩,0⟩],0)):=by show _=_;unfold ZZ;exact if_pos hk
   subst hk;generalize nV ⟨4,xa,xt,xd⟩=nv at*;generalize nE ⟨4,xa,xt,xd⟩=ne at*;dsimp only at H;go_enter Tryz.func47,Tryz.ntmps47;go_wp2_with fail;refine H.out.mono ?_;rintro e w1 ⟨rfl,hb1⟩;obtain⟨c0,c1⟩:=Hc.out w1 hb1;go_wp2_with fail;refine(Zak xa _).mono ?_;rintro e w2 ⟨v,rfl,ho,hb2⟩;have Ho:=Za (ho.mono hb1.size);have hB2:=Zb hb1 hb2;clear ho hb2;go_wp2;go_ret3;exact⟨v,by rw[HF.out];rfl,by rw[HF.out];exact Ho.out,hB2⟩
  ·have hk1:((xk:Int)==4)=false:=by simpa using(show(xk:Int)≠4 by omega)
   by_cases hz:nE ⟨xk,xa,xt,xd⟩=0
   ·have HF:Hid (ZZ [⟨xk,xa,xt,xd⟩]=([⟨2,nV ⟨xk,xa,xt,xd⟩,⟨#[]⟩,0⟩],0)):=by show _=_;exact(if_neg hk).trans (if_pos hz)
    rw[hz]at H;generalize nV ⟨xk,xa,xt,xd⟩=nv at*;dsimp only at H;clear hz hk;go_enter Tryz.func47,Tryz.ntmps47;go_wp2_with fail;refine H.out.mono ?_;rintro e w1 ⟨rfl,hb1⟩;obtain⟨c0,c1⟩:=Hc.out w1 hb1;go_wp2_with fail;refine(Zak nv _).mono ?_;rintro e w2 ⟨v,rfl,ho,hb2⟩;have Ho:=Za (ho.mono hb1.size);have hB2:=Zb hb1 hb2;clear ho hb2;go_wp2;go_ret3;exact⟨v,by rw[HF.out];rfl,by rw[HF.out];exact Ho.out,hB2⟩
   ·have HF:Hid (ZZ [⟨xk,xa,xt,xd⟩]=([],nE ⟨xk,xa,xt,xd⟩)):=by show _=_;exact(if_neg hk).trans (if_neg hz)
    have hz1:(nE ⟨xk,xa,xt,xd⟩==0)=false:=by simpa using hz
    generalize nV ⟨xk,xa,xt,xd⟩=nv at*;generalize nE ⟨xk,xa,xt,xd⟩=ne at*;dsimp only at H;clear hz hk;go_enter Tryz.func47,Tryz.ntmps47;go_wp2_with fail;refine H.out.mono ?_;rintro e w1 ⟨rfl,hb1⟩;obtain⟨c0,c1⟩:=Hc.out w1 hb1;go_wp2;go_ret3;exact⟨.slice none 0 0,by rw[HF.out];rfl,by rw[HF.out];exact OwI.nil _ _,hb1⟩
 |x::y::r=>
  have HF:Hid (ZZ (x::y::r)=([],253)):=by show _=_;rfl
  have HO:oneV (x::y::r)=(0,253):=rfl;rw[HO]at H;obtain⟨m,hm⟩:∃m,m=r.length:=⟨_,rfl⟩;have hn0:n=m+2:=by rw[hn,hm];rfl
  have g1:((n:Int)==0)=false:=by simpa using(show(n:Int)≠0 by omega)
  have g2:((n:Int)==1)=false:=by simpa using(show(n:Int)≠1 by omega)
  have g3:(n==0)=false:=by simpa using(show n≠0 by omega)
  have g4:(n==1)=false:=by simpa using(show n≠1 by omega)
  dsimp only at H;clear hn hn0 hm HO;go_enter Tryz.func47,Tryz.ntmps47;go_wp2_with fail;refine H.out.mono ?_;rintro e w1 ⟨rfl,hb1⟩;go_wp2;go_ret3;exact⟨.slice none 0 0,by rw[HF.out];rfl,by rw[HF.out];exact OwI.nil _ _,hb1⟩
end Go.Proofs.YtnnfhojhbbcbmaaGreatDoor
namespace Go.Proofs.YtnnfhojhbbcbmaaGreatDoor
set_option maxRecDepth 100000
set_option maxHeartbeats 4000000
open Go.RowKit
theorem Zas(nm:ByteArray)(hnm:nm=⟨#[115,117,109]⟩∨nm=⟨#[109,105,110]⟩∨nm=⟨#[109,97,120]⟩∨nm=⟨#[110,117,109,98,101,114]⟩∨nm=⟨#[97,98,115]⟩)(b off n c:Nat)(v:Value)(w:World)(hn:0<n)(h0:w.cell? ⟨b,off,none⟩=some v)(hv:∃a k d,v= .slice a k d):Calls Tryz.prog 46 #[.string nm,.slice (some ⟨b,off,none⟩) n c] w fun e w'=>e= .returned (.tuple #[.slice none 0 0,.int .i64 0,.bool false])∧w=w':=by
 have hix:=Zp b off n c hn;have hn1:¬(n:Int)=0:=by omega
 have hn2:((n:Int)==0)=false:=by simpa using hn1
 have hn3:¬n=0:=by omega
 obtain⟨a,k,d,rfl⟩:=hv;clear hn;rcases hnm with rfl|rfl|rfl|rfl|rfl
 all_goals
  go_enter Tryz.func46,Tryz.ntmps46;go_wp2;go_ret3;exact⟨rfl,rfl⟩
theorem Zb2(nm:ByteArray)(lk:List UInt8)(F:List It→List It×Int)(hkn:∀(n:Nat) (m:Int) (W:World),W.cell? ⟨1,0,none⟩=some (.int .i64 m)→Counts W→Calls Tryz.prog 45 #[.string nm,.int .i64 n] W fun e w'=>e= .returned (.bool (knV lk n))∧Below W.heap.size W w')(hk1:∀n,knV lk n=true→n=1)(hno:∀(b off n c:Nat) (v:Value) (W:World),0<n→W.cell? ⟨b,off,none⟩=some v→(∃a k d,v= .slice a k d)→Calls Tryz.prog 46 #[.string nm,.slice (some ⟨b,off,none⟩) n c] W fun e w'=>e= .returned (.tuple #[.slice none 0 0,.int .i64 0,.bool false])∧W=w')(hof:∀(p:Option Addr) (n c:Nat) (l:List It) (W:World),Env W→OkA W ⟨p,l,c⟩→(∀y∈l,R64 y.num)→n=l.length→Calls Tryz.prog 47 #[.string nm,.slice p n c] W fun e w'=>∃v,e= .returned (.tuple #[v,.int .i64 (F l).2,.bool true])∧OwI w' W.heap.size v (F l).1∧Below W.heap.size W w')(p:Option Addr)(n c:Nat)(ls:List Lst)(m:Int)(w:World)(he:Env w)(hm:w.cell? ⟨1,0,none⟩=some (.int .i64 m))(hc:Counts w)(hr:Rd w p (ls.map Lst.v))(hok:OkAs w ls)
  (hR:∀x∈ls,∀y∈x.l,R64 y.num) (hn:n=ls.length) (hnm:n≤1000000):
  Calls Tryz.prog 14 #[.string nm,.slice p n c] w (Res w (ZV lk F ls).1 (ZV lk F ls).2):=by
 have He:=Za he;have Hr:=Za hr;have Hok:=Za hok;have Hn:=Za hn;have HR:=Za hR;have Hrt:=Za (Z7 p n c ls w he.t8 hn (by omega) hr hok);have Hkn:Hid (∀W,Below w.heap.size w W→Calls Tryz.prog 45 #[.string nm,.int .i64 n] W fun e w'=>e= .returned (.bool (knV lk n))∧Below W.heap.size W w'):=fun W hW=>hkn n m W (Zc hW hm) (hc.keep hW);have hnl:n<9223372036854775807:=by omega
 have Hall:Hid (ZV lk F ls=if rightL ls=true then(if knV lk n=true then Zay F ls else([],241))else([],2)):=by show _=_;unfold ZV;rw[hn]
 clear he hm hc hr hok hR hn hnm;rcases Bool.eq_false_or_eq_true (rightL ls)with hq|hq;rotate_left
 ·rw[hq]at Hrt;have HA:Hid (ZV lk F ls=([],2)):=by show _=_;rw[Hall.out,hq];rfl
  clear hq Hall;go_enter Tryz.func14,Tryz.ntmps14;go_wp2_with fail;refine Hrt.out.mono ?_;rintro e w1 ⟨rfl,hb1⟩;go_wp2;go_ret2;exact⟨.slice none 0 0,by rw[HA.out];rfl,by rw[HA.out];exact OwI.nil _ _,hb1⟩
 rw[hq]at Hrt;rcases Bool.eq_false_or_eq_true (knV lk n)with hk|hk;rotate_left
 ·rw[hk]at Hkn;have HA:Hid (ZV lk F ls=([],241)):=by show _=_;rw[Hall.out,hq,hk];rfl
  clear hq hk Hall;go_enter Tryz.func14,Tryz.ntmps14;go_wp2_with fail;refine Hrt.out.mono ?_;rintro e w1 ⟨rfl,hb1⟩;go_wp2_with fail;refine(Hkn.out w1 hb1).mono ?_;rintro e w2 ⟨rfl,hb2⟩;have hB2:=Zb hb1 hb2;go_wp2;go_ret2;exact⟨.slice none 0 0,by rw[HA.out];rfl,by rw[HA.out];exact OwI.nil _ _,hB2⟩
 have HE:Hid (ZV lk F ls=Zay F ls):=by show _=_;rw[Hall.out,hq,hk,if_pos rfl,if_pos rfl]
 rw[hk]at Hkn;have hn1:ls.length=1:=by rw[←Hn.out];exact hk1 n hk
 clear hq hk Hall;obtain⟨la,rfl⟩:=Zor hn1;have hn2:n=1:=Hn.out;subst hn2;obtain⟨b0,off0,rfl,hcz⟩:=Hr.out.cellAt 0 la.v rfl;clear hcz hn1;have hix0:=Zp b0 off0 1 c (by decide);go_enter Tryz.func14,Tryz.ntmps14;go_wp2_with fail;refine Hrt.out.mono ?_;rintro e w1 ⟨rfl,hb1⟩;go_wp2_with fail;refine(Hkn.out w1 hb1).mono ?_;rintro e w2 ⟨rfl,hb2⟩;have hB2:=Zb hb1 hb2;clear hb1 hb2 Hkn Hrt;obtain⟨b1,off1,e1,hcz⟩:=(Hr.out.keep hB2).cellAt 0 la.v rfl;injection e1 with e1;injection e1 with e1 e2;subst e1 e2;rw[Nat.add_zero]at hcz;obtain⟨ya,yl,yc⟩:=la;obtain⟨q,hq⟩:∃q,q=yl.length:=⟨_,rfl⟩;have hc0:w2.cell? ⟨b0,off0,none⟩=some (.slice ya q yc):=by rw[hq];exact hcz
 clear hcz;have Hq:=Za hq;clear hq;go_wp2_with fail;refine(hno b0 off0 1 c _ _ (by decide) hc0 ⟨_,_,_,rfl⟩).mono ?_;rintro e wx ⟨rfl,rfl⟩;go_wp2_with fail;refine(hof ya q yc yl _ (He.out.keep hB2) ⟨(Hok.out _ (List.mem_singleton.2 rfl)).1.keep hB2,(Hok.out _ (List.mem_singleton.2 rfl)).2⟩ (HR.out _ (List.mem_singleton.2 rfl)) Hq.out).mono ?_;rintro e w3 ⟨v,rfl,ho,hb3⟩;have Ho:=Za (ho.mono hB2.size);have hB3:=Zb hB2 hb3;clear ho hb3;have HE2:Hid (ZV lk F [⟨ya,yl,yc⟩]=F yl):=HE.out;generalize F yl=sv at*;obtain⟨s1,s2⟩:=sv;go_wp2;go_ret2;exact⟨v,by rw[HE2.out];rfl,by rw[HE2.out];exact Ho.out,hB3⟩
theorem Zlo(p:Option Addr)(n c:Nat)(ls:List Lst)(m:Int)(w:World)(he:Env w)(hm:w.cell? ⟨1,0,none⟩=some (.int .i64 m))(hc:Counts w)(hr:Rd w p (ls.map Lst.v))(hok:OkAs w ls)
  (hR:∀x∈ls,∀y∈x.l,R64 y.num) (hn:n=ls.length) (hnm:n≤1000000):
  Calls Tryz.prog 14 #[.string ⟨#[115,117,109]⟩,.slice p n c] w (Res w (ZV [115,117,109] Zg6 ls).1 (ZV [115,117,109] Zg6 ls).2):=
 Zb2 ⟨#[115,117,109]⟩ [115,117,109] Zg6 (fun n m W h1 h2=>ZI _ n m W h1 h2 (by decide)) (fun n h=>by unfold knV at h;simp[wK0,wK1]at h;omega) (Zas _ (.inl rfl)) (fun p n c l W h1 h2 h3 h4=>Zgk p n c l W h1 h2 h3 h4) p n c ls m w he hm hc hr hok hR hn hnm
theorem Zlp(p:Option Addr)(n c:Nat)(ls:List Lst)(m:Int)(w:World)(he:Env w)(hm:w.cell? ⟨1,0,none⟩=some (.int .i64 m))(hc:Counts w)(hr:Rd w p (ls.map Lst.v))(hok:OkAs w ls)
  (hR:∀x∈ls,∀y∈x.l,R64 y.num) (hn:n=ls.length) (hnm:n≤1000000):
  Calls Tryz.prog 14 #[.string ⟨#[109,105,110]⟩,.slice p n c] w (Res w (ZV [109,105,110] Zel ls).1 (ZV [109,105,110] Zel ls).2):=
 Zb2 ⟨#[109,105,110]⟩ [109,105,110] Zel (fun n m W h1 h2=>ZI _ n m W h1 h2 (by decide)) (fun n h=>by unfold knV at h;simp[wK0,wK1]at h;omega) (Zas _ (.inr (.inl rfl))) (fun p n c l W h1 h2 h3 h4=>Zgl p n c l W h1 h2 h3 h4) p n c ls m w he hm hc hr hok hR hn hnm
theorem Zlq(p:Option Addr)(n c:Nat)(ls:List Lst)(m:Int)(w:World)(he:Env w)(hm:w.cell? ⟨1,0,none⟩=some (.int .i64 m))(hc:Counts w)(hr:Rd w p (ls.map Lst.v))(hok:OkAs w ls)
  (hR:∀x∈ls,∀y∈x.l,R64 y.num) (hn:n=ls.length) (hnm:n≤1000000):
  Calls Tryz.prog 14 #[.string ⟨#[109,97,120]⟩,.slice p n c] w (Res w (ZV [109,97,120] Zem ls).1 (ZV [109,97,120] Zem ls).2):=
 Zb2 ⟨#[109,97,120]⟩ [109,97,120] Zem (fun n m W h1 h2=>ZI _ n m W h1 h2 (by decide)) (fun n h=>by unfold knV at h;simp[wK0,wK1]at h;omega) (Zas _ (.inr (.inr (.inl rfl)))) (fun p n c l W h1 h2 h3 h4=>Zgm p n c l W h1 h2 h3 h4) p n c ls m w he hm hc hr hok hR hn hnm
theorem Zhr(p:Option Addr)(n c:Nat)(ls:List Lst)(m:Int)(w:World)(he:Env w)(hm:w.cell? ⟨1,0,none⟩=some (.int .i64 m))(hc:Counts w)(hr:Rd w p (ls.map Lst.v))(hok:OkAs w ls)
  (hR:∀x∈ls,∀y∈x.l,R64 y.num) (hn:n=ls.length) (hnm:n≤1000000):
  Calls Tryz.prog 14 #[.string ⟨#[110,117,109,98,101,114]⟩,.slice p n c] w (Res w (ZV [110,117,109,98,101,114] ZZ ls).1 (ZV [110,117,109,98,101,114] ZZ ls).2):=
 Zb2 ⟨#[110,117,109,98,101,114]⟩ [110,117,109,98,101,114] ZZ (fun n m W h1 h2=>ZI _ n m W h1 h2 (by decide)) (fun n h=>by unfold knV at h;simp[wK0,wK1]at h;omega) (Zas _ (.inr (.inr (.inr (.inl rfl))))) (fun p n c l W h1 h2 _ h4=>ZdX p n c l W h1 h2 h4) p n c ls m w he hm hc hr hok hR hn hnm
theorem Zlr(p:Option Addr)(n c:Nat)(ls:List Lst)(m:Int)(w:World)(he:Env w)(hm:w.cell? ⟨1,0,none⟩=some (.int .i64 m))(hc:Counts w)(hr:Rd w p (ls.map Lst.v))(hok:OkAs w ls)
  (hR:∀x∈ls,∀y∈x.l,R64 y.num) (hn:n=ls.length) (hnm:n≤1000000):
  Calls Tryz.prog 14 #[.string ⟨#[97,98,115]⟩,.slice p n c] w (Res w (ZV [97,98,115] fAbs ls).1 (ZV [97,98,115] fAbs ls).2):=
 Zb2 ⟨#[97,98,115]⟩ [97,98,115] fAbs (fun n m W h1 h2=>ZI _ n m W h1 h2 (by decide)) (fun n h=>by unfold knV at h;simp[wK0,wK1]at h;omega) (Zas _ (.inr (.inr (.inr (.inr (rfl)))))) (fun p n c l W h1 h2 h3 h4=>Zgn p n c l W h1 h2 h3 h4) p n c ls m w he hm hc hr hok hR hn hnm
end Go.Proofs.YtnnfhojhbbcbmaaGreatDoor
namespace Go.Proofs.YtnnfhojhbbcbmaaGreatDoor
set_option maxRecDepth 100000
set_option maxHeartbeats 4000000
open Go.RowKit
theorem Zio(w:World):Calls Tryz.prog 79 #[.string ⟨#[116,114,117,101]⟩] w fun e w'=>e= .returned (.tuple #[.int .i64 0,.int .i64 0,.bool true])∧w=w':=by go_enter Tryz.func79,Tryz.ntmps79;go_wp2;go_ret3;exact⟨rfl,rfl⟩
theorem Zhs(w:World):Calls Tryz.prog 79 #[.string ⟨#[102,97,108,115,101]⟩] w fun e w'=>e= .returned (.tuple #[.int .i64 0,.int .i64 0,.bool true])∧w=w':=by go_enter Tryz.func79,Tryz.ntmps79;go_wp2;go_ret3;exact⟨rfl,rfl⟩
theorem Zht(w:World):Calls Tryz.prog 79 #[.string ⟨#[99,111,117,110,116]⟩] w fun e w'=>e= .returned (.tuple #[.int .i64 1,.int .i64 1,.bool true])∧w=w':=by go_enter Tryz.func79,Tryz.ntmps79;go_wp2;go_ret3;exact⟨rfl,rfl⟩
theorem Zhu(w:World):Calls Tryz.prog 79 #[.string ⟨#[101,109,112,116,121]⟩] w fun e w'=>e= .returned (.tuple #[.int .i64 1,.int .i64 1,.bool true])∧w=w':=by go_enter Tryz.func79,Tryz.ntmps79;go_wp2;go_ret3;exact⟨rfl,rfl⟩
theorem Zgo(w:World):Calls Tryz.prog 79 #[.string ⟨#[101,120,105,115,116,115]⟩] w fun e w'=>e= .returned (.tuple #[.int .i64 1,.int .i64 1,.bool true])∧w=w':=by go_enter Tryz.func79,Tryz.ntmps79;go_wp2;go_ret3;exact⟨rfl,rfl⟩
theorem Zjq(w:World):Calls Tryz.prog 79 #[.string ⟨#[110,111,116]⟩] w fun e w'=>e= .returned (.tuple #[.int .i64 1,.int .i64 1,.bool true])∧w=w':=by go_enter Tryz.func79,Tryz.ntmps79;go_wp2;go_ret3;exact⟨rfl,rfl⟩
theorem ZeN(w:World):Calls Tryz.prog 79 #[.string ⟨#[98,111,111,108,101,97,110]⟩] w fun e w'=>e= .returned (.tuple #[.int .i64 1,.int .i64 1,.bool true])∧w=w':=by go_enter Tryz.func79,Tryz.ntmps79;go_wp2;go_ret3;exact⟨rfl,rfl⟩
theorem Zgp(w:World):Calls Tryz.prog 79 #[.string ⟨#[115,116,114,105,110,103]⟩] w fun e w'=>e= .returned (.tuple #[.int .i64 1,.int .i64 1,.bool true])∧w=w':=by go_enter Tryz.func79,Tryz.ntmps79;go_wp2;go_ret3;exact⟨rfl,rfl⟩
theorem ZcA(w:World):Calls Tryz.prog 79 #[.string ⟨#[115,116,114,105,110,103,45,108,101,110,103,116,104]⟩] w fun e w'=>e= .returned (.tuple #[.int .i64 1,.int .i64 1,.bool true])∧w=w':=by go_enter Tryz.func79,Tryz.ntmps79;go_wp2;go_ret3;exact⟨rfl,rfl⟩
theorem Zb3(w:World):Calls Tryz.prog 79 #[.string ⟨#[110,111,114,109,97,108,105,122,101,45,115,112,97,99,101]⟩] w fun e w'=>e= .returned (.tuple #[.int .i64 1,.int .i64 1,.bool true])∧w=w':=by go_enter Tryz.func79,Tryz.ntmps79;go_wp2;go_ret3;exact⟨rfl,rfl⟩
theorem Zdn(w:World):Calls Tryz.prog 79 #[.string ⟨#[117,112,112,101,114,45,99,97,115,101]⟩] w fun e w'=>e= .returned (.tuple #[.int .i64 1,.int .i64 1,.bool true])∧w=w':=by go_enter Tryz.func79,Tryz.ntmps79;go_wp2;go_ret3;exact⟨rfl,rfl⟩
theorem Zdo(w:World):Calls Tryz.prog 79 #[.string ⟨#[108,111,119,101,114,45,99,97,115,101]⟩] w fun e w'=>e= .returned (.tuple #[.int .i64 1,.int .i64 1,.bool true])∧w=w':=by go_enter Tryz.func79,Tryz.ntmps79;go_wp2;go_ret3;exact⟨rfl,rfl⟩
theorem Zgq(w:World):Calls Tryz.prog 79 #[.string ⟨#[110,117,109,98,101,114]⟩] w fun e w'=>e= .returned (.tuple #[.int .i64 1,.int .i64 1,.bool true])∧w=w':=by go_enter Tryz.func79,Tryz.ntmps79;go_wp2;go_ret3;exact⟨rfl,rfl⟩
theorem Zjr(w:World):Calls Tryz.prog 79 #[.string ⟨#[115,117,109]⟩] w fun e w'=>e= .returned (.tuple #[.int .i64 1,.int .i64 1,.bool true])∧w=w':=by go_enter Tryz.func79,Tryz.ntmps79;go_wp2;go_ret3;exact⟨rfl,rfl⟩
theorem Zjs(w:World):Calls Tryz.prog 79 #[.string ⟨#[109,105,110]⟩] w fun e w'=>e= .returned (.tuple #[.int .i64 1,.int .i64 1,.bool true])∧w=w':=by go_enter Tryz.func79,Tryz.ntmps79;go_wp2;go_ret3;exact⟨rfl,rfl⟩
theorem Zjt(w:World):Calls Tryz.prog 79 #[.string ⟨#[109,97,120]⟩] w fun e w'=>e= .returned (.tuple #[.int .i64 1,.int .i64 1,.bool true])∧w=w':=by go_enter Tryz.func79,Tryz.ntmps79;go_wp2;go_ret3;exact⟨rfl,rfl⟩
theorem Zju(w:World):Calls Tryz.prog 79 #[.string ⟨#[97,98,115]⟩] w fun e w'=>e= .returned (.tuple #[.int .i64 1,.int .i64 1,.bool true])∧w=w':=by go_enter Tryz.func79,Tryz.ntmps79;go_wp2;go_ret3;exact⟨rfl,rfl⟩
theorem Zb4(w:World):Calls Tryz.prog 79 #[.string ⟨#[100,105,115,116,105,110,99,116,45,118,97,108,117,101,115]⟩] w fun e w'=>e= .returned (.tuple #[.int .i64 1,.int .i64 1,.bool true])∧w=w':=by go_enter Tryz.func79,Tryz.ntmps79;go_wp2;go_ret3;exact⟨rfl,rfl⟩
theorem ZeO(w:World):Calls Tryz.prog 79 #[.string ⟨#[114,101,118,101,114,115,101]⟩] w fun e w'=>e= .returned (.tuple #[.int .i64 1,.int .i64 1,.bool true])∧w=w':=by go_enter Tryz.func79,Tryz.ntmps79;go_wp2;go_ret3;exact⟨rfl,rfl⟩
theorem Zex(w:World):Calls Tryz.prog 79 #[.string ⟨#[99,111,110,116,97,105,110,115]⟩] w fun e w'=>e= .returned (.tuple #[.int .i64 2,.int .i64 2,.bool true])∧w=w':=by go_enter Tryz.func79,Tryz.ntmps79;go_wp2;go_ret3;exact⟨rfl,rfl⟩
theorem Zde(w:World):Calls Tryz.prog 79 #[.string ⟨#[115,116,97,114,116,115,45,119,105,116,104]⟩] w fun e w'=>e= .returned (.tuple #[.int .i64 2,.int .i64 2,.bool true])∧w=w':=by go_enter Tryz.func79,Tryz.ntmps79;go_wp2;go_ret3;exact⟨rfl,rfl⟩
theorem ZdY(w:World):Calls Tryz.prog 79 #[.string ⟨#[101,110,100,115,45,119,105,116,104]⟩] w fun e w'=>e= .returned (.tuple #[.int .i64 2,.int .i64 2,.bool true])∧w=w':=by go_enter Tryz.func79,Tryz.ntmps79;go_wp2;go_ret3;exact⟨rfl,rfl⟩
theorem Zdf(w:World):Calls Tryz.prog 79 #[.string ⟨#[115,116,114,105,110,103,45,106,111,105,110]⟩] w fun e w'=>e= .returned (.tuple #[.int .i64 1,.int .i64 2,.bool true])∧w=w':=by go_enter Tryz.func79,Tryz.ntmps79;go_wp2;go_ret3;exact⟨rfl,rfl⟩
theorem ZdZ(w:World):Calls Tryz.prog 79 #[.string ⟨#[115,117,98,115,116,114,105,110,103]⟩] w fun e w'=>e= .returned (.tuple #[.int .i64 2,.int .i64 3,.bool true])∧w=w':=by go_enter Tryz.func79,Tryz.ntmps79;go_wp2;go_ret3;exact⟨rfl,rfl⟩
theorem Zgr(w:World):Calls Tryz.prog 79 #[.string ⟨#[99,111,110,99,97,116]⟩] w fun e w'=>e= .returned (.tuple #[.int .i64 2,.int .i64 60,.bool true])∧w=w':=by go_enter Tryz.func79,Tryz.ntmps79;go_wp2;go_ret3;exact⟨rfl,rfl⟩
theorem Zls(s:ByteArray)(w:World)(h0:(s.toList== [116,114,117,101])=false)(h1:(s.toList== [102,97,108,115,101])=false)(h2:(s.toList== [99,111,117,110,116])=false)(h3:(s.toList== [101,109,112,116,121])=false)(h4:(s.toList== [101,120,105,115,116,115])=false)(h5:(s.toList== [110,111,116])=false)(h6:(s.toList== [98,111,111,108,101,97,110])=false)(h7:(s.toList== [115,116,114,105,110,103])=false)(h8:(s.toList== [115,116,114,105,110,103,45,108,101,110,103,116,104])=false)(h9:(s.toList== [110,111,114,109,97,108,105,122,101,45,115,112,97,99,101])=false)(h10:(s.toList== [117,112,112,101,114,45,99,97,115,101])=false)(h11:(s.toList== [108,111,119,101,114,45,99,97,115,101])=false)(h12:(s.toList== [110,117,109,98,101,114])=false)(h13:(s.toList== [115,117,109])=false)(h14:(s.toList== [109,105,110])=false)(h15:(s.toList== [109,97,120])=false)(h16:(s.toList== [97,98,115])=false)(h17:(s.toList== [100,105,115,116,105,110,99,116,45,118,97,108,117,101,115])=false)(h18:(s.toList== [114,101,118,101,114,115,101])=false)(h19:(s.toList== [99,111,110,116,97,105,110,115])=false)(h20:(s.toList== [115,116,97,114,116,115,45,119,105,116,104])=false)(h21:(s.toList== [101,110,100,115,45,119,105,116,104])=false)(h22:(s.toList== [115,116,114,105,110,103,45,106,111,105,110])=false)(h23:(s.toList== [115,117,98,115,116,114,105,110,103])=false)(h24:(s.toList== [99,111,110,99,97,116])=false):Calls Tryz.prog 79 #[.string s] w fun e w'=>e= .returned (.tuple #[.int .i64 0,.int .i64 0,.bool false])∧w=w':=by
 have g0:¬s.toList=[116,114,117,101]:=by simpa using h0
 have g1:¬s.toList=[102,97,108,115,101]:=by simpa using h1
 have g2:¬s.toList=[99,111,117,110,116]:=by simpa using h2
 have g3:¬s.toList=[101,109,112,116,121]:=by simpa using h3
 have g4:¬s.toList=[101,120,105,115,116,115]:=by simpa using h4
 have g5:¬s.toList=[110,111,116]:=by simpa using h5
 have g6:¬s.toList=[98,111,111,108,101,97,110]:=by simpa using h6
 have g7:¬s.toList=[115,116,114,105,110,103]:=by simpa using h7
 have g8:¬s.toList=[115,116,114,105,110,103,45,108,101,110,103,116,104]:=by simpa using h8
 have g9:¬s.toList=[110,111,114,109,97,108,105,122,101,45,115,112,97,99,101]:=by simpa using h9
 have g10:¬s.toList=[117,112,112,101,114,45,99,97,115,101]:=by simpa using h10
 have g11:¬s.toList=[108,111,119,101,114,45,99,97,115,101]:=by simpa using h11
 have g12:¬s.toList=[110,117,109,98,101,114]:=by simpa using h12
 have g13:¬s.toList=[115,117,109]:=by simpa using h13
 have g14:¬s.toList=[109,105,110]:=by simpa using h14
 have g15:¬s.toList=[109,97,120]:=by simpa using h15
 have g16:¬s.toList=[97,98,115]:=by simpa using h16
 have g17:¬s.toList=[100,105,115,116,105,110,99,116,45,118,97,108,117,101,115]:=by simpa using h17
 have g18:¬s.toList=[114,101,118,101,114,115,101]:=by simpa using h18
 have g19:¬s.toList=[99,111,110,116,97,105,110,115]:=by simpa using h19
 have g20:¬s.toList=[115,116,97,114,116,115,45,119,105,116,104]:=by simpa using h20
 have g21:¬s.toList=[101,110,100,115,45,119,105,116,104]:=by simpa using h21
 have g22:¬s.toList=[115,116,114,105,110,103,45,106,111,105,110]:=by simpa using h22
 have g23:¬s.toList=[115,117,98,115,116,114,105,110,103]:=by simpa using h23
 have g24:¬s.toList=[99,111,110,99,97,116]:=by simpa using h24
 go_enter Tryz.func79,Tryz.ntmps79;go_wp2;go_ret3;exact⟨rfl,rfl⟩
end Go.Proofs.YtnnfhojhbbcbmaaGreatDoor
namespace Go.Proofs.YtnnfhojhbbcbmaaGreatDoor
open Go.RowKit
theorem OkR.sub {a b:List Nat}(h:OkR b)(hs:∀x∈a,x∈b):OkR a:=fun x hx=>h x (hs x hx)
def upR(r:Nat):Nat:=if 97≤r∧r≤122 then r-32 else r
def loR(r:Nat):Nat:=if 65≤r∧r≤90 then r+32 else r
theorem Zo2(r:Nat):(upR r:Int)=upF r:=by unfold upR upF shF;split<;>split<;>omega
theorem Zo3(r:Nat):(loR r:Int)=loF r:=by unfold loR loF shF;split<;>split<;>omega
theorem ZmE {r:Nat}(h:32≤r)(h2:r≤55295):ZbL r=true:=by simp[ZbL,h,h2]
theorem OkR.map {f:Nat→Nat}{rs:List Nat}(h:OkR rs)(hf:∀r,ZbL r=true→ZbL (f r)=true):OkR (rs.map f):=by intro x hx;obtain⟨r,hr,rfl⟩:=List.mem_map.1 hx;exact hf r (h r hr)
theorem Zda {s t:ByteArray}(h:s.data.toList=t.data.toList):s=t:=by apply ByteArray.ext;exact Array.toList_inj.1 h
def ZaU:List (List Nat)→List Nat
 | []=>[]
 | [g]=>g
 |g::h::t=>g++32::ZaU (h::t)
def nR(rs:List Nat):List Nat:=ZaU (fR none rs)
def Zne(gs:List (List Nat)):Prop:=∀g∈gs,g≠ []∧∀r∈g,isBl r=false
theorem Zkx(g t:List Nat)(r:Nat):fR (some g) (r::t)=if isBl r=true then g::fR none t else fR (some (g++[r])) t:=by conv=>lhs;unfold fR
theorem Zky(t:List Nat)(r:Nat):fR none (r::t)=if isBl r=true then fR none t else fR (some [r]) t:=by conv=>lhs;unfold fR
theorem Zen:∀gs:List (List Nat),(joinB ⟨#[32]⟩ (gs.map toB)).data.toList=enc (ZaU gs)
 | []=>rfl
 | [g]=>by
  show(List.intercalate [32] [(toB g).data.toList]).toArray.toList=enc g;rw[List.toList_toArray,ZcM];simp[List.intercalate]
 |g::k::t=>by
  have ih:=Zen (k::t);have e1:(joinB ⟨#[32]⟩ ((g::k::t).map toB)).data.toList=List.intercalate [32] ((toB g).data.toList::(toB k).data.toList::(t.map toB).map (·.data.toList)):=by show(List.intercalate [32] ((toB g).data.toList::(toB k).data.toList::(t.map toB).map (·.data.toList))).toArray.toList=_;rw[List.toList_toArray]
  have e2:(joinB ⟨#[32]⟩ ((k::t).map toB)).data.toList=List.intercalate [32] ((toB k).data.toList::(t.map toB).map (·.data.toList)):=by show(List.intercalate [32] ((toB k).data.toList::(t.map toB).map (·.data.toList))).toArray.toList=_;rw[List.toList_toArray]
  rw[e1,List.intercalate_cons_cons,←e2,ih,ZcM];show _=enc (g++32::ZaU (k::t));rw[ZbA];show enc g++[32]++enc (ZaU (k::t))=enc g++(Lib.encodeRune ((32:Nat):Int)++enc (ZaU (k::t)));rw[Zcf (by decide),List.append_assoc];rfl
def ZlL(s:ByteArray):ByteArray:=joinB ⟨#[32]⟩ (Lib.goFieldsP isBl s)
theorem Zjv {s:ByteArray}{rs:List Nat}(ho:OkR rs)(h:s.data.toList=enc rs):(ZlL s).data.toList=enc (nR rs):=by unfold ZlL;rw[Zhf ho h,Zen];rfl
theorem ZiR(r:Nat)(b:UInt8)(hb:b∈Lib.encodeRune (r:Int))(h:b.toNat<128):r=b.toNat:=by
 by_cases c1:r<128
 ·rw[Zcf c1]at hb;rw[List.mem_singleton]at hb;subst hb;have:=u8z (z:=(r:Int)) (by omega) (by omega);omega
 ·exfalso;unfold Lib.encodeRune Lib.encodeRuneZ at hb;obtain⟨x,hx,rfl⟩:=List.mem_map.1 hb;have hx2:=Lib.encodeRuneZ_byte (r:Int) x (by unfold Lib.encodeRuneZ;exact hx);have:=u8z hx2.1 hx2.2
  have hx3:128≤x:=by
   rw[if_neg (by omega)]at hx;split at hx
   ·simp at hx;omega
   ·split at hx
    ·simp at hx;omega
    ·split at hx
     ·simp at hx;omega
     ·simp at hx;omega
  omega
end Go.Proofs.YtnnfhojhbbcbmaaGreatDoor
