/- The reference: Arith, Minus at any rows of items. Arith, Minus: program and reference answer the same, at any sign. A slice of items that came in: a row of items, their numbers in bounds. -/
import Derived.Test.YtnnfhojhbbcbmaaGreatDoorC24
import Derived.Test.YtnnfhojhbbcbmaaGreatDoorC21
import Derived.Test.YtnnfhojhbbcbmaaGreatDoorC22
import Derived.Test.YtnnfhojhbbcbmaaGreatDoorC05
import Derived.Test.YtnnfhojhbbcbmaaGreatDoorC02
namespace Go.Proofs.YtnnfhojhbbcbmaaGreatDoor
set_option maxRecDepth 100000
set_option maxHeartbeats 8000000
open Go.RowKit
theorem Zej(n:Int)(w:World):Calls Tryz.prog 70 #[.int .i64 n] w fun e w'=>∃v,e= .returned v∧OwI w' w.heap.size v [⟨2,n,⟨#[]⟩,0⟩]∧Below w.heap.size w w':=by have hk:=(Below.refl w.heap.size w).alloc (Nat.le_refl _) (.cells #[.int .u8 2,.int .i64 n,.string ⟨#[]⟩,.int .i64 0] 24);have hr:=OwI.one w w.heap.size (Nat.le_refl _) ⟨2,n,⟨#[]⟩,0⟩;go_enter Tryz.func70,Tryz.ntmps70;go_wp2;go_ret;exact⟨_,rfl,hr,hk⟩
def ZnK(s:ByteArray):Prop:=s=⟨#[43]⟩∨s=⟨#[45]⟩∨s=⟨#[42]⟩∨s=⟨#[100,105,118]⟩∨s=⟨#[109,111,100]⟩
def RF(s:ByteArray)(f:Int→Int→Int×Int):Prop:=∀x y,R64 x→R64 y→∃v,Zgz s x y v (f x y).2∧((f x y).2=0→v=(f x y).1)
variable {f : Int → Int → Int × Int}
theorem ZiK {x:It}(h:okI x=true):x.kind=4→x.text=⟨#[]⟩:=by intro h4;unfold okI at h;rw[h4]at h;simp at h;exact Zai (show x.text.toList=[]∧0=x.node by simpa using h.1.2).1
theorem Zfk(s:ByteArray)(hop:ZnK s)(hm:RF s f)(p q:Option Addr)(n m c d:Nat)(A B:List It)(w:World)(ha:OkA w ⟨p,A,c⟩)(hb:OkA w ⟨q,B,d⟩)(hRa:∀y∈A,R64 y.num)(hRb:∀y∈B,R64 y.num)(hn:n=A.length)(hm2:m=B.length):
  Calls Tryz.prog 30 #[.string s,.slice p n c,.slice q m d] w fun e w'=>∃v,e= .returned (.tuple #[v,.int .i64 (arV f A B).2])∧OwI w' w.heap.size v (arV f A B).1∧Below w.heap.size w w':=by
 have HrA:=Za (Zt p n c A w ha hn);have HrB:=Za (fun(w':World) (hk:Below w.heap.size w w')=>Zt q m d B w' ⟨hb.1.keep hk,hb.2⟩ hm2);have Ha:=Za ha;have Hb:=Za hb;have Hm:=Za hm;have HRa:=Za hRa;have HRb:=Za hRb;have Hn:=Za hn;have Hm2:=Za hm2;have hnl:n<9223372036854775807:=by rw[hn];exact ha.2.2
 have hml:m<9223372036854775807:=by rw[hm2];exact hb.2.2
 clear ha hb hm hRa hRb hn hm2;rcases Bool.eq_false_or_eq_true (A.all okI)with hqa|hqa
 ·rw[hqa]at HrA;rcases Bool.eq_false_or_eq_true (B.all okI)with hqb|hqb
  ·rw[hqb]at HrB;have HQ:Hid ((A.all okI&&B.all okI)=true):=by show _=_;rw[hqa,hqb];rfl
   have HQA:=Za hqa;have HQB:=Za hqb;clear hqa hqb;by_cases hn0:n=0
   ·have HV:Hid (arV f A B=([],0)):=Zfh HQ.out (.inl (by rw[←Hn.out];exact hn0));subst hn0;rcases hop with rfl|rfl|rfl|rfl|rfl
    all_goals
     go_enter Tryz.func30,Tryz.ntmps30;go_wp2_with fail;refine HrA.out.mono ?_;rintro e w1 ⟨rfl,hb1⟩;have hrB:=HrB.out w1 hb1;clear HrA HrB;go_wp2_with fail;refine hrB.mono ?_;rintro e w2 ⟨rfl,hb2⟩;have hB2:=Zb hb1 hb2;clear hrB hb2 hb1;go_wp2;go_ret2;exact⟨_,by rw[HV.out];rfl,by rw[HV.out];exact OwI.nil _ _,hB2⟩
   ·have n0:((n:Int)==0)=false:=by simp;omega
    by_cases hm0:m=0
    ·have HV:Hid (arV f A B=([],0)):=Zfh HQ.out (.inr (by rw[←Hm2.out];exact hm0));subst hm0;rcases hop with rfl|rfl|rfl|rfl|rfl
     all_goals
      go_enter Tryz.func30,Tryz.ntmps30;go_wp2_with fail;refine HrA.out.mono ?_;rintro e w1 ⟨rfl,hb1⟩;have hrB:=HrB.out w1 hb1;clear HrA HrB;go_wp2_with fail;refine hrB.mono ?_;rintro e w2 ⟨rfl,hb2⟩;have hB2:=Zb hb1 hb2;clear hrB hb2 hb1;go_wp2;go_ret2;exact⟨_,by rw[HV.out];rfl,by rw[HV.out];exact OwI.nil _ _,hB2⟩
    ·have m0:((m:Int)==0)=false:=by simp;omega
     by_cases hn1:1<n
     ·have HV:Hid (arV f A B=([],253)):=ZdF HQ.out (by rw[←Hn.out];exact hn0) (by rw[←Hm2.out];exact hm0) (.inl (by rw[←Hn.out];exact hn1));have n1:(1:Int)<(n:Int):=by omega
      rcases hop with rfl|rfl|rfl|rfl|rfl
      all_goals
       go_enter Tryz.func30,Tryz.ntmps30;go_wp2_with fail;refine HrA.out.mono ?_;rintro e w1 ⟨rfl,hb1⟩;have hrB:=HrB.out w1 hb1;clear HrA HrB;go_wp2_with fail;refine hrB.mono ?_;rintro e w2 ⟨rfl,hb2⟩;have hB2:=Zb hb1 hb2;clear hrB hb2 hb1;go_wp2;go_ret2;exact⟨_,by rw[HV.out];rfl,by rw[HV.out];exact OwI.nil _ _,hB2⟩
     ·have n1:decide ((1:Int)<(n:Int))=false:=decide_eq_false (by omega);by_cases hm1:1<m
      ·have HV:Hid (arV f A B=([],253)):=ZdF HQ.out (by rw[←Hn.out];exact hn0) (by rw[←Hm2.out];exact hm0) (.inr (by rw[←Hm2.out];exact hm1));have m1:(1:Int)<(m:Int):=by omega
       rcases hop with rfl|rfl|rfl|rfl|rfl
       all_goals
        go_enter Tryz.func30,Tryz.ntmps30;go_wp2_with fail;refine HrA.out.mono ?_;rintro e w1 ⟨rfl,hb1⟩;have hrB:=HrB.out w1 hb1;clear HrA HrB;go_wp2_with fail;refine hrB.mono ?_;rintro e w2 ⟨rfl,hb2⟩;have hB2:=Zb hb1 hb2;clear hrB hb2 hb1;go_wp2;go_ret2;exact⟨_,by rw[HV.out];rfl,by rw[HV.out];exact OwI.nil _ _,hB2⟩
      ·obtain⟨x,rfl⟩:=ZhY Hn.out hn0 hn1;obtain⟨y,rfl⟩:=ZhY Hm2.out hm0 hm1;have hn9:n=1:=by omega
       have hm9:m=1:=by omega
       clear n0 m0 n1 hn0 hm0 hn1 hm1 hnl hml Hn Hm2;subst hn9 hm9;have hRx:=ZlK x (HRa.out x (by simp));have hRy:=ZlK y (HRb.out y (by simp));have hsx:=Ha.out.2.1 x (by simp);have hsy:=Hb.out.2.1 y (by simp);have h4x:x.kind=4→x.text=⟨#[]⟩:=ZiK (by have:=HQA.out;simpa using this);have h4y:y.kind=4→y.text=⟨#[]⟩:=ZiK (by have:=HQB.out;simpa using this);obtain⟨b1,off1,e1,-,-,-,-⟩:=at0 Ha.out.1;obtain⟨b2,off2,e2,-,-,-,-⟩:=at0 Hb.out.1;dsimp only at e1 e2;subst e1 e2;have i1:=ZaP b1 off1 1 c (by decide);have i2:=ZaP b2 off2 1 d (by decide);obtain⟨dv,hd1,hd2⟩:=Hm.out _ _ hRx hRy;have HF:=Za hd1;obtain⟨fr,hfr⟩:∃z,z=(f (nV x) (nV y)).2:=⟨_,rfl⟩;obtain⟨xe,hxe⟩:∃z,z=nE x:=⟨_,rfl⟩;obtain⟨ye,hye⟩:∃z,z=nE y:=⟨_,rfl⟩;have HNx:=Za (fun W=>Zy x.kind x.num x.node x.text W h4x hsx);have HNy:=Za (fun W=>Zy y.kind y.num y.node y.text W h4y hsy);have hex:(⟨x.kind,x.num,x.text,x.node⟩:It)=x:=rfl;have hey:(⟨y.kind,y.num,y.text,y.node⟩:It)=y:=rfl;rw[hex]at HNx;rw[hey]at HNy;rw[←hxe]at HNx;rw[←hye]at HNy;rw[←hfr]at HF hd2;have HE:Hid (xe=nE x∧ye=nE y):=⟨hxe,hye⟩;have HFE:Hid (fr=(f (nV x) (nV y)).2∧(fr=0→dv=(f (nV x) (nV y)).1)):=⟨hfr,hd2⟩;clear hxe hye hfr hex hey hRx hRy hsx hsy h4x h4y hd1 hd2;have HV0:Hid (xe≠0∨ye≠0→arV f [x] [y]=([],250)):=fun h=>ZiJ HQ.out (by rw[←HE.out.1,←HE.out.2];exact h);have HV1:Hid (xe=0→ye=0→fr≠0→arV f [x] [y]=([],fr)):=fun h1 h2 h3=>Zkp HQ.out (by rw[←HE.out.1];exact h1) (by rw[←HE.out.2];exact h2) HFE.out.1.symm h3;have HV2:Hid (xe=0→ye=0→fr=0→arV f [x] [y]=([⟨2,dv,⟨#[]⟩,0⟩],0)):=fun h1 h2 h3=>ZmZ HQ.out (by rw[←HE.out.1];exact h1) (by rw[←HE.out.2];exact h2) (by rw[←HFE.out.1];exact h3) (HFE.out.2 h3).symm;clear HE HFE HQ HQA HQB Hm;obtain⟨xv,hxv⟩:∃z,z=nV x:=⟨_,rfl⟩;obtain⟨yv,hyv⟩:∃z,z=nV y:=⟨_,rfl⟩;rw[←hxv]at HNx HF;rw[←hyv]at HNy HF;clear hxv hyv;rcases hop with rfl|rfl|rfl|rfl|rfl
       all_goals
        go_enter Tryz.func30,Tryz.ntmps30;go_wp2_with fail;refine HrA.out.mono ?_;rintro e w1 ⟨rfl,hb1⟩;have hrB:=HrB.out w1 hb1;clear HrA HrB;go_wp2_with fail;refine hrB.mono ?_;rintro e w2 ⟨rfl,hb2⟩;have hB2:=Zb hb1 hb2;clear hrB hb2 hb1;obtain⟨b3,off3,e3,c0,c1,c2,c3⟩:=at0 (Ha.out.1.keep hB2);injection e3 with e3;injection e3 with e3 e4;subst e3 e4;go_wp2_with fail;refine(HNx.out _).mono ?_;rintro e w3 ⟨rfl,hb3⟩;have hB3:=Zb hB2 hb3;clear hb3 c0 c1 c2 c3 hB2;obtain⟨b3,off3,e3,c0,c1,c2,c3⟩:=at0 (Hb.out.1.keep hB3);injection e3 with e3;injection e3 with e3 e4;subst e3 e4;go_wp2_with fail;refine(HNy.out _).mono ?_;rintro e w4 ⟨rfl,hb4⟩;have hB4:=Zb hB3 hb4;clear hb4 c0 c1 c2 c3 hB3;by_cases hxe:xe=0
        ·by_cases hye:ye=0
         ·subst hxe hye;have HW1:Hid (fr≠0→arV f [x] [y]=([],fr)):=fun h=>HV1.out rfl rfl h;have HW2:Hid (fr=0→arV f [x] [y]=([⟨2,dv,⟨#[]⟩,0⟩],0)):=fun h=>HV2.out rfl rfl h;clear HV0 HV1 HV2;go_wp2_with fail;refine(HF.out _).mono ?_;rintro e w5 ⟨rfl,hb5⟩;have hB5:=Zb hB4 hb5;clear hb5 hB4;by_cases hfr:fr=0
          ·subst hfr;have HZ:Hid (arV f [x] [y]=([⟨2,dv,⟨#[]⟩,0⟩],0)):=HW2.out rfl;clear HW1 HW2;go_wp2_with fail;refine(Zej dv _).mono ?_;rintro e w6 ⟨v,rfl,ho,hb6⟩;have hB6:=Zb hB5 hb6;have Ho:=Za (ho.mono hB5.size);clear hb6 ho;go_wp2;go_ret2;exact⟨v,by rw[HZ.out];rfl,by rw[HZ.out];exact Ho.out,hB6⟩
          ·have HZ:Hid (arV f [x] [y]=([],fr)):=HW1.out hfr;clear HW1 HW2;go_wp2;go_ret2;exact⟨_,by rw[HZ.out];rfl,by rw[HZ.out];exact OwI.nil _ _,hB5⟩
         ·have HZ:Hid (arV f [x] [y]=([],250)):=HV0.out (.inr hye);clear HV0 HV1 HV2;subst hxe;go_wp2;go_ret2;exact⟨_,by rw[HZ.out];rfl,by rw[HZ.out];exact OwI.nil _ _,hB4⟩
        ·have HZ:Hid (arV f [x] [y]=([],250)):=HV0.out (.inl hxe);clear HV0 HV1 HV2;go_wp2;go_ret2;exact⟨_,by rw[HZ.out];rfl,by rw[HZ.out];exact OwI.nil _ _,hB4⟩
  ·rw[hqb]at HrB;have HV:Hid (arV f A B=([],2)):=ZhK (by rw[hqb,Bool.and_false]);clear hqa hqb;rcases hop with rfl|rfl|rfl|rfl|rfl
   all_goals
    go_enter Tryz.func30,Tryz.ntmps30;go_wp2_with fail;refine HrA.out.mono ?_;rintro e w1 ⟨rfl,hb1⟩;have hrB:=HrB.out w1 hb1;clear HrA HrB;go_wp2_with fail;refine hrB.mono ?_;rintro e w2 ⟨rfl,hb2⟩;have hB2:=Zb hb1 hb2;clear hrB hb2 hb1;go_wp2;go_ret2;exact⟨_,by rw[HV.out];rfl,by rw[HV.out];exact OwI.nil _ _,hB2⟩
 ·rw[hqa]at HrA;have HV:Hid (arV f A B=([],2)):=ZhK (by rw[hqa,Bool.false_and]);clear hqa;rcases hop with rfl|rfl|rfl|rfl|rfl
  all_goals
   go_enter Tryz.func30,Tryz.ntmps30;go_wp2_with fail;refine HrA.out.mono ?_;rintro e w1 ⟨rfl,hb1⟩;go_wp2;go_ret2;exact⟨_,by rw[HV.out];rfl,by rw[HV.out];exact OwI.nil _ _,hb1⟩
end Go.Proofs.YtnnfhojhbbcbmaaGreatDoor
namespace Go.Proofs.YtnnfhojhbbcbmaaGreatDoor
set_option maxRecDepth 100000
set_option maxHeartbeats 4000000
open Go.RowKit
structure NoOp (s:ByteArray):Prop where
 e1:(s.toList== [43])=false
 e2:(s.toList== [45])=false
 e3:(s.toList== [42])=false
 e4:(s.toList== [100,105,118])=false
 e5:(s.toList== [109,111,100])=false
theorem ZcN {s:ByteArray}{l:List UInt8}(h:s≠⟨l.toArray⟩):(s.toList==l)=false:=by rw[ByteArray.toList_eq];simp only[beq_eq_false_iff_ne];intro e;apply h;apply ByteArray.ext;apply Array.toList_inj.1;simpa using e
theorem Zpw(s:ByteArray):ZnK s∨NoOp s:=by
 by_cases h:ZnK s
 ·exact .inl h
 ·unfold ZnK at h;simp only[not_or]at h;exact .inr ⟨ZcN h.1,ZcN h.2.1,ZcN h.2.2.1,ZcN h.2.2.2.1,ZcN h.2.2.2.2⟩
theorem Zjh {s:ByteArray}(h:NoOp s)(x y:Int):ZfS s x y 0 2:=by intro w;obtain⟨h1,h2,h3,h4,h5⟩:=h;go_enter Tryz.func66,Tryz.ntmps66;go_wp2;go_ret2;exact⟨rfl,rfl⟩
theorem Zhk {s:ByteArray}(h:NoOp s)(p q:Option Addr)(n m c d:Nat)(A B:List It)(w:World)(ha:OkA w ⟨p,A,c⟩)(hb:OkA w ⟨q,B,d⟩)(hn:n=A.length)(hm2:m=B.length):
  Calls Tryz.prog 30 #[.string s,.slice p n c,.slice q m d] w fun e w'=>e= .returned (.tuple #[.slice none 0 0,.int .i64 2])∧Below w.heap.size w w':=by
 obtain⟨h1,h2,h3,h4,h5⟩:=h;have HrA:=Za (Zt p n c A w ha hn);have HrB:=Za (fun(w':World) (hk:Below w.heap.size w w')=>Zt q m d B w' ⟨hb.1.keep hk,hb.2⟩ hm2);clear ha hb hn hm2;rcases Bool.eq_false_or_eq_true (A.all okI)with hqa|hqa
 ·rw[hqa]at HrA;rcases Bool.eq_false_or_eq_true (B.all okI)with hqb|hqb
  all_goals
   rw[hqb]at HrB;clear hqa hqb;go_enter Tryz.func30,Tryz.ntmps30;go_wp2_with fail;refine HrA.out.mono ?_;rintro e w1 ⟨rfl,hb1⟩;have hrB:=HrB.out w1 hb1;clear HrA HrB;go_wp2_with fail;refine hrB.mono ?_;rintro e w2 ⟨rfl,hb2⟩;have hB2:=Zb hb1 hb2;clear hrB hb2 hb1;go_wp2;go_ret2;exact⟨rfl,hB2⟩
 ·rw[hqa]at HrA;clear hqa;go_enter Tryz.func30,Tryz.ntmps30;go_wp2_with fail;refine HrA.out.mono ?_;rintro e w1 ⟨rfl,hb1⟩;go_wp2;go_ret2;exact⟨rfl,hb1⟩
def ArP(s:ByteArray)(F:List It→List It→List It×Int):Prop:=∀(p q:Option Addr) (n m c d:Nat) (A B:List It) (w:World),Env w→OkA w ⟨p,A,c⟩→OkA w ⟨q,B,d⟩→(∀y∈A,R64 y.num)→(∀y∈B,R64 y.num)→n=A.length→m=B.length→
 Calls Tryz.prog 29 #[.string s,.slice p n c,.slice q m d] w fun e w'=>∃v,e= .returned (.tuple #[v,.int .i64 (F A B).2])∧OwI w' w.heap.size v (F A B).1∧Below w.heap.size w w'
def ArR(s:ByteArray)(F:List It→List It→List It×Int):Prop:=∀(p q:Option Addr) (n m c d:Nat) (A B:List It) (w:World),OkA w ⟨p,A,c⟩→OkA w ⟨q,B,d⟩→(∀y∈A,R64 y.num)→(∀y∈B,R64 y.num)→n=A.length→m=B.length→
 Calls Tryz.prog 30 #[.string s,.slice p n c,.slice q m d] w fun e w'=>∃v,e= .returned (.tuple #[v,.int .i64 (F A B).2])∧OwI w' w.heap.size v (F A B).1∧Below w.heap.size w w'
theorem Zkq(f:Int→Int→Int×Int)(A B:List It):(arV f A B).1.length≤1:=by
 unfold arV
 repeat' split
 all_goals simp
theorem ZoX {b:Bool}(h:erV b=0):b=true:=by
 cases b
 ·exact absurd h (by decide)
 ·rfl
def fPlus(a b:Int):Int×Int:=(mkV (fit (a+b)) (a+b),erV (fit (a+b)))
def fMinus(a b:Int):Int×Int:=(mkV (fit (a-b)) (a-b),erV (fit (a-b)))
def ZoY(a b:Int):Int×Int:=(mkV (fit (a*b)) (a*b),erV (fit (a*b)))
def fDiv(a b:Int):Int×Int:=if b=0 then(0,252)else(mkV (fit (a.tdiv b)) (a.tdiv b),erV (fit (a.tdiv b)))
def fMod(a b:Int):Int×Int:=if b=0 then(0,252)else(a.tmod b,0)
structure OpF (s:ByteArray) (f:Int→Int→Int×Int):Prop where
 p:∀x y,R64 x→R64 y→ZfS s x y (f x y).1 (f x y).2
 o:(f 1 1).2=0
 r:RF s f
theorem opMinus:OpF ⟨#[45]⟩ fMinus:=⟨fun x y hx hy=>Zi5 x y hx hy,by decide,fun x y hx hy=>by
 obtain⟨v,h1,h2⟩:=Zif x y hx hy
 exact⟨v,h1,fun h=>by
  have hf:=ZoX h;rw[h2 hf]
  exact(Zbu hf).symm⟩⟩
theorem Zkr:OpF ⟨#[43]⟩ fPlus:=⟨fun x y hx hy=>ZkM x y hx hy,by decide,fun x y hx hy=>⟨_,Zjg x y hx hy,fun _=>rfl⟩⟩
theorem Zov:OpF ⟨#[100,105,118]⟩ fDiv:=by
 refine⟨fun x y hx hy=>?_,by decide,fun x y hx hy=>?_⟩
 ·unfold fDiv;by_cases h0:y=0
  ·rw[if_pos h0,h0];exact ZkN x
  ·rw[if_neg h0];exact ZlY x y hx hy h0
 ·unfold fDiv;by_cases h0:y=0
  ·rw[if_pos h0,h0];exact⟨0,Zfj _ x (.inl rfl),fun _=>rfl⟩
  ·rw[if_neg h0];exact⟨_,Zlb x y hx hy h0,fun _=>rfl⟩
theorem Znd:OpF ⟨#[109,111,100]⟩ fMod:=by
 refine⟨fun x y hx hy=>?_,by decide,fun x y hx hy=>?_⟩
 ·unfold fMod;by_cases h0:y=0
  ·rw[if_pos h0,h0];exact ZkO x
  ·rw[if_neg h0];exact ZlZ x y hx hy h0
 ·unfold fMod;by_cases h0:y=0
  ·rw[if_pos h0,h0];exact⟨0,Zfj _ x (.inr rfl),fun _=>rfl⟩
  ·rw[if_neg h0];exact⟨_,Zlc x y hx hy h0,fun _=>rfl⟩
theorem Zmr {s:ByteArray}(h:ZnK s):∃f,OpF s f:=by
 rcases h with rfl|rfl|rfl|rfl|rfl
 ·exact⟨fPlus,Zkr⟩
 ·exact⟨fMinus,opMinus⟩
 ·exact⟨ZoY,fun x y hx hy=>Zi4 x y hx hy,by decide,fun x y hx hy=>⟨_,Zie x y hx hy,fun _=>rfl⟩⟩
 ·exact⟨fDiv,Zov⟩
 ·exact⟨fMod,Znd⟩
theorem Zks:R64 1:=by unfold R64;omega
theorem OpF.eleven {s:ByteArray}{f:Int→Int→Int×Int}(h:OpF s f):ZfS s 1 1 (f 1 1).1 0:=by have:=h.p 1 1 Zks Zks;rw[h.o]at this;exact this
theorem Zji(s:ByteArray):∃F,ArP s F∧ArR s F∧∀A B,(F A B).1.length≤1:=by
 rcases Zpw s with h|h
 ·obtain⟨f,hf⟩:=Zmr h;exact⟨arV f,fun p q n m c d A B w he ha hb h1 h2 hn hm=>Zec s _ hf.p hf.eleven p q n m c d A B w he ha hb h1 h2 hn hm,fun p q n m c d A B w ha hb h1 h2 hn hm=>Zfk s h hf.r p q n m c d A B w ha hb h1 h2 hn hm,Zkq f⟩
 ·refine⟨fun _ _=>([],2),fun p q n m c d A B w _ _ _ _ _ _ _=>?_,fun p q n m c d A B w ha hb _ _ hn hm=>?_,fun _ _=>Nat.zero_le _⟩
  ·refine(Zid s (Zjh h 1 1) _ _ w).mono ?_;rintro e w' ⟨rfl,rfl⟩;exact⟨_,rfl,OwI.nil _ _,Below.refl _ _⟩
  ·refine(Zhk h p q n m c d A B w ha hb hn hm).mono ?_;rintro e w' ⟨rfl,hk⟩;exact⟨_,rfl,OwI.nil _ _,hk⟩
def zeroI:It:=⟨2,0,⟨#[]⟩,0⟩
theorem Zkt {w:World}{a:Option Addr}{B c:Nat}(h:OwI w B (.slice a 1 c) [zeroI]):OkA w ⟨a,[zeroI],c⟩:=
 ⟨h.rd,fun y hy=>by rw[List.mem_singleton]at hy;subst hy;exact Nat.zero_le _,by show 1<_;decide⟩
theorem Zm0:∀y∈[zeroI],R64 y.num:=fun y hy=>by rw[List.mem_singleton]at hy;subst hy;unfold R64 zeroI;decide
theorem Zld(p:Option Addr)(n c:Nat)(l:List It)(w:World)(he:Env w)(ha:OkA w ⟨p,l,c⟩)(hR:∀y∈l,R64 y.num)(hn:n=l.length):
  Calls Tryz.prog 31 #[.slice p n c] w fun e w'=>∃v,e= .returned (.tuple #[v,.int .i64 (arV fMinus [zeroI] l).2])∧OwI w' w.heap.size v (arV fMinus [zeroI] l).1∧Below w.heap.size w w':=by
 have Ha:=Za ha;have HR:=Za hR;have Hn:=Za hn;have He:=Za he;clear ha hR hn he;go_enter Tryz.func31,Tryz.ntmps31;go_wp2_with fail;refine(Zak 0 _).mono ?_;rintro e w1 ⟨v,rfl,ho,hb1⟩;obtain⟨a0,c0,hv⟩:=Zl ho;subst hv;have ho1:OwI w1 w.heap.size (.slice a0 1 c0) [zeroI]:=ho;have hc:=Za (Zec ⟨#[45]⟩ _ opMinus.p opMinus.eleven a0 p 1 n c0 c [zeroI] l w1 (He.out.keep hb1) (Zkt ho1) ⟨Ha.out.1.keep hb1,Ha.out.2⟩ Zm0 HR.out rfl Hn.out);clear ho ho1;go_wp2_with fail;refine hc.out.mono ?_;rintro e w2 ⟨v2,rfl,ho2,hb2⟩;have hB2:=Zb hb1 hb2;have Ho:=Za (ho2.mono hb1.size);clear hb1 hb2 ho2;go_wp2;go_ret2;exact⟨v2,rfl,Ho.out,hB2⟩
theorem Zjj(p:Option Addr)(n c:Nat)(l:List It)(w:World)(ha:OkA w ⟨p,l,c⟩)(hR:∀y∈l,R64 y.num)(hn:n=l.length):
  Calls Tryz.prog 32 #[.slice p n c] w fun e w'=>∃v,e= .returned (.tuple #[v,.int .i64 (arV fMinus [zeroI] l).2])∧OwI w' w.heap.size v (arV fMinus [zeroI] l).1∧Below w.heap.size w w':=by
 have Ha:=Za ha;have HR:=Za hR;have Hn:=Za hn;clear ha hR hn;go_enter Tryz.func32,Tryz.ntmps32;go_wp2_with fail;refine(Zej 0 _).mono ?_;rintro e w1 ⟨v,rfl,ho,hb1⟩;obtain⟨a0,c0,hv⟩:=Zl ho;subst hv;have ho1:OwI w1 w.heap.size (.slice a0 1 c0) [zeroI]:=ho;have hc:=Za (Zfk ⟨#[45]⟩ (.inr (.inl rfl)) opMinus.r a0 p 1 n c0 c [zeroI] l w1 (Zkt ho1) ⟨Ha.out.1.keep hb1,Ha.out.2⟩ Zm0 HR.out rfl Hn.out);clear ho ho1;go_wp2_with fail;refine hc.out.mono ?_;rintro e w2 ⟨v2,rfl,ho2,hb2⟩;have hB2:=Zb hb1 hb2;have Ho:=Za (ho2.mono hb1.size);clear hb1 hb2 ho2;go_wp2;go_ret2;exact⟨v2,rfl,Ho.out,hB2⟩
end Go.Proofs.YtnnfhojhbbcbmaaGreatDoor
namespace Go.Proofs.YtnnfhojhbbcbmaaGreatDoor
open Go.RowKit
section
variable {H : Type} {enc : TypeId × Value → H} {w : World} {base : Nat} {sp : Nat → Bool} {held : Bool}
end
end Go.Proofs.YtnnfhojhbbcbmaaGreatDoor
