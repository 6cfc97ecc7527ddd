/- value.ofItems, value.Call (one walk) at count, empty, exists, not, boolean. Two items held against each other. slices.Contains, Clone, Reverse at rows of items. -/
import Derived.Test.YtnnfhojhbbcbmaaGreatDoorC17
import Derived.Test.YtnnfhojhbbcbmaaGreatDoorC06
import Derived.Laws.StructEq
import Derived.Shelf.SlicesQ.Contains
import Derived.Test.YtnnfhojhbbcbmaaGreatDoorC07
import Derived.Shelf.SlicesQ.Reverse
import Derived.Lib.SliceRun
namespace Go.Proofs.YtnnfhojhbbcbmaaGreatDoor
set_option maxRecDepth 100000
set_option maxHeartbeats 4000000
open Go.RowKit
def Zbd(l:List It):List It×Int:=([⟨2,(l.length:Int),⟨#[]⟩,0⟩],0)
def ZaI(l:List It):List It×Int:=([⟨4,bN (decide (l.length=0)),⟨#[]⟩,0⟩],0)
def Zaa(l:List It):List It×Int:=([⟨4,bN (!decide (l.length=0)),⟨#[]⟩,0⟩],0)
def ZiF(l:List It):List It×Int:=if (truthV l).2=0 then([⟨4,bN (!(truthV l).1),⟨#[]⟩,0⟩],0)else([],(truthV l).2)
def ZaL(l:List It):List It×Int:=if (truthV l).2=0 then([⟨4,bN (truthV l).1,⟨#[]⟩,0⟩],0)else([],(truthV l).2)
def Zay(f:List It→List It×Int):List Lst→List It×Int
 | [a]=>f a.l
 |_=>([],0)
def ZV(nm:List UInt8)(f:List It→List It×Int)(ls:List Lst):List It×Int:=if rightL ls=true then(if knV nm ls.length=true then Zay f ls else([],241))else([],2)
theorem Zor {α:Type}{l:List α}(h:l.length=1):∃a,l=[a]:=List.length_eq_one_iff.1 h
theorem ZfW(b off c:Nat)(la:Lst)(w:World)(_he:Env w)(hr:Rd w (some ⟨b,off,none⟩) ([la].map Lst.v))(hok:OkA w la):
  Calls Tryz.prog 46 #[.string ⟨#[99,111,117,110,116]⟩,.slice (some ⟨b,off,none⟩) 1 c] w fun e w'=>∃v,e= .returned (.tuple #[v,.int .i64 (Zbd la.l).2,.bool true])∧OwI w' w.heap.size v (Zbd la.l).1∧Below w.heap.size w w':=by
 have hix:=Zp b off 1 c (by decide);obtain⟨b1,off1,e1,h0⟩:=hr.cellAt 0 _ rfl;injection e1 with e1;injection e1 with e1 e2;subst e1 e2;rw[Nat.add_zero]at h0;obtain⟨aa,al,ac⟩:=la;obtain⟨q,hq⟩:∃q,q=al.length:=⟨_,rfl⟩;have h1:w.cell? ⟨b,off,none⟩=some (.slice aa q ac):=by rw[hq];exact h0
 dsimp only;have HF:Hid (Zbd al=([⟨2,(q:Int),⟨#[]⟩,0⟩],0)):=by show _=_;unfold Zbd;rw[hq]
 rw[HF.out];clear hq HF;clear h0 hr hok;go_enter Tryz.func46,Tryz.ntmps46;go_wp2_with fail;refine(Zak q _).mono ?_;rintro e w1 ⟨v,rfl,ho,hb⟩;have Ho:=Za ho;clear ho h1;go_wp2;go_ret3;exact⟨v,rfl,Ho.out,hb⟩
theorem ZfX(b off c:Nat)(la:Lst)(w:World)(_he:Env w)(hr:Rd w (some ⟨b,off,none⟩) ([la].map Lst.v))(hok:OkA w la):
  Calls Tryz.prog 46 #[.string ⟨#[101,109,112,116,121]⟩,.slice (some ⟨b,off,none⟩) 1 c] w fun e w'=>∃v,e= .returned (.tuple #[v,.int .i64 (ZaI la.l).2,.bool true])∧OwI w' w.heap.size v (ZaI la.l).1∧Below w.heap.size w w':=by
 have hix:=Zp b off 1 c (by decide);obtain⟨b1,off1,e1,h0⟩:=hr.cellAt 0 _ rfl;injection e1 with e1;injection e1 with e1 e2;subst e1 e2;rw[Nat.add_zero]at h0;obtain⟨aa,al,ac⟩:=la;obtain⟨q,hq⟩:∃q,q=al.length:=⟨_,rfl⟩;have h1:w.cell? ⟨b,off,none⟩=some (.slice aa q ac):=by rw[hq];exact h0
 dsimp only;clear h0 hr hok;by_cases hz:q=0
 ·subst hz;have HF:Hid (ZaI al=([⟨4,bN true,⟨#[]⟩,0⟩],0)):=by show _=_;unfold ZaI;(rw[←hq])<;>rfl
  rw[HF.out];clear hq HF;go_enter Tryz.func46,Tryz.ntmps46;go_wp2_with fail;refine(ZR true _).mono ?_;rintro e w1 ⟨v,rfl,ho,hb⟩;have Ho:=Za ho;clear ho h1;go_wp2;go_ret3;exact⟨v,rfl,Ho.out,hb⟩
 ·have hz1:((q:Int)==0)=false:=by simpa using(show(q:Int)≠0 by omega)
  have hz2:(q==0)=false:=by simpa using hz
  have HF:Hid (ZaI al=([⟨4,bN false,⟨#[]⟩,0⟩],0)):=by show _=_;unfold ZaI;(rw[←hq,decide_eq_false hz])<;>rfl
  rw[HF.out];clear hq HF;go_enter Tryz.func46,Tryz.ntmps46;go_wp2_with fail;refine(ZR false _).mono ?_;rintro e w1 ⟨v,rfl,ho,hb⟩;have Ho:=Za ho;clear ho h1;go_wp2;go_ret3;exact⟨v,rfl,Ho.out,hb⟩
theorem ZeE(b off c:Nat)(la:Lst)(w:World)(_he:Env w)(hr:Rd w (some ⟨b,off,none⟩) ([la].map Lst.v))(hok:OkA w la):
  Calls Tryz.prog 46 #[.string ⟨#[101,120,105,115,116,115]⟩,.slice (some ⟨b,off,none⟩) 1 c] w fun e w'=>∃v,e= .returned (.tuple #[v,.int .i64 (Zaa la.l).2,.bool true])∧OwI w' w.heap.size v (Zaa la.l).1∧Below w.heap.size w w':=by
 have hix:=Zp b off 1 c (by decide);obtain⟨b1,off1,e1,h0⟩:=hr.cellAt 0 _ rfl;injection e1 with e1;injection e1 with e1 e2;subst e1 e2;rw[Nat.add_zero]at h0;obtain⟨aa,al,ac⟩:=la;obtain⟨q,hq⟩:∃q,q=al.length:=⟨_,rfl⟩;have h1:w.cell? ⟨b,off,none⟩=some (.slice aa q ac):=by rw[hq];exact h0
 dsimp only;clear h0 hr hok;by_cases hz:q=0
 ·subst hz;have HF:Hid (Zaa al=([⟨4,bN false,⟨#[]⟩,0⟩],0)):=by show _=_;unfold Zaa;(rw[←hq])<;>rfl
  rw[HF.out];clear hq HF;go_enter Tryz.func46,Tryz.ntmps46;go_wp2_with fail;refine(ZR false _).mono ?_;rintro e w1 ⟨v,rfl,ho,hb⟩;have Ho:=Za ho;clear ho h1;go_wp2;go_ret3;exact⟨v,rfl,Ho.out,hb⟩
 ·have hz1:((q:Int)==0)=false:=by simpa using(show(q:Int)≠0 by omega)
  have hz2:(q==0)=false:=by simpa using hz
  have HF:Hid (Zaa al=([⟨4,bN true,⟨#[]⟩,0⟩],0)):=by show _=_;unfold Zaa;(rw[←hq,decide_eq_false hz])<;>rfl
  rw[HF.out];clear hq HF;go_enter Tryz.func46,Tryz.ntmps46;go_wp2_with fail;refine(ZR true _).mono ?_;rintro e w1 ⟨v,rfl,ho,hb⟩;have Ho:=Za ho;clear ho h1;go_wp2;go_ret3;exact⟨v,rfl,Ho.out,hb⟩
theorem Zh6(b off c:Nat)(la:Lst)(w:World)(he:Env w)(hr:Rd w (some ⟨b,off,none⟩) ([la].map Lst.v))(hok:OkA w la):
  Calls Tryz.prog 46 #[.string ⟨#[110,111,116]⟩,.slice (some ⟨b,off,none⟩) 1 c] w fun e w'=>∃v,e= .returned (.tuple #[v,.int .i64 (ZiF la.l).2,.bool true])∧OwI w' w.heap.size v (ZiF la.l).1∧Below w.heap.size w w':=by
 have hix:=Zp b off 1 c (by decide);obtain⟨b1,off1,e1,h0⟩:=hr.cellAt 0 _ rfl;injection e1 with e1;injection e1 with e1 e2;subst e1 e2;rw[Nat.add_zero]at h0;obtain⟨aa,al,ac⟩:=la;obtain⟨q,hq⟩:∃q,q=al.length:=⟨_,rfl⟩;have h1:w.cell? ⟨b,off,none⟩=some (.slice aa q ac):=by rw[hq];exact h0
 dsimp only;have Ht:=Za (ZcW aa q ac al w he hok hq);have HF:Hid (ZiF al=if (truthV al).2=0 then([⟨4,bN (!(truthV al).1),⟨#[]⟩,0⟩],0)else([],(truthV al).2)):=by show _=_;rfl
 rw[HF.out];generalize truthV al=tv at*;obtain⟨tb,te⟩:=tv;dsimp only at Ht⊢;clear hq HF;clear h0 hr he hok;by_cases hz:te=0
 ·subst hz;rw[if_pos rfl];cases tb with
  |true=>
   go_enter Tryz.func46,Tryz.ntmps46;go_wp2_with fail;refine Ht.out.mono ?_;rintro e w1 ⟨rfl,hb1⟩;clear h1;go_wp2_with fail;refine(ZR false _).mono ?_;rintro e w2 ⟨v,rfl,ho,hb2⟩;have Ho:=Za (ho.mono hb1.size);have hB2:=Zb hb1 hb2;clear ho hb2;go_wp2;go_ret3;exact⟨v,rfl,Ho.out,hB2⟩
  |false=>
   go_enter Tryz.func46,Tryz.ntmps46;go_wp2_with fail;refine Ht.out.mono ?_;rintro e w1 ⟨rfl,hb1⟩;clear h1;go_wp2_with fail;refine(ZR true _).mono ?_;rintro e w2 ⟨v,rfl,ho,hb2⟩;have Ho:=Za (ho.mono hb1.size);have hB2:=Zb hb1 hb2;clear ho hb2;go_wp2;go_ret3;exact⟨v,rfl,Ho.out,hB2⟩
 ·have hz1:(te != 0)=true:=by simpa using hz
  rw[if_neg hz];clear hz;go_enter Tryz.func46,Tryz.ntmps46;go_wp2_with fail;refine Ht.out.mono ?_;rintro e w1 ⟨rfl,hb1⟩;clear h1;go_wp2;go_ret3;exact⟨.slice none 0 0,rfl,OwI.nil _ _,hb1⟩
theorem Zet(b off c:Nat)(la:Lst)(w:World)(he:Env w)(hr:Rd w (some ⟨b,off,none⟩) ([la].map Lst.v))(hok:OkA w la):
  Calls Tryz.prog 46 #[.string ⟨#[98,111,111,108,101,97,110]⟩,.slice (some ⟨b,off,none⟩) 1 c] w fun e w'=>∃v,e= .returned (.tuple #[v,.int .i64 (ZaL la.l).2,.bool true])∧OwI w' w.heap.size v (ZaL la.l).1∧Below w.heap.size w w':=by
 have hix:=Zp b off 1 c (by decide);obtain⟨b1,off1,e1,h0⟩:=hr.cellAt 0 _ rfl;injection e1 with e1;injection e1 with e1 e2;subst e1 e2;rw[Nat.add_zero]at h0;obtain⟨aa,al,ac⟩:=la;obtain⟨q,hq⟩:∃q,q=al.length:=⟨_,rfl⟩;have h1:w.cell? ⟨b,off,none⟩=some (.slice aa q ac):=by rw[hq];exact h0
 dsimp only;have Ht:=Za (ZcW aa q ac al w he hok hq);have HF:Hid (ZaL al=if (truthV al).2=0 then([⟨4,bN (truthV al).1,⟨#[]⟩,0⟩],0)else([],(truthV al).2)):=by show _=_;rfl
 rw[HF.out];generalize truthV al=tv at*;obtain⟨tb,te⟩:=tv;dsimp only at Ht⊢;clear hq HF;clear h0 hr he hok;by_cases hz:te=0
 ·subst hz;rw[if_pos rfl];cases tb with
  |true=>
   go_enter Tryz.func46,Tryz.ntmps46;go_wp2_with fail;refine Ht.out.mono ?_;rintro e w1 ⟨rfl,hb1⟩;clear h1;go_wp2_with fail;refine(ZR true _).mono ?_;rintro e w2 ⟨v,rfl,ho,hb2⟩;have Ho:=Za (ho.mono hb1.size);have hB2:=Zb hb1 hb2;clear ho hb2;go_wp2;go_ret3;exact⟨v,rfl,Ho.out,hB2⟩
  |false=>
   go_enter Tryz.func46,Tryz.ntmps46;go_wp2_with fail;refine Ht.out.mono ?_;rintro e w1 ⟨rfl,hb1⟩;clear h1;go_wp2_with fail;refine(ZR false _).mono ?_;rintro e w2 ⟨v,rfl,ho,hb2⟩;have Ho:=Za (ho.mono hb1.size);have hB2:=Zb hb1 hb2;clear ho hb2;go_wp2;go_ret3;exact⟨v,rfl,Ho.out,hB2⟩
 ·have hz1:(te != 0)=true:=by simpa using hz
  rw[if_neg hz];clear hz;go_enter Tryz.func46,Tryz.ntmps46;go_wp2_with fail;refine Ht.out.mono ?_;rintro e w1 ⟨rfl,hb1⟩;clear h1;go_wp2;go_ret3;exact⟨.slice none 0 0,rfl,OwI.nil _ _,hb1⟩
theorem Za1(nm:ByteArray)(lk:List UInt8)(F:List It→List It×Int)(hkn:∀(n:Nat) (m:Int) (W:World),W.cell? ⟨1,0,none⟩=some (.int .i64 m)→Counts W→Calls Tryz.prog 45 #[.string nm,.int .i64 n] W fun e w'=>e= .returned (.bool (knV lk n))∧Below W.heap.size W w')(hk1:∀n,knV lk n=true→n=1)(P:Lst→Prop)(hof:∀(b off c:Nat) (la:Lst) (W:World),Env W→Rd W (some ⟨b,off,none⟩) ([la].map Lst.v)→OkA W la→P la→Calls Tryz.prog 46 #[.string nm,.slice (some ⟨b,off,none⟩) 1 c] W fun e w'=>∃v,e= .returned (.tuple #[v,.int .i64 (F la.l).2,.bool true])∧OwI w' W.heap.size v (F la.l).1∧Below W.heap.size W w')(p:Option Addr)(n c:Nat)(ls:List Lst)(m:Int)(w:World)(he:Env w)(hm:w.cell? ⟨1,0,none⟩=some (.int .i64 m))(hc:Counts w)(hr:Rd w p (ls.map Lst.v))(hok:OkAs w ls)
  (hP:∀x∈ls,P x) (hn:n=ls.length) (hnm:n≤1000000):
  Calls Tryz.prog 14 #[.string nm,.slice p n c] w (Res w (ZV lk F ls).1 (ZV lk F ls).2):=by
 have HP:=Za hP;have He:=Za he;have Hr:=Za hr;have Hok:=Za hok;have Hn:=Za hn;have Hrt:=Za (Z7 p n c ls w he.t8 hn (by omega) hr hok);have Hkn:Hid (∀W,Below w.heap.size w W→Calls Tryz.prog 45 #[.string nm,.int .i64 n] W fun e w'=>e= .returned (.bool (knV lk n))∧Below W.heap.size W w'):=fun W hW=>hkn n m W (Zc hW hm) (hc.keep hW);have hnl:n<9223372036854775807:=by omega
 have Hall:Hid (ZV lk F ls=if rightL ls=true then(if knV lk n=true then Zay F ls else([],241))else([],2)):=by show _=_;unfold ZV;rw[hn]
 clear he hm hc hr hok hn hnm hP;rcases Bool.eq_false_or_eq_true (rightL ls)with hq|hq;rotate_left
 ·rw[hq]at Hrt;have HA:Hid (ZV lk F ls=([],2)):=by show _=_;rw[Hall.out,hq];rfl
  clear hq Hall;go_enter Tryz.func14,Tryz.ntmps14;go_wp2_with fail;refine Hrt.out.mono ?_;rintro e w1 ⟨rfl,hb1⟩;go_wp2;go_ret2;exact⟨.slice none 0 0,by rw[HA.out];rfl,by rw[HA.out];exact OwI.nil _ _,hb1⟩
 rw[hq]at Hrt;rcases Bool.eq_false_or_eq_true (knV lk n)with hk|hk;rotate_left
 ·rw[hk]at Hkn;have HA:Hid (ZV lk F ls=([],241)):=by show _=_;rw[Hall.out,hq,hk];rfl
  clear hq hk Hall;go_enter Tryz.func14,Tryz.ntmps14;go_wp2_with fail;refine Hrt.out.mono ?_;rintro e w1 ⟨rfl,hb1⟩;go_wp2_with fail;refine(Hkn.out w1 hb1).mono ?_;rintro e w2 ⟨rfl,hb2⟩;have hB2:=Zb hb1 hb2;go_wp2;go_ret2;exact⟨.slice none 0 0,by rw[HA.out];rfl,by rw[HA.out];exact OwI.nil _ _,hB2⟩
 have HE:Hid (ZV lk F ls=Zay F ls):=by show _=_;rw[Hall.out,hq,hk,if_pos rfl,if_pos rfl]
 rw[hk]at Hkn;have hn1:ls.length=1:=by rw[←Hn.out];exact hk1 n hk
 clear hq hk Hall;obtain⟨la,rfl⟩:=Zor hn1;have hn2:n=1:=Hn.out;subst hn2;obtain⟨b0,off0,rfl,hcz⟩:=Hr.out.cellAt 0 la.v rfl;clear hcz hn1;go_enter Tryz.func14,Tryz.ntmps14;go_wp2_with fail;refine Hrt.out.mono ?_;rintro e w1 ⟨rfl,hb1⟩;go_wp2_with fail;refine(Hkn.out w1 hb1).mono ?_;rintro e w2 ⟨rfl,hb2⟩;have hB2:=Zb hb1 hb2;clear hb1 hb2 Hkn Hrt;go_wp2_with fail;refine(hof b0 off0 c la _ (He.out.keep hB2) (Hr.out.keep hB2) ⟨(Hok.out la (by simp)).1.keep hB2,(Hok.out la (by simp)).2⟩ (HP.out la (by simp))).mono ?_;rintro e w3 ⟨v,rfl,ho,hb3⟩;have Ho:=Za (ho.mono hB2.size);have hB3:=Zb hB2 hb3;clear ho hb3;have HE2:Hid (ZV lk F [la]=F la.l):=HE.out;generalize F la.l=sv at*;obtain⟨s1,s2⟩:=sv;go_wp2;go_ret2;exact⟨v,by rw[HE2.out];rfl,by rw[HE2.out];exact Ho.out,hB3⟩
theorem Zh7(p:Option Addr)(n c:Nat)(ls:List Lst)(m:Int)(w:World)(he:Env w)(hm:w.cell? ⟨1,0,none⟩=some (.int .i64 m))(hc:Counts w)(hr:Rd w p (ls.map Lst.v))(hok:OkAs w ls)
  (hn:n=ls.length) (hnm:n≤1000000):
  Calls Tryz.prog 14 #[.string ⟨#[99,111,117,110,116]⟩,.slice p n c] w (Res w (ZV [99,111,117,110,116] Zbd ls).1 (ZV [99,111,117,110,116] Zbd ls).2):=
 Za1 ⟨#[99,111,117,110,116]⟩ [99,111,117,110,116] Zbd (fun n m W h1 h2=>ZI _ n m W h1 h2 (by decide)) (fun n h=>by unfold knV at h;simp[wK0,wK1]at h;omega) (fun _=>True) (fun b off c la W h1 h2 h3 _=>ZfW b off c la W h1 h2 h3) p n c ls m w he hm hc hr hok (fun _ _=>trivial) hn hnm
theorem Zh8(p:Option Addr)(n c:Nat)(ls:List Lst)(m:Int)(w:World)(he:Env w)(hm:w.cell? ⟨1,0,none⟩=some (.int .i64 m))(hc:Counts w)(hr:Rd w p (ls.map Lst.v))(hok:OkAs w ls)
  (hn:n=ls.length) (hnm:n≤1000000):
  Calls Tryz.prog 14 #[.string ⟨#[101,109,112,116,121]⟩,.slice p n c] w (Res w (ZV [101,109,112,116,121] ZaI ls).1 (ZV [101,109,112,116,121] ZaI ls).2):=
 Za1 ⟨#[101,109,112,116,121]⟩ [101,109,112,116,121] ZaI (fun n m W h1 h2=>ZI _ n m W h1 h2 (by decide)) (fun n h=>by unfold knV at h;simp[wK0,wK1]at h;omega) (fun _=>True) (fun b off c la W h1 h2 h3 _=>ZfX b off c la W h1 h2 h3) p n c ls m w he hm hc hr hok (fun _ _=>trivial) hn hnm
theorem Zhi(p:Option Addr)(n c:Nat)(ls:List Lst)(m:Int)(w:World)(he:Env w)(hm:w.cell? ⟨1,0,none⟩=some (.int .i64 m))(hc:Counts w)(hr:Rd w p (ls.map Lst.v))(hok:OkAs w ls)
  (hn:n=ls.length) (hnm:n≤1000000):
  Calls Tryz.prog 14 #[.string ⟨#[101,120,105,115,116,115]⟩,.slice p n c] w (Res w (ZV [101,120,105,115,116,115] Zaa ls).1 (ZV [101,120,105,115,116,115] Zaa ls).2):=
 Za1 ⟨#[101,120,105,115,116,115]⟩ [101,120,105,115,116,115] Zaa (fun n m W h1 h2=>ZI _ n m W h1 h2 (by decide)) (fun n h=>by unfold knV at h;simp[wK0,wK1]at h;omega) (fun _=>True) (fun b off c la W h1 h2 h3 _=>ZeE b off c la W h1 h2 h3) p n c ls m w he hm hc hr hok (fun _ _=>trivial) hn hnm
theorem Zk0(p:Option Addr)(n c:Nat)(ls:List Lst)(m:Int)(w:World)(he:Env w)(hm:w.cell? ⟨1,0,none⟩=some (.int .i64 m))(hc:Counts w)(hr:Rd w p (ls.map Lst.v))(hok:OkAs w ls)
  (hn:n=ls.length) (hnm:n≤1000000):
  Calls Tryz.prog 14 #[.string ⟨#[110,111,116]⟩,.slice p n c] w (Res w (ZV [110,111,116] ZiF ls).1 (ZV [110,111,116] ZiF ls).2):=
 Za1 ⟨#[110,111,116]⟩ [110,111,116] ZiF (fun n m W h1 h2=>ZI _ n m W h1 h2 (by decide)) (fun n h=>by unfold knV at h;simp[wK0,wK1]at h;omega) (fun _=>True) (fun b off c la W h1 h2 h3 _=>Zh6 b off c la W h1 h2 h3) p n c ls m w he hm hc hr hok (fun _ _=>trivial) hn hnm
theorem ZfY(p:Option Addr)(n c:Nat)(ls:List Lst)(m:Int)(w:World)(he:Env w)(hm:w.cell? ⟨1,0,none⟩=some (.int .i64 m))(hc:Counts w)(hr:Rd w p (ls.map Lst.v))(hok:OkAs w ls)
  (hn:n=ls.length) (hnm:n≤1000000):
  Calls Tryz.prog 14 #[.string ⟨#[98,111,111,108,101,97,110]⟩,.slice p n c] w (Res w (ZV [98,111,111,108,101,97,110] ZaL ls).1 (ZV [98,111,111,108,101,97,110] ZaL ls).2):=
 Za1 ⟨#[98,111,111,108,101,97,110]⟩ [98,111,111,108,101,97,110] ZaL (fun n m W h1 h2=>ZI _ n m W h1 h2 (by decide)) (fun n h=>by unfold knV at h;simp[wK0,wK1]at h;omega) (fun _=>True) (fun b off c la W h1 h2 h3 _=>Zet b off c la W h1 h2 h3) p n c ls m w he hm hc hr hok (fun _ _=>trivial) hn hnm
end Go.Proofs.YtnnfhojhbbcbmaaGreatDoor
namespace Go.Proofs.YtnnfhojhbbcbmaaGreatDoor
open Go.RowKit Go.Shelf Go.Lib
def eqI(x y:It):Bool:=decide (x.kind=y.kind)&&(decide (x.num=y.num)&&(decide (x.text=y.text)&&decide (x.node=y.node)))
theorem ZhI(x y:It):eqI x y=true↔x=y:=by obtain⟨a,b,c,d⟩:=x;obtain⟨a2,b2,c2,d2⟩:=y;simp[eqI]
theorem ZaN(s t:ByteArray):s.toList=t.toList↔s=t:=by
 constructor
 ·intro h;rw[ByteArray.toList_eq,ByteArray.toList_eq]at h;exact ByteArray.ext (Array.toList_inj.1 h)
 ·intro h;rw[h]
set_option maxHeartbeats 1000000 in
theorem eqItem:EqlAt Tryz.prog 24 (fun x:It=> .agg (itC x).toArray) eqI:=by
 refine⟨fun x y w=>?_,GuardAt.agg _ (by kernel_rfl)⟩;have u1:=Tryz.underlying3;have a1:=Tryz.isAgg3;have z1:=Tryz.sizeOf3;have u2:=Tryz.underlying2;have a2:=Tryz.isAgg2;have z2:=Tryz.sizeOf2;have u3:=Tryz.underlying9;have a3:=Tryz.isAgg9;have z3:=Tryz.sizeOf9;have u4:=Tryz.underlying22;have a4:=Tryz.isAgg22;have z4:=Tryz.sizeOf22;have hS:Tryz.prog.underlying 24=some (.struct (Tryz.prog.fieldsOf 24)):=by kernel_rfl
 have hp:Tryz.prog.stoodInHeld 24=false:=by kernel_rfl
 simp only[itC];rw[run_eql_struct,show(10000:Nat)=9999+1 from rfl,run_equalIn_agg w 9999 24 _ _ hS hp];simp only[Program.fieldsOf,Tryz.underlying24]
 go_simp
 unfold eqI;by_cases h1:x.kind=y.kind<;>by_cases h2:x.num=y.num<;>by_cases h3:x.text=y.text<;>by_cases h4:x.node=y.node<;>simp[h1,h2,h3,h4,ZaN,Int.natCast_inj]
theorem ZiG(x:It):eqI x x=true:=(ZhI x x).2 rfl
theorem Zkd(x y:It)(w:World):(binOp .eql 24 (itV x) (itV y)).run Tryz.prog w= .ok (.bool (eqI x y)) w:=eqItem.1 x y w
section
variable {K : Value → World → Prop} {u : Nat → Value} {o : Oper} {w : World}
theorem ZfF(x y:Operand)(a b:It)(h:o.op= .binOp .eql 24 x y 24)(hx:evU u x=itV a)(hy:evU u y=itV b)(hk:K (.bool (eqI a b)) w):Zac K Tryz.prog ((execOp (evU u) o).run Tryz.prog w):=by refine Ze _ ?_ hk;have hr:=Zkd a b w;have hg:(eqGuard .eql 24 x y (itV a) (itV b)).run Tryz.prog w= .ok () w:=eqItem.2 .eql x y a b w;unfold execOp;simp only[h,hx,hy];simp[go_sem,hr,hg]
theorem ZaJ(x y:Operand)(a:It)(h:o.op= .binOp .eql 24 x y 24)(hx:evU u x=itV a)(hy:evU u y=itV a)(hk:K (.bool true) w):Zac K Tryz.prog ((execOp (evU u) o).run Tryz.prog w):=
 ZfF x y a a h hx hy (by rw[ZiG];exact hk)
end
end Go.Proofs.YtnnfhojhbbcbmaaGreatDoor
namespace Go.Proofs.YtnnfhojhbbcbmaaGreatDoor
set_option maxRecDepth 100000
set_option maxHeartbeats 4000000
open Go.RowKit Go.Shelf Go.Lib
def revRen:Go.Shelf.Ren:=⟨fun|35=>93|n=>n,fun|0=>0|3=>3|4=>4|22=>28|23=>24|n=>n,fun|n=>n⟩
theorem Zke:Go.Proofs.SlLaysE0.n35 Tryz.prog revRen:={
 mixed:=by kernel_rfl
 f35:=⟨Tryz.f93.name,by kernel_rfl,Tryz.func93.trans (congrArg some (by kernel_rfl))⟩
 t0:=Tryz.underlying0
 a0:=Tryz.isAgg0
 z0:=Tryz.sizeOf0
 v0:=Tryz.zeroValue0
 t3:=Tryz.underlying3
 a3:=Tryz.isAgg3
 z3:=Tryz.sizeOf3
 v3:=Tryz.zeroValue3
 t4:=Tryz.underlying4
 a4:=Tryz.isAgg4
 z4:=Tryz.sizeOf4
 v4:=Tryz.zeroValue4
 t22:=Tryz.underlying28
 a22:=Tryz.isAgg28
 z22:=Tryz.sizeOf28
 v22:=Tryz.zeroValue28}
def conRen:Go.Shelf.Ren:=⟨fun|6=>196|7=>151|n=>n,fun|0=>0|3=>3|4=>4|22=>28|24=>24|n=>n,fun|n=>n⟩
theorem ZnB:Go.Proofs.SlLaysQ.n7 Tryz.prog conRen:={
 mixed:=by kernel_rfl
 f6:=⟨Tryz.f196.name,by kernel_rfl,Tryz.func196.trans (congrArg some (by kernel_rfl))⟩
 f7:=⟨Tryz.f151.name,by kernel_rfl,Tryz.func151.trans (congrArg some (by kernel_rfl))⟩
 t0:=Tryz.underlying0
 a0:=Tryz.isAgg0
 z0:=Tryz.sizeOf0
 v0:=Tryz.zeroValue0
 t3:=Tryz.underlying3
 a3:=Tryz.isAgg3
 z3:=Tryz.sizeOf3
 v3:=Tryz.zeroValue3
 t4:=Tryz.underlying4
 a4:=Tryz.isAgg4
 z4:=Tryz.sizeOf4
 v4:=Tryz.zeroValue4
 t22:=Tryz.underlying28
 a22:=Tryz.isAgg28
 z22:=Tryz.sizeOf28
 v22:=Tryz.zeroValue28}
theorem ZoT {w:World}{b off:Nat}{l:List It}(h:RdI w (some ⟨b,off,none⟩) l)(j:Nat)(hj:j<l.length):∀i v,(itC l[j]!)[i]? =some v→w.cell? ⟨b,off+j*4+i,none⟩=some v:=by
 intro i v hv;have hx:l[j]? =some l[j]! :=by rw[List.getElem?_eq_getElem hj,getElem!_pos l j hj]
 obtain⟨b2,o2,e,c0,c1,c2,c3⟩:=h.at j _ hx;injection e with e;injection e with e1 e2;subst e1 e2
 match i,hv with
 |0,hv=>rw[←Option.some.inj (show some (Value.int .u8 l[j]!.kind)=some v from hv)];exact c0
 |1,hv=>rw[←Option.some.inj (show some (Value.int .i64 l[j]!.num)=some v from hv)];exact c1
 |2,hv=>rw[←Option.some.inj (show some (Value.string l[j]!.text)=some v from hv)];exact c2
 |3,hv=>rw[←Option.some.inj (show some (Value.int .i64 l[j]!.node)=some v from hv)];exact c3
 |i+4,hv=>simp[itC]at hv
theorem Zk1(k:Nat)(n d:Int)(s:ByteArray)(a:Option Addr)(c:Nat)(w:World):Calls Tryz.prog 196 #[.slice a 0 c,.agg #[.int .u8 k,.int .i64 n,.string s,.int .i64 d]] w fun e w'=>e= .returned (.int .i64 (-1))∧Below w.heap.size w w':=by
 have hk:=(Below.refl w.heap.size w).alloc (Nat.le_refl _) (.cells #[.int .u8 k,.int .i64 n,.string s,.int .i64 d] 24);go_enter Tryz.func196,Tryz.ntmps196;go_wp2_with fail;go_loopw[8] (fun x W=>x= .int .i64 0∧Below w.heap.size w W) (fun _ _=>0)
 case atStart=>exact⟨rfl,hk⟩
 case round=>clear hk;obtain⟨rfl,hB⟩:=hrel;go_wp2;go_ret;exact⟨rfl,hB⟩
theorem Zds(x:It)(a:Option Addr)(n c:Nat)(l:List It)(w:World)(hr:RdI w a l)(hn:n=l.length)(hle:n≤9223372036854775807):
  Calls Tryz.prog 151 #[.slice a n c,itV x] w fun e w'=>e= .returned (.bool (l.any fun y=>eqI x y))∧Below w.heap.size w w':=by
 by_cases h0:l=[]
 ·subst h0;have hn0:n=0:=hn;subst hn0;obtain⟨k,m,s,d⟩:=x;have hk:=(Below.refl w.heap.size w).alloc (Nat.le_refl _) (.cells #[.int .u8 k,.int .i64 m,.string s,.int .i64 d] 24);show Calls _ _ #[.slice a 0 c,.agg #[.int .u8 k,.int .i64 m,.string s,.int .i64 d]] _ _;show Calls _ _ _ _ fun e w'=>e= .returned (.bool false)∧Below w.heap.size w w';clear hr hn hle;go_enter Tryz.func151,Tryz.ntmps151;go_wp2_with fail;refine(Zk1 k m d s a c _).mono ?_;rintro e w1 ⟨rfl,hb⟩;have hB:=Zb hk hb;clear hk hb;go_wp2;go_ret;exact⟨rfl,hB⟩
 ·have hne:Zi l≠ []:=by
   intro e;have h1:=Zg l;rw[e]at h1;exact h0 (List.length_eq_zero_iff.1 (by simp at h1;omega))
  obtain⟨b,off,rfl,hlt,hcc⟩:=Rd.addrAt hr hne;have h:=AnyQ.slices_Contains ZnB 4 Tryz.isAgg24 Tryz.sizeOf24 itC (fun _=>rfl) eqI eqItem b off n c l x w (by omega) hle (fun j hj i v hv=>ZoT hr j hj i v hv);rw[hn,List.take_length,←hn]at h;exact h
theorem Zkf {w:World}{B g n cap m:Nat}{l d:List It}(h:OwI w B (.slice (some ⟨g,0,none⟩) n cap) l)(hn:n=l.length)(hd:d.length=l.length):
  OwI (Sort.putRowK itC 4 (Sort.ahead w m) g 0 d.toArray) B (.slice (some ⟨g,0,none⟩) n cap) d∧w.grownBy (Sort.putRowK itC 4 (Sort.ahead w m) g 0 d.toArray) (some g):=by
 subst hn;obtain⟨cur,q1,q2,q3,q4,q5,q6⟩:=ZaE h;have hmb:(Sort.putRowK itC 4 (Sort.ahead w m) g 0 d.toArray).heap[g]? =some (.cells (Sort.putCells id 0 (Sort.flatK itC 4 d.toArray) cur) 24 (0,0)):=by unfold Sort.putRowK Sort.putRow Sort.mapBlock;show(w.heap.modify g _)[g]? =_;rw[Array.getElem?_modify,if_pos rfl,q2];rfl
 have hsz:(Sort.putCells id 0 (Sort.flatK itC 4 d.toArray) cur).size=cur.size:=by simp[Sort.putCells]
 constructor
 ·unfold OwI;rw[hd];refine⟨by rw[Zg,hd],.inr ⟨g,cap,_,rfl,q1,hmb,q3,q4,by rw[hsz];exact q5,?_⟩⟩;apply List.ext_getElem?;intro t;have hcl:cur.toList.length=cur.size:=Array.length_toList;by_cases ht:t<l.length*4
  ·have hfs:(Sort.flatK itC 4 d.toArray).size=l.length*4:=by rw[Sort.size_flatK,List.size_toArray,hd]
   have htc:t<cur.size:=by omega
   rw[List.getElem?_take,if_pos ht];have e1:(Sort.putCells id 0 (Sort.flatK itC 4 d.toArray) cur).toList[t]? =some (Sort.flatK itC 4 d.toArray)[t]! :=by rw[Array.getElem?_toList];simp only[Sort.putCells,Array.getElem?_mapIdx,Array.getElem?_eq_getElem htc,Option.map_some,hfs];rw[if_pos ⟨Nat.zero_le _,by omega⟩];simp
   rw[e1,Sort.get_flatK _ _ _ _ (by rw[List.size_toArray,hd];exact ht)];have hq:t / 4<d.length:=by omega
   have hx:d[t / 4]? =some d[t / 4]! :=by rw[List.getElem?_eq_getElem hq,getElem!_pos d _ hq]
   have:=Zau d (t / 4) (t % 4) _ hx (Nat.mod_lt _ (by decide));rw[show t / 4*4+t % 4=t from by omega]at this;rw[this];have hm4:t % 4<(itC d[t / 4]!).length:=Nat.mod_lt _ (by decide);rw[show(d.toArray)[t / 4]! =d[t / 4]! from by simp,List.getElem?_eq_getElem hm4,getElem!_pos (itC d[t / 4]!) _ hm4]
  ·rw[List.getElem?_take,if_neg ht,List.getElem?_eq_none];rw[Zg,hd];omega
 ·refine⟨rfl,rfl,rfl,?_,fun k hk hne=>?_⟩
  ·show _≤(w.heap.modify g _).size;rw[Array.size_modify];exact Nat.le_refl _
  ·show(w.heap.modify g _)[k]? =_;rw[Array.getElem?_modify,if_neg (fun e=>hne (by rw[e]))]
theorem Zd8 {w:World}{B g n cap:Nat}{l:List It}(h:OwI w B (.slice (some ⟨g,0,none⟩) n cap) l)(hn:n=l.length):Sort.HoldsK itC 4 w g 0 l.toArray:=by
 subst hn;intro t ht;rw[Sort.size_flatK,List.size_toArray]at ht;rw[Nat.zero_add,Sort.get_flatK _ _ _ _ (by rw[List.size_toArray];exact ht)];have hq:t / 4<l.length:=by omega
 have hx:l[t / 4]? =some l[t / 4]! :=by rw[List.getElem?_eq_getElem hq,getElem!_pos l _ hq]
 have:=Zau l (t / 4) (t % 4) _ hx (Nat.mod_lt _ (by decide));rw[show t / 4*4+t % 4=t from by omega]at this;have hm4:t % 4<(itC l[t / 4]!).length:=Nat.mod_lt _ (by decide);refine⟨?_,ZkD h t⟩;refine ZJ h t _ ?_;rw[this];rw[show(l.toArray)[t / 4]! =l[t / 4]! from by simp,List.getElem?_eq_getElem hm4,getElem!_pos (itC l[t / 4]!) _ hm4];rfl
theorem Zh9(v:Value)(B:Nat)(l:List It)(w:World)(h:OwI w B v l)(hle:l.length≤1000000):
  Calls Tryz.prog 93 #[v] w fun e w'=>e= .returned (.tuple #[])∧OwI w' B v l.reverse∧w.grownBy w' v.ownBlock:=by
 by_cases h0:l=[]
 ·subst h0;obtain⟨a,c,hv⟩:=Zl h;subst hv;refine(AnyQ.slices_Reverse_empty Zke a c w).mono ?_;rintro e w' ⟨rfl,hw⟩;rw[hw];exact⟨rfl,h,World.grownBy.refl w _⟩
 ·obtain⟨g,cap,rfl,hB,hg,hc⟩:=Z9 h (by simpa using h0);refine(AnyQ.slices_Reverse Zke 4 Tryz.isAgg24 Tryz.sizeOf24 itC (fun _=>rfl) (fun x v hv=>Zv [x] v (by simpa[Zi]using hv)) g 0 cap l.toArray w (Zd8 h rfl) (by rw[List.size_toArray];omega)).mono ?_;rintro e w' ⟨rfl,n,rfl⟩;rw[show(l.toArray).reverse=l.reverse.toArray from by simp];have:=Zkf (m:=n) (d:=l.reverse) h rfl (by simp);exact⟨rfl,this.1,this.2⟩
theorem ZgU(a:Option Addr)(n c:Nat)(l:List It)(w:World)(hr:RdI w a l)(hn:n=l.length)(hle:n≤1000000):
  Calls Tryz.prog 71 #[.slice a n c] w fun e w'=>∃v,e= .returned v∧OwI w' w.heap.size v l∧Below w.heap.size w w':=by
 obtain⟨i0,hi,hz0,hz1,hz2⟩:=info_parts ZaD;have Hi:Hid (Tryz.prog.info? 24=some i0∧i0.zero=some (.agg #[.int .u8 0,.int .i64 0,.string ⟨#[]⟩,.int .i64 0])∧i0.size=4∧i0.bytes=40):=⟨hi,hz0,hz1,hz2⟩;have q25:∀(w:World) (a:Option Addr) (n c n' c':Nat),(binOp .eql 28 (.slice a n c) (.slice none n' c')).run Tryz.prog w= .ok (.bool a.isNone) w:=fun w a n c n' c'=>Lib.run_eql_slice_nil w _ _ a n c n' c' Tryz.underlying28;have hn':=hn;subst hn;cases a with
 |none=>
  have h0:l=[]:=by
   rcases hr with h|⟨b,off,h,_⟩
   ·have h1:=Zg l;rw[h]at h1;exact List.length_eq_zero_iff.1 (by simp at h1;omega)
   ·cases h
  subst h0;clear hr hi hz0 hz1 hz2 hn';show Calls _ _ #[.slice none 0 c] _ _;go_enter Tryz.func71,Tryz.ntmps71;go_wp2;go_ret;exact⟨_,rfl,OwI.nil _ _,Below.refl _ _⟩
 |some ad=>
  have hk:=(Below.refl w.heap.size w).alloc (Nat.le_refl _) (.cells #[] 24);have ho:(w.alloc (.cells #[] 24)).ownsRow w.heap.size 24 4 (.slice (some ⟨w.heap.size,0,none⟩) 0 0) 0 []:=World.ownsRow_made w #[] 0 (Nat.le_refl _) (by decide) rfl;have Hr:=Za (RdI.keep hr hk);have Ho:=Za ho;obtain⟨n,hnl⟩:∃n,n=l.length:=⟨_,rfl⟩;rw[←hnl]at hle hn'⊢;have Hn:=Za hnl;clear hr ho hi hz0 hz1 hz2 hn' hnl;go_enter Tryz.func71,Tryz.ntmps71;go_wp2_with (at_builtin;refine Zk rfl _ _ 28 rfl i0 _ 40 c Tryz.underlying28 Hi.out.1 Hi.out.2.1 Hi.out.2.2.1 Hi.out.2.2.2 rfl (by decide) rfl rfl (Zv l) Ho.out Hr.out (m:=n) ?e1 ?e2 ?e3 ?e4 ?_)
  case e1=>rw[Zg,Hn.out]
  case e2=>omega
  case e3=>omega
  case e4=>simp
  intro v' W3 own3 hg3 hv3
  have own4:OwI W3 w.heap.size v' l:=by
   unfold OwI;rw[←Hn.out]
   try rw[Nat.zero_add]at own3
   try rw[List.nil_append]at own3
   exact own3
  have hB3:Below w.heap.size w W3:=hk.grown hg3 hk.size fun b hb=>by simp[Value.ownBlock]at hb;omega
  clear own3 hg3 hv3 hk Ho Hr Hi;have Hown4:=Za own4;clear own4;go_wp2;go_ret;exact⟨_,rfl,Hown4.out,hB3⟩
end Go.Proofs.YtnnfhojhbbcbmaaGreatDoor
