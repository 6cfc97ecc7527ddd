/- value.distinct; value.ofItems at distinct-values, reverse, string-join. value.ofItems at distinct-values, reverse, string-join. value.Call at distinct-values, reverse, string-join. -/
import Derived.Test.YtnnfhojhbbcbmaaGreatDoorC18
import Derived.Test.YtnnfhojhbbcbmaaGreatDoorC17
namespace Go.Proofs.YtnnfhojhbbcbmaaGreatDoor
open Go.RowKit
def Zc8(x:It):It:=if x.kind=1 then⟨3,0,x.text,0⟩else x
def ZhJ(acc:List It)(x:It):List It:=if (acc.any fun y=>eqI x y)=true then acc else acc++[x]
def Zbh:List It→List It→List It
 |acc,[]=>acc
 |acc,x::r=>Zbh (ZhJ acc (Zc8 x)) r
def ZaT(l:List It):List It:=Zbh [] l
theorem ZdC {α:Type}(l:List α)(k:Nat)(x:α)(hx:l[k]? =some x):l.drop k=x::l.drop (k+1):=by obtain⟨h1,h2⟩:=List.getElem?_eq_some_iff.1 hx;rw[List.drop_eq_getElem_cons h1,h2]
theorem Zmg(acc:List It)(x:It):(ZhJ acc x).length≤acc.length+1:=by
 unfold ZhJ;split
 ·omega
 ·simp
theorem ZdD {acc:List It}{x:It}(h:(acc.any fun y=>eqI x y)=true):ZhJ acc x=acc:=if_pos h
theorem Zfa {acc:List It}{x:It}(h:(acc.any fun y=>eqI x y)=false):ZhJ acc x=acc++[x]:=if_neg (by rw[h];decide)
set_option maxRecDepth 100000 in
set_option maxHeartbeats 2000000 in
theorem Zhj(p:Option Addr)(n c:Nat)(l:List It)(w:World)(hr:RdI w p l)(hn:n=l.length)(hle:n≤1000000):
  Calls Tryz.prog 92 #[.slice p n c] w fun e w'=>∃v,e= .returned v∧OwI w' w.heap.size v (ZaT l)∧Below w.heap.size w w':=by
 obtain⟨i0,hi,hz0,hz1,hz2⟩:=info_parts ZaD;have Hi:Hid (Tryz.prog.info? 24=some i0∧i0.zero=some (.agg #[.int .u8 0,.int .i64 0,.string ⟨#[]⟩,.int .i64 0])∧i0.size=4∧i0.bytes=40):=⟨hi,hz0,hz1,hz2⟩;have Hr:=Za hr;have Hn:=Za hn;clear hr hn hi hz0 hz1 hz2;go_enter Tryz.func92,Tryz.ntmps92;go_wp2_with fail;go_loopw[3,8] (fun v iv W=>∃(k:Nat) (out:List It),k≤n∧iv= .int .i64 k∧OwI W w.heap.size v out∧Hid (Zbh out (l.drop k)=ZaT l)∧Below w.heap.size w W∧out.length≤k) (fun _ iv _=>n-(intOf iv).toNat)
 case atStart=>exact⟨0,[],Nat.zero_le _,rfl,OwI.nil _ _,Za rfl,Below.refl _ _,Nat.le_refl _⟩
 case round=>
  obtain⟨k,out,hk,rfl,ho,HD,hB,hol⟩:=hrel;obtain⟨av,cv,hv⟩:=Zl ho;subst hv;by_cases hlt:k<n
  ·have hI:(k:Int)<(n:Int):=by omega
   obtain⟨x,hx⟩:∃x,l[k]? =some x:=⟨_,List.getElem?_eq_getElem (by have:=Hn.out;omega)⟩;obtain⟨b1,off1,e1,c0,c1,c2,c3⟩:=(Hr.out.keep hB).at k x hx;subst e1;have hix:=Zr b1 off1 n c k hlt;have HD2:Hid (Zbh (ZhJ out (Zc8 x)) (l.drop (k+1))=ZaT l):=by show _=_;rw[←HD.out,ZdC l k x hx];rfl
   clear hx HD;obtain⟨xk,xa,xt,xd⟩:=x;dsimp only at c0 c1 c2 c3;have Ho0:=Za ho;have hbs0:=hB.size;clear ho;obtain⟨m,hm⟩:∃m,m=out.length:=⟨_,rfl⟩;rw[←hm]at Ho0 hol⊢;have Hm:=Za hm;clear hm;by_cases h1:xk=1
   ·subst h1;have HD2:Hid (Zbh (ZhJ out ⟨3,0,xt,0⟩) (l.drop (k+1))=ZaT l):=HD2.out;go_wp2_with fail;refine(Zds ⟨3,0,xt,0⟩ av m cv out _ ((OwI.keep Ho0.out ((Below.refl _ _).alloc (Nat.le_refl _) _)).rd) Hm.out (by omega)).mono ?_;rintro e w2 ⟨rfl,hb2⟩;have Ho:=Za (OwI.keep (OwI.keep Ho0.out ((Below.refl _ _).alloc (Nat.le_refl _) (.cells #[.int .u8 3,.int .i64 0,.string xt,.int .i64 0] 24))) hb2);have hbk:Blk w2 wr.heap.size 24 #[.int .u8 3,.int .i64 0,.string xt,.int .i64 0]:=(Blk.new wr 24 _).keep hb2;have x0:=hbk.cell 0;have x1:=hbk.cell 1;have x2:=hbk.cell 2;have x3:=hbk.cell 3;simp only[List.getElem?_toArray,List.getElem?_cons_zero,List.getElem?_cons_succ]at x0 x1 x2 x3;clear hbk;have hB0:=hB;clear hB;have hB:=Zb (hB0.alloc hB0.size _) hb2;clear hb2 hB0 Ho0 c0 c1 c2 c3 hix;rcases Bool.eq_false_or_eq_true (out.any fun y=>eqI (⟨3,0,xt,0⟩:It) y)with hq|hq
    ·have HD3:Hid (Zbh out (l.drop (k+1))=ZaT l):=by show _=_;rw[←HD2.out,ZdD hq]
     clear HD2;rw[hq];clear hq;go_wp2;go_roundw
     case rel=>exact⟨k+1,out,by omega,by simp,Ho.out,HD3,hB,by have:=Hm.out;omega⟩
     case measure=>simp[intOf];omega
    ·have HD3:Hid (Zbh (out++[(⟨3,0,xt,0⟩:It)]) (l.drop (k+1))=ZaT l):=by show _=_;rw[←HD2.out,Zfa hq]
     clear HD2;rw[hq];clear hq;have hka:=(Below.refl w2.heap.size w2).alloc (Nat.le_refl _) (.cells (itC (⟨3,0,xt,0⟩:It)).toArray 24);have HO2:=Za (ZL Ho.out hka);have Hrd:=Za (RdI.new w2 24 [(⟨3,0,xt,0⟩:It)]);have hbs:=hB.size;clear hka;go_wp2_with (at_builtin;refine Zk rfl _ _ 28 rfl i0 _ 40 1 Tryz.underlying28 Hi.out.1 Hi.out.2.1 Hi.out.2.2.1 Hi.out.2.2.2 rfl (by decide) rfl rfl (Zv [(⟨3,0,xt,0⟩:It)]) HO2.out Hrd.out (m:=1) rfl ?e2 ?e3 ?e4 ?_)
     case e2=>have:=Hm.out;omega
     case e3=>have:=Hm.out;omega
     case e4=>simp;omega
     intro v3 W3 own3 hg3 hv3;have own4:OwI W3 w.heap.size v3 (out++[(⟨3,0,xt,0⟩:It)]):=by unfold OwI;rw[Zj,List.length_append,List.length_singleton];exact own3
     have hB3:Below w.heap.size w W3:=(hB.alloc hB.size _).grown hg3 (by simp;omega) fun b hb=>(Z5 Ho.out b hb).1;have Hown4:=Za own4;clear own3 hg3 hv3 own4 HO2 Hrd hB;go_wp2;go_roundw
     case rel=>exact⟨k+1,out++[(⟨3,0,xt,0⟩:It)],by omega,by simp,Hown4.out,HD3,hB3,by have:=Hm.out;simp;omega⟩
     case measure=>simp[intOf];omega
   ·have h1f:decide ((xk:Int)=1)=false:=by simp;omega
    have hpl:Zc8 ⟨xk,xa,xt,xd⟩=⟨xk,xa,xt,xd⟩:=if_neg h1;rw[hpl]at HD2;have h1g:((xk:Int)==1)=false:=by simpa using(show ¬(xk:Int)=1 by omega)
    have h1h:¬(xk:Int)=1:=by omega
    clear hpl h1;go_wp2_with fail;refine(Zds ⟨xk,xa,xt,xd⟩ av m cv out _ ((OwI.keep Ho0.out ((Below.refl _ _).alloc (Nat.le_refl _) _)).rd) Hm.out (by omega)).mono ?_;rintro e w2 ⟨rfl,hb2⟩;have Ho:=Za (OwI.keep (OwI.keep Ho0.out ((Below.refl _ _).alloc (Nat.le_refl _) (.cells #[.int .u8 xk,.int .i64 xa,.string xt,.int .i64 xd] 24))) hb2);have hbk:Blk w2 wr.heap.size 24 #[.int .u8 xk,.int .i64 xa,.string xt,.int .i64 xd]:=(Blk.new wr 24 _).keep hb2;have x0:=hbk.cell 0;have x1:=hbk.cell 1;have x2:=hbk.cell 2;have x3:=hbk.cell 3;simp only[List.getElem?_toArray,List.getElem?_cons_zero,List.getElem?_cons_succ]at x0 x1 x2 x3;clear hbk;have hB0:=hB;clear hB;have hB:=Zb (hB0.alloc hB0.size _) hb2;clear hb2 hB0 Ho0 c0 c1 c2 c3 hix;rcases Bool.eq_false_or_eq_true (out.any fun y=>eqI (⟨xk,xa,xt,xd⟩:It) y)with hq|hq
    ·have HD3:Hid (Zbh out (l.drop (k+1))=ZaT l):=by show _=_;rw[←HD2.out,ZdD hq]
     clear HD2;rw[hq];clear hq;go_wp2;go_roundw
     case rel=>exact⟨k+1,out,by omega,by simp,Ho.out,HD3,hB,by have:=Hm.out;omega⟩
     case measure=>simp[intOf];omega
    ·have HD3:Hid (Zbh (out++[(⟨xk,xa,xt,xd⟩:It)]) (l.drop (k+1))=ZaT l):=by show _=_;rw[←HD2.out,Zfa hq]
     clear HD2;rw[hq];clear hq;have hka:=(Below.refl w2.heap.size w2).alloc (Nat.le_refl _) (.cells (itC (⟨xk,xa,xt,xd⟩:It)).toArray 24);have HO2:=Za (ZL Ho.out hka);have Hrd:=Za (RdI.new w2 24 [(⟨xk,xa,xt,xd⟩:It)]);have hbs:=hB.size;clear hka;go_wp2_with (at_builtin;refine Zk rfl _ _ 28 rfl i0 _ 40 1 Tryz.underlying28 Hi.out.1 Hi.out.2.1 Hi.out.2.2.1 Hi.out.2.2.2 rfl (by decide) rfl rfl (Zv [(⟨xk,xa,xt,xd⟩:It)]) HO2.out Hrd.out (m:=1) rfl ?e2 ?e3 ?e4 ?_)
     case e2=>have:=Hm.out;omega
     case e3=>have:=Hm.out;omega
     case e4=>simp;omega
     intro v3 W3 own3 hg3 hv3;have own4:OwI W3 w.heap.size v3 (out++[(⟨xk,xa,xt,xd⟩:It)]):=by unfold OwI;rw[Zj,List.length_append,List.length_singleton];exact own3
     have hB3:Below w.heap.size w W3:=(hB.alloc hB.size _).grown hg3 (by simp;omega) fun b hb=>(Z5 Ho.out b hb).1;have Hown4:=Za own4;clear own3 hg3 hv3 own4 HO2 Hrd hB;go_wp2;go_roundw
     case rel=>exact⟨k+1,out++[(⟨xk,xa,xt,xd⟩:It)],by omega,by simp,Hown4.out,HD3,hB3,by have:=Hm.out;simp;omega⟩
     case measure=>simp[intOf];omega
  ·have hI:¬(k:Int)<(n:Int):=by omega
   have hx:out=ZaT l:=by rw[←HD.out,List.drop_eq_nil_of_le (by have:=Hn.out;omega)];rfl
   have Hx:=Za hx;have Ho:=Za ho;clear hx HD ho;go_wp2;go_ret;exact⟨_,rfl,by rw[←Hx.out];exact Ho.out,hB⟩
end Go.Proofs.YtnnfhojhbbcbmaaGreatDoor
namespace Go.Proofs.YtnnfhojhbbcbmaaGreatDoor
set_option maxRecDepth 100000
set_option maxHeartbeats 4000000
open Go.RowKit
def ZaQ(l:List It):List It×Int:=(ZaT l,0)
def Za9(l:List It):List It×Int:=(l.reverse,0)
def txL(l:List It):List ByteArray:=l.map txt
def joinV:List Lst→List It×Int
 | [a]=>joinR ⟨#[]⟩ (txL a.l)
 | [a,b]=>if (strV b.l).2=0 then joinR (strV b.l).1 (txL a.l)else([],(strV b.l).2)
 |_=>([],0)
theorem ZdT(b off c:Nat)(la:Lst)(w:World)(hr:Rd w (some ⟨b,off,none⟩) ([la].map Lst.v))(hok:OkA w la)(hL:la.l.length≤1000000):
  Calls Tryz.prog 46 #[.string ⟨#[100,105,115,116,105,110,99,116,45,118,97,108,117,101,115]⟩,.slice (some ⟨b,off,none⟩) 1 c] w fun e w'=>∃v,e= .returned (.tuple #[v,.int .i64 (ZaQ la.l).2,.bool true])∧OwI w' w.heap.size v (ZaQ la.l).1∧Below w.heap.size w w':=by
 show Calls _ _ _ _ fun e w'=>∃v,e= .returned (.tuple #[v,.int .i64 0,.bool true])∧OwI w' w.heap.size v (ZaT la.l)∧Below w.heap.size w w';have hix:=Zp b off 1 c (by decide);obtain⟨b1,off1,e1,h0⟩:=hr.cellAt 0 _ rfl;injection e1 with e1;injection e1 with e1 e2;subst e1 e2;rw[Nat.add_zero]at h0;obtain⟨aa,al,ac⟩:=la;obtain⟨q,hq⟩:∃q,q=al.length:=⟨_,rfl⟩;have h1:w.cell? ⟨b,off,none⟩=some (.slice aa q ac):=by rw[hq];exact h0
 dsimp only at hL⊢;have Hd:=Za (Zhj aa q ac al w hok.1 hq (by rw[hq];exact hL));clear h0 hr hok hL hq;go_enter Tryz.func46,Tryz.ntmps46;go_wp2_with fail;refine Hd.out.mono ?_;rintro e w1 ⟨v,rfl,ho,hb⟩;have Ho:=Za ho;clear ho h1;go_wp2;go_ret3;exact⟨v,rfl,Ho.out,hb⟩
theorem Zeu(b off c:Nat)(la:Lst)(w:World)(hr:Rd w (some ⟨b,off,none⟩) ([la].map Lst.v))(hok:OkA w la)(hL:la.l.length≤1000000):
  Calls Tryz.prog 46 #[.string ⟨#[114,101,118,101,114,115,101]⟩,.slice (some ⟨b,off,none⟩) 1 c] w fun e w'=>∃v,e= .returned (.tuple #[v,.int .i64 (Za9 la.l).2,.bool true])∧OwI w' w.heap.size v (Za9 la.l).1∧Below w.heap.size w w':=by
 show Calls _ _ _ _ fun e w'=>∃v,e= .returned (.tuple #[v,.int .i64 0,.bool true])∧OwI w' w.heap.size v la.l.reverse∧Below w.heap.size w w';have hix:=Zp b off 1 c (by decide);obtain⟨b1,off1,e1,h0⟩:=hr.cellAt 0 _ rfl;injection e1 with e1;injection e1 with e1 e2;subst e1 e2;rw[Nat.add_zero]at h0;obtain⟨aa,al,ac⟩:=la;obtain⟨q,hq⟩:∃q,q=al.length:=⟨_,rfl⟩;have h1:w.cell? ⟨b,off,none⟩=some (.slice aa q ac):=by rw[hq];exact h0
 dsimp only at hL⊢;have Hd:=Za (ZgU aa q ac al w hok.1 hq (by rw[hq];exact hL));have HL:=Za hL;clear h0 hr hok hL hq;go_enter Tryz.func46,Tryz.ntmps46;go_wp2_with fail;refine Hd.out.mono ?_;rintro e w1 ⟨v,rfl,ho,hb⟩;have Hrv:=Za (Zh9 v w.heap.size al w1 ho HL.out);have hlt:=fun b hb=>(Z5 ho b hb).1;have Hlt:=Za hlt;clear ho h1 hlt;go_wp2_with fail;refine Hrv.out.mono ?_;rintro e w2 ⟨rfl,ho2,hg2⟩;have Ho:=Za ho2;have hb2:Below w.heap.size w w2:=hb.grown hg2 hb.size Hlt.out;clear ho2 hg2 hb;go_wp2;go_ret3;exact⟨v,rfl,Ho.out,hb2⟩
theorem ZfZ(b off c:Nat)(la:Lst)(w:World)(he:Env w)(hr:Rd w (some ⟨b,off,none⟩) ([la].map Lst.v))(hok:OkA w la)(hL:la.l.length≤1000000)(hR:∀y∈la.l,R64 y.num)(hs:∀y∈la.l,y.text.size≤100000):
  Calls Tryz.prog 46 #[.string ⟨#[115,116,114,105,110,103,45,106,111,105,110]⟩,.slice (some ⟨b,off,none⟩) 1 c] w fun e w'=>∃v,e= .returned (.tuple #[v,.int .i64 (joinV [la]).2,.bool true])∧OwI w' w.heap.size v (joinV [la]).1∧Below w.heap.size w w':=by
 show Calls _ _ _ _ fun e w'=>∃v,e= .returned (.tuple #[v,.int .i64 (joinR ⟨#[]⟩ (txL la.l)).2,.bool true])∧OwI w' w.heap.size v (joinR ⟨#[]⟩ (txL la.l)).1∧Below w.heap.size w w';obtain⟨i0,hi⟩:=info_parts (show(Tryz.prog.info? 9).map (fun i=>(i.zero,i.size,i.bytes))=some (some (.string ⟨#[]⟩),1,16) by kernel_rfl);have Hi:=Za hi;have hix:=Zp b off 1 c (by decide);obtain⟨b1,off1,e1,h0⟩:=hr.cellAt 0 _ rfl;injection e1 with e1;injection e1 with e1 e2;subst e1 e2;rw[Nat.add_zero]at h0;obtain⟨aa,al,ac⟩:=la;obtain⟨q,hq⟩:∃q,q=al.length:=⟨_,rfl⟩;have h1:w.cell? ⟨b,off,none⟩=some (.slice aa q ac):=by rw[hq];exact h0
 dsimp only at hL hR hs⊢;have hqL:q≤1000000:=by rw[hq];exact hL
 have Hq:=Za hq;have Ha:=Za hok;have He:=Za he;have HR:=Za hR;have Hs:=Za hs;have hB2:=Below.refl w.heap.size w;clear h0 hr hok hL hq he hR hs hi;go_enter Tryz.func46,Tryz.ntmps46;go_wp2_with fail;go_loopw[13,88] (fun lv iv W=>∃k:Nat,k≤q∧iv= .int .i64 k∧Hid (W.ownsRow w.heap.size 9 1 lv k ((txL (al.take k)).map Value.string))∧Below w.heap.size w W) (fun _ iv _=>q-(intOf iv).toNat)
 case atStart=>exact⟨0,Nat.zero_le _,rfl,Za (Zb8 _ _ _ _),hB2⟩
 case round=>
  clear hB2;obtain⟨k,hk,rfl,Ho,hB⟩:=hrel;by_cases hlt:k<q
  ·have hI:(k:Int)<(q:Int):=by omega
   obtain⟨x,hx⟩:∃x,al[k]? =some x:=⟨_,List.getElem?_eq_getElem (by have:=Hq.out;omega)⟩;obtain⟨b1,off1,e1,c0,c1,c2,c3⟩:=(Ha.out.1.keep hB).at k x hx;dsimp only at e1;subst e1;have hix2:=Zr b1 off1 q ac k hlt;have HxR:=Za (HR.out x (List.mem_of_getElem? hx));have Htk:Hid (txL (al.take (k+1))=txL (al.take k)++[txt x]):=by show _=_;rw[List.take_add_one,hx];simp[txL]
   clear hx;obtain⟨xk,xa,xt,xd⟩:=x;dsimp only at c0 c1 c2 c3;obtain⟨lav,lcv,hv⟩:=Zl Ho.out;subst hv;have hB3:=hB.alloc hB.size (.cells #[.int .u8 xk,.int .i64 xa,.string xt,.int .i64 xd] 24);have Ho3:=Za (ZL Ho.out ((Below.refl _ _).alloc (Nat.le_refl _) (.cells #[.int .u8 xk,.int .i64 xa,.string xt,.int .i64 xd] 24)));go_wp2_with fail;refine(ZfE xk xa xd xt _ (He.out.keep hB3) HxR.out).mono ?_;rintro e w4 ⟨rfl,hb4⟩;have hB4:=Zb hB3 hb4;have Ho4:=Za (ZL Ho3.out hb4);clear hb4 hB hB3 c0 c1 c2 c3 hix2 Ho Ho3;generalize txt ⟨xk,xa,xt,xd⟩=sx at*;have hrd:=Rd.new w4 9 [.string sx];have hk6:=(Below.refl w4.heap.size w4).alloc (Nat.le_refl _) (.cells #[.string sx] 9);have own6:=ZL Ho4.out hk6;have be6:=Zb hB4 hk6;have Hrd:=Za hrd;have Own6:=Za own6;clear hrd hk6 own6 Ho4 hB4;go_wp2_with (at_builtin;refine Zk rfl _ _ 29 rfl i0 _ 16 1 Tryz.underlying29 Hi.out.1 Hi.out.2.1 Hi.out.2.2.1 Hi.out.2.2.2 rfl (by decide) rfl rfl ?e1 Own6.out Hrd.out (m:=1) rfl ?e2 ?e3 ?e4 ?_)
   case e1=>intro u hu;simp at hu;subst hu;rfl
   case e2=>omega
   case e3=>omega
   case e4=>exact be6.size
   intro v3 W3 own3 hg3 hv3;have own4:W3.ownsRow w.heap.size 9 1 v3 (k+1) ((txL (al.take (k+1))).map Value.string):=by rw[Htk.out,List.map_append];exact own3
   have hB3:Below w.heap.size w W3:=be6.grown hg3 be6.size fun b hb=>(Z5 Own6.out b hb).1;have Hown4:=Za own4;clear own3 hg3 hv3 own4 Own6 Hrd be6;go_wp2;go_roundw
   case rel=>exact⟨k+1,by omega,by simp,Za Hown4.out,hB3⟩
   case measure=>simp[intOf];omega
  ·have hI:¬(k:Int)<(q:Int):=by omega
   have hkq:k=q:=by omega
   subst hkq;have htk:al.take k=al:=List.take_of_length_le (by have:=Hq.out;omega);obtain⟨lav,lcv,hv⟩:=Zl Ho.out;subst hv;have hfin:=Ho.out;rw[htk]at hfin
   have hkc:k≤lcv:=by
    rcases hfin.2 with⟨e1,e2⟩|⟨g,cap,cur,e1,_,_,e3,_⟩
    ·omega
    ·injection e1 with _ _ e1;omega
   have hpp:(lav=none∧lcv=0)∨∃b off,lav=some ⟨b,off,none⟩∧b<wr.heap.size:=by
    rcases hfin.2 with⟨e1,e2⟩|⟨g,cap,cur,e1,_,e4,_⟩
    ·injection e1 with e1 _ e3;exact .inl ⟨e1,e3⟩
    ·injection e1 with e1;exact .inr ⟨g,0,e1,ZD e4⟩
   have Hj:=Za (Z2 ⟨#[]⟩ lav k lcv (txL al) wr (ZcQ hfin) (by show _=(List.map txt al).length;rw[List.length_map];exact Hq.out) hkc (by omega) (fun x hx=>by obtain⟨y,hy,rfl⟩:=List.mem_map.1 hx;exact Nat.le_trans (ZcX y (HR.out y hy) (Hs.out y hy)) (by decide)) (by decide) hpp);have hbs:=hB.size;clear htk hfin hkc hpp Ho hk;obtain⟨jv,hjv⟩:∃x,x=joinR ⟨#[]⟩ (txL al):=⟨_,rfl⟩;rw[←hjv]at Hj;have Hjv:=Za hjv;clear hjv;obtain⟨j1,j2⟩:=jv;dsimp only at Hj;go_wp2_with fail;refine Hj.out.mono ?_;rintro e w5 ⟨v,rfl,ho,hb5⟩;have Ho5:=Za (ho.mono hbs);have hB5:=Zb hB hb5;clear ho hb5 hB hbs;go_wp2;go_ret3;exact⟨v,by rw[←Hjv.out];rfl,by rw[←Hjv.out];exact Ho5.out,hB5⟩
theorem Zf0(b off c:Nat)(la lb:Lst)(w:World)(he:Env w)(hr:Rd w (some ⟨b,off,none⟩) ([la,lb].map Lst.v))(hok:OkA w la)(hokb:OkA w lb)(hL:la.l.length≤1000000)(hR:∀y∈la.l,R64 y.num)(hs:∀y∈la.l,y.text.size≤100000)(hRb:∀y∈lb.l,R64 y.num)(hsb:∀y∈lb.l,y.text.size≤100000):
  Calls Tryz.prog 46 #[.string ⟨#[115,116,114,105,110,103,45,106,111,105,110]⟩,.slice (some ⟨b,off,none⟩) 2 c] w fun e w'=>∃v,e= .returned (.tuple #[v,.int .i64 (joinV [la,lb]).2,.bool true])∧OwI w' w.heap.size v (joinV [la,lb]).1∧Below w.heap.size w w':=by
 obtain⟨i0,hi⟩:=info_parts (show(Tryz.prog.info? 9).map (fun i=>(i.zero,i.size,i.bytes))=some (some (.string ⟨#[]⟩),1,16) by kernel_rfl);have Hi:=Za hi;have hix:=Zp b off 2 c (by decide);have hixb:=ZP b off 2 c 1 (by decide);obtain⟨b1,off1,e1,h0⟩:=hr.cellAt 0 _ rfl;injection e1 with e1;injection e1 with e1 e2;subst e1 e2;rw[Nat.add_zero]at h0;obtain⟨b1,off1,e1,h0b⟩:=hr.cellAt 1 _ rfl;injection e1 with e1;injection e1 with e1 e2;subst e1 e2;obtain⟨aa,al,ac⟩:=la;obtain⟨ba,bl,bc⟩:=lb;obtain⟨q,hq⟩:∃q,q=al.length:=⟨_,rfl⟩;have h1:w.cell? ⟨b,off,none⟩=some (.slice aa q ac):=by rw[hq];exact h0
 obtain⟨qb,hqb⟩:∃q,q=bl.length:=⟨_,rfl⟩;have h1b:w.cell? ⟨b,off+1,none⟩=some (.slice ba qb bc):=by rw[hqb];exact h0b
 dsimp only at hL hR hs hRb hsb⊢;have hqL:q≤1000000:=by rw[hq];exact hL
 have Hq:=Za hq;have Hst:=Za (Zbw ba qb bc bl w he hokb hRb hqb);have Hss:=Za (ZaM bl hRb hsb);have Ha:=Za hok;have He:=Za he;have HR:=Za hR;have Hs:=Za hs;have HJ:Hid (joinV [⟨aa,al,ac⟩,⟨ba,bl,bc⟩]=if (strV bl).2=0 then joinR (strV bl).1 (txL al)else([],(strV bl).2)):=by show _=_;rfl
 rw[HJ.out];clear h0 h0b hr hok hokb hL hq hqb he hR hs hRb hsb hi HJ;simp only[Int.natCast_one]at hixb;generalize strV bl=sv at*;obtain⟨s1,s2⟩:=sv;dsimp only at Hst Hss⊢;by_cases hz:s2=0
 ·subst hz;rw[if_pos rfl];go_enter Tryz.func46,Tryz.ntmps46;go_wp2_with fail;refine Hst.out.mono ?_;rintro e w1 ⟨rfl,hB2⟩;clear h1 h1b;go_wp2_with fail;go_loopw[13,88] (fun lv iv W=>∃k:Nat,k≤q∧iv= .int .i64 k∧Hid (W.ownsRow w.heap.size 9 1 lv k ((txL (al.take k)).map Value.string))∧Below w.heap.size w W) (fun _ iv _=>q-(intOf iv).toNat)
  case atStart=>exact⟨0,Nat.zero_le _,rfl,Za (Zb8 _ _ _ _),hB2⟩
  case round=>
   clear hB2;obtain⟨k,hk,rfl,Ho,hB⟩:=hrel;by_cases hlt:k<q
   ·have hI:(k:Int)<(q:Int):=by omega
    obtain⟨x,hx⟩:∃x,al[k]? =some x:=⟨_,List.getElem?_eq_getElem (by have:=Hq.out;omega)⟩;obtain⟨b1,off1,e1,c0,c1,c2,c3⟩:=(Ha.out.1.keep hB).at k x hx;dsimp only at e1;subst e1;have hix2:=Zr b1 off1 q ac k hlt;have HxR:=Za (HR.out x (List.mem_of_getElem? hx));have Htk:Hid (txL (al.take (k+1))=txL (al.take k)++[txt x]):=by show _=_;rw[List.take_add_one,hx];simp[txL]
    clear hx;obtain⟨xk,xa,xt,xd⟩:=x;dsimp only at c0 c1 c2 c3;obtain⟨lav,lcv,hv⟩:=Zl Ho.out;subst hv;have hB3:=hB.alloc hB.size (.cells #[.int .u8 xk,.int .i64 xa,.string xt,.int .i64 xd] 24);have Ho3:=Za (ZL Ho.out ((Below.refl _ _).alloc (Nat.le_refl _) (.cells #[.int .u8 xk,.int .i64 xa,.string xt,.int .i64 xd] 24)));go_wp2_with fail;refine(ZfE xk xa xd xt _ (He.out.keep hB3) HxR.out).mono ?_;rintro e w4 ⟨rfl,hb4⟩;have hB4:=Zb hB3 hb4;have Ho4:=Za (ZL Ho3.out hb4);clear hb4 hB hB3 c0 c1 c2 c3 hix2 Ho Ho3;generalize txt ⟨xk,xa,xt,xd⟩=sx at*;have hrd:=Rd.new w4 9 [.string sx];have hk6:=(Below.refl w4.heap.size w4).alloc (Nat.le_refl _) (.cells #[.string sx] 9);have own6:=ZL Ho4.out hk6;have be6:=Zb hB4 hk6;have Hrd:=Za hrd;have Own6:=Za own6;clear hrd hk6 own6 Ho4 hB4;go_wp2_with (at_builtin;refine Zk rfl _ _ 29 rfl i0 _ 16 1 Tryz.underlying29 Hi.out.1 Hi.out.2.1 Hi.out.2.2.1 Hi.out.2.2.2 rfl (by decide) rfl rfl ?e1 Own6.out Hrd.out (m:=1) rfl ?e2 ?e3 ?e4 ?_)
    case e1=>intro u hu;simp at hu;subst hu;rfl
    case e2=>omega
    case e3=>omega
    case e4=>exact be6.size
    intro v3 W3 own3 hg3 hv3;have own4:W3.ownsRow w.heap.size 9 1 v3 (k+1) ((txL (al.take (k+1))).map Value.string):=by rw[Htk.out,List.map_append];exact own3
    have hB3:Below w.heap.size w W3:=be6.grown hg3 be6.size fun b hb=>(Z5 Own6.out b hb).1;have Hown4:=Za own4;clear own3 hg3 hv3 own4 Own6 Hrd be6;go_wp2;go_roundw
    case rel=>exact⟨k+1,by omega,by simp,Za Hown4.out,hB3⟩
    case measure=>simp[intOf];omega
   ·have hI:¬(k:Int)<(q:Int):=by omega
    have hkq:k=q:=by omega
    subst hkq;have htk:al.take k=al:=List.take_of_length_le (by have:=Hq.out;omega);obtain⟨lav,lcv,hv⟩:=Zl Ho.out;subst hv;have hfin:=Ho.out;rw[htk]at hfin
    have hkc:k≤lcv:=by
     rcases hfin.2 with⟨e1,e2⟩|⟨g,cap,cur,e1,_,_,e3,_⟩
     ·omega
     ·injection e1 with _ _ e1;omega
    have hpp:(lav=none∧lcv=0)∨∃b off,lav=some ⟨b,off,none⟩∧b<wr.heap.size:=by
     rcases hfin.2 with⟨e1,e2⟩|⟨g,cap,cur,e1,_,e4,_⟩
     ·injection e1 with e1 _ e3;exact .inl ⟨e1,e3⟩
     ·injection e1 with e1;exact .inr ⟨g,0,e1,ZD e4⟩
    have Hj:=Za (Z2 s1 lav k lcv (txL al) wr (ZcQ hfin) (by show _=(List.map txt al).length;rw[List.length_map];exact Hq.out) hkc (by omega) (fun x hx=>by obtain⟨y,hy,rfl⟩:=List.mem_map.1 hx;exact Nat.le_trans (ZcX y (HR.out y hy) (Hs.out y hy)) (by decide)) (Nat.le_trans Hss.out (by decide)) hpp);have hbs:=hB.size;clear htk hfin hkc hpp Ho hk;obtain⟨jv,hjv⟩:∃x,x=joinR s1 (txL al):=⟨_,rfl⟩;rw[←hjv]at Hj;have Hjv:=Za hjv;clear hjv;obtain⟨j1,j2⟩:=jv;dsimp only at Hj;go_wp2_with fail;refine Hj.out.mono ?_;rintro e w5 ⟨v,rfl,ho,hb5⟩;have Ho5:=Za (ho.mono hbs);have hB5:=Zb hB hb5;clear ho hb5 hB hbs;go_wp2;go_ret3;exact⟨v,by rw[←Hjv.out];rfl,by rw[←Hjv.out];exact Ho5.out,hB5⟩
 ·have hz1:(s2 != 0)=true:=by simpa using hz
  rw[if_neg hz];clear hz;go_enter Tryz.func46,Tryz.ntmps46;go_wp2_with fail;refine Hst.out.mono ?_;rintro e w1 ⟨rfl,hb1⟩;clear h1 h1b;go_wp2;go_ret3;exact⟨.slice none 0 0,rfl,OwI.nil _ _,hb1⟩
end Go.Proofs.YtnnfhojhbbcbmaaGreatDoor
namespace Go.Proofs.YtnnfhojhbbcbmaaGreatDoor
open Go.RowKit
theorem ZeF(p:Option Addr)(n c:Nat)(ls:List Lst)(m:Int)(w:World)(he:Env w)(hm:w.cell? ⟨1,0,none⟩=some (.int .i64 m))(hc:Counts w)(hr:Rd w p (ls.map Lst.v))(hok:OkAs w ls)
  (hL:∀x∈ls,x.l.length≤1000000) (hn:n=ls.length) (hnm:n≤1000000):
  Calls Tryz.prog 14 #[.string ⟨#[100,105,115,116,105,110,99,116,45,118,97,108,117,101,115]⟩,.slice p n c] w (Res w (ZV [100,105,115,116,105,110,99,116,45,118,97,108,117,101,115] ZaQ ls).1 (ZV [100,105,115,116,105,110,99,116,45,118,97,108,117,101,115] ZaQ ls).2):=
 Za1 ⟨#[100,105,115,116,105,110,99,116,45,118,97,108,117,101,115]⟩ [100,105,115,116,105,110,99,116,45,118,97,108,117,101,115] ZaQ (fun n m W h1 h2=>ZI _ n m W h1 h2 (by decide)) (fun n h=>by unfold knV at h;simp[wK0,wK1]at h;omega) (fun x=>x.l.length≤1000000) (fun b off c la W _ h2 h3 h4=>ZdT b off c la W h2 h3 h4) p n c ls m w he hm hc hr hok hL hn hnm
theorem Zf1(p:Option Addr)(n c:Nat)(ls:List Lst)(m:Int)(w:World)(he:Env w)(hm:w.cell? ⟨1,0,none⟩=some (.int .i64 m))(hc:Counts w)(hr:Rd w p (ls.map Lst.v))(hok:OkAs w ls)
  (hL:∀x∈ls,x.l.length≤1000000) (hn:n=ls.length) (hnm:n≤1000000):
  Calls Tryz.prog 14 #[.string ⟨#[114,101,118,101,114,115,101]⟩,.slice p n c] w (Res w (ZV [114,101,118,101,114,115,101] Za9 ls).1 (ZV [114,101,118,101,114,115,101] Za9 ls).2):=
 Za1 ⟨#[114,101,118,101,114,115,101]⟩ [114,101,118,101,114,115,101] Za9 (fun n m W h1 h2=>ZI _ n m W h1 h2 (by decide)) (fun n h=>by unfold knV at h;simp[wK0,wK1]at h;omega) (fun x=>x.l.length≤1000000) (fun b off c la W _ h2 h3 h4=>Zeu b off c la W h2 h3 h4) p n c ls m w he hm hc hr hok hL hn hnm
def Zcz(ls:List Lst):List It×Int:=if rightL ls=true then(if knV [115,116,114,105,110,103,45,106,111,105,110] ls.length=true then joinV ls else([],241))else([],2)
theorem ZoU {α:Type}{l:List α}(h:l.length=1∨l.length=2):(∃a,l=[a])∨∃a b,l=[a,b]:=by
 match l,h with
 | [a],_=>exact .inl ⟨a,rfl⟩
 | [a,b],_=>exact .inr ⟨a,b,rfl⟩
set_option maxRecDepth 100000 in
set_option maxHeartbeats 4000000 in
theorem ZgV(p:Option Addr)(n c:Nat)(ls:List Lst)(m:Int)(w:World)(he:Env w)(hm:w.cell? ⟨1,0,none⟩=some (.int .i64 m))(hc:Counts w)(hr:Rd w p (ls.map Lst.v))(hok:OkAs w ls)
  (hR:∀x∈ls,∀y∈x.l,R64 y.num) (hsz:∀x∈ls,∀y∈x.l,y.text.size≤100000) (hL:∀x∈ls,x.l.length≤1000000) (hn:n=ls.length) (hnm:n≤1000000):
  Calls Tryz.prog 14 #[.string ⟨#[115,116,114,105,110,103,45,106,111,105,110]⟩,.slice p n c] w (Res w (Zcz ls).1 (Zcz ls).2):=by
 obtain⟨i0,hi⟩:=info_parts (show(Tryz.prog.info? 9).map (fun i=>(i.zero,i.size,i.bytes))=some (some (.string ⟨#[]⟩),1,16) by kernel_rfl);have Hi:=Za hi;have He:=Za he;have Hm:=Za hm;have Hc:=Za hc;have Hr:=Za hr;have Hok:=Za hok;have HR:=Za hR;have Hsz:=Za hsz;have Hn:=Za hn;have HL:=Za hL;have Hnm:=Za hnm;have Hrt:=Za (Z7 p n c ls w he.t8 hn (by omega) hr hok);have Hkn:Hid (∀W,Below w.heap.size w W→Calls Tryz.prog 45 #[.string ⟨#[115,116,114,105,110,103,45,106,111,105,110]⟩,.int .i64 n] W fun e w'=>e= .returned (.bool (knV [115,116,114,105,110,103,45,106,111,105,110] n))∧Below W.heap.size W w'):=fun W hW=>ZI ⟨#[115,116,114,105,110,103,45,106,111,105,110]⟩ n m W (Zc hW hm) (hc.keep hW) (by decide);have hnl:n<9223372036854775807:=by omega
 have Hall:Hid (Zcz ls=if rightL ls=true then(if knV [115,116,114,105,110,103,45,106,111,105,110] n=true then joinV ls else([],241))else([],2)):=by show _=_;unfold Zcz;rw[hn]
 clear he hm hc hr hok hR hsz hL hn hnm hi;rcases Bool.eq_false_or_eq_true (rightL ls)with hq|hq;rotate_left
 ·rw[hq]at Hrt;have HA:Hid (Zcz ls=([],2)):=by show _=_;rw[Hall.out,hq];rfl
  clear hq Hall;go_enter Tryz.func14,Tryz.ntmps14;go_wp2_with fail;refine Hrt.out.mono ?_;rintro e w1 ⟨rfl,hb1⟩;go_wp2;go_ret2;exact⟨.slice none 0 0,by rw[HA.out];rfl,by rw[HA.out];exact OwI.nil _ _,hb1⟩
 rw[hq]at Hrt;rcases Bool.eq_false_or_eq_true (knV [115,116,114,105,110,103,45,106,111,105,110] n)with hk|hk;rotate_left
 ·rw[hk]at Hkn;have HA:Hid (Zcz ls=([],241)):=by show _=_;rw[Hall.out,hq,hk];rfl
  clear hq hk Hall;go_enter Tryz.func14,Tryz.ntmps14;go_wp2_with fail;refine Hrt.out.mono ?_;rintro e w1 ⟨rfl,hb1⟩;go_wp2_with fail;refine(Hkn.out w1 hb1).mono ?_;rintro e w2 ⟨rfl,hb2⟩;have hB2:=Zb hb1 hb2;go_wp2;go_ret2;exact⟨.slice none 0 0,by rw[HA.out];rfl,by rw[HA.out];exact OwI.nil _ _,hB2⟩
 have HE:Hid (Zcz ls=joinV ls):=by show _=_;rw[Hall.out,hq,hk,if_pos rfl,if_pos rfl]
 rw[hk]at Hkn;have hn23:ls.length=1∨ls.length=2:=by rw[←Hn.out];unfold knV at hk;simp[wK0,wK1,wK2,wK3]at hk;omega
 clear hq hk Hall;rcases ZoU hn23 with⟨la,rfl⟩|⟨la,lb,rfl⟩
 ·have hn2:n=1:=Hn.out;subst hn2;obtain⟨b0,off0,rfl,hcz⟩:=Hr.out.cellAt 0 la.v rfl;clear hcz hn23;go_enter Tryz.func14,Tryz.ntmps14;go_wp2_with fail;refine Hrt.out.mono ?_;rintro e w1 ⟨rfl,hb1⟩;go_wp2_with fail;refine(Hkn.out w1 hb1).mono ?_;rintro e w2 ⟨rfl,hb2⟩;have hB2:=Zb hb1 hb2;clear hb1 hb2 Hkn Hrt;go_wp2_with fail;refine(ZfZ b0 off0 c la _ (He.out.keep hB2) (Hr.out.keep hB2) ⟨(Hok.out la (by simp)).1.keep hB2,(Hok.out la (by simp)).2⟩ (HL.out la (by simp)) (HR.out la (by simp)) (Hsz.out la (by simp))).mono ?_;rintro e w3 ⟨v,rfl,ho,hb3⟩;have Ho:=Za (ho.mono hB2.size);have hB3:=Zb hB2 hb3;clear ho hb3;generalize joinV _=sv at*;obtain⟨s1,s2⟩:=sv;go_wp2;go_ret2;exact⟨v,by rw[HE.out];rfl,by rw[HE.out];exact Ho.out,hB3⟩
 ·have hn2:n=2:=Hn.out;subst hn2;obtain⟨b0,off0,rfl,hcz⟩:=Hr.out.cellAt 0 la.v rfl;clear hcz hn23;go_enter Tryz.func14,Tryz.ntmps14;go_wp2_with fail;refine Hrt.out.mono ?_;rintro e w1 ⟨rfl,hb1⟩;go_wp2_with fail;refine(Hkn.out w1 hb1).mono ?_;rintro e w2 ⟨rfl,hb2⟩;have hB2:=Zb hb1 hb2;clear hb1 hb2 Hkn Hrt;go_wp2_with fail;refine(Zf0 b0 off0 c la lb _ (He.out.keep hB2) (Hr.out.keep hB2) ⟨(Hok.out la (by simp)).1.keep hB2,(Hok.out la (by simp)).2⟩ ⟨(Hok.out lb (by simp)).1.keep hB2,(Hok.out lb (by simp)).2⟩ (HL.out la (by simp)) (HR.out la (by simp)) (Hsz.out la (by simp)) (HR.out lb (by simp)) (Hsz.out lb (by simp))).mono ?_;rintro e w3 ⟨v,rfl,ho,hb3⟩;have Ho:=Za (ho.mono hB2.size);have hB3:=Zb hB2 hb3;clear ho hb3;generalize joinV _=sv at*;obtain⟨s1,s2⟩:=sv;go_wp2;go_ret2;exact⟨v,by rw[HE.out];rfl,by rw[HE.out];exact Ho.out,hB3⟩
end Go.Proofs.YtnnfhojhbbcbmaaGreatDoor
