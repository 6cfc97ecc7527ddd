/- Both Calls answer the same, at any name. ValueCalls: the rows that are lent, one behind the other. -/
import Derived.Test.YtnnfhojhbbcbmaaGreatDoorC36
import Derived.Test.YtnnfhojhbbcbmaaGreatDoorC37
import Derived.Test.YtnnfhojhbbcbmaaGreatDoorC19
import Derived.Test.YtnnfhojhbbcbmaaGreatDoorC20
import Derived.Test.YtnnfhojhbbcbmaaGreatDoorC39
import Derived.Test.YtnnfhojhbbcbmaaGreatDoorC42
import Derived.Test.YtnnfhojhbbcbmaaGreatDoorC46
import Derived.Test.YtnnfhojhbbcbmaaGreatDoorC29
namespace Go.Proofs.YtnnfhojhbbcbmaaGreatDoor
open Go.RowKit
def atL(L:List (List It)):List Lst:=L.map fun l=>⟨none,l,0⟩
def conL(ls:List Lst):List (List It):=ls.map fun x=>x.l
theorem ZfN(ls:List Lst):rightL (atL (conL ls))=rightL ls:=by unfold rightL atL conL;simp[List.all_map,Function.comp_def]
theorem Zpd(ls:List Lst):(atL (conL ls)).length=ls.length:=by simp[atL,conL]
theorem Zbo(f:List It→List It×Int)(ls:List Lst):Zay f (atL (conL ls))=Zay f ls:=by
 match ls with
 | []=>rfl
 | [a]=>rfl
 |_::_::_=>rfl
theorem Zpe(ls:List Lst):subV (atL (conL ls))=subV ls:=by
 match ls with
 | []=>rfl
 | [a]=>rfl
 | [a,b]=>rfl
 | [a,b,c]=>rfl
 |_::_::_::_::_=>rfl
theorem Zn5(ls:List Lst):joinV (atL (conL ls))=joinV ls:=by
 match ls with
 | []=>rfl
 | [a]=>rfl
 | [a,b]=>rfl
 |_::_::_::_=>rfl
theorem ZiY:∀ls:List Lst,Zck (atL (conL ls))=Zck ls
 | []=>rfl
 |x::r=>by
  show(if (strV x.l).2=0 then Zck (atL (conL r))else _)=(if (strV x.l).2=0 then Zck r else _);rw[ZiY r]
theorem Zn6(ls:List Lst):txs (atL (conL ls))=txs ls:=by simp[txs,atL,conL]
theorem Zey(f:List ByteArray→List It×Int)(ls:List Lst):fT f (atL (conL ls))=fT f ls:=by unfold fT;rw[ZiY,Zn6]
theorem Zoy {nm:List UInt8}{body:List Lst→List It×Int}(hb:∀ls,body (atL (conL ls))=body ls)(ls:List Lst):cR nm body (atL (conL ls))=cR nm body ls:=by unfold cR;rw[ZfN,Zpd,hb]
theorem Zn7 {op:ByteArray}{l:List UInt8}(h:(op.toList==l)=true):op=⟨l.toArray⟩:=by
 have e:op.toList=l:=by simpa using h
 rw[ByteArray.toList_eq]at e;apply ByteArray.ext;apply Array.toList_inj.1;rw[e]
theorem Zbp(sep:ByteArray)(xs:List ByteArray):(joinR sep xs).1.length≤1:=by
 unfold joinR;split
 ·exact Nat.zero_le _
 ·exact Nat.le_refl _
theorem ZfO(op:Int→Int→Int×Bool)(l:List It):(numR op l).1.length≤1:=by
 unfold numR;split
 ·exact Nat.le_refl _
 ·exact Nat.zero_le _
theorem Zha:∀(l acc:List It),(Zbh acc l).length≤acc.length+l.length
 | [],acc=>Nat.le_refl _
 |x::r,acc=>by
  have h1:=Zha r (ZhJ acc (Zc8 x));have h2:=Zmg acc (Zc8 x);show(Zbh (ZhJ acc (Zc8 x)) r).length≤_;rw[List.length_cons];omega
def ZkA(body:List Lst→List It×Int):Prop:=∀ls:List Lst,(∀x∈ls,x.l.length≤1000)→(body ls).1.length≤1000
theorem Zap {f:List It→List It×Int}(hf:∀l:List It,l.length≤1000→(f l).1.length≤1000):ZkA (Zay f):=by
 intro ls h
 match ls,h with
 | [],_=>exact Nat.zero_le _
 | [a],h=>exact hf a.l (h a (by simp))
 |_::_::_,_=>exact Nat.zero_le _
theorem Zdd {c:Prop} [Decidable c]{x y:List It×Int}(hx:x.1.length≤1000)(hy:y.1.length≤1000):(if c then x else y).1.length≤1000:=by
 split
 ·exact hx
 ·exact hy
theorem ZdI(sep:ByteArray)(xs:List ByteArray):(joinR sep xs).1.length≤1000:=Nat.le_trans (Zbp sep xs) (by decide)
theorem ZmJ:ZkA subV:=by
 intro ls _
 match ls with
 | []=>exact Nat.zero_le _
 | [a]=>exact Nat.zero_le _
 | [a,b]=>exact Zdd (Nat.zero_le _) (Zdd (Nat.zero_le _) (ZdI _ _))
 | [a,b,c]=>exact Zdd (Nat.zero_le _) (Zdd (Nat.zero_le _) (Zdd (Nat.zero_le _) (ZdI _ _)))
 |_::_::_::_::_=>exact Nat.zero_le _
theorem ZlC:ZkA joinV:=by
 intro ls _
 match ls with
 | []=>exact Nat.zero_le _
 | [a]=>exact ZdI _ _
 | [a,b]=>exact Zdd (ZdI _ _) (Nat.zero_le _)
 |_::_::_::_=>exact Nat.zero_le _
theorem ZbD {f:List ByteArray→List It×Int}(hf:∀l,(f l).1.length≤1):ZkA (fT f):=by
 intro ls _;unfold fT;split
 ·exact Nat.le_trans (hf _) (by decide)
 ·exact Nat.zero_le _
theorem Zn8 {nm:List UInt8}{body:List Lst→List It×Int}(hb:ZkA body):ZkA (cR nm body):=by
 intro ls h;unfold cR;split
 ·split
  ·exact hb ls h
  ·exact Nat.zero_le _
 ·exact Nat.zero_le _
theorem ZmK {body:List Lst→List It×Int}(hb:ZkA body)(L:List (List It))(h:∀l∈L,l.length≤1000):(body (atL L)).1.length≤1000:=by refine hb _ fun x hx=>?_;obtain⟨l,hl,rfl⟩:=List.mem_map.1 hx;exact h l hl
structure PreC (w:World) (p:Option Addr) (n:Nat) (ls:List Lst):Prop where
 r:Rd w p (ls.map Lst.v)
 ok:OkAs w ls
 R:∀x∈ls,∀y∈x.l,R64 y.num
 s:∀x∈ls,∀y∈x.l,y.text.size≤100000
 L:∀x∈ls,x.l.length≤1000000
 q:n=ls.length
 m:n≤1000
set_option maxRecDepth 100000 in
set_option maxHeartbeats 4000000 in
theorem ZmL(s:ByteArray)(hno:∀W,Calls Tryz.prog 79 #[.string s] W fun e w'=>e= .returned (.tuple #[.int .i64 0,.int .i64 0,.bool false])∧W=w')(p:Option Addr)(n c:Nat)(ls:List Lst)(w:World)(hr:Rd w p (ls.map Lst.v))(hok:OkAs w ls)(hR:∀x∈ls,∀y∈x.l,R64 y.num)(hsz:∀x∈ls,∀y∈x.l,y.text.size≤100000)(hL:∀x∈ls,x.l.length≤1000000)(hn:n=ls.length)(hnm:n≤1000):
  Calls Tryz.prog 37 #[.string s,.slice p n c] w (Res w [] (if rightL ls=true then 241 else 2)):=by
 have Hr:=Za hr;have Hok:=Za hok;have HR:=Za hR;have Hsz:=Za hsz;have HL:=Za hL;have Hn:=Za hn;obtain⟨JE,hJE⟩:∃x:Int,x=if rightL ls=true then 241 else 2:=⟨_,rfl⟩
 rw[←hJE];have HJE:=Za hJE;have Hno:=Za hno;clear hr hok hR hsz hL hn hJE hno;go_enter Tryz.func37,Tryz.ntmps37;go_wp2_with fail;go_loopw[6] (fun iv W=>∃k:Nat,k≤n∧iv= .int .i64 k∧Hid (∀x∈ls.take k,x.l.all okI=true)∧Below w.heap.size w W) (fun iv _=>n-(intOf iv).toNat)
 case atStart=>exact⟨0,Nat.zero_le _,rfl,Za (by simp),Below.refl _ _⟩
 case round=>
  obtain⟨k,hk,rfl,Hz,hB⟩:=hrel;by_cases hlt:k<n
  ·have hI:(k:Int)<(n:Int):=by omega
   obtain⟨x,hx⟩:∃x,ls[k]? =some x:=⟨_,List.getElem?_eq_getElem (by have:=Hn.out;omega)⟩;obtain⟨b1,off1,e1,hcz⟩:=(Hr.out.keep hB).cellAt k x.v (by simp[hx]);subst e1;have hix:=ZP b1 off1 n c k hlt;have Hx:=Za hx;have Hokx:=Za (Hok.out x (List.mem_of_getElem? hx));have Hmx:=Za (List.mem_of_getElem? hx);clear hx;obtain⟨xa,xl,xc⟩:=x;obtain⟨q,hq⟩:∃q,q=xl.length:=⟨_,rfl⟩;have hcx:wr.cell? ⟨b1,off1+k,none⟩=some (.slice xa q xc):=by rw[hq];exact hcz
   clear hcz;have Hq:=Za hq;clear hq;have hrt:=Za (Zt xa q xc xl wr ⟨Hokx.out.1.keep hB,Hokx.out.2⟩ Hq.out);rcases Bool.eq_false_or_eq_true (xl.all okI)with ha|ha
   ·rw[ha]at hrt
    have Hz2:Hid (∀x∈ls.take (k+1),x.l.all okI=true):=by
     show ∀x∈_,_;intro x hx;rw[List.take_add_one,Hx.out]at hx;rcases List.mem_append.1 hx with hx|hx
     ·exact Hz.out x hx
     ·simp at hx;subst hx;exact ha
    clear ha Hz;go_wp2_with fail;refine hrt.out.mono ?_;rintro e w4 ⟨rfl,hb4⟩;have hB4:=Zb hB hb4;clear hb4 hB hcx hix;go_wp2;go_roundw
    case rel=>exact⟨k+1,by omega,by simp,Hz2,hB4⟩
    case measure=>simp[intOf];omega
   ·rw[ha]at hrt;have HA:Hid (JE=2):=by show _=_;rw[HJE.out,if_neg];intro h;unfold rightL at h;rw[List.all_eq_true]at h;have:=h _ Hmx.out;rw[ha]at this;cases this
    clear ha Hz;go_wp2_with fail;refine hrt.out.mono ?_;rintro e w4 ⟨rfl,hb4⟩;have hB4:=Zb hB hb4;clear hb4 hB hcx hix;go_wp2;go_ret2;exact⟨.slice none 0 0,by rw[HA.out];rfl,OwI.nil _ _,hB4⟩
  ·have hI:¬(k:Int)<(n:Int):=by omega
   have hkn:k=n:=by omega
   subst hkn;have htk:ls.take k=ls:=List.take_of_length_le (by have:=Hn.out;omega);have hri:∀x∈ls,x.l.all okI=true:=by have:=Hz.out;rw[htk]at this;exact this
   have hrl:rightL ls=true:=by unfold rightL;rw[List.all_eq_true];exact hri
   have HA:Hid (JE=241):=by show _=_;rw[HJE.out,if_pos hrl]
   clear htk Hz hri hrl hk;go_wp2_with fail;refine(Hno.out _).mono ?_;rintro e w4 ⟨rfl,rfl⟩;go_wp2;go_ret2;exact⟨.slice none 0 0,by rw[HA.out];rfl,OwI.nil _ _,hB⟩
theorem PreC.mm {w:World}{p:Option Addr}{n:Nat}{ls:List Lst}(h:PreC w p n ls):n≤1000000:=Nat.le_trans h.m (by decide)
def Zoz(name:ByteArray):Prop:=∃V:List (List It)→List It×Int,
  (∀p n c ls m w,Env w→w.cell? ⟨1,0,none⟩=some (.int .i64 m)→Counts w→PreC w p n ls→Calls Tryz.prog 14 #[.string name,.slice p n c] w (Res w (V (conL ls)).1 (V (conL ls)).2))∧
  (∀p n c ls w,PreC w p n ls→Calls Tryz.prog 37 #[.string name,.slice p n c] w (Res w (V (conL ls)).1 (V (conL ls)).2))∧(∀L:List (List It),(∀l∈L,l.length≤1000)→(V L).1.length≤1000)
theorem ZM {name:ByteArray}{lk:List UInt8}(h:(name.toList==lk)=true)(body:List Lst→List It×Int)(hb:∀ls,body (atL (conL ls))=body ls)(hl:ZkA body)
  (hP:∀p n c ls m w,Env w→w.cell? ⟨1,0,none⟩=some (.int .i64 m)→Counts w→PreC w p n ls→Calls Tryz.prog 14 #[.string ⟨lk.toArray⟩,.slice p n c] w (Res w (cR lk body ls).1 (cR lk body ls).2))
  (hQ:∀p n c ls w,PreC w p n ls→Calls Tryz.prog 37 #[.string ⟨lk.toArray⟩,.slice p n c] w (Res w (cR lk body ls).1 (cR lk body ls).2)):Zoz name:=by
 rw[Zn7 h];refine⟨fun L=>cR lk body (atL L),fun p n c ls m w he hm hc h=>?_,fun p n c ls w h=>?_,ZmK (Zn8 hl)⟩
 ·show Calls _ _ _ _ (Res w (cR lk body (atL (conL ls))).1 (cR lk body (atL (conL ls))).2);rw[Zoy hb ls];exact hP p n c ls m w he hm hc h
 ·show Calls _ _ _ _ (Res w (cR lk body (atL (conL ls))).1 (cR lk body (atL (conL ls))).2);rw[Zoy hb ls];exact hQ p n c ls w h
theorem ZlD(name:ByteArray)(hs:name.size≤1000):Zoz name:=by
 rcases Bool.eq_false_or_eq_true (name.toList== [116,114,117,101])with h0|h0
 ·refine ZM h0 (fun _=>([⟨4,bN true,⟨#[]⟩,0⟩],0)) (fun _=>rfl) (fun ls _=>(by simp)) (fun p n c ls m w he hm hc h=>?_) (fun p n c ls w h=>Zcu _ _ (.inl ⟨rfl,rfl⟩) p n c ls w h.r h.ok h.R h.s h.L h.q h.m);have hnn:=h.q;by_cases h0:n=0
  ·subst h0;have hls:ls=[]:=List.length_eq_zero_iff.1 hnn.symm;subst hls;rw[show cR [116,114,117,101] (fun _=>([⟨4,bN true,⟨#[]⟩,0⟩],0)) []=([⟨4,bN true,⟨#[]⟩,0⟩],0) by unfold cR;rw[if_pos (show rightL []=true from rfl),if_pos (show knV [116,114,117,101] ([]:List Lst).length=true by decide+kernel)]];exact Zll p c m w he hm hc
  ·have hk:knV [116,114,117,101] n=false:=by rw[Zi8 (by decide)];simp;omega
   have:=ZhM ⟨#[116,114,117,101]⟩ p n c ls m w he hm hc h.r h.ok (by decide) hnn h.mm (.inr hk);rw[show cR [116,114,117,101] (fun _=>([⟨4,bN true,⟨#[]⟩,0⟩],0)) ls=([],if rightL ls=true then 241 else 2) by unfold cR;rw[←hnn,hk];split<;>rfl];exact this
 rcases Bool.eq_false_or_eq_true (name.toList== [102,97,108,115,101])with h1|h1
 ·refine ZM h1 (fun _=>([⟨4,bN false,⟨#[]⟩,0⟩],0)) (fun _=>rfl) (fun ls _=>(by simp)) (fun p n c ls m w he hm hc h=>?_) (fun p n c ls w h=>Zcu _ _ (.inr (.inl ⟨rfl,rfl⟩)) p n c ls w h.r h.ok h.R h.s h.L h.q h.m);have hnn:=h.q;by_cases h0:n=0
  ·subst h0;have hls:ls=[]:=List.length_eq_zero_iff.1 hnn.symm;subst hls;rw[show cR [102,97,108,115,101] (fun _=>([⟨4,bN false,⟨#[]⟩,0⟩],0)) []=([⟨4,bN false,⟨#[]⟩,0⟩],0) by unfold cR;rw[if_pos (show rightL []=true from rfl),if_pos (show knV [102,97,108,115,101] ([]:List Lst).length=true by decide+kernel)]];exact Zjp p c m w he hm hc
  ·have hk:knV [102,97,108,115,101] n=false:=by rw[Zi8 (by decide)];simp;omega
   have:=ZhM ⟨#[102,97,108,115,101]⟩ p n c ls m w he hm hc h.r h.ok (by decide) hnn h.mm (.inr hk);rw[show cR [102,97,108,115,101] (fun _=>([⟨4,bN false,⟨#[]⟩,0⟩],0)) ls=([],if rightL ls=true then 241 else 2) by unfold cR;rw[←hnn,hk];split<;>rfl];exact this
 rcases Bool.eq_false_or_eq_true (name.toList== [99,111,117,110,116])with h2|h2
 ·refine ZM h2 (Zay Zbd) (Zbo _) (Zap fun l h=>(by unfold Zbd;repeat (first|(split)|(simp)))) (fun p n c ls m w he hm hc h=>?_) (fun p n c ls w h=>Zcu _ _ (.inr (.inr (.inl ⟨rfl,rfl⟩))) p n c ls w h.r h.ok h.R h.s h.L h.q h.m);exact Zh7 p n c ls m w he hm hc h.r h.ok h.q h.mm
 rcases Bool.eq_false_or_eq_true (name.toList== [101,109,112,116,121])with h3|h3
 ·refine ZM h3 (Zay ZaI) (Zbo _) (Zap fun l h=>(by unfold ZaI;repeat (first|(split)|(simp)))) (fun p n c ls m w he hm hc h=>?_) (fun p n c ls w h=>Zcu _ _ (.inr (.inr (.inr (.inl ⟨rfl,rfl⟩)))) p n c ls w h.r h.ok h.R h.s h.L h.q h.m);exact Zh8 p n c ls m w he hm hc h.r h.ok h.q h.mm
 rcases Bool.eq_false_or_eq_true (name.toList== [101,120,105,115,116,115])with h4|h4
 ·refine ZM h4 (Zay Zaa) (Zbo _) (Zap fun l h=>(by unfold Zaa;repeat (first|(split)|(simp)))) (fun p n c ls m w he hm hc h=>?_) (fun p n c ls w h=>Zcu _ _ (.inr (.inr (.inr (.inr (.inl ⟨rfl,rfl⟩))))) p n c ls w h.r h.ok h.R h.s h.L h.q h.m);exact Zhi p n c ls m w he hm hc h.r h.ok h.q h.mm
 rcases Bool.eq_false_or_eq_true (name.toList== [110,111,116])with h5|h5
 ·refine ZM h5 (Zay ZiF) (Zbo _) (Zap fun l h=>(by unfold ZiF;repeat (first|(split)|(simp)))) (fun p n c ls m w he hm hc h=>?_) (fun p n c ls w h=>Zcu _ _ (.inr (.inr (.inr (.inr (.inr (.inl ⟨rfl,rfl⟩)))))) p n c ls w h.r h.ok h.R h.s h.L h.q h.m);exact Zk0 p n c ls m w he hm hc h.r h.ok h.q h.mm
 rcases Bool.eq_false_or_eq_true (name.toList== [98,111,111,108,101,97,110])with h6|h6
 ·refine ZM h6 (Zay ZaL) (Zbo _) (Zap fun l h=>(by unfold ZaL;repeat (first|(split)|(simp)))) (fun p n c ls m w he hm hc h=>?_) (fun p n c ls w h=>Zcu _ _ (.inr (.inr (.inr (.inr (.inr (.inr ⟨rfl,rfl⟩)))))) p n c ls w h.r h.ok h.R h.s h.L h.q h.m);exact ZfY p n c ls m w he hm hc h.r h.ok h.q h.mm
 rcases Bool.eq_false_or_eq_true (name.toList== [115,116,114,105,110,103])with h7|h7
 ·refine ZM h7 (fT Zbx) (Zey _) (ZbD fun l=>(by unfold Zbx;split;exact Zbp _ _;exact Nat.zero_le _)) (fun p n c ls m w he hm hc h=>?_) (fun p n c ls w h=>Zd1 _ _ (.inr (.inr (.inl ⟨rfl,rfl⟩))) p n c ls w h.r h.ok h.R h.s h.L h.q h.m);exact Zao _ _ _ (.inl ⟨rfl,rfl,rfl⟩) p n c ls m w he hm hc h.r h.ok h.R h.s h.q h.mm
 rcases Bool.eq_false_or_eq_true (name.toList== [115,116,114,105,110,103,45,108,101,110,103,116,104])with h8|h8
 ·refine ZM h8 (fT Zby) (Zey _) (ZbD fun l=>(by unfold Zby;split<;>simp)) (fun p n c ls m w he hm hc h=>?_) (fun p n c ls w h=>Zd1 _ _ (.inr (.inr (.inr (.inl ⟨rfl,rfl⟩)))) p n c ls w h.r h.ok h.R h.s h.L h.q h.m);exact Zao _ _ _ (.inr (.inl ⟨rfl,rfl,rfl⟩)) p n c ls m w he hm hc h.r h.ok h.R h.s h.q h.mm
 rcases Bool.eq_false_or_eq_true (name.toList== [110,111,114,109,97,108,105,122,101,45,115,112,97,99,101])with h9|h9
 ·refine ZM h9 (fT ZdA) (Zey _) (ZbD fun l=>(by unfold ZdA;split;exact Zbp _ _;exact Nat.zero_le _)) (fun p n c ls m w he hm hc h=>?_) (fun p n c ls w h=>Zdc _ _ (.inl ⟨rfl,rfl⟩) p n c ls w h.r h.ok h.R h.s h.L h.q h.m);exact Zao _ _ _ (.inr (.inr (.inr (.inr (.inr (.inr (.inr (.inr ⟨rfl,rfl,rfl⟩)))))))) p n c ls m w he hm hc h.r h.ok h.R h.s h.q h.mm
 rcases Bool.eq_false_or_eq_true (name.toList== [117,112,112,101,114,45,99,97,115,101])with h10|h10
 ·refine ZM h10 (fT Zcc) (Zey _) (ZbD fun l=>(by unfold Zcc;split;exact Zbp _ _;exact Nat.zero_le _)) (fun p n c ls m w he hm hc h=>?_) (fun p n c ls w h=>Zdc _ _ (.inr (.inl ⟨rfl,rfl⟩)) p n c ls w h.r h.ok h.R h.s h.L h.q h.m);exact Zao _ _ _ (.inr (.inr (.inr (.inr (.inr (.inr (.inl ⟨rfl,rfl,rfl⟩))))))) p n c ls m w he hm hc h.r h.ok h.R h.s h.q h.mm
 rcases Bool.eq_false_or_eq_true (name.toList== [108,111,119,101,114,45,99,97,115,101])with h11|h11
 ·refine ZM h11 (fT Zcd) (Zey _) (ZbD fun l=>(by unfold Zcd;split;exact Zbp _ _;exact Nat.zero_le _)) (fun p n c ls m w he hm hc h=>?_) (fun p n c ls w h=>Zdc _ _ (.inr (.inr (.inl ⟨rfl,rfl⟩))) p n c ls w h.r h.ok h.R h.s h.L h.q h.m);exact Zao _ _ _ (.inr (.inr (.inr (.inr (.inr (.inr (.inr (.inl ⟨rfl,rfl,rfl⟩)))))))) p n c ls m w he hm hc h.r h.ok h.R h.s h.q h.mm
 rcases Bool.eq_false_or_eq_true (name.toList== [110,117,109,98,101,114])with h12|h12
 ·refine ZM h12 (Zay ZZ) (Zbo _) (Zap fun l h=>(by unfold ZZ;repeat (first|(split)|(simp)))) (fun p n c ls m w he hm hc h=>?_) (fun p n c ls w h=>Zcw _ _ (.inr (.inr (.inr (.inl ⟨rfl,rfl⟩)))) p n c ls w h.r h.ok h.R h.s h.L h.q h.m);exact Zhr p n c ls m w he hm hc h.r h.ok h.R h.q h.mm
 rcases Bool.eq_false_or_eq_true (name.toList== [115,117,109])with h13|h13
 ·refine ZM h13 (Zay Zg6) (Zbo _) (Zap fun l h=>Nat.le_trans (ZfO _ _) (by decide)) (fun p n c ls m w he hm hc h=>?_) (fun p n c ls w h=>Zcw _ _ (.inl ⟨rfl,rfl⟩) p n c ls w h.r h.ok h.R h.s h.L h.q h.m);exact Zlo p n c ls m w he hm hc h.r h.ok h.R h.q h.mm
 rcases Bool.eq_false_or_eq_true (name.toList== [109,105,110])with h14|h14
 ·refine ZM h14 (Zay Zel) (Zbo _) (Zap fun l h=>(by unfold Zel;split;exact Nat.zero_le _;exact Nat.le_trans (ZfO _ _) (by decide))) (fun p n c ls m w he hm hc h=>?_) (fun p n c ls w h=>Zcw _ _ (.inr (.inl ⟨rfl,rfl⟩)) p n c ls w h.r h.ok h.R h.s h.L h.q h.m);exact Zlp p n c ls m w he hm hc h.r h.ok h.R h.q h.mm
 rcases Bool.eq_false_or_eq_true (name.toList== [109,97,120])with h15|h15
 ·refine ZM h15 (Zay Zem) (Zbo _) (Zap fun l h=>(by unfold Zem;split;exact Nat.zero_le _;exact Nat.le_trans (ZfO _ _) (by decide))) (fun p n c ls m w he hm hc h=>?_) (fun p n c ls w h=>Zcw _ _ (.inr (.inr (.inl ⟨rfl,rfl⟩))) p n c ls w h.r h.ok h.R h.s h.L h.q h.m);exact Zlq p n c ls m w he hm hc h.r h.ok h.R h.q h.mm
 rcases Bool.eq_false_or_eq_true (name.toList== [97,98,115])with h16|h16
 ·refine ZM h16 (Zay fAbs) (Zbo _) (Zap fun l h=>(by unfold fAbs;repeat (first|(split)|(simp)))) (fun p n c ls m w he hm hc h=>?_) (fun p n c ls w h=>Zcw _ _ (.inr (.inr (.inr (.inr (.inl ⟨rfl,rfl⟩))))) p n c ls w h.r h.ok h.R h.s h.L h.q h.m);exact Zlr p n c ls m w he hm hc h.r h.ok h.R h.q h.mm
 rcases Bool.eq_false_or_eq_true (name.toList== [100,105,115,116,105,110,99,116,45,118,97,108,117,101,115])with h17|h17
 ·refine ZM h17 (Zay ZaQ) (Zbo _) (Zap fun l h=>Nat.le_trans (Zha l []) (by simpa using h)) (fun p n c ls m w he hm hc h=>?_) (fun p n c ls w h=>Zcw _ _ (.inr (.inr (.inr (.inr (.inr (.inl ⟨rfl,rfl⟩)))))) p n c ls w h.r h.ok h.R h.s h.L h.q h.m);exact ZeF p n c ls m w he hm hc h.r h.ok h.L h.q h.mm
 rcases Bool.eq_false_or_eq_true (name.toList== [114,101,118,101,114,115,101])with h18|h18
 ·refine ZM h18 (Zay Za9) (Zbo _) (Zap fun l h=>(by show l.reverse.length≤1000;simpa using h)) (fun p n c ls m w he hm hc h=>?_) (fun p n c ls w h=>Zcw _ _ (.inr (.inr (.inr (.inr (.inr (.inr ⟨rfl,rfl⟩)))))) p n c ls w h.r h.ok h.R h.s h.L h.q h.m);exact Zf1 p n c ls m w he hm hc h.r h.ok h.L h.q h.mm
 rcases Bool.eq_false_or_eq_true (name.toList== [99,111,110,116,97,105,110,115])with h19|h19
 ·refine ZM h19 (fT ZaF) (Zey _) (ZbD fun l=>(by unfold ZaF fB2;split<;>simp)) (fun p n c ls m w he hm hc h=>?_) (fun p n c ls w h=>Zdc _ _ (.inr (.inr (.inr (.inl ⟨rfl,rfl⟩)))) p n c ls w h.r h.ok h.R h.s h.L h.q h.m);exact Zao _ _ _ (.inr (.inr (.inr (.inl ⟨rfl,rfl,rfl⟩)))) p n c ls m w he hm hc h.r h.ok h.R h.s h.q h.mm
 rcases Bool.eq_false_or_eq_true (name.toList== [115,116,97,114,116,115,45,119,105,116,104])with h20|h20
 ·refine ZM h20 (fT Zbz) (Zey _) (ZbD fun l=>(by unfold Zbz fB2;split<;>simp)) (fun p n c ls m w he hm hc h=>?_) (fun p n c ls w h=>Zdc _ _ (.inr (.inr (.inr (.inr (.inl ⟨rfl,rfl⟩))))) p n c ls w h.r h.ok h.R h.s h.L h.q h.m);exact Zao _ _ _ (.inr (.inr (.inr (.inr (.inl ⟨rfl,rfl,rfl⟩))))) p n c ls m w he hm hc h.r h.ok h.R h.s h.q h.mm
 rcases Bool.eq_false_or_eq_true (name.toList== [101,110,100,115,45,119,105,116,104])with h21|h21
 ·refine ZM h21 (fT Zer) (Zey _) (ZbD fun l=>(by unfold Zer fB2;split<;>simp)) (fun p n c ls m w he hm hc h=>?_) (fun p n c ls w h=>Zdc _ _ (.inr (.inr (.inr (.inr (.inr ⟨rfl,rfl⟩))))) p n c ls w h.r h.ok h.R h.s h.L h.q h.m);exact Zao _ _ _ (.inr (.inr (.inr (.inr (.inr (.inl ⟨rfl,rfl,rfl⟩)))))) p n c ls m w he hm hc h.r h.ok h.R h.s h.q h.mm
 rcases Bool.eq_false_or_eq_true (name.toList== [115,116,114,105,110,103,45,106,111,105,110])with h22|h22
 ·refine ZM h22 (joinV) (Zn5) ZlC (fun p n c ls m w he hm hc h=>?_) (fun p n c ls w h=>Zd1 _ _ (.inl ⟨rfl,rfl⟩) p n c ls w h.r h.ok h.R h.s h.L h.q h.m);exact ZgV p n c ls m w he hm hc h.r h.ok h.R h.s h.L h.q h.mm
 rcases Bool.eq_false_or_eq_true (name.toList== [115,117,98,115,116,114,105,110,103])with h23|h23
 ·refine ZM h23 (subV) (Zpe) ZmJ (fun p n c ls m w he hm hc h=>?_) (fun p n c ls w h=>Zd1 _ _ (.inr (.inl ⟨rfl,rfl⟩)) p n c ls w h.r h.ok h.R h.s h.L h.q h.m);exact ZgT p n c ls m w he hm hc h.r h.ok h.R h.s h.q h.mm
 rcases Bool.eq_false_or_eq_true (name.toList== [99,111,110,99,97,116])with h24|h24
 ·refine ZM h24 (fT ZaX) (Zey _) (ZbD fun l=>Zbp _ _) (fun p n c ls m w he hm hc h=>?_) (fun p n c ls w h=>Zd1 _ _ (.inr (.inr (.inr (.inr ⟨rfl,rfl⟩)))) p n c ls w h.r h.ok h.R h.s h.L h.q h.m);exact Zao _ _ _ (.inr (.inr (.inl ⟨rfl,rfl,rfl⟩))) p n c ls m w he hm hc h.r h.ok h.R h.s h.q h.mm
 have hk:∀n,knV name.data.toList n=false:=by intro n;rw[ByteArray.toList_eq]at h0 h1 h2 h3 h4 h5 h6 h7 h8 h9 h10 h11 h12 h13 h14 h15 h16 h17 h18 h19 h20 h21 h22 h23 h24;simp only[beq_eq_false_iff_ne,ne_eq]at h0 h1 h2 h3 h4 h5 h6 h7 h8 h9 h10 h11 h12 h13 h14 h15 h16 h17 h18 h19 h20 h21 h22 h23 h24;exact ZmU (by simp[wK0, *]) (by simp[wK1, *]) (by simp[wK2, *]) (by simp[wK3, *]) (by simp[wK4, *]) (by simp[wK5, *])
 refine⟨fun L=>([],if rightL (atL L)=true then 241 else 2),fun p n c ls m w he hm hc h=>?_,fun p n c ls w h=>?_,fun L h=>Nat.zero_le _⟩
 ·show Calls _ _ _ _ (Res w [] (if rightL (atL (conL ls))=true then 241 else 2));rw[ZfN];exact ZhM name p n c ls m w he hm hc h.r h.ok (by omega) h.q h.mm (.inr (hk n))
 ·show Calls _ _ _ _ (Res w [] (if rightL (atL (conL ls))=true then 241 else 2));rw[ZfN];exact ZmL name (fun W=>Zls name W h0 h1 h2 h3 h4 h5 h6 h7 h8 h9 h10 h11 h12 h13 h14 h15 h16 h17 h18 h19 h20 h21 h22 h23 h24) p n c ls w h.r h.ok h.R h.s h.L h.q h.m
end Go.Proofs.YtnnfhojhbbcbmaaGreatDoor
namespace Go.Proofs.YtnnfhojhbbcbmaaGreatDoor
open Go.RowKit
theorem Zhb(l:List It):(Za6 l).length=l.length+12:=by unfold Za6;rw[List.length_append,ZbK]
def Lent(W:World)(B:Nat)(x:Lst):Prop:=∃g,x.a=some ⟨g,0,none⟩∧x.c=x.l.length+12∧OwI W B (.slice (some ⟨g,0,none⟩) (x.l.length+12) (x.l.length+12)) (Za6 x.l)
section
variable {w W W' : World} {B : Nat} {x : Lst}
theorem Lent.keep(h:Lent W B x)(hb:Below W.heap.size W W'):Lent W' B x:=by obtain⟨g,h1,h2,h3⟩:=h;exact⟨g,h1,h2,h3.keep hb⟩
theorem Lent.other {r:Option Nat}(h:Lent W B x)(hg:W.grownBy W' r)(hne:∀g,x.a=some ⟨g,0,none⟩→r≠some g):Lent W' B x:=by obtain⟨g,h1,h2,h3⟩:=h;exact⟨g,h1,h2,World.ownsRow.kept h3 hg (.inr fun e=>hne g h1 (by rw[←e];rfl))⟩
theorem Lent.parts(h:Lent W B x):∃g cur,x.a=some ⟨g,0,none⟩∧x.c=x.l.length+12∧B≤g∧W.heap[g]? =some (.cells cur 24 (0,0)):=by obtain⟨g,h1,h2,h3⟩:=h;unfold OwI at h3;rw[Zhb]at h3;obtain⟨cur,q1,q2,_⟩:=ZaE h3;exact⟨g,cur,h1,h2,q1,q2⟩
theorem Lent.rd(h:Lent W B x):∃g,x.a=some ⟨g,0,none⟩∧x.c=x.l.length+12∧RdI W (some ⟨g,0,none⟩) (Za6 x.l):=by obtain⟨g,h1,h2,h3⟩:=h;exact⟨g,h1,h2,h3.rd⟩
theorem Lent.cont(h:Lent W B x):∃g,x.a=some ⟨g,0,none⟩∧x.c=x.l.length+12∧B≤g∧ContI W (some g,x.l.length,x.l.length+12,some ⟨g,0,none⟩) []:=by
 obtain⟨g,h1,h2,h3⟩:=h;have hl:=(Z5 h3 g rfl).1;refine⟨g,h1,h2,hl,?_⟩;have hc:ContI W (some g,x.l.length,x.l.length+12,some ⟨g,0,none⟩) (Za6 x.l):=by refine .inr ⟨g,rfl,rfl,Nat.le_add_right _ _,?_⟩;have h4:=OwI.mono h3 (Nat.zero_le B);unfold OwI at h4;rw[Zhb]at h4⊢;exact h4
 exact hc.take 0
theorem ZjY {v:Value}{n B':Nat}{xs:List Value}(h:W.ownsRow B' 28 1 v n xs)(hx:Lent W B x)(g:Nat)(hg:x.a=some ⟨g,0,none⟩):v.ownBlock≠some g:=by
 obtain⟨g2,cur,h1,_,_,h2⟩:=hx.parts;rw[h1]at hg;injection hg with hg;injection hg with hg;subst hg;rcases h.2 with⟨rfl,_⟩|⟨g3,cap,cur3,rfl,_,h3,_⟩
 ·intro e;cases e
 ·intro e;injection e with e;subst e;rw[h2]at h3;injection h3 with h3;injection h3 with _ h3;exact absurd h3 (by decide)
end
structure InQ (w W:World) (k:Nat) (v:Value) (ls L:List Lst):Prop where
 e:conL L=conL (ls.take k)
 own:∀x∈L,Lent W w.heap.size x
 ne:L.Pairwise (fun x y=>x.a≠y.a)
 row:W.ownsRow w.heap.size 28 1 v k (L.map Lst.v)
 hB:Below w.heap.size w W
section
variable {w W W' W1 W3 : World} {k m : Nat} {v v' : Value} {ls L : List Lst} {x : Lst}
theorem InQ.start(w:World)(ls:List Lst):InQ w w 0 (.slice none 0 0) ls []:=⟨rfl,fun x h=>(by cases h),List.Pairwise.nil,Zb8 _ _ _ _,Below.refl _ _⟩
theorem InQ.keep(I:InQ w W k v ls L)(hb:Below W.heap.size W W'):InQ w W' k v ls L:=⟨I.e,fun x hx=>(I.own x hx).keep hb,I.ne,ZL I.row hb,Zb I.hB hb⟩
theorem InQ.next(I:InQ w W k v ls L)(hx:ls[k]? =some x)(hm:m=x.l.length)(own:OwI W1 W.heap.size (.slice (some ⟨W.heap.size,0,none⟩) (m+12) (m+12)) (Za6 x.l))(hb:Below W.heap.size W W1)(o:Obj)
  (own3:W3.ownsRow w.heap.size 28 1 v' (k+1) (L.map Lst.v++[.slice (some ⟨W.heap.size,0,none⟩) m (m+12)])) (hg3:(W1.alloc o).grownBy W3 v.ownBlock):
  InQ w W3 (k+1) v' ls (L++[⟨some ⟨W.heap.size,0,none⟩,x.l,m+12⟩]):=by
 subst hm;have hal:Below W1.heap.size W1 (W1.alloc o):=(Below.refl _ _).alloc (Nat.le_refl _) o;have hb2:Below W.heap.size W (W1.alloc o):=Zb hb hal;have I2:=I.keep hb2;have hl:Lent (W1.alloc o) w.heap.size ⟨some ⟨W.heap.size,0,none⟩,x.l,x.l.length+12⟩:=⟨W.heap.size,rfl,rfl,OwI.mono (OwI.keep own hal) I.hB.size⟩;refine⟨?_,?_,?_,?_,?_⟩
 ·have h1:=I.e;unfold conL at h1⊢;rw[List.take_add_one,hx,List.map_append,List.map_append,h1];rfl
 ·intro y hy;rcases List.mem_append.1 hy with hy|hy
  ·exact(I2.own y hy).other hg3 fun g hg=>ZjY I2.row (I2.own y hy) g hg
  ·rw[List.mem_singleton]at hy;subst hy;exact hl.other hg3 fun g hg=>ZjY I2.row hl g hg
 ·refine List.pairwise_append.2 ⟨I.ne,List.pairwise_singleton _ _,fun a ha b hb=>?_⟩;rw[List.mem_singleton]at hb;subst hb;obtain⟨g,cur,h1,_,_,h2⟩:=(I.own a ha).parts;rw[h1];intro e;injection e with e;injection e with e;have:=ZD h2;omega
 ·rw[List.map_append];exact own3
 ·exact I2.hB.grown hg3 I2.hB.size fun b hb=>(Z5 I2.row b hb).1
theorem ZhQ(h:conL L=conL ls)(hx:x∈L):∃y∈ls,y.l=x.l:=by have:x.l∈conL L:=List.mem_map.2 ⟨x,hx,rfl⟩;rw[h]at this;obtain⟨y,hy,e⟩:=List.mem_map.1 this;exact⟨y,hy,e⟩
theorem Zn9(h:conL L=conL ls):L.length=ls.length:=by simpa[conL]using congrArg List.length h
theorem Zpf(h:conL L=conL ls)(i:Nat)(hx:ls[i]? =some x):∃y,L[i]? =some y∧y.l=x.l:=by have h2:=congrArg (fun(l:List (List It))=>l[i]?) h;simp only[conL,List.getElem?_map,hx]at h2;obtain⟨y,hy,e⟩:=Option.map_eq_some_iff.1 h2;exact⟨y,hy,e⟩
theorem Zpg {p:Option Addr}{n:Nat}(hr:Rd w p (ls.map Lst.v))(hok:OkAs w ls)(hR:∀x∈ls,∀y∈x.l,R64 y.num)(hS:∀x∈ls,Zfo x)(hL:∀x∈ls,x.l.length≤300)(hn:n=ls.length)(hm:n≤20)(hB:Below w.heap.size w W):PreC W p n ls:=
 ⟨hr.keep hB,hok.keep hB,hR,hS,fun x hx=>Nat.le_trans (hL x hx) (by decide),hn,by omega⟩
theorem InQ.pre {a:Option Addr}{n c:Nat}(I:InQ w W n (.slice a n c) ls L)(hR:∀x∈ls,∀y∈x.l,R64 y.num)(hS:∀x∈ls,Zfo x)(hL:∀x∈ls,x.l.length≤300)(hn:n=ls.length)(hm:n≤20):conL L=conL ls∧PreC W a n L:=by
 have he:conL L=conL ls:=by have:=I.e;rw[hn,List.take_length]at this;exact this
 refine⟨he,?_⟩;have hL2:∀x∈L,x.l.length≤300:=fun x hx=>by obtain⟨y,hy,e⟩:=ZhQ he hx;rw[←e];exact hL y hy
 have hS2:∀x∈L,∀y∈x.l,y.text.size≤100000:=fun x hx=>by obtain⟨y,hy,e⟩:=ZhQ he hx;rw[←e];exact hS y hy
 refine⟨ZcQ I.row,fun x hx=>?_,fun x hx=>?_,hS2,fun x hx=>Nat.le_trans (hL2 x hx) (by decide),by rw[hn,Zn9 he],by omega⟩
 ·obtain⟨g,h1,_,h3⟩:=(I.own x hx).rd;refine⟨?_,fun y hy=>Nat.le_trans (hS2 x hx y hy) (by decide),by have:=hL2 x hx;omega⟩;rw[h1];exact RdI.left h3
 ·obtain⟨y,hy,e⟩:=ZhQ he hx;rw[←e];exact hR y hy
end
structure InR (w W:World) (n i:Nat) (v:Value) (L:List Lst):Prop where
 own:∀j x,i≤j→L[j]? =some x→Lent W w.heap.size x
 ne:L.Pairwise (fun x y=>x.a≠y.a)
 row:W.ownsRow w.heap.size 28 1 v n (L.map Lst.v)
 hB:Below w.heap.size w W
section
variable {w W W' : World} {n i g : Nat} {v : Value} {L ls : List Lst} {x : Lst}
theorem InQ.turn(I:InQ w W n v ls L):InR w W n 0 v L:=⟨fun _ x _ hx=>I.own x (List.mem_of_getElem? hx),I.ne,I.row,I.hB⟩
theorem InR.keep(I:InR w W n i v L)(hb:Below W.heap.size W W'):InR w W' n i v L:=⟨fun j x hj hx=>(I.own j x hj hx).keep hb,I.ne,ZL I.row hb,Zb I.hB hb⟩
theorem InR.next(I:InR w W n i v L)(hx:L[i]? =some x)(hg:x.a=some ⟨g,0,none⟩)(hgr:W.grownBy W' (some g)):InR w W' n (i+1) v L:=by
 have hxl:=I.own i x (Nat.le_refl _) hx;obtain⟨g2,_,h1,_,h2,_⟩:=hxl.parts;have hgg:g2=g:=by rw[hg]at h1;injection h1 with h1;injection h1 with h1;exact h1.symm
 subst hgg;refine⟨fun j y hj hy=>?_,I.ne,?_,?_⟩
 ·refine(I.own j y (by omega) hy).other hgr fun g3 h3 e=>?_;injection e with e;subst e;obtain⟨hi,rfl⟩:=List.getElem?_eq_some_iff.1 hx;obtain⟨hj2,rfl⟩:=List.getElem?_eq_some_iff.1 hy;exact List.pairwise_iff_getElem.1 I.ne i j hi hj2 (by omega) (by rw[hg,h3])
 ·exact World.ownsRow.kept I.row hgr (.inr (ZjY I.row hxl g2 hg))
 ·exact I.hB.grown hgr I.hB.size fun b hb=>by injection hb with hb;omega
end
structure Ans (W:World) (B1 B2 B3:Nat) (va vb vr:Value) (l:List It):Prop where
 a:OwE W B1 B2 va l
 b:OwE W B2 B3 vb l
 r:OwZ W B3 vr l
section
variable {W W' : World} {B1 B2 B3 g : Nat} {va vb vr : Value} {l : List It}
theorem Ans.keep(h:Ans W B1 B2 B3 va vb vr l)(hb:Below W.heap.size W W'):Ans W' B1 B2 B3 va vb vr l:=⟨h.a.keep hb,h.b.keep hb,h.r.keep hb⟩
theorem Ans.other(h:Ans W B1 B2 B3 va vb vr l)(hg:W.grownBy W' (some g))(h1:g<B1)(h2:B1≤B2)(h3:B2≤B3):Ans W' B1 B2 B3 va vb vr l:=⟨h.a.other hg h1,h.b.other hg (by omega),h.r.other hg (by omega)⟩
end
end Go.Proofs.YtnnfhojhbbcbmaaGreatDoor
