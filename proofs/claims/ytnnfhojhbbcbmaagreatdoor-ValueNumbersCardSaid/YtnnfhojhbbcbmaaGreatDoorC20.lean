/- value.Call at functions of texts: one walk. Plain laws: a text of one letter many times over; what concat and string-join make of such. strings.Repeat at this program: off the kit's shelf (printed by the kit's tool for this seat). -/
import Derived.Test.YtnnfhojhbbcbmaaGreatDoorC15
import Derived.Test.YtnnfhojhbbcbmaaGreatDoorC14
import Derived.Test.YtnnfhojhbbcbmaaGreatDoorC17
import Derived.Test.YtnnfhojhbbcbmaaGreatDoorC19
import Derived.Lib.Repeat
import Derived.Test.YtnnfhojhbbcbmaaGreatDoorC00
import Derived.Shelf.Strings.Repeat
namespace Go.Proofs.YtnnfhojhbbcbmaaGreatDoor
open Go.RowKit
def IsT(nm:ByteArray)(lk:List UInt8)(f:List ByteArray→List It×Int):Prop:=
 (nm=⟨#[115,116,114,105,110,103]⟩∧lk=[115,116,114,105,110,103]∧f=Zbx)∨(nm=⟨#[115,116,114,105,110,103,45,108,101,110,103,116,104]⟩∧lk=[115,116,114,105,110,103,45,108,101,110,103,116,104]∧f=Zby)∨(nm=⟨#[99,111,110,99,97,116]⟩∧lk=[99,111,110,99,97,116]∧f=ZaX)∨(nm=⟨#[99,111,110,116,97,105,110,115]⟩∧lk=[99,111,110,116,97,105,110,115]∧f=ZaF)∨(nm=⟨#[115,116,97,114,116,115,45,119,105,116,104]⟩∧lk=[115,116,97,114,116,115,45,119,105,116,104]∧f=Zbz)∨(nm=⟨#[101,110,100,115,45,119,105,116,104]⟩∧lk=[101,110,100,115,45,119,105,116,104]∧f=Zer)∨(nm=⟨#[117,112,112,101,114,45,99,97,115,101]⟩∧lk=[117,112,112,101,114,45,99,97,115,101]∧f=Zcc)∨(nm=⟨#[108,111,119,101,114,45,99,97,115,101]⟩∧lk=[108,111,119,101,114,45,99,97,115,101]∧f=Zcd)∨(nm=⟨#[110,111,114,109,97,108,105,122,101,45,115,112,97,99,101]⟩∧lk=[110,111,114,109,97,108,105,122,101,45,115,112,97,99,101]∧f=ZdA)
set_option maxRecDepth 100000 in
set_option maxHeartbeats 8000000 in
theorem Zao(nm:ByteArray)(lk:List UInt8)(f:List ByteArray→List It×Int)(ht:IsT nm lk f)(p:Option Addr)(n c:Nat)(ls:List Lst)(m:Int)(w:World)(he:Env w)(hm:w.cell? ⟨1,0,none⟩=some (.int .i64 m))(hc:Counts w)(hr:Rd w p (ls.map Lst.v))(hok:OkAs w ls)
  (hR:∀x∈ls,∀y∈x.l,R64 y.num) (hsz:∀x∈ls,∀y∈x.l,y.text.size≤100000) (hn:n=ls.length) (hnm:n≤1000000):
  Calls Tryz.prog 14 #[.string nm,.slice p n c] w (Res w (ZaS lk f ls).1 (ZaS lk f ls).2):=by
 obtain⟨i0,hi⟩:=info_parts (show(Tryz.prog.info? 9).map (fun i=>(i.zero,i.size,i.bytes))=some (some (.string ⟨#[]⟩),1,16) by kernel_rfl);have Hi:=Za hi;have He:=Za he;have Hm:=Za hm;have Hc:=Za hc;have Hr:=Za hr;have Hok:=Za hok;have HR:=Za hR;have Hsz:=Za hsz;have Hn:=Za hn;have Hnm:=Za hnm;have Hrt:=Za (Z7 p n c ls w he.t8 hn (by omega) hr hok)
 have Hkn0:∀W,Below w.heap.size w W→Calls Tryz.prog 45 #[.string nm,.int .i64 n] W fun e w'=>e= .returned (.bool (knV lk n))∧Below W.heap.size W w':=by
  rcases ht with⟨rfl,rfl,rfl⟩|⟨rfl,rfl,rfl⟩|⟨rfl,rfl,rfl⟩|⟨rfl,rfl,rfl⟩|⟨rfl,rfl,rfl⟩|⟨rfl,rfl,rfl⟩|⟨rfl,rfl,rfl⟩|⟨rfl,rfl,rfl⟩|⟨rfl,rfl,rfl⟩
  all_goals exact fun W hW=>ZI _ n m W (Zc hW hm) (hc.keep hW) (by decide)
 have Hkn:=Za Hkn0;clear Hkn0
 have HI9:Hid (∀(b off n c:Nat) (v:Value) (w:World),0<n→w.cell? ⟨b,off,none⟩=some v→(∃a k d,v= .slice a k d)→Calls Tryz.prog 46 #[.string nm,.slice (some ⟨b,off,none⟩) n c] w fun e w'=>e= .returned (.tuple #[.slice none 0 0,.int .i64 0,.bool false])∧w=w'):=by
  show ∀_,_;rcases ht with⟨rfl,rfl,rfl⟩|⟨rfl,rfl,rfl⟩|⟨rfl,rfl,rfl⟩|⟨rfl,rfl,rfl⟩|⟨rfl,rfl,rfl⟩|⟨rfl,rfl,rfl⟩|⟨rfl,rfl,rfl⟩|⟨rfl,rfl,rfl⟩|⟨rfl,rfl,rfl⟩
  ·exact fun b off n c v w=>Zdl b off n c v w
  ·exact fun b off n c v w=>ZbE b off n c v w
  ·exact fun b off n c v w=>Zdm b off n c v w
  ·exact fun b off n c v w=>ZcK b off n c v w
  ·exact fun b off n c v w=>ZbY b off n c v w
  ·exact fun b off n c v w=>Zcy b off n c v w
  ·exact fun b off n c v w=>Zcp b off n c v w
  ·exact fun b off n c v w=>Zcq b off n c v w
  ·exact fun b off n c v w=>Zbj b off n c v w
 have HN9:Hid (∀(v:Value) (w:World),Calls Tryz.prog 47 #[.string nm,v] w fun e w'=>e= .returned (.tuple #[.slice none 0 0,.int .i64 0,.bool false])∧w=w'):=by
  show ∀_,_;rcases ht with⟨rfl,rfl,rfl⟩|⟨rfl,rfl,rfl⟩|⟨rfl,rfl,rfl⟩|⟨rfl,rfl,rfl⟩|⟨rfl,rfl,rfl⟩|⟨rfl,rfl,rfl⟩|⟨rfl,rfl,rfl⟩|⟨rfl,rfl,rfl⟩|⟨rfl,rfl,rfl⟩
  ·exact fun v w=>ZcI v w
  ·exact fun v w=>Zbi v w
  ·exact fun v w=>ZcJ v w
  ·exact fun v w=>Zco v w
  ·exact fun v w=>ZbF v w
  ·exact fun v w=>ZbZ v w
  ·exact fun v w=>ZbP v w
  ·exact fun v w=>ZbQ v w
  ·exact fun v w=>Za4 v w
 have hz9:knV lk 0=false:=by
  rcases ht with⟨rfl,rfl,rfl⟩|⟨rfl,rfl,rfl⟩|⟨rfl,rfl,rfl⟩|⟨rfl,rfl,rfl⟩|⟨rfl,rfl,rfl⟩|⟨rfl,rfl,rfl⟩|⟨rfl,rfl,rfl⟩|⟨rfl,rfl,rfl⟩|⟨rfl,rfl,rfl⟩
  all_goals decide+kernel
 have HT9:=Za ht;clear ht;have hnl:n<9223372036854775807:=by omega
 have Hall:Hid (ZaS lk f ls=if rightL ls=true then(if knV lk n=true then(if Zck ls=0 then f (txs ls)else([],Zck ls))else([],241))else([],2)):=by show _=_;unfold ZaS;rw[hn]
 clear he hm hc hr hok hR hsz hn hnm hi;rcases Bool.eq_false_or_eq_true (rightL ls)with hq|hq;rotate_left
 ·rw[hq]at Hrt;have HA:Hid (ZaS lk f ls=([],2)):=by show _=_;rw[Hall.out,hq];rfl
  clear hq Hall;go_enter Tryz.func14,Tryz.ntmps14;go_wp2_with fail;refine Hrt.out.mono ?_;rintro e w1 ⟨rfl,hb1⟩;go_wp2;go_ret2;exact⟨.slice none 0 0,by rw[HA.out];rfl,by rw[HA.out];exact OwI.nil _ _,hb1⟩
 rw[hq]at Hrt;rcases Bool.eq_false_or_eq_true (knV lk n)with hk|hk;rotate_left
 ·rw[hk]at Hkn;have HA:Hid (ZaS lk f ls=([],241)):=by show _=_;rw[Hall.out,hq,hk];rfl
  clear hq hk Hall;go_enter Tryz.func14,Tryz.ntmps14;go_wp2_with fail;refine Hrt.out.mono ?_;rintro e w1 ⟨rfl,hb1⟩;go_wp2_with fail;refine(Hkn.out w1 hb1).mono ?_;rintro e w2 ⟨rfl,hb2⟩;have hB2:=Zb hb1 hb2;go_wp2;go_ret2;exact⟨.slice none 0 0,by rw[HA.out];rfl,by rw[HA.out];exact OwI.nil _ _,hB2⟩
 have Hk:=Za hk;have HE:Hid (Zck ls=0→ZaS lk f ls=f (txs ls)):=by show _→_;intro h;rw[Hall.out,hq,hk,if_pos rfl,if_pos rfl,if_pos h]
 have HE2:Hid (Zck ls≠0→ZaS lk f ls=([],Zck ls)):=by show _→_;intro h;rw[Hall.out,hq,hk,if_pos rfl,if_pos rfl,if_neg h]
 rw[hk]at Hkn
 have hn0:0<n:=by
  rcases Nat.eq_zero_or_pos n with h|h
  ·subst h;rw[hz9]at hk;cases hk
  ·exact h
 clear hq hk Hall hz9;obtain⟨y0,hy0⟩:∃y,ls[0]? =some y:=⟨_,List.getElem?_eq_getElem (by have:=Hn.out;omega)⟩;obtain⟨b0,off0,rfl,hcz⟩:=Hr.out.cellAt 0 y0.v (by simp[hy0]);clear hcz;have Hy0:=Za hy0;have hix0:=Zp b0 off0 n c hn0;clear hy0;go_enter Tryz.func14,Tryz.ntmps14;go_wp2_with fail;refine Hrt.out.mono ?_;rintro e w1 ⟨rfl,hb1⟩;go_wp2_with fail;refine(Hkn.out w1 hb1).mono ?_;rintro e w2 ⟨rfl,hb2⟩;have hB2:=Zb hb1 hb2;clear hb1 hb2 Hkn Hrt;obtain⟨b1,off1,e1,hcz⟩:=(Hr.out.keep hB2).cellAt 0 y0.v (by simp[Hy0.out]);injection e1 with e1;injection e1 with e1 e2;subst e1 e2;rw[Nat.add_zero]at hcz;obtain⟨ya,yl,yc⟩:=y0;have hc0:w2.cell? ⟨b0,off0,none⟩=some (.slice ya yl.length yc):=hcz;clear hcz;go_wp2_with fail;refine(HI9.out b0 off0 n c _ _ hn0 hc0 ⟨_,_,_,rfl⟩).mono ?_;rintro e wx ⟨rfl,rfl⟩;go_wp2_with fail;refine(HN9.out _ _).mono ?_;rintro e wx ⟨rfl,rfl⟩;clear hc0 hix0 HI9 HN9;go_wp2_with fail;go_loopw[12,51] (fun lv iv W=>∃k:Nat,k≤n∧iv= .int .i64 k∧Hid (∀x∈ls.take k,(strV x.l).2=0)∧Hid (W.ownsRow w.heap.size 9 1 lv k ((txs (ls.take k)).map Value.string))∧Below w.heap.size w W) (fun _ iv _=>n-(intOf iv).toNat)
 case atStart=>exact⟨0,Nat.zero_le _,rfl,Za (by simp),Za (Zb8 _ _ _ _),hB2⟩
 case round=>
  clear hB2;obtain⟨k,hk,rfl,Hz,Ho,hB⟩:=hrel;by_cases hlt:k<n
  ·have hI:(k:Int)<(n:Int):=by omega
   obtain⟨x,hx⟩:∃x,ls[k]? =some x:=⟨_,List.getElem?_eq_getElem (by have:=Hn.out;omega)⟩;obtain⟨b1,off1,e1,hcz⟩:=(Hr.out.keep hB).cellAt k x.v (by simp[hx]);injection e1 with e1;injection e1 with e1 e2;subst e1 e2;have hix:=ZP b0 off0 n c k hlt;have Hx:=Za hx;have Hokx:=Za (Hok.out x (List.mem_of_getElem? hx));have HRx:=Za (HR.out x (List.mem_of_getElem? hx));clear hx;obtain⟨xa,xl,xc⟩:=x;obtain⟨q,hq⟩:∃q,q=xl.length:=⟨_,rfl⟩;have hcx:wr.cell? ⟨b0,off0+k,none⟩=some (.slice xa q xc):=by rw[hq];exact hcz
   clear hcz;have Hq:=Za hq;clear hq;go_wp2_with fail;refine(Zbw xa q xc xl _ (He.out.keep hB) ⟨Hokx.out.1.keep hB,Hokx.out.2⟩ HRx.out Hq.out).mono ?_;rintro e w4 ⟨rfl,hb4⟩;have hB4:=Zb hB hb4;have Ho4:=Za (ZL Ho.out hb4);clear hb4 hB hcx hix Ho;by_cases hz0:(strV xl).2=0
   ·have Hz2:Hid (∀x∈ls.take (k+1),(strV x.l).2=0):=by
     show ∀x∈_,_;intro x hx;rw[List.take_add_one,Hx.out]at hx;rcases List.mem_append.1 hx with hx|hx
     ·exact Hz.out x hx
     ·simp at hx;subst hx;exact hz0
    have Htk:Hid (txs (ls.take (k+1))=txs (ls.take k)++[(strV xl).1]):=by show _=_;rw[List.take_add_one,Hx.out];simp[txs]
    rw[hz0];generalize (strV xl).1=sx at*;have hrd:=Rd.new w4 9 [.string sx];have hk6:=(Below.refl w4.heap.size w4).alloc (Nat.le_refl _) (.cells #[.string sx] 9);have own6:=ZL Ho4.out hk6;have be6:=Zb hB4 hk6;have Hrd:=Za hrd;have Own6:=Za own6;clear hrd hk6 own6 hz0 Hz Ho4 hB4;go_wp2_with (at_builtin;refine Zk rfl _ _ 29 rfl i0 _ 16 1 Tryz.underlying29 Hi.out.1 Hi.out.2.1 Hi.out.2.2.1 Hi.out.2.2.2 rfl (by decide) rfl rfl ?e1 Own6.out Hrd.out (m:=1) rfl ?e2 ?e3 ?e4 ?_)
    case e1=>intro u hu;simp at hu;subst hu;rfl
    case e2=>have:=Hnm.out;omega
    case e3=>have:=Hnm.out;omega
    case e4=>exact be6.size
    intro v' W7 hown7 hg7 _;have Hown7:Hid (W7.ownsRow w.heap.size 9 1 v' (k+1) ((txs (ls.take (k+1))).map Value.string)):=by show World.ownsRow _ _ _ _ _ _ _;rw[Htk.out,List.map_append];exact hown7
    have hB7:=be6.grown hg7 be6.size (fun k hk=>(Z5 Own6.out k hk).1);clear hown7 hg7 Own6 be6 Hrd;go_wp2;go_roundw
    case rel=>exact⟨k+1,by omega,by simp,Hz2,Hown7,hB7⟩
    case measure=>simp[intOf];omega
   ·have hz1:((strV xl).2 != 0)=true:=by simpa using hz0
    have HEr:Hid (Zck ls=(strV xl).2):=ZhH ls k _ Hz.out Hx.out hz0;have HA:Hid (ZaS lk f ls=([],(strV xl).2)):=by show _=_;rw[HE2.out (by rw[HEr.out];exact hz0),HEr.out]
    generalize (strV xl).2=er at*;generalize (strV xl).1=sx at*;clear hz0 HEr Hz Ho4;go_wp2;go_ret2;exact⟨.slice none 0 0,by rw[HA.out];rfl,by rw[HA.out];exact OwI.nil _ _,hB4⟩
  ·have hI:¬(k:Int)<(n:Int):=by omega
   have hkn:k=n:=by omega
   have htk:ls.take n=ls:=List.take_of_length_le (by have:=Hn.out;omega);have Hz2:=Hz.out;have Ho2:=Ho.out;rw[hkn,htk]at Hz2 Ho2;have HA:=Za (HE.out (ZhG ls Hz2));have Hown:=Za Ho2;subst hkn;have Htl:Hid ((txs ls).length=k):=by show _=_;rw[Hn.out];simp[txs]
   have Hts:Hid (∀t∈txs ls,t.size≤100000):=by show ∀t∈txs ls,_;intro t ht;obtain⟨x,hx,rfl⟩:=List.mem_map.1 ht;exact ZaM x.l (HR.out x hx) (Hsz.out x hx)
   clear Hz Ho Hz2 Ho2 htk HE HE2;obtain⟨g,cap,rfl,hg,hglt,hcap⟩:=Z9 Hown.out (by omega);generalize txs ls=tl at*;have ht:=HT9.out;clear HT9;rcases ht with⟨rfl,rfl,rfl⟩|⟨rfl,rfl,rfl⟩|⟨rfl,rfl,rfl⟩|⟨rfl,rfl,rfl⟩|⟨rfl,rfl,rfl⟩|⟨rfl,rfl,rfl⟩|⟨rfl,rfl,rfl⟩|⟨rfl,rfl,rfl⟩|⟨rfl,rfl,rfl⟩
   ·have hk1:k=1:=by
     have h:=Hk.out;unfold knV at h;simp[wK0,wK1]at h;omega
    subst hk1;obtain⟨t0,rfl⟩:=List.length_eq_one_iff.1 Htl.out;have hs0:=Hts.out t0 (by simp);have d0:wr.cell? ⟨g,0,none⟩=some (.string t0):=ZJ Hown.out 0 _ rfl;have hx0:=Z0 g 0 1 cap 0 (by decide);clear Hts Hk Htl hg hcap;have hB:=hB;have Hs0:=Za hs0;have hbsz:=hB.size;go_wp2_with fail;refine(Z2 ⟨#[]⟩ (some ⟨wr.heap.size,0,none⟩) 1 1 [t0] _ (Rd.new wr 9 [.string t0]) rfl (by decide) (by decide) ?z1string (by decide) (.inr ⟨_,_,rfl,by simp⟩)).mono ?_
    case z1string=>intro x hx;simp at hx;subst hx;have:=Hs0.out;omega
    rintro e w9 ⟨v9,rfl,ho9,hb9⟩;have Ho9:=Za (ho9.mono (by first|exact hB.size|exact Nat.le_trans hB.size (by simp)));have hB9:Below w.heap.size w w9:=by first|exact Zu hB hb9|exact Zb hB hb9
    have Hsl:=Zl Ho9.out;clear hb9 ho9;have HA2:Hid (ZaS [115,116,114,105,110,103] Zbx ls=joinR ⟨#[]⟩ [t0]):=by show _=_;exact HA.out
    clear HA;have HA:=HA2;clear HA2;generalize joinR ⟨#[]⟩ [t0]=jr at*;obtain⟨r1,r2⟩:=jr;go_wp2;go_ret2;exact⟨v9,by rw[HA.out];rfl,by rw[HA.out];exact Ho9.out,hB9⟩
   ·have hk1:k=1:=by
     have h:=Hk.out;unfold knV at h;simp[wK0,wK1]at h;omega
    subst hk1;obtain⟨t0,rfl⟩:=List.length_eq_one_iff.1 Htl.out;have hs0:=Hts.out t0 (by simp);have d0:wr.cell? ⟨g,0,none⟩=some (.string t0):=ZJ Hown.out 0 _ rfl;have hx0:=Z0 g 0 1 cap 0 (by decide);clear Hts Hk Htl hg hcap;have Hs0:=Za hs0;have hbsz:=hB.size;clear hs0;go_wp2_with fail;refine(Tryz.utf8_RuneCountInString t0 _ (by have:=Hs0.out;omega)).mono ?_;rintro e w8 ⟨rfl,pos,hw8⟩;have hB8:Below w.heap.size w w8:=by rw[hw8];exact Zei hB
    clear hw8;have HA2:Hid (ZaS [115,116,114,105,110,103,45,108,101,110,103,116,104] Zby ls=([⟨2,(Lib.runeCount t0:Nat),⟨#[]⟩,0⟩],0)):=by show _=_;exact HA.out
    clear HA;have HA:=HA2;clear HA2;generalize Lib.runeCount t0=rc at*;go_wp2_with fail;refine(Zak rc _).mono ?_;rintro e w9 ⟨v9,rfl,ho9,hb9⟩;have Ho9:=Za (ho9.mono hB8.size);have hB9:=Zb hB8 hb9;clear hb9 ho9;go_wp2;go_ret2;exact⟨v9,by rw[HA.out];rfl,by rw[HA.out];exact Ho9.out,hB9⟩
   ·obtain⟨t0,tr,rfl⟩:∃t0 tr,tl=t0::tr:=by
     cases tl with
     |nil=>have:=Htl.out;simp at this;omega
     |cons a b=>exact⟨a,b,rfl⟩
    have d0:wr.cell? ⟨g,0,none⟩=some (.string t0):=ZJ Hown.out 0 _ rfl;have hx0:=Z0 g 0 k cap 0 (by omega);have hbsz:=hB.size;have Hcap:=Za hcap;have Hgl:=Za hglt;clear hg hcap hglt;go_wp2_with fail;refine(Z2 ⟨#[]⟩ (some ⟨g,0,none⟩) k cap (t0::tr) _ (ZcQ Hown.out) Htl.out.symm Hcap.out (by have:=Hnm.out;omega) ?z1concat (by decide) (.inr ⟨_,_,rfl,Hgl.out⟩)).mono ?_
    case z1concat=>intro x hx;have:=Hts.out x hx;omega
    rintro e w9 ⟨v9,rfl,ho9,hb9⟩;have Ho9:=Za (ho9.mono (by first|exact hB.size|exact Nat.le_trans hB.size (by simp)));have hB9:Below w.heap.size w w9:=by first|exact Zu hB hb9|exact Zb hB hb9
    have Hsl:=Zl Ho9.out;clear hb9 ho9;have HA2:Hid (ZaS [99,111,110,99,97,116] ZaX ls=joinR ⟨#[]⟩ (t0::tr)):=by show _=_;exact HA.out
    clear HA;have HA:=HA2;clear HA2;generalize joinR ⟨#[]⟩ (t0::tr)=jr at*;obtain⟨r1,r2⟩:=jr;go_wp2;go_ret2;exact⟨v9,by rw[HA.out];rfl,by rw[HA.out];exact Ho9.out,hB9⟩
   ·have hk1:k=2:=by
     have h:=Hk.out;unfold knV at h;simp[wK0,wK1,wK2]at h;omega
    subst hk1;obtain⟨t0,t1,rfl⟩:=Zct Htl.out;have hs0:=Hts.out t0 (by simp);have hs1:=Hts.out t1 (by simp);have d0:wr.cell? ⟨g,0,none⟩=some (.string t0):=ZJ Hown.out 0 _ rfl;have d1:wr.cell? ⟨g,1,none⟩=some (.string t1):=ZJ Hown.out 1 _ rfl;have hx0:=Z0 g 0 2 cap 0 (by decide);have hx1:=Z0 g 0 2 cap 1 (by decide);rw[Nat.zero_add]at hx1;clear Hts Hk Htl hg hcap;have Hs0:=Za hs0;have hbsz:=hB.size;clear hs0 hs1;go_wp2_with fail;refine(Tryz.strings_Contains t0 t1 m _ (by have:=Hs0.out;omega) (Zc hB Hm.out)).mono ?_;rintro e w8 ⟨rfl,hw8⟩;have hB8:Below w.heap.size w w8:=by rw[hw8];exact hB
    clear hw8;have HA2:Hid (ZaS [99,111,110,116,97,105,110,115] ZaF ls=([⟨4,bN (Lib.contains t0.data.toList t1.data.toList),⟨#[]⟩,0⟩],0)):=by show _=_;exact HA.out
    clear HA;have HA:=HA2;clear HA2;generalize Lib.contains t0.data.toList t1.data.toList=bq at*;go_wp2_with fail;refine(ZR bq _).mono ?_;rintro e w9 ⟨v9,rfl,ho9,hb9⟩;have Ho9:=Za (ho9.mono hB8.size);have hB9:=Zb hB8 hb9;clear hb9 ho9;go_wp2;go_ret2;exact⟨v9,by rw[HA.out];rfl,by rw[HA.out];exact Ho9.out,hB9⟩
   ·have hk1:k=2:=by
     have h:=Hk.out;unfold knV at h;simp[wK0,wK1,wK2]at h;omega
    subst hk1;obtain⟨t0,t1,rfl⟩:=Zct Htl.out;have hs0:=Hts.out t0 (by simp);have hs1:=Hts.out t1 (by simp);have d0:wr.cell? ⟨g,0,none⟩=some (.string t0):=ZJ Hown.out 0 _ rfl;have d1:wr.cell? ⟨g,1,none⟩=some (.string t1):=ZJ Hown.out 1 _ rfl;have hx0:=Z0 g 0 2 cap 0 (by decide);have hx1:=Z0 g 0 2 cap 1 (by decide);rw[Nat.zero_add]at hx1;clear Hts Hk Htl hg hcap;have Hs0:=Za hs0;have hbsz:=hB.size;clear hs0 hs1;go_wp2_with fail;refine(Tryz.strings_HasPrefix t0 t1 _).mono ?_;rintro e w8 ⟨rfl,hw8⟩;have hB8:Below w.heap.size w w8:=by rw[hw8];exact hB
    clear hw8;have HA2:Hid (ZaS [115,116,97,114,116,115,45,119,105,116,104] Zbz ls=([⟨4,bN (Lib.hasPrefix t0.data.toList t1.data.toList),⟨#[]⟩,0⟩],0)):=by show _=_;exact HA.out
    clear HA;have HA:=HA2;clear HA2;generalize Lib.hasPrefix t0.data.toList t1.data.toList=bq at*;go_wp2_with fail;refine(ZR bq _).mono ?_;rintro e w9 ⟨v9,rfl,ho9,hb9⟩;have Ho9:=Za (ho9.mono hB8.size);have hB9:=Zb hB8 hb9;clear hb9 ho9;go_wp2;go_ret2;exact⟨v9,by rw[HA.out];rfl,by rw[HA.out];exact Ho9.out,hB9⟩
   ·have hk1:k=2:=by
     have h:=Hk.out;unfold knV at h;simp[wK0,wK1,wK2]at h;omega
    subst hk1;obtain⟨t0,t1,rfl⟩:=Zct Htl.out;have hs0:=Hts.out t0 (by simp);have hs1:=Hts.out t1 (by simp);have d0:wr.cell? ⟨g,0,none⟩=some (.string t0):=ZJ Hown.out 0 _ rfl;have d1:wr.cell? ⟨g,1,none⟩=some (.string t1):=ZJ Hown.out 1 _ rfl;have hx0:=Z0 g 0 2 cap 0 (by decide);have hx1:=Z0 g 0 2 cap 1 (by decide);rw[Nat.zero_add]at hx1;clear Hts Hk Htl hg hcap;have Hs0:=Za hs0;have hbsz:=hB.size;clear hs0 hs1;go_wp2_with fail;refine(Tryz.strings_HasSuffix t0 t1 _ (by have:=Hs0.out;omega)).mono ?_;rintro e w8 ⟨rfl,hw8⟩;have hB8:Below w.heap.size w w8:=by rw[hw8];exact hB
    clear hw8;have HA2:Hid (ZaS [101,110,100,115,45,119,105,116,104] Zer ls=([⟨4,bN (Lib.hasSuffix t0.data.toList t1.data.toList),⟨#[]⟩,0⟩],0)):=by show _=_;exact HA.out
    clear HA;have HA:=HA2;clear HA2;generalize Lib.hasSuffix t0.data.toList t1.data.toList=bq at*;go_wp2_with fail;refine(ZR bq _).mono ?_;rintro e w9 ⟨v9,rfl,ho9,hb9⟩;have Ho9:=Za (ho9.mono hB8.size);have hB9:=Zb hB8 hb9;clear hb9 ho9;go_wp2;go_ret2;exact⟨v9,by rw[HA.out];rfl,by rw[HA.out];exact Ho9.out,hB9⟩
   ·have hk1:k=1:=by
     have h:=Hk.out;unfold knV at h;simp[wK0,wK1]at h;omega
    subst hk1;obtain⟨t0,rfl⟩:=List.length_eq_one_iff.1 Htl.out;have hs0:=Hts.out t0 (by simp);have d0:wr.cell? ⟨g,0,none⟩=some (.string t0):=ZJ Hown.out 0 _ rfl;have hx0:=Z0 g 0 1 cap 0 (by decide);clear Hts Hk Htl hg hcap;have Hs0:=Za hs0;clear hs0;go_wp2_with fail;refine(ZkV t0 _ (He.out.keep hB).t8 (by have:=Hs0.out;omega)).mono ?_;rintro e w8 ⟨rfl,hb8⟩;have hB8:=Zb hB hb8;clear hb8 hB;have hB:=hB8;clear hB8;have Hmb:=Za (ZgN upF t0);have hfe:Hid (Zcc [t0]=joinR ⟨#[]⟩ [mapB upF t0]):=by show _=_;rfl
    generalize mapB upF t0=mb at*;go_wp2_with fail;refine(Z2 ⟨#[]⟩ (some ⟨w8.heap.size,0,none⟩) 1 1 [mb] _ (Rd.new w8 9 [.string mb]) rfl (by decide) (by decide) ?z1upper_case (by decide) (.inr ⟨_,_,rfl,by simp⟩)).mono ?_
    case z1upper_case=>intro x hx;simp at hx;subst hx;have:=Hs0.out;have:=Hmb.out;omega
    rintro e w9 ⟨v9,rfl,ho9,hb9⟩;have Ho9:=Za (ho9.mono (by first|exact hB.size|exact Nat.le_trans hB.size (by simp)));have hB9:Below w.heap.size w w9:=by first|exact Zu hB hb9|exact Zb hB hb9
    have Hsl:=Zl Ho9.out;clear hb9 ho9;have HA2:Hid (ZaS [117,112,112,101,114,45,99,97,115,101] Zcc ls=joinR ⟨#[]⟩ [mb]):=by show _=_;rw[HA.out];exact hfe.out
    clear HA;have HA:=HA2;clear HA2;generalize joinR ⟨#[]⟩ [mb]=jr at*;obtain⟨r1,r2⟩:=jr;go_wp2;go_ret2;exact⟨v9,by rw[HA.out];rfl,by rw[HA.out];exact Ho9.out,hB9⟩
   ·have hk1:k=1:=by
     have h:=Hk.out;unfold knV at h;simp[wK0,wK1]at h;omega
    subst hk1;obtain⟨t0,rfl⟩:=List.length_eq_one_iff.1 Htl.out;have hs0:=Hts.out t0 (by simp);have d0:wr.cell? ⟨g,0,none⟩=some (.string t0):=ZJ Hown.out 0 _ rfl;have hx0:=Z0 g 0 1 cap 0 (by decide);clear Hts Hk Htl hg hcap;have Hs0:=Za hs0;clear hs0;go_wp2_with fail;refine(ZkX t0 _ (He.out.keep hB).t8 (by have:=Hs0.out;omega)).mono ?_;rintro e w8 ⟨rfl,hb8⟩;have hB8:=Zb hB hb8;clear hb8 hB;have hB:=hB8;clear hB8;have Hmb:=Za (ZgN loF t0);have hfe:Hid (Zcd [t0]=joinR ⟨#[]⟩ [mapB loF t0]):=by show _=_;rfl
    generalize mapB loF t0=mb at*;go_wp2_with fail;refine(Z2 ⟨#[]⟩ (some ⟨w8.heap.size,0,none⟩) 1 1 [mb] _ (Rd.new w8 9 [.string mb]) rfl (by decide) (by decide) ?z1lower_case (by decide) (.inr ⟨_,_,rfl,by simp⟩)).mono ?_
    case z1lower_case=>intro x hx;simp at hx;subst hx;have:=Hs0.out;have:=Hmb.out;omega
    rintro e w9 ⟨v9,rfl,ho9,hb9⟩;have Ho9:=Za (ho9.mono (by first|exact hB.size|exact Nat.le_trans hB.size (by simp)));have hB9:Below w.heap.size w w9:=by first|exact Zu hB hb9|exact Zb hB hb9
    have Hsl:=Zl Ho9.out;clear hb9 ho9;have HA2:Hid (ZaS [108,111,119,101,114,45,99,97,115,101] Zcd ls=joinR ⟨#[]⟩ [mb]):=by show _=_;rw[HA.out];exact hfe.out
    clear HA;have HA:=HA2;clear HA2;generalize joinR ⟨#[]⟩ [mb]=jr at*;obtain⟨r1,r2⟩:=jr;go_wp2;go_ret2;exact⟨v9,by rw[HA.out];rfl,by rw[HA.out];exact Ho9.out,hB9⟩
   ·have hk1:k=1:=by
     have h:=Hk.out;unfold knV at h;simp[wK0,wK1]at h;omega
    subst hk1;obtain⟨t0,rfl⟩:=List.length_eq_one_iff.1 Htl.out;have hs0:=Hts.out t0 (by simp);have d0:wr.cell? ⟨g,0,none⟩=some (.string t0):=ZJ Hown.out 0 _ rfl;have hx0:=Z0 g 0 1 cap 0 (by decide);clear Hts Hk Htl hg hcap;have Hs0:=Za hs0;clear hs0;go_wp2_with fail;refine(Zja t0 _ (by have:=Hs0.out;omega)).mono ?_;rintro e w8 ⟨A,rfl,hA,hown8,hb8⟩;have hB8:=Zb hB hb8;have Hn8:=Za (Zi9 t0);have Hp8:=Za (Zhd t0);have Ho8:=Za hown8
    have hlt8:A<w8.heap.size∨Lib.goFieldsP isBl t0=[]:=by
     rcases hown8.2 with⟨h1,_⟩|⟨g',cap',cur',h1,_,h2,_⟩
     ·cases h1
     ·injection h1 with h1;injection h1 with h1;injection h1 with h1;subst h1;exact .inl (ZD h2)
    have Hlt8:Hid (A<w8.heap.size):=by
     show A<w8.heap.size;rcases hown8.2 with⟨h1,_⟩|⟨g',cap',cur',h1,_,h2,_⟩
     ·cases h1
     ·injection h1 with h1;injection h1 with h1;injection h1 with h1;subst h1;exact ZD h2
    clear hb8 hB hown8 hlt8 hA;have hB:=hB8;clear hB8;have hfe:Hid (ZdA [t0]=joinR ⟨#[32]⟩ (Lib.goFieldsP isBl t0)):=by show _=_;rfl
    generalize Lib.goFieldsP isBl t0=fl at*;obtain⟨q,hq⟩:∃q,q=fl.length:=⟨_,rfl⟩;rw[←hq]at Ho8⊢;have Hq:=Za hq;clear hq;go_wp2_with fail;refine(Z2 ⟨#[32]⟩ (some ⟨A,0,none⟩) q q fl _ (ZcQ Ho8.out) Hq.out (Nat.le_refl _) (by have:=Hn8.out;have:=Hq.out;have:=Hs0.out;omega) ?z1normalize_space (by decide) (.inr ⟨_,_,rfl,Hlt8.out⟩)).mono ?_
    case z1normalize_space=>intro x hx;have:=Hp8.out x hx;have:=Hs0.out;omega
    rintro e w9 ⟨v9,rfl,ho9,hb9⟩;have Ho9:=Za (ho9.mono (by first|exact hB.size|exact Nat.le_trans hB.size (by simp)));have hB9:Below w.heap.size w w9:=by first|exact Zu hB hb9|exact Zb hB hb9
    have Hsl:=Zl Ho9.out;clear hb9 ho9;have HA2:Hid (ZaS [110,111,114,109,97,108,105,122,101,45,115,112,97,99,101] ZdA ls=joinR ⟨#[32]⟩ fl):=by show _=_;rw[HA.out];exact hfe.out
    clear HA;have HA:=HA2;clear HA2;generalize joinR ⟨#[32]⟩ fl=jr at*;obtain⟨r1,r2⟩:=jr;go_wp2;go_ret2;exact⟨v9,by rw[HA.out];rfl,by rw[HA.out];exact Ho9.out,hB9⟩
end Go.Proofs.YtnnfhojhbbcbmaaGreatDoor
namespace Go.Proofs.YtnnfhojhbbcbmaaGreatDoor
open Go.RowKit
theorem ZiH(b:UInt8):∀n,Lib.repeatL [b] n=List.replicate n b
 |0=>rfl
 |n+1=>by rw[List.replicate_succ,←ZiH b n];rfl
def ZdE(n:Nat)(b:UInt8):ByteArray:=⟨(List.replicate n b).toArray⟩
theorem Zk2(n:Nat)(b:UInt8):(ZdE n b).size=n:=by show(List.replicate n b).toArray.size=n;simp
theorem Zkg(r:Nat)(b:UInt8)(h:Lib.encodeRune (r:Int)=[b]):∀n,enc (List.replicate n r)=List.replicate n b
 |0=>rfl
 |n+1=>by
  rw[List.replicate_succ,List.replicate_succ];show Lib.encodeRune (r:Int)++enc _=_;rw[h,Zkg r b h n];rfl
structure Txt (t:ByteArray) (n:Nat):Prop where
 s:t.size=n
 n:n≤40000
 t:tS t=true
theorem ZfG(n r:Nat)(b:UInt8)(hn:n≤40000)(h:Lib.encodeRune (r:Int)=[b])(hr:ZbL r=true):Txt (ZdE n b) n:=
 ⟨Zk2 n b,hn,ZoR (rs:=List.replicate n r) (fun x hx=>by rw[List.eq_of_mem_replicate hx];exact hr) (by rw[Zkg r b h n];simp[ZdE])⟩
theorem Txt.ok {t:ByteArray}{n:Nat}(h:Txt t n):okI ⟨3,0,t,0⟩=true:=by unfold okI;simp[h.t]
theorem Txt.str {t:ByteArray}{n:Nat}(h:Txt t n):strV [⟨3,0,t,0⟩]=(t,0):=by unfold strV;simp[h.ok,txt]
theorem Zfb(sep a b:ByteArray):(joinB sep [a,b]).size=a.size+sep.size+b.size:=by have:=ZcU sep [a,b] (by simp);simp only[szS]at this;omega
theorem Zkh(p q:Option Addr)(c d:Nat){t u:ByteArray}{n k:Nat}(ht:Txt t n)(hu:Txt u k):(ZaS [99,111,110,99,97,116] ZaX [⟨p,[⟨3,0,t,0⟩],c⟩,⟨q,[⟨3,0,u,0⟩],d⟩]).2=if 65536<n+k then 3 else 0:=by unfold ZaS;rw[if_pos (by simp[rightL,ht.ok,hu.ok])];show Prod.snd (if knV [99,111,110,99,97,116] 2=true then _ else _)=_;rw[if_pos (by decide+kernel),if_pos (by simp[Zck,ht.str,hu.str])];show(joinR ⟨#[]⟩ (txs _)).2=_;rw[show txs [⟨p,[⟨3,0,t,0⟩],c⟩,⟨q,[⟨3,0,u,0⟩],d⟩]=[t,u] by simp[txs,ht.str,hu.str]];unfold joinR;rw[Zfb,ht.s,hu.s,show ByteArray.size ⟨#[]⟩=0 from rfl,Nat.add_zero];split<;>rfl
theorem Zmh(p q:Option Addr)(c d:Nat){t u:ByteArray}{n k:Nat}(ht:Txt t n)(hu:Txt u k)(h:n+k+1≤65536):(Zcz [⟨p,[⟨3,0,t,0⟩,⟨2,1,⟨#[]⟩,0⟩],c⟩,⟨q,[⟨3,0,u,0⟩],d⟩]).2=0:=by
 unfold Zcz;have h1:okI ⟨2,1,⟨#[]⟩,0⟩=true:=by decide+kernel
 rw[if_pos (by simp[rightL,ht.ok,hu.ok,h1])];show Prod.snd (if knV [115,116,114,105,110,103,45,106,111,105,110] 2=true then _ else _)=_;rw[if_pos (by decide+kernel)];show Prod.snd (if (strV [⟨3,0,u,0⟩]).2=0 then joinR (strV [⟨3,0,u,0⟩]).1 (txL [⟨3,0,t,0⟩,⟨2,1,⟨#[]⟩,0⟩])else _)=_;rw[hu.str,if_pos rfl,show txL [⟨3,0,t,0⟩,⟨2,1,⟨#[]⟩,0⟩]=[t,txt ⟨2,1,⟨#[]⟩,0⟩] by simp[txL,txt]];unfold joinR;rw[Zfb,ht.s,hu.s,show(txt ⟨2,1,⟨#[]⟩,0⟩).size=1 by decide+kernel,if_neg (by omega)]
theorem ZhU {ls:List Lst}{x y:List It}(h:ls.map Lst.l=[x,y]):∃p c q d,ls=[⟨p,x,c⟩,⟨q,y,d⟩]:=by
 match ls,h with
 | [⟨p,_,c⟩,⟨q,_,d⟩],h=>simp only[List.map_cons,List.map_nil,List.cons.injEq,and_true]at h;obtain⟨rfl,rfl⟩:=h;exact⟨p,c,q,d,rfl⟩
end Go.Proofs.YtnnfhojhbbcbmaaGreatDoor
namespace Go.Proofs
open Go.Shelf
def Tryz.lays105_ren:Go.Shelf.Ren:=⟨fun|105=>13|212=>38|99=>39|165=>40|166=>41|170=>42|169=>43|263=>86|264=>87|206=>88|240=>89|241=>90|276=>147|277=>148|n=>n,fun|9=>9|3=>3|4=>4|20=>20|0=>0|46=>56|109=>57|5=>5|72=>63|76=>67|51=>123|146=>124|53=>126|148=>127|70=>60|37=>61|75=>66|127=>129|164=>181|80=>70|n=>n,fun|n=>n⟩
theorem Tryz.lays105:Go.Proofs.Lays.n105 Tryz.prog Tryz.lays105_ren:={
 mixed:=by kernel_rfl
 f99:=Tryz.func39.trans (congrArg some (by kernel_rfl))
 f105:=Tryz.func13.trans (congrArg some (by kernel_rfl))
 f165:=Tryz.func40.trans (congrArg some (by kernel_rfl))
 f166:=Tryz.func41.trans (congrArg some (by kernel_rfl))
 f169:=Tryz.func43.trans (congrArg some (by kernel_rfl))
 f170:=Tryz.func42.trans (congrArg some (by kernel_rfl))
 f206:=Tryz.func88.trans (congrArg some (by kernel_rfl))
 f212:=Tryz.func38.trans (congrArg some (by kernel_rfl))
 f240:=Tryz.func89.trans (congrArg some (by kernel_rfl))
 f241:=Tryz.func90.trans (congrArg some (by kernel_rfl))
 f263:=Tryz.func86.trans (congrArg some (by kernel_rfl))
 f264:=Tryz.func87.trans (congrArg some (by kernel_rfl))
 f276:=Tryz.func147.trans (congrArg some (by kernel_rfl))
 f277:=Tryz.func148.trans (congrArg some (by kernel_rfl))
 t0:=Tryz.underlying0
 a0:=Tryz.isAgg0
 z0:=Tryz.sizeOf0
 v0:=Tryz.zeroValue0
 t3:=Tryz.underlying3
 a3:=Tryz.isAgg3
 z3:=Tryz.sizeOf3
 v3:=Tryz.zeroValue3
 t4:=Tryz.underlying4
 a4:=Tryz.isAgg4
 z4:=Tryz.sizeOf4
 v4:=Tryz.zeroValue4
 t5:=Tryz.underlying5
 a5:=Tryz.isAgg5
 z5:=Tryz.sizeOf5
 v5:=Tryz.zeroValue5
 t9:=Tryz.underlying9
 a9:=Tryz.isAgg9
 z9:=Tryz.sizeOf9
 v9:=Tryz.zeroValue9
 t20:=Tryz.underlying20
 a20:=Tryz.isAgg20
 z20:=Tryz.sizeOf20
 v20:=Tryz.zeroValue20
 t37:=Tryz.underlying61
 a37:=Tryz.isAgg61
 z37:=Tryz.sizeOf61
 v37:=Tryz.zeroValue61
 t46:=Tryz.underlying56
 a46:=Tryz.isAgg56
 z46:=Tryz.sizeOf56
 v46:=Tryz.zeroValue56
 t51:=Tryz.underlying123
 a51:=Tryz.isAgg123
 z51:=Tryz.sizeOf123
 v51:=Tryz.zeroValue123
 t53:=Tryz.underlying126
 a53:=Tryz.isAgg126
 z53:=Tryz.sizeOf126
 v53:=Tryz.zeroValue126
 t70:=Tryz.underlying60
 a70:=Tryz.isAgg60
 z70:=Tryz.sizeOf60
 v70:=Tryz.zeroValue60
 t72:=Tryz.underlying63
 a72:=Tryz.isAgg63
 z72:=Tryz.sizeOf63
 v72:=Tryz.zeroValue63
 t75:=Tryz.underlying66
 a75:=Tryz.isAgg66
 z75:=Tryz.sizeOf66
 v75:=Tryz.zeroValue66
 t76:=Tryz.underlying67
 a76:=Tryz.isAgg67
 z76:=Tryz.sizeOf67
 v76:=Tryz.zeroValue67
 t109:=Tryz.underlying57
 a109:=Tryz.isAgg57
 z109:=Tryz.sizeOf57
 v109:=Tryz.zeroValue57
 t127:=Tryz.underlying129
 a127:=Tryz.isAgg129
 z127:=Tryz.sizeOf129
 v127:=Tryz.zeroValue129
 t146:=Tryz.underlying124
 a146:=Tryz.isAgg124
 z146:=Tryz.sizeOf124
 v146:=Tryz.zeroValue124
 t148:=Tryz.underlying127
 a148:=Tryz.isAgg127
 z148:=Tryz.sizeOf127
 v148:=Tryz.zeroValue127
 t164:=Tryz.underlying181
 a164:=Tryz.isAgg181
 z164:=Tryz.sizeOf181
 v164:=Tryz.zeroValue181}
theorem Tryz.Builder_Extra_105:Builder.Extra Tryz.prog Tryz.lays105_ren:={
 sizeBuilder:=by kernel_rfl
 liesBuilder:=by kernel_rfl
 t5:=Tryz.underlying5
 a5:=Tryz.isAgg5
 z5:=Tryz.sizeOf5
 v5:=Tryz.zeroValue5
 infoByte:=by kernel_rfl
 cellsByte:=by kernel_rfl
 sizeByte:=by kernel_rfl
 neB5:=by decide}
open Go.RowKit Go.Lib in
theorem Tryz.strings_Repeat(s:ByteArray)(c:Nat)(w:World)(hc:c≤9223372036854775807)(hlen:s.size*c≤140737488355328):
  Calls Tryz.prog 13 #[.string s,.int .i64 c] w fun e w'=>e= .returned (.string ⟨(Lib.repeatL s.data.toList c).toArray⟩)∧Below w.heap.size w w':=Any.strings_Repeat Tryz.lays105 Tryz.Builder_Extra_105 s c w hc hlen
end Go.Proofs
