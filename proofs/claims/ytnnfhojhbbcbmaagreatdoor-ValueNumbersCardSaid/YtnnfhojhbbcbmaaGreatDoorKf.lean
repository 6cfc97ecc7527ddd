/- value.one at any row; value.substring at any rows. -/
import Derived.Test.YtnnfhojhbbcbmaaGreatDoorC15
import Derived.Test.YtnnfhojhbbcbmaaGreatDoorC13
import Derived.Test.YtnnfhojhbbcbmaaGreatDoorC07
namespace Go.Proofs.YtnnfhojhbbcbmaaGreatDoor
set_option maxRecDepth 100000
set_option maxHeartbeats 8000000
open Go.RowKit
def oneV:List It→Int×Int
 | []=>(0,250)
 | [x]=>(nV x,nE x)
 |_=>(0,253)
theorem Zpu(s:ByteArray):R64 (whN s):=by
 unfold whN;split
 ·rename_i v hv;split
  ·exact Ze7 hv
  ·unfold R64;decide
 ·unfold R64;decide
theorem ZgO {x:It}(h:R64 x.num):R64 (nV x):=by
 unfold nV;split
 ·exact h
 ·exact Zpu _
theorem ZfV {l:List It}(h:∀y∈l,R64 y.num):R64 (oneV l).1:=by
 match l,h with
 | [],_=>unfold R64;decide
 | [x],h=>exact ZgO (h x (by simp))
 |_::_::_,_=>show R64 0;unfold R64;decide
theorem ZdQ(p:Option Addr)(n c:Nat)(l:List It)(w:World)(he:Env w)(ha:OkA w ⟨p,l,c⟩)(hn:n=l.length):
  Calls Tryz.prog 99 #[.slice p n c] w fun e w'=>e= .returned (.tuple #[.int .i64 (oneV l).1,.int .i64 (oneV l).2])∧Below w.heap.size w w':=by
 have Ha:=Za ha;have He:=Za he;have hnl:n<9223372036854775807:=by rw[hn];exact ha.2.2
 clear ha he
 match l with
 | []=>
  have HT:Hid (oneV []=(0,250)):=by show _=_;rfl
  have hn0:n=0:=hn;subst hn0;clear hn;go_enter Tryz.func99,Tryz.ntmps99;go_wp2;go_ret2;exact⟨by rw[HT.out];rfl,Below.refl _ _⟩
 | [x]=>
  have HT:Hid (oneV [x]=(nV x,nE x)):=by show _=_;rfl
  have hn0:n=1:=hn;subst hn0;clear hn;obtain⟨b,off,hp,c0,c1,c2,c3⟩:=at0 Ha.out.1;dsimp only at hp;subst hp;have hix:=ZaP b off 1 c (by omega);have hs:=Ha.out.2.1 x (by simp);obtain⟨xk,xa,xt,xd⟩:=x;dsimp only at c0 c1 c2 c3 hs;go_enter Tryz.func99,Tryz.ntmps99;go_wp2_with fail;refine(Zax xk xa xd xt _ He.out hs).mono ?_;rintro e w1 ⟨rfl,hb1⟩;clear c0 c1 c2 c3;generalize nV ⟨xk,xa,xt,xd⟩=nv at*;generalize nE ⟨xk,xa,xt,xd⟩=ne at*;go_wp2;go_ret2;exact⟨by rw[HT.out];rfl,hb1⟩
 |x::y::r=>
  have HT:Hid (oneV (x::y::r)=(0,253)):=by show _=_;rfl
  obtain⟨m,hm⟩:∃m,m=r.length:=⟨_,rfl⟩;have hn0:n=m+2:=by rw[hn,hm];rfl
  have g1:((n:Int)==0)=false:=by simpa using(show(n:Int)≠0 by omega)
  have g2:((n:Int)==1)=false:=by simpa using(show(n:Int)≠1 by omega)
  have g3:¬n=0:=by omega
  have g4:¬n=1:=by omega
  have g5:(n==0)=false:=by simpa using g3
  have g6:(n==1)=false:=by simpa using g4
  clear hn hn0 hm;go_enter Tryz.func99,Tryz.ntmps99;go_wp2;go_ret2;exact⟨by rw[HT.out];rfl,Below.refl _ _⟩
def Zar(s:ByteArray)(n e:Int):Nat→Nat→Int→List UInt8
 |0,_,_=>[]
 |f+1,pos,p=>if pos<s.size then(if n≤p+1∧p+1<e then Lib.encodeRune ((Utf8.decode s pos).1:Int)else [])++Zar s n e f (pos+(Utf8.decode s pos).2) (p+1)else []
theorem Zd7(s:ByteArray)(n e:Int):∀(f g pos:Nat) (p:Int),s.size≤pos+f→s.size≤pos+g→Zar s n e f pos p=Zar s n e g pos p
 |0,0,_,_,_,_=>rfl
 |0,g+1,pos,p,h,_=>by unfold Zar;rw[if_neg (by omega)]
 |f+1,0,pos,p,_,h=>by unfold Zar;rw[if_neg (by omega)]
 |f+1,g+1,pos,p,h1,h2=>by
  unfold Zar;by_cases h:pos<s.size
  ·have:=Lib.decode_width_pos s pos h;rw[if_pos h,if_pos h,Zd7 s n e f g _ _ (by omega) (by omega)]
  ·rw[if_neg h,if_neg h]
theorem Zb1(s:ByteArray)(n e:Int)(pos:Nat)(p:Int)(h:pos<s.size):Zar s n e s.size pos p=(if n≤p+1∧p+1<e then Lib.encodeRune ((Utf8.decode s pos).1:Int)else [])++Zar s n e s.size (pos+(Utf8.decode s pos).2) (p+1):=by
 have:=Lib.decode_width_pos s pos h;rw[Zd7 s n e s.size (s.size+1) pos p (by omega) (by omega)]
 conv=>lhs;unfold Zar
 rw[if_pos h]
theorem ZcL(s:ByteArray)(n e:Int)(pos:Nat)(p:Int)(h:¬pos<s.size):Zar s n e s.size pos p=[]:=by rw[Zd7 s n e s.size 0 pos p (by omega) (by omega)];rfl
def cutB(s:ByteArray)(n e:Int):ByteArray:=⟨(Zar s n e s.size 0 0).toArray⟩
def i64max:Int:=9223372036854775807
def endV(n m:Int):Int:=if fit (n+m)=true then n+m else if m<0 then 0 else i64max
def subV:List Lst→List It×Int
 | [a,b]=>if (strV a.l).2≠0 then([],(strV a.l).2)else if (oneV b.l).2≠0 then([],(oneV b.l).2)else joinR ⟨#[]⟩ [cutB (strV a.l).1 (oneV b.l).1 i64max]
 | [a,b,c]=>if (strV a.l).2≠0 then([],(strV a.l).2)else if (oneV b.l).2≠0 then([],(oneV b.l).2)else if (oneV c.l).2≠0 then([],(oneV c.l).2)else joinR ⟨#[]⟩ [cutB (strV a.l).1 (oneV b.l).1 (endV (oneV b.l).1 (oneV c.l).1)]
 |_=>([],0)
theorem ZaH(a b:List UInt8):Lib.byteCells (a++b)=Lib.byteCells a++Lib.byteCells b:=by simp[Lib.byteCells]
theorem ZmW(s:ByteArray)(k:Nat)(h:k<s.size):k+(Utf8.decode s k).2≤s.size:=by
 rw[Lib.decode_at];obtain⟨m,hm⟩:∃m,m=s.size-k:=⟨_,rfl⟩;rw[←hm]
 have h2:∀a b c d:Nat,(Lib.decodeN m a b c d).2≤m:=by
  intro a b c d;unfold Lib.decodeN
  repeat' split
  all_goals (simp only;omega)
 have:=h2 (s.get! k).toNat (s.get! (k+1)).toNat (s.get! (k+2)).toNat (s.get! (k+3)).toNat;omega
theorem Zmc(b off c:Nat)(la lb:Lst)(w:World)(he:Env w)(hr:Rd w (some ⟨b,off,none⟩) ([la,lb].map Lst.v))(hoka:OkA w la)(hokb:OkA w lb)(hRa:∀y∈la.l,R64 y.num)(hRb:∀y∈lb.l,R64 y.num)(hsa:∀y∈la.l,y.text.size≤100000):
  Calls Tryz.prog 94 #[.slice (some ⟨b,off,none⟩) 2 c] w (Res w (subV [la,lb]).1 (subV [la,lb]).2):=by
 have He:=Za he;have Hr:=Za hr;have Ha:=Za hoka;have Hb:=Za hokb;have Hra:=Za hRa;have Hrb:=Za hRb;have Hts:=Za (ZaM la.l hRa hsa);have HnR:=Za (ZfV hRb);have Hall:Hid (subV [la,lb]=if (strV la.l).2≠0 then([],(strV la.l).2)else if (oneV lb.l).2≠0 then([],(oneV lb.l).2)else joinR ⟨#[]⟩ [cutB (strV la.l).1 (oneV lb.l).1 i64max]):=by show _=_;rfl
 have hix0:=Zp b off 2 c (by decide);have hix1:=ZP b off 2 c 1 (by decide);obtain⟨aa,al,ac⟩:=la;obtain⟨ba,bl,bc⟩:=lb;obtain⟨qa,hqa⟩:∃q,q=al.length:=⟨_,rfl⟩;obtain⟨qb,hqb⟩:∃q,q=bl.length:=⟨_,rfl⟩;have Hca:Hid (∀W,Below w.heap.size w W→W.cell? ⟨b,off,none⟩=some (.slice aa qa ac)):=by show ∀W,_;intro W hW;obtain⟨b1,off1,e1,h⟩:=(Hr.out.keep hW).cellAt 0 _ rfl;injection e1 with e1;injection e1 with e1 e2;subst e1 e2;rw[Nat.add_zero]at h;rw[hqa];exact h
 have Hcb:Hid (∀W,Below w.heap.size w W→W.cell? ⟨b,off+1,none⟩=some (.slice ba qb bc)):=by show ∀W,_;intro W hW;obtain⟨b1,off1,e1,h⟩:=(Hr.out.keep hW).cellAt 1 _ rfl;injection e1 with e1;injection e1 with e1 e2;subst e1 e2;rw[hqb];exact h
 have Hqa:=Za hqa;have Hqb:=Za hqb;clear he hr hoka hokb hRa hRb hsa hqa hqb;dsimp only at Hts HnR Hall;have c0:=Hca.out w (Below.refl _ _);go_enter Tryz.func94,Tryz.ntmps94;go_wp2_with fail;refine(Zbw aa qa ac al _ He.out Ha.out Hra.out Hqa.out).mono ?_;rintro e w1 ⟨rfl,hb1⟩;clear c0;by_cases hz0:(strV al).2=0
 ·rw[hz0];have Hall2:Hid (subV [⟨aa,al,ac⟩,⟨ba,bl,bc⟩]=if (oneV bl).2≠0 then([],(oneV bl).2)else joinR ⟨#[]⟩ [cutB (strV al).1 (oneV bl).1 i64max]):=by show _=_;rw[Hall.out,if_neg (by rw[hz0];simp)]
  generalize (strV al).1=sT at*;clear hz0 Hall;have c1:=Hcb.out w1 hb1;go_wp2_with fail;refine(ZdQ ba qb bc bl _ (He.out.keep hb1) ⟨Hb.out.1.keep hb1,Hb.out.2⟩ Hqb.out).mono ?_;rintro e w2 ⟨rfl,hb2⟩;have hB2:=Zb hb1 hb2;clear hb2 c1 hb1;by_cases hz1:(oneV bl).2=0
  ·rw[hz1];have HA:Hid (subV [⟨aa,al,ac⟩,⟨ba,bl,bc⟩]=joinR ⟨#[]⟩ [cutB sT (oneV bl).1 9223372036854775807]):=by show _=_;rw[Hall2.out,if_neg (by rw[hz1];simp)];rfl
   generalize (oneV bl).1=nV0 at*;clear hz1 Hall2;have hlen2:=ZmW sT;go_wp2_with fail;refine(ZcG nV0 9223372036854775807 HnR.out (by unfold R64;decide) _).mono ?_;rintro e w3 ⟨rfl,hw3⟩;have hB3:Below w.heap.size w w3:=by rw[←hw3];exact hB2
   clear hw3 hB2;have hts:=Hts.out;generalize wrap64 (nV0+9223372036854775807)=wv at*;generalize fit (nV0+9223372036854775807)=fv at*;cases fv with
   |true=>
    have hne:(w3.heap.size+1)≠w3.heap.size:=by omega
    have hbw:w.heap.size≤w3.heap.size:=hB3.size;have hiw:w.heap.size≤(w3.heap.size+1):=by omega
    have hk:=Blk.new w3 63 #[.pointer none,.slice none 0 0];have hbd0:=ZdP _ w.heap.size w3.heap.size hbw hk;have hB5:=hB3.alloc hB3.size (.cells #[.pointer none,.slice none 0 0] 63);obtain⟨E,hE⟩:∃E:Int,E=(9223372036854775807:Int):=⟨_,rfl⟩;go_wp2_with fail;go_loopw[11,13] (fun p _ W=>∃(k pl:Nat) (B0:List UInt8),pl≤k∧k≤sT.size∧p= .int .i64 pl∧Hid (B0++Zar sT nV0 E sT.size k pl=Zar sT nV0 E sT.size 0 0)∧B0.length≤4*pl∧W.heap[(w3.heap.size+1)]? =some (.stringIter sT k)∧Lib.IsBuilderF 63 5 w.heap.size w3.heap.size (Lib.byteCells B0) W∧Below w.heap.size w W) (fun _ _ W=>sT.size-W.iterPos (w3.heap.size+1))
    case atStart=>exact⟨0,0,[],Nat.le_refl _,Nat.zero_le _,rfl,Za rfl,by simp,Zb5 _ _ _ (by simp),hbd0.alloc _,hB5.alloc hB5.size _⟩
    case round=>
     clear hB3 hB5 hbd0 hk;obtain⟨k,pl,B0,hpk,hks,rfl,HB,hBl,hit,hbd,hB⟩:=hrel;by_cases hlt:k<sT.size
     ·have hnx:∀ty,(Instr.next (.pointer (some ⟨(w3.heap.size+1),0,none⟩)) true ty).run Tryz.prog wr=_:=fun ty=>Lib.run_next_any_at wr (w3.heap.size+1) sT k ty hit hlt;have hwd:=Lib.decode_width_pos sT k hlt;have hrl:=Lib.rune_le sT k;have hst:=Zb1 sT nV0 E k pl hlt;obtain⟨r,hr⟩:∃r:Nat,r=(Utf8.decode sT k).1:=⟨_,rfl⟩;obtain⟨d,hd⟩:∃d:Nat,d=(Utf8.decode sT k).2:=⟨_,rfl⟩;rw[←hr,←hd]at hnx hst;rw[←hr]at hrl;rw[←hd]at hwd;have hit2:=Lib.iterAt_heap wr (w3.heap.size+1) sT k (k+d) hit;have hB2:=Lib.below_iterAt hB (k:=(w3.heap.size+1)) (by omega) sT (k+d);have hbd2:=hbd.iterAt hit (k+d);have hsz:=Lib.iterAt_size wr (w3.heap.size+1) sT (k+d);have hs2:=hB.size;have Hst:=Za hst;have hkd:k+d≤sT.size:=by rw[hd];exact hlen2 k hlt
      clear hr hd hst;by_cases hin:nV0≤(pl:Int)+1∧(pl:Int)+1<E
      ·have h1:nV0≤(pl:Int)+1:=hin.1;have h2:(pl:Int)+1<(9223372036854775807:Int):=by rw[←hE];exact hin.2
       have HB2:Hid ((B0++Lib.encodeRune (r:Int))++Zar sT nV0 E sT.size (k+d) ((pl+1:Nat):Int)=Zar sT nV0 E sT.size 0 0):=by show _=_;rw[←HB.out,Hst.out,if_pos hin,List.append_assoc];rfl
       have Hin:=Za hin;clear hin HB Hst;go_wp2_with fail;refine(ZfR w.heap.size w3.heap.size (Lib.byteCells B0) r (by omega) (by omega) _ hbd2 ?l1 ?l2).mono ?_
       case l1=>rw[Lib.byteCells_length];omega
       case l2=>rw[hsz];exact hs2
       rintro e w9 ⟨rfl,hbd9,hb9,hk9⟩;have hB9:=hB2.trans hb9;have hit9:=hk9.iter hit2 hne;rw[←Lib.byteCells_encodeRune,←ZaH]at hbd9;have hl9:(B0++Lib.encodeRune (r:Int)).length≤4*(pl+1):=by rw[List.length_append];have:=Zce (r:Int);omega
       have e1:wr.iterPos (w3.heap.size+1)=k:=by simp[World.iterPos,hit]
       have e2:w9.iterPos (w3.heap.size+1)=k+d:=by simp[World.iterPos,hit9]
       clear hb9 hk9 hnx;go_wp2;go_roundw
       case rel=>exact⟨k+d,pl+1,_,by omega,hkd,by simp,HB2,hl9,hit9,.inr hbd9,hB9⟩
       case measure=>rw[e1,e2];omega
      ·have HB2:Hid (B0++Zar sT nV0 E sT.size (k+d) ((pl+1:Nat):Int)=Zar sT nV0 E sT.size 0 0):=by
        show _=_;rw[←HB.out,Hst.out,if_neg hin];rfl
       have e1:wr.iterPos (w3.heap.size+1)=k:=by simp[World.iterPos,hit]
       have e2:(wr.iterAt (w3.heap.size+1) sT (k+d)).iterPos (w3.heap.size+1)=k+d:=by simp[World.iterPos,hit2]
       by_cases h1:nV0≤(pl:Int)+1
       ·have h2:¬(pl:Int)+1<(9223372036854775807:Int):=by rw[←hE];exact fun h=>hin ⟨h1,h⟩
        have h2d:decide ((pl:Int)+1<(9223372036854775807:Int))=false:=decide_eq_false h2;clear hin HB Hst;go_wp2;go_roundw
        case rel=>exact⟨k+d,pl+1,B0,by omega,hkd,by simp,HB2,by omega,hit2,hbd2,hB2⟩
        case measure=>rw[e1,e2];omega
       ·have h1d:decide (nV0≤(pl:Int)+1)=false:=decide_eq_false h1;clear hin HB Hst;go_wp2;go_roundw
        case rel=>exact⟨k+d,pl+1,B0,by omega,hkd,by simp,HB2,by omega,hit2,hbd2,hB2⟩
        case measure=>rw[e1,e2];omega
     ·have hnx:∀ty,(Instr.next (.pointer (some ⟨(w3.heap.size+1),0,none⟩)) true ty).run Tryz.prog wr=_:=fun ty=>Lib.run_next_end_at wr (w3.heap.size+1) sT k ty hit hlt;have hBe:cutB sT nV0 E=⟨B0.toArray⟩:=by unfold cutB;rw[←HB.out,ZcL sT nV0 E k pl hlt,List.append_nil]
      have hfin:Hid (subV [⟨aa,al,ac⟩,⟨ba,bl,bc⟩]=joinR ⟨#[]⟩ [⟨B0.toArray⟩]):=by show _=_;rw[HA.out,←hBe,hE]
      have hbz:Hid ((ByteArray.mk B0.toArray).size≤400000):=by show B0.toArray.size≤_;rw[List.size_toArray];omega
      clear HB hBe;go_wp2_with fail;refine(Tryz.Builder_String_any_k w.heap.size w3.heap.size B0 _ hbd hB.size).mono ?_;rintro e w9 ⟨rfl,_,hb9,_⟩;have hB9:=hB.trans hb9;clear hb9 hnx hB hbd hit;generalize (⟨B0.toArray⟩:ByteArray)=tb at*;go_wp2_with fail;refine(Z2 ⟨#[]⟩ (some ⟨w9.heap.size,0,none⟩) 1 1 [tb] _ (Rd.new w9 9 [.string tb]) rfl (by decide) (by decide) ?z1 (by decide) (.inr ⟨_,_,rfl,by simp⟩)).mono ?_
      case z1=>intro x hx;simp at hx;subst hx;have:=hbz.out;omega
      rintro e w10 ⟨v9,rfl,ho9,hb10⟩;have Ho9:=Za (ho9.mono (Nat.le_trans hB9.size (by simp)));have hB10:=Zu hB9 hb10;clear ho9 hb10 hB9;generalize joinR ⟨#[]⟩ [tb]=jr at*;obtain⟨r1,r2⟩:=jr;go_wp2;go_ret2;exact⟨v9,by rw[hfin.out];rfl,by rw[hfin.out];exact Ho9.out,hB10⟩
   |false=>
    have hne:(w3.heap.size+1)≠w3.heap.size:=by omega
    have hbw:w.heap.size≤w3.heap.size:=hB3.size;have hiw:w.heap.size≤(w3.heap.size+1):=by omega
    have hk:=Blk.new w3 63 #[.pointer none,.slice none 0 0];have hbd0:=ZdP _ w.heap.size w3.heap.size hbw hk;have hB5:=hB3.alloc hB3.size (.cells #[.pointer none,.slice none 0 0] 63);obtain⟨E,hE⟩:∃E:Int,E=(9223372036854775807:Int):=⟨_,rfl⟩;go_wp2_with fail;go_loopw[11,13] (fun p _ W=>∃(k pl:Nat) (B0:List UInt8),pl≤k∧k≤sT.size∧p= .int .i64 pl∧Hid (B0++Zar sT nV0 E sT.size k pl=Zar sT nV0 E sT.size 0 0)∧B0.length≤4*pl∧W.heap[(w3.heap.size+1)]? =some (.stringIter sT k)∧Lib.IsBuilderF 63 5 w.heap.size w3.heap.size (Lib.byteCells B0) W∧Below w.heap.size w W) (fun _ _ W=>sT.size-W.iterPos (w3.heap.size+1))
    case atStart=>exact⟨0,0,[],Nat.le_refl _,Nat.zero_le _,rfl,Za rfl,by simp,Zb5 _ _ _ (by simp),hbd0.alloc _,hB5.alloc hB5.size _⟩
    case round=>
     clear hB3 hB5 hbd0 hk;obtain⟨k,pl,B0,hpk,hks,rfl,HB,hBl,hit,hbd,hB⟩:=hrel;by_cases hlt:k<sT.size
     ·have hnx:∀ty,(Instr.next (.pointer (some ⟨(w3.heap.size+1),0,none⟩)) true ty).run Tryz.prog wr=_:=fun ty=>Lib.run_next_any_at wr (w3.heap.size+1) sT k ty hit hlt;have hwd:=Lib.decode_width_pos sT k hlt;have hrl:=Lib.rune_le sT k;have hst:=Zb1 sT nV0 E k pl hlt;obtain⟨r,hr⟩:∃r:Nat,r=(Utf8.decode sT k).1:=⟨_,rfl⟩;obtain⟨d,hd⟩:∃d:Nat,d=(Utf8.decode sT k).2:=⟨_,rfl⟩;rw[←hr,←hd]at hnx hst;rw[←hr]at hrl;rw[←hd]at hwd;have hit2:=Lib.iterAt_heap wr (w3.heap.size+1) sT k (k+d) hit;have hB2:=Lib.below_iterAt hB (k:=(w3.heap.size+1)) (by omega) sT (k+d);have hbd2:=hbd.iterAt hit (k+d);have hsz:=Lib.iterAt_size wr (w3.heap.size+1) sT (k+d);have hs2:=hB.size;have Hst:=Za hst;have hkd:k+d≤sT.size:=by rw[hd];exact hlen2 k hlt
      clear hr hd hst;by_cases hin:nV0≤(pl:Int)+1∧(pl:Int)+1<E
      ·have h1:nV0≤(pl:Int)+1:=hin.1;have h2:(pl:Int)+1<(9223372036854775807:Int):=by rw[←hE];exact hin.2
       have HB2:Hid ((B0++Lib.encodeRune (r:Int))++Zar sT nV0 E sT.size (k+d) ((pl+1:Nat):Int)=Zar sT nV0 E sT.size 0 0):=by show _=_;rw[←HB.out,Hst.out,if_pos hin,List.append_assoc];rfl
       have Hin:=Za hin;clear hin HB Hst;go_wp2_with fail;refine(ZfR w.heap.size w3.heap.size (Lib.byteCells B0) r (by omega) (by omega) _ hbd2 ?l1 ?l2).mono ?_
       case l1=>rw[Lib.byteCells_length];omega
       case l2=>rw[hsz];exact hs2
       rintro e w9 ⟨rfl,hbd9,hb9,hk9⟩;have hB9:=hB2.trans hb9;have hit9:=hk9.iter hit2 hne;rw[←Lib.byteCells_encodeRune,←ZaH]at hbd9;have hl9:(B0++Lib.encodeRune (r:Int)).length≤4*(pl+1):=by rw[List.length_append];have:=Zce (r:Int);omega
       have e1:wr.iterPos (w3.heap.size+1)=k:=by simp[World.iterPos,hit]
       have e2:w9.iterPos (w3.heap.size+1)=k+d:=by simp[World.iterPos,hit9]
       clear hb9 hk9 hnx;go_wp2;go_roundw
       case rel=>exact⟨k+d,pl+1,_,by omega,hkd,by simp,HB2,hl9,hit9,.inr hbd9,hB9⟩
       case measure=>rw[e1,e2];omega
      ·have HB2:Hid (B0++Zar sT nV0 E sT.size (k+d) ((pl+1:Nat):Int)=Zar sT nV0 E sT.size 0 0):=by
        show _=_;rw[←HB.out,Hst.out,if_neg hin];rfl
       have e1:wr.iterPos (w3.heap.size+1)=k:=by simp[World.iterPos,hit]
       have e2:(wr.iterAt (w3.heap.size+1) sT (k+d)).iterPos (w3.heap.size+1)=k+d:=by simp[World.iterPos,hit2]
       by_cases h1:nV0≤(pl:Int)+1
       ·have h2:¬(pl:Int)+1<(9223372036854775807:Int):=by rw[←hE];exact fun h=>hin ⟨h1,h⟩
        have h2d:decide ((pl:Int)+1<(9223372036854775807:Int))=false:=decide_eq_false h2;clear hin HB Hst;go_wp2;go_roundw
        case rel=>exact⟨k+d,pl+1,B0,by omega,hkd,by simp,HB2,by omega,hit2,hbd2,hB2⟩
        case measure=>rw[e1,e2];omega
       ·have h1d:decide (nV0≤(pl:Int)+1)=false:=decide_eq_false h1;clear hin HB Hst;go_wp2;go_roundw
        case rel=>exact⟨k+d,pl+1,B0,by omega,hkd,by simp,HB2,by omega,hit2,hbd2,hB2⟩
        case measure=>rw[e1,e2];omega
     ·have hnx:∀ty,(Instr.next (.pointer (some ⟨(w3.heap.size+1),0,none⟩)) true ty).run Tryz.prog wr=_:=fun ty=>Lib.run_next_end_at wr (w3.heap.size+1) sT k ty hit hlt;have hBe:cutB sT nV0 E=⟨B0.toArray⟩:=by unfold cutB;rw[←HB.out,ZcL sT nV0 E k pl hlt,List.append_nil]
      have hfin:Hid (subV [⟨aa,al,ac⟩,⟨ba,bl,bc⟩]=joinR ⟨#[]⟩ [⟨B0.toArray⟩]):=by show _=_;rw[HA.out,←hBe,hE]
      have hbz:Hid ((ByteArray.mk B0.toArray).size≤400000):=by show B0.toArray.size≤_;rw[List.size_toArray];omega
      clear HB hBe;go_wp2_with fail;refine(Tryz.Builder_String_any_k w.heap.size w3.heap.size B0 _ hbd hB.size).mono ?_;rintro e w9 ⟨rfl,_,hb9,_⟩;have hB9:=hB.trans hb9;clear hb9 hnx hB hbd hit;generalize (⟨B0.toArray⟩:ByteArray)=tb at*;go_wp2_with fail;refine(Z2 ⟨#[]⟩ (some ⟨w9.heap.size,0,none⟩) 1 1 [tb] _ (Rd.new w9 9 [.string tb]) rfl (by decide) (by decide) ?z1 (by decide) (.inr ⟨_,_,rfl,by simp⟩)).mono ?_
      case z1=>intro x hx;simp at hx;subst hx;have:=hbz.out;omega
      rintro e w10 ⟨v9,rfl,ho9,hb10⟩;have Ho9:=Za (ho9.mono (Nat.le_trans hB9.size (by simp)));have hB10:=Zu hB9 hb10;clear ho9 hb10 hB9;generalize joinR ⟨#[]⟩ [tb]=jr at*;obtain⟨r1,r2⟩:=jr;go_wp2;go_ret2;exact⟨v9,by rw[hfin.out];rfl,by rw[hfin.out];exact Ho9.out,hB10⟩
  ·have hz2:((oneV bl).2 != 0)=true:=by simpa using hz1
   have HA:Hid (subV [⟨aa,al,ac⟩,⟨ba,bl,bc⟩]=([],(oneV bl).2)):=by show _=_;rw[Hall2.out,if_pos hz1]
   generalize (oneV bl).2=er at*;generalize (oneV bl).1=nv at*;clear hz1 Hall2;go_wp2;go_ret2;exact⟨.slice none 0 0,by rw[HA.out];rfl,by rw[HA.out];exact OwI.nil _ _,hB2⟩
 ·have hz2:((strV al).2 != 0)=true:=by simpa using hz0
  have HA:Hid (subV [⟨aa,al,ac⟩,⟨ba,bl,bc⟩]=([],(strV al).2)):=by show _=_;rw[Hall.out,if_pos hz0]
  generalize (strV al).2=er at*;generalize (strV al).1=st at*;clear hz0 Hall;go_wp2;go_ret2;exact⟨.slice none 0 0,by rw[HA.out];rfl,by rw[HA.out];exact OwI.nil _ _,hb1⟩
theorem Zmd(b off c:Nat)(la lb lc:Lst)(w:World)(he:Env w)(hr:Rd w (some ⟨b,off,none⟩) ([la,lb,lc].map Lst.v))(hoka:OkA w la)(hokb:OkA w lb)(hokc:OkA w lc)(hRa:∀y∈la.l,R64 y.num)(hRb:∀y∈lb.l,R64 y.num)(hRc:∀y∈lc.l,R64 y.num)(hsa:∀y∈la.l,y.text.size≤100000):
  Calls Tryz.prog 94 #[.slice (some ⟨b,off,none⟩) 3 c] w (Res w (subV [la,lb,lc]).1 (subV [la,lb,lc]).2):=by
 have He:=Za he;have Hr:=Za hr;have Ha:=Za hoka;have Hb:=Za hokb;have Hlc:=Za hokc;have Hrc:=Za hRc;have HmR:=Za (ZfV hRc);have Hra:=Za hRa;have Hrb:=Za hRb;have Hts:=Za (ZaM la.l hRa hsa);have HnR:=Za (ZfV hRb);have Hall:Hid (subV [la,lb,lc]=if (strV la.l).2≠0 then([],(strV la.l).2)else if (oneV lb.l).2≠0 then([],(oneV lb.l).2)else if (oneV lc.l).2≠0 then([],(oneV lc.l).2)else joinR ⟨#[]⟩ [cutB (strV la.l).1 (oneV lb.l).1 (endV (oneV lb.l).1 (oneV lc.l).1)]):=by show _=_;rfl
 have hix0:=Zp b off 3 c (by decide);have hix1:=ZP b off 3 c 1 (by decide);have hix2:=ZP b off 3 c 2 (by decide);obtain⟨aa,al,ac⟩:=la;obtain⟨ba,bl,bc⟩:=lb;obtain⟨da,dl,dc⟩:=lc;obtain⟨qa,hqa⟩:∃q,q=al.length:=⟨_,rfl⟩;obtain⟨qb,hqb⟩:∃q,q=bl.length:=⟨_,rfl⟩;obtain⟨qd,hqd⟩:∃q,q=dl.length:=⟨_,rfl⟩;have Hca:Hid (∀W,Below w.heap.size w W→W.cell? ⟨b,off,none⟩=some (.slice aa qa ac)):=by show ∀W,_;intro W hW;obtain⟨b1,off1,e1,h⟩:=(Hr.out.keep hW).cellAt 0 _ rfl;injection e1 with e1;injection e1 with e1 e2;subst e1 e2;rw[Nat.add_zero]at h;rw[hqa];exact h
 have Hcb:Hid (∀W,Below w.heap.size w W→W.cell? ⟨b,off+1,none⟩=some (.slice ba qb bc)):=by show ∀W,_;intro W hW;obtain⟨b1,off1,e1,h⟩:=(Hr.out.keep hW).cellAt 1 _ rfl;injection e1 with e1;injection e1 with e1 e2;subst e1 e2;rw[hqb];exact h
 have Hcd:Hid (∀W,Below w.heap.size w W→W.cell? ⟨b,off+2,none⟩=some (.slice da qd dc)):=by show ∀W,_;intro W hW;obtain⟨b1,off1,e1,h⟩:=(Hr.out.keep hW).cellAt 2 _ rfl;injection e1 with e1;injection e1 with e1 e2;subst e1 e2;rw[hqd];exact h
 have Hqd:=Za hqd;have Hqa:=Za hqa;have Hqb:=Za hqb;clear he hr hoka hokb hokc hRa hRb hRc hsa hqa hqb hqd;dsimp only at Hts HnR HmR Hall;have c0:=Hca.out w (Below.refl _ _);go_enter Tryz.func94,Tryz.ntmps94;go_wp2_with fail;refine(Zbw aa qa ac al _ He.out Ha.out Hra.out Hqa.out).mono ?_;rintro e w1 ⟨rfl,hb1⟩;clear c0;by_cases hz0:(strV al).2=0
 ·rw[hz0];have Hall2:Hid (subV [⟨aa,al,ac⟩,⟨ba,bl,bc⟩,⟨da,dl,dc⟩]=if (oneV bl).2≠0 then([],(oneV bl).2)else if (oneV dl).2≠0 then([],(oneV dl).2)else joinR ⟨#[]⟩ [cutB (strV al).1 (oneV bl).1 (endV (oneV bl).1 (oneV dl).1)]):=by show _=_;rw[Hall.out,if_neg (by rw[hz0];simp)]
  generalize (strV al).1=sT at*;clear hz0 Hall;have c1:=Hcb.out w1 hb1;go_wp2_with fail;refine(ZdQ ba qb bc bl _ (He.out.keep hb1) ⟨Hb.out.1.keep hb1,Hb.out.2⟩ Hqb.out).mono ?_;rintro e w2 ⟨rfl,hb2⟩;have hB2:=Zb hb1 hb2;clear hb2 c1 hb1;by_cases hz1:(oneV bl).2=0
  ·rw[hz1];have Hall3:Hid (subV [⟨aa,al,ac⟩,⟨ba,bl,bc⟩,⟨da,dl,dc⟩]=if (oneV dl).2≠0 then([],(oneV dl).2)else joinR ⟨#[]⟩ [cutB sT (oneV bl).1 (endV (oneV bl).1 (oneV dl).1)]):=by show _=_;rw[Hall2.out,if_neg (by rw[hz1];simp)]
   generalize (oneV bl).1=nV0 at*;clear hz1 Hall2;have c2:=Hcd.out w2 hB2;go_wp2_with fail;refine(ZdQ da qd dc dl _ (He.out.keep hB2) ⟨Hlc.out.1.keep hB2,Hlc.out.2⟩ Hqd.out).mono ?_;rintro e wq ⟨rfl,hbq⟩;have hBq:=Zb hB2 hbq;clear hbq c2 hB2;by_cases hz3:(oneV dl).2=0
   ·rw[hz3];have HA0:Hid (subV [⟨aa,al,ac⟩,⟨ba,bl,bc⟩,⟨da,dl,dc⟩]=joinR ⟨#[]⟩ [cutB sT nV0 (endV nV0 (oneV dl).1)]):=by show _=_;rw[Hall3.out,if_neg (by rw[hz3];simp)]
    generalize (oneV dl).1=mV0 at*;clear hz3 Hall3;have hlen2:=ZmW sT;go_wp2_with fail;refine(ZcG nV0 mV0 HnR.out HmR.out _).mono ?_;rintro e w3 ⟨rfl,hw3⟩;have hB3:Below w.heap.size w w3:=by rw[←hw3];exact hBq
    clear hw3 hBq;have hts:=Hts.out;rcases Bool.eq_false_or_eq_true (fit (nV0+mV0))with hf|hf
    ·have HA:Hid (subV [⟨aa,al,ac⟩,⟨ba,bl,bc⟩,⟨da,dl,dc⟩]=joinR ⟨#[]⟩ [cutB sT nV0 (nV0+mV0)]):=by show _=_;rw[HA0.out];unfold endV;rw[if_pos hf]
     rw[hf,ZaC hf];generalize nV0+mV0=wv at*;clear hf HA0;have hne:(w3.heap.size+1)≠w3.heap.size:=by omega
     have hbw:w.heap.size≤w3.heap.size:=hB3.size;have hiw:w.heap.size≤(w3.heap.size+1):=by omega
     have hk:=Blk.new w3 63 #[.pointer none,.slice none 0 0];have hbd0:=ZdP _ w.heap.size w3.heap.size hbw hk;have hB5:=hB3.alloc hB3.size (.cells #[.pointer none,.slice none 0 0] 63);obtain⟨E,hE⟩:∃E:Int,E=wv:=⟨_,rfl⟩;go_wp2_with fail;go_loopw[11,13] (fun p _ W=>∃(k pl:Nat) (B0:List UInt8),pl≤k∧k≤sT.size∧p= .int .i64 pl∧Hid (B0++Zar sT nV0 E sT.size k pl=Zar sT nV0 E sT.size 0 0)∧B0.length≤4*pl∧W.heap[(w3.heap.size+1)]? =some (.stringIter sT k)∧Lib.IsBuilderF 63 5 w.heap.size w3.heap.size (Lib.byteCells B0) W∧Below w.heap.size w W) (fun _ _ W=>sT.size-W.iterPos (w3.heap.size+1))
     case atStart=>exact⟨0,0,[],Nat.le_refl _,Nat.zero_le _,rfl,Za rfl,by simp,Zb5 _ _ _ (by simp),hbd0.alloc _,hB5.alloc hB5.size _⟩
     case round=>
      clear hB3 hB5 hbd0 hk;obtain⟨k,pl,B0,hpk,hks,rfl,HB,hBl,hit,hbd,hB⟩:=hrel;by_cases hlt:k<sT.size
      ·have hnx:∀ty,(Instr.next (.pointer (some ⟨(w3.heap.size+1),0,none⟩)) true ty).run Tryz.prog wr=_:=fun ty=>Lib.run_next_any_at wr (w3.heap.size+1) sT k ty hit hlt;have hwd:=Lib.decode_width_pos sT k hlt;have hrl:=Lib.rune_le sT k;have hst:=Zb1 sT nV0 E k pl hlt;obtain⟨r,hr⟩:∃r:Nat,r=(Utf8.decode sT k).1:=⟨_,rfl⟩;obtain⟨d,hd⟩:∃d:Nat,d=(Utf8.decode sT k).2:=⟨_,rfl⟩;rw[←hr,←hd]at hnx hst;rw[←hr]at hrl;rw[←hd]at hwd;have hit2:=Lib.iterAt_heap wr (w3.heap.size+1) sT k (k+d) hit;have hB2:=Lib.below_iterAt hB (k:=(w3.heap.size+1)) (by omega) sT (k+d);have hbd2:=hbd.iterAt hit (k+d);have hsz:=Lib.iterAt_size wr (w3.heap.size+1) sT (k+d);have hs2:=hB.size;have Hst:=Za hst;have hkd:k+d≤sT.size:=by rw[hd];exact hlen2 k hlt
       clear hr hd hst;by_cases hin:nV0≤(pl:Int)+1∧(pl:Int)+1<E
       ·have h1:nV0≤(pl:Int)+1:=hin.1;have h2:(pl:Int)+1<wv:=by rw[←hE];exact hin.2
        have HB2:Hid ((B0++Lib.encodeRune (r:Int))++Zar sT nV0 E sT.size (k+d) ((pl+1:Nat):Int)=Zar sT nV0 E sT.size 0 0):=by show _=_;rw[←HB.out,Hst.out,if_pos hin,List.append_assoc];rfl
        have Hin:=Za hin;clear hin HB Hst;go_wp2_with fail;refine(ZfR w.heap.size w3.heap.size (Lib.byteCells B0) r (by omega) (by omega) _ hbd2 ?l1 ?l2).mono ?_
        case l1=>rw[Lib.byteCells_length];omega
        case l2=>rw[hsz];exact hs2
        rintro e w9 ⟨rfl,hbd9,hb9,hk9⟩;have hB9:=hB2.trans hb9;have hit9:=hk9.iter hit2 hne;rw[←Lib.byteCells_encodeRune,←ZaH]at hbd9;have hl9:(B0++Lib.encodeRune (r:Int)).length≤4*(pl+1):=by rw[List.length_append];have:=Zce (r:Int);omega
        have e1:wr.iterPos (w3.heap.size+1)=k:=by simp[World.iterPos,hit]
        have e2:w9.iterPos (w3.heap.size+1)=k+d:=by simp[World.iterPos,hit9]
        clear hb9 hk9 hnx;go_wp2;go_roundw
        case rel=>exact⟨k+d,pl+1,_,by omega,hkd,by simp,HB2,hl9,hit9,.inr hbd9,hB9⟩
        case measure=>rw[e1,e2];omega
       ·have HB2:Hid (B0++Zar sT nV0 E sT.size (k+d) ((pl+1:Nat):Int)=Zar sT nV0 E sT.size 0 0):=by
         show _=_;rw[←HB.out,Hst.out,if_neg hin];rfl
        have e1:wr.iterPos (w3.heap.size+1)=k:=by simp[World.iterPos,hit]
        have e2:(wr.iterAt (w3.heap.size+1) sT (k+d)).iterPos (w3.heap.size+1)=k+d:=by simp[World.iterPos,hit2]
        by_cases h1:nV0≤(pl:Int)+1
        ·have h2:¬(pl:Int)+1<wv:=by rw[←hE];exact fun h=>hin ⟨h1,h⟩
         have h2d:decide ((pl:Int)+1<wv)=false:=decide_eq_false h2;clear hin HB Hst;go_wp2;go_roundw
         case rel=>exact⟨k+d,pl+1,B0,by omega,hkd,by simp,HB2,by omega,hit2,hbd2,hB2⟩
         case measure=>rw[e1,e2];omega
        ·have h1d:decide (nV0≤(pl:Int)+1)=false:=decide_eq_false h1;clear hin HB Hst;go_wp2;go_roundw
         case rel=>exact⟨k+d,pl+1,B0,by omega,hkd,by simp,HB2,by omega,hit2,hbd2,hB2⟩
         case measure=>rw[e1,e2];omega
      ·have hnx:∀ty,(Instr.next (.pointer (some ⟨(w3.heap.size+1),0,none⟩)) true ty).run Tryz.prog wr=_:=fun ty=>Lib.run_next_end_at wr (w3.heap.size+1) sT k ty hit hlt;have hBe:cutB sT nV0 E=⟨B0.toArray⟩:=by unfold cutB;rw[←HB.out,ZcL sT nV0 E k pl hlt,List.append_nil]
       have hfin:Hid (subV [⟨aa,al,ac⟩,⟨ba,bl,bc⟩,⟨da,dl,dc⟩]=joinR ⟨#[]⟩ [⟨B0.toArray⟩]):=by show _=_;rw[HA.out,←hBe,hE]
       have hbz:Hid ((ByteArray.mk B0.toArray).size≤400000):=by show B0.toArray.size≤_;rw[List.size_toArray];omega
       clear HB hBe;go_wp2_with fail;refine(Tryz.Builder_String_any_k w.heap.size w3.heap.size B0 _ hbd hB.size).mono ?_;rintro e w9 ⟨rfl,_,hb9,_⟩;have hB9:=hB.trans hb9;clear hb9 hnx hB hbd hit;generalize (⟨B0.toArray⟩:ByteArray)=tb at*;go_wp2_with fail;refine(Z2 ⟨#[]⟩ (some ⟨w9.heap.size,0,none⟩) 1 1 [tb] _ (Rd.new w9 9 [.string tb]) rfl (by decide) (by decide) ?z1 (by decide) (.inr ⟨_,_,rfl,by simp⟩)).mono ?_
       case z1=>intro x hx;simp at hx;subst hx;have:=hbz.out;omega
       rintro e w10 ⟨v9,rfl,ho9,hb10⟩;have Ho9:=Za (ho9.mono (Nat.le_trans hB9.size (by simp)));have hB10:=Zu hB9 hb10;clear ho9 hb10 hB9;generalize joinR ⟨#[]⟩ [tb]=jr at*;obtain⟨r1,r2⟩:=jr;go_wp2;go_ret2;exact⟨v9,by rw[hfin.out];rfl,by rw[hfin.out];exact Ho9.out,hB10⟩
    ·rw[hf];by_cases hm0:mV0<0
     ·have HA:Hid (subV [⟨aa,al,ac⟩,⟨ba,bl,bc⟩,⟨da,dl,dc⟩]=joinR ⟨#[]⟩ [cutB sT nV0 0]):=by show _=_;rw[HA0.out];unfold endV;rw[if_neg (by rw[hf];decide),if_pos hm0]
      generalize wrap64 (nV0+mV0)=wv at*;clear hf HA0;have hne:(w3.heap.size+1)≠w3.heap.size:=by omega
      have hbw:w.heap.size≤w3.heap.size:=hB3.size;have hiw:w.heap.size≤(w3.heap.size+1):=by omega
      have hk:=Blk.new w3 63 #[.pointer none,.slice none 0 0];have hbd0:=ZdP _ w.heap.size w3.heap.size hbw hk;have hB5:=hB3.alloc hB3.size (.cells #[.pointer none,.slice none 0 0] 63);obtain⟨E,hE⟩:∃E:Int,E=(0:Int):=⟨_,rfl⟩;go_wp2_with fail;go_loopw[11,13] (fun p _ W=>∃(k pl:Nat) (B0:List UInt8),pl≤k∧k≤sT.size∧p= .int .i64 pl∧Hid (B0++Zar sT nV0 E sT.size k pl=Zar sT nV0 E sT.size 0 0)∧B0.length≤4*pl∧W.heap[(w3.heap.size+1)]? =some (.stringIter sT k)∧Lib.IsBuilderF 63 5 w.heap.size w3.heap.size (Lib.byteCells B0) W∧Below w.heap.size w W) (fun _ _ W=>sT.size-W.iterPos (w3.heap.size+1))
      case atStart=>exact⟨0,0,[],Nat.le_refl _,Nat.zero_le _,rfl,Za rfl,by simp,Zb5 _ _ _ (by simp),hbd0.alloc _,hB5.alloc hB5.size _⟩
      case round=>
       clear hB3 hB5 hbd0 hk;obtain⟨k,pl,B0,hpk,hks,rfl,HB,hBl,hit,hbd,hB⟩:=hrel;by_cases hlt:k<sT.size
       ·have hnx:∀ty,(Instr.next (.pointer (some ⟨(w3.heap.size+1),0,none⟩)) true ty).run Tryz.prog wr=_:=fun ty=>Lib.run_next_any_at wr (w3.heap.size+1) sT k ty hit hlt;have hwd:=Lib.decode_width_pos sT k hlt;have hrl:=Lib.rune_le sT k;have hst:=Zb1 sT nV0 E k pl hlt;obtain⟨r,hr⟩:∃r:Nat,r=(Utf8.decode sT k).1:=⟨_,rfl⟩;obtain⟨d,hd⟩:∃d:Nat,d=(Utf8.decode sT k).2:=⟨_,rfl⟩;rw[←hr,←hd]at hnx hst;rw[←hr]at hrl;rw[←hd]at hwd;have hit2:=Lib.iterAt_heap wr (w3.heap.size+1) sT k (k+d) hit;have hB2:=Lib.below_iterAt hB (k:=(w3.heap.size+1)) (by omega) sT (k+d);have hbd2:=hbd.iterAt hit (k+d);have hsz:=Lib.iterAt_size wr (w3.heap.size+1) sT (k+d);have hs2:=hB.size;have Hst:=Za hst;have hkd:k+d≤sT.size:=by rw[hd];exact hlen2 k hlt
        clear hr hd hst;by_cases hin:nV0≤(pl:Int)+1∧(pl:Int)+1<E
        ·have h1:nV0≤(pl:Int)+1:=hin.1;have h2:(pl:Int)+1<(0:Int):=by rw[←hE];exact hin.2
         have HB2:Hid ((B0++Lib.encodeRune (r:Int))++Zar sT nV0 E sT.size (k+d) ((pl+1:Nat):Int)=Zar sT nV0 E sT.size 0 0):=by show _=_;rw[←HB.out,Hst.out,if_pos hin,List.append_assoc];rfl
         have Hin:=Za hin;clear hin HB Hst;go_wp2_with fail;refine(ZfR w.heap.size w3.heap.size (Lib.byteCells B0) r (by omega) (by omega) _ hbd2 ?l1 ?l2).mono ?_
         case l1=>rw[Lib.byteCells_length];omega
         case l2=>rw[hsz];exact hs2
         rintro e w9 ⟨rfl,hbd9,hb9,hk9⟩;have hB9:=hB2.trans hb9;have hit9:=hk9.iter hit2 hne;rw[←Lib.byteCells_encodeRune,←ZaH]at hbd9;have hl9:(B0++Lib.encodeRune (r:Int)).length≤4*(pl+1):=by rw[List.length_append];have:=Zce (r:Int);omega
         have e1:wr.iterPos (w3.heap.size+1)=k:=by simp[World.iterPos,hit]
         have e2:w9.iterPos (w3.heap.size+1)=k+d:=by simp[World.iterPos,hit9]
         clear hb9 hk9 hnx;go_wp2;go_roundw
         case rel=>exact⟨k+d,pl+1,_,by omega,hkd,by simp,HB2,hl9,hit9,.inr hbd9,hB9⟩
         case measure=>rw[e1,e2];omega
        ·have HB2:Hid (B0++Zar sT nV0 E sT.size (k+d) ((pl+1:Nat):Int)=Zar sT nV0 E sT.size 0 0):=by
          show _=_;rw[←HB.out,Hst.out,if_neg hin];rfl
         have e1:wr.iterPos (w3.heap.size+1)=k:=by simp[World.iterPos,hit]
         have e2:(wr.iterAt (w3.heap.size+1) sT (k+d)).iterPos (w3.heap.size+1)=k+d:=by simp[World.iterPos,hit2]
         by_cases h1:nV0≤(pl:Int)+1
         ·have h2:¬(pl:Int)+1<(0:Int):=by rw[←hE];exact fun h=>hin ⟨h1,h⟩
          have h2d:decide ((pl:Int)+1<(0:Int))=false:=decide_eq_false h2;clear hin HB Hst;go_wp2;go_roundw
          case rel=>exact⟨k+d,pl+1,B0,by omega,hkd,by simp,HB2,by omega,hit2,hbd2,hB2⟩
          case measure=>rw[e1,e2];omega
         ·have h1d:decide (nV0≤(pl:Int)+1)=false:=decide_eq_false h1;clear hin HB Hst;go_wp2;go_roundw
          case rel=>exact⟨k+d,pl+1,B0,by omega,hkd,by simp,HB2,by omega,hit2,hbd2,hB2⟩
          case measure=>rw[e1,e2];omega
       ·have hnx:∀ty,(Instr.next (.pointer (some ⟨(w3.heap.size+1),0,none⟩)) true ty).run Tryz.prog wr=_:=fun ty=>Lib.run_next_end_at wr (w3.heap.size+1) sT k ty hit hlt;have hBe:cutB sT nV0 E=⟨B0.toArray⟩:=by unfold cutB;rw[←HB.out,ZcL sT nV0 E k pl hlt,List.append_nil]
        have hfin:Hid (subV [⟨aa,al,ac⟩,⟨ba,bl,bc⟩,⟨da,dl,dc⟩]=joinR ⟨#[]⟩ [⟨B0.toArray⟩]):=by show _=_;rw[HA.out,←hBe,hE]
        have hbz:Hid ((ByteArray.mk B0.toArray).size≤400000):=by show B0.toArray.size≤_;rw[List.size_toArray];omega
        clear HB hBe;go_wp2_with fail;refine(Tryz.Builder_String_any_k w.heap.size w3.heap.size B0 _ hbd hB.size).mono ?_;rintro e w9 ⟨rfl,_,hb9,_⟩;have hB9:=hB.trans hb9;clear hb9 hnx hB hbd hit;generalize (⟨B0.toArray⟩:ByteArray)=tb at*;go_wp2_with fail;refine(Z2 ⟨#[]⟩ (some ⟨w9.heap.size,0,none⟩) 1 1 [tb] _ (Rd.new w9 9 [.string tb]) rfl (by decide) (by decide) ?z1 (by decide) (.inr ⟨_,_,rfl,by simp⟩)).mono ?_
        case z1=>intro x hx;simp at hx;subst hx;have:=hbz.out;omega
        rintro e w10 ⟨v9,rfl,ho9,hb10⟩;have Ho9:=Za (ho9.mono (Nat.le_trans hB9.size (by simp)));have hB10:=Zu hB9 hb10;clear ho9 hb10 hB9;generalize joinR ⟨#[]⟩ [tb]=jr at*;obtain⟨r1,r2⟩:=jr;go_wp2;go_ret2;exact⟨v9,by rw[hfin.out];rfl,by rw[hfin.out];exact Ho9.out,hB10⟩
     ·have HA:Hid (subV [⟨aa,al,ac⟩,⟨ba,bl,bc⟩,⟨da,dl,dc⟩]=joinR ⟨#[]⟩ [cutB sT nV0 9223372036854775807]):=by show _=_;rw[HA0.out];unfold endV;rw[if_neg (by rw[hf];decide),if_neg hm0];rfl
      have hm1:decide (mV0<0)=false:=decide_eq_false hm0;generalize wrap64 (nV0+mV0)=wv at*;clear hf HA0;have hne:(w3.heap.size+1)≠w3.heap.size:=by omega
      have hbw:w.heap.size≤w3.heap.size:=hB3.size;have hiw:w.heap.size≤(w3.heap.size+1):=by omega
      have hk:=Blk.new w3 63 #[.pointer none,.slice none 0 0];have hbd0:=ZdP _ w.heap.size w3.heap.size hbw hk;have hB5:=hB3.alloc hB3.size (.cells #[.pointer none,.slice none 0 0] 63);obtain⟨E,hE⟩:∃E:Int,E=(9223372036854775807:Int):=⟨_,rfl⟩;go_wp2_with fail;go_loopw[11,13] (fun p _ W=>∃(k pl:Nat) (B0:List UInt8),pl≤k∧k≤sT.size∧p= .int .i64 pl∧Hid (B0++Zar sT nV0 E sT.size k pl=Zar sT nV0 E sT.size 0 0)∧B0.length≤4*pl∧W.heap[(w3.heap.size+1)]? =some (.stringIter sT k)∧Lib.IsBuilderF 63 5 w.heap.size w3.heap.size (Lib.byteCells B0) W∧Below w.heap.size w W) (fun _ _ W=>sT.size-W.iterPos (w3.heap.size+1))
      case atStart=>exact⟨0,0,[],Nat.le_refl _,Nat.zero_le _,rfl,Za rfl,by simp,Zb5 _ _ _ (by simp),hbd0.alloc _,hB5.alloc hB5.size _⟩
      case round=>
       clear hB3 hB5 hbd0 hk;obtain⟨k,pl,B0,hpk,hks,rfl,HB,hBl,hit,hbd,hB⟩:=hrel;by_cases hlt:k<sT.size
       ·have hnx:∀ty,(Instr.next (.pointer (some ⟨(w3.heap.size+1),0,none⟩)) true ty).run Tryz.prog wr=_:=fun ty=>Lib.run_next_any_at wr (w3.heap.size+1) sT k ty hit hlt;have hwd:=Lib.decode_width_pos sT k hlt;have hrl:=Lib.rune_le sT k;have hst:=Zb1 sT nV0 E k pl hlt;obtain⟨r,hr⟩:∃r:Nat,r=(Utf8.decode sT k).1:=⟨_,rfl⟩;obtain⟨d,hd⟩:∃d:Nat,d=(Utf8.decode sT k).2:=⟨_,rfl⟩;rw[←hr,←hd]at hnx hst;rw[←hr]at hrl;rw[←hd]at hwd;have hit2:=Lib.iterAt_heap wr (w3.heap.size+1) sT k (k+d) hit;have hB2:=Lib.below_iterAt hB (k:=(w3.heap.size+1)) (by omega) sT (k+d);have hbd2:=hbd.iterAt hit (k+d);have hsz:=Lib.iterAt_size wr (w3.heap.size+1) sT (k+d);have hs2:=hB.size;have Hst:=Za hst;have hkd:k+d≤sT.size:=by rw[hd];exact hlen2 k hlt
        clear hr hd hst;by_cases hin:nV0≤(pl:Int)+1∧(pl:Int)+1<E
        ·have h1:nV0≤(pl:Int)+1:=hin.1;have h2:(pl:Int)+1<(9223372036854775807:Int):=by rw[←hE];exact hin.2
         have HB2:Hid ((B0++Lib.encodeRune (r:Int))++Zar sT nV0 E sT.size (k+d) ((pl+1:Nat):Int)=Zar sT nV0 E sT.size 0 0):=by show _=_;rw[←HB.out,Hst.out,if_pos hin,List.append_assoc];rfl
         have Hin:=Za hin;clear hin HB Hst;go_wp2_with fail;refine(ZfR w.heap.size w3.heap.size (Lib.byteCells B0) r (by omega) (by omega) _ hbd2 ?l1 ?l2).mono ?_
         case l1=>rw[Lib.byteCells_length];omega
         case l2=>rw[hsz];exact hs2
         rintro e w9 ⟨rfl,hbd9,hb9,hk9⟩;have hB9:=hB2.trans hb9;have hit9:=hk9.iter hit2 hne;rw[←Lib.byteCells_encodeRune,←ZaH]at hbd9;have hl9:(B0++Lib.encodeRune (r:Int)).length≤4*(pl+1):=by rw[List.length_append];have:=Zce (r:Int);omega
         have e1:wr.iterPos (w3.heap.size+1)=k:=by simp[World.iterPos,hit]
         have e2:w9.iterPos (w3.heap.size+1)=k+d:=by simp[World.iterPos,hit9]
         clear hb9 hk9 hnx;go_wp2;go_roundw
         case rel=>exact⟨k+d,pl+1,_,by omega,hkd,by simp,HB2,hl9,hit9,.inr hbd9,hB9⟩
         case measure=>rw[e1,e2];omega
        ·have HB2:Hid (B0++Zar sT nV0 E sT.size (k+d) ((pl+1:Nat):Int)=Zar sT nV0 E sT.size 0 0):=by
          show _=_;rw[←HB.out,Hst.out,if_neg hin];rfl
         have e1:wr.iterPos (w3.heap.size+1)=k:=by simp[World.iterPos,hit]
         have e2:(wr.iterAt (w3.heap.size+1) sT (k+d)).iterPos (w3.heap.size+1)=k+d:=by simp[World.iterPos,hit2]
         by_cases h1:nV0≤(pl:Int)+1
         ·have h2:¬(pl:Int)+1<(9223372036854775807:Int):=by rw[←hE];exact fun h=>hin ⟨h1,h⟩
          have h2d:decide ((pl:Int)+1<(9223372036854775807:Int))=false:=decide_eq_false h2;clear hin HB Hst;go_wp2;go_roundw
          case rel=>exact⟨k+d,pl+1,B0,by omega,hkd,by simp,HB2,by omega,hit2,hbd2,hB2⟩
          case measure=>rw[e1,e2];omega
         ·have h1d:decide (nV0≤(pl:Int)+1)=false:=decide_eq_false h1;clear hin HB Hst;go_wp2;go_roundw
          case rel=>exact⟨k+d,pl+1,B0,by omega,hkd,by simp,HB2,by omega,hit2,hbd2,hB2⟩
          case measure=>rw[e1,e2];omega
       ·have hnx:∀ty,(Instr.next (.pointer (some ⟨(w3.heap.size+1),0,none⟩)) true ty).run Tryz.prog wr=_:=fun ty=>Lib.run_next_end_at wr (w3.heap.size+1) sT k ty hit hlt;have hBe:cutB sT nV0 E=⟨B0.toArray⟩:=by unfold cutB;rw[←HB.out,ZcL sT nV0 E k pl hlt,List.append_nil]
        have hfin:Hid (subV [⟨aa,al,ac⟩,⟨ba,bl,bc⟩,⟨da,dl,dc⟩]=joinR ⟨#[]⟩ [⟨B0.toArray⟩]):=by show _=_;rw[HA.out,←hBe,hE]
        have hbz:Hid ((ByteArray.mk B0.toArray).size≤400000):=by show B0.toArray.size≤_;rw[List.size_toArray];omega
        clear HB hBe;go_wp2_with fail;refine(Tryz.Builder_String_any_k w.heap.size w3.heap.size B0 _ hbd hB.size).mono ?_;rintro e w9 ⟨rfl,_,hb9,_⟩;have hB9:=hB.trans hb9;clear hb9 hnx hB hbd hit;generalize (⟨B0.toArray⟩:ByteArray)=tb at*;go_wp2_with fail;refine(Z2 ⟨#[]⟩ (some ⟨w9.heap.size,0,none⟩) 1 1 [tb] _ (Rd.new w9 9 [.string tb]) rfl (by decide) (by decide) ?z1 (by decide) (.inr ⟨_,_,rfl,by simp⟩)).mono ?_
        case z1=>intro x hx;simp at hx;subst hx;have:=hbz.out;omega
        rintro e w10 ⟨v9,rfl,ho9,hb10⟩;have Ho9:=Za (ho9.mono (Nat.le_trans hB9.size (by simp)));have hB10:=Zu hB9 hb10;clear ho9 hb10 hB9;generalize joinR ⟨#[]⟩ [tb]=jr at*;obtain⟨r1,r2⟩:=jr;go_wp2;go_ret2;exact⟨v9,by rw[hfin.out];rfl,by rw[hfin.out];exact Ho9.out,hB10⟩
   ·have hz2:((oneV dl).2 != 0)=true:=by simpa using hz3
    have HA:Hid (subV [⟨aa,al,ac⟩,⟨ba,bl,bc⟩,⟨da,dl,dc⟩]=([],(oneV dl).2)):=by show _=_;rw[Hall3.out,if_pos hz3]
    generalize (oneV dl).2=er at*;generalize (oneV dl).1=nv at*;clear hz3 Hall3;go_wp2;go_ret2;exact⟨.slice none 0 0,by rw[HA.out];rfl,by rw[HA.out];exact OwI.nil _ _,hBq⟩
  ·have hz2:((oneV bl).2 != 0)=true:=by simpa using hz1
   have HA:Hid (subV [⟨aa,al,ac⟩,⟨ba,bl,bc⟩,⟨da,dl,dc⟩]=([],(oneV bl).2)):=by show _=_;rw[Hall2.out,if_pos hz1]
   generalize (oneV bl).2=er at*;generalize (oneV bl).1=nv at*;clear hz1 Hall2;go_wp2;go_ret2;exact⟨.slice none 0 0,by rw[HA.out];rfl,by rw[HA.out];exact OwI.nil _ _,hB2⟩
 ·have hz2:((strV al).2 != 0)=true:=by simpa using hz0
  have HA:Hid (subV [⟨aa,al,ac⟩,⟨ba,bl,bc⟩,⟨da,dl,dc⟩]=([],(strV al).2)):=by show _=_;rw[Hall.out,if_pos hz0]
  generalize (strV al).2=er at*;generalize (strV al).1=st at*;clear hz0 Hall;go_wp2;go_ret2;exact⟨.slice none 0 0,by rw[HA.out];rfl,by rw[HA.out];exact OwI.nil _ _,hb1⟩
end Go.Proofs.YtnnfhojhbbcbmaaGreatDoor
