/- chars.Char, chars.Texts at any text: what they answer hangs on the text alone. value.right at any rows of items. A slice of items that came in: a row of items. -/
import Derived.Test.YtnnfhojhbbcbmaaGreatDoorTx
import Derived.Test.YtnnfhojhbbcbmaaGreatDoorC03
import Derived.Test.YtnnfhojhbbcbmaaGreatDoorC02
import Derived.OpenShut
import Derived.Deep.Slices
import Derived.SizedLaws
import Derived.DataReads
namespace Go.Proofs.YtnnfhojhbbcbmaaGreatDoor
set_option maxRecDepth 100000
set_option maxHeartbeats 4000000
open Go.RowKit
def chr(r:Int):Bool:=(r==9||r==10||r==13)||(!(decide (r<32)||(decide (55296≤r)&&decide (r≤57343))||decide (1114111<r))&&(r != 65534&&r != 65535))
theorem ZlS(r:Int)(w:World):Calls Tryz.prog 149 #[.int .i32 r] w fun e w'=>e= .returned (.bool (chr r))∧w=w':=by
 by_cases h9:r=9
 ·have f:(r==9)=true:=by simpa using h9
  have H:Hid (chr r=true):=by show chr r=true;simp[chr,h9]
  clear h9;go_enter Tryz.func149,Tryz.ntmps149;go_wp2;go_ret;exact⟨by rw[H.out];rfl,rfl⟩
 ·by_cases h10:r=10
  ·have f9:(r==9)=false:=by simpa using h9
   have f:(r==10)=true:=by simpa using h10
   have H:Hid (chr r=true):=by show chr r=true;simp[chr,h10]
   clear h9 h10;go_enter Tryz.func149,Tryz.ntmps149;go_wp2;go_ret;exact⟨by rw[H.out];rfl,rfl⟩
  ·by_cases h13:r=13
   ·have f9:(r==9)=false:=by simpa using h9
    have f10:(r==10)=false:=by simpa using h10
    have f:(r==13)=true:=by simpa using h13
    have H:Hid (chr r=true):=by show chr r=true;simp[chr,h13]
    clear h9 h10 h13;go_enter Tryz.func149,Tryz.ntmps149;go_wp2;go_ret;exact⟨by rw[H.out];rfl,rfl⟩
   ·by_cases h32:r<32
    ·have H:Hid (chr r=false):=by show chr r=false;simp[chr,h9,h10,h13,h32]
     have f9:(r==9)=false:=by simpa using h9
     have f10:(r==10)=false:=by simpa using h10
     have f13:(r==13)=false:=by simpa using h13
     clear h9 h10 h13;go_enter Tryz.func149,Tryz.ntmps149;go_wp2;go_ret;exact⟨by rw[H.out];rfl,rfl⟩
    ·have d32:decide (r<32)=false:=by simpa using h32
     by_cases hs1:55296≤r
     ·by_cases hs2:r≤57343
      ·have H:Hid (chr r=false):=by show chr r=false;simp[chr,h9,h10,h13,hs1,hs2]
       have f9:(r==9)=false:=by simpa using h9
       have f10:(r==10)=false:=by simpa using h10
       have f13:(r==13)=false:=by simpa using h13
       clear h9 h10 h13 h32;go_enter Tryz.func149,Tryz.ntmps149;go_wp2;go_ret;exact⟨by rw[H.out];rfl,rfl⟩
      ·have ds2:decide (r≤57343)=false:=by simpa using hs2
       by_cases hm:1114111<r
       ·have H:Hid (chr r=false):=by show chr r=false;simp[chr,h9,h10,h13,hm]
        have f9:(r==9)=false:=by simpa using h9
        have f10:(r==10)=false:=by simpa using h10
        have f13:(r==13)=false:=by simpa using h13
        clear h9 h10 h13 h32 hs2;go_enter Tryz.func149,Tryz.ntmps149;go_wp2;go_ret;exact⟨by rw[H.out];rfl,rfl⟩
       ·have dm:decide (1114111<r)=false:=by simpa using hm
        by_cases he:r=65534
        ·have H:Hid (chr r=false):=by show chr r=false;simp[chr,he]
         have fe:(r != 65534)=false:=by simpa using he
         have f9:(r==9)=false:=by simpa using h9
         have f10:(r==10)=false:=by simpa using h10
         have f13:(r==13)=false:=by simpa using h13
         clear h9 h10 h13 h32 hs2 hm he;go_enter Tryz.func149,Tryz.ntmps149;go_wp2;go_ret;exact⟨by rw[H.out];rfl,rfl⟩
        ·by_cases hf:r=65535
         ·have H:Hid (chr r=false):=by show chr r=false;simp[chr,hf]
          have fe:(r != 65534)=true:=by simpa using he
          have ff:(r != 65535)=false:=by simpa using hf
          have f9:(r==9)=false:=by simpa using h9
          have f10:(r==10)=false:=by simpa using h10
          have f13:(r==13)=false:=by simpa using h13
          clear h9 h10 h13 h32 hs2 hm he hf;go_enter Tryz.func149,Tryz.ntmps149;go_wp2;go_ret;exact⟨by rw[H.out];rfl,rfl⟩
         ·have H:Hid (chr r=true):=by show chr r=true;simp[chr,h9,h10,h13,h32,hs2,hm,he,hf]
          have fe:(r != 65534)=true:=by simpa using he
          have ff:(r != 65535)=true:=by simpa using hf
          have f9:(r==9)=false:=by simpa using h9
          have f10:(r==10)=false:=by simpa using h10
          have f13:(r==13)=false:=by simpa using h13
          clear h9 h10 h13 h32 hs2 hm he hf;go_enter Tryz.func149,Tryz.ntmps149;go_wp2;go_ret;exact⟨by rw[H.out];rfl,rfl⟩
     ·have ds1:decide (55296≤r)=false:=by simpa using hs1
      have hm:¬1114111<r:=by omega
      have dm:decide (1114111<r)=false:=by simpa using hm
      have he:(r != 65534)=true:=by simp;omega
      have hf:(r != 65535)=true:=by simp;omega
      have H:Hid (chr r=true):=by
       show chr r=true;have e1:r≠65534:=by omega
       have e2:r≠65535:=by omega
       simp[chr,h9,h10,h13,h32,hs1,hm,e1,e2]
      have f9:(r==9)=false:=by simpa using h9
      have f10:(r==10)=false:=by simpa using h10
      have f13:(r==13)=false:=by simpa using h13
      clear h9 h10 h13 h32 hs1 hm;go_enter Tryz.func149,Tryz.ntmps149;go_wp2;go_ret;exact⟨by rw[H.out];rfl,rfl⟩
def Zdr(s:ByteArray):Nat→Nat→Bool
 |0,_=>true
 |n+1,pos=>if pos<s.size then chr (Utf8.decode s pos).1&&Zdr s n (pos+(Utf8.decode s pos).2)else true
theorem ZgE(s:ByteArray):∀(n m pos:Nat),s.size≤pos+n→s.size≤pos+m→Zdr s n pos=Zdr s m pos
 |0,0,_,_,_=>rfl
 |0,m+1,pos,h,_=>by unfold Zdr;rw[if_neg (by omega)]
 |n+1,0,pos,_,h=>by unfold Zdr;rw[if_neg (by omega)]
 |n+1,m+1,pos,h1,h2=>by
  unfold Zdr;by_cases h:pos<s.size
  ·have:=Lib.decode_width_pos s pos h;rw[if_pos h,if_pos h,ZgE s n m _ (by omega) (by omega)]
  ·rw[if_neg h,if_neg h]
def tS(s:ByteArray):Bool:=Zdr s s.size 0&&vS s
theorem ZkL(s:ByteArray)(pos:Nat)(h:pos<s.size):Zdr s s.size pos=(chr (Utf8.decode s pos).1&&Zdr s s.size (pos+(Utf8.decode s pos).2)):=by
 have:=Lib.decode_width_pos s pos h;rw[ZgE s s.size (s.size+1) pos (by omega) (by omega)]
 conv=>lhs;unfold Zdr
 rw[if_pos h]
theorem ZlT(s:ByteArray)(pos:Nat)(h:¬pos<s.size):Zdr s s.size pos=true:=by
 obtain⟨n,hn⟩:∃n,n=s.size:=⟨_,rfl⟩;rw[←hn]
 match n with
 |0=>rfl
 |n+1=>unfold Zdr;rw[if_neg h]
theorem ZbX(s:ByteArray)(w:World)(ht8:Tabs8 w)(hs:s.size<9223372036854775807):Calls Tryz.prog 91 #[.string s] w fun e w'=>e= .returned (.bool (tS s))∧Below w.heap.size w w':=by
 have T8:=Za ht8;clear ht8;go_enter Tryz.func91,Tryz.ntmps91;go_wp2_with fail;go_loopw[4] (fun _ W=>∃k:Nat,Hid (Zdr s s.size k=Zdr s s.size 0)∧W.heap[w.heap.size]? =some (.stringIter s k)∧Below w.heap.size w W) (fun _ W=>s.size-W.iterPos w.heap.size)
 case atStart=>exact⟨0,Za rfl,Zb5 _ _ _ rfl,(Below.refl _ _).alloc (Nat.le_refl _) _⟩
 case round=>
  obtain⟨k,hk,hit,hB⟩:=hrel;by_cases hlt:k<s.size
  ·have hnx:∀ty,(Instr.next (.pointer (some ⟨w.heap.size,0,none⟩)) true ty).run Tryz.prog wr=_:=fun ty=>Lib.run_next_any_at wr w.heap.size s k ty hit hlt;have hst:=ZkL s k hlt;have hwd:=Lib.decode_width_pos s k hlt;rw[hk.out]at hst;obtain⟨r,hr⟩:∃r:Nat,r=(Utf8.decode s k).1:=⟨_,rfl⟩;obtain⟨d,hd⟩:∃d:Nat,d=(Utf8.decode s k).2:=⟨_,rfl⟩;rw[←hr,←hd]at hnx hst;rw[←hd]at hwd;have hit2:=Lib.iterAt_heap wr w.heap.size s k (k+d) hit;have hB2:=Lib.below_iterAt hB (k:=w.heap.size) (Nat.le_refl _) s (k+d);have Hst:=Za hst;clear hr hd hst hk;go_wp2_with fail;refine(ZlS _ _).mono ?_;rintro e W1 ⟨rfl,rfl⟩;clear hnx;by_cases hc:chr (r:Int)=true
   ·have hc2:Hid (Zdr s s.size (k+d)=Zdr s s.size 0):=by
     show _=_;have:=Hst.out;rw[hc,Bool.true_and]at this;exact this.symm
    go_wp2;go_roundw
    case rel=>exact⟨k+d,hc2,hit2,hB2⟩
    case measure=>
     have e1:wr.iterPos w.heap.size=k:=by simp[World.iterPos,hit]
     have e2:(wr.iterAt w.heap.size s (k+d)).iterPos w.heap.size=k+d:=by simp[World.iterPos,hit2]
     rw[e1,e2];omega
   ·have hc1:chr (r:Int)=false:=by simpa using hc
    have hc2:Hid (tS s=false):=by show tS s=false;have:=Hst.out;rw[hc1,Bool.false_and]at this;unfold tS;rw[this];rfl
    clear hc Hst;go_wp2;go_ret;exact⟨by rw[hc2.out];rfl,hB2⟩
  ·have hnx:∀ty,(Instr.next (.pointer (some ⟨w.heap.size,0,none⟩)) true ty).run Tryz.prog wr=_:=fun ty=>Lib.run_next_end_at wr w.heap.size s k ty hit hlt;have hsc:Hid (tS s=vS s):=by show tS s=vS s;unfold tS;rw[←hk.out,ZlT s k hlt,Bool.true_and]
   clear hk;go_wp2_with fail;refine(ZkK s _ (T8.out.keep hB) hs).mono ?_;rintro e W1 ⟨rfl,hb1⟩;have hB1:=Zb hB hb1;go_wp2;go_ret;exact⟨by rw[hsc.out];rfl,hB1⟩
end Go.Proofs.YtnnfhojhbbcbmaaGreatDoor
namespace Go.Proofs.YtnnfhojhbbcbmaaGreatDoor
open Go.RowKit
def okI(x:It):Bool:=
 (if x.kind=1 then decide ((0:Int)=x.num)&&decide (0≤x.node)
  else if x.kind=2 then decide (x.text.toList=[])&&decide ((0:Int)=x.node)
  else if x.kind=3 then decide ((0:Int)=x.num)&&decide ((0:Int)=x.node)
  else if x.kind=4 then(decide (x.num=0)||decide (x.num=1))&&(decide (x.text.toList=[])&&decide ((0:Int)=x.node))
  else false)&&tS x.text
theorem Zai {t:ByteArray}(h:t.toList=[]):t=⟨#[]⟩:=by
 have:t.data.toList=[]:=by rwa[ByteArray.toList_eq]at h
 apply ByteArray.ext;apply Array.toList_inj.1;simpa using this
def rightL(ls:List Lst):Bool:=ls.all fun x=>x.l.all okI
def OkA(w:World)(x:Lst):Prop:=RdI w x.a x.l∧(∀y∈x.l,y.text.size≤140737488355328)∧x.l.length<9223372036854775807
def OkAs(w:World)(ls:List Lst):Prop:=∀x∈ls,OkA w x
theorem OkAs.keep {w w':World}{ls:List Lst}(h:OkAs w ls)(hb:Below w.heap.size w w'):OkAs w' ls:=fun x hx=>⟨(h x hx).1.keep hb,(h x hx).2⟩
theorem ZF {α:Type}(f:α→Bool)(l:List α)(k:Nat)(x:α)(hx:l[k]? =some x):(l.drop k).all f=(f x&&(l.drop (k+1)).all f):=by have h:=(List.getElem?_eq_some_iff.1 hx);obtain⟨h1,h2⟩:=h;rw[List.drop_eq_getElem_cons h1,List.all_cons,h2]
theorem ZfA {α:Type}(f:α→Bool)(l:List α)(k:Nat)(h:¬k<l.length):(l.drop k).all f=true:=by rw[List.drop_eq_nil_of_le (by omega)];rfl
theorem Zi1 {a:Int}(h0:a≠0)(h1:a≠1):bits .and .i64 a 1≠a:=by
 intro h;rw[ZgB]at h;have h2:(BitVec.ofInt 64 a &&& BitVec.ofInt 64 1).toNat≤1:=by rw[BitVec.toNat_and];exact Nat.le_trans Nat.and_le_right (by decide)
 rw[BitVec.toInt_eq_toNat_cond]at h;split at h<;>omega
set_option maxRecDepth 100000 in
set_option maxHeartbeats 8000000 in
theorem Z7(p:Option Addr)(n c:Nat)(ls:List Lst)(w:World)(ht8:Tabs8 w)(hn:n=ls.length)(hle:n<9223372036854775807)(hr:Rd w p (ls.map Lst.v))(hok:OkAs w ls):
  Calls Tryz.prog 44 #[.slice p n c] w fun e w'=>e= .returned (.bool (rightL ls))∧Below w.heap.size w w':=by
 have T8:=Za ht8;have Hn:=Za hn;have Hr:=Za hr;have Hok:=Za hok;clear hn hr hok ht8;go_enter Tryz.func44,Tryz.ntmps44;go_wp2_with fail;go_loopw[10] (fun i W=>∃k:Nat,k≤n∧i= .int .i64 k∧Hid (rightL (ls.drop k)=rightL ls)∧Below w.heap.size w W) (fun i _=>n-(intOf i).toNat)
 case atStart=>exact⟨0,Nat.zero_le _,rfl,Za rfl,Below.refl _ _⟩
 case round=>
  obtain⟨k,hk,rfl,Hrel,hB⟩:=hrel;by_cases hlt:k<n
  ·have hI:(k:Int)<(n:Int):=by omega
   obtain⟨x,hx⟩:∃x,ls[k]? =some x:=⟨_,List.getElem?_eq_getElem (by have:=Hn.out;omega)⟩;obtain⟨b,off,rfl,hc⟩:=Hr.out.cellAt k x.v (by simp[hx]);have hcell:wr.cell? ⟨b,off+k,none⟩=some (.slice x.a x.l.length x.c):=Zc hB hc;have hix:=ZP b off n c k hlt;have hokx:=Za (Hok.out x (List.mem_of_getElem? hx));have Hout:=Za (ZF (fun x:Lst=>x.l.all okI) ls k x hx);clear hx hc;obtain⟨xa,xl,xc⟩:=x;dsimp only at hcell;obtain⟨m,hm⟩:∃m,m=xl.length:=⟨_,rfl⟩;have hml:m<9223372036854775807:=by rw[hm];exact hokx.out.2.2
   rw[←hm]at hcell;have Hm:=Za hm;clear hm;go_wp2_with fail;go_loopw[16] (fun i W=>∃j:Nat,j≤m∧i= .int .i64 j∧Hid ((xl.drop j).all okI=xl.all okI)∧Below w.heap.size w W) (fun i _=>m-(intOf i).toNat)
   case atStart=>exact⟨0,Nat.zero_le _,rfl,Za rfl,hB⟩
   case round=>
    obtain⟨j,hj,rfl,Hin,hB2⟩:=hrel;by_cases hlj:j<m
    ·have hI2:(j:Int)<(m:Int):=by omega
     obtain⟨y,hy⟩:∃y,xl[j]? =some y:=⟨_,List.getElem?_eq_getElem (by have:=Hm.out;omega)⟩;obtain⟨b2,off2,rfl,c0,c1,c2,c3⟩:=(hokx.out.1.keep hB2).at j y hy;have hsz:=hokx.out.2.1 y (List.mem_of_getElem? hy);have hix2:=Zr b2 off2 m xc j hlj;have hy:=Za hy;obtain⟨q,a,t,d⟩:=y;dsimp only at c0 c1 c2 c3 hsz;by_cases k1:q=1
     ·subst k1;by_cases hd:d<0
      ·have hdd:¬0≤d:=by omega
       have hdx:¬(0:Int)=d:=by omega
       have Hbad:Hid (rightL ls=false):=by
        show rightL ls=false;have h1:xl.all okI=false:=by rw[←Hin.out,ZF okI xl j _ hy.out];rw[show okI _=false by simp[okI,hdd]];rfl
        have h2:=Hout.out
        try dsimp only at h2
        rw[h1,Bool.false_and]at h2;rw[←Hrel.out];exact h2
       clear Hin Hout Hrel;go_wp2_with fail;go_region
       all_goals (go_wp2;go_ret;first|exact⟨by rw[Hbad.out];rfl,hB2.alloc hB2.size _⟩|exact⟨by rw[Hbad.out];rfl,(hB2.alloc hB2.size _).alloc (hB2.alloc hB2.size _).size _⟩|exact⟨by rw[Hbad.out];rfl,((hB2.alloc hB2.size _).drew).alloc (hB2.alloc hB2.size _).size _⟩|exact⟨by rw[Hbad.out];rfl,((hB2.alloc hB2.size _).alloc (hB2.alloc hB2.size _).size _).drew⟩)
      ·have hdd:0≤d:=by omega
       by_cases ha:(0:Int)=a
       ·subst ha;have hok1:Hid (okI ⟨1,0,t,d⟩=tS t):=by show _=_;simp[okI,hdd]
        go_wp2_with fail;go_region;go_wp2_with fail;refine(ZbX _ _ (T8.out.keep (by first|exact hB2|exact(hB2.alloc hB2.size _).alloc (hB2.alloc hB2.size _).size _|exact((hB2.alloc hB2.size _).drew).alloc (hB2.alloc hB2.size _).size _|exact((hB2.alloc hB2.size _).alloc (hB2.alloc hB2.size _).size _).drew)) (Nat.lt_of_le_of_lt hsz (by decide))).mono ?_;rintro e w3 ⟨rfl,hb3⟩;have hB3:Below w.heap.size w w3:=by first|exact Zb hB2 (Z3 (Below.refl _ _) hb3)|exact Zah hB2 hB2.size (Below.trans (((Below.refl wr.heap.size wr).alloc (Nat.le_refl _) _).alloc (by simp) _).drew (hb3.mono (by simp;omega)))
        clear hb3;have ho:=hok1.out;generalize tS _=v at ho⊢;have Ho:=Za ho;clear ho;cases v with
        |true=>
         have hin2:Hid ((xl.drop (j+1)).all okI=xl.all okI):=by show _=_;have h1:=ZF okI xl j _ hy.out;rw[Ho.out,Bool.true_and]at h1;rw[←Hin.out];exact h1.symm
         clear Hin Hrel Hout Ho hok1;go_wp2;go_roundw
         case rel=>exact⟨j+1,by omega,by simp,hin2,hB3⟩
         case measure=>simp[intOf];omega
        |false=>
         have Hbad:Hid (rightL ls=false):=by
          show rightL ls=false;have h1:xl.all okI=false:=by rw[←Hin.out,ZF okI xl j _ hy.out];rw[Ho.out];rfl
          have h2:=Hout.out
          try dsimp only at h2
          rw[h1,Bool.false_and]at h2;rw[←Hrel.out];exact h2
         clear Hin Hout Hrel Ho hok1;go_wp2;go_ret;exact⟨by rw[Hbad.out];rfl,hB3⟩
       ·have Hbad:Hid (rightL ls=false):=by
         show rightL ls=false;have h1:xl.all okI=false:=by rw[←Hin.out,ZF okI xl j _ hy.out];rw[show okI _=false by simp[okI,ha]];rfl
         have h2:=Hout.out
         try dsimp only at h2
         rw[h1,Bool.false_and]at h2;rw[←Hrel.out];exact h2
        clear Hin Hout Hrel;go_wp2_with fail;go_region
        all_goals (go_wp2;go_ret;first|exact⟨by rw[Hbad.out];rfl,hB2.alloc hB2.size _⟩|exact⟨by rw[Hbad.out];rfl,(hB2.alloc hB2.size _).alloc (hB2.alloc hB2.size _).size _⟩|exact⟨by rw[Hbad.out];rfl,((hB2.alloc hB2.size _).drew).alloc (hB2.alloc hB2.size _).size _⟩|exact⟨by rw[Hbad.out];rfl,((hB2.alloc hB2.size _).alloc (hB2.alloc hB2.size _).size _).drew⟩)
     ·by_cases k2:q=2
      ·subst k2;clear k1;by_cases ht0:t.toList=[]
       ·by_cases hd0:(0:Int)=d
        ·have te:=Zai ht0;subst te;subst hd0;clear ht0;have hok1:Hid (okI ⟨2,a,⟨#[]⟩,0⟩=tS ⟨#[]⟩):=by show _=_;simp[okI]
         go_wp2_with fail;skip;go_wp2_with fail;refine(ZbX _ _ (T8.out.keep (by first|exact hB2|exact(hB2.alloc hB2.size _).alloc (hB2.alloc hB2.size _).size _|exact((hB2.alloc hB2.size _).drew).alloc (hB2.alloc hB2.size _).size _|exact((hB2.alloc hB2.size _).alloc (hB2.alloc hB2.size _).size _).drew)) (Nat.lt_of_le_of_lt hsz (by decide))).mono ?_;rintro e w3 ⟨rfl,hb3⟩;have hB3:Below w.heap.size w w3:=by first|exact Zb hB2 (Z3 (Below.refl _ _) hb3)|exact Zah hB2 hB2.size (Below.trans (((Below.refl wr.heap.size wr).alloc (Nat.le_refl _) _).alloc (by simp) _).drew (hb3.mono (by simp;omega)))
         clear hb3;have ho:=hok1.out;generalize tS _=v at ho⊢;have Ho:=Za ho;clear ho;cases v with
         |true=>
          have hin2:Hid ((xl.drop (j+1)).all okI=xl.all okI):=by show _=_;have h1:=ZF okI xl j _ hy.out;rw[Ho.out,Bool.true_and]at h1;rw[←Hin.out];exact h1.symm
          clear Hin Hrel Hout Ho hok1;go_wp2;go_roundw
          case rel=>exact⟨j+1,by omega,by simp,hin2,hB3⟩
          case measure=>simp[intOf];omega
         |false=>
          have Hbad:Hid (rightL ls=false):=by
           show rightL ls=false;have h1:xl.all okI=false:=by rw[←Hin.out,ZF okI xl j _ hy.out];rw[Ho.out];rfl
           have h2:=Hout.out
           try dsimp only at h2
           rw[h1,Bool.false_and]at h2;rw[←Hrel.out];exact h2
          clear Hin Hout Hrel Ho hok1;go_wp2;go_ret;exact⟨by rw[Hbad.out];rfl,hB3⟩
        ·have te:=Zai ht0;subst te;clear ht0
         have Hbad:Hid (rightL ls=false):=by
          show rightL ls=false;have h1:xl.all okI=false:=by rw[←Hin.out,ZF okI xl j _ hy.out];rw[show okI _=false by simp[okI,hd0]];rfl
          have h2:=Hout.out
          try dsimp only at h2
          rw[h1,Bool.false_and]at h2;rw[←Hrel.out];exact h2
         clear Hin Hout Hrel;go_wp2_with fail;skip
         all_goals (go_wp2;go_ret;first|exact⟨by rw[Hbad.out];rfl,hB2.alloc hB2.size _⟩|exact⟨by rw[Hbad.out];rfl,(hB2.alloc hB2.size _).alloc (hB2.alloc hB2.size _).size _⟩|exact⟨by rw[Hbad.out];rfl,((hB2.alloc hB2.size _).drew).alloc (hB2.alloc hB2.size _).size _⟩|exact⟨by rw[Hbad.out];rfl,((hB2.alloc hB2.size _).alloc (hB2.alloc hB2.size _).size _).drew⟩)
       ·have Hbad:Hid (rightL ls=false):=by
         show rightL ls=false;have h1:xl.all okI=false:=by rw[←Hin.out,ZF okI xl j _ hy.out];rw[show okI _=false by simp[okI,ht0]];rfl
         have h2:=Hout.out
         try dsimp only at h2
         rw[h1,Bool.false_and]at h2;rw[←Hrel.out];exact h2
        clear Hin Hout Hrel;go_wp2_with fail;skip
        all_goals (go_wp2;go_ret;first|exact⟨by rw[Hbad.out];rfl,hB2.alloc hB2.size _⟩|exact⟨by rw[Hbad.out];rfl,(hB2.alloc hB2.size _).alloc (hB2.alloc hB2.size _).size _⟩|exact⟨by rw[Hbad.out];rfl,((hB2.alloc hB2.size _).drew).alloc (hB2.alloc hB2.size _).size _⟩|exact⟨by rw[Hbad.out];rfl,((hB2.alloc hB2.size _).alloc (hB2.alloc hB2.size _).size _).drew⟩)
      ·by_cases k3:q=3
       ·subst k3;clear k1 k2;by_cases ha:(0:Int)=a
        ·by_cases hd0:(0:Int)=d
         ·subst ha;subst hd0;have hok1:Hid (okI ⟨3,0,t,0⟩=tS t):=by show _=_;simp[okI]
          go_wp2_with fail;skip;go_wp2_with fail;refine(ZbX _ _ (T8.out.keep (by first|exact hB2|exact(hB2.alloc hB2.size _).alloc (hB2.alloc hB2.size _).size _|exact((hB2.alloc hB2.size _).drew).alloc (hB2.alloc hB2.size _).size _|exact((hB2.alloc hB2.size _).alloc (hB2.alloc hB2.size _).size _).drew)) (Nat.lt_of_le_of_lt hsz (by decide))).mono ?_;rintro e w3 ⟨rfl,hb3⟩;have hB3:Below w.heap.size w w3:=by first|exact Zb hB2 (Z3 (Below.refl _ _) hb3)|exact Zah hB2 hB2.size (Below.trans (((Below.refl wr.heap.size wr).alloc (Nat.le_refl _) _).alloc (by simp) _).drew (hb3.mono (by simp;omega)))
          clear hb3;have ho:=hok1.out;generalize tS _=v at ho⊢;have Ho:=Za ho;clear ho;cases v with
          |true=>
           have hin2:Hid ((xl.drop (j+1)).all okI=xl.all okI):=by show _=_;have h1:=ZF okI xl j _ hy.out;rw[Ho.out,Bool.true_and]at h1;rw[←Hin.out];exact h1.symm
           clear Hin Hrel Hout Ho hok1;go_wp2;go_roundw
           case rel=>exact⟨j+1,by omega,by simp,hin2,hB3⟩
           case measure=>simp[intOf];omega
          |false=>
           have Hbad:Hid (rightL ls=false):=by
            show rightL ls=false;have h1:xl.all okI=false:=by rw[←Hin.out,ZF okI xl j _ hy.out];rw[Ho.out];rfl
            have h2:=Hout.out
            try dsimp only at h2
            rw[h1,Bool.false_and]at h2;rw[←Hrel.out];exact h2
           clear Hin Hout Hrel Ho hok1;go_wp2;go_ret;exact⟨by rw[Hbad.out];rfl,hB3⟩
         ·subst ha
          have Hbad:Hid (rightL ls=false):=by
           show rightL ls=false;have h1:xl.all okI=false:=by rw[←Hin.out,ZF okI xl j _ hy.out];rw[show okI _=false by simp[okI,hd0]];rfl
           have h2:=Hout.out
           try dsimp only at h2
           rw[h1,Bool.false_and]at h2;rw[←Hrel.out];exact h2
          clear Hin Hout Hrel;go_wp2_with fail;skip
          all_goals (go_wp2;go_ret;first|exact⟨by rw[Hbad.out];rfl,hB2.alloc hB2.size _⟩|exact⟨by rw[Hbad.out];rfl,(hB2.alloc hB2.size _).alloc (hB2.alloc hB2.size _).size _⟩|exact⟨by rw[Hbad.out];rfl,((hB2.alloc hB2.size _).drew).alloc (hB2.alloc hB2.size _).size _⟩|exact⟨by rw[Hbad.out];rfl,((hB2.alloc hB2.size _).alloc (hB2.alloc hB2.size _).size _).drew⟩)
        ·have Hbad:Hid (rightL ls=false):=by
          show rightL ls=false;have h1:xl.all okI=false:=by rw[←Hin.out,ZF okI xl j _ hy.out];rw[show okI _=false by simp[okI,ha]];rfl
          have h2:=Hout.out
          try dsimp only at h2
          rw[h1,Bool.false_and]at h2;rw[←Hrel.out];exact h2
         clear Hin Hout Hrel;go_wp2_with fail;skip
         all_goals (go_wp2;go_ret;first|exact⟨by rw[Hbad.out];rfl,hB2.alloc hB2.size _⟩|exact⟨by rw[Hbad.out];rfl,(hB2.alloc hB2.size _).alloc (hB2.alloc hB2.size _).size _⟩|exact⟨by rw[Hbad.out];rfl,((hB2.alloc hB2.size _).drew).alloc (hB2.alloc hB2.size _).size _⟩|exact⟨by rw[Hbad.out];rfl,((hB2.alloc hB2.size _).alloc (hB2.alloc hB2.size _).size _).drew⟩)
       ·by_cases k4:q=4
        ·subst k4;clear k1 k2 k3;by_cases ht0:t.toList=[]
         ·have te:=Zai ht0;subst te;clear ht0;by_cases hd0:(0:Int)=d
          ·subst hd0;by_cases ha0:a=0
           ·subst ha0;have hok1:Hid (okI ⟨4,0,⟨#[]⟩,0⟩=tS ⟨#[]⟩):=by show _=_;simp[okI]
            have e01:bits .and .i64 0 1=0:=by decide+kernel
            go_wp2_with fail;skip;go_wp2_with fail;refine(ZbX _ _ (T8.out.keep (by first|exact hB2|exact(hB2.alloc hB2.size _).alloc (hB2.alloc hB2.size _).size _|exact((hB2.alloc hB2.size _).drew).alloc (hB2.alloc hB2.size _).size _|exact((hB2.alloc hB2.size _).alloc (hB2.alloc hB2.size _).size _).drew)) (Nat.lt_of_le_of_lt hsz (by decide))).mono ?_;rintro e w3 ⟨rfl,hb3⟩;have hB3:Below w.heap.size w w3:=by first|exact Zb hB2 (Z3 (Below.refl _ _) hb3)|exact Zah hB2 hB2.size (Below.trans (((Below.refl wr.heap.size wr).alloc (Nat.le_refl _) _).alloc (by simp) _).drew (hb3.mono (by simp;omega)))
            clear hb3;have ho:=hok1.out;generalize tS _=v at ho⊢;have Ho:=Za ho;clear ho;cases v with
            |true=>
             have hin2:Hid ((xl.drop (j+1)).all okI=xl.all okI):=by show _=_;have h1:=ZF okI xl j _ hy.out;rw[Ho.out,Bool.true_and]at h1;rw[←Hin.out];exact h1.symm
             clear Hin Hrel Hout Ho hok1;go_wp2;go_roundw
             case rel=>exact⟨j+1,by omega,by simp,hin2,hB3⟩
             case measure=>simp[intOf];omega
            |false=>
             have Hbad:Hid (rightL ls=false):=by
              show rightL ls=false;have h1:xl.all okI=false:=by rw[←Hin.out,ZF okI xl j _ hy.out];rw[Ho.out];rfl
              have h2:=Hout.out
              try dsimp only at h2
              rw[h1,Bool.false_and]at h2;rw[←Hrel.out];exact h2
             clear Hin Hout Hrel Ho hok1;go_wp2;go_ret;exact⟨by rw[Hbad.out];rfl,hB3⟩
           ·by_cases ha1:a=1
            ·subst ha1;have hok1:Hid (okI ⟨4,1,⟨#[]⟩,0⟩=tS ⟨#[]⟩):=by show _=_;simp[okI]
             have e01:bits .and .i64 1 1=1:=by decide+kernel
             go_wp2_with fail;skip;go_wp2_with fail;refine(ZbX _ _ (T8.out.keep (by first|exact hB2|exact(hB2.alloc hB2.size _).alloc (hB2.alloc hB2.size _).size _|exact((hB2.alloc hB2.size _).drew).alloc (hB2.alloc hB2.size _).size _|exact((hB2.alloc hB2.size _).alloc (hB2.alloc hB2.size _).size _).drew)) (Nat.lt_of_le_of_lt hsz (by decide))).mono ?_;rintro e w3 ⟨rfl,hb3⟩;have hB3:Below w.heap.size w w3:=by first|exact Zb hB2 (Z3 (Below.refl _ _) hb3)|exact Zah hB2 hB2.size (Below.trans (((Below.refl wr.heap.size wr).alloc (Nat.le_refl _) _).alloc (by simp) _).drew (hb3.mono (by simp;omega)))
             clear hb3;have ho:=hok1.out;generalize tS _=v at ho⊢;have Ho:=Za ho;clear ho;cases v with
             |true=>
              have hin2:Hid ((xl.drop (j+1)).all okI=xl.all okI):=by show _=_;have h1:=ZF okI xl j _ hy.out;rw[Ho.out,Bool.true_and]at h1;rw[←Hin.out];exact h1.symm
              clear Hin Hrel Hout Ho hok1;go_wp2;go_roundw
              case rel=>exact⟨j+1,by omega,by simp,hin2,hB3⟩
              case measure=>simp[intOf];omega
             |false=>
              have Hbad:Hid (rightL ls=false):=by
               show rightL ls=false;have h1:xl.all okI=false:=by rw[←Hin.out,ZF okI xl j _ hy.out];rw[Ho.out];rfl
               have h2:=Hout.out
               try dsimp only at h2
               rw[h1,Bool.false_and]at h2;rw[←Hrel.out];exact h2
              clear Hin Hout Hrel Ho hok1;go_wp2;go_ret;exact⟨by rw[Hbad.out];rfl,hB3⟩
            ·have ha2:¬bits .and .i64 a 1=a:=Zi1 ha0 ha1
             have Hbad:Hid (rightL ls=false):=by
              show rightL ls=false;have h1:xl.all okI=false:=by rw[←Hin.out,ZF okI xl j _ hy.out];rw[show okI _=false by simp[okI,ha0,ha1]];rfl
              have h2:=Hout.out
              try dsimp only at h2
              rw[h1,Bool.false_and]at h2;rw[←Hrel.out];exact h2
             clear Hin Hout Hrel;go_wp2_with fail;skip
             all_goals (go_wp2;go_ret;first|exact⟨by rw[Hbad.out];rfl,hB2.alloc hB2.size _⟩|exact⟨by rw[Hbad.out];rfl,(hB2.alloc hB2.size _).alloc (hB2.alloc hB2.size _).size _⟩|exact⟨by rw[Hbad.out];rfl,((hB2.alloc hB2.size _).drew).alloc (hB2.alloc hB2.size _).size _⟩|exact⟨by rw[Hbad.out];rfl,((hB2.alloc hB2.size _).alloc (hB2.alloc hB2.size _).size _).drew⟩)
          ·have Hbad:Hid (rightL ls=false):=by
            show rightL ls=false;have h1:xl.all okI=false:=by rw[←Hin.out,ZF okI xl j _ hy.out];rw[show okI _=false by simp[okI,hd0]];rfl
            have h2:=Hout.out
            try dsimp only at h2
            rw[h1,Bool.false_and]at h2;rw[←Hrel.out];exact h2
           clear Hin Hout Hrel;go_wp2_with fail;skip
           all_goals (go_wp2;go_ret;first|exact⟨by rw[Hbad.out];rfl,hB2.alloc hB2.size _⟩|exact⟨by rw[Hbad.out];rfl,(hB2.alloc hB2.size _).alloc (hB2.alloc hB2.size _).size _⟩|exact⟨by rw[Hbad.out];rfl,((hB2.alloc hB2.size _).drew).alloc (hB2.alloc hB2.size _).size _⟩|exact⟨by rw[Hbad.out];rfl,((hB2.alloc hB2.size _).alloc (hB2.alloc hB2.size _).size _).drew⟩)
         ·have Hbad:Hid (rightL ls=false):=by
           show rightL ls=false;have h1:xl.all okI=false:=by rw[←Hin.out,ZF okI xl j _ hy.out];rw[show okI _=false by simp[okI,ht0]];rfl
           have h2:=Hout.out
           try dsimp only at h2
           rw[h1,Bool.false_and]at h2;rw[←Hrel.out];exact h2
          clear Hin Hout Hrel;go_wp2_with fail;skip
          all_goals (go_wp2;go_ret;first|exact⟨by rw[Hbad.out];rfl,hB2.alloc hB2.size _⟩|exact⟨by rw[Hbad.out];rfl,(hB2.alloc hB2.size _).alloc (hB2.alloc hB2.size _).size _⟩|exact⟨by rw[Hbad.out];rfl,((hB2.alloc hB2.size _).drew).alloc (hB2.alloc hB2.size _).size _⟩|exact⟨by rw[Hbad.out];rfl,((hB2.alloc hB2.size _).alloc (hB2.alloc hB2.size _).size _).drew⟩)
        ·have f1:((q:Int)==1)=false:=by simpa using(show(q:Int)≠1 by omega)
         have f2:((q:Int)==2)=false:=by simpa using(show(q:Int)≠2 by omega)
         have f3:((q:Int)==3)=false:=by simpa using(show(q:Int)≠3 by omega)
         have f4:((q:Int)==4)=false:=by simpa using(show(q:Int)≠4 by omega)
         have Hbad:Hid (rightL ls=false):=by
          show rightL ls=false;have h1:xl.all okI=false:=by rw[←Hin.out,ZF okI xl j _ hy.out];rw[show okI _=false by simp[okI,k1,k2,k3,k4]];rfl
          have h2:=Hout.out
          try dsimp only at h2
          rw[h1,Bool.false_and]at h2;rw[←Hrel.out];exact h2
         clear Hin Hout Hrel;go_wp2_with fail;skip
         all_goals (go_wp2;go_ret;first|exact⟨by rw[Hbad.out];rfl,hB2.alloc hB2.size _⟩|exact⟨by rw[Hbad.out];rfl,(hB2.alloc hB2.size _).alloc (hB2.alloc hB2.size _).size _⟩|exact⟨by rw[Hbad.out];rfl,((hB2.alloc hB2.size _).drew).alloc (hB2.alloc hB2.size _).size _⟩|exact⟨by rw[Hbad.out];rfl,((hB2.alloc hB2.size _).alloc (hB2.alloc hB2.size _).size _).drew⟩)
    ·have hI2:¬(j:Int)<(m:Int):=by omega
     have hdone:Hid (rightL (ls.drop (k+1))=rightL ls):=by
      show _=_;have h1:xl.all okI=true:=by rw[←Hin.out];exact ZfA _ _ _ (by have:=Hm.out;omega)
      have h2:=Hout.out
      try dsimp only at h2
      rw[h1,Bool.true_and]at h2;rw[←Hrel.out];exact h2.symm
     clear Hin Hout Hrel;go_wp2;go_roundw
     case rel=>exact⟨k+1,by omega,by simp,hdone,hB2⟩
     case measure=>simp[intOf];omega
  ·have hI:¬(k:Int)<(n:Int):=by omega
   have hall:Hid (rightL ls=true):=by show rightL ls=true;rw[←Hrel.out];exact ZfA _ _ _ (by have:=Hn.out;omega)
   go_wp2;go_ret;exact⟨by rw[hall.out];rfl,hB⟩
end Go.Proofs.YtnnfhojhbbcbmaaGreatDoor
namespace Go.Proofs.YtnnfhojhbbcbmaaGreatDoor
open Go.RowKit
section
variable {H : Type} {enc : TypeId × Value → H} {w : World} {base : Nat} {sp : Nat → Bool} {held : Bool}
end
end Go.Proofs.YtnnfhojhbbcbmaaGreatDoor
