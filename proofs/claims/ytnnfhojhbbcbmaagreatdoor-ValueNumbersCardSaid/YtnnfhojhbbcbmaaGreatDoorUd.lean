/- The reference: Nodes. -/
import Derived.Test.YtnnfhojhbbcbmaaGreatDoorC34
import Derived.Test.YtnnfhojhbbcbmaaGreatDoorC21
namespace Go.Proofs.YtnnfhojhbbcbmaaGreatDoor
open Go.RowKit
theorem Zg5:∀(R:List It) (k:Nat) (x y:It),R[k]? =some y→(∀j z,j<k→R[j]? =some z→z.node<x.node)→y.node=x.node→Zbe x R=R
 | [],k,x,y,h,_,_=>by simp at h
 |z::r,0,x,y,h,_,he=>by
  simp at h;subst h;rw[Zbe,if_neg (by omega),if_pos he]
 |z::r,k+1,x,y,h,hl,he=>by
  have h0:=hl 0 z (Nat.succ_pos k) rfl;rw[Zbe,if_pos h0,Zg5 r k x y (by simpa using h) (fun j u hj hu=>hl (j+1) u (by omega) (by simpa using hu)) he]
theorem ZdH:∀(R:List It) (k:Nat) (x:It),k≤R.length→(∀j z,j<k→R[j]? =some z→z.node<x.node)→(∀y,R[k]? =some y→x.node<y.node)→Zbe x R=R.take k++x::R.drop k
 | [],k,x,h,_,_=>by
  simp at h;subst h;rw[Zbe];rfl
 |z::r,0,x,_,_,hg=>by
  have:=hg z rfl;rw[Zbe,if_neg (by omega),if_neg (by omega)];rfl
 |z::r,k+1,x,h,hl,hg=>by
  have h0:=hl 0 z (Nat.succ_pos k) rfl;rw[Zbe,if_pos h0,ZdH r k x (by simpa using h) (fun j u hj hu=>hl (j+1) u (by omega) (by simpa using hu)) (fun y hy=>hg y (by simpa using hy))];rfl
theorem ZS(w:World):Below w.heap.size w w.drew:=by have h:=Lib.below_grow w.heap.size w (Nat.le_refl _) 1 #[];rw[Sort.grow_empty]at h;exact h
theorem Zlk {W:World}{B:Nat}{v:Value}{l:List It}(h:OwI W B v l):(v= .slice none 0 0∧l=[])∨∃g cap,v= .slice (some ⟨g,0,none⟩) l.length cap∧B≤g∧g<W.heap.size∧l.length≤cap:=by
 rcases h.2 with⟨e1,e2⟩|⟨g,cap,cur,e1,q1,q2,q3,_⟩
 ·exact .inl ⟨by rw[e1],List.length_eq_zero_iff.1 e2⟩
 ·exact .inr ⟨g,cap,e1,q1,(Array.getElem?_eq_some_iff.1 q2).1,q3⟩
theorem RdI.right {w:World}{b off:Nat}{l m:List It}(h:RdI w (some ⟨b,off,none⟩) (l++m)):RdI w (some ⟨b,off+l.length*4,none⟩) m:=by
 unfold RdI at h⊢;rw[Zj]at h;rcases h with h|⟨b',off',ha,hlt,hc⟩
 ·exact .inl (List.append_eq_nil_iff.1 h).2
 ·injection ha with ha;injection ha with e1 e2;subst e1 e2;refine .inr ⟨b,_,rfl,hlt,fun i u hu=>?_⟩;have:=hc (l.length*4+i) u (by rw[List.getElem?_append_right (by rw[Zg];omega),Zg,Nat.add_sub_cancel_left];exact hu);rw[Nat.add_assoc];exact this
theorem RdI.drop {w:World}{b off:Nat}{l:List It}(h:RdI w (some ⟨b,off,none⟩) l)(k:Nat)(hk:k≤l.length):RdI w (some ⟨b,off+k*4,none⟩) (l.drop k):=by
 have h2:RdI w (some ⟨b,off,none⟩) (l.take k++l.drop k):=by rw[List.take_append_drop];exact h
 have h3:=h2.right;rw[List.length_take,Nat.min_eq_left hk]at h3;exact h3
theorem RdI.front {w:World}{a:Option Addr}{l:List It}(h:RdI w a l)(k:Nat):RdI w a (l.take k):=by
 have h2:RdI w a (l.take k++l.drop k):=by rw[List.take_append_drop];exact h
 exact h2.left
theorem Zft(R:List It)(k:Nat)(x:It)(h:k≤R.length):(R.take k++x::R.drop k).length=R.length+1:=by simp;omega
set_option maxRecDepth 100000 in
set_option maxHeartbeats 4000000 in
theorem Zjo(p:Option Addr)(n c:Nat)(l:List It)(w:World)(ha:OkA w ⟨p,l,c⟩)(hn:n=l.length)(hle:n≤1000000):
  Calls Tryz.prog 34 #[.slice p n c] w fun e w'=>∃v R er,e= .returned (.tuple #[v,.int .i64 er])∧NodP l R er∧OwI w' w.heap.size v R∧Below w.heap.size w w':=by
 obtain⟨i0,hi,hz0,hz1,hz2⟩:=info_parts ZaD;have Hi:Hid (Tryz.prog.info? 24=some i0∧i0.zero=some (.agg #[.int .u8 0,.int .i64 0,.string ⟨#[]⟩,.int .i64 0])∧i0.size=4∧i0.bytes=40):=⟨hi,hz0,hz1,hz2⟩;have mixed:Tryz.prog.follows .mixedOrders=true:=by kernel_rfl
 have Hr:=Za (Zt p n c l w ha hn);have Ha:=Za ha;have Hn:=Za hn;clear ha hn hi hz0 hz1 hz2;rcases Bool.eq_false_or_eq_true (l.all okI)with hq|hq
 ·have HQ:=Za hq;rw[hq]at Hr;clear hq;go_enter Tryz.func34,Tryz.ntmps34;go_wp2_with fail;refine Hr.out.mono ?_;rintro e w1 ⟨rfl,hb1⟩;clear Hr;go_wp2_with fail;go_loopw[4,5,6,7] (fun v iv av nv W=>∃(i:Nat) (out:List It),i≤n∧iv= .int .i64 i∧OwI W w.heap.size v out∧Hid (NodesOk (l.take i) out)∧Hid (∀y∈l.take i,y.kind=1)∧out.length≤i∧Below w.heap.size w W) (fun _ iv _ _ _=>n-(intOf iv).toNat)
  case atStart=>exact⟨0,[],Nat.zero_le _,rfl,OwI.nil _ _,Za NodesOk.nil,Za (fun y hy=>by simp at hy),Nat.le_refl _,hb1⟩
  case round=>
   clear hb1;obtain⟨i,out,hin,rfl,ho,HN,HK,hol,hB⟩:=hrel;have Hol:=Za hol;have Ho:=Za ho;by_cases hlt:i<n
   ·have hI:(i:Int)<(n:Int):=by omega
    obtain⟨x,hx⟩:∃x,l[i]? =some x:=⟨_,List.getElem?_eq_getElem (by have:=Hn.out;omega)⟩;have HRl:=Za (Ha.out.1.keep hB);obtain⟨b1,off1,e1,c0,c1,c2,c3⟩:=HRl.out.at i x hx;dsimp only at e1;subst e1;have hix:=Zr b1 off1 n c i hlt;have HX:=Za hx;clear hx;by_cases hk1:x.kind=1
    ·have HKD2:=Za (Zg3 HK.out HX.out hk1);have HN2:Hid (NodesOk (l.take (i+1)) (Zbe x out)):=by show NodesOk _ _;rw[List.take_add_one,HX.out];exact HN.out.snoc x
     clear HN HK;obtain⟨xk,xa,xt,xd⟩:=x;dsimp only at c0 c1 c2 c3;have hk1:xk=1:=hk1;subst hk1;have HXi:=Za HX.out;clear HX;obtain⟨W0,hW0⟩:∃W0,W0=wr:=⟨_,rfl⟩;subst hW0;have HBW:=Za hB;have HW0:=Za hB.size;have hB0:=Below.refl W0.heap.size W0;rcases Zlk ho with⟨hv,ho0⟩|⟨g,cap,hv,hgB,hgs,hcap⟩
     ·subst hv ho0;clear ho hB hol;have HFk:Hid (RdI W0 none (([]:List It).take 0)):=Rd.nil _ _;have HBk:Hid (RdI W0 none (([]:List It).drop 0)):=Rd.nil _ _;have HL1:Hid ((([]:List It).take 0).length=0):=rfl;have HL2:Hid ((([]:List It).drop 0).length=0):=rfl;have HLE:Hid (0≤([]:List It).length):=Nat.le_refl _;have Hml:Hid (0≤1000000):=Nat.zero_le _;have HPUT:Hid (Zbe ⟨1,xa,xt,xd⟩ []=([]:List It).take 0++(⟨1,xa,xt,xd⟩:It)::([]:List It).drop 0):=ZdH [] 0 _ (Nat.le_refl _) (fun j z hj=>absurd hj (Nat.not_lt_zero _)) (fun y hy=>by simp at hy);obtain⟨out,hout⟩:∃out:List It,out=[]:=⟨_,rfl⟩;rw[←hout]at HFk HBk HL1 HL2 HLE HPUT Ho Hol HN2;clear hout;go_wp2;go_loopw[6] (fun v W=>v= .int .i64 0∧Below W0.heap.size W0 W) (fun _ _=>0)
      case atStart=>exact⟨rfl,hB0⟩
      case round=>
       clear hB0 c0 c1 c2 c3;obtain⟨rfl,hBw0⟩:=hrel;obtain⟨W9,hW9⟩:∃W9,W9=wr:=⟨_,rfl⟩;subst hW9;go_wp2_with fail
       go_big_region_o
       go_wp2_with fail
       go_big_region_o
       have hBw:Below W0.heap.size W0 W9.drew.drew:=Zb (Zb hBw0 (ZS W9)) (ZS W9.drew);clear hBw0;generalize W9.drew.drew=wr at hBw⊢;have hb1:=hBw;have HOa:Hid (OwI wr W0.heap.size (.slice none 0 0) (out.take 0)):=OwI.nil _ _;obtain⟨W1,hW1⟩:∃W1,W1=wr:=⟨_,rfl⟩;subst hW1;clear hBw;obtain⟨b1,off1,e1,c0,c1,c2,c3⟩:=(HRl.out.keep hb1).at i _ HXi.out
       try dsimp only at e1
       injection e1 with e1;injection e1 with e1 e2;subst e1 e2
       try dsimp only at c0 c1 c2 c3
       have hka:=(Below.refl W1.heap.size W1).alloc (Nat.le_refl _) (.cells #[.int .u8 1,.int .i64 xa,.string xt,.int .i64 xd] 24);have HO2:=Za (HOa.out.keep hka);have Hrd:=Za (RdI.new W1 24 [⟨1,xa,xt,xd⟩]);have hb1a:=hb1.alloc hb1.size (.cells #[.int .u8 1,.int .i64 xa,.string xt,.int .i64 xd] 24);clear hka HOa;go_wp2_with (at_builtin;refine Zk rfl _ _ 28 rfl i0 _ 40 1 Tryz.underlying28 Hi.out.1 Hi.out.2.1 Hi.out.2.2.1 Hi.out.2.2.2 rfl (by decide) rfl rfl (Zv [⟨1,xa,xt,xd⟩]) HO2.out Hrd.out (m:=1) rfl ?f2a ?f3a ?f4a ?_)
       try case f2a=>(have h8:=Hml.out;have h9:=HLE.out;(try simp only[List.length_append,List.length_take,List.length_cons,List.length_nil]);omega)
       try case f3a=>(have h8:=Hml.out;have h9:=HLE.out;(try simp only[List.length_append,List.length_take,List.length_cons,List.length_nil]);omega)
       try case f4a=>first|exact hb1a.size|(have h9:=hb1a.size;simp at h9⊢;omega)
       intro v2 W2 own2 hg2 hv2;have hb2:Below W0.heap.size W0 W2:=hb1a.grown hg2 hb1a.size fun b hb=>(Z5 HO2.out b hb).1
       have own2':OwI W2 W0.heap.size v2 (out.take 0++[⟨1,xa,xt,xd⟩]):=by
        unfold OwI;rw[Zj,List.length_append,List.length_singleton]
        first|exact own2|(rw[List.length_take];exact own2)
       have HOb:=Za own2';have HBr:=Za (HBk.out.keep hb2);clear own2 hg2 hv2 own2' HO2 Hrd hb1 hb1a c0 c1 c2 c3;go_wp2_with (at_builtin;refine Zk rfl _ _ 28 rfl i0 _ 40 _ Tryz.underlying28 Hi.out.1 Hi.out.2.1 Hi.out.2.2.1 Hi.out.2.2.2 rfl (by decide) rfl rfl (Zv _) HOb.out HBr.out (m:=0) ?g1a ?g2a ?g3a ?g4a ?_)
       try case g1a=>rw[Zg];have:=HL2.out;omega
       try case g2a=>(have h8:=Hml.out;have h9:=HLE.out;(try simp only[List.length_append,List.length_take,List.length_cons,List.length_nil]);omega)
       try case g3a=>(have h8:=Hml.out;have h9:=HLE.out;(try simp only[List.length_append,List.length_take,List.length_cons,List.length_nil]);omega)
       try case g4a=>exact hb2.size
       intro v3 W3 own3 hg3 hv3;have hb3:Below W0.heap.size W0 W3:=hb2.grown hg3 hb2.size fun b hb=>(Z5 HOb.out b hb).1
       have own3':OwI W3 w.heap.size v3 (Zbe ⟨1,xa,xt,xd⟩ out):=by
        rw[HPUT.out];refine OwI.mono ?_ HW0.out;unfold OwI;have e:out.take 0++(⟨1,xa,xt,xd⟩:It)::out.drop 0=(out.take 0++[⟨1,xa,xt,xd⟩])++out.drop 0:=by simp
        rw[e,Zj,List.length_append,HL2.out]
        first|exact own3|(rw[List.length_append,List.length_take,List.length_singleton];exact own3)
       have HOc:=Za own3';have hB3:=Zb HBW.out hb3;clear own3 hg3 hv3 own3' HOb HBr hb2 hb3;go_wp2;go_roundw
       case rel=>exact⟨i+1,_,by omega,by simp,HOc.out,HN2,HKD2,by rw[HPUT.out,Zft _ _ _ HLE.out];have:=Hol.out;omega,hB3⟩
       case measure=>simp[intOf];omega
     ·subst hv;have HRo:=Za (OwI.rd Ho.out);obtain⟨m,hm⟩:∃m,m=out.length:=⟨_,rfl⟩;rw[←hm]at hcap Ho⊢;have Hm:=Za hm;have hmi:m≤1000000:=by have:=Hol.out;omega
      clear ho hB hol hm;go_wp2;go_loopw[6] (fun v W=>∃t:Nat,t≤m∧v= .int .i64 t∧Hid (∀j z,j<t→out[j]? =some z→z.node<xd)∧Below W0.heap.size W0 W) (fun v _=>m-(intOf v).toNat)
      case atStart=>exact⟨0,Nat.zero_le _,rfl,fun j z hj=>absurd hj (Nat.not_lt_zero _),hB0⟩
      case round=>
       clear hB0 c0 c1 c2 c3;obtain⟨t,htm,rfl,HT,hBw0⟩:=hrel;have Hml:Hid (m≤1000000∧t≤m):=⟨hmi,htm⟩;have HFk:=Za (HRo.out.front t);have hbk:=HRo.out.drop t (by have:=Hm.out;omega);rw[Nat.zero_add]at hbk;have HBk:=Za hbk;clear hbk;have HL1:Hid ((out.take t).length=t):=by show _=_;rw[List.length_take];have:=Hm.out;omega
       have HL2:Hid ((out.drop t).length=m-t):=by show _=_;rw[List.length_drop];have:=Hm.out;omega
       have HLE:Hid (t≤out.length):=by show _≤_;have:=Hm.out;omega
       obtain⟨b1,off1,e1,c0,c1,c2,c3⟩:=(HRl.out.keep hBw0).at i _ HXi.out
       try dsimp only at e1
       injection e1 with e1;injection e1 with e1 e2;subst e1 e2
       try dsimp only at c0 c1 c2 c3
       obtain⟨W9,hW9⟩:∃W9,W9=wr:=⟨_,rfl⟩;subst hW9;by_cases htl:t<m
       ·have hT:(t:Int)<(m:Int):=by omega
        obtain⟨y,hy⟩:∃y,out[t]? =some y:=⟨_,List.getElem?_eq_getElem (by have:=Hm.out;omega)⟩;obtain⟨b2,off2,e2,d0,d1,d2,d3⟩:=(HRo.out.keep hBw0).at t y hy;injection e2 with e2;injection e2 with e2 e3;subst e2 e3;have HY:=Za hy;have him:=fun W=>Zr g 0 m cap t htl W;simp only[Nat.zero_add]at him d0 d1 d2 d3;clear hy;obtain⟨yk,ya,yt,yd⟩:=y;dsimp only at d0 d1 d2 d3;by_cases hyx:yd<xd
        ·have HT2:Hid (∀j z,j<t+1→out[j]? =some z→z.node<xd):=by
          intro j z hj hz;rcases Nat.lt_or_ge j t with h|h
          ·exact HT.out j z h hz
          ·have:j=t:=by omega
           subst this;have h2:=HY.out;rw[hz]at h2;injection h2 with h2;rw[h2];exact hyx
         have hBw:=Zb hBw0 (ZS W9);clear hBw0 HT HY;go_wp2_with fail
         go_big_region_o
         all_goals go_wp2
         go_roundw
         case rel=>exact⟨t+1,by omega,by simp,HT2,hBw⟩
         case measure=>simp[intOf];omega
        ·have hyxf:decide (yd<xd)=false:=decide_eq_false hyx;by_cases hyq:yd=xd
         ·have HSK:Hid (Zbe ⟨1,xa,xt,xd⟩ out=out):=Zg5 out t _ _ HY.out HT.out hyq;rw[HSK.out]at HN2;subst hyq;have hBw:=Zb HBW.out (Zb (Zb hBw0 (ZS W9)) (ZS W9.drew));have HOk:=Za (Ho.out.keep (Zb (Zb hBw0 (ZS W9)) (ZS W9.drew)));clear hBw0 HT HY HSK;go_wp2_with fail
          go_big_region_o
          go_wp2_with fail
          go_big_region_o
          all_goals go_wp2
          go_roundw
          case rel=>exact⟨i+1,out,by omega,by simp,by have:=HOk.out;rw[Hm.out]at this;rw[Hm.out];exact this,HN2,HKD2,by have:=Hol.out;omega,hBw⟩
          case measure=>simp[intOf];omega
         ·have hyqf:(yd==xd)=false:=by simpa using hyq
          have HPUT:Hid (Zbe ⟨1,xa,xt,xd⟩ out=out.take t++(⟨1,xa,xt,xd⟩:It)::out.drop t):=ZdH out t _ HLE.out HT.out (fun z hz=>by
           have h2:=HY.out;rw[hz]at h2;injection h2 with h2
           rw[h2];show xd<yd;omega)
          have htc:t<cap:=by omega
          clear HT HY;go_wp2_with fail
          go_big_region_o
          go_wp2_with fail
          go_big_region_o
          clear d0 d1 d2 d3 c0 c1 c2 c3;have hBw:Below W0.heap.size W0 W9.drew.drew:=Zb (Zb hBw0 (ZS W9)) (ZS W9.drew);clear hBw0 hyx hyq;generalize W9.drew.drew=wr at hBw⊢;have hO1:=OwI.nil wr W0.heap.size;have HO1:=Za hO1;have HFr:=Za (HFk.out.keep hBw);clear hO1;go_wp2_with (at_builtin;refine Zk rfl _ _ 28 rfl i0 _ 40 cap Tryz.underlying28 Hi.out.1 Hi.out.2.1 Hi.out.2.2.1 Hi.out.2.2.2 rfl (by decide) rfl rfl (Zv _) HO1.out HFr.out (m:=t) ?e1b ?e2b ?e3b ?e4b ?_)
          try case e1b=>rw[Zg];have:=HL1.out;omega
          try case e2b=>have:=Hml.out;simp;omega
          try case e3b=>have:=Hml.out;simp;omega
          try case e4b=>exact hBw.size
          intro v1 W1 own1 hg1 hv1;have hb1:Below W0.heap.size W0 W1:=hBw.grown hg1 hBw.size fun b hb=>by simp[Value.ownBlock]at hb
          have own1':OwI W1 W0.heap.size v1 (out.take t):=by
           unfold OwI;rw[HL1.out]
           try rw[List.length_nil]at own1
           try rw[Nat.zero_add]at own1
           exact own1
          have HOa:=Za own1';clear own1 hg1 hv1 own1' HFr;obtain⟨b1,off1,e1,c0,c1,c2,c3⟩:=(HRl.out.keep hb1).at i _ HXi.out
          try dsimp only at e1
          injection e1 with e1;injection e1 with e1 e2;subst e1 e2
          try dsimp only at c0 c1 c2 c3
          have hka:=(Below.refl W1.heap.size W1).alloc (Nat.le_refl _) (.cells #[.int .u8 1,.int .i64 xa,.string xt,.int .i64 xd] 24);have HO2:=Za (HOa.out.keep hka);have Hrd:=Za (RdI.new W1 24 [⟨1,xa,xt,xd⟩]);have hb1a:=hb1.alloc hb1.size (.cells #[.int .u8 1,.int .i64 xa,.string xt,.int .i64 xd] 24);clear hka HOa;go_wp2_with (at_builtin;refine Zk rfl _ _ 28 rfl i0 _ 40 1 Tryz.underlying28 Hi.out.1 Hi.out.2.1 Hi.out.2.2.1 Hi.out.2.2.2 rfl (by decide) rfl rfl (Zv [⟨1,xa,xt,xd⟩]) HO2.out Hrd.out (m:=1) rfl ?f2b ?f3b ?f4b ?_)
          try case f2b=>(have h8:=Hml.out;have h9:=HLE.out;(try simp only[List.length_append,List.length_take,List.length_cons,List.length_nil]);omega)
          try case f3b=>(have h8:=Hml.out;have h9:=HLE.out;(try simp only[List.length_append,List.length_take,List.length_cons,List.length_nil]);omega)
          try case f4b=>first|exact hb1a.size|(have h9:=hb1a.size;simp at h9⊢;omega)
          intro v2 W2 own2 hg2 hv2;have hb2:Below W0.heap.size W0 W2:=hb1a.grown hg2 hb1a.size fun b hb=>(Z5 HO2.out b hb).1
          have own2':OwI W2 W0.heap.size v2 (out.take t++[⟨1,xa,xt,xd⟩]):=by
           unfold OwI;rw[Zj,List.length_append,List.length_singleton]
           first|exact own2|(rw[List.length_take];exact own2)
          have HOb:=Za own2';have HBr:=Za (HBk.out.keep hb2);clear own2 hg2 hv2 own2' HO2 Hrd hb1 hb1a c0 c1 c2 c3;go_wp2_with (at_builtin;refine Zk rfl _ _ 28 rfl i0 _ 40 _ Tryz.underlying28 Hi.out.1 Hi.out.2.1 Hi.out.2.2.1 Hi.out.2.2.2 rfl (by decide) rfl rfl (Zv _) HOb.out HBr.out (m:=(m-t)) ?g1b ?g2b ?g3b ?g4b ?_)
          try case g1b=>rw[Zg];have:=HL2.out;omega
          try case g2b=>(have h8:=Hml.out;have h9:=HLE.out;(try simp only[List.length_append,List.length_take,List.length_cons,List.length_nil]);omega)
          try case g3b=>(have h8:=Hml.out;have h9:=HLE.out;(try simp only[List.length_append,List.length_take,List.length_cons,List.length_nil]);omega)
          try case g4b=>exact hb2.size
          intro v3 W3 own3 hg3 hv3;have hb3:Below W0.heap.size W0 W3:=hb2.grown hg3 hb2.size fun b hb=>(Z5 HOb.out b hb).1
          have own3':OwI W3 w.heap.size v3 (Zbe ⟨1,xa,xt,xd⟩ out):=by
           rw[HPUT.out];refine OwI.mono ?_ HW0.out;unfold OwI;have e:out.take t++(⟨1,xa,xt,xd⟩:It)::out.drop t=(out.take t++[⟨1,xa,xt,xd⟩])++out.drop t:=by simp
           rw[e,Zj,List.length_append,HL2.out]
           first|exact own3|(rw[List.length_append,List.length_take,List.length_singleton];exact own3)
          have HOc:=Za own3';have hB3:=Zb HBW.out hb3;clear own3 hg3 hv3 own3' HOb HBr hb2 hb3;go_wp2;go_roundw
          case rel=>exact⟨i+1,_,by omega,by simp,HOc.out,HN2,HKD2,by rw[HPUT.out,Zft _ _ _ HLE.out];have:=Hol.out;omega,hB3⟩
          case measure=>simp[intOf];omega
       ·have hT:decide ((t:Int)<(m:Int))=false:=decide_eq_false (by omega);have htm2:t=m:=by omega
        have HPUT:Hid (Zbe ⟨1,xa,xt,xd⟩ out=out.take t++(⟨1,xa,xt,xd⟩:It)::out.drop t):=ZdH out t _ HLE.out HT.out (fun z hz=>by
         have h2:=(List.getElem?_eq_some_iff.1 hz).1;have:=Hm.out
         omega)
        have HNIL:Hid (out.drop t=[]):=List.drop_eq_nil_of_le (by have:=Hm.out;omega);clear HT htm2;by_cases hct:t=cap
        ·subst hct;have HBk:Hid (RdI W0 (some ⟨g,0,none⟩) (out.drop t)):=by show RdI _ _ _;rw[HNIL.out];exact Rd.nil _ _
         have HL2:Hid ((out.drop t).length=0):=by show _=_;rw[HNIL.out];rfl
         go_wp2_with fail
         go_big_region_o
         go_wp2_with fail
         go_big_region_o
         clear c0 c1 c2 c3;have hBw:Below W0.heap.size W0 W9.drew.drew:=Zb (Zb hBw0 (ZS W9)) (ZS W9.drew);clear hBw0;generalize W9.drew.drew=wr at hBw⊢;have hO1:=OwI.nil wr W0.heap.size;have HO1:=Za hO1;have HFr:=Za (HFk.out.keep hBw);clear hO1;go_wp2_with (at_builtin;refine Zk rfl _ _ 28 rfl i0 _ 40 t Tryz.underlying28 Hi.out.1 Hi.out.2.1 Hi.out.2.2.1 Hi.out.2.2.2 rfl (by decide) rfl rfl (Zv _) HO1.out HFr.out (m:=t) ?e1c ?e2c ?e3c ?e4c ?_)
         try case e1c=>rw[Zg];have:=HL1.out;omega
         try case e2c=>have:=Hml.out;simp;omega
         try case e3c=>have:=Hml.out;simp;omega
         try case e4c=>exact hBw.size
         intro v1 W1 own1 hg1 hv1;have hb1:Below W0.heap.size W0 W1:=hBw.grown hg1 hBw.size fun b hb=>by simp[Value.ownBlock]at hb
         have own1':OwI W1 W0.heap.size v1 (out.take t):=by
          unfold OwI;rw[HL1.out]
          try rw[List.length_nil]at own1
          try rw[Nat.zero_add]at own1
          exact own1
         have HOa:=Za own1';clear own1 hg1 hv1 own1' HFr;obtain⟨b1,off1,e1,c0,c1,c2,c3⟩:=(HRl.out.keep hb1).at i _ HXi.out
         try dsimp only at e1
         injection e1 with e1;injection e1 with e1 e2;subst e1 e2
         try dsimp only at c0 c1 c2 c3
         have hka:=(Below.refl W1.heap.size W1).alloc (Nat.le_refl _) (.cells #[.int .u8 1,.int .i64 xa,.string xt,.int .i64 xd] 24);have HO2:=Za (HOa.out.keep hka);have Hrd:=Za (RdI.new W1 24 [⟨1,xa,xt,xd⟩]);have hb1a:=hb1.alloc hb1.size (.cells #[.int .u8 1,.int .i64 xa,.string xt,.int .i64 xd] 24);clear hka HOa;go_wp2_with (at_builtin;refine Zk rfl _ _ 28 rfl i0 _ 40 1 Tryz.underlying28 Hi.out.1 Hi.out.2.1 Hi.out.2.2.1 Hi.out.2.2.2 rfl (by decide) rfl rfl (Zv [⟨1,xa,xt,xd⟩]) HO2.out Hrd.out (m:=1) rfl ?f2c ?f3c ?f4c ?_)
         try case f2c=>(have h8:=Hml.out;have h9:=HLE.out;(try simp only[List.length_append,List.length_take,List.length_cons,List.length_nil]);omega)
         try case f3c=>(have h8:=Hml.out;have h9:=HLE.out;(try simp only[List.length_append,List.length_take,List.length_cons,List.length_nil]);omega)
         try case f4c=>first|exact hb1a.size|(have h9:=hb1a.size;simp at h9⊢;omega)
         intro v2 W2 own2 hg2 hv2;have hb2:Below W0.heap.size W0 W2:=hb1a.grown hg2 hb1a.size fun b hb=>(Z5 HO2.out b hb).1
         have own2':OwI W2 W0.heap.size v2 (out.take t++[⟨1,xa,xt,xd⟩]):=by
          unfold OwI;rw[Zj,List.length_append,List.length_singleton]
          first|exact own2|(rw[List.length_take];exact own2)
         have HOb:=Za own2';have HBr:=Za (HBk.out.keep hb2);clear own2 hg2 hv2 own2' HO2 Hrd hb1 hb1a c0 c1 c2 c3;go_wp2_with (at_builtin;refine Zk rfl _ _ 28 rfl i0 _ 40 _ Tryz.underlying28 Hi.out.1 Hi.out.2.1 Hi.out.2.2.1 Hi.out.2.2.2 rfl (by decide) rfl rfl (Zv _) HOb.out HBr.out (m:=0) ?g1c ?g2c ?g3c ?g4c ?_)
         try case g1c=>rw[Zg];have:=HL2.out;omega
         try case g2c=>(have h8:=Hml.out;have h9:=HLE.out;(try simp only[List.length_append,List.length_take,List.length_cons,List.length_nil]);omega)
         try case g3c=>(have h8:=Hml.out;have h9:=HLE.out;(try simp only[List.length_append,List.length_take,List.length_cons,List.length_nil]);omega)
         try case g4c=>exact hb2.size
         intro v3 W3 own3 hg3 hv3;have hb3:Below W0.heap.size W0 W3:=hb2.grown hg3 hb2.size fun b hb=>(Z5 HOb.out b hb).1
         have own3':OwI W3 w.heap.size v3 (Zbe ⟨1,xa,xt,xd⟩ out):=by
          rw[HPUT.out];refine OwI.mono ?_ HW0.out;unfold OwI;have e:out.take t++(⟨1,xa,xt,xd⟩:It)::out.drop t=(out.take t++[⟨1,xa,xt,xd⟩])++out.drop t:=by simp
          rw[e,Zj,List.length_append,HL2.out]
          first|exact own3|(rw[List.length_append,List.length_take,List.length_singleton];exact own3)
         have HOc:=Za own3';have hB3:=Zb HBW.out hb3;clear own3 hg3 hv3 own3' HOb HBr hb2 hb3;go_wp2;go_roundw
         case rel=>exact⟨i+1,_,by omega,by simp,HOc.out,HN2,HKD2,by rw[HPUT.out,Zft _ _ _ HLE.out];have:=Hol.out;omega,hB3⟩
         case measure=>simp[intOf];omega
        ·have htc:t<cap:=by omega
         go_wp2_with fail
         go_big_region_o
         go_wp2_with fail
         go_big_region_o
         clear c0 c1 c2 c3;have hBw:Below W0.heap.size W0 W9.drew.drew:=Zb (Zb hBw0 (ZS W9)) (ZS W9.drew);clear hBw0;generalize W9.drew.drew=wr at hBw⊢;have hO1:=OwI.nil wr W0.heap.size;have HO1:=Za hO1;have HFr:=Za (HFk.out.keep hBw);clear hO1;go_wp2_with (at_builtin;refine Zk rfl _ _ 28 rfl i0 _ 40 cap Tryz.underlying28 Hi.out.1 Hi.out.2.1 Hi.out.2.2.1 Hi.out.2.2.2 rfl (by decide) rfl rfl (Zv _) HO1.out HFr.out (m:=t) ?e1d ?e2d ?e3d ?e4d ?_)
         try case e1d=>rw[Zg];have:=HL1.out;omega
         try case e2d=>have:=Hml.out;simp;omega
         try case e3d=>have:=Hml.out;simp;omega
         try case e4d=>exact hBw.size
         intro v1 W1 own1 hg1 hv1;have hb1:Below W0.heap.size W0 W1:=hBw.grown hg1 hBw.size fun b hb=>by simp[Value.ownBlock]at hb
         have own1':OwI W1 W0.heap.size v1 (out.take t):=by
          unfold OwI;rw[HL1.out]
          try rw[List.length_nil]at own1
          try rw[Nat.zero_add]at own1
          exact own1
         have HOa:=Za own1';clear own1 hg1 hv1 own1' HFr;obtain⟨b1,off1,e1,c0,c1,c2,c3⟩:=(HRl.out.keep hb1).at i _ HXi.out
         try dsimp only at e1
         injection e1 with e1;injection e1 with e1 e2;subst e1 e2
         try dsimp only at c0 c1 c2 c3
         have hka:=(Below.refl W1.heap.size W1).alloc (Nat.le_refl _) (.cells #[.int .u8 1,.int .i64 xa,.string xt,.int .i64 xd] 24);have HO2:=Za (HOa.out.keep hka);have Hrd:=Za (RdI.new W1 24 [⟨1,xa,xt,xd⟩]);have hb1a:=hb1.alloc hb1.size (.cells #[.int .u8 1,.int .i64 xa,.string xt,.int .i64 xd] 24);clear hka HOa;go_wp2_with (at_builtin;refine Zk rfl _ _ 28 rfl i0 _ 40 1 Tryz.underlying28 Hi.out.1 Hi.out.2.1 Hi.out.2.2.1 Hi.out.2.2.2 rfl (by decide) rfl rfl (Zv [⟨1,xa,xt,xd⟩]) HO2.out Hrd.out (m:=1) rfl ?f2d ?f3d ?f4d ?_)
         try case f2d=>(have h8:=Hml.out;have h9:=HLE.out;(try simp only[List.length_append,List.length_take,List.length_cons,List.length_nil]);omega)
         try case f3d=>(have h8:=Hml.out;have h9:=HLE.out;(try simp only[List.length_append,List.length_take,List.length_cons,List.length_nil]);omega)
         try case f4d=>first|exact hb1a.size|(have h9:=hb1a.size;simp at h9⊢;omega)
         intro v2 W2 own2 hg2 hv2;have hb2:Below W0.heap.size W0 W2:=hb1a.grown hg2 hb1a.size fun b hb=>(Z5 HO2.out b hb).1
         have own2':OwI W2 W0.heap.size v2 (out.take t++[⟨1,xa,xt,xd⟩]):=by
          unfold OwI;rw[Zj,List.length_append,List.length_singleton]
          first|exact own2|(rw[List.length_take];exact own2)
         have HOb:=Za own2';have HBr:=Za (HBk.out.keep hb2);clear own2 hg2 hv2 own2' HO2 Hrd hb1 hb1a c0 c1 c2 c3;go_wp2_with (at_builtin;refine Zk rfl _ _ 28 rfl i0 _ 40 _ Tryz.underlying28 Hi.out.1 Hi.out.2.1 Hi.out.2.2.1 Hi.out.2.2.2 rfl (by decide) rfl rfl (Zv _) HOb.out HBr.out (m:=(m-t)) ?g1d ?g2d ?g3d ?g4d ?_)
         try case g1d=>rw[Zg];have:=HL2.out;omega
         try case g2d=>(have h8:=Hml.out;have h9:=HLE.out;(try simp only[List.length_append,List.length_take,List.length_cons,List.length_nil]);omega)
         try case g3d=>(have h8:=Hml.out;have h9:=HLE.out;(try simp only[List.length_append,List.length_take,List.length_cons,List.length_nil]);omega)
         try case g4d=>exact hb2.size
         intro v3 W3 own3 hg3 hv3;have hb3:Below W0.heap.size W0 W3:=hb2.grown hg3 hb2.size fun b hb=>(Z5 HOb.out b hb).1
         have own3':OwI W3 w.heap.size v3 (Zbe ⟨1,xa,xt,xd⟩ out):=by
          rw[HPUT.out];refine OwI.mono ?_ HW0.out;unfold OwI;have e:out.take t++(⟨1,xa,xt,xd⟩:It)::out.drop t=(out.take t++[⟨1,xa,xt,xd⟩])++out.drop t:=by simp
          rw[e,Zj,List.length_append,HL2.out]
          first|exact own3|(rw[List.length_append,List.length_take,List.length_singleton];exact own3)
         have HOc:=Za own3';have hB3:=Zb HBW.out hb3;clear own3 hg3 hv3 own3' HOb HBr hb2 hb3;go_wp2;go_roundw
         case rel=>exact⟨i+1,_,by omega,by simp,HOc.out,HN2,HKD2,by rw[HPUT.out,Zft _ _ _ HLE.out];have:=Hol.out;omega,hB3⟩
         case measure=>simp[intOf];omega
    ·have HE:Hid (∃y∈l,y.kind≠1):=⟨x,List.mem_of_getElem? HX.out,hk1⟩;clear HK HX;obtain⟨xk,xa,xt,xd⟩:=x;dsimp only at c0 c1 c2 c3;have hk2:((xk:Int)==1)=false:=by simpa using(show(xk:Int)≠1 from fun h=>hk1 (by show xk=1;omega))
     clear hk1;go_wp2;go_ret2;exact⟨_,[],_,rfl,.inr (.inl ⟨HQ.out,HE.out,rfl,rfl⟩),OwI.nil _ _,hB⟩
   ·have hI:¬(i:Int)<(n:Int):=by omega
    have HE:Hid (l.take i=l):=List.take_of_length_le (by have:=Hn.out;omega);clear ho;obtain⟨av,cv,hv⟩:=Zl Ho.out;subst hv;go_wp2;go_ret2;refine⟨_,out,_,rfl,.inr (.inr ⟨HQ.out,?_,?_,rfl⟩),Ho.out,hB⟩
    ·have:=HK.out;rw[HE.out]at this;exact this
    ·have:=HN.out;rw[HE.out]at this;exact this
 ·have HQ:=Za hq;rw[hq]at Hr;clear hq;go_enter Tryz.func34,Tryz.ntmps34;go_wp2_with fail;refine Hr.out.mono ?_;rintro e w1 ⟨rfl,hb1⟩;go_wp2;go_ret2;exact⟨_,[],_,rfl,.inl ⟨HQ.out,rfl,rfl⟩,OwI.nil _ _,hb1⟩
end Go.Proofs.YtnnfhojhbbcbmaaGreatDoor
