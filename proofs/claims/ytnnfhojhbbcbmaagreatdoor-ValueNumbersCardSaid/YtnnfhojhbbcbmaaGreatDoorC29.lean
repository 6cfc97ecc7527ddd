/- parchmentkit: putItems. parchmentkit: apart of a bag that holds rows of items alone. parchmentkit.ApartItems of rows that lie apart. Rows that functions hand out, and whether they lie apart. great, and how long rows and texts are where it is false; SameItems; OverItems. SameItems of rows that hold the same; how long answers are. -/
import Derived.Test.YtnnfhojhbbcbmaaGreatDoorIf0
import Derived.Test.YtnnfhojhbbcbmaaGreatDoorIf3
import Derived.Test.YtnnfhojhbbcbmaaGreatDoorC07
import Derived.Test.YtnnfhojhbbcbmaaGreatDoorC25
import Derived.Test.YtnnfhojhbbcbmaaGreatDoorC18
import Derived.Test.YtnnfhojhbbcbmaaGreatDoorC27
namespace Go.Proofs.YtnnfhojhbbcbmaaGreatDoor
open Go.RowKit
def bagI(v:Value):Array Value:=#[.slice none 0 0,.slice none 0 0,.slice none 0 0,.slice none 0 0,.slice none 0 0,.slice none 0 0,.slice none 0 0,.slice none 0 0,.slice none 0 0,.slice none 0 0,.slice none 0 0,.slice none 0 0,.slice none 0 0,.slice none 0 0,v,.slice none 0 0,.slice none 0 0,.slice none 0 0]
set_option maxRecDepth 100000 in
set_option maxHeartbeats 2000000 in
theorem Zhm(gbg B n m c:Nat)(v:Value)(a:Option Addr)(xs:List Value)(w:World)(hbg:Blk w gbg 117 (bagI v))(ho:w.ownsRow B 28 1 v n xs)(hBg:gbg<B)(hB:B≤w.heap.size)(hn:n≤1000):
  Calls Tryz.prog 77 #[.pointer (some ⟨gbg,0,none⟩),.slice a m c] w fun e w'=>e= .returned (.tuple #[])∧
   ∃v',Blk w' gbg 117 (bagI v')∧w'.ownsRow B 28 1 v' (n+1) (xs++[.slice a m c])∧Below gbg w w':=by
 obtain⟨i1,hi1,hi2,hi3,hi4⟩:=info_parts ZeT;have Hi:Hid (Tryz.prog.info? 28=some i1∧i1.zero=some (.slice none 0 0)∧i1.size=1∧i1.bytes=24):=⟨hi1,hi2,hi3,hi4⟩;obtain⟨av,cv,hv⟩:=Zl ho;subst hv;have c4:w.cell? ⟨gbg,14,none⟩=some (.slice av n cv):=hbg.cell 14;have hk:=(Below.refl w.heap.size w).alloc (Nat.le_refl _) (.cells #[.slice a m c] 28);have ho1:=ZL ho hk;have hb1:=hbg.keep hk;have hrd:=Rd.new w 28 [.slice a m c];have Ho1:=Za ho1;have Hb1:=Za hb1;have Hrd:=Za hrd;clear hi1 hi2 hi3 hi4 ho hbg ho1 hb1 hrd;go_enter Tryz.func77,Tryz.ntmps77;go_wp2_with (at_builtin;refine Zk rfl _ _ 34 rfl i1 _ 24 1 Tryz.underlying34 Hi.out.1 Hi.out.2.1 Hi.out.2.2.1 Hi.out.2.2.2 rfl (by decide) rfl rfl ?e1 Ho1.out Hrd.out (m:=1) rfl ?e2 ?e3 ?e4 ?_)
 case e1=>intro u hu;simp at hu;subst hu;rfl
 case e2=>omega
 case e3=>omega
 case e4=>simp;omega
 intro v' W3 own3 hg3 hv3;have hbl:=fun b hb=>(Z5 Ho1.out b hb).1;have hb3:Blk W3 gbg 117 (bagI (.slice av n cv)):=Hb1.out.other hg3 fun e=>by have:=hbl gbg e;omega
 have hB3:Below gbg w W3:=(((Below.refl gbg w).alloc (by omega) _).grown hg3 (by simp;omega) fun b hb=>by have:=hbl b hb;omega);obtain⟨a',c',hv'⟩:=Zl own3;subst hv';have d4:W3.cell? ⟨gbg,14,none⟩=some (.slice av n cv):=hb3.cell 14;have f4:=hb3.frozen 14;have hb4:Blk (W3.setCell ⟨gbg,14,none⟩ (.slice a' (n+1) c')) gbg 117 (bagI (.slice a' (n+1) c')):=hb3.set_ 14 _;have hB4:Below gbg w (W3.setCell ⟨gbg,14,none⟩ (.slice a' (n+1) c')):=hB3.setCell (p:=⟨gbg,14,none⟩) (Nat.le_refl _) _
 have own4:(W3.setCell ⟨gbg,14,none⟩ (.slice a' (n+1) c')).ownsRow B 28 1 (.slice a' (n+1) c') (n+1) (xs++[.slice a m c]):=by
  refine World.ownsRow.kept own3 (Zc4 W3 ⟨gbg,14,none⟩ (.slice a' (n+1) c')) ?_;cases hv:(Value.slice a' (n+1) c').ownBlock with
  |none=>exact .inl rfl
  |some b=>exact .inr fun e=>by injection e with e;have:=(Z5 own3 b hv).1;dsimp only at e;omega
 have Hb4:=Za hb4;have Hown4:=Za own4;clear own3 hg3 hv3 hb3 hb4 own4 c4 Ho1 Hb1 Hrd hB3;go_wp2;go_end0;exact⟨rfl,_,Hb4.out,Hown4.out,hB4⟩
end Go.Proofs.YtnnfhojhbbcbmaaGreatDoor
namespace Go.Proofs.YtnnfhojhbbcbmaaGreatDoor
open Go.RowKit
theorem KeptI.trans {ps:List PcI}{w W W':World}(h:KeptI ps w W)(k:KeptI ps W W'):KeptI ps w W':=
 ⟨k.os.trans h.os,k.tape.trans h.tape,k.output.trans h.output,Nat.le_trans h.size k.size,fun g hg hp=>(k.block g (Nat.lt_of_lt_of_le hg h.size) hp).trans (h.block g hg hp)⟩
set_option maxRecDepth 100000 in
set_option maxHeartbeats 2000000 in
theorem Zle(gbg gl cl N:Nat)(ps:List PcI)(w:World)(hbg:Blk w gbg 117 (bagI (.slice (some ⟨gl,0,none⟩) N cl)))(hN:N=ps.length)(hNb:N≤1000)(hls:Ls w gl cl ps)(hal:All w ps (fun _ _=>[]))(hd:Zm1 ps)
  (hsm:∀p∈ps,p.2.1≤1000∧p.2.1≤p.2.2.1) (hpg:∀p∈ps,p.1≠some gbg):
  Calls Tryz.prog 78 #[.pointer (some ⟨gbg,0,none⟩)] w fun e w'=>e= .returned (.bool true)∧KeptI ps w w':=by
 have hK:=KeptI.refl ps w;have HN:=Za hN;have Hd:=Za hd;have Hsm:=Za hsm;have Hpg:=Za hpg;clear hN hd hsm hpg;have Hbg:=Za hbg;have Hls:=Za hls;have Hal:=Za hal;clear hbg hls hal;have c:w.cell? ⟨gbg,0,none⟩=some (.slice none 0 0):=Hbg.out.cell 0;go_enter Tryz.func78,Tryz.ntmps78;go_wp2_with fail;refine(Zf4 _).mono ?_;rintro e w1 ⟨rfl,hb⟩;have Hbg:=Za (Hbg.out.keep hb);have hK:=hK.keep hb;have Hls:=Za (Hls.out.keep hb);have Hal:=Za (Hal.out.keep hb);clear hb;clear c;have c:w1.cell? ⟨gbg,1,none⟩=some (.slice none 0 0):=Hbg.out.cell 1;go_wp2_with fail;refine(Zhl _).mono ?_;rintro e w2 ⟨rfl,hb⟩;have Hbg:=Za (Hbg.out.keep hb);have hK:=hK.keep hb;have Hls:=Za (Hls.out.keep hb);have Hal:=Za (Hal.out.keep hb);clear hb;clear c;have c:w2.cell? ⟨gbg,2,none⟩=some (.slice none 0 0):=Hbg.out.cell 2;go_wp2_with fail;refine(Zf5 _).mono ?_;rintro e w3 ⟨rfl,hb⟩;have Hbg:=Za (Hbg.out.keep hb);have hK:=hK.keep hb;have Hls:=Za (Hls.out.keep hb);have Hal:=Za (Hal.out.keep hb);clear hb;clear c;have c:w3.cell? ⟨gbg,3,none⟩=some (.slice none 0 0):=Hbg.out.cell 3;go_wp2_with fail;refine(Zf6 _).mono ?_;rintro e w4 ⟨rfl,hb⟩;have Hbg:=Za (Hbg.out.keep hb);have hK:=hK.keep hb;have Hls:=Za (Hls.out.keep hb);have Hal:=Za (Hal.out.keep hb);clear hb;clear c;have c:w4.cell? ⟨gbg,4,none⟩=some (.slice none 0 0):=Hbg.out.cell 4;go_wp2_with fail;refine(Zf7 _).mono ?_;rintro e w5 ⟨rfl,hb⟩;have Hbg:=Za (Hbg.out.keep hb);have hK:=hK.keep hb;have Hls:=Za (Hls.out.keep hb);have Hal:=Za (Hal.out.keep hb);clear hb;clear c;have c:w5.cell? ⟨gbg,5,none⟩=some (.slice none 0 0):=Hbg.out.cell 5;go_wp2_with fail;refine(Zf8 _).mono ?_;rintro e w6 ⟨rfl,hb⟩;have Hbg:=Za (Hbg.out.keep hb);have hK:=hK.keep hb;have Hls:=Za (Hls.out.keep hb);have Hal:=Za (Hal.out.keep hb);clear hb;clear c;have c:w6.cell? ⟨gbg,6,none⟩=some (.slice none 0 0):=Hbg.out.cell 6;go_wp2_with fail;refine(Zf9 _).mono ?_;rintro e w7 ⟨rfl,hb⟩;have Hbg:=Za (Hbg.out.keep hb);have hK:=hK.keep hb;have Hls:=Za (Hls.out.keep hb);have Hal:=Za (Hal.out.keep hb);clear hb;clear c;have c:w7.cell? ⟨gbg,7,none⟩=some (.slice none 0 0):=Hbg.out.cell 7;go_wp2_with fail;refine(Zga _).mono ?_;rintro e w8 ⟨rfl,hb⟩;have Hbg:=Za (Hbg.out.keep hb);have hK:=hK.keep hb;have Hls:=Za (Hls.out.keep hb);have Hal:=Za (Hal.out.keep hb);clear hb;clear c;have c:w8.cell? ⟨gbg,8,none⟩=some (.slice none 0 0):=Hbg.out.cell 8;go_wp2_with fail;refine(Zev _).mono ?_;rintro e w9 ⟨rfl,hb⟩;have Hbg:=Za (Hbg.out.keep hb);have hK:=hK.keep hb;have Hls:=Za (Hls.out.keep hb);have Hal:=Za (Hal.out.keep hb);clear hb;clear c;have c:w9.cell? ⟨gbg,9,none⟩=some (.slice none 0 0):=Hbg.out.cell 9;go_wp2_with fail;refine(Zew _).mono ?_;rintro e w10 ⟨rfl,hb⟩;have Hbg:=Za (Hbg.out.keep hb);have hK:=hK.keep hb;have Hls:=Za (Hls.out.keep hb);have Hal:=Za (Hal.out.keep hb);clear hb;clear c;have c:w10.cell? ⟨gbg,10,none⟩=some (.slice none 0 0):=Hbg.out.cell 10;go_wp2_with fail;refine(Zgb _).mono ?_;rintro e w11 ⟨rfl,hb⟩;have Hbg:=Za (Hbg.out.keep hb);have hK:=hK.keep hb;have Hls:=Za (Hls.out.keep hb);have Hal:=Za (Hal.out.keep hb);clear hb;clear c;have c:w11.cell? ⟨gbg,11,none⟩=some (.slice none 0 0):=Hbg.out.cell 11;go_wp2_with fail;refine(Zgc _).mono ?_;rintro e w12 ⟨rfl,hb⟩;have Hbg:=Za (Hbg.out.keep hb);have hK:=hK.keep hb;have Hls:=Za (Hls.out.keep hb);have Hal:=Za (Hal.out.keep hb);clear hb;clear c;have c:w12.cell? ⟨gbg,12,none⟩=some (.slice none 0 0):=Hbg.out.cell 12;go_wp2_with fail;refine(ZeH _).mono ?_;rintro e w13 ⟨rfl,hb⟩;have Hbg:=Za (Hbg.out.keep hb);have hK:=hK.keep hb;have Hls:=Za (Hls.out.keep hb);have Hal:=Za (Hal.out.keep hb);clear hb;clear c;have c:w13.cell? ⟨gbg,13,none⟩=some (.slice none 0 0):=Hbg.out.cell 13;go_wp2_with fail;refine(Zgd _).mono ?_;rintro e w14 ⟨rfl,hb⟩;have Hbg:=Za (Hbg.out.keep hb);have hK:=hK.keep hb;have Hls:=Za (Hls.out.keep hb);have Hal:=Za (Hal.out.keep hb);clear hb;clear c;have c:w14.cell? ⟨gbg,14,none⟩=some (.slice (some ⟨gl,0,none⟩) N cl):=Hbg.out.cell 14;go_wp2_with fail;refine(Zgf gl cl N ps _ HN.out hNb Hls.out Hal.out Hd.out Hsm.out).mono ?_;rintro e w15 ⟨rfl,hk⟩;have hq:Blk w15 gbg 117 (bagI (.slice (some ⟨gl,0,none⟩) N cl)):=(hk.block gbg Hbg.out.lt Hpg.out).trans Hbg.out;have Hbg:=Za hq;clear hq;have hK:=hK.trans hk;clear c;have c:w15.cell? ⟨gbg,15,none⟩=some (.slice none 0 0):=Hbg.out.cell 15;go_wp2_with fail;refine(ZeI _).mono ?_;rintro e w16 ⟨rfl,hb⟩;have Hbg:=Za (Hbg.out.keep hb);have hK:=hK.keep hb;clear hb;clear c;have c:w16.cell? ⟨gbg,16,none⟩=some (.slice none 0 0):=Hbg.out.cell 16;go_wp2_with fail;refine(Zge _).mono ?_;rintro e w17 ⟨rfl,hb⟩;have Hbg:=Za (Hbg.out.keep hb);have hK:=hK.keep hb;clear hb;clear c;have c:w17.cell? ⟨gbg,17,none⟩=some (.slice none 0 0):=Hbg.out.cell 17;go_wp2_with fail;refine(ZdU _).mono ?_;rintro e w18 ⟨rfl,hb⟩;have Hbg:=Za (Hbg.out.keep hb);have hK:=hK.keep hb;clear hb;clear c;go_wp2;go_ret;exact⟨rfl,hK⟩
end Go.Proofs.YtnnfhojhbbcbmaaGreatDoor
namespace Go.Proofs.YtnnfhojhbbcbmaaGreatDoor
open Go.RowKit
set_option maxRecDepth 100000 in
set_option maxHeartbeats 2000000 in
theorem ZeJ(a:Option Addr)(N c:Nat)(ps:List PcI)(w:World)(hr:Rd w a (ps.map piV))(hN:N=ps.length)(hN0:ps≠ [])(hNb:N≤1000)(hal:All w ps (fun _ _=>[]))(hd:Zm1 ps)(hsm:∀p∈ps,p.2.1≤1000∧p.2.1≤p.2.2.1):
  Calls Tryz.prog 36 #[.slice a N c] w fun e w'=>e= .returned (.bool true)∧KeptI ps w w':=by
 have HN:=Za hN;have Hd:=Za hd;have Hsm:=Za hsm;have Hr:=Za hr;have Hal:=Za hal;have hN1:0<N:=by rw[hN];exact List.length_pos_iff.2 hN0
 clear hN hd hsm hr hal;go_enter Tryz.func36,Tryz.ntmps36;go_wp2_with fail;obtain⟨W0,hW0⟩:∃W,W=w.alloc (.cells (bagI (.slice none 0 0)) 117):=⟨_,rfl⟩;have hbg:Blk W0 w.heap.size 117 (bagI (.slice none 0 0)):=by rw[hW0];exact Blk.new _ _ _
 have hb0:Below w.heap.size w W0:=by rw[hW0];exact(Below.refl _ _).alloc (Nat.le_refl _) _
 have hz0:w.heap.size+1≤W0.heap.size:=by rw[hW0];simp
 change Code.wp _ _ _ _ _ at⊢;rw[show(w.alloc (.cells #[.slice none 0 0,.slice none 0 0,.slice none 0 0,.slice none 0 0,.slice none 0 0,.slice none 0 0,.slice none 0 0,.slice none 0 0,.slice none 0 0,.slice none 0 0,.slice none 0 0,.slice none 0 0,.slice none 0 0,.slice none 0 0,.slice none 0 0,.slice none 0 0,.slice none 0 0,.slice none 0 0] 117))=W0 from hW0.symm];clear hW0;go_loopw[4] (fun x W=>∃(k:Nat) (v:Value),k≤N∧x= .int .i64 k∧Blk W w.heap.size 117 (bagI v)∧W.ownsRow (w.heap.size+1) 28 1 v k ((ps.map piV).take k)∧Below w.heap.size w W∧w.heap.size+1≤W.heap.size) (fun x _=>N-(intOf x).toNat)
 case atStart=>exact⟨0,_,Nat.zero_le _,rfl,hbg,Zb8 _ _ _ _,hb0,hz0⟩
 case round=>
  clear hbg hb0 hz0;obtain⟨k,v,hk,rfl,hbg,own,hB,hz⟩:=hrel;by_cases hkN:k<N
  ·obtain⟨p,hp⟩:∃p,ps[k]? =some p:=⟨_,List.getElem?_eq_getElem (by rw[←HN.out];exact hkN)⟩;have hx:(ps.map piV)[k]? =some (piV p):=by simp[hp]
   have htk:(ps.map piV).take (k+1)=(ps.map piV).take k++[piV p]:=by
    have hl:k<(ps.map piV).length:=by rw[List.length_map,←HN.out];exact hkN
    rw[List.take_succ_eq_append_getElem hl];rw[List.getElem?_eq_getElem hl]at hx;injection hx with hx;rw[hx]
   obtain⟨b,off,ha,hcell⟩:=(Hr.out.keep hB).cellAt k _ hx;subst ha;obtain⟨pb,n,cp,pa⟩:=p;have hcell:wr.cell? ⟨b,off+k,none⟩=some (.slice pa n cp):=hcell;have hix:=fun W=>ZP b off N c k hkN W;have Hbg:=Za hbg;have Hown:=Za own;have Htk:=Za htk;clear hbg own htk hx;go_wp2_with fail;refine(Zhm w.heap.size (w.heap.size+1) k n cp v pa _ _ Hbg.out Hown.out (by omega) hz (by omega)).mono ?_;rintro e W1 ⟨rfl,v',hbg1,own1,hB1⟩;have hB2:Below w.heap.size w W1:=hB.trans hB1;have hz1:w.heap.size+1≤W1.heap.size:=Nat.le_trans hz hB1.size;have own2:W1.ownsRow (w.heap.size+1) 28 1 v' (k+1) ((ps.map piV).take (k+1)):=by rw[Htk.out];exact own1
   clear hcell hB1 own1 Hbg Hown Htk;go_wp2;go_roundw
   case rel=>exact⟨k+1,v',by omega,by go_num,hbg1,own2,hB2,hz1⟩
   case measure=>simp[intOf];omega
  ·have hkN':k=N:=by omega
   subst hkN';have htk:(ps.map piV).take k=ps.map piV:=List.take_of_length_le (by rw[List.length_map,←HN.out];exact Nat.le_refl _);rw[htk]at own;obtain⟨gl,cl,hv,_,_,_⟩:=Z9 own (by omega);subst hv;have hls:Ls wr gl cl ps:=by unfold Ls;rw[←HN.out];exact ZdK own (Nat.zero_le _)
   have hal1:All wr ps (fun _ _=>[]):=Hal.out.keep hB;have hpg:∀p∈ps,p.1≠some w.heap.size:=fun p hp e=>by obtain⟨j,hj⟩:=List.mem_iff_getElem?.1 hp;have:=(Hal.out j p hj).lt _ e;omega
   have hK:=(KeptI.refl ps w).keep hB;have Hbg:=Za hbg;have Hls:=Za hls;have Hal1:=Za hal1;have Hpg:=Za hpg;clear hbg own hls hal1 hpg htk;go_wp2_with fail;refine(Zle w.heap.size gl cl k ps _ Hbg.out HN.out hNb Hls.out Hal1.out Hd.out Hsm.out Hpg.out).mono ?_;rintro e W1 ⟨rfl,hk1⟩;have hK1:=hK.trans hk1;go_wp2;go_ret;exact⟨rfl,hK1⟩
end Go.Proofs.YtnnfhojhbbcbmaaGreatDoor
namespace Go.Proofs.YtnnfhojhbbcbmaaGreatDoor
open Go.RowKit
def OwZ(W:World)(B:Nat)(v:Value)(l:List It):Prop:=OwI W B v l∨(l=[]∧∃a,v= .slice a 0 0)
section
variable {W W' : World} {B : Nat} {v : Value} {l : List It}
theorem OwZ.keep(h:OwZ W B v l)(hb:Below W.heap.size W W'):OwZ W' B v l:=h.imp (fun h=>OwI.keep h hb) id
theorem OwZ.mono {B':Nat}(h:OwZ W B v l)(hB:B'≤B):OwZ W B' v l:=h.imp (fun h=>OwI.mono h hB) id
theorem OwZ.form(h:OwZ W B v l):∃a c,v= .slice a l.length c∧RdI W a l:=by
 rcases h with h|⟨rfl,a,h⟩
 ·obtain⟨a,c,hv⟩:=Zl h;subst hv;exact⟨a,c,rfl,ZcQ h⟩
 ·exact⟨a,0,h,.inl rfl⟩
theorem OwZ.other {g:Nat}(h:OwZ W B v l)(hg:W.grownBy W' (some g))(hgB:g<B):OwZ W' B v l:=by
 refine h.imp (fun h=>World.ownsRow.kept h hg ?_) id;cases hv:v.ownBlock with
 |none=>exact .inl rfl
 |some b=>
  have:=(Z5 h b hv).1;exact .inr fun e=>by injection e with e;omega
theorem OwZ.piece(h:OwZ W B v l):∃p:PcI,piV p=v∧ContI W p []∧p.2.1=l.length∧p.2.1≤p.2.2.1∧∀g,p.1=some g→B≤g∧g<W.heap.size:=by
 rcases h with h|⟨rfl,a,h⟩
 ·have hl:=Z5 h;rcases h.2 with⟨rfl,e⟩|⟨g,cap,cur,rfl,hB,hh,hn,hm,hs,ht⟩
  ·exact⟨(none,0,0,none),rfl,.inl ⟨rfl,rfl,rfl,rfl⟩,e.symm,Nat.le_refl _,fun g hg=>by cases hg⟩
  ·refine⟨(some g,l.length,cap,some ⟨g,0,none⟩),rfl,.inr ⟨g,rfl,rfl,hn,rfl,.inr ⟨g,cap,cur,rfl,Nat.zero_le _,hh,Nat.zero_le _,hm,hs,by simp[Zi]⟩⟩,rfl,hn,fun g' hg=>?_⟩;injection hg with hg;subst hg;exact hl g rfl
 ·exact⟨(none,0,0,a),h.symm,.inl ⟨rfl,rfl,rfl,rfl⟩,rfl,Nat.le_refl _,fun g hg=>by cases hg⟩
end
def OwE(W:World)(B E:Nat)(v:Value)(l:List It):Prop:=(OwI W B v l∧∀g,v.ownBlock=some g→g<E)∨(l=[]∧∃a,v= .slice a 0 0)
section
variable {W W' : World} {B E : Nat} {v : Value} {l : List It}
theorem OwZ.ends(h:OwZ W B v l):OwE W B W.heap.size v l:=h.imp (fun h=>⟨h,fun g hg=>(Z5 h g hg).2⟩) id
theorem OwE.keep(h:OwE W B E v l)(hb:Below W.heap.size W W'):OwE W' B E v l:=h.imp (fun h=>⟨OwI.keep h.1 hb,h.2⟩) id
theorem OwE.z(h:OwE W B E v l):OwZ W B v l:=h.imp (fun h=>h.1) id
theorem OwE.mono {B':Nat}(h:OwE W B E v l)(hB:B'≤B):OwE W B' E v l:=h.imp (fun h=>⟨OwI.mono h.1 hB,h.2⟩) id
theorem OwE.other {g:Nat}(h:OwE W B E v l)(hg:W.grownBy W' (some g))(hgB:g<B):OwE W' B E v l:=by
 refine h.imp (fun h=>⟨World.ownsRow.kept h.1 hg ?_,h.2⟩) id;cases hv:v.ownBlock with
 |none=>exact .inl rfl
 |some b=>
  have:=(Z5 h.1 b hv).1;exact .inr fun e=>by injection e with e;omega
theorem OwE.piece(h:OwE W B E v l):∃p:PcI,piV p=v∧ContI W p []∧p.2.1=l.length∧p.2.1≤p.2.2.1∧∀g,p.1=some g→B≤g∧g<E:=by
 rcases h with⟨h,hE⟩|⟨rfl,a,h⟩
 ·have hl:=Z5 h;rcases h.2 with⟨rfl,e⟩|⟨g,cap,cur,rfl,hB,hh,hn,hm,hs,ht⟩
  ·exact⟨(none,0,0,none),rfl,.inl ⟨rfl,rfl,rfl,rfl⟩,e.symm,Nat.le_refl _,fun g hg=>by cases hg⟩
  ·refine⟨(some g,l.length,cap,some ⟨g,0,none⟩),rfl,.inr ⟨g,rfl,rfl,hn,rfl,.inr ⟨g,cap,cur,rfl,Nat.zero_le _,hh,Nat.zero_le _,hm,hs,by simp[Zi]⟩⟩,rfl,hn,fun g' hg=>?_⟩;injection hg with hg;subst hg;exact⟨hB,hE g rfl⟩
 ·exact⟨(none,0,0,a),h.symm,.inl ⟨rfl,rfl,rfl,rfl⟩,rfl,Nat.le_refl _,fun g hg=>by cases hg⟩
end
def Zm2(p q:PcI):Prop:=∀g,p.1=some g→q.1≠some g
theorem ZnN {ps:List PcI}(h:ps.Pairwise Zm2):Zm1 ps:=by
 intro j k p q g hp hq hjk h1 h2;obtain⟨hj,rfl⟩:=List.getElem?_eq_some_iff.1 hp;obtain⟨hk,rfl⟩:=List.getElem?_eq_some_iff.1 hq;rcases Nat.lt_or_ge j k with h3|h3
 ·exact List.pairwise_iff_getElem.1 h j k hj hk h3 g h1 h2
 ·exact List.pairwise_iff_getElem.1 h k j hk hj (by omega) g h2 h1
structure Hd where
 B:Nat
 E:Nat
 v:Value
 l:List It
theorem Zg0(W:World)(B0:Nat):∀(xs:List Hd),(∀x∈xs,OwE W x.B x.E x.v x.l∧x.l.length≤1000∧B0≤x.B)→xs.Pairwise (fun x y=>x.E≤y.B)→
  ∃ps:List PcI,ps.map piV=xs.map (fun x=>x.v)∧(∀p∈ps,ContI W p [])∧(∀p∈ps,p.2.1≤1000∧p.2.1≤p.2.2.1)∧(∀p∈ps,∀g,p.1=some g→B0≤g∧∃x∈xs,x.B≤g∧g<x.E)∧ps.Pairwise Zm2
 | [],_,_=>⟨[],rfl,fun p hp=>(by cases hp),fun p hp=>(by cases hp),fun p hp=>(by cases hp),List.Pairwise.nil⟩
 |x::xs,h,hp=>by
  obtain⟨ps,h1,h2,h3,h4,h5⟩:=Zg0 W B0 xs (fun y hy=>h y (by simp[hy])) (List.pairwise_cons.1 hp).2;obtain⟨hx,hxl,hxB⟩:=h x (by simp);obtain⟨p,q1,q2,q3,q4,q5⟩:=hx.piece;refine⟨p::ps,by simp[q1,h1],?_,?_,?_,?_⟩
  ·intro r hr;rcases List.mem_cons.1 hr with rfl|hr
   ·exact q2
   ·exact h2 r hr
  ·intro r hr;rcases List.mem_cons.1 hr with rfl|hr
   ·exact⟨by omega,q4⟩
   ·exact h3 r hr
  ·intro r hr g hg;rcases List.mem_cons.1 hr with rfl|hr
   ·exact⟨Nat.le_trans hxB (q5 g hg).1,x,by simp,q5 g hg⟩
   ·obtain⟨hb,y,hy,hy2⟩:=h4 r hr g hg;exact⟨hb,y,by simp[hy],hy2⟩
  ·refine List.pairwise_cons.2 ⟨fun r hr g h1 h2=>?_,h5⟩;obtain⟨_,y,hy,hy2⟩:=h4 r hr g h2;have:=q5 g h1;have:=(List.pairwise_cons.1 hp).1 y hy;omega
theorem ZiL(a:Option Addr)(N c:Nat)(xs:List Hd)(B0:Nat)(w:World)(hr:Rd w a (xs.map (fun x=>x.v)))(hN:N=xs.length)(hN0:xs≠ [])(hNb:N≤1000)(hB0:B0≤w.heap.size)
  (h:∀x∈xs,OwE w x.B x.E x.v x.l∧x.l.length≤1000∧B0≤x.B) (hp:xs.Pairwise (fun x y=>x.E≤y.B)):
  Calls Tryz.prog 36 #[.slice a N c] w fun e w'=>e= .returned (.bool true)∧Below B0 w w':=by
 obtain⟨ps,h1,h2,h3,h4,h5⟩:=Zg0 w B0 xs h hp;have hl:ps.length=xs.length:=by simpa using congrArg List.length h1
 refine(ZeJ a N c ps w (by rw[h1];exact hr) (by omega) (fun e=>hN0 (List.length_eq_zero_iff.1 (by rw[←hl,e];rfl))) hNb (fun j p hj=>h2 p (List.mem_of_getElem? hj)) (ZnN h5) h3).mono ?_;rintro e w' ⟨rfl,hk⟩;exact⟨rfl,hk.below hB0 fun p hp g hg=>(h4 p hp g hg).1⟩
end Go.Proofs.YtnnfhojhbbcbmaaGreatDoor
namespace Go.Proofs.YtnnfhojhbbcbmaaGreatDoor
set_option maxRecDepth 100000
set_option maxHeartbeats 4000000
open Go.RowKit
def gq2(b:Bool):Nat:=if b=true then 0 else 1
theorem ZoZ(b:Bool):(gq2 b==0)=b:=by cases b<;>rfl
theorem Zc0 {α:Type}{P:α→Prop}{l:List α}{i:Nat}{x:α}(h:∀y∈l.take i,P y)(hx:l[i]? =some x)(hp:P x):∀y∈l.take (i+1),P y:=by
 rw[List.take_add_one,hx];intro y hy;rcases List.mem_append.1 hy with h1|h1
 ·exact h y h1
 ·simp at h1;subst h1;exact hp
def Zfo(x:Lst):Prop:=∀y∈x.l,y.text.size≤100000
theorem Zfp(p:Option Addr)(n c:Nat)(ls:List Lst)(w:World)(hn:n=ls.length)(hle:n<9223372036854775807)(hr:Rd w p (ls.map Lst.v))(hok:OkAs w ls):
  Calls Tryz.prog 18 #[.slice p n c] w fun e w'=>(∃q:Nat,e= .returned (.bool (q==0))∧(q≠0→(∀x∈ls,x.l.length≤300)∧∀x∈ls,Zfo x))∧Below w.heap.size w w':=by
 have Hn:=Za hn;have Hr:=Za hr;have Hok:=Za hok;clear hn hr hok;go_enter Tryz.func18,Tryz.ntmps18;go_wp2_with fail;go_loopw[3,4] (fun nv iv W=>∃(z:Int) (i:Nat),i≤n∧nv= .int .i64 z∧iv= .int .i64 i∧0≤z∧z<140737488455329∧Hid (∀x∈ls.take i,x.l.length≤300)∧Hid (z<100000→∀x∈ls.take i,Zfo x)∧Below w.heap.size w W) (fun _ iv _=>n-(intOf iv).toNat)
 case atStart=>exact⟨0,0,Nat.zero_le _,rfl,rfl,by omega,by omega,Za (by simp),Za (fun _=>by simp),Below.refl _ _⟩
 case round=>
  obtain⟨z,i,hi,rfl,rfl,hz0,hz9,Htk,Hsm,hB⟩:=hrel;by_cases hlt:i<n
  ·have hI:(i:Int)<(n:Int):=by omega
   obtain⟨x,hx⟩:∃x,ls[i]? =some x:=⟨_,List.getElem?_eq_getElem (by have:=Hn.out;omega)⟩;obtain⟨b,off,rfl,hc⟩:=Hr.out.cellAt i x.v (by simp[hx]);have hix:=ZP b off n c i hlt;have Hx:=Za (Hok.out x (List.mem_of_getElem? hx));have Hnx:=Za hx;clear hx;obtain⟨xa,xl,xc⟩:=x;obtain⟨m,hm⟩:∃m,m=xl.length:=⟨_,rfl⟩;have hml:m<9223372036854775807:=by rw[hm];exact Hx.out.2.2
   have hc2:w.cell? ⟨b,off+i,none⟩=some (.slice xa m xc):=by rw[hm];exact hc
   have Hc:=Za hc2;have Hm:=Za hm;have Hz0:=Za hz0;have Hz9:=Za hz9;clear hc hc2 hm hz0 hz9;go_wp2_with fail;go_loopw[3,5] (fun nv kv W=>∃(z:Int) (k:Nat),k≤m∧nv= .int .i64 z∧kv= .int .i64 k∧0≤z∧z<140737488455329∧Hid (z<100000→(∀x∈ls.take i,Zfo x)∧∀y∈xl.take k,y.text.size≤100000)∧Below w.heap.size w W) (fun _ kv _=>m-(intOf kv).toNat)
   case atStart=>exact⟨z,0,Nat.zero_le _,rfl,rfl,Hz0.out,Hz9.out,Za (fun h=>⟨Hsm.out h,by simp⟩),hB⟩
   case round=>
    clear hB;obtain⟨z,k,hk,rfl,rfl,hz0,hz9,Hs2,hB⟩:=hrel;have hcell:=Zc hB Hc.out;by_cases hlk:k<m
    ·have hI2:(k:Int)<(m:Int):=by omega
     by_cases hz:z<100000
     ·obtain⟨y,hy⟩:∃y,xl[k]? =some y:=⟨_,List.getElem?_eq_getElem (by have:=Hm.out;omega)⟩;obtain⟨b2,off2,e2,c0,c1,c2,c3⟩:=(Hx.out.1.keep hB).at k y hy;dsimp only at e2;subst e2;have hix2:=Zr b2 off2 m xc k hlk;have hys:y.text.size≤140737488355328:=Hx.out.2.1 y (List.mem_of_getElem? hy);have Hs3:Hid (z+1+(y.text.size:Int)<100000→(∀x∈ls.take i,Zfo x)∧∀y∈xl.take (k+1),y.text.size≤100000):=by show _→_;intro h;obtain⟨h1,h2⟩:=Hs2.out hz;exact⟨h1,Zc0 h2 hy (by omega)⟩
      clear hy Hs2;obtain⟨yk,ya,yt,yd⟩:=y;dsimp only at c0 c1 c2 c3 hys Hs3;go_wp2;go_roundw
      case rel=>exact⟨z+1+(yt.size:Int),k+1,by omega,rfl,by simp,by omega,by omega,Hs3,hB⟩
      case measure=>simp[intOf];omega
     ·have hzd:decide (z<100000)=false:=by simpa using hz
      have Hs3:Hid (z<100000→∀x∈ls.take (i+1),Zfo x):=fun h=>absurd h hz;clear hz Hs2;by_cases h3:(300:Int)<(m:Int)
      ·go_wp2;go_ret;exact⟨⟨0,rfl,fun h=>absurd rfl h⟩,hB⟩
      ·have h3d:decide ((300:Int)<(m:Int))=false:=by simpa using h3
       go_wp2;go_roundw
       case rel=>exact⟨z,i+1,by omega,rfl,by simp,hz0,hz9,Za (Zc0 Htk.out Hnx.out (by have:=Hm.out;show xl.length≤300;omega)),Hs3,hB⟩
       case measure=>simp[intOf];omega
    ·have hI2:decide ((k:Int)<(m:Int))=false:=by simp;omega
     have hI3:¬(k:Int)<(m:Int):=by omega
     have Hs3:Hid (z<100000→∀x∈ls.take (i+1),Zfo x):=by show _→_;intro h;obtain⟨h1,h2⟩:=Hs2.out h;rw[List.take_of_length_le (by have:=Hm.out;omega)]at h2;exact Zc0 h1 Hnx.out h2
     clear Hs2;by_cases h3:(300:Int)<(m:Int)
     ·go_wp2;go_ret;exact⟨⟨0,rfl,fun h=>absurd rfl h⟩,hB⟩
     ·have h3d:decide ((300:Int)<(m:Int))=false:=by simpa using h3
      go_wp2;go_roundw
      case rel=>exact⟨z,i+1,by omega,rfl,by simp,hz0,hz9,Za (Zc0 Htk.out Hnx.out (by have:=Hm.out;show xl.length≤300;omega)),Hs3,hB⟩
      case measure=>simp[intOf];omega
  ·have hI:¬(i:Int)<(n:Int):=by omega
   have Hall:Hid (ls.take i=ls):=List.take_of_length_le (by have:=Hn.out;omega);go_wp2;go_ret;refine⟨⟨gq2 (decide (100000≤z)),by rw[ZoZ];rfl,fun hq=>?_⟩,hB⟩;have h1:=Htk.out;have h2:=Hsm.out;rw[Hall.out]at h1 h2;refine⟨h1,h2 ?_⟩;by_cases hz:100000≤z
   ·rw[decide_eq_true hz]at hq;exact absurd rfl hq
   ·omega
theorem ZiM(g n:Nat)(w:World)(h:ContI w (some g,n,n+12,some ⟨g,0,none⟩) [])(hn:n≤1048576):
  Calls Tryz.prog 35 #[.slice (some ⟨g,0,none⟩) n (n+12)] w fun e w'=>e= .returned (.tuple #[])∧w.grownBy w' (some g):=by
 have h0:ContI w (some g,n,n+12,some ⟨g,0,none⟩) (imk 2 0):=h;clear h;go_enter Tryz.func35,Tryz.ntmps35;go_wp2_with fail;go_loopw[3] (fun iv W=>∃i:Nat,i≤n+12∧iv= .int .i64 i∧ContI W (some g,n,n+12,some ⟨g,0,none⟩) (imk 2 i)∧w.grownBy W (some g)) (fun iv _=>n+12-(intOf iv).toNat)
 case atStart=>exact⟨0,Nat.zero_le _,rfl,h0,World.grownBy.refl w _⟩
 case round=>
  clear h0;obtain⟨i,hi,rfl,K,hg⟩:=hrel;by_cases hlt:i<n+12
  ·have HK:=Za K;have him:=fun W=>Zr g 0 (n+12) (n+12) i hlt W;simp only[Nat.zero_add]at him;have hI:(i:Int)<(n:Int)+12:=by omega
   clear K;go_wp2_with fail;refine(ZN _ _ _).mono ?_;rintro e w' ⟨rfl,hbm⟩;have hg2:=ZcE hg (Zeg (r:=some g) hbm);obtain⟨g2,cur,cur1,hbg,_,hcur,hset,hdone⟩:=(HK.out.keep hbm).set (mkI 2 i) (by rw[Zx];exact hlt);injection hbg with hbg;subst hbg;rw[Zx]at hset;have hst:=hset w' (.inl hcur);have hg3:=ZcE hg2 (Zdp w' g cur1);have hK':=hdone _ (setRow_heap w' g _ cur1 _ _ hcur);rw[←ZdG]at hK';have Hst:=Za hst;clear hg hg2 hset hdone hcur hst HK hbm;go_wp2_with (refine Zc9 rfl _ _ rfl g (i*4) (mkI 2 i) cur1 rfl rfl Hst.out ?_);go_wp2;go_roundw
   case rel=>exact⟨i+1,by omega,by go_num,hK',hg3⟩
   case measure=>simp[intOf];omega
  ·have hI:¬(i:Int)<(n:Int)+12:=by omega
   clear K;go_wp2;go_end0;exact⟨rfl,hg⟩
end Go.Proofs.YtnnfhojhbbcbmaaGreatDoor
namespace Go.Proofs.YtnnfhojhbbcbmaaGreatDoor
open Go.RowKit
theorem Zo0 {r:Result Bool}{b:Bool}{w:World}(h:(r.andThen fun b w'=> .ok (.bool b) w')=Result.ok (Value.bool b) w):(r.andThen fun b w'=> .ok (.bool (!b)) w')=Result.ok (Value.bool (!b)) w:=by
 cases r with
 |ok b2 w2=>
  simp only[Result.andThen,Result.ok.injEq,Value.bool.injEq]at h⊢;exact⟨by rw[h.1],h.2⟩
 |halt s=>cases h
theorem Zmu(x y:It)(w:World):(binOp .neq 24 (itV x) (itV y)).run Tryz.prog w= .ok (.bool (!eqI x y)) w:=by have h:=Zkd x y w;unfold itV at*;rw[run_eql_struct]at h;rw[run_neq_struct];exact Zo0 h
section
variable {K : Value → World → Prop} {u : Nat → Value} {o : Oper} {w : World}
theorem ZeK(x y:Operand)(a:It)(h:o.op= .binOp .neq 24 x y 24)(hx:evU u x=itV a)(hy:evU u y=itV a)(hk:K (.bool false) w):Zac K Tryz.prog ((execOp (evU u) o).run Tryz.prog w):=by refine Ze _ ?_ hk;have hr:=Zmu a a w;rw[ZiG]at hr;have hg:(eqGuard .neq 24 x y (itV a) (itV a)).run Tryz.prog w= .ok () w:=eqItem.2 .neq x y a a w;unfold execOp;simp only[h,hx,hy];simp[go_sem,hr,hg]
end
set_option maxRecDepth 100000 in
set_option maxHeartbeats 2000000 in
theorem Zba(a b:Option Addr)(n ac bc:Nat)(l:List It)(w:World)(h1:RdI w a l)(h2:RdI w b l)(hn:n=l.length)(hle:n≤1000000):
  Calls Tryz.prog 15 #[.slice a n ac,.slice b n bc] w fun e w'=>e= .returned (.bool true)∧Below w.heap.size w w':=by
 have H1:=Za h1;have H2:=Za h2;have Hn:=Za hn;clear h1 h2 hn;go_enter Tryz.func15,Tryz.ntmps15;go_wp2_with fail;go_loopw[5] (fun iv W=>∃k:Nat,k≤n∧iv= .int .i64 k∧Below w.heap.size w W) (fun iv _=>n-(intOf iv).toNat)
 case atStart=>exact⟨0,Nat.zero_le _,rfl,Below.refl _ _⟩
 case round=>
  obtain⟨k,hk,rfl,hB⟩:=hrel;by_cases hlt:k<n
  ·have hI:(k:Int)<(n:Int):=by omega
   have hwk:wrap64 ((k:Int)+1)=(k:Int)+1:=by unfold wrap64;omega
   obtain⟨y,hy⟩:∃y,l[k]? =some y:=⟨_,List.getElem?_eq_getElem (by have:=Hn.out;omega)⟩;obtain⟨ab,ao,ae,p0,p1,p2,p3⟩:=(H1.out.keep hB).at k y hy;obtain⟨bb,bo,be,q0,q1,q2,q3⟩:=(H2.out.keep hB).at k y hy;subst ae be;have hix1:=Zr ab ao n ac k hlt;have hix2:=Zr bb bo n bc k hlt;obtain⟨yk,ya,yt,yd⟩:=y;dsimp only at p0 p1 p2 p3 q0 q1 q2 q3;clear hy;obtain⟨W0,rfl⟩:∃W0,W0=wr:=⟨_,rfl⟩;go_wp2_with fail;refine wp_region_facts (R:=RB W0.heap.size (⟨#[]⟩) (0)) [eqF _ _ _ 17 (.slice (some ⟨ab,ao,none⟩) n ac),eqF _ _ _ 18 (.int .i64 k),eqF _ _ _ 19 (.pointer (some ⟨ab,ao+k*4,none⟩)),eqF _ _ _ 20 (.agg #[.int .u8 yk,.int .i64 ya,.string yt,.int .i64 yd]),eqF _ _ _ 21 (.slice (some ⟨bb,bo,none⟩) n bc),eqF _ _ _ 22 (.int .i64 k),eqF _ _ _ 23 (.pointer (some ⟨bb,bo+k*4,none⟩)),eqF _ _ _ 24 (.agg #[.int .u8 yk,.int .i64 ya,.string yt,.int .i64 yd]),eqF _ _ _ 25 (.bool false)] (by kernel_rfl) (by kernel_rfl) (by kernel_rfl) (RB.refl (Nat.le_refl _)) (fun _ h=>h.again) (fun _ _ _ h k=>h.trans k) ?_ ?_
   ·refine stepsU_cons rfl ?_ (stepsU_cons rfl ?_ (stepsU_cons rfl ?_ (stepsU_cons rfl ?_ (stepsU_cons rfl ?_ (stepsU_cons rfl ?_ (stepsU_cons rfl ?_ (stepsU_cons rfl ?_ (stepsU_cons rfl ?_ (stepsU_nil)))))))))
    ·refine stepU_plain rfl fun u wr hR hK hD=>?_;exact Zd _ _ rfl (hK 0 rfl) ⟨hR.again,rfl⟩
    ·refine stepU_plain rfl fun u wr hR hK hD=>?_;exact Zd _ _ rfl (hK 5 rfl) ⟨hR.again,rfl⟩
    ·refine stepU_plain rfl fun u wr hR hK hD=>?_;have z:u 17=_:=(hD 0 rfl);have z2:u 18=_:=(hD 1 rfl);exact Ze _ (by unfold execOp;simp[go_sem,evU,z,z2,hix1]) ⟨hR.again,rfl⟩
    ·refine stepU_plain rfl fun u wr hR hK hD=>?_;exact ZB _ ab (ao+k*4) _ _ _ _ rfl (hD 2 rfl) (Zc hR.be p0) (Zc hR.be p1) (Zc hR.be p2) (Zc hR.be p3) ⟨hR.again,rfl⟩
    ·refine stepU_plain rfl fun u wr hR hK hD=>?_;exact Zd _ _ rfl (hK 1 rfl) ⟨hR.again,rfl⟩
    ·refine stepU_plain rfl fun u wr hR hK hD=>?_;exact Zd _ _ rfl (hK 5 rfl) ⟨hR.again,rfl⟩
    ·refine stepU_plain rfl fun u wr hR hK hD=>?_;have z:u 21=_:=(hD 4 rfl);have z2:u 22=_:=(hD 5 rfl);exact Ze _ (by unfold execOp;simp[go_sem,evU,z,z2,hix2]) ⟨hR.again,rfl⟩
    ·refine stepU_plain rfl fun u wr hR hK hD=>?_;exact ZB _ bb (bo+k*4) _ _ _ _ rfl (hD 6 rfl) (Zc hR.be q0) (Zc hR.be q1) (Zc hR.be q2) (Zc hR.be q3) ⟨hR.again,rfl⟩
    ·refine stepU_plain rfl fun u wr hR hK hD=>?_;exact ZeK _ _ ⟨yk,ya,yt,yd⟩ rfl (hD 3 rfl) (hD 7 rfl) ⟨hR.again,rfl⟩
   intro u w5 hR hF;have e17:u 17= .slice (some ⟨ab,ao,none⟩) n ac:=hF 0 (by decide);have e18:u 18= .int .i64 k:=hF 1 (by decide);have e19:u 19= .pointer (some ⟨ab,ao+k*4,none⟩):=hF 2 (by decide);have e20:u 20= .agg #[.int .u8 yk,.int .i64 ya,.string yt,.int .i64 yd]:=hF 3 (by decide);have e21:u 21= .slice (some ⟨bb,bo,none⟩) n bc:=hF 4 (by decide);have e22:u 22= .int .i64 k:=hF 5 (by decide);have e23:u 23= .pointer (some ⟨bb,bo+k*4,none⟩):=hF 6 (by decide);have e24:u 24= .agg #[.int .u8 yk,.int .i64 ya,.string yt,.int .i64 yd]:=hF 7 (by decide);have e25:u 25= .bool false:=hF 8 (by decide);simp only[ZaW,Act.put,List.setIfInBounds_toArray,List.set_cons_succ,List.set_cons_zero,e17,e18,e19,e20,e21,e22,e23,e24,e25];clear hF e17 e18 e19 e20 e21 e22 e23 e24 e25;have hB2:Below w.heap.size w w5:=Zah hB.drew hB.size hR.be;have hb_w5:Below W0.heap.size W0 w5:=⟨hR.be.os,hR.be.tape,hR.be.output,hR.be.size,hR.be.block⟩;clear hB hR;have hB:=hB2;clear hB2;clear p0 p1 p2 p3 q0 q1 q2 q3 hix1 hix2;go_wp2;go_roundw
   case rel=>exact⟨k+1,by omega,by simp,hB⟩
   case measure=>simp[intOf];omega
  ·have hI:¬(k:Int)<(n:Int):=by omega
   go_wp2;go_ret;exact⟨rfl,hB⟩
end Go.Proofs.YtnnfhojhbbcbmaaGreatDoor
