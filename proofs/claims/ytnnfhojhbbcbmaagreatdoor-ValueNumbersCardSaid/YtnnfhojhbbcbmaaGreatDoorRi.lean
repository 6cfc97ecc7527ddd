/- The reference: substring. -/
import Derived.Test.YtnnfhojhbbcbmaaGreatDoorC38
import Derived.Test.YtnnfhojhbbcbmaaGreatDoorKf
import Derived.Test.YtnnfhojhbbcbmaaGreatDoorC22
import Derived.Test.YtnnfhojhbbcbmaaGreatDoorC27
namespace Go.Proofs.YtnnfhojhbbcbmaaGreatDoor
open Go.RowKit
section
variable {P : Program} {l : List Oper} {R : World → World → Prop} {w0 : World} {u0 : Nat → Value} {Fs : List ((Nat → Value) → World → Prop)} {i : Nat} {o : Oper}
theorem Zh(j d:Nat){b:Bool}(hg:o.guard=some (j,b))(hd:(l[j]?).bind (·.dst)=some d)
  (hy:∀u w,(∀s,ZcR l s=true→u s=u0 s)→(∀k,ZX o k=true→Zs Fs k u w)→u d=undef)
  (h:∀u w,Zs Fs i (Zci u o.dst undef) w):stepU P l R w0 u0 Fs i o:=by
 intro u w h1 h2 h3;rw[if_neg (by simp only[Region.wanted,hg,ZhA,hd,hy u w h2 h3];simp[undef])];exact h u w
end
theorem Zkz:(Tryz.prog.info? 2).map (fun i=>(i.zero,i.size,i.bytes))=some (some (.int .i64 0),1,8):=by kernel_rfl
theorem Zm6(b n c k:Nat)(h:k<n)(W:World):(Instr.indexAt 173 (.slice (some ⟨b,0,none⟩) n c) (.int .i64 k)).run Tryz.prog W= .ok (.pointer (some ⟨b,k,none⟩)) W:=by obtain⟨j0,hj,_,hj1,_⟩:=info_parts Zkz;have:=ZfP Tryz.underlying173 hj hj1 b 0 n c k k rfl h W;rwa[Nat.mul_one,Nat.zero_add]at this
def numsL(ls:List Lst):List Int:=ls.map fun x=>(oneV x.l).1
def Zm7(l:List Int):List Value:=l.map fun n=> .int .i64 n
theorem Zpb(ls:List Lst)(la:Lst)(hl:ls.length=1∨ls.length=2)(ha:(strV la.l).2=0):∀(k:Nat) (x:Lst),(∀y∈ls.take k,(oneV y.l).2=0)→ls[k]? =some x→(oneV x.l).2≠0→subV (la::ls)=([],(oneV x.l).2):=by
 intro k x h1 h2 h3
 match ls,hl with
 | [b],_=>
  match k,h2 with
  |0,h2=>
   simp at h2;subst h2;show(if (strV la.l).2≠0 then _ else if (oneV b.l).2≠0 then _ else _)=_;rw[if_neg (by simp[ha]),if_pos h3]
 | [b,c],_=>
  match k,h2 with
  |0,h2=>
   simp at h2;subst h2;show(if (strV la.l).2≠0 then _ else if (oneV b.l).2≠0 then _ else if (oneV c.l).2≠0 then _ else _)=_;rw[if_neg (by simp[ha]),if_pos h3]
  |1,h2=>
   simp at h2;subst h2;have hb:=h1 b (by simp);show(if (strV la.l).2≠0 then _ else if (oneV b.l).2≠0 then _ else if (oneV c.l).2≠0 then _ else _)=_;rw[if_neg (by simp[ha]),if_neg (by simp[hb]),if_pos h3]
def Zn3:List Int→Int
 | [_]=>i64max
 | [n,m]=>endV n m
 |_=>0
theorem ZpB(ls:List Lst)(la:Lst)(hl:ls.length=1∨ls.length=2)(ha:(strV la.l).2=0)(h1:∀y∈ls,(oneV y.l).2=0):∃n,(numsL ls)[0]? =some n∧subV (la::ls)=joinR ⟨#[]⟩ [cutB (strV la.l).1 n (Zn3 (numsL ls))]:=by
 match ls,hl with
 | [b],_=>
  refine⟨(oneV b.l).1,rfl,?_⟩;show(if (strV la.l).2≠0 then _ else if (oneV b.l).2≠0 then _ else _)=_;rw[if_neg (by simp[ha]),if_neg (by simp[h1 b (by simp)])];rfl
 | [b,c],_=>
  refine⟨(oneV b.l).1,rfl,?_⟩;show(if (strV la.l).2≠0 then _ else if (oneV b.l).2≠0 then _ else if (oneV c.l).2≠0 then _ else _)=_;rw[if_neg (by simp[ha]),if_neg (by simp[h1 b (by simp)]),if_neg (by simp[h1 c (by simp)])];rfl
theorem Zfw {α:Type}(l:List α):l=[]∨(∃x y r,l=x::y::r)∨∃x,l=[x]:=
 match l with
 | []=> .inl rfl
 | [x]=> .inr (.inr ⟨x,rfl⟩)
 |x::y::r=> .inr (.inl ⟨x,y,r,rfl⟩)
theorem Zpc(ls:List Lst)(la:Lst)(hl:ls.length=1∨ls.length=2)(ha:(strV la.l).2≠0):subV (la::ls)=([],(strV la.l).2):=by
 match ls,hl with
 | [b],_=>exact if_pos ha
 | [b,c],_=>exact if_pos ha
theorem ZiX(b n c:Nat)(h:0<n)(W:World):(Instr.indexAt 173 (.slice (some ⟨b,0,none⟩) n c) (.int .i64 0)).run Tryz.prog W= .ok (.pointer (some ⟨b,0,none⟩)) W:=Zm6 b n c 0 h W
theorem ZmH(b n c:Nat)(h:1<n)(W:World):(Instr.indexAt 173 (.slice (some ⟨b,0,none⟩) n c) (.int .i64 1)).run Tryz.prog W= .ok (.pointer (some ⟨b,1,none⟩)) W:=Zm6 b n c 1 h W
theorem Zn4 {n p:Int}(hn:R64 n)(hp:0≤p)(hp2:p≤200000)(h:n≤p):∃u:Int,IntKind.u64.wrap n=u∧IntKind.u64.wrap p=p∧IntKind.u64.wrap (p-u)=p-n:=by unfold R64 at hn;refine⟨n % 18446744073709551616,by rw[IntKind.wrap_u64],by rw[IntKind.wrap_u64];omega,by rw[IntKind.wrap_u64];omega⟩
set_option maxRecDepth 100000 in
set_option maxHeartbeats 8000000 in
theorem ZmI(b off N c:Nat)(la:Lst)(ls:List Lst)(w:World)(hr:Rd w (some ⟨b,off,none⟩) ((la::ls).map Lst.v))(hok:OkAs w (la::ls))(hR:∀x∈la::ls,∀y∈x.l,R64 y.num)(hs:∀x∈la::ls,∀y∈x.l,y.text.size≤100000)
  (hri:∀x∈la::ls,x.l.all okI=true) (hl:ls.length=1∨ls.length=2) (hN:N=ls.length+1):
  Calls Tryz.prog 84 #[.slice (some ⟨b,off,none⟩) N c] w (Res w (subV (la::ls)).1 (subV (la::ls)).2):=by
 obtain⟨i0,hi⟩:=info_parts Zkz;have Hi:=Za hi;have Hr:=Za hr;have Hok:=Za hok;have HR:=Za hR;have Hri:=Za hri;have Hl:=Za hl;have HN:=Za hN;have hN3:N≤3:=by omega
 have hN2:2≤N:=by omega
 obtain⟨rs,hrs1,hrs2⟩:=Zfv (hri la (by simp));have hix0:=Zp b off N c (by omega);obtain⟨b1,off1,e1,h0⟩:=hr.cellAt 0 la.v rfl;injection e1 with e1;injection e1 with e1 e2;subst e1 e2;rw[Nat.add_zero]at h0;have hsz:=ZaM la.l (hR la (by simp)) (hs la (by simp));obtain⟨V1,hV1⟩:∃x,x=(subV (la::ls)).1:=⟨_,rfl⟩;obtain⟨V2,hV2⟩:∃x,x=(subV (la::ls)).2:=⟨_,rfl⟩;rw[←hV1,←hV2];have HV:Hid (V1=(subV (la::ls)).1∧V2=(subV (la::ls)).2):=⟨hV1,hV2⟩;have hse:=fun h=>Zpb ls la hl h;have hso:=fun h=>ZpB ls la hl h;have hss:=Zpc ls la hl;have Hse:=Za hse;have Hso:=Za hso;have Hss:=Za hss;obtain⟨aa,al,ac⟩:=la;obtain⟨q,hq⟩:∃q,q=al.length:=⟨_,rfl⟩;have h1:w.cell? ⟨b,off,none⟩=some (.slice aa q ac):=by rw[hq];exact h0
 have Hst:=Za (ZbH aa q ac al w (hok ⟨aa,al,ac⟩ (by simp)) (hR ⟨aa,al,ac⟩ (by simp)) hq);dsimp only at hrs2 hsz;have Hse2:Hid ((strV al).2=0→∀(k:Nat) (x:Lst),(∀y∈ls.take k,(oneV y.l).2=0)→ls[k]? =some x→(oneV x.l).2≠0→V1=[]∧V2=(oneV x.l).2):=by show _→_;intro h k x h1 h2 h3;have:=Hse.out h k x h1 h2 h3;rw[HV.out.1,HV.out.2,this];exact⟨rfl,rfl⟩
 have Hss2:Hid ((strV al).2≠0→V1=[]∧V2=(strV al).2):=by show _→_;intro h;rw[HV.out.1,HV.out.2,Hss.out h];exact⟨rfl,rfl⟩
 have Hso2:Hid ((strV al).2=0→(∀y∈ls,(oneV y.l).2=0)→∃n,(numsL ls)[0]? =some n∧V1=(joinR ⟨#[]⟩ [cutB (strV al).1 n (Zn3 (numsL ls))]).1∧V2=(joinR ⟨#[]⟩ [cutB (strV al).1 n (Zn3 (numsL ls))]).2):=by
  show _→_;intro h h1;obtain⟨n,h2,h3⟩:=Hso.out h h1;refine⟨n,h2,?_,?_⟩
  ·rw[HV.out.1,h3]
  ·rw[HV.out.2,h3]
 clear h0 hr hok hR hs hri hl hN hq hi hV1 hV2 HV hse hso hss Hse Hso Hss;generalize strV al=sv at*;obtain⟨sT,s2⟩:=sv;dsimp only at Hst hrs2 hsz Hse2 Hss2 Hso2;have Hrs:=Za hrs1;have Hrt:=Za hrs2;clear hrs1 hrs2;by_cases hz:s2=0
 ·subst hz;clear Hss2;go_enter Tryz.func84,Tryz.ntmps84;go_wp2_with fail;refine Hst.out.mono ?_;rintro e w1 ⟨rfl,hB2⟩;clear h1;go_wp2_with fail;go_loopw[6,7] (fun nv iv W=>∃k:Nat,1≤k∧k≤N∧iv= .int .i64 k∧Hid (∀y∈ls.take (k-1),(oneV y.l).2=0)∧Hid (W.ownsRow w.heap.size 2 1 nv (k-1) (Zm7 ((numsL ls).take (k-1))))∧Below w.heap.size w W) (fun _ iv _=>N-(intOf iv).toNat)
  case atStart=>exact⟨1,Nat.le_refl _,by omega,rfl,Za (fun y hy=>(by simp at hy)),Za (Zb8 _ _ _ _),hB2⟩
  case round=>
   clear hB2;obtain⟨k,hk1,hk,rfl,Hz,Hn,hB⟩:=hrel;obtain⟨nav,ncv,hnv⟩:=Zl Hn.out;subst hnv;by_cases hlt:k<N
   ·have hI:(k:Int)<(N:Int):=by omega
    obtain⟨x,hx⟩:∃x,ls[k-1]? =some x:=⟨_,List.getElem?_eq_getElem (by have:=HN.out;omega)⟩;have hmx:x∈(⟨aa,al,ac⟩::ls:List Lst):=List.mem_cons_of_mem _ (List.mem_of_getElem? hx)
    obtain⟨b1,off1,e1,hcz⟩:=(Hr.out.keep hB).cellAt k x.v (by
     obtain⟨j,hj⟩:∃j,k=j+1:=⟨k-1,by omega⟩;subst hj;simp at hx
     simp[hx])
    injection e1 with e1;injection e1 with e1 e2;subst e1 e2;have hix:=ZP b off N c k hlt;have Hx:=Za hx;have Hokx:=Za (Hok.out x hmx);have HRx:=Za (HR.out x hmx);have Hrx:=Za (Hri.out x hmx);clear hx hmx;obtain⟨xa,xl,xc⟩:=x;rcases Zfw xl with e3|⟨y,z,r,e3⟩|⟨y,e3⟩
    ·subst e3;have hcz2:wr.cell? ⟨b,off+k,none⟩=some (.slice xa 0 xc):=hcz;clear hcz;obtain⟨e1,e2⟩:=Hse2.out (by trivial) (k-1) _ Hz.out Hx.out (by show(250:Int)≠0;decide);have HE:Hid (V1=[]∧V2=250):=⟨e1,e2⟩;clear e1 e2;go_wp2;go_ret2;exact⟨.slice none 0 0,by rw[HE.out.2];rfl,by rw[HE.out.1];exact OwI.nil _ _,hB⟩
    ·subst e3;obtain⟨m,hm⟩:∃m,m=(y::z::r).length:=⟨_,rfl⟩;have hcz2:wr.cell? ⟨b,off+k,none⟩=some (.slice xa m xc):=by rw[hm];exact hcz
     clear hcz;have hm1:(1:Int)<(m:Int):=by rw[hm];simp;omega
     have hm0:¬(m:Int)=0:=by omega
     have hm2:((m:Int)==0)=false:=by simpa using hm0
     obtain⟨e1,e2⟩:=Hse2.out (by trivial) (k-1) _ Hz.out Hx.out (by show(253:Int)≠0;decide);have HE:Hid (V1=[]∧V2=253):=⟨e1,e2⟩;clear e1 e2 hm;go_wp2;go_ret2;exact⟨.slice none 0 0,by rw[HE.out.2];rfl,by rw[HE.out.1];exact OwI.nil _ _,hB⟩
    ·subst e3;have hcz2:wr.cell? ⟨b,off+k,none⟩=some (.slice xa 1 xc):=hcz;clear hcz;obtain⟨b2,off2,hp,c0,c1,c2,c3⟩:=at0 (Hokx.out.1.keep hB);dsimp only at hp;subst hp;have hix2:=ZaP b2 off2 1 xc (by decide);have hs1:y.text.size≤140737488355328:=Hokx.out.2.1 _ (List.mem_singleton.2 rfl);have HyT:=Za (fun h4=>Zaf (x:=y) (by have:=Hrx.out;simpa using this) h4);have HyR:=Za (ZgO (HRx.out y (List.mem_singleton.2 rfl)));have Hy1:Hid ((oneV [y]).2=nE y∧(oneV [y]).1=nV y):=⟨rfl,rfl⟩;obtain⟨yk,ya,yt,yd⟩:=y;dsimp only at c0 c1 c2 c3 hs1 HyT;go_wp2_with fail;refine(Zy yk ya yd yt _ HyT.out hs1).mono ?_;rintro e w2 ⟨rfl,hb2⟩;have hB3:=Zb hB hb2;have Hn3:=Za (ZL Hn.out hb2);clear c0 c1 c2 c3 hix hix2 hcz2 hb2 hB Hn;generalize nV ⟨yk,ya,yt,yd⟩=nv at*;generalize nE ⟨yk,ya,yt,yd⟩=ne at*;by_cases hz:ne=0
     ·subst hz
      have Hz2:Hid (∀y∈ls.take (k+1-1),(oneV y.l).2=0):=by
       show ∀y∈_,_;intro u hu;rw[show k+1-1=k-1+1 by omega,List.take_add_one,Hx.out]at hu;rcases List.mem_append.1 hu with hu|hu
       ·exact Hz.out u hu
       ·simp at hu;subst hu;exact Hy1.out.1
      have Htk:Hid ((numsL ls).take (k+1-1)=(numsL ls).take (k-1)++[nv]):=by show _=_;rw[show k+1-1=k-1+1 by omega,List.take_add_one];unfold numsL;rw[List.getElem?_map,Hx.out];simp[Hy1.out.2]
      have hrd:=Rd.new w2 2 [.int .i64 nv];have hk6:=(Below.refl w2.heap.size w2).alloc (Nat.le_refl _) (.cells #[.int .i64 nv] 2);have own6:=ZL Hn3.out hk6;have be6:=Zb hB3 hk6;have Hrd:=Za hrd;have Own6:=Za own6;clear hrd hk6 own6 Hn3 hB3 Hz Hx Hy1;go_wp2_with (at_builtin;refine Zk rfl _ _ 173 rfl i0 _ 8 1 Tryz.underlying173 Hi.out.1 Hi.out.2.1 Hi.out.2.2.1 Hi.out.2.2.2 rfl (by decide) rfl rfl ?e1 Own6.out Hrd.out (m:=1) rfl ?e2 ?e3 ?e4 ?_)
      case e1=>intro u hu;simp at hu;subst hu;rfl
      case e2=>omega
      case e3=>omega
      case e4=>exact be6.size
      intro v3 W3 own3 hg3 hv3
      have own4:W3.ownsRow w.heap.size 2 1 v3 (k+1-1) (Zm7 ((numsL ls).take (k+1-1))):=by
       rw[Htk.out,show k+1-1=k by omega];have:Zm7 ((numsL ls).take (k-1)++[nv])=Zm7 ((numsL ls).take (k-1))++[.int .i64 nv]:=by simp[Zm7]
       rw[this];exact own3
      have hB3:Below w.heap.size w W3:=be6.grown hg3 be6.size fun b hb=>(Z5 Own6.out b hb).1;have Hown4:=Za own4;clear own3 hg3 hv3 own4 Own6 Hrd be6;go_wp2;go_roundw
      case rel=>exact⟨k+1,by omega,by omega,by simp,Hz2,Za Hown4.out,hB3⟩
      case measure=>simp[intOf];omega
     ·have hz1:(ne != 0)=true:=by simpa using hz
      obtain⟨e1,e2⟩:=Hse2.out (by trivial) (k-1) _ Hz.out Hx.out (by show(oneV _).2≠0;rw[Hy1.out.1];exact hz);have HE:Hid (V1=[]∧V2=ne):=⟨e1,by rw[e2];exact Hy1.out.1⟩;clear e1 e2 hz;go_wp2;go_ret2;exact⟨.slice none 0 0,by rw[HE.out.2];rfl,by rw[HE.out.1];exact OwI.nil _ _,hB3⟩
   ·have hI:¬(k:Int)<(N:Int):=by omega
    have hkN:k=N:=by omega
    subst hkN;have htk:ls.take (k-1)=ls:=List.take_of_length_le (by have:=HN.out;omega);have hall:∀y∈ls,(oneV y.l).2=0:=by have:=Hz.out;rw[htk]at this;exact this
    obtain⟨n0,hn0,hj1,hj2⟩:=Hso2.out (by trivial) hall;have hnl:(numsL ls).length=ls.length:=by simp[numsL]
    have htn:(numsL ls).take (k-1)=numsL ls:=List.take_of_length_le (by have:=HN.out;omega);have hown:=Hn.out;rw[htn]at hown;obtain⟨M,hM⟩:∃M,M=k-1:=⟨_,rfl⟩;rw[←hM]at hown⊢;have hkM:k=M+1:=by omega
    obtain⟨nb,cn,hv5,hb1,hb2,hb3⟩:=Z9 hown (by omega);injection hv5 with hv6 hv7 hv8;subst hv6 hv8;have hn0c:∀(i:Nat) (v:Int),(numsL ls)[i]? =some v→wr.cell? ⟨nb,i,none⟩=some (.int .i64 v):=fun i v hv=>ZJ hown i _ (by simp[Zm7,hv]);have hnR:∀(i:Nat) (v:Int),(numsL ls)[i]? =some v→R64 v:=by intro i v hv;unfold numsL at hv;rw[List.getElem?_map]at hv;obtain⟨x,hx,rfl⟩:=Option.map_eq_some_iff.1 hv;exact ZfV (HR.out x (List.mem_cons_of_mem _ (List.mem_of_getElem? hx)))
    have HJ:Hid (V1=(joinR ⟨#[]⟩ [cutB sT n0 (Zn3 (numsL ls))]).1∧V2=(joinR ⟨#[]⟩ [cutB sT n0 (Zn3 (numsL ls))]).2):=⟨hj1,hj2⟩;have hMl:M=(numsL ls).length:=by have:=HN.out;omega
    have hl2:(numsL ls).length=1∨(numsL ls).length=2:=by rw[hnl];exact Hl.out
    have Hd0:Hid (sT.data.toList.drop 0=enc rs):=by show _=_;rw[List.drop_zero];exact Hrt.out
    clear htk hall hj1 hj2 hnl htn Hz Hn Hse2 Hso2 HN Hl Hri HR Hok Hr hk hk1 hM hown;generalize numsL ls=nums at*;rcases Zfw nums with e3|⟨nx,ny,nr,e3⟩|⟨nx,e3⟩
    ·subst e3;simp at hl2
    ·subst e3;have hnr:nr=[]:=by simp at hl2;exact hl2
     subst hnr;have hnx:nx=n0:=by simpa using hn0
     subst hnx;have hM2:M=2:=by simpa using hMl
     subst hM2;have c0:=hn0c 0 nx rfl;have c1:=hn0c 1 ny rfl;have HnA:=Za (hnR 0 nx rfl);have HnB:=Za (hnR 1 ny rfl);have HTT:Hid ((cutB sT nx (endV nx ny)).data.toList=enc (cutR nx (endV nx ny) 0 rs)):=ZgR nx (endV nx ny) Hrs.out Hrt.out;have HJ:Hid (V1=(joinR ⟨#[]⟩ [cutB sT nx (endV nx ny)]).1∧V2=(joinR ⟨#[]⟩ [cutB sT nx (endV nx ny)]).2):=HJ.out;have hj0:=ZiX nb 2 ncv (by decide);have hj1:=ZmH nb 2 ncv (by decide);have Hc0:=Za c0;have Hc1:=Za c1;clear hn0 hn0c hnR hMl hl2 c0 c1 hb1 hb2 hb3 hkM hv7;obtain⟨W1,rfl⟩:∃W1,W1=wr:=⟨_,rfl⟩;obtain⟨TT,hTT⟩:∃x,x=enc (cutR nx (endV nx ny) 0 rs):=⟨_,rfl⟩;rw[←hTT]at HTT;have hTs:Hid (enc (cutR nx (endV nx ny) 0 rs)=TT):=by show _=_;rw[hTT]
     have hBw:=hB;have HszT:=Za hsz;clear hB hTT;go_wp2_with fail;go_loopw[10,11,12] (fun ov pv av W=>∃(k pl:Nat) (out:List UInt8) (t:List Nat),k≤sT.size∧av= .int .i64 k∧pv= .int .i64 pl∧OwB W W1.heap.size ov out∧Hid (out++enc (cutR nx (endV nx ny) (pl:Int) t)=TT)∧Hid (sT.data.toList.drop k=enc t)∧out.length≤k∧pl≤k∧Hid (OkR t)∧Below W1.heap.size W1 W) (fun _ _ av _=>sT.size-(intOf av).toNat)
     case atStart=>exact⟨0,0,[],rs,Nat.zero_le _,rfl,rfl,OwB.nil _ _,hTs,Hd0,Nat.le_refl _,Nat.le_refl _,Hrs,Below.refl _ _⟩
     case round=>
      obtain⟨k,pl,out,t,hk,rfl,rfl,ho,HC,Hd,hol,hpl,Hok,hBb⟩:=hrel;obtain⟨ov,oc,hv⟩:=ho.forms;subst hv;have Ho:=Za ho;clear ho;obtain⟨m,hm⟩:∃m,m=out.length:=⟨_,rfl⟩;rw[←hm]at Ho hol⊢;have Hm:=Za hm;have Hol:=Za hol;clear hm hol;cases t with
      |nil=>
       have hkk:¬k<sT.size:=by intro hkk;have:=congrArg List.length Hd.out;rw[List.length_drop,show sT.data.toList.length=sT.size from Array.length_toList]at this;simp[enc]at this;omega
       have hI:¬(k:Int)<(sT.size:Int):=by omega
       have hx:(⟨out.toArray⟩:ByteArray)=cutB sT nx (endV nx ny):=by apply Zda;rw[HTT.out,←HC.out];show out.toArray.toList=_;rw[List.toList_toArray];simp[cutR,enc]
       have hcv:=(OwB.rd Ho.out).str m oc Hm.out;rw[hx]at hcv;have hB5:=Zb hBw hBb;have hbs:=hB5.size;have HJ2:=HJ;clear hx HC Hd Ho HTT hBw hBb hkk;generalize cutB sT nx (endV nx ny)=cb at*;go_wp2_with fail;refine(Za0 cb _).mono ?_;rintro e w5 ⟨v,rfl,ho,hb5⟩;have Ho5:=Za (ho.mono hbs);have hB6:=Zb hB5 hb5;clear ho hb5 hB5;go_wp2;go_ret2;exact⟨v,by rw[HJ2.out.2];rfl,by rw[HJ2.out.1];exact Ho5.out,hB6⟩
      |cons r t=>
       have hok:ZbL r=true:=Hok.out r (by simp);have Hok2:Hid (OkR t):=fun r hr=>Hok.out r (by simp[hr]);have hd1:sT.data.toList.drop k=Lib.encodeRune (r:Int)++enc t:=Hd.out;obtain⟨hkk,hle,hd2⟩:=ZdB hd1 (ZbT _);have hnx:=ZdS hok hd1;have hz:=Zan (r:Int);have Hdr:=Za hd1;obtain⟨z,hzz⟩:∃z,z=(Lib.encodeRune (r:Int)).length:=⟨_,rfl⟩;rw[←hzz]at hle hd2 hnx hz;have Hz:=Za hzz;have hI:(k:Int)<(sT.size:Int):=by omega
       have hN:=ZcV sT k hkk (Nat.le_trans HszT.out (by decide)) wr;rw[hnx]at hN;have HNx:=Za hN;have Hd2:=Za hd2;have HC2:Hid (out++enc ((if nx≤(pl:Int)+1∧(pl:Int)+1<(endV nx ny)then [r]else [])++cutR nx (endV nx ny) ((pl+1:Nat):Int) t)=TT):=by show _=_;rw[←HC.out];rfl
       have hsz:=HszT.out;have n0c:=Zc hBb Hc0.out;have n1c:=Zc hBb Hc1.out;clear hok hd1 hnx hN hd2 hzz HC Hd Hok hkk;go_wp2_with fail;refine HNx.out.mono ?_;rintro e w4 ⟨rfl,rfl⟩;have hB:=Below.refl wr.heap.size wr;obtain⟨W0,rfl⟩:∃W0,W0=wr:=⟨_,rfl⟩;by_cases hg:nx≤(pl:Int)+1
       ·by_cases hg1:0<ny
        ·obtain⟨uu,hu0,hup,hud⟩:=Zn4 (p:=(pl:Int)+1) HnA.out (by omega) (by omega) hg;have huy:IntKind.u64.wrap ny=ny:=by have h:=HnB.out;unfold R64 at h;rw[IntKind.wrap_u64];omega
         by_cases hg2:(pl:Int)+1-nx<ny
         ·have hcond:nx≤(pl:Int)+1∧(pl:Int)+1<endV nx ny:=(ZhO nx ny HnA.out HnB.out pl (by omega) (by omega)).2 ⟨hg,hg1,hg2⟩;go_wp2_with fail;refine wp_region_facts (R:=RB W0.heap.size (⟨#[]⟩) (0)) [eqF _ _ _ 72 (.int .i64 ((pl:Int)+1)),eqF _ _ _ 73 (.slice (some ⟨nb,0,none⟩) 2 ncv),eqF _ _ _ 74 (.pointer (some ⟨nb,0,none⟩)),eqF _ _ _ 75 (.int .i64 nx),eqF _ _ _ 76 (.bool true),eqF _ _ _ 77 (.bool true),eqF _ _ _ 78 (.slice (some ⟨nb,0,none⟩) 2 ncv),eqF _ _ _ 79 (.int .i64 2),eqF _ _ _ 80 (.bool false),eqF _ _ _ 81 (.bool false),eqF _ _ _ 82 (.slice (some ⟨nb,0,none⟩) 2 ncv),eqF _ _ _ 83 (.pointer (some ⟨nb,1,none⟩)),eqF _ _ _ 84 (.int .i64 ny),eqF _ _ _ 85 (.bool true),eqF _ _ _ 86 (.bool true),eqF _ _ _ 87 (.int .i64 ((pl:Int)+1)),eqF _ _ _ 88 (.int .u64 ((pl:Int)+1)),eqF _ _ _ 89 (.slice (some ⟨nb,0,none⟩) 2 ncv),eqF _ _ _ 90 (.pointer (some ⟨nb,0,none⟩)),eqF _ _ _ 91 (.int .i64 nx),eqF _ _ _ 92 (.int .u64 uu),eqF _ _ _ 93 (.int .u64 ((pl:Int)+1-nx)),eqF _ _ _ 94 (.slice (some ⟨nb,0,none⟩) 2 ncv),eqF _ _ _ 95 (.pointer (some ⟨nb,1,none⟩)),eqF _ _ _ 96 (.int .i64 ny),eqF _ _ _ 97 (.int .u64 ny),eqF _ _ _ 98 (.bool true),eqF _ _ _ 99 (.bool true),eqF _ _ _ 100 (.bool true),eqF _ _ _ 101 (.bool true)] (by kernel_rfl) (by kernel_rfl) (by kernel_rfl) (RB.refl (Nat.le_refl _)) (fun _ h=>h.again) (fun _ _ _ h k=>h.trans k) ?_ ?_
          ·refine stepsU_cons rfl ?_ (stepsU_cons rfl ?_ (stepsU_cons rfl ?_ (stepsU_cons rfl ?_ (stepsU_cons rfl ?_ (stepsU_cons rfl ?_ (stepsU_cons rfl ?_ (stepsU_cons rfl ?_ (stepsU_cons rfl ?_ (stepsU_cons rfl ?_ (stepsU_cons rfl ?_ (stepsU_cons rfl ?_ (stepsU_cons rfl ?_ (stepsU_cons rfl ?_ (stepsU_cons rfl ?_ (stepsU_cons rfl ?_ (stepsU_cons rfl ?_ (stepsU_cons rfl ?_ (stepsU_cons rfl ?_ (stepsU_cons rfl ?_ (stepsU_cons rfl ?_ (stepsU_cons rfl ?_ (stepsU_cons rfl ?_ (stepsU_cons rfl ?_ (stepsU_cons rfl ?_ (stepsU_cons rfl ?_ (stepsU_cons rfl ?_ (stepsU_cons rfl ?_ (stepsU_cons rfl ?_ (stepsU_cons rfl ?_ (stepsU_nil))))))))))))))))))))))))))))))
           ·refine stepU_plain rfl fun u wr hR hK hD=>?_;exact Zd _ _ rfl (hK 11 rfl) ⟨hR.again,rfl⟩
           ·refine stepU_plain rfl fun u wr hR hK hD=>?_;exact Zd _ _ rfl (hK 6 rfl) ⟨hR.again,rfl⟩
           ·refine stepU_plain rfl fun u wr hR hK hD=>?_;have z:u 73=_:=(hD 1 rfl);exact Ze _ (by unfold execOp;simp[go_sem,evU,z,hj0]) ⟨hR.again,rfl⟩
           ·refine stepU_plain rfl fun u wr hR hK hD=>?_;have z:u 74=_:=(hD 2 rfl);have z2:=Zc hR.be n0c;exact Ze _ (by unfold execOp;simp[go_sem,evU,z,z2]) ⟨hR.again,rfl⟩
           ·refine stepU_plain rfl fun u wr hR hK hD=>?_;have z72:u 72=_:=(hD 0 rfl);have z75:u 75=_:=(hD 3 rfl);exact Ze _ (by unfold execOp;simp[go_sem,evU,z72,z75,hg]) ⟨hR.again,rfl⟩
           ·refine stepU_plain rfl fun u wr hR hK hD=>?_;exact Zd _ _ rfl (hD 4 rfl) ⟨hR.again,rfl⟩
           ·refine stepU_yes 5 77 true rfl rfl (fun u wr hK hD=>hD 5 rfl) fun u wr hR hK hD=>?_;exact Zd _ _ rfl (hK 6 rfl) ⟨hR.again,rfl⟩
           ·refine stepU_yes 5 77 true rfl rfl (fun u wr hK hD=>hD 5 rfl) fun u wr hR hK hD=>?_;have z78:u 78=_:=(hD 6 rfl);exact Ze _ (by unfold execOp;simp[go_sem,evU,z78]) ⟨hR.again,rfl⟩
           ·refine stepU_yes 5 77 true rfl rfl (fun u wr hK hD=>hD 5 rfl) fun u wr hR hK hD=>?_;have z79:u 79=_:=(hD 7 rfl);exact Ze _ (by unfold execOp;simp[go_sem,evU,z79]) ⟨hR.again,rfl⟩
           ·refine stepU_yes 5 77 true rfl rfl (fun u wr hK hD=>hD 5 rfl) fun u wr hR hK hD=>?_;exact Zd _ _ rfl (hD 8 rfl) ⟨hR.again,rfl⟩
           ·refine stepU_yes 9 81 false rfl rfl (fun u wr hK hD=>hD 9 rfl) fun u wr hR hK hD=>?_;exact Zd _ _ rfl (hK 6 rfl) ⟨hR.again,rfl⟩
           ·refine stepU_yes 9 81 false rfl rfl (fun u wr hK hD=>hD 9 rfl) fun u wr hR hK hD=>?_;have z:u 82=_:=(hD 10 rfl);exact Ze _ (by unfold execOp;simp[go_sem,evU,z,hj1]) ⟨hR.again,rfl⟩
           ·refine stepU_yes 9 81 false rfl rfl (fun u wr hK hD=>hD 9 rfl) fun u wr hR hK hD=>?_;have z:u 83=_:=(hD 11 rfl);have z2:=Zc hR.be n1c;exact Ze _ (by unfold execOp;simp[go_sem,evU,z,z2]) ⟨hR.again,rfl⟩
           ·refine stepU_yes 9 81 false rfl rfl (fun u wr hK hD=>hD 9 rfl) fun u wr hR hK hD=>?_;have z84:u 84=_:=(hD 12 rfl);exact Ze _ (by unfold execOp;simp[go_sem,evU,z84,hg1]) ⟨hR.again,rfl⟩
           ·refine stepU_yes 9 81 false rfl rfl (fun u wr hK hD=>hD 9 rfl) fun u wr hR hK hD=>?_;exact Zd _ _ rfl (hD 13 rfl) ⟨hR.again,rfl⟩
           ·refine stepU_yes 14 86 true rfl rfl (fun u wr hK hD=>hD 14 rfl) fun u wr hR hK hD=>?_;exact Zd _ _ rfl (hK 11 rfl) ⟨hR.again,rfl⟩
           ·refine stepU_yes 14 86 true rfl rfl (fun u wr hK hD=>hD 14 rfl) fun u wr hR hK hD=>?_;have z:u 87=_:=(hD 15 rfl);exact Ze _ (by unfold execOp;simp[go_sem,evU,z,hup]) ⟨hR.again,rfl⟩
           ·refine stepU_yes 14 86 true rfl rfl (fun u wr hK hD=>hD 14 rfl) fun u wr hR hK hD=>?_;exact Zd _ _ rfl (hK 6 rfl) ⟨hR.again,rfl⟩
           ·refine stepU_yes 14 86 true rfl rfl (fun u wr hK hD=>hD 14 rfl) fun u wr hR hK hD=>?_;have z:u 89=_:=(hD 17 rfl);exact Ze _ (by unfold execOp;simp[go_sem,evU,z,hj0]) ⟨hR.again,rfl⟩
           ·refine stepU_yes 14 86 true rfl rfl (fun u wr hK hD=>hD 14 rfl) fun u wr hR hK hD=>?_;have z:u 90=_:=(hD 18 rfl);have z2:=Zc hR.be n0c;exact Ze _ (by unfold execOp;simp[go_sem,evU,z,z2]) ⟨hR.again,rfl⟩
           ·refine stepU_yes 14 86 true rfl rfl (fun u wr hK hD=>hD 14 rfl) fun u wr hR hK hD=>?_;have z:u 91=_:=(hD 19 rfl);exact Ze _ (by unfold execOp;simp[go_sem,evU,z,hu0]) ⟨hR.again,rfl⟩
           ·refine stepU_yes 14 86 true rfl rfl (fun u wr hK hD=>hD 14 rfl) fun u wr hR hK hD=>?_;have z:u 88=_:=(hD 16 rfl);have z2:u 92=_:=(hD 20 rfl);exact Ze _ (by unfold execOp;simp[go_sem,evU,z,z2,hud]) ⟨hR.again,rfl⟩
           ·refine stepU_yes 14 86 true rfl rfl (fun u wr hK hD=>hD 14 rfl) fun u wr hR hK hD=>?_;exact Zd _ _ rfl (hK 6 rfl) ⟨hR.again,rfl⟩
           ·refine stepU_yes 14 86 true rfl rfl (fun u wr hK hD=>hD 14 rfl) fun u wr hR hK hD=>?_;have z:u 94=_:=(hD 22 rfl);exact Ze _ (by unfold execOp;simp[go_sem,evU,z,hj1]) ⟨hR.again,rfl⟩
           ·refine stepU_yes 14 86 true rfl rfl (fun u wr hK hD=>hD 14 rfl) fun u wr hR hK hD=>?_;have z:u 95=_:=(hD 23 rfl);have z2:=Zc hR.be n1c;exact Ze _ (by unfold execOp;simp[go_sem,evU,z,z2]) ⟨hR.again,rfl⟩
           ·refine stepU_yes 14 86 true rfl rfl (fun u wr hK hD=>hD 14 rfl) fun u wr hR hK hD=>?_;have z:u 96=_:=(hD 24 rfl);exact Ze _ (by unfold execOp;simp[go_sem,evU,z,huy]) ⟨hR.again,rfl⟩
           ·refine stepU_yes 14 86 true rfl rfl (fun u wr hK hD=>hD 14 rfl) fun u wr hR hK hD=>?_;have z93:u 93=_:=(hD 21 rfl);have z97:u 97=_:=(hD 25 rfl);exact Ze _ (by unfold execOp;simp[go_sem,evU,z93,z97,hg2]) ⟨hR.again,rfl⟩
           ·refine stepU_yes 9 81 false rfl rfl (fun u wr hK hD=>hD 9 rfl) fun u wr hR hK hD=>?_;exact Zn _ _ _ _ _ rfl (hD 14 rfl) (by first|rfl|exact(hD 26 rfl)|exact rfl) ⟨hR.again,rfl⟩
           ·refine stepU_yes 5 77 true rfl rfl (fun u wr hK hD=>hD 5 rfl) fun u wr hR hK hD=>?_;exact Zn _ _ _ _ _ rfl (hD 9 rfl) (by first|rfl|exact rfl|exact(hD 27 rfl)) ⟨hR.again,rfl⟩
           ·refine stepU_plain rfl fun u wr hR hK hD=>?_;exact Zn _ _ _ _ _ rfl (hD 5 rfl) (by first|rfl|exact(hD 28 rfl)|exact rfl) ⟨hR.again,rfl⟩
          intro u w5 hR hF;have e72:u 72= .int .i64 ((pl:Int)+1):=hF 0 (by decide);have e73:u 73= .slice (some ⟨nb,0,none⟩) 2 ncv:=hF 1 (by decide);have e74:u 74= .pointer (some ⟨nb,0,none⟩):=hF 2 (by decide);have e75:u 75= .int .i64 nx:=hF 3 (by decide);have e76:u 76= .bool true:=hF 4 (by decide);have e77:u 77= .bool true:=hF 5 (by decide);have e78:u 78= .slice (some ⟨nb,0,none⟩) 2 ncv:=hF 6 (by decide);have e79:u 79= .int .i64 2:=hF 7 (by decide);have e80:u 80= .bool false:=hF 8 (by decide);have e81:u 81= .bool false:=hF 9 (by decide);have e82:u 82= .slice (some ⟨nb,0,none⟩) 2 ncv:=hF 10 (by decide);have e83:u 83= .pointer (some ⟨nb,1,none⟩):=hF 11 (by decide);have e84:u 84= .int .i64 ny:=hF 12 (by decide);have e85:u 85= .bool true:=hF 13 (by decide);have e86:u 86= .bool true:=hF 14 (by decide);have e87:u 87= .int .i64 ((pl:Int)+1):=hF 15 (by decide);have e88:u 88= .int .u64 ((pl:Int)+1):=hF 16 (by decide);have e89:u 89= .slice (some ⟨nb,0,none⟩) 2 ncv:=hF 17 (by decide);have e90:u 90= .pointer (some ⟨nb,0,none⟩):=hF 18 (by decide);have e91:u 91= .int .i64 nx:=hF 19 (by decide);have e92:u 92= .int .u64 uu:=hF 20 (by decide);have e93:u 93= .int .u64 ((pl:Int)+1-nx):=hF 21 (by decide);have e94:u 94= .slice (some ⟨nb,0,none⟩) 2 ncv:=hF 22 (by decide);have e95:u 95= .pointer (some ⟨nb,1,none⟩):=hF 23 (by decide);have e96:u 96= .int .i64 ny:=hF 24 (by decide);have e97:u 97= .int .u64 ny:=hF 25 (by decide);have e98:u 98= .bool true:=hF 26 (by decide);have e99:u 99= .bool true:=hF 27 (by decide);have e100:u 100= .bool true:=hF 28 (by decide);have e101:u 101= .bool true:=hF 29 (by decide);simp only[ZaW,Act.put,List.setIfInBounds_toArray,List.set_cons_succ,List.set_cons_zero,e72,e73,e74,e75,e76,e77,e78,e79,e80,e81,e82,e83,e84,e85,e86,e87,e88,e89,e90,e91,e92,e93,e94,e95,e96,e97,e98,e99,e100,e101];clear hF e72 e73 e74 e75 e76 e77 e78 e79 e80 e81 e82 e83 e84 e85 e86 e87 e88 e89 e90 e91 e92 e93 e94 e95 e96 e97 e98 e99 e100 e101;have hB2:Below W0.heap.size W0 w5:=Zah hB.drew hB.size hR.be;have hb_w5:Below W0.heap.size W0 w5:=⟨hR.be.os,hR.be.tape,hR.be.output,hR.be.size,hR.be.block⟩;clear hB hR;have hB:=hB2;clear hB2;clear n1c;have HC3:Hid ((out++enc [r])++enc (cutR nx (endV nx ny) ((pl+1:Nat):Int) t)=TT):=by show _=_;rw[←HC2.out,if_pos hcond,ZbA];simp
          have hsx:(sT.extract k (k+z)).data.toList=enc [r]:=by have:=Ze9 (s:=sT) (a:=k) (g:=[r]) (t:=enc t) (by rw[Zbb];exact Hdr.out);rw[Zbb,←Hz.out]at this;rw[this,ZcM]
          have hss:(sT.extract k (k+z)).size≤100000:=by rw[ByteArray.size_extract];omega
          clear HC2 hcond;have hB3:=Zb hBb hb_w5;have HO3:=Za (OwB.keep Ho.out hb_w5);clear hB hb_w5 n0c Ho hBb;have hbs:=hB3.size;have Htk:Hid (List.take z (List.drop k sT.data.toList)=enc [r]):=by show _=_;rw[Hdr.out,Zbb,Hz.out,List.take_left]
          have Hss:=Za hss;clear hsx hss;go_wp2_with (refine Za5 rfl _ _ rfl W1.heap.size (.slice ov m oc) out (sT.extract k (k+z)) rfl rfl HO3.out ?s1 hbs ?_)
          case s1=>have:=Hm.out;have:=Hol.out;have:=Hss.out;omega
          intro v3 W3 own3 hg3;have hB4:Below W1.heap.size W1 W3:=hB3.grown hg3 hbs fun b hb=>(OwB.lt HO3.out b hb).1;have hown4:OwB W3 W1.heap.size v3 (out++enc [r]):=by rw[←Htk.out];simpa using own3
          have hl4:(out++enc [r]).length≤k+z:=by
           have h2:(enc [r]).length=z:=by rw[Zbb];exact Hz.out.symm
           rw[List.length_append,h2];have:=Hol.out;have:=Hm.out;omega
          have Hown4:=Za hown4;clear own3 hg3 hB3 HO3 hown4 hbs;go_wp2;go_roundw
          case rel=>exact⟨k+z,pl+1,out++enc [r],t,by omega,by simp,by simp,Hown4.out,HC3,Hd2,hl4,by omega,Hok2,hB4⟩
          case measure=>simp[intOf];omega
         ·have hcond:¬(nx≤(pl:Int)+1∧(pl:Int)+1<endV nx ny):=fun h=>hg2 ((ZhO nx ny HnA.out HnB.out pl (by omega) (by omega)).1 h).2.2;go_wp2_with fail;refine wp_region_facts (R:=RB W0.heap.size (⟨#[]⟩) (0)) [eqF _ _ _ 72 (.int .i64 ((pl:Int)+1)),eqF _ _ _ 73 (.slice (some ⟨nb,0,none⟩) 2 ncv),eqF _ _ _ 74 (.pointer (some ⟨nb,0,none⟩)),eqF _ _ _ 75 (.int .i64 nx),eqF _ _ _ 76 (.bool true),eqF _ _ _ 77 (.bool true),eqF _ _ _ 78 (.slice (some ⟨nb,0,none⟩) 2 ncv),eqF _ _ _ 79 (.int .i64 2),eqF _ _ _ 80 (.bool false),eqF _ _ _ 81 (.bool false),eqF _ _ _ 82 (.slice (some ⟨nb,0,none⟩) 2 ncv),eqF _ _ _ 83 (.pointer (some ⟨nb,1,none⟩)),eqF _ _ _ 84 (.int .i64 ny),eqF _ _ _ 85 (.bool true),eqF _ _ _ 86 (.bool true),eqF _ _ _ 87 (.int .i64 ((pl:Int)+1)),eqF _ _ _ 88 (.int .u64 ((pl:Int)+1)),eqF _ _ _ 89 (.slice (some ⟨nb,0,none⟩) 2 ncv),eqF _ _ _ 90 (.pointer (some ⟨nb,0,none⟩)),eqF _ _ _ 91 (.int .i64 nx),eqF _ _ _ 92 (.int .u64 uu),eqF _ _ _ 93 (.int .u64 ((pl:Int)+1-nx)),eqF _ _ _ 94 (.slice (some ⟨nb,0,none⟩) 2 ncv),eqF _ _ _ 95 (.pointer (some ⟨nb,1,none⟩)),eqF _ _ _ 96 (.int .i64 ny),eqF _ _ _ 97 (.int .u64 ny),eqF _ _ _ 98 (.bool false),eqF _ _ _ 99 (.bool false),eqF _ _ _ 100 (.bool false),eqF _ _ _ 101 (.bool false)] (by kernel_rfl) (by kernel_rfl) (by kernel_rfl) (RB.refl (Nat.le_refl _)) (fun _ h=>h.again) (fun _ _ _ h k=>h.trans k) ?_ ?_
          ·refine stepsU_cons rfl ?_ (stepsU_cons rfl ?_ (stepsU_cons rfl ?_ (stepsU_cons rfl ?_ (stepsU_cons rfl ?_ (stepsU_cons rfl ?_ (stepsU_cons rfl ?_ (stepsU_cons rfl ?_ (stepsU_cons rfl ?_ (stepsU_cons rfl ?_ (stepsU_cons rfl ?_ (stepsU_cons rfl ?_ (stepsU_cons rfl ?_ (stepsU_cons rfl ?_ (stepsU_cons rfl ?_ (stepsU_cons rfl ?_ (stepsU_cons rfl ?_ (stepsU_cons rfl ?_ (stepsU_cons rfl ?_ (stepsU_cons rfl ?_ (stepsU_cons rfl ?_ (stepsU_cons rfl ?_ (stepsU_cons rfl ?_ (stepsU_cons rfl ?_ (stepsU_cons rfl ?_ (stepsU_cons rfl ?_ (stepsU_cons rfl ?_ (stepsU_cons rfl ?_ (stepsU_cons rfl ?_ (stepsU_cons rfl ?_ (stepsU_nil))))))))))))))))))))))))))))))
           ·refine stepU_plain rfl fun u wr hR hK hD=>?_;exact Zd _ _ rfl (hK 11 rfl) ⟨hR.again,rfl⟩
           ·refine stepU_plain rfl fun u wr hR hK hD=>?_;exact Zd _ _ rfl (hK 6 rfl) ⟨hR.again,rfl⟩
           ·refine stepU_plain rfl fun u wr hR hK hD=>?_;have z:u 73=_:=(hD 1 rfl);exact Ze _ (by unfold execOp;simp[go_sem,evU,z,hj0]) ⟨hR.again,rfl⟩
           ·refine stepU_plain rfl fun u wr hR hK hD=>?_;have z:u 74=_:=(hD 2 rfl);have z2:=Zc hR.be n0c;exact Ze _ (by unfold execOp;simp[go_sem,evU,z,z2]) ⟨hR.again,rfl⟩
           ·refine stepU_plain rfl fun u wr hR hK hD=>?_;have z72:u 72=_:=(hD 0 rfl);have z75:u 75=_:=(hD 3 rfl);exact Ze _ (by unfold execOp;simp[go_sem,evU,z72,z75,hg]) ⟨hR.again,rfl⟩
           ·refine stepU_plain rfl fun u wr hR hK hD=>?_;exact Zd _ _ rfl (hD 4 rfl) ⟨hR.again,rfl⟩
           ·refine stepU_yes 5 77 true rfl rfl (fun u wr hK hD=>hD 5 rfl) fun u wr hR hK hD=>?_;exact Zd _ _ rfl (hK 6 rfl) ⟨hR.again,rfl⟩
           ·refine stepU_yes 5 77 true rfl rfl (fun u wr hK hD=>hD 5 rfl) fun u wr hR hK hD=>?_;have z78:u 78=_:=(hD 6 rfl);exact Ze _ (by unfold execOp;simp[go_sem,evU,z78]) ⟨hR.again,rfl⟩
           ·refine stepU_yes 5 77 true rfl rfl (fun u wr hK hD=>hD 5 rfl) fun u wr hR hK hD=>?_;have z79:u 79=_:=(hD 7 rfl);exact Ze _ (by unfold execOp;simp[go_sem,evU,z79]) ⟨hR.again,rfl⟩
           ·refine stepU_yes 5 77 true rfl rfl (fun u wr hK hD=>hD 5 rfl) fun u wr hR hK hD=>?_;exact Zd _ _ rfl (hD 8 rfl) ⟨hR.again,rfl⟩
           ·refine stepU_yes 9 81 false rfl rfl (fun u wr hK hD=>hD 9 rfl) fun u wr hR hK hD=>?_;exact Zd _ _ rfl (hK 6 rfl) ⟨hR.again,rfl⟩
           ·refine stepU_yes 9 81 false rfl rfl (fun u wr hK hD=>hD 9 rfl) fun u wr hR hK hD=>?_;have z:u 82=_:=(hD 10 rfl);exact Ze _ (by unfold execOp;simp[go_sem,evU,z,hj1]) ⟨hR.again,rfl⟩
           ·refine stepU_yes 9 81 false rfl rfl (fun u wr hK hD=>hD 9 rfl) fun u wr hR hK hD=>?_;have z:u 83=_:=(hD 11 rfl);have z2:=Zc hR.be n1c;exact Ze _ (by unfold execOp;simp[go_sem,evU,z,z2]) ⟨hR.again,rfl⟩
           ·refine stepU_yes 9 81 false rfl rfl (fun u wr hK hD=>hD 9 rfl) fun u wr hR hK hD=>?_;have z84:u 84=_:=(hD 12 rfl);exact Ze _ (by unfold execOp;simp[go_sem,evU,z84,hg1]) ⟨hR.again,rfl⟩
           ·refine stepU_yes 9 81 false rfl rfl (fun u wr hK hD=>hD 9 rfl) fun u wr hR hK hD=>?_;exact Zd _ _ rfl (hD 13 rfl) ⟨hR.again,rfl⟩
           ·refine stepU_yes 14 86 true rfl rfl (fun u wr hK hD=>hD 14 rfl) fun u wr hR hK hD=>?_;exact Zd _ _ rfl (hK 11 rfl) ⟨hR.again,rfl⟩
           ·refine stepU_yes 14 86 true rfl rfl (fun u wr hK hD=>hD 14 rfl) fun u wr hR hK hD=>?_;have z:u 87=_:=(hD 15 rfl);exact Ze _ (by unfold execOp;simp[go_sem,evU,z,hup]) ⟨hR.again,rfl⟩
           ·refine stepU_yes 14 86 true rfl rfl (fun u wr hK hD=>hD 14 rfl) fun u wr hR hK hD=>?_;exact Zd _ _ rfl (hK 6 rfl) ⟨hR.again,rfl⟩
           ·refine stepU_yes 14 86 true rfl rfl (fun u wr hK hD=>hD 14 rfl) fun u wr hR hK hD=>?_;have z:u 89=_:=(hD 17 rfl);exact Ze _ (by unfold execOp;simp[go_sem,evU,z,hj0]) ⟨hR.again,rfl⟩
           ·refine stepU_yes 14 86 true rfl rfl (fun u wr hK hD=>hD 14 rfl) fun u wr hR hK hD=>?_;have z:u 90=_:=(hD 18 rfl);have z2:=Zc hR.be n0c;exact Ze _ (by unfold execOp;simp[go_sem,evU,z,z2]) ⟨hR.again,rfl⟩
           ·refine stepU_yes 14 86 true rfl rfl (fun u wr hK hD=>hD 14 rfl) fun u wr hR hK hD=>?_;have z:u 91=_:=(hD 19 rfl);exact Ze _ (by unfold execOp;simp[go_sem,evU,z,hu0]) ⟨hR.again,rfl⟩
           ·refine stepU_yes 14 86 true rfl rfl (fun u wr hK hD=>hD 14 rfl) fun u wr hR hK hD=>?_;have z:u 88=_:=(hD 16 rfl);have z2:u 92=_:=(hD 20 rfl);exact Ze _ (by unfold execOp;simp[go_sem,evU,z,z2,hud]) ⟨hR.again,rfl⟩
           ·refine stepU_yes 14 86 true rfl rfl (fun u wr hK hD=>hD 14 rfl) fun u wr hR hK hD=>?_;exact Zd _ _ rfl (hK 6 rfl) ⟨hR.again,rfl⟩
           ·refine stepU_yes 14 86 true rfl rfl (fun u wr hK hD=>hD 14 rfl) fun u wr hR hK hD=>?_;have z:u 94=_:=(hD 22 rfl);exact Ze _ (by unfold execOp;simp[go_sem,evU,z,hj1]) ⟨hR.again,rfl⟩
           ·refine stepU_yes 14 86 true rfl rfl (fun u wr hK hD=>hD 14 rfl) fun u wr hR hK hD=>?_;have z:u 95=_:=(hD 23 rfl);have z2:=Zc hR.be n1c;exact Ze _ (by unfold execOp;simp[go_sem,evU,z,z2]) ⟨hR.again,rfl⟩
           ·refine stepU_yes 14 86 true rfl rfl (fun u wr hK hD=>hD 14 rfl) fun u wr hR hK hD=>?_;have z:u 96=_:=(hD 24 rfl);exact Ze _ (by unfold execOp;simp[go_sem,evU,z,huy]) ⟨hR.again,rfl⟩
           ·refine stepU_yes 14 86 true rfl rfl (fun u wr hK hD=>hD 14 rfl) fun u wr hR hK hD=>?_;have z93:u 93=_:=(hD 21 rfl);have z97:u 97=_:=(hD 25 rfl);exact Ze _ (by unfold execOp;simp[go_sem,evU,z93,z97,hg2]) ⟨hR.again,rfl⟩
           ·refine stepU_yes 9 81 false rfl rfl (fun u wr hK hD=>hD 9 rfl) fun u wr hR hK hD=>?_;exact Zn _ _ _ _ _ rfl (hD 14 rfl) (by first|rfl|exact(hD 26 rfl)|exact rfl) ⟨hR.again,rfl⟩
           ·refine stepU_yes 5 77 true rfl rfl (fun u wr hK hD=>hD 5 rfl) fun u wr hR hK hD=>?_;exact Zn _ _ _ _ _ rfl (hD 9 rfl) (by first|rfl|exact rfl|exact(hD 27 rfl)) ⟨hR.again,rfl⟩
           ·refine stepU_plain rfl fun u wr hR hK hD=>?_;exact Zn _ _ _ _ _ rfl (hD 5 rfl) (by first|rfl|exact(hD 28 rfl)|exact rfl) ⟨hR.again,rfl⟩
          intro u w5 hR hF;have e72:u 72= .int .i64 ((pl:Int)+1):=hF 0 (by decide);have e73:u 73= .slice (some ⟨nb,0,none⟩) 2 ncv:=hF 1 (by decide);have e74:u 74= .pointer (some ⟨nb,0,none⟩):=hF 2 (by decide);have e75:u 75= .int .i64 nx:=hF 3 (by decide);have e76:u 76= .bool true:=hF 4 (by decide);have e77:u 77= .bool true:=hF 5 (by decide);have e78:u 78= .slice (some ⟨nb,0,none⟩) 2 ncv:=hF 6 (by decide);have e79:u 79= .int .i64 2:=hF 7 (by decide);have e80:u 80= .bool false:=hF 8 (by decide);have e81:u 81= .bool false:=hF 9 (by decide);have e82:u 82= .slice (some ⟨nb,0,none⟩) 2 ncv:=hF 10 (by decide);have e83:u 83= .pointer (some ⟨nb,1,none⟩):=hF 11 (by decide);have e84:u 84= .int .i64 ny:=hF 12 (by decide);have e85:u 85= .bool true:=hF 13 (by decide);have e86:u 86= .bool true:=hF 14 (by decide);have e87:u 87= .int .i64 ((pl:Int)+1):=hF 15 (by decide);have e88:u 88= .int .u64 ((pl:Int)+1):=hF 16 (by decide);have e89:u 89= .slice (some ⟨nb,0,none⟩) 2 ncv:=hF 17 (by decide);have e90:u 90= .pointer (some ⟨nb,0,none⟩):=hF 18 (by decide);have e91:u 91= .int .i64 nx:=hF 19 (by decide);have e92:u 92= .int .u64 uu:=hF 20 (by decide);have e93:u 93= .int .u64 ((pl:Int)+1-nx):=hF 21 (by decide);have e94:u 94= .slice (some ⟨nb,0,none⟩) 2 ncv:=hF 22 (by decide);have e95:u 95= .pointer (some ⟨nb,1,none⟩):=hF 23 (by decide);have e96:u 96= .int .i64 ny:=hF 24 (by decide);have e97:u 97= .int .u64 ny:=hF 25 (by decide);have e98:u 98= .bool false:=hF 26 (by decide);have e99:u 99= .bool false:=hF 27 (by decide);have e100:u 100= .bool false:=hF 28 (by decide);have e101:u 101= .bool false:=hF 29 (by decide);simp only[ZaW,Act.put,List.setIfInBounds_toArray,List.set_cons_succ,List.set_cons_zero,e72,e73,e74,e75,e76,e77,e78,e79,e80,e81,e82,e83,e84,e85,e86,e87,e88,e89,e90,e91,e92,e93,e94,e95,e96,e97,e98,e99,e100,e101];clear hF e72 e73 e74 e75 e76 e77 e78 e79 e80 e81 e82 e83 e84 e85 e86 e87 e88 e89 e90 e91 e92 e93 e94 e95 e96 e97 e98 e99 e100 e101;have hB2:Below W0.heap.size W0 w5:=Zah hB.drew hB.size hR.be;have hb_w5:Below W0.heap.size W0 w5:=⟨hR.be.os,hR.be.tape,hR.be.output,hR.be.size,hR.be.block⟩;clear hB hR;have hB:=hB2;clear hB2;clear n1c;have HC3:Hid (out++enc (cutR nx (endV nx ny) ((pl+1:Nat):Int) t)=TT):=by show _=_;rw[←HC2.out,if_neg hcond];simp
          clear HC2 hcond;have hB3:=Zb hBb hb_w5;have HO3:=Za (OwB.keep Ho.out hb_w5);clear hB hb_w5 n0c Ho hBb;go_wp2;go_roundw
          case rel=>exact⟨k+z,pl+1,out,t,by omega,by simp,by simp,HO3.out,HC3,Hd2,by have:=Hol.out;have:=Hm.out;omega,by omega,Hok2,hB3⟩
          case measure=>simp[intOf];omega
        ·have hcond:¬(nx≤(pl:Int)+1∧(pl:Int)+1<endV nx ny):=fun h=>hg1 ((ZhO nx ny HnA.out HnB.out pl (by omega) (by omega)).1 h).2.1;go_wp2_with fail;refine wp_region_facts (R:=RB W0.heap.size (⟨#[]⟩) (0)) [eqF _ _ _ 72 (.int .i64 ((pl:Int)+1)),eqF _ _ _ 73 (.slice (some ⟨nb,0,none⟩) 2 ncv),eqF _ _ _ 74 (.pointer (some ⟨nb,0,none⟩)),eqF _ _ _ 75 (.int .i64 nx),eqF _ _ _ 76 (.bool true),eqF _ _ _ 77 (.bool true),eqF _ _ _ 78 (.slice (some ⟨nb,0,none⟩) 2 ncv),eqF _ _ _ 79 (.int .i64 2),eqF _ _ _ 80 (.bool false),eqF _ _ _ 81 (.bool false),eqF _ _ _ 82 (.slice (some ⟨nb,0,none⟩) 2 ncv),eqF _ _ _ 83 (.pointer (some ⟨nb,1,none⟩)),eqF _ _ _ 84 (.int .i64 ny),eqF _ _ _ 85 (.bool false),eqF _ _ _ 86 (.bool false),eqF _ _ _ 87 undef,eqF _ _ _ 88 undef,eqF _ _ _ 89 undef,eqF _ _ _ 90 undef,eqF _ _ _ 91 undef,eqF _ _ _ 92 undef,eqF _ _ _ 93 undef,eqF _ _ _ 94 undef,eqF _ _ _ 95 undef,eqF _ _ _ 96 undef,eqF _ _ _ 97 undef,eqF _ _ _ 98 undef,eqF _ _ _ 99 (.bool false),eqF _ _ _ 100 (.bool false),eqF _ _ _ 101 (.bool false)] (by kernel_rfl) (by kernel_rfl) (by kernel_rfl) (RB.refl (Nat.le_refl _)) (fun _ h=>h.again) (fun _ _ _ h k=>h.trans k) ?_ ?_
         ·refine stepsU_cons rfl ?_ (stepsU_cons rfl ?_ (stepsU_cons rfl ?_ (stepsU_cons rfl ?_ (stepsU_cons rfl ?_ (stepsU_cons rfl ?_ (stepsU_cons rfl ?_ (stepsU_cons rfl ?_ (stepsU_cons rfl ?_ (stepsU_cons rfl ?_ (stepsU_cons rfl ?_ (stepsU_cons rfl ?_ (stepsU_cons rfl ?_ (stepsU_cons rfl ?_ (stepsU_cons rfl ?_ (stepsU_cons rfl ?_ (stepsU_cons rfl ?_ (stepsU_cons rfl ?_ (stepsU_cons rfl ?_ (stepsU_cons rfl ?_ (stepsU_cons rfl ?_ (stepsU_cons rfl ?_ (stepsU_cons rfl ?_ (stepsU_cons rfl ?_ (stepsU_cons rfl ?_ (stepsU_cons rfl ?_ (stepsU_cons rfl ?_ (stepsU_cons rfl ?_ (stepsU_cons rfl ?_ (stepsU_cons rfl ?_ (stepsU_nil))))))))))))))))))))))))))))))
          ·refine stepU_plain rfl fun u wr hR hK hD=>?_;exact Zd _ _ rfl (hK 11 rfl) ⟨hR.again,rfl⟩
          ·refine stepU_plain rfl fun u wr hR hK hD=>?_;exact Zd _ _ rfl (hK 6 rfl) ⟨hR.again,rfl⟩
          ·refine stepU_plain rfl fun u wr hR hK hD=>?_;have z:u 73=_:=(hD 1 rfl);exact Ze _ (by unfold execOp;simp[go_sem,evU,z,hj0]) ⟨hR.again,rfl⟩
          ·refine stepU_plain rfl fun u wr hR hK hD=>?_;have z:u 74=_:=(hD 2 rfl);have z2:=Zc hR.be n0c;exact Ze _ (by unfold execOp;simp[go_sem,evU,z,z2]) ⟨hR.again,rfl⟩
          ·refine stepU_plain rfl fun u wr hR hK hD=>?_;have z72:u 72=_:=(hD 0 rfl);have z75:u 75=_:=(hD 3 rfl);exact Ze _ (by unfold execOp;simp[go_sem,evU,z72,z75,hg]) ⟨hR.again,rfl⟩
          ·refine stepU_plain rfl fun u wr hR hK hD=>?_;exact Zd _ _ rfl (hD 4 rfl) ⟨hR.again,rfl⟩
          ·refine stepU_yes 5 77 true rfl rfl (fun u wr hK hD=>hD 5 rfl) fun u wr hR hK hD=>?_;exact Zd _ _ rfl (hK 6 rfl) ⟨hR.again,rfl⟩
          ·refine stepU_yes 5 77 true rfl rfl (fun u wr hK hD=>hD 5 rfl) fun u wr hR hK hD=>?_;have z78:u 78=_:=(hD 6 rfl);exact Ze _ (by unfold execOp;simp[go_sem,evU,z78]) ⟨hR.again,rfl⟩
          ·refine stepU_yes 5 77 true rfl rfl (fun u wr hK hD=>hD 5 rfl) fun u wr hR hK hD=>?_;have z79:u 79=_:=(hD 7 rfl);exact Ze _ (by unfold execOp;simp[go_sem,evU,z79]) ⟨hR.again,rfl⟩
          ·refine stepU_yes 5 77 true rfl rfl (fun u wr hK hD=>hD 5 rfl) fun u wr hR hK hD=>?_;exact Zd _ _ rfl (hD 8 rfl) ⟨hR.again,rfl⟩
          ·refine stepU_yes 9 81 false rfl rfl (fun u wr hK hD=>hD 9 rfl) fun u wr hR hK hD=>?_;exact Zd _ _ rfl (hK 6 rfl) ⟨hR.again,rfl⟩
          ·refine stepU_yes 9 81 false rfl rfl (fun u wr hK hD=>hD 9 rfl) fun u wr hR hK hD=>?_;have z:u 82=_:=(hD 10 rfl);exact Ze _ (by unfold execOp;simp[go_sem,evU,z,hj1]) ⟨hR.again,rfl⟩
          ·refine stepU_yes 9 81 false rfl rfl (fun u wr hK hD=>hD 9 rfl) fun u wr hR hK hD=>?_;have z:u 83=_:=(hD 11 rfl);have z2:=Zc hR.be n1c;exact Ze _ (by unfold execOp;simp[go_sem,evU,z,z2]) ⟨hR.again,rfl⟩
          ·refine stepU_yes 9 81 false rfl rfl (fun u wr hK hD=>hD 9 rfl) fun u wr hR hK hD=>?_;have z84:u 84=_:=(hD 12 rfl);exact Ze _ (by unfold execOp;simp[go_sem,evU,z84,hg1]) ⟨hR.again,rfl⟩
          ·refine stepU_yes 9 81 false rfl rfl (fun u wr hK hD=>hD 9 rfl) fun u wr hR hK hD=>?_;exact Zd _ _ rfl (hD 13 rfl) ⟨hR.again,rfl⟩
          ·exact stepU_no 14 86 true false rfl rfl rfl (fun u wr hK hD=>(hD 14 rfl)) (fun u wr=>rfl)
          ·exact stepU_no 14 86 true false rfl rfl rfl (fun u wr hK hD=>(hD 14 rfl)) (fun u wr=>rfl)
          ·exact stepU_no 14 86 true false rfl rfl rfl (fun u wr hK hD=>(hD 14 rfl)) (fun u wr=>rfl)
          ·exact stepU_no 14 86 true false rfl rfl rfl (fun u wr hK hD=>(hD 14 rfl)) (fun u wr=>rfl)
          ·exact stepU_no 14 86 true false rfl rfl rfl (fun u wr hK hD=>(hD 14 rfl)) (fun u wr=>rfl)
          ·exact stepU_no 14 86 true false rfl rfl rfl (fun u wr hK hD=>(hD 14 rfl)) (fun u wr=>rfl)
          ·exact stepU_no 14 86 true false rfl rfl rfl (fun u wr hK hD=>(hD 14 rfl)) (fun u wr=>rfl)
          ·exact stepU_no 14 86 true false rfl rfl rfl (fun u wr hK hD=>(hD 14 rfl)) (fun u wr=>rfl)
          ·exact stepU_no 14 86 true false rfl rfl rfl (fun u wr hK hD=>(hD 14 rfl)) (fun u wr=>rfl)
          ·exact stepU_no 14 86 true false rfl rfl rfl (fun u wr hK hD=>(hD 14 rfl)) (fun u wr=>rfl)
          ·exact stepU_no 14 86 true false rfl rfl rfl (fun u wr hK hD=>(hD 14 rfl)) (fun u wr=>rfl)
          ·exact stepU_no 14 86 true false rfl rfl rfl (fun u wr hK hD=>(hD 14 rfl)) (fun u wr=>rfl)
          ·refine stepU_yes 9 81 false rfl rfl (fun u wr hK hD=>hD 9 rfl) fun u wr hR hK hD=>?_;exact Zn _ _ _ _ _ rfl (hD 14 rfl) (by first|rfl|exact(hD 26 rfl)|exact rfl) ⟨hR.again,rfl⟩
          ·refine stepU_yes 5 77 true rfl rfl (fun u wr hK hD=>hD 5 rfl) fun u wr hR hK hD=>?_;exact Zn _ _ _ _ _ rfl (hD 9 rfl) (by first|rfl|exact rfl|exact(hD 27 rfl)) ⟨hR.again,rfl⟩
          ·refine stepU_plain rfl fun u wr hR hK hD=>?_;exact Zn _ _ _ _ _ rfl (hD 5 rfl) (by first|rfl|exact(hD 28 rfl)|exact rfl) ⟨hR.again,rfl⟩
         intro u w5 hR hF;have e72:u 72= .int .i64 ((pl:Int)+1):=hF 0 (by decide);have e73:u 73= .slice (some ⟨nb,0,none⟩) 2 ncv:=hF 1 (by decide);have e74:u 74= .pointer (some ⟨nb,0,none⟩):=hF 2 (by decide);have e75:u 75= .int .i64 nx:=hF 3 (by decide);have e76:u 76= .bool true:=hF 4 (by decide);have e77:u 77= .bool true:=hF 5 (by decide);have e78:u 78= .slice (some ⟨nb,0,none⟩) 2 ncv:=hF 6 (by decide);have e79:u 79= .int .i64 2:=hF 7 (by decide);have e80:u 80= .bool false:=hF 8 (by decide);have e81:u 81= .bool false:=hF 9 (by decide);have e82:u 82= .slice (some ⟨nb,0,none⟩) 2 ncv:=hF 10 (by decide);have e83:u 83= .pointer (some ⟨nb,1,none⟩):=hF 11 (by decide);have e84:u 84= .int .i64 ny:=hF 12 (by decide);have e85:u 85= .bool false:=hF 13 (by decide);have e86:u 86= .bool false:=hF 14 (by decide);have e87:u 87=undef:=hF 15 (by decide);have e88:u 88=undef:=hF 16 (by decide);have e89:u 89=undef:=hF 17 (by decide);have e90:u 90=undef:=hF 18 (by decide);have e91:u 91=undef:=hF 19 (by decide);have e92:u 92=undef:=hF 20 (by decide);have e93:u 93=undef:=hF 21 (by decide);have e94:u 94=undef:=hF 22 (by decide);have e95:u 95=undef:=hF 23 (by decide);have e96:u 96=undef:=hF 24 (by decide);have e97:u 97=undef:=hF 25 (by decide);have e98:u 98=undef:=hF 26 (by decide);have e99:u 99= .bool false:=hF 27 (by decide);have e100:u 100= .bool false:=hF 28 (by decide);have e101:u 101= .bool false:=hF 29 (by decide);simp only[ZaW,Act.put,List.setIfInBounds_toArray,List.set_cons_succ,List.set_cons_zero,e72,e73,e74,e75,e76,e77,e78,e79,e80,e81,e82,e83,e84,e85,e86,e87,e88,e89,e90,e91,e92,e93,e94,e95,e96,e97,e98,e99,e100,e101];clear hF e72 e73 e74 e75 e76 e77 e78 e79 e80 e81 e82 e83 e84 e85 e86 e87 e88 e89 e90 e91 e92 e93 e94 e95 e96 e97 e98 e99 e100 e101;have hB2:Below W0.heap.size W0 w5:=Zah hB.drew hB.size hR.be;have hb_w5:Below W0.heap.size W0 w5:=⟨hR.be.os,hR.be.tape,hR.be.output,hR.be.size,hR.be.block⟩;clear hB hR;have hB:=hB2;clear hB2;clear n1c;have HC3:Hid (out++enc (cutR nx (endV nx ny) ((pl+1:Nat):Int) t)=TT):=by show _=_;rw[←HC2.out,if_neg hcond];simp
         clear HC2 hcond;have hB3:=Zb hBb hb_w5;have HO3:=Za (OwB.keep Ho.out hb_w5);clear hB hb_w5 n0c Ho hBb;go_wp2;go_roundw
         case rel=>exact⟨k+z,pl+1,out,t,by omega,by simp,by simp,HO3.out,HC3,Hd2,by have:=Hol.out;have:=Hm.out;omega,by omega,Hok2,hB3⟩
         case measure=>simp[intOf];omega
       ·have hcond:¬(nx≤(pl:Int)+1∧(pl:Int)+1<endV nx ny):=by omega
        go_wp2_with fail;refine wp_region_facts (R:=RB W0.heap.size (⟨#[]⟩) (0)) [eqF _ _ _ 72 (.int .i64 ((pl:Int)+1)),eqF _ _ _ 73 (.slice (some ⟨nb,0,none⟩) 2 ncv),eqF _ _ _ 74 (.pointer (some ⟨nb,0,none⟩)),eqF _ _ _ 75 (.int .i64 nx),eqF _ _ _ 76 (.bool false),eqF _ _ _ 77 (.bool false),eqF _ _ _ 78 undef,eqF _ _ _ 79 undef,eqF _ _ _ 80 undef,eqF _ _ _ 81 undef,eqF _ _ _ 82 undef,eqF _ _ _ 83 undef,eqF _ _ _ 84 undef,eqF _ _ _ 85 undef,eqF _ _ _ 86 undef,eqF _ _ _ 87 undef,eqF _ _ _ 88 undef,eqF _ _ _ 89 undef,eqF _ _ _ 90 undef,eqF _ _ _ 91 undef,eqF _ _ _ 92 undef,eqF _ _ _ 93 undef,eqF _ _ _ 94 undef,eqF _ _ _ 95 undef,eqF _ _ _ 96 undef,eqF _ _ _ 97 undef,eqF _ _ _ 98 undef,eqF _ _ _ 99 undef,eqF _ _ _ 100 undef,eqF _ _ _ 101 (.bool false)] (by kernel_rfl) (by kernel_rfl) (by kernel_rfl) (RB.refl (Nat.le_refl _)) (fun _ h=>h.again) (fun _ _ _ h k=>h.trans k) ?_ ?_
        ·refine stepsU_cons rfl ?_ (stepsU_cons rfl ?_ (stepsU_cons rfl ?_ (stepsU_cons rfl ?_ (stepsU_cons rfl ?_ (stepsU_cons rfl ?_ (stepsU_cons rfl ?_ (stepsU_cons rfl ?_ (stepsU_cons rfl ?_ (stepsU_cons rfl ?_ (stepsU_cons rfl ?_ (stepsU_cons rfl ?_ (stepsU_cons rfl ?_ (stepsU_cons rfl ?_ (stepsU_cons rfl ?_ (stepsU_cons rfl ?_ (stepsU_cons rfl ?_ (stepsU_cons rfl ?_ (stepsU_cons rfl ?_ (stepsU_cons rfl ?_ (stepsU_cons rfl ?_ (stepsU_cons rfl ?_ (stepsU_cons rfl ?_ (stepsU_cons rfl ?_ (stepsU_cons rfl ?_ (stepsU_cons rfl ?_ (stepsU_cons rfl ?_ (stepsU_cons rfl ?_ (stepsU_cons rfl ?_ (stepsU_cons rfl ?_ (stepsU_nil))))))))))))))))))))))))))))))
         ·refine stepU_plain rfl fun u wr hR hK hD=>?_;exact Zd _ _ rfl (hK 11 rfl) ⟨hR.again,rfl⟩
         ·refine stepU_plain rfl fun u wr hR hK hD=>?_;exact Zd _ _ rfl (hK 6 rfl) ⟨hR.again,rfl⟩
         ·refine stepU_plain rfl fun u wr hR hK hD=>?_;have z:u 73=_:=(hD 1 rfl);exact Ze _ (by unfold execOp;simp[go_sem,evU,z,hj0]) ⟨hR.again,rfl⟩
         ·refine stepU_plain rfl fun u wr hR hK hD=>?_;have z:u 74=_:=(hD 2 rfl);have z2:=Zc hR.be n0c;exact Ze _ (by unfold execOp;simp[go_sem,evU,z,z2]) ⟨hR.again,rfl⟩
         ·refine stepU_plain rfl fun u wr hR hK hD=>?_;have z72:u 72=_:=(hD 0 rfl);have z75:u 75=_:=(hD 3 rfl);exact Ze _ (by unfold execOp;simp[go_sem,evU,z72,z75,hg]) ⟨hR.again,rfl⟩
         ·refine stepU_plain rfl fun u wr hR hK hD=>?_;exact Zd _ _ rfl (hD 4 rfl) ⟨hR.again,rfl⟩
         ·exact stepU_no 5 77 true false rfl rfl rfl (fun u wr hK hD=>(hD 5 rfl)) (fun u wr=>rfl)
         ·exact stepU_no 5 77 true false rfl rfl rfl (fun u wr hK hD=>(hD 5 rfl)) (fun u wr=>rfl)
         ·exact stepU_no 5 77 true false rfl rfl rfl (fun u wr hK hD=>(hD 5 rfl)) (fun u wr=>rfl)
         ·exact stepU_no 5 77 true false rfl rfl rfl (fun u wr hK hD=>(hD 5 rfl)) (fun u wr=>rfl)
         ·exact Zh 9 81 rfl rfl (fun u wr hK hD=>(hD 9 rfl)) (fun u wr=>rfl)
         ·exact Zh 9 81 rfl rfl (fun u wr hK hD=>(hD 9 rfl)) (fun u wr=>rfl)
         ·exact Zh 9 81 rfl rfl (fun u wr hK hD=>(hD 9 rfl)) (fun u wr=>rfl)
         ·exact Zh 9 81 rfl rfl (fun u wr hK hD=>(hD 9 rfl)) (fun u wr=>rfl)
         ·exact Zh 9 81 rfl rfl (fun u wr hK hD=>(hD 9 rfl)) (fun u wr=>rfl)
         ·exact Zh 14 86 rfl rfl (fun u wr hK hD=>(hD 14 rfl)) (fun u wr=>rfl)
         ·exact Zh 14 86 rfl rfl (fun u wr hK hD=>(hD 14 rfl)) (fun u wr=>rfl)
         ·exact Zh 14 86 rfl rfl (fun u wr hK hD=>(hD 14 rfl)) (fun u wr=>rfl)
         ·exact Zh 14 86 rfl rfl (fun u wr hK hD=>(hD 14 rfl)) (fun u wr=>rfl)
         ·exact Zh 14 86 rfl rfl (fun u wr hK hD=>(hD 14 rfl)) (fun u wr=>rfl)
         ·exact Zh 14 86 rfl rfl (fun u wr hK hD=>(hD 14 rfl)) (fun u wr=>rfl)
         ·exact Zh 14 86 rfl rfl (fun u wr hK hD=>(hD 14 rfl)) (fun u wr=>rfl)
         ·exact Zh 14 86 rfl rfl (fun u wr hK hD=>(hD 14 rfl)) (fun u wr=>rfl)
         ·exact Zh 14 86 rfl rfl (fun u wr hK hD=>(hD 14 rfl)) (fun u wr=>rfl)
         ·exact Zh 14 86 rfl rfl (fun u wr hK hD=>(hD 14 rfl)) (fun u wr=>rfl)
         ·exact Zh 14 86 rfl rfl (fun u wr hK hD=>(hD 14 rfl)) (fun u wr=>rfl)
         ·exact Zh 14 86 rfl rfl (fun u wr hK hD=>(hD 14 rfl)) (fun u wr=>rfl)
         ·exact Zh 9 81 rfl rfl (fun u wr hK hD=>(hD 9 rfl)) (fun u wr=>rfl)
         ·exact stepU_no 5 77 true false rfl rfl rfl (fun u wr hK hD=>(hD 5 rfl)) (fun u wr=>rfl)
         ·refine stepU_plain rfl fun u wr hR hK hD=>?_;exact Zn _ _ _ _ _ rfl (hD 5 rfl) (by first|rfl|exact(hD 28 rfl)|exact rfl) ⟨hR.again,rfl⟩
        intro u w5 hR hF;have e72:u 72= .int .i64 ((pl:Int)+1):=hF 0 (by decide);have e73:u 73= .slice (some ⟨nb,0,none⟩) 2 ncv:=hF 1 (by decide);have e74:u 74= .pointer (some ⟨nb,0,none⟩):=hF 2 (by decide);have e75:u 75= .int .i64 nx:=hF 3 (by decide);have e76:u 76= .bool false:=hF 4 (by decide);have e77:u 77= .bool false:=hF 5 (by decide);have e78:u 78=undef:=hF 6 (by decide);have e79:u 79=undef:=hF 7 (by decide);have e80:u 80=undef:=hF 8 (by decide);have e81:u 81=undef:=hF 9 (by decide);have e82:u 82=undef:=hF 10 (by decide);have e83:u 83=undef:=hF 11 (by decide);have e84:u 84=undef:=hF 12 (by decide);have e85:u 85=undef:=hF 13 (by decide);have e86:u 86=undef:=hF 14 (by decide);have e87:u 87=undef:=hF 15 (by decide);have e88:u 88=undef:=hF 16 (by decide);have e89:u 89=undef:=hF 17 (by decide);have e90:u 90=undef:=hF 18 (by decide);have e91:u 91=undef:=hF 19 (by decide);have e92:u 92=undef:=hF 20 (by decide);have e93:u 93=undef:=hF 21 (by decide);have e94:u 94=undef:=hF 22 (by decide);have e95:u 95=undef:=hF 23 (by decide);have e96:u 96=undef:=hF 24 (by decide);have e97:u 97=undef:=hF 25 (by decide);have e98:u 98=undef:=hF 26 (by decide);have e99:u 99=undef:=hF 27 (by decide);have e100:u 100=undef:=hF 28 (by decide);have e101:u 101= .bool false:=hF 29 (by decide);simp only[ZaW,Act.put,List.setIfInBounds_toArray,List.set_cons_succ,List.set_cons_zero,e72,e73,e74,e75,e76,e77,e78,e79,e80,e81,e82,e83,e84,e85,e86,e87,e88,e89,e90,e91,e92,e93,e94,e95,e96,e97,e98,e99,e100,e101];clear hF e72 e73 e74 e75 e76 e77 e78 e79 e80 e81 e82 e83 e84 e85 e86 e87 e88 e89 e90 e91 e92 e93 e94 e95 e96 e97 e98 e99 e100 e101;have hB2:Below W0.heap.size W0 w5:=Zah hB.drew hB.size hR.be;have hb_w5:Below W0.heap.size W0 w5:=⟨hR.be.os,hR.be.tape,hR.be.output,hR.be.size,hR.be.block⟩;clear hB hR;have hB:=hB2;clear hB2;clear n1c;have HC3:Hid (out++enc (cutR nx (endV nx ny) ((pl+1:Nat):Int) t)=TT):=by show _=_;rw[←HC2.out,if_neg hcond];simp
        clear HC2 hcond;have hB3:=Zb hBb hb_w5;have HO3:=Za (OwB.keep Ho.out hb_w5);clear hB hb_w5 n0c Ho hBb;go_wp2;go_roundw
        case rel=>exact⟨k+z,pl+1,out,t,by omega,by simp,by simp,HO3.out,HC3,Hd2,by have:=Hol.out;have:=Hm.out;omega,by omega,Hok2,hB3⟩
        case measure=>simp[intOf];omega
    ·subst e3;have hnx:nx=n0:=by simpa using hn0
     subst hnx;have hM1:M=1:=by simpa using hMl
     subst hM1;have c0:=hn0c 0 nx rfl;have HnA:=Za (hnR 0 nx rfl);have HTT:Hid ((cutB sT nx i64max).data.toList=enc (cutR nx i64max 0 rs)):=ZgR nx i64max Hrs.out Hrt.out;have HJ:Hid (V1=(joinR ⟨#[]⟩ [cutB sT nx i64max]).1∧V2=(joinR ⟨#[]⟩ [cutB sT nx i64max]).2):=HJ.out;have hj0:=ZiX nb 1 ncv (by decide);have Hc0:=Za c0;have HBk:=Za hb2;clear hn0 hn0c hnR hMl hl2 c0 hb1 hb2 hb3 hkM hv7;obtain⟨W1,rfl⟩:∃W1,W1=wr:=⟨_,rfl⟩;obtain⟨TT,hTT⟩:∃x,x=enc (cutR nx i64max 0 rs):=⟨_,rfl⟩;rw[←hTT]at HTT;have hTs:Hid (enc (cutR nx i64max 0 rs)=TT):=by show _=_;rw[hTT]
     have hBw:=hB;have HszT:=Za hsz;clear hB hTT;go_wp2_with fail;go_loopw[10,11,12] (fun ov pv av W=>∃(k pl:Nat) (out:List UInt8) (t:List Nat),k≤sT.size∧av= .int .i64 k∧pv= .int .i64 pl∧OwB W W1.heap.size ov out∧Hid (out++enc (cutR nx i64max (pl:Int) t)=TT)∧Hid (sT.data.toList.drop k=enc t)∧out.length≤k∧pl≤k∧Hid (OkR t)∧Below W1.heap.size W1 W) (fun _ _ av _=>sT.size-(intOf av).toNat)
     case atStart=>exact⟨0,0,[],rs,Nat.zero_le _,rfl,rfl,OwB.nil _ _,hTs,Hd0,Nat.le_refl _,Nat.le_refl _,Hrs,Below.refl _ _⟩
     case round=>
      obtain⟨k,pl,out,t,hk,rfl,rfl,ho,HC,Hd,hol,hpl,Hok,hBb⟩:=hrel;obtain⟨ov,oc,hv⟩:=ho.forms;subst hv;have Ho:=Za ho;clear ho;obtain⟨m,hm⟩:∃m,m=out.length:=⟨_,rfl⟩;rw[←hm]at Ho hol⊢;have Hm:=Za hm;have Hol:=Za hol;clear hm hol;cases t with
      |nil=>
       have hkk:¬k<sT.size:=by intro hkk;have:=congrArg List.length Hd.out;rw[List.length_drop,show sT.data.toList.length=sT.size from Array.length_toList]at this;simp[enc]at this;omega
       have hI:¬(k:Int)<(sT.size:Int):=by omega
       have hx:(⟨out.toArray⟩:ByteArray)=cutB sT nx i64max:=by apply Zda;rw[HTT.out,←HC.out];show out.toArray.toList=_;rw[List.toList_toArray];simp[cutR,enc]
       have hcv:=(OwB.rd Ho.out).str m oc Hm.out;rw[hx]at hcv;have hB5:=Zb hBw hBb;have hbs:=hB5.size;have HJ2:=HJ;clear hx HC Hd Ho HTT hBw hBb hkk;generalize cutB sT nx i64max=cb at*;go_wp2_with fail;refine(Za0 cb _).mono ?_;rintro e w5 ⟨v,rfl,ho,hb5⟩;have Ho5:=Za (ho.mono hbs);have hB6:=Zb hB5 hb5;clear ho hb5 hB5;go_wp2;go_ret2;exact⟨v,by rw[HJ2.out.2];rfl,by rw[HJ2.out.1];exact Ho5.out,hB6⟩
      |cons r t=>
       have hok:ZbL r=true:=Hok.out r (by simp);have Hok2:Hid (OkR t):=fun r hr=>Hok.out r (by simp[hr]);have hd1:sT.data.toList.drop k=Lib.encodeRune (r:Int)++enc t:=Hd.out;obtain⟨hkk,hle,hd2⟩:=ZdB hd1 (ZbT _);have hnx:=ZdS hok hd1;have hz:=Zan (r:Int);have Hdr:=Za hd1;obtain⟨z,hzz⟩:∃z,z=(Lib.encodeRune (r:Int)).length:=⟨_,rfl⟩;rw[←hzz]at hle hd2 hnx hz;have Hz:=Za hzz;have hI:(k:Int)<(sT.size:Int):=by omega
       have hN:=ZcV sT k hkk (Nat.le_trans HszT.out (by decide)) wr;rw[hnx]at hN;have HNx:=Za hN;have Hd2:=Za hd2;have HC2:Hid (out++enc ((if nx≤(pl:Int)+1∧(pl:Int)+1<i64max then [r]else [])++cutR nx i64max ((pl+1:Nat):Int) t)=TT):=by show _=_;rw[←HC.out];rfl
       have hsz:=HszT.out;have n0c:=Zc hBb Hc0.out;skip;clear hok hd1 hnx hN hd2 hzz HC Hd Hok hkk;go_wp2_with fail;refine HNx.out.mono ?_;rintro e w4 ⟨rfl,rfl⟩;have hB:=Below.refl wr.heap.size wr;obtain⟨W0,rfl⟩:∃W0,W0=wr:=⟨_,rfl⟩;by_cases hg:nx≤(pl:Int)+1
       ·have hcond:nx≤(pl:Int)+1∧(pl:Int)+1<i64max:=by unfold i64max;omega
        go_wp2_with fail;refine wp_region_facts (R:=RB W0.heap.size (⟨#[]⟩) (0)) [eqF _ _ _ 72 (.int .i64 ((pl:Int)+1)),eqF _ _ _ 73 (.slice (some ⟨nb,0,none⟩) 1 ncv),eqF _ _ _ 74 (.pointer (some ⟨nb,0,none⟩)),eqF _ _ _ 75 (.int .i64 nx),eqF _ _ _ 76 (.bool true),eqF _ _ _ 77 (.bool true),eqF _ _ _ 78 (.slice (some ⟨nb,0,none⟩) 1 ncv),eqF _ _ _ 79 (.int .i64 1),eqF _ _ _ 80 (.bool true),eqF _ _ _ 81 (.bool true),eqF _ _ _ 82 undef,eqF _ _ _ 83 undef,eqF _ _ _ 84 undef,eqF _ _ _ 85 undef,eqF _ _ _ 86 undef,eqF _ _ _ 87 undef,eqF _ _ _ 88 undef,eqF _ _ _ 89 undef,eqF _ _ _ 90 undef,eqF _ _ _ 91 undef,eqF _ _ _ 92 undef,eqF _ _ _ 93 undef,eqF _ _ _ 94 undef,eqF _ _ _ 95 undef,eqF _ _ _ 96 undef,eqF _ _ _ 97 undef,eqF _ _ _ 98 undef,eqF _ _ _ 99 undef,eqF _ _ _ 100 (.bool true),eqF _ _ _ 101 (.bool true)] (by kernel_rfl) (by kernel_rfl) (by kernel_rfl) (RB.refl (Nat.le_refl _)) (fun _ h=>h.again) (fun _ _ _ h k=>h.trans k) ?_ ?_
        ·refine stepsU_cons rfl ?_ (stepsU_cons rfl ?_ (stepsU_cons rfl ?_ (stepsU_cons rfl ?_ (stepsU_cons rfl ?_ (stepsU_cons rfl ?_ (stepsU_cons rfl ?_ (stepsU_cons rfl ?_ (stepsU_cons rfl ?_ (stepsU_cons rfl ?_ (stepsU_cons rfl ?_ (stepsU_cons rfl ?_ (stepsU_cons rfl ?_ (stepsU_cons rfl ?_ (stepsU_cons rfl ?_ (stepsU_cons rfl ?_ (stepsU_cons rfl ?_ (stepsU_cons rfl ?_ (stepsU_cons rfl ?_ (stepsU_cons rfl ?_ (stepsU_cons rfl ?_ (stepsU_cons rfl ?_ (stepsU_cons rfl ?_ (stepsU_cons rfl ?_ (stepsU_cons rfl ?_ (stepsU_cons rfl ?_ (stepsU_cons rfl ?_ (stepsU_cons rfl ?_ (stepsU_cons rfl ?_ (stepsU_cons rfl ?_ (stepsU_nil))))))))))))))))))))))))))))))
         ·refine stepU_plain rfl fun u wr hR hK hD=>?_;exact Zd _ _ rfl (hK 11 rfl) ⟨hR.again,rfl⟩
         ·refine stepU_plain rfl fun u wr hR hK hD=>?_;exact Zd _ _ rfl (hK 6 rfl) ⟨hR.again,rfl⟩
         ·refine stepU_plain rfl fun u wr hR hK hD=>?_;have z:u 73=_:=(hD 1 rfl);exact Ze _ (by unfold execOp;simp[go_sem,evU,z,hj0]) ⟨hR.again,rfl⟩
         ·refine stepU_plain rfl fun u wr hR hK hD=>?_;have z:u 74=_:=(hD 2 rfl);have z2:=Zc hR.be n0c;exact Ze _ (by unfold execOp;simp[go_sem,evU,z,z2]) ⟨hR.again,rfl⟩
         ·refine stepU_plain rfl fun u wr hR hK hD=>?_;have z72:u 72=_:=(hD 0 rfl);have z75:u 75=_:=(hD 3 rfl);exact Ze _ (by unfold execOp;simp[go_sem,evU,z72,z75,hg]) ⟨hR.again,rfl⟩
         ·refine stepU_plain rfl fun u wr hR hK hD=>?_;exact Zd _ _ rfl (hD 4 rfl) ⟨hR.again,rfl⟩
         ·refine stepU_yes 5 77 true rfl rfl (fun u wr hK hD=>hD 5 rfl) fun u wr hR hK hD=>?_;exact Zd _ _ rfl (hK 6 rfl) ⟨hR.again,rfl⟩
         ·refine stepU_yes 5 77 true rfl rfl (fun u wr hK hD=>hD 5 rfl) fun u wr hR hK hD=>?_;have z78:u 78=_:=(hD 6 rfl);exact Ze _ (by unfold execOp;simp[go_sem,evU,z78]) ⟨hR.again,rfl⟩
         ·refine stepU_yes 5 77 true rfl rfl (fun u wr hK hD=>hD 5 rfl) fun u wr hR hK hD=>?_;have z79:u 79=_:=(hD 7 rfl);exact Ze _ (by unfold execOp;simp[go_sem,evU,z79]) ⟨hR.again,rfl⟩
         ·refine stepU_yes 5 77 true rfl rfl (fun u wr hK hD=>hD 5 rfl) fun u wr hR hK hD=>?_;exact Zd _ _ rfl (hD 8 rfl) ⟨hR.again,rfl⟩
         ·exact stepU_no 9 81 false true rfl rfl rfl (fun u wr hK hD=>(hD 9 rfl)) (fun u wr=>rfl)
         ·exact stepU_no 9 81 false true rfl rfl rfl (fun u wr hK hD=>(hD 9 rfl)) (fun u wr=>rfl)
         ·exact stepU_no 9 81 false true rfl rfl rfl (fun u wr hK hD=>(hD 9 rfl)) (fun u wr=>rfl)
         ·exact stepU_no 9 81 false true rfl rfl rfl (fun u wr hK hD=>(hD 9 rfl)) (fun u wr=>rfl)
         ·exact stepU_no 9 81 false true rfl rfl rfl (fun u wr hK hD=>(hD 9 rfl)) (fun u wr=>rfl)
         ·exact Zh 14 86 rfl rfl (fun u wr hK hD=>(hD 14 rfl)) (fun u wr=>rfl)
         ·exact Zh 14 86 rfl rfl (fun u wr hK hD=>(hD 14 rfl)) (fun u wr=>rfl)
         ·exact Zh 14 86 rfl rfl (fun u wr hK hD=>(hD 14 rfl)) (fun u wr=>rfl)
         ·exact Zh 14 86 rfl rfl (fun u wr hK hD=>(hD 14 rfl)) (fun u wr=>rfl)
         ·exact Zh 14 86 rfl rfl (fun u wr hK hD=>(hD 14 rfl)) (fun u wr=>rfl)
         ·exact Zh 14 86 rfl rfl (fun u wr hK hD=>(hD 14 rfl)) (fun u wr=>rfl)
         ·exact Zh 14 86 rfl rfl (fun u wr hK hD=>(hD 14 rfl)) (fun u wr=>rfl)
         ·exact Zh 14 86 rfl rfl (fun u wr hK hD=>(hD 14 rfl)) (fun u wr=>rfl)
         ·exact Zh 14 86 rfl rfl (fun u wr hK hD=>(hD 14 rfl)) (fun u wr=>rfl)
         ·exact Zh 14 86 rfl rfl (fun u wr hK hD=>(hD 14 rfl)) (fun u wr=>rfl)
         ·exact Zh 14 86 rfl rfl (fun u wr hK hD=>(hD 14 rfl)) (fun u wr=>rfl)
         ·exact Zh 14 86 rfl rfl (fun u wr hK hD=>(hD 14 rfl)) (fun u wr=>rfl)
         ·exact stepU_no 9 81 false true rfl rfl rfl (fun u wr hK hD=>(hD 9 rfl)) (fun u wr=>rfl)
         ·refine stepU_yes 5 77 true rfl rfl (fun u wr hK hD=>hD 5 rfl) fun u wr hR hK hD=>?_;exact Zn _ _ _ _ _ rfl (hD 9 rfl) (by first|rfl|exact rfl|exact(hD 27 rfl)) ⟨hR.again,rfl⟩
         ·refine stepU_plain rfl fun u wr hR hK hD=>?_;exact Zn _ _ _ _ _ rfl (hD 5 rfl) (by first|rfl|exact(hD 28 rfl)|exact rfl) ⟨hR.again,rfl⟩
        intro u w5 hR hF;have e72:u 72= .int .i64 ((pl:Int)+1):=hF 0 (by decide);have e73:u 73= .slice (some ⟨nb,0,none⟩) 1 ncv:=hF 1 (by decide);have e74:u 74= .pointer (some ⟨nb,0,none⟩):=hF 2 (by decide);have e75:u 75= .int .i64 nx:=hF 3 (by decide);have e76:u 76= .bool true:=hF 4 (by decide);have e77:u 77= .bool true:=hF 5 (by decide);have e78:u 78= .slice (some ⟨nb,0,none⟩) 1 ncv:=hF 6 (by decide);have e79:u 79= .int .i64 1:=hF 7 (by decide);have e80:u 80= .bool true:=hF 8 (by decide);have e81:u 81= .bool true:=hF 9 (by decide);have e82:u 82=undef:=hF 10 (by decide);have e83:u 83=undef:=hF 11 (by decide);have e84:u 84=undef:=hF 12 (by decide);have e85:u 85=undef:=hF 13 (by decide);have e86:u 86=undef:=hF 14 (by decide);have e87:u 87=undef:=hF 15 (by decide);have e88:u 88=undef:=hF 16 (by decide);have e89:u 89=undef:=hF 17 (by decide);have e90:u 90=undef:=hF 18 (by decide);have e91:u 91=undef:=hF 19 (by decide);have e92:u 92=undef:=hF 20 (by decide);have e93:u 93=undef:=hF 21 (by decide);have e94:u 94=undef:=hF 22 (by decide);have e95:u 95=undef:=hF 23 (by decide);have e96:u 96=undef:=hF 24 (by decide);have e97:u 97=undef:=hF 25 (by decide);have e98:u 98=undef:=hF 26 (by decide);have e99:u 99=undef:=hF 27 (by decide);have e100:u 100= .bool true:=hF 28 (by decide);have e101:u 101= .bool true:=hF 29 (by decide);simp only[ZaW,Act.put,List.setIfInBounds_toArray,List.set_cons_succ,List.set_cons_zero,e72,e73,e74,e75,e76,e77,e78,e79,e80,e81,e82,e83,e84,e85,e86,e87,e88,e89,e90,e91,e92,e93,e94,e95,e96,e97,e98,e99,e100,e101];clear hF e72 e73 e74 e75 e76 e77 e78 e79 e80 e81 e82 e83 e84 e85 e86 e87 e88 e89 e90 e91 e92 e93 e94 e95 e96 e97 e98 e99 e100 e101;have hB2:Below W0.heap.size W0 w5:=Zah hB.drew hB.size hR.be;have hb_w5:Below W0.heap.size W0 w5:=⟨hR.be.os,hR.be.tape,hR.be.output,hR.be.size,hR.be.block⟩;clear hB hR;have hB:=hB2;clear hB2;have HC3:Hid ((out++enc [r])++enc (cutR nx i64max ((pl+1:Nat):Int) t)=TT):=by show _=_;rw[←HC2.out,if_pos hcond,ZbA];simp
        have hsx:(sT.extract k (k+z)).data.toList=enc [r]:=by have:=Ze9 (s:=sT) (a:=k) (g:=[r]) (t:=enc t) (by rw[Zbb];exact Hdr.out);rw[Zbb,←Hz.out]at this;rw[this,ZcM]
        have hss:(sT.extract k (k+z)).size≤100000:=by rw[ByteArray.size_extract];omega
        clear HC2 hcond;have hB3:=Zb hBb hb_w5;have HO3:=Za (OwB.keep Ho.out hb_w5);clear hB hb_w5 n0c Ho hBb;have hbs:=hB3.size;have Htk:Hid (List.take z (List.drop k sT.data.toList)=enc [r]):=by show _=_;rw[Hdr.out,Zbb,Hz.out,List.take_left]
        have Hss:=Za hss;clear hsx hss;go_wp2_with (refine Za5 rfl _ _ rfl W1.heap.size (.slice ov m oc) out (sT.extract k (k+z)) rfl rfl HO3.out ?s1 hbs ?_)
        case s1=>have:=Hm.out;have:=Hol.out;have:=Hss.out;omega
        intro v3 W3 own3 hg3;have hB4:Below W1.heap.size W1 W3:=hB3.grown hg3 hbs fun b hb=>(OwB.lt HO3.out b hb).1;have hown4:OwB W3 W1.heap.size v3 (out++enc [r]):=by rw[←Htk.out];simpa using own3
        have hl4:(out++enc [r]).length≤k+z:=by
         have h2:(enc [r]).length=z:=by rw[Zbb];exact Hz.out.symm
         rw[List.length_append,h2];have:=Hol.out;have:=Hm.out;omega
        have Hown4:=Za hown4;clear own3 hg3 hB3 HO3 hown4 hbs;go_wp2;go_roundw
        case rel=>exact⟨k+z,pl+1,out++enc [r],t,by omega,by simp,by simp,Hown4.out,HC3,Hd2,hl4,by omega,Hok2,hB4⟩
        case measure=>simp[intOf];omega
       ·have hcond:¬(nx≤(pl:Int)+1∧(pl:Int)+1<i64max):=by omega
        go_wp2_with fail;refine wp_region_facts (R:=RB W0.heap.size (⟨#[]⟩) (0)) [eqF _ _ _ 72 (.int .i64 ((pl:Int)+1)),eqF _ _ _ 73 (.slice (some ⟨nb,0,none⟩) 1 ncv),eqF _ _ _ 74 (.pointer (some ⟨nb,0,none⟩)),eqF _ _ _ 75 (.int .i64 nx),eqF _ _ _ 76 (.bool false),eqF _ _ _ 77 (.bool false),eqF _ _ _ 78 undef,eqF _ _ _ 79 undef,eqF _ _ _ 80 undef,eqF _ _ _ 81 undef,eqF _ _ _ 82 undef,eqF _ _ _ 83 undef,eqF _ _ _ 84 undef,eqF _ _ _ 85 undef,eqF _ _ _ 86 undef,eqF _ _ _ 87 undef,eqF _ _ _ 88 undef,eqF _ _ _ 89 undef,eqF _ _ _ 90 undef,eqF _ _ _ 91 undef,eqF _ _ _ 92 undef,eqF _ _ _ 93 undef,eqF _ _ _ 94 undef,eqF _ _ _ 95 undef,eqF _ _ _ 96 undef,eqF _ _ _ 97 undef,eqF _ _ _ 98 undef,eqF _ _ _ 99 undef,eqF _ _ _ 100 undef,eqF _ _ _ 101 (.bool false)] (by kernel_rfl) (by kernel_rfl) (by kernel_rfl) (RB.refl (Nat.le_refl _)) (fun _ h=>h.again) (fun _ _ _ h k=>h.trans k) ?_ ?_
        ·refine stepsU_cons rfl ?_ (stepsU_cons rfl ?_ (stepsU_cons rfl ?_ (stepsU_cons rfl ?_ (stepsU_cons rfl ?_ (stepsU_cons rfl ?_ (stepsU_cons rfl ?_ (stepsU_cons rfl ?_ (stepsU_cons rfl ?_ (stepsU_cons rfl ?_ (stepsU_cons rfl ?_ (stepsU_cons rfl ?_ (stepsU_cons rfl ?_ (stepsU_cons rfl ?_ (stepsU_cons rfl ?_ (stepsU_cons rfl ?_ (stepsU_cons rfl ?_ (stepsU_cons rfl ?_ (stepsU_cons rfl ?_ (stepsU_cons rfl ?_ (stepsU_cons rfl ?_ (stepsU_cons rfl ?_ (stepsU_cons rfl ?_ (stepsU_cons rfl ?_ (stepsU_cons rfl ?_ (stepsU_cons rfl ?_ (stepsU_cons rfl ?_ (stepsU_cons rfl ?_ (stepsU_cons rfl ?_ (stepsU_cons rfl ?_ (stepsU_nil))))))))))))))))))))))))))))))
         ·refine stepU_plain rfl fun u wr hR hK hD=>?_;exact Zd _ _ rfl (hK 11 rfl) ⟨hR.again,rfl⟩
         ·refine stepU_plain rfl fun u wr hR hK hD=>?_;exact Zd _ _ rfl (hK 6 rfl) ⟨hR.again,rfl⟩
         ·refine stepU_plain rfl fun u wr hR hK hD=>?_;have z:u 73=_:=(hD 1 rfl);exact Ze _ (by unfold execOp;simp[go_sem,evU,z,hj0]) ⟨hR.again,rfl⟩
         ·refine stepU_plain rfl fun u wr hR hK hD=>?_;have z:u 74=_:=(hD 2 rfl);have z2:=Zc hR.be n0c;exact Ze _ (by unfold execOp;simp[go_sem,evU,z,z2]) ⟨hR.again,rfl⟩
         ·refine stepU_plain rfl fun u wr hR hK hD=>?_;have z72:u 72=_:=(hD 0 rfl);have z75:u 75=_:=(hD 3 rfl);exact Ze _ (by unfold execOp;simp[go_sem,evU,z72,z75,hg]) ⟨hR.again,rfl⟩
         ·refine stepU_plain rfl fun u wr hR hK hD=>?_;exact Zd _ _ rfl (hD 4 rfl) ⟨hR.again,rfl⟩
         ·exact stepU_no 5 77 true false rfl rfl rfl (fun u wr hK hD=>(hD 5 rfl)) (fun u wr=>rfl)
         ·exact stepU_no 5 77 true false rfl rfl rfl (fun u wr hK hD=>(hD 5 rfl)) (fun u wr=>rfl)
         ·exact stepU_no 5 77 true false rfl rfl rfl (fun u wr hK hD=>(hD 5 rfl)) (fun u wr=>rfl)
         ·exact stepU_no 5 77 true false rfl rfl rfl (fun u wr hK hD=>(hD 5 rfl)) (fun u wr=>rfl)
         ·exact Zh 9 81 rfl rfl (fun u wr hK hD=>(hD 9 rfl)) (fun u wr=>rfl)
         ·exact Zh 9 81 rfl rfl (fun u wr hK hD=>(hD 9 rfl)) (fun u wr=>rfl)
         ·exact Zh 9 81 rfl rfl (fun u wr hK hD=>(hD 9 rfl)) (fun u wr=>rfl)
         ·exact Zh 9 81 rfl rfl (fun u wr hK hD=>(hD 9 rfl)) (fun u wr=>rfl)
         ·exact Zh 9 81 rfl rfl (fun u wr hK hD=>(hD 9 rfl)) (fun u wr=>rfl)
         ·exact Zh 14 86 rfl rfl (fun u wr hK hD=>(hD 14 rfl)) (fun u wr=>rfl)
         ·exact Zh 14 86 rfl rfl (fun u wr hK hD=>(hD 14 rfl)) (fun u wr=>rfl)
         ·exact Zh 14 86 rfl rfl (fun u wr hK hD=>(hD 14 rfl)) (fun u wr=>rfl)
         ·exact Zh 14 86 rfl rfl (fun u wr hK hD=>(hD 14 rfl)) (fun u wr=>rfl)
         ·exact Zh 14 86 rfl rfl (fun u wr hK hD=>(hD 14 rfl)) (fun u wr=>rfl)
         ·exact Zh 14 86 rfl rfl (fun u wr hK hD=>(hD 14 rfl)) (fun u wr=>rfl)
         ·exact Zh 14 86 rfl rfl (fun u wr hK hD=>(hD 14 rfl)) (fun u wr=>rfl)
         ·exact Zh 14 86 rfl rfl (fun u wr hK hD=>(hD 14 rfl)) (fun u wr=>rfl)
         ·exact Zh 14 86 rfl rfl (fun u wr hK hD=>(hD 14 rfl)) (fun u wr=>rfl)
         ·exact Zh 14 86 rfl rfl (fun u wr hK hD=>(hD 14 rfl)) (fun u wr=>rfl)
         ·exact Zh 14 86 rfl rfl (fun u wr hK hD=>(hD 14 rfl)) (fun u wr=>rfl)
         ·exact Zh 14 86 rfl rfl (fun u wr hK hD=>(hD 14 rfl)) (fun u wr=>rfl)
         ·exact Zh 9 81 rfl rfl (fun u wr hK hD=>(hD 9 rfl)) (fun u wr=>rfl)
         ·exact stepU_no 5 77 true false rfl rfl rfl (fun u wr hK hD=>(hD 5 rfl)) (fun u wr=>rfl)
         ·refine stepU_plain rfl fun u wr hR hK hD=>?_;exact Zn _ _ _ _ _ rfl (hD 5 rfl) (by first|rfl|exact(hD 28 rfl)|exact rfl) ⟨hR.again,rfl⟩
        intro u w5 hR hF;have e72:u 72= .int .i64 ((pl:Int)+1):=hF 0 (by decide);have e73:u 73= .slice (some ⟨nb,0,none⟩) 1 ncv:=hF 1 (by decide);have e74:u 74= .pointer (some ⟨nb,0,none⟩):=hF 2 (by decide);have e75:u 75= .int .i64 nx:=hF 3 (by decide);have e76:u 76= .bool false:=hF 4 (by decide);have e77:u 77= .bool false:=hF 5 (by decide);have e78:u 78=undef:=hF 6 (by decide);have e79:u 79=undef:=hF 7 (by decide);have e80:u 80=undef:=hF 8 (by decide);have e81:u 81=undef:=hF 9 (by decide);have e82:u 82=undef:=hF 10 (by decide);have e83:u 83=undef:=hF 11 (by decide);have e84:u 84=undef:=hF 12 (by decide);have e85:u 85=undef:=hF 13 (by decide);have e86:u 86=undef:=hF 14 (by decide);have e87:u 87=undef:=hF 15 (by decide);have e88:u 88=undef:=hF 16 (by decide);have e89:u 89=undef:=hF 17 (by decide);have e90:u 90=undef:=hF 18 (by decide);have e91:u 91=undef:=hF 19 (by decide);have e92:u 92=undef:=hF 20 (by decide);have e93:u 93=undef:=hF 21 (by decide);have e94:u 94=undef:=hF 22 (by decide);have e95:u 95=undef:=hF 23 (by decide);have e96:u 96=undef:=hF 24 (by decide);have e97:u 97=undef:=hF 25 (by decide);have e98:u 98=undef:=hF 26 (by decide);have e99:u 99=undef:=hF 27 (by decide);have e100:u 100=undef:=hF 28 (by decide);have e101:u 101= .bool false:=hF 29 (by decide);simp only[ZaW,Act.put,List.setIfInBounds_toArray,List.set_cons_succ,List.set_cons_zero,e72,e73,e74,e75,e76,e77,e78,e79,e80,e81,e82,e83,e84,e85,e86,e87,e88,e89,e90,e91,e92,e93,e94,e95,e96,e97,e98,e99,e100,e101];clear hF e72 e73 e74 e75 e76 e77 e78 e79 e80 e81 e82 e83 e84 e85 e86 e87 e88 e89 e90 e91 e92 e93 e94 e95 e96 e97 e98 e99 e100 e101;have hB2:Below W0.heap.size W0 w5:=Zah hB.drew hB.size hR.be;have hb_w5:Below W0.heap.size W0 w5:=⟨hR.be.os,hR.be.tape,hR.be.output,hR.be.size,hR.be.block⟩;clear hB hR;have hB:=hB2;clear hB2;have HC3:Hid (out++enc (cutR nx i64max ((pl+1:Nat):Int) t)=TT):=by show _=_;rw[←HC2.out,if_neg hcond];simp
        clear HC2 hcond;have hB3:=Zb hBb hb_w5;have HO3:=Za (OwB.keep Ho.out hb_w5);clear hB hb_w5 n0c Ho hBb;go_wp2;go_roundw
        case rel=>exact⟨k+z,pl+1,out,t,by omega,by simp,by simp,HO3.out,HC3,Hd2,by have:=Hol.out;have:=Hm.out;omega,by omega,Hok2,hB3⟩
        case measure=>simp[intOf];omega
 ·have hz1:(s2 != 0)=true:=by simpa using hz
  obtain⟨e1,e2⟩:=Hss2.out hz;have HE:Hid (V1=[]∧V2=s2):=⟨e1,e2⟩;clear hz e1 e2;go_enter Tryz.func84,Tryz.ntmps84;go_wp2_with fail;refine Hst.out.mono ?_;rintro e w1 ⟨rfl,hb1⟩;clear h1;go_wp2;go_ret2;exact⟨.slice none 0 0,by rw[HE.out.2];rfl,by rw[HE.out.1];exact OwI.nil _ _,hb1⟩
end Go.Proofs.YtnnfhojhbbcbmaaGreatDoor
