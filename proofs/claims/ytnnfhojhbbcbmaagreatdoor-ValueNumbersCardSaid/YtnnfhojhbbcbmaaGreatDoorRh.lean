/- The reference: distinct. -/
import Derived.Test.YtnnfhojhbbcbmaaGreatDoorC19
import Derived.Test.YtnnfhojhbbcbmaaGreatDoorC38
import Derived.Test.YtnnfhojhbbcbmaaGreatDoorC27
namespace Go.Proofs.YtnnfhojhbbcbmaaGreatDoor
open Go.RowKit
theorem ZiU(x y:It):eqI x y=eqI y x:=by rw[Bool.eq_iff_iff,ZhI,ZhI];exact⟨Eq.symm,Eq.symm⟩
theorem ZiV {α:Type}(f:α→Bool)(l:List α)(j:Nat)(y:α)(h:l[j]? =some y):(l.take (j+1)).any f=((l.take j).any f||f y):=by rw[List.take_add_one,h];simp
set_option maxRecDepth 100000 in
set_option maxHeartbeats 4000000 in
theorem Zgw(p:Option Addr)(n c:Nat)(l:List It)(w:World)(hr:RdI w p l)(hn:n=l.length)(hle:n≤1000000):
  Calls Tryz.prog 82 #[.slice p n c] w fun e w'=>∃v,e= .returned v∧OwI w' w.heap.size v (ZaT l)∧Below w.heap.size w w':=by
 obtain⟨i0,hi,hz0,hz1,hz2⟩:=info_parts ZaD;have Hi:Hid (Tryz.prog.info? 24=some i0∧i0.zero=some (.agg #[.int .u8 0,.int .i64 0,.string ⟨#[]⟩,.int .i64 0])∧i0.size=4∧i0.bytes=40):=⟨hi,hz0,hz1,hz2⟩;have Hr:=Za hr;have Hn:=Za hn;clear hr hn hi hz0 hz1 hz2;go_enter Tryz.func82,Tryz.ntmps82;go_wp2_with fail;go_loopw[3,4] (fun v iv W=>∃(k:Nat) (out:List It),k≤n∧iv= .int .i64 k∧OwI W w.heap.size v out∧Hid (Zbh out (l.drop k)=ZaT l)∧Below w.heap.size w W∧out.length≤k) (fun _ iv _=>n-(intOf iv).toNat)
 case atStart=>exact⟨0,[],Nat.zero_le _,rfl,OwI.nil _ _,Za rfl,Below.refl _ _,Nat.le_refl _⟩
 case round=>
  obtain⟨k,out,hk,rfl,ho,HD,hB,hol⟩:=hrel;obtain⟨av,cv,hv⟩:=Zl ho;subst hv;by_cases hlt:k<n
  ·have hI:(k:Int)<(n:Int):=by omega
   obtain⟨x,hx⟩:∃x,l[k]? =some x:=⟨_,List.getElem?_eq_getElem (by have:=Hn.out;omega)⟩;obtain⟨b1,off1,e1,c0,c1,c2,c3⟩:=(Hr.out.keep hB).at k x hx;subst e1;have hix:=Zr b1 off1 n c k hlt;have HD2:Hid (Zbh (ZhJ out (Zc8 x)) (l.drop (k+1))=ZaT l):=by show _=_;rw[←HD.out,ZdC l k x hx];rfl
   clear hx HD;obtain⟨xk,xa,xt,xd⟩:=x;dsimp only at c0 c1 c2 c3;have Ho0:=Za ho;clear ho;obtain⟨m,hm⟩:∃m,m=out.length:=⟨_,rfl⟩;rw[←hm]at Ho0 hol⊢;have Hm:=Za hm;clear hm;by_cases h1:xk=1
   ·subst h1;obtain⟨zk,hzk⟩:∃z:Nat,z=3:=⟨_,rfl⟩;obtain⟨za,hza⟩:∃z:Int,z=0:=⟨_,rfl⟩;obtain⟨zt,hzt⟩:∃z:ByteArray,z=xt:=⟨_,rfl⟩;obtain⟨zd,hzd⟩:∃z:Int,z=0:=⟨_,rfl⟩;have HD2:Hid (Zbh (ZhJ out ⟨zk,za,zt,zd⟩) (l.drop (k+1))=ZaT l):=by rw[hzk,hza,hzt,hzd];exact HD2.out
    have hBX:=hB.alloc hB.size (.cells #[.int .u8 3,.int .i64 0,.string xt,.int .i64 0] 24);have HoX:=Za (OwI.keep Ho0.out ((Below.refl _ _).alloc (Nat.le_refl _) (.cells #[.int .u8 3,.int .i64 0,.string xt,.int .i64 0] 24)));have hbk:Blk (wr.alloc (.cells #[.int .u8 3,.int .i64 0,.string xt,.int .i64 0] 24)) wr.heap.size 24 #[.int .u8 (zk:Int),.int .i64 za,.string zt,.int .i64 zd]:=by rw[hzk,hza,hzt,hzd];exact Blk.new wr 24 _
    clear hzk hza hzt hzd;obtain⟨WX,hWX⟩:∃W,W=wr.alloc (.cells #[.int .u8 3,.int .i64 0,.string xt,.int .i64 0] 24):=⟨_,rfl⟩;have hB0:Below w.heap.size w WX:=by rw[hWX];exact hBX
    have Ho:Hid (OwI WX w.heap.size (.slice av m cv) out):=by rw[hWX];exact HoX
    obtain⟨xb,hxb⟩:∃x,x=wr.heap.size:=⟨_,rfl⟩;rw[←hWX,←hxb]at hbk;have x0:=hbk.cell 0;have x1:=hbk.cell 1;have x2:=hbk.cell 2;have x3:=hbk.cell 3;simp only[List.getElem?_toArray,List.getElem?_cons_zero,List.getElem?_cons_succ]at x0 x1 x2 x3;have Hx0:=Za x0;have Hx1:=Za x1;have Hx2:=Za x2;have Hx3:=Za x3;clear hbk x0 x1 x2 x3;go_wp2_with fail;rw[←hWX,←hxb];clear hWX hxb hBX HoX Ho0 hB c0 c1 c2 c3 hix;have hB:=hB0;have Hox:=Za (OwI.rd Ho.out);clear hB0;go_loopw[6,7] (fun fv jv W=>∃(j:Nat) (f:Bool),j≤m∧jv= .int .i64 j∧fv= .bool f∧Hid (f=(out.take j).any fun y=>eqI ⟨zk,za,zt,zd⟩ y)∧Below WX.heap.size WX W) (fun _ jv _=>m-(intOf jv).toNat)
    case atStart=>exact⟨0,false,Nat.zero_le _,rfl,rfl,Za rfl,Below.refl _ _⟩
    case round=>
     obtain⟨j,f,hj,rfl,rfl,Hf,hBw⟩:=hrel;by_cases hjm:j<m
     ·have hJ:(j:Int)<(m:Int):=by omega
      obtain⟨y,hy⟩:∃y,out[j]? =some y:=⟨_,List.getElem?_eq_getElem (by have:=Hm.out;omega)⟩;have Hnx:=Za (ZiV (fun y=>eqI ⟨zk,za,zt,zd⟩ y) out j y hy);cases f with
      |true=>
       have Hf2:Hid (true=(out.take (j+1)).any fun y=>eqI ⟨zk,za,zt,zd⟩ y):=by show _=_;rw[Hnx.out,←Hf.out];rfl
       clear Hf Hnx hy;obtain⟨W0,rfl⟩:∃W0,W0=wr:=⟨_,rfl⟩;have hB2:=Below.refl W0.heap.size W0;have hB1:=hB;clear hB;have hB:=hB2;clear hB2;go_wp2_with fail;refine RV.wp_region_facts (R:=RB W0.heap.size (⟨#[]⟩) (0)) [eqF _ _ _ 30 (.bool true),eqF _ _ _ 31 (.bool true),eqF _ _ _ 32 undef,eqF _ _ _ 33 undef,eqF _ _ _ 34 undef,eqF _ _ _ 35 undef,eqF _ _ _ 36 undef,eqF _ _ _ 37 undef,eqF _ _ _ 38 (.bool true),eqF _ _ _ 6 (.bool true)] (by kernel_rfl) (by kernel_rfl) (by kernel_rfl) (RB.refl (Nat.le_refl _)) (fun _ h=>h.again) (fun _ _ _ h k=>h.trans k) ?_ ?_
       ·refine RV.stepsU_cons rfl ?_ (RV.stepsU_cons rfl ?_ (RV.stepsU_cons rfl ?_ (RV.stepsU_cons rfl ?_ (RV.stepsU_cons rfl ?_ (RV.stepsU_cons rfl ?_ (RV.stepsU_cons rfl ?_ (RV.stepsU_cons rfl ?_ (RV.stepsU_cons rfl ?_ (RV.stepsU_cons rfl ?_ (RV.stepsU_nil))))))))))
        ·refine RV.stepU_plain rfl fun u wr hR hK hD=>?_;exact Zd _ _ rfl (hK 6 rfl) ⟨hR.again,rfl⟩
        ·refine RV.stepU_plain rfl fun u wr hR hK hD=>?_;exact Zd _ _ rfl (hD 0 rfl) ⟨hR.again,rfl⟩
        ·exact RV.stepU_no 1 31 false true rfl rfl rfl (fun u wr hK hD=>(hD 1 rfl)) (fun u wr=>rfl)
        ·exact RV.stepU_no 1 31 false true rfl rfl rfl (fun u wr hK hD=>(hD 1 rfl)) (fun u wr=>rfl)
        ·exact RV.stepU_no 1 31 false true rfl rfl rfl (fun u wr hK hD=>(hD 1 rfl)) (fun u wr=>rfl)
        ·exact RV.stepU_no 1 31 false true rfl rfl rfl (fun u wr hK hD=>(hD 1 rfl)) (fun u wr=>rfl)
        ·exact RV.stepU_no 1 31 false true rfl rfl rfl (fun u wr hK hD=>(hD 1 rfl)) (fun u wr=>rfl)
        ·exact RV.stepU_no 1 31 false true rfl rfl rfl (fun u wr hK hD=>(hD 1 rfl)) (fun u wr=>rfl)
        ·refine RV.stepU_plain rfl fun u wr hR hK hD=>?_;exact Zn _ _ _ _ _ rfl (hD 1 rfl) (by first|rfl|exact rfl|exact(hD 7 rfl)) ⟨hR.again,rfl⟩
        ·refine RV.stepU_plain rfl fun u wr hR hK hD=>?_;exact ZA _ _ rfl (hD 8 rfl) ⟨hR.again,rfl⟩
       intro u w5 hR hF;have e30:u 30= .bool true:=hF 0 (by decide);have e31:u 31= .bool true:=hF 1 (by decide);have e32:u 32=undef:=hF 2 (by decide);have e33:u 33=undef:=hF 3 (by decide);have e34:u 34=undef:=hF 4 (by decide);have e35:u 35=undef:=hF 5 (by decide);have e36:u 36=undef:=hF 6 (by decide);have e37:u 37=undef:=hF 7 (by decide);have e38:u 38= .bool true:=hF 8 (by decide);have e6:u 6= .bool true:=hF 9 (by decide);simp only[ZaW,Act.put,List.setIfInBounds_toArray,List.set_cons_succ,List.set_cons_zero,e30,e31,e32,e33,e34,e35,e36,e37,e38,e6];clear hF e30 e31 e32 e33 e34 e35 e36 e37 e38 e6;have hB2:Below W0.heap.size W0 w5:=Zah hB.drew hB.size hR.be;have hb_w5:Below W0.heap.size W0 w5:=⟨hR.be.os,hR.be.tape,hR.be.output,hR.be.size,hR.be.block⟩;clear hB hR;have hB:=hB2;clear hB2;have hBw2:=Zb hBw hb_w5;clear hB hb_w5;go_wp2;go_roundw
       case rel=>exact⟨j+1,true,by omega,by simp,rfl,Hf2,hBw2⟩
       case measure=>simp[intOf];omega
      |false=>
       have Hf2:Hid (eqI ⟨zk,za,zt,zd⟩ y=(out.take (j+1)).any fun y=>eqI ⟨zk,za,zt,zd⟩ y):=by show _=_;rw[Hnx.out,←Hf.out];rfl
       obtain⟨ob,oo,oe,q0,q1,q2,q3⟩:=(RdI.keep Hox.out hBw).at j y hy;subst oe;have hixo:=Zr ob oo m cv j hjm;obtain⟨yk,ya,yt,yd⟩:=y;dsimp only at q0 q1 q2 q3;have x0:=Zc hBw Hx0.out;have x1:=Zc hBw Hx1.out;have x2:=Zc hBw Hx2.out;have x3:=Zc hBw Hx3.out;obtain⟨r,hr⟩:∃r,r=eqI ⟨zk,za,zt,zd⟩ ⟨yk,ya,yt,yd⟩:=⟨_,rfl⟩;rw[←hr]at Hf2;have hr2:eqI ⟨yk,ya,yt,yd⟩ ⟨zk,za,zt,zd⟩=r:=by rw[hr];exact ZiU _ _
       have Hr2:=Za hr2;clear Hf Hnx hy hr hr2;obtain⟨W0,rfl⟩:∃W0,W0=wr:=⟨_,rfl⟩;have hB2:=Below.refl W0.heap.size W0;have hB1:=hB;clear hB;have hB:=hB2;clear hB2;go_wp2_with fail;refine RV.wp_region_facts (R:=RB W0.heap.size (⟨#[]⟩) (0)) [eqF _ _ _ 30 (.bool false),eqF _ _ _ 31 (.bool false),eqF _ _ _ 32 (.slice (some ⟨ob,oo,none⟩) m cv),eqF _ _ _ 33 (.int .i64 j),eqF _ _ _ 34 (.pointer (some ⟨ob,oo+j*4,none⟩)),eqF _ _ _ 35 (.agg #[.int .u8 yk,.int .i64 ya,.string yt,.int .i64 yd]),eqF _ _ _ 36 (.agg #[.int .u8 zk,.int .i64 za,.string zt,.int .i64 zd]),eqF _ _ _ 37 (.bool r),eqF _ _ _ 38 (.bool r),eqF _ _ _ 6 (.bool r)] (by kernel_rfl) (by kernel_rfl) (by kernel_rfl) (RB.refl (Nat.le_refl _)) (fun _ h=>h.again) (fun _ _ _ h k=>h.trans k) ?_ ?_
       ·refine RV.stepsU_cons rfl ?_ (RV.stepsU_cons rfl ?_ (RV.stepsU_cons rfl ?_ (RV.stepsU_cons rfl ?_ (RV.stepsU_cons rfl ?_ (RV.stepsU_cons rfl ?_ (RV.stepsU_cons rfl ?_ (RV.stepsU_cons rfl ?_ (RV.stepsU_cons rfl ?_ (RV.stepsU_cons rfl ?_ (RV.stepsU_nil))))))))))
        ·refine RV.stepU_plain rfl fun u wr hR hK hD=>?_;exact Zd _ _ rfl (hK 6 rfl) ⟨hR.again,rfl⟩
        ·refine RV.stepU_plain rfl fun u wr hR hK hD=>?_;exact Zd _ _ rfl (hD 0 rfl) ⟨hR.again,rfl⟩
        ·refine RV.stepU_yes 1 31 false rfl rfl (fun u wr hK hD=>hD 1 rfl) fun u wr hR hK hD=>?_;exact Zd _ _ rfl (hK 3 rfl) ⟨hR.again,rfl⟩
        ·refine RV.stepU_yes 1 31 false rfl rfl (fun u wr hK hD=>hD 1 rfl) fun u wr hR hK hD=>?_;exact Zd _ _ rfl (hK 7 rfl) ⟨hR.again,rfl⟩
        ·refine RV.stepU_yes 1 31 false rfl rfl (fun u wr hK hD=>hD 1 rfl) fun u wr hR hK hD=>?_;have z:u 32=_:=(hD 2 rfl);have z2:u 33=_:=(hD 3 rfl);exact Ze _ (by unfold execOp;simp[go_sem,evU,z,z2,hixo]) ⟨hR.again,rfl⟩
        ·refine RV.stepU_yes 1 31 false rfl rfl (fun u wr hK hD=>hD 1 rfl) fun u wr hR hK hD=>?_;exact ZB _ ob (oo+j*4) _ _ _ _ rfl (hD 4 rfl) (Zc hR.be q0) (Zc hR.be q1) (Zc hR.be q2) (Zc hR.be q3) ⟨hR.again,rfl⟩
        ·refine RV.stepU_yes 1 31 false rfl rfl (fun u wr hK hD=>hD 1 rfl) fun u wr hR hK hD=>?_;exact ZB _ xb 0 _ _ _ _ rfl (hK 5 rfl) (Zc hR.be x0) (Zc hR.be x1) (Zc hR.be x2) (Zc hR.be x3) ⟨hR.again,rfl⟩
        ·refine RV.stepU_yes 1 31 false rfl rfl (fun u wr hK hD=>hD 1 rfl) fun u wr hR hK hD=>?_;exact ZfF _ _ ⟨yk,ya,yt,yd⟩ ⟨zk,za,zt,zd⟩ rfl (hD 5 rfl) (hD 6 rfl) (by rw[Hr2.out];exact⟨hR.again,rfl⟩)
        ·refine RV.stepU_plain rfl fun u wr hR hK hD=>?_;exact Zn _ _ _ _ _ rfl (hD 1 rfl) (by first|rfl|exact rfl|exact(hD 7 rfl)) ⟨hR.again,rfl⟩
        ·refine RV.stepU_plain rfl fun u wr hR hK hD=>?_;exact ZA _ _ rfl (hD 8 rfl) ⟨hR.again,rfl⟩
       intro u w5 hR hF;have e30:u 30= .bool false:=hF 0 (by decide);have e31:u 31= .bool false:=hF 1 (by decide);have e32:u 32= .slice (some ⟨ob,oo,none⟩) m cv:=hF 2 (by decide);have e33:u 33= .int .i64 j:=hF 3 (by decide);have e34:u 34= .pointer (some ⟨ob,oo+j*4,none⟩):=hF 4 (by decide);have e35:u 35= .agg #[.int .u8 yk,.int .i64 ya,.string yt,.int .i64 yd]:=hF 5 (by decide);have e36:u 36= .agg #[.int .u8 zk,.int .i64 za,.string zt,.int .i64 zd]:=hF 6 (by decide);have e37:u 37= .bool r:=hF 7 (by decide);have e38:u 38= .bool r:=hF 8 (by decide);have e6:u 6= .bool r:=hF 9 (by decide);simp only[ZaW,Act.put,List.setIfInBounds_toArray,List.set_cons_succ,List.set_cons_zero,e30,e31,e32,e33,e34,e35,e36,e37,e38,e6];clear hF e30 e31 e32 e33 e34 e35 e36 e37 e38 e6;have hB2:Below W0.heap.size W0 w5:=Zah hB.drew hB.size hR.be;have hb_w5:Below W0.heap.size W0 w5:=⟨hR.be.os,hR.be.tape,hR.be.output,hR.be.size,hR.be.block⟩;clear hB hR;have hB:=hB2;clear hB2;have hBw2:=Zb hBw hb_w5;clear hB hb_w5 q0 q1 q2 q3 x0 x1 x2 x3 hixo;go_wp2;go_roundw
       case rel=>exact⟨j+1,r,by omega,by simp,rfl,Hf2,hBw2⟩
       case measure=>simp[intOf];omega
     ·have hJ:¬(j:Int)<(m:Int):=by omega
      have hall:out.take j=out:=List.take_of_length_le (by have:=Hm.out;omega);have Hfa:Hid (f=out.any fun y=>eqI ⟨zk,za,zt,zd⟩ y):=by show _=_;rw[Hf.out,hall]
      have hB3:=Zb hB hBw;have Ho4:=Za (OwI.keep Ho.out hBw);have x0:=Zc hBw Hx0.out;have x1:=Zc hBw Hx1.out;have x2:=Zc hBw Hx2.out;have x3:=Zc hBw Hx3.out;clear hall Hf hBw hB Ho Hox;cases f with
      |true=>
       have HD3:Hid (Zbh out (l.drop (k+1))=ZaT l):=by show _=_;rw[←HD2.out,ZdD Hfa.out.symm]
       clear HD2 Hfa;go_wp2;go_roundw
       case rel=>exact⟨k+1,out,by omega,by simp,Ho4.out,HD3,hB3,by have:=Hm.out;omega⟩
       case measure=>simp[intOf];omega
      |false=>
       have HD3:Hid (Zbh (out++[⟨zk,za,zt,zd⟩]) (l.drop (k+1))=ZaT l):=by show _=_;rw[←HD2.out,Zfa Hfa.out.symm]
       have hka:=(Below.refl wr.heap.size wr).alloc (Nat.le_refl _) (.cells #[.int .u8 zk,.int .i64 za,.string zt,.int .i64 zd] 24);have HO2:=Za (OwI.keep Ho4.out hka);have Hrd:=Za (RdI.new wr 24 [⟨zk,za,zt,zd⟩]);have hB4:=hB3.alloc hB3.size (.cells #[.int .u8 zk,.int .i64 za,.string zt,.int .i64 zd] 24);clear HD2 Hfa hka hB3;go_wp2_with (at_builtin;refine Zk rfl _ _ 28 rfl i0 _ 40 1 Tryz.underlying28 Hi.out.1 Hi.out.2.1 Hi.out.2.2.1 Hi.out.2.2.2 rfl (by decide) rfl rfl (Zv [⟨zk,za,zt,zd⟩]) HO2.out Hrd.out (m:=1) rfl ?e2 ?e3 ?e4 ?_)
       case e2=>have:=Hm.out;omega
       case e3=>have:=Hm.out;omega
       case e4=>first|exact hB4.size|simpa using hB4.size
       intro v3 W3 own3 hg3 hv3;have own4:OwI W3 w.heap.size v3 (out++[⟨zk,za,zt,zd⟩]):=by unfold OwI;rw[Zj,List.length_append,List.length_singleton];exact own3
       have hB5:Below w.heap.size w W3:=hB4.grown hg3 hB4.size fun b hb=>(Z5 HO2.out b hb).1;have Hown4:=Za own4;clear own3 hg3 hv3 own4 HO2 Hrd hB4 x0 x1 x2 x3 Ho4;go_wp2;go_roundw
       case rel=>exact⟨k+1,out++[⟨zk,za,zt,zd⟩],by omega,by simp,Hown4.out,HD3,hB5,by have:=Hm.out;simp;omega⟩
       case measure=>simp[intOf];omega
   ·have h1f:((xk:Int)==1)=false:=by simpa using(show ¬(xk:Int)=1 by omega)
    have h1h:¬(xk:Int)=1:=by omega
    have hpl:Zc8 ⟨xk,xa,xt,xd⟩=⟨xk,xa,xt,xd⟩:=if_neg h1;rw[hpl]at HD2;clear hpl h1;obtain⟨zk,hzk⟩:∃z,z=xk:=⟨_,rfl⟩;subst hzk;obtain⟨za,hza⟩:∃z,z=xa:=⟨_,rfl⟩;subst hza;obtain⟨zt,hzt⟩:∃z,z=xt:=⟨_,rfl⟩;subst hzt;obtain⟨zd,hzd⟩:∃z,z=xd:=⟨_,rfl⟩;subst hzd;have hBX:=hB.alloc hB.size (.cells #[.int .u8 zk,.int .i64 za,.string zt,.int .i64 zd] 24);have HoX:=Za (OwI.keep Ho0.out ((Below.refl _ _).alloc (Nat.le_refl _) (.cells #[.int .u8 zk,.int .i64 za,.string zt,.int .i64 zd] 24)));have hbk:=Blk.new wr 24 #[.int .u8 zk,.int .i64 za,.string zt,.int .i64 zd];obtain⟨WX,hWX⟩:∃W,W=wr.alloc (.cells #[.int .u8 zk,.int .i64 za,.string zt,.int .i64 zd] 24):=⟨_,rfl⟩;have hB0:Below w.heap.size w WX:=by rw[hWX];exact hBX
    have Ho:Hid (OwI WX w.heap.size (.slice av m cv) out):=by rw[hWX];exact HoX
    obtain⟨xb,hxb⟩:∃x,x=wr.heap.size:=⟨_,rfl⟩;rw[←hWX,←hxb]at hbk;have x0:=hbk.cell 0;have x1:=hbk.cell 1;have x2:=hbk.cell 2;have x3:=hbk.cell 3;simp only[List.getElem?_toArray,List.getElem?_cons_zero,List.getElem?_cons_succ]at x0 x1 x2 x3;have Hx0:=Za x0;have Hx1:=Za x1;have Hx2:=Za x2;have Hx3:=Za x3;clear hbk x0 x1 x2 x3;go_wp2_with fail;rw[←hWX,←hxb];clear hWX hxb hBX HoX Ho0 hB c0 c1 c2 c3 hix;have hB:=hB0;have Hox:=Za (OwI.rd Ho.out);clear hB0;go_loopw[6,7] (fun fv jv W=>∃(j:Nat) (f:Bool),j≤m∧jv= .int .i64 j∧fv= .bool f∧Hid (f=(out.take j).any fun y=>eqI ⟨zk,za,zt,zd⟩ y)∧Below WX.heap.size WX W) (fun _ jv _=>m-(intOf jv).toNat)
    case atStart=>exact⟨0,false,Nat.zero_le _,rfl,rfl,Za rfl,Below.refl _ _⟩
    case round=>
     obtain⟨j,f,hj,rfl,rfl,Hf,hBw⟩:=hrel;by_cases hjm:j<m
     ·have hJ:(j:Int)<(m:Int):=by omega
      obtain⟨y,hy⟩:∃y,out[j]? =some y:=⟨_,List.getElem?_eq_getElem (by have:=Hm.out;omega)⟩;have Hnx:=Za (ZiV (fun y=>eqI ⟨zk,za,zt,zd⟩ y) out j y hy);cases f with
      |true=>
       have Hf2:Hid (true=(out.take (j+1)).any fun y=>eqI ⟨zk,za,zt,zd⟩ y):=by show _=_;rw[Hnx.out,←Hf.out];rfl
       clear Hf Hnx hy;obtain⟨W0,rfl⟩:∃W0,W0=wr:=⟨_,rfl⟩;have hB2:=Below.refl W0.heap.size W0;have hB1:=hB;clear hB;have hB:=hB2;clear hB2;go_wp2_with fail;refine RV.wp_region_facts (R:=RB W0.heap.size (⟨#[]⟩) (0)) [eqF _ _ _ 30 (.bool true),eqF _ _ _ 31 (.bool true),eqF _ _ _ 32 undef,eqF _ _ _ 33 undef,eqF _ _ _ 34 undef,eqF _ _ _ 35 undef,eqF _ _ _ 36 undef,eqF _ _ _ 37 undef,eqF _ _ _ 38 (.bool true),eqF _ _ _ 6 (.bool true)] (by kernel_rfl) (by kernel_rfl) (by kernel_rfl) (RB.refl (Nat.le_refl _)) (fun _ h=>h.again) (fun _ _ _ h k=>h.trans k) ?_ ?_
       ·refine RV.stepsU_cons rfl ?_ (RV.stepsU_cons rfl ?_ (RV.stepsU_cons rfl ?_ (RV.stepsU_cons rfl ?_ (RV.stepsU_cons rfl ?_ (RV.stepsU_cons rfl ?_ (RV.stepsU_cons rfl ?_ (RV.stepsU_cons rfl ?_ (RV.stepsU_cons rfl ?_ (RV.stepsU_cons rfl ?_ (RV.stepsU_nil))))))))))
        ·refine RV.stepU_plain rfl fun u wr hR hK hD=>?_;exact Zd _ _ rfl (hK 6 rfl) ⟨hR.again,rfl⟩
        ·refine RV.stepU_plain rfl fun u wr hR hK hD=>?_;exact Zd _ _ rfl (hD 0 rfl) ⟨hR.again,rfl⟩
        ·exact RV.stepU_no 1 31 false true rfl rfl rfl (fun u wr hK hD=>(hD 1 rfl)) (fun u wr=>rfl)
        ·exact RV.stepU_no 1 31 false true rfl rfl rfl (fun u wr hK hD=>(hD 1 rfl)) (fun u wr=>rfl)
        ·exact RV.stepU_no 1 31 false true rfl rfl rfl (fun u wr hK hD=>(hD 1 rfl)) (fun u wr=>rfl)
        ·exact RV.stepU_no 1 31 false true rfl rfl rfl (fun u wr hK hD=>(hD 1 rfl)) (fun u wr=>rfl)
        ·exact RV.stepU_no 1 31 false true rfl rfl rfl (fun u wr hK hD=>(hD 1 rfl)) (fun u wr=>rfl)
        ·exact RV.stepU_no 1 31 false true rfl rfl rfl (fun u wr hK hD=>(hD 1 rfl)) (fun u wr=>rfl)
        ·refine RV.stepU_plain rfl fun u wr hR hK hD=>?_;exact Zn _ _ _ _ _ rfl (hD 1 rfl) (by first|rfl|exact rfl|exact(hD 7 rfl)) ⟨hR.again,rfl⟩
        ·refine RV.stepU_plain rfl fun u wr hR hK hD=>?_;exact ZA _ _ rfl (hD 8 rfl) ⟨hR.again,rfl⟩
       intro u w5 hR hF;have e30:u 30= .bool true:=hF 0 (by decide);have e31:u 31= .bool true:=hF 1 (by decide);have e32:u 32=undef:=hF 2 (by decide);have e33:u 33=undef:=hF 3 (by decide);have e34:u 34=undef:=hF 4 (by decide);have e35:u 35=undef:=hF 5 (by decide);have e36:u 36=undef:=hF 6 (by decide);have e37:u 37=undef:=hF 7 (by decide);have e38:u 38= .bool true:=hF 8 (by decide);have e6:u 6= .bool true:=hF 9 (by decide);simp only[ZaW,Act.put,List.setIfInBounds_toArray,List.set_cons_succ,List.set_cons_zero,e30,e31,e32,e33,e34,e35,e36,e37,e38,e6];clear hF e30 e31 e32 e33 e34 e35 e36 e37 e38 e6;have hB2:Below W0.heap.size W0 w5:=Zah hB.drew hB.size hR.be;have hb_w5:Below W0.heap.size W0 w5:=⟨hR.be.os,hR.be.tape,hR.be.output,hR.be.size,hR.be.block⟩;clear hB hR;have hB:=hB2;clear hB2;have hBw2:=Zb hBw hb_w5;clear hB hb_w5;go_wp2;go_roundw
       case rel=>exact⟨j+1,true,by omega,by simp,rfl,Hf2,hBw2⟩
       case measure=>simp[intOf];omega
      |false=>
       have Hf2:Hid (eqI ⟨zk,za,zt,zd⟩ y=(out.take (j+1)).any fun y=>eqI ⟨zk,za,zt,zd⟩ y):=by show _=_;rw[Hnx.out,←Hf.out];rfl
       obtain⟨ob,oo,oe,q0,q1,q2,q3⟩:=(RdI.keep Hox.out hBw).at j y hy;subst oe;have hixo:=Zr ob oo m cv j hjm;obtain⟨yk,ya,yt,yd⟩:=y;dsimp only at q0 q1 q2 q3;have x0:=Zc hBw Hx0.out;have x1:=Zc hBw Hx1.out;have x2:=Zc hBw Hx2.out;have x3:=Zc hBw Hx3.out;obtain⟨r,hr⟩:∃r,r=eqI ⟨zk,za,zt,zd⟩ ⟨yk,ya,yt,yd⟩:=⟨_,rfl⟩;rw[←hr]at Hf2;have hr2:eqI ⟨yk,ya,yt,yd⟩ ⟨zk,za,zt,zd⟩=r:=by rw[hr];exact ZiU _ _
       have Hr2:=Za hr2;clear Hf Hnx hy hr hr2;obtain⟨W0,rfl⟩:∃W0,W0=wr:=⟨_,rfl⟩;have hB2:=Below.refl W0.heap.size W0;have hB1:=hB;clear hB;have hB:=hB2;clear hB2;go_wp2_with fail;refine RV.wp_region_facts (R:=RB W0.heap.size (⟨#[]⟩) (0)) [eqF _ _ _ 30 (.bool false),eqF _ _ _ 31 (.bool false),eqF _ _ _ 32 (.slice (some ⟨ob,oo,none⟩) m cv),eqF _ _ _ 33 (.int .i64 j),eqF _ _ _ 34 (.pointer (some ⟨ob,oo+j*4,none⟩)),eqF _ _ _ 35 (.agg #[.int .u8 yk,.int .i64 ya,.string yt,.int .i64 yd]),eqF _ _ _ 36 (.agg #[.int .u8 zk,.int .i64 za,.string zt,.int .i64 zd]),eqF _ _ _ 37 (.bool r),eqF _ _ _ 38 (.bool r),eqF _ _ _ 6 (.bool r)] (by kernel_rfl) (by kernel_rfl) (by kernel_rfl) (RB.refl (Nat.le_refl _)) (fun _ h=>h.again) (fun _ _ _ h k=>h.trans k) ?_ ?_
       ·refine RV.stepsU_cons rfl ?_ (RV.stepsU_cons rfl ?_ (RV.stepsU_cons rfl ?_ (RV.stepsU_cons rfl ?_ (RV.stepsU_cons rfl ?_ (RV.stepsU_cons rfl ?_ (RV.stepsU_cons rfl ?_ (RV.stepsU_cons rfl ?_ (RV.stepsU_cons rfl ?_ (RV.stepsU_cons rfl ?_ (RV.stepsU_nil))))))))))
        ·refine RV.stepU_plain rfl fun u wr hR hK hD=>?_;exact Zd _ _ rfl (hK 6 rfl) ⟨hR.again,rfl⟩
        ·refine RV.stepU_plain rfl fun u wr hR hK hD=>?_;exact Zd _ _ rfl (hD 0 rfl) ⟨hR.again,rfl⟩
        ·refine RV.stepU_yes 1 31 false rfl rfl (fun u wr hK hD=>hD 1 rfl) fun u wr hR hK hD=>?_;exact Zd _ _ rfl (hK 3 rfl) ⟨hR.again,rfl⟩
        ·refine RV.stepU_yes 1 31 false rfl rfl (fun u wr hK hD=>hD 1 rfl) fun u wr hR hK hD=>?_;exact Zd _ _ rfl (hK 7 rfl) ⟨hR.again,rfl⟩
        ·refine RV.stepU_yes 1 31 false rfl rfl (fun u wr hK hD=>hD 1 rfl) fun u wr hR hK hD=>?_;have z:u 32=_:=(hD 2 rfl);have z2:u 33=_:=(hD 3 rfl);exact Ze _ (by unfold execOp;simp[go_sem,evU,z,z2,hixo]) ⟨hR.again,rfl⟩
        ·refine RV.stepU_yes 1 31 false rfl rfl (fun u wr hK hD=>hD 1 rfl) fun u wr hR hK hD=>?_;exact ZB _ ob (oo+j*4) _ _ _ _ rfl (hD 4 rfl) (Zc hR.be q0) (Zc hR.be q1) (Zc hR.be q2) (Zc hR.be q3) ⟨hR.again,rfl⟩
        ·refine RV.stepU_yes 1 31 false rfl rfl (fun u wr hK hD=>hD 1 rfl) fun u wr hR hK hD=>?_;exact ZB _ xb 0 _ _ _ _ rfl (hK 5 rfl) (Zc hR.be x0) (Zc hR.be x1) (Zc hR.be x2) (Zc hR.be x3) ⟨hR.again,rfl⟩
        ·refine RV.stepU_yes 1 31 false rfl rfl (fun u wr hK hD=>hD 1 rfl) fun u wr hR hK hD=>?_;exact ZfF _ _ ⟨yk,ya,yt,yd⟩ ⟨zk,za,zt,zd⟩ rfl (hD 5 rfl) (hD 6 rfl) (by rw[Hr2.out];exact⟨hR.again,rfl⟩)
        ·refine RV.stepU_plain rfl fun u wr hR hK hD=>?_;exact Zn _ _ _ _ _ rfl (hD 1 rfl) (by first|rfl|exact rfl|exact(hD 7 rfl)) ⟨hR.again,rfl⟩
        ·refine RV.stepU_plain rfl fun u wr hR hK hD=>?_;exact ZA _ _ rfl (hD 8 rfl) ⟨hR.again,rfl⟩
       intro u w5 hR hF;have e30:u 30= .bool false:=hF 0 (by decide);have e31:u 31= .bool false:=hF 1 (by decide);have e32:u 32= .slice (some ⟨ob,oo,none⟩) m cv:=hF 2 (by decide);have e33:u 33= .int .i64 j:=hF 3 (by decide);have e34:u 34= .pointer (some ⟨ob,oo+j*4,none⟩):=hF 4 (by decide);have e35:u 35= .agg #[.int .u8 yk,.int .i64 ya,.string yt,.int .i64 yd]:=hF 5 (by decide);have e36:u 36= .agg #[.int .u8 zk,.int .i64 za,.string zt,.int .i64 zd]:=hF 6 (by decide);have e37:u 37= .bool r:=hF 7 (by decide);have e38:u 38= .bool r:=hF 8 (by decide);have e6:u 6= .bool r:=hF 9 (by decide);simp only[ZaW,Act.put,List.setIfInBounds_toArray,List.set_cons_succ,List.set_cons_zero,e30,e31,e32,e33,e34,e35,e36,e37,e38,e6];clear hF e30 e31 e32 e33 e34 e35 e36 e37 e38 e6;have hB2:Below W0.heap.size W0 w5:=Zah hB.drew hB.size hR.be;have hb_w5:Below W0.heap.size W0 w5:=⟨hR.be.os,hR.be.tape,hR.be.output,hR.be.size,hR.be.block⟩;clear hB hR;have hB:=hB2;clear hB2;have hBw2:=Zb hBw hb_w5;clear hB hb_w5 q0 q1 q2 q3 x0 x1 x2 x3 hixo;go_wp2;go_roundw
       case rel=>exact⟨j+1,r,by omega,by simp,rfl,Hf2,hBw2⟩
       case measure=>simp[intOf];omega
     ·have hJ:¬(j:Int)<(m:Int):=by omega
      have hall:out.take j=out:=List.take_of_length_le (by have:=Hm.out;omega);have Hfa:Hid (f=out.any fun y=>eqI ⟨zk,za,zt,zd⟩ y):=by show _=_;rw[Hf.out,hall]
      have hB3:=Zb hB hBw;have Ho4:=Za (OwI.keep Ho.out hBw);have x0:=Zc hBw Hx0.out;have x1:=Zc hBw Hx1.out;have x2:=Zc hBw Hx2.out;have x3:=Zc hBw Hx3.out;clear hall Hf hBw hB Ho Hox;cases f with
      |true=>
       have HD3:Hid (Zbh out (l.drop (k+1))=ZaT l):=by show _=_;rw[←HD2.out,ZdD Hfa.out.symm]
       clear HD2 Hfa;go_wp2;go_roundw
       case rel=>exact⟨k+1,out,by omega,by simp,Ho4.out,HD3,hB3,by have:=Hm.out;omega⟩
       case measure=>simp[intOf];omega
      |false=>
       have HD3:Hid (Zbh (out++[⟨zk,za,zt,zd⟩]) (l.drop (k+1))=ZaT l):=by show _=_;rw[←HD2.out,Zfa Hfa.out.symm]
       have hka:=(Below.refl wr.heap.size wr).alloc (Nat.le_refl _) (.cells #[.int .u8 zk,.int .i64 za,.string zt,.int .i64 zd] 24);have HO2:=Za (OwI.keep Ho4.out hka);have Hrd:=Za (RdI.new wr 24 [⟨zk,za,zt,zd⟩]);have hB4:=hB3.alloc hB3.size (.cells #[.int .u8 zk,.int .i64 za,.string zt,.int .i64 zd] 24);clear HD2 Hfa hka hB3;go_wp2_with (at_builtin;refine Zk rfl _ _ 28 rfl i0 _ 40 1 Tryz.underlying28 Hi.out.1 Hi.out.2.1 Hi.out.2.2.1 Hi.out.2.2.2 rfl (by decide) rfl rfl (Zv [⟨zk,za,zt,zd⟩]) HO2.out Hrd.out (m:=1) rfl ?e2 ?e3 ?e4 ?_)
       case e2=>have:=Hm.out;omega
       case e3=>have:=Hm.out;omega
       case e4=>first|exact hB4.size|simpa using hB4.size
       intro v3 W3 own3 hg3 hv3;have own4:OwI W3 w.heap.size v3 (out++[⟨zk,za,zt,zd⟩]):=by unfold OwI;rw[Zj,List.length_append,List.length_singleton];exact own3
       have hB5:Below w.heap.size w W3:=hB4.grown hg3 hB4.size fun b hb=>(Z5 HO2.out b hb).1;have Hown4:=Za own4;clear own3 hg3 hv3 own4 HO2 Hrd hB4 x0 x1 x2 x3 Ho4;go_wp2;go_roundw
       case rel=>exact⟨k+1,out++[⟨zk,za,zt,zd⟩],by omega,by simp,Hown4.out,HD3,hB5,by have:=Hm.out;simp;omega⟩
       case measure=>simp[intOf];omega
  ·have hI:¬(k:Int)<(n:Int):=by omega
   have hx:out=ZaT l:=by rw[←HD.out,List.drop_eq_nil_of_le (by have:=Hn.out;omega)];rfl
   have Hx:=Za hx;have Ho:=Za ho;clear hx HD ho;go_wp2;go_ret;exact⟨_,rfl,by rw[←Hx.out];exact Ho.out,hB⟩
end Go.Proofs.YtnnfhojhbbcbmaaGreatDoor
