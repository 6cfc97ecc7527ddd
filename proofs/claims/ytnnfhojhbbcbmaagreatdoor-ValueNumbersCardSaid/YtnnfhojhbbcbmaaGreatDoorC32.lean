/- slices' symMerge at rows of items. slices' symMerge at rows of items: the halves. -/
import Derived.Test.YtnnfhojhbbcbmaaGreatDoorC31
namespace Go.Proofs.YtnnfhojhbbcbmaaGreatDoor
set_option maxRecDepth 100000
set_option maxHeartbeats 4000000
open Go.RowKit Go.Shelf Go.Lib Go.Sort
section
variable {P : Program} {k g blk off : Nat} {enc : It → List Value} {d0 : Array It} {w W : World} {s : Nat → Nat}
theorem Zlh(L:SrtP P k)(FG:P.funcs[170]? =some Tryz.f170)(B:SB P k g enc blk off d0 w)(cap a b:Nat)(h:Sta enc k blk off d0 w W s)(hab:a+1<b)(hb:b≤d0.size)(hs:Srt (ndO d0) s (a+1) b)(hl:Low s a (a+1) b):
  Calls P 170 #[.slice (some ⟨blk,off,none⟩) d0.size cap,.int .i64 a,.int .i64 (a+1:Nat),.int .i64 b,.func (.func g) #[] #[]] W fun e W'=>e= .returned (.tuple #[])∧∃t,SegP s t a b∧Srt (ndO d0) t a b∧Sta enc k blk off d0 w W' t:=by
 have hsz:=B.hsz;have HB:=Za B;have HS0:=Za hs;have HL0:=Za hl;have mixed:=L.mixed;have t0:=L.t0;have a0:=L.a0;have z0:=L.z0;have v0:=L.v0;have t3:=L.t3;have a3:=L.a3;have z3:=L.z3;have v3:=L.v3;have t4:=L.t4;have a4:=L.a4;have z4:=L.z4;have v4:=L.v4;have t22:=L.t22;have a22:=L.a22;have z22:=L.z22;have v22:=L.v22;have t25:=L.t25;have a25:=L.a25;have z25:=L.z25;have v25:=L.v25;have aE:=L.aE;have zE:=L.zE;have tu:=L.tu;have au:=L.au;have zu:=L.zu;have vu:=L.vu;have eg:=B.eg;clear B L hs hl;have e9:(a:Int)+1-(a:Int)=1:=by omega
 go_enter FG,Tryz.ntmps170;go_wp2;go_loopg[10,11,12] (b-a) (fun fu vi vj vh wr=>∃i j:Nat,vi= .int .i64 i∧vj= .int .i64 j∧a+1≤i∧i≤j∧j≤b∧j-i≤fu∧Sta enc k blk off d0 w wr s∧Hid ((a+1<i→ndO d0 (s (i-1))<ndO d0 (s a))∧(j<b→ndO d0 (s a)≤ndO d0 (s j))))
 case atStart=>exact⟨a+1,b,by go_num,rfl,Nat.le_refl _,by omega,Nat.le_refl _,by omega,h,fun h=>by omega,fun h=>by omega⟩
 case round=>
  clear h;obtain⟨i,j,rfl,rfl,hi,hij,hj,hfu,hS,HC⟩:=hrel;by_cases hlt:i<j
  ·have hltz:(i:Int)<(j:Int):=by omega
   obtain⟨m,hm⟩:∃m,m=(i+j) / 2:=⟨_,rfl⟩;have hwu:IntKind.u64.wrap ((i:Int)+(j:Int))=(i:Int)+(j:Int):=by rw[IntKind.wrap_u64];omega
   have hsh:((i:Int)+(j:Int)) / 2=(((i+j) / 2:Nat):Int):=by omega
   rw[←hm]at hsh;have hm1:i≤m∧m<j:=by omega
   have mz:(m:Int)<(d0.size:Int):=by omega
   have az:(a:Int)<(d0.size:Int):=by omega
   clear hm;obtain⟨ci,cj,c,hc,l1,l2,hcg,hS2⟩:=hS.cmp HB.out (show m<d0.size by omega) (show a<d0.size by omega);have HS2:=Za hS2;have Hc:=Za hc;clear hS hS2 hc;by_cases hcz:c<0
   ·go_wp2_with fail
    go_quiet_grown (first|(go_at_fn g;refine Calls.grown_of (hcg _ _)))
    go_wp2;go_roundg (j-(m+1))
    case measure=>omega
    case rel=>exact⟨m+1,j,by go_num,rfl,by omega,by omega,hj,Nat.le_refl _,HS2.out _ _,fun _=>Hc.out.1 hcz,HC.out.2⟩
   ·go_wp2_with fail
    go_quiet_grown (first|(go_at_fn g;refine Calls.grown_of (hcg _ _)))
    go_wp2;go_roundg (m-i)
    case measure=>omega
    case rel=>exact⟨i,m,rfl,rfl,by omega,by omega,by omega,Nat.le_refl _,HS2.out _ _,HC.out.1,fun _=>by first|exact Int.not_lt.1 (mt Hc.out.2 (show ¬c<0 by omega))|(rw[Nat.add_sub_cancel];exact Int.not_lt.1 (mt Hc.out.2 (show ¬c<0 by omega)))⟩
  ·have hltz:¬(i:Int)<(j:Int):=by omega
   have hij2:i=j:=by omega
   subst hij2;clear hij hlt;go_wp2;go_loopg[13] (i-a) (fun fu vk wr2=>∃(kk:Nat) (t:Nat→Nat),vk= .int .i64 kk∧a≤kk∧kk+1≤i∧i-kk≤fu∧Sta enc k blk off d0 w wr2 t∧Hid (Rot s t a (a+1) (kk+1)))
   case atStart=>exact⟨a,s,rfl,Nat.le_refl _,hi,by omega,hS,Zh0 s a (a+1) (a+1) (by omega) (Nat.le_refl _) (.inr rfl)⟩
   case round=>
    clear hS;obtain⟨kk,t,rfl,hk1,hk2,hfu2,hS,HR⟩:=hrel;by_cases hk3:kk+1<i
    ·have hltz2:(kk:Int)<(i:Int)-1:=by omega
     obtain⟨ci,cj,l1,l2,r1,r2,s1,s2,hS2⟩:=hS.swap HB.out (show kk<d0.size by omega) (show kk+1<d0.size by omega);have HS2:=Za hS2;have e1:((kk:Int)+1).toNat=kk+1:=by omega
     have b0:(kk:Int)<(d0.size:Int):=by omega
     have b1:(kk:Int)+1<(d0.size:Int):=by omega
     have p1:(0:Int)≤(kk:Int)+1:=by omega
     clear hS hS2;go_wp2_with fail
     go_big_region_o
     all_goals go_wp2
     go_roundg (i-(kk+1))
     case measure=>omega
     case rel=>exact⟨kk+1,_,by go_num,by omega,by omega,Nat.le_refl _,HS2.out,HR.out.up hk1⟩
    ·have hltz2:¬(kk:Int)<(i:Int)-1:=by omega
     have hki:kk+1=i:=by omega
     subst hki;go_wp2
     try simp only[Exit.inBlock,Exit.then]
     refine bodyPost_ret (results_none rfl _ _ _) rfl ?_;exact⟨rfl,t,(HR.out.seg (by omega) hi).mono (Nat.le_refl _) hj,Zih (kk+1) HS0.out HL0.out hi hj HC.out.1 (fun h=>Int.not_lt.2 (HC.out.2 h)) HR.out,hS⟩
theorem Zmx(L:SrtP P k)(FG:P.funcs[170]? =some Tryz.f170)(B:SB P k g enc blk off d0 w)(cap a m b:Nat)(hbm:b=m+1)(h:Sta enc k blk off d0 w W s)(hab:a+1<m)(hb:b≤d0.size)(hs:Srt (ndO d0) s a m)(hl:Low s a m (m+1)):
  Calls P 170 #[.slice (some ⟨blk,off,none⟩) d0.size cap,.int .i64 a,.int .i64 m,.int .i64 b,.func (.func g) #[] #[]] W fun e W'=>e= .returned (.tuple #[])∧∃t,SegP s t a b∧Srt (ndO d0) t a b∧Sta enc k blk off d0 w W' t:=by
 have hsz:=B.hsz;have HB:=Za B;have HS0:=Za hs;have HL0:=Za hl;have mixed:=L.mixed;have t0:=L.t0;have a0:=L.a0;have z0:=L.z0;have v0:=L.v0;have t3:=L.t3;have a3:=L.a3;have z3:=L.z3;have v3:=L.v3;have t4:=L.t4;have a4:=L.a4;have z4:=L.z4;have v4:=L.v4;have t22:=L.t22;have a22:=L.a22;have z22:=L.z22;have v22:=L.v22;have t25:=L.t25;have a25:=L.a25;have z25:=L.z25;have v25:=L.v25;have aE:=L.aE;have zE:=L.zE;have tu:=L.tu;have au:=L.au;have zu:=L.zu;have vu:=L.vu;have eg:=B.eg;clear B L hs hl;have e8:((m:Int)-(a:Int)==1)=false:=by simp;omega
 have e9:(b:Int)-(m:Int)=1:=by omega
 have HBM:=Za hbm;clear hbm;go_enter FG,Tryz.ntmps170;go_wp2;go_loopg[14,15,16] (m-a) (fun fu vi vj vh wr=>∃i j:Nat,vi= .int .i64 i∧vj= .int .i64 j∧a≤i∧i≤j∧j≤m∧j-i≤fu∧Sta enc k blk off d0 w wr s∧Hid ((a<i→ndO d0 (s (i-1))≤ndO d0 (s m))∧(j<m→ndO d0 (s m)<ndO d0 (s j))))
 case atStart=>exact⟨a,m,rfl,rfl,Nat.le_refl _,by omega,Nat.le_refl _,by omega,h,fun h=>by omega,fun h=>by omega⟩
 case round=>
  clear h;obtain⟨i,j,rfl,rfl,hi,hij,hj,hfu,hS,HC⟩:=hrel;by_cases hlt:i<j
  ·have hltz:(i:Int)<(j:Int):=by omega
   obtain⟨h,hm⟩:∃h,h=(i+j) / 2:=⟨_,rfl⟩;have hwu:IntKind.u64.wrap ((i:Int)+(j:Int))=(i:Int)+(j:Int):=by rw[IntKind.wrap_u64];omega
   have hsh:((i:Int)+(j:Int)) / 2=(((i+j) / 2:Nat):Int):=by omega
   rw[←hm]at hsh;have hm1:i≤h∧h<j:=by omega
   have mz:(h:Int)<(d0.size:Int):=by omega
   have az:(m:Int)<(d0.size:Int):=by omega
   clear hm;obtain⟨ci,cj,c,hc,l1,l2,hcg,hS2⟩:=hS.cmp HB.out (show m<d0.size by omega) (show h<d0.size by omega);have HS2:=Za hS2;have Hc:=Za hc;clear hS hS2 hc;by_cases hcz:c<0
   ·go_wp2_with fail
    go_quiet_grown (first|(go_at_fn g;refine Calls.grown_of (hcg _ _)))
    go_wp2;go_roundg (h-i)
    case measure=>omega
    case rel=>exact⟨i,h,rfl,rfl,by omega,by omega,by omega,Nat.le_refl _,HS2.out _ _,HC.out.1,fun _=>Hc.out.1 hcz⟩
   ·have hcd:decide (c<0)=false:=decide_eq_false hcz;go_wp2_with fail
    go_quiet_grown (first|(go_at_fn g;refine Calls.grown_of (hcg _ _)))
    go_wp2;go_roundg (j-(h+1))
    case measure=>omega
    case rel=>exact⟨h+1,j,by go_num,rfl,by omega,by omega,hj,Nat.le_refl _,HS2.out _ _,fun _=>by first|exact Int.not_lt.1 (mt Hc.out.2 (show ¬c<0 by omega))|(rw[Nat.add_sub_cancel];exact Int.not_lt.1 (mt Hc.out.2 (show ¬c<0 by omega))),HC.out.2⟩
  ·have hltz:¬(i:Int)<(j:Int):=by omega
   have hij2:i=j:=by omega
   subst hij2;clear hij hlt;go_wp2;go_loopg[17] (m-i) (fun fu vk wr2=>∃(kk:Nat) (t:Nat→Nat),vk= .int .i64 kk∧i≤kk∧kk≤m∧kk-i≤fu∧Sta enc k blk off d0 w wr2 t∧Hid (Rot s t kk m (m+1)))
   case atStart=>exact⟨m,s,rfl,hj,Nat.le_refl _,by omega,hS,Zh0 s m m (m+1) (Nat.le_refl _) (by omega) (.inl rfl)⟩
   case round=>
    clear hS;obtain⟨kk,t,rfl,hk1,hk2,hfu2,hS,HR⟩:=hrel;by_cases hk3:i<kk
    ·have hltz2:(i:Int)<(kk:Int):=by omega
     obtain⟨kp,rfl⟩:∃kp,kk=kp+1:=⟨kk-1,by omega⟩;obtain⟨ci,cj,l1,l2,r1,r2,s1,s2,hS2⟩:=hS.swap HB.out (show kp+1<d0.size by omega) (show kp<d0.size by omega);have HS2:=Za hS2;have hltz3:(i:Int)<(kp:Int)+1:=by omega
     have e1:((kp:Int)+1).toNat=kp+1:=by omega
     have b0:(kp:Int)<(d0.size:Int):=by omega
     have b1:(kp:Int)+1<(d0.size:Int):=by omega
     have p1:(0:Int)≤(kp:Int)+1:=by omega
     clear hS hS2;go_wp2_with fail
     go_big_region_o
     all_goals go_wp2
     go_roundg (kp-i)
     case measure=>omega
     case rel=>exact⟨kp,_,by go_num,by omega,by omega,Nat.le_refl _,HS2.out,HR.out.down hk2⟩
    ·have hltz2:¬(i:Int)<(kk:Int):=by omega
     have hki:kk=i:=by omega
     subst hki;go_wp2
     try simp only[Exit.inBlock,Exit.then]
     refine bodyPost_ret (results_none rfl _ _ _) rfl ?_;rw[HBM.out];exact⟨rfl,t,(HR.out.seg hj (by omega)).mono hi (Nat.le_refl _),Zjl kk HS0.out HL0.out hi hj (fun h=>Int.not_lt.2 (HC.out.1 h)) HC.out.2 HR.out,hS⟩
end
end Go.Proofs.YtnnfhojhbbcbmaaGreatDoor
namespace Go.Proofs.YtnnfhojhbbcbmaaGreatDoor
set_option maxRecDepth 100000
set_option maxHeartbeats 4000000
open Go.RowKit Go.Shelf Go.Lib Go.Sort
section
variable {P : Program} {k g blk off : Nat} {enc : It → List Value} {d0 : Array It} {w W : World} {s : Nat → Nat}
theorem ZaK {nd:Nat→Int}{s t:Nat→Nat}{a m x y:Nat}(h:SegP s t a m)(q:m≤x)(k:Srt nd s x y):Srt nd t x y:=fun i j h1 h2 h3=>by rw[h.out i (.inr (by omega)),h.out j (.inr (by omega))];exact k i j h1 h2 h3
theorem ZdV {s t:Nat→Nat}{a m x y z:Nat}(h:SegP s t a m)(q:m≤x)(k:Low s x y z):Low t x y z:=fun i j h1 h2 h3 h4=>by rw[h.out i (.inr (by omega)),h.out j (.inr (by omega))];exact k i j h1 h2 h3 h4
def Zpn(P:Program)(k g blk off:Nat)(enc:It→List Value)(d0:Array It)(w:World)(cap N:Nat):Prop:=
 ∀(a m b:Nat) (W:World) (s:Nat→Nat),b-a≤N→a<m→m<b→b≤d0.size→Srt (ndO d0) s a m→Srt (ndO d0) s m b→Low s a m b→Sta enc k blk off d0 w W s→
  Calls P 170 #[.slice (some ⟨blk,off,none⟩) d0.size cap,.int .i64 a,.int .i64 m,.int .i64 b,.func (.func g) #[] #[]] W fun e W'=>e= .returned (.tuple #[])∧∃t,SegP s t a b∧Srt (ndO d0) t a b∧Sta enc k blk off d0 w W' t
theorem Zpy(L:SrtP P k)(FS:P.funcs[226]? =some Tryz.f226)(FR:P.funcs[208]? =some Tryz.f208)(FG:P.funcs[170]? =some Tryz.f170)(B:SB P k g enc blk off d0 w)(cap a m b mid N:Nat)(hI:Zpn P k g blk off enc d0 w cap N)(hN:b-a≤N+1)(h:Sta enc k blk off d0 w W s)(h1:a+1<m)(h2:m+1<b)(hmid:mid=(a+b) / 2)(hcase:mid<m)(hb:b≤d0.size)(hs1:Srt (ndO d0) s a m)(hs2:Srt (ndO d0) s m b)(hl:Low s a m b):
  Calls P 170 #[.slice (some ⟨blk,off,none⟩) d0.size cap,.int .i64 a,.int .i64 m,.int .i64 b,.func (.func g) #[] #[]] W fun e W'=>e= .returned (.tuple #[])∧∃t,SegP s t a b∧Srt (ndO d0) t a b∧Sta enc k blk off d0 w W' t:=by
 have hsz:=B.hsz;have HB:=Za B;have HL:=Za L;have HI:=Za hI;have HS1:=Za hs1;have HS2:=Za hs2;have HL0:=Za hl;have HFS:=Za FS;have HFR:=Za FR;have eR:∀args w,(callFunc 208 args).run P w= .ok (.enter 208 args) w:=enters_of FR (by kernel_rfl) rfl;have eY:∀args w,(callFunc 170 args).run P w= .ok (.enter 170 args) w:=enters_of FG (by kernel_rfl) rfl;have mixed:=L.mixed;have t0:=L.t0;have a0:=L.a0;have z0:=L.z0;have v0:=L.v0;have t3:=L.t3;have a3:=L.a3;have z3:=L.z3;have v3:=L.v3;have t4:=L.t4;have a4:=L.a4;have z4:=L.z4;have v4:=L.v4;have t22:=L.t22;have a22:=L.a22;have z22:=L.z22;have v22:=L.v22;have t25:=L.t25;have a25:=L.a25;have z25:=L.z25;have v25:=L.v25;have aE:=L.aE;have zE:=L.zE;have tu:=L.tu;have au:=L.au;have zu:=L.zu;have vu:=L.vu;have eg:=B.eg;clear B L hI hs1 hs2 hl FS FR;have e8:((m:Int)-(a:Int)==1)=false:=by simp;omega
 have e9:((b:Int)-(m:Int)==1)=false:=by simp;omega
 have hwu0:IntKind.u64.wrap ((a:Int)+(b:Int))=(a:Int)+(b:Int):=by rw[IntKind.wrap_u64];omega
 have hsh0:((a:Int)+(b:Int)) / 2=(mid:Int):=by omega
 obtain⟨n,hn⟩:∃n,n=mid+m:=⟨_,rfl⟩;have en0:(mid:Int)+(m:Int)=(n:Int):=by omega
 obtain⟨p,hp⟩:∃p,p=n-1:=⟨_,rfl⟩;have ep0:(n:Int)-1=(p:Int):=by omega
 have hmh:mid≤b:=by omega
 obtain⟨st0,hst0⟩:∃st0,st0=n-b:=⟨_,rfl⟩;have es0:(n:Int)-(b:Int)=(st0:Int):=by omega
 have gm:(mid:Int)<(m:Int):=by omega
 clear hmid hn hp hst0;go_enter FG,Tryz.ntmps170;go_wp2;go_loopg[20,21,23] (mid-st0) (fun fu v20 v21 v23 wr=>∃st r:Nat,v20= .int .i64 st∧v21= .int .i64 r∧st0≤st∧st≤r∧r≤mid∧r-st≤fu∧Sta enc k blk off d0 w wr s∧Hid ((st0<st→ndO d0 (s (st-1))≤ndO d0 (s (p-(st-1))))∧(r<mid→ndO d0 (s (p-r))<ndO d0 (s r))))
 case atStart=>exact⟨st0,mid,rfl,rfl,Nat.le_refl _,by omega,Nat.le_refl _,by omega,h,fun h=>by omega,fun h=>by omega⟩
 case round=>
  clear h;obtain⟨st,r,rfl,rfl,hst,hsr,hr0,hfu,hS,HC⟩:=hrel;by_cases hlt:st<r
  ·have hltz:(st:Int)<(r:Int):=by omega
   obtain⟨c,hm⟩:∃c,c=(st+r) / 2:=⟨_,rfl⟩;have hwu:IntKind.u64.wrap ((st:Int)+(r:Int))=(st:Int)+(r:Int):=by rw[IntKind.wrap_u64];omega
   have hsh:((st:Int)+(r:Int)) / 2=(((st+r) / 2:Nat):Int):=by omega
   rw[←hm]at hsh;have hm1:st≤c∧c<r:=by omega
   obtain⟨pc,hpc⟩:∃pc,pc=p-c:=⟨_,rfl⟩;have epc:(p:Int)-(c:Int)=(pc:Int):=by omega
   have pz:(pc:Int)<(d0.size:Int):=by omega
   have cz:(c:Int)<(d0.size:Int):=by omega
   have HPC:=Za hpc;have hwp:IntKind.i64.wrap (pc:Int)=(pc:Int):=by rw[IntKind.wrap_i64];omega
   clear hm;obtain⟨ci,cj,v,hc,l1,l2,hcg,hS2⟩:=hS.cmp HB.out (show pc<d0.size by omega) (show c<d0.size by omega);have HS2:=Za hS2;have Hc:=Za hc;clear hS hS2 hc hpc;by_cases hcz:v<0
   ·go_wp2_with fail
    go_quiet_grown (first|(go_at_fn g;refine Calls.grown_of (hcg _ _)))
    go_wp2;go_roundg (c-st)
    case measure=>omega
    case rel=>exact⟨st,c,rfl,rfl,by omega,by omega,by omega,Nat.le_refl _,HS2.out _ _,HC.out.1,fun _=>by have h2:=Hc.out.1 hcz;rw[HPC.out]at h2;exact h2⟩
   ·have hcd:decide (v<0)=false:=decide_eq_false hcz;go_wp2_with fail
    go_quiet_grown (first|(go_at_fn g;refine Calls.grown_of (hcg _ _)))
    go_wp2;go_roundg (r-(c+1))
    case measure=>omega
    case rel=>exact⟨c+1,r,by go_num,rfl,by omega,by omega,by omega,Nat.le_refl _,HS2.out _ _,fun _=>by have h2:=Int.not_lt.1 (mt Hc.out.2 (show ¬v<0 by omega));rw[HPC.out]at h2;rw[Nat.add_sub_cancel];exact h2,HC.out.2⟩
  ·have hltz:¬(st:Int)<(r:Int):=by omega
   have hij2:st=r:=by omega
   subst hij2;obtain⟨en,hen⟩:∃en,en=n-st:=⟨_,rfl⟩;have een:(n:Int)-(st:Int)=(en:Int):=by omega
   have hsum:st+en=mid+m:=by omega
   have hpen:st≤p→p-st+1=en:=by omega
   clear hen;have key:∀s1,Rot s s1 st m en→Halves (ndO d0) s s1 a mid b st en:=fun s1 hr=>Zm3 hsum (by omega) (by omega) (by omega) (by omega) HS1.out HS2.out HL0.out (fun x1 x2=>by have h2:=HC.out.1 (by omega);rw[show p-(st-1)=en by omega]at h2;exact h2) (fun x1 x2=>by have h2:=HC.out.2 (by omega);rw[show p-st=en-1 by omega]at h2;exact h2) hr;have HKEY:=Za key;clear key;by_cases hR:st<m∧st<mid
   ·have hc:=Zfq HL.out HFS.out HFR.out HB.out cap st m en (.func (.func g) #[] #[]) hS (by omega) (by omega) (by omega);have c1:(st:Int)<(m:Int):=by omega
    have c2:(m:Int)<(en:Int):=by omega
    have c3:(st:Int)<(mid:Int):=by omega
    have c4:(mid:Int)<(en:Int):=by omega
    by_cases hA:a<st
    ·by_cases hBc:en<b
     ·have c5:(a:Int)<(st:Int):=by omega
      have c6:(en:Int)<(b:Int):=by omega
      go_wp2_with (go_at_fn 208;refine hc.mono ?_;rintro e W2 ⟨rfl,s1,hrot,hS9⟩);have HRot:=Za hrot;have HH:=Za (HKEY.out s1 hrot);clear hc hS hrot;have hS:=hS9;clear hS9;have hcl:=HI.out a st mid _ _ (by omega) (by omega) (by omega) (by omega) HH.out.l1 HH.out.l2 HH.out.l3 hS;go_wp2_with (go_at_fn 170;refine hcl.mono ?_;rintro e W3 ⟨rfl,s2,p1,p2,hS3⟩);clear hcl hS;have hS:=hS3;clear hS3;have hcr:=HI.out mid en b _ _ (by omega) (by omega) (by omega) hb (ZaK p1 (Nat.le_refl _) HH.out.r1) (ZaK p1 (by omega) HH.out.r2) (ZdV p1 (Nat.le_refl _) HH.out.r3) hS;go_wp2_with (go_at_fn 170;refine hcr.mono ?_;rintro e W4 ⟨rfl,s3,q1,q2,hS4⟩);clear hcr;go_end0;exact⟨rfl,s3,(((HRot.out).seg (by omega) (by omega)).mono (by omega) (by omega)).trans ((p1).mono (Nat.le_refl _) (by omega) |>.trans (q1.mono (by omega) (Nat.le_refl _))),ZW HH.out (p1) (p2) q1 q2,hS4⟩
     ·have c5:(a:Int)<(st:Int):=by omega
      have c6:decide ((en:Int)<(b:Int))=false:=decide_eq_false (by omega);go_wp2_with (go_at_fn 208;refine hc.mono ?_;rintro e W2 ⟨rfl,s1,hrot,hS9⟩);have HRot:=Za hrot;have HH:=Za (HKEY.out s1 hrot);clear hc hS hrot;have hS:=hS9;clear hS9;have hcl:=HI.out a st mid _ _ (by omega) (by omega) (by omega) (by omega) HH.out.l1 HH.out.l2 HH.out.l3 hS;go_wp2_with (go_at_fn 170;refine hcl.mono ?_;rintro e W3 ⟨rfl,s2,p1,p2,hS3⟩);clear hcl hS;have hS:=hS3;clear hS3;go_wp2;go_end0;exact⟨rfl,_,(((HRot.out).seg (by omega) (by omega)).mono (by omega) (by omega)).trans ((p1).mono (Nat.le_refl _) (by omega)),ZW HH.out (p1) (p2) (SegP.refl _ mid b) (ZaK p1 (Nat.le_refl _) (by have h9:=HH.out.r1;rw[show en=b by omega]at h9;exact h9)),hS⟩
    ·by_cases hBc:en<b
     ·have c5:decide ((a:Int)<(st:Int))=false:=decide_eq_false (by omega);have c6:(en:Int)<(b:Int):=by omega
      go_wp2_with (go_at_fn 208;refine hc.mono ?_;rintro e W2 ⟨rfl,s1,hrot,hS9⟩);have HRot:=Za hrot;have HH:=Za (HKEY.out s1 hrot);clear hc hS hrot;have hS:=hS9;clear hS9;have hcr:=HI.out mid en b _ _ (by omega) (by omega) (by omega) hb (ZaK (SegP.refl s1 a mid) (Nat.le_refl _) HH.out.r1) (ZaK (SegP.refl s1 a mid) (by omega) HH.out.r2) (ZdV (SegP.refl s1 a mid) (Nat.le_refl _) HH.out.r3) hS;go_wp2_with (go_at_fn 170;refine hcr.mono ?_;rintro e W4 ⟨rfl,s3,q1,q2,hS4⟩);clear hcr;go_end0;exact⟨rfl,s3,(((HRot.out).seg (by omega) (by omega)).mono (by omega) (by omega)).trans (((SegP.refl s1 a mid)).mono (Nat.le_refl _) (by omega) |>.trans (q1.mono (by omega) (Nat.le_refl _))),ZW HH.out ((SegP.refl s1 a mid)) ((by have h9:=HH.out.l2;rw[show st=a by omega]at h9;exact h9)) q1 q2,hS4⟩
     ·have c5:decide ((a:Int)<(st:Int))=false:=decide_eq_false (by omega);have c6:decide ((en:Int)<(b:Int))=false:=decide_eq_false (by omega);go_wp2_with (go_at_fn 208;refine hc.mono ?_;rintro e W2 ⟨rfl,s1,hrot,hS9⟩);have HRot:=Za hrot;have HH:=Za (HKEY.out s1 hrot);clear hc hS hrot;have hS:=hS9;clear hS9;go_wp2;go_end0;exact⟨rfl,_,(((HRot.out).seg (by omega) (by omega)).mono (by omega) (by omega)).trans (((SegP.refl s1 a mid)).mono (Nat.le_refl _) (by omega)),ZW HH.out ((SegP.refl s1 a mid)) ((by have h9:=HH.out.l2;rw[show st=a by omega]at h9;exact h9)) (SegP.refl _ mid b) ((by have h9:=HH.out.r1;rw[show en=b by omega]at h9;exact h9)),hS⟩
   ·have c1:(st:Int)<(m:Int):=by omega
    have c2:decide ((m:Int)<(en:Int))=false:=decide_eq_false (by omega);have c5:(a:Int)<(st:Int):=by omega
    have c3:decide ((st:Int)<(mid:Int))=false:=decide_eq_false (by omega);have c4:(mid:Int)<(en:Int):=by omega
    have c6:(en:Int)<(b:Int):=by omega
    have HH:=Za (HKEY.out s (Zh0 s st m en (by omega) (by omega) (.inr (by omega))));have hcr:=HI.out mid en b _ _ (by omega) (by omega) (by omega) hb (ZaK (SegP.refl s a mid) (Nat.le_refl _) HH.out.r1) (ZaK (SegP.refl s a mid) (by omega) HH.out.r2) (ZdV (SegP.refl s a mid) (Nat.le_refl _) HH.out.r3) hS;go_wp2_with (go_at_fn 170;refine hcr.mono ?_;rintro e W4 ⟨rfl,s3,q1,q2,hS4⟩);clear hcr;go_end0;exact⟨rfl,s3,(SegP.refl s a b).trans (((SegP.refl s a mid)).mono (Nat.le_refl _) (by omega) |>.trans (q1.mono (by omega) (Nat.le_refl _))),ZW HH.out ((SegP.refl s a mid)) ((by have h9:=HH.out.l1;rw[show st=mid by omega]at h9;exact h9)) q1 q2,hS4⟩
theorem Zpz(L:SrtP P k)(FS:P.funcs[226]? =some Tryz.f226)(FR:P.funcs[208]? =some Tryz.f208)(FG:P.funcs[170]? =some Tryz.f170)(B:SB P k g enc blk off d0 w)(cap a m b mid N:Nat)(hI:Zpn P k g blk off enc d0 w cap N)(hN:b-a≤N+1)(h:Sta enc k blk off d0 w W s)(h1:a+1<m)(h2:m+1<b)(hmid:mid=(a+b) / 2)(hcase:m≤mid)(hb:b≤d0.size)(hs1:Srt (ndO d0) s a m)(hs2:Srt (ndO d0) s m b)(hl:Low s a m b):
  Calls P 170 #[.slice (some ⟨blk,off,none⟩) d0.size cap,.int .i64 a,.int .i64 m,.int .i64 b,.func (.func g) #[] #[]] W fun e W'=>e= .returned (.tuple #[])∧∃t,SegP s t a b∧Srt (ndO d0) t a b∧Sta enc k blk off d0 w W' t:=by
 have hsz:=B.hsz;have HB:=Za B;have HL:=Za L;have HI:=Za hI;have HS1:=Za hs1;have HS2:=Za hs2;have HL0:=Za hl;have HFS:=Za FS;have HFR:=Za FR;have eR:∀args w,(callFunc 208 args).run P w= .ok (.enter 208 args) w:=enters_of FR (by kernel_rfl) rfl;have eY:∀args w,(callFunc 170 args).run P w= .ok (.enter 170 args) w:=enters_of FG (by kernel_rfl) rfl;have mixed:=L.mixed;have t0:=L.t0;have a0:=L.a0;have z0:=L.z0;have v0:=L.v0;have t3:=L.t3;have a3:=L.a3;have z3:=L.z3;have v3:=L.v3;have t4:=L.t4;have a4:=L.a4;have z4:=L.z4;have v4:=L.v4;have t22:=L.t22;have a22:=L.a22;have z22:=L.z22;have v22:=L.v22;have t25:=L.t25;have a25:=L.a25;have z25:=L.z25;have v25:=L.v25;have aE:=L.aE;have zE:=L.zE;have tu:=L.tu;have au:=L.au;have zu:=L.zu;have vu:=L.vu;have eg:=B.eg;clear B L hI hs1 hs2 hl FS FR;have e8:((m:Int)-(a:Int)==1)=false:=by simp;omega
 have e9:((b:Int)-(m:Int)==1)=false:=by simp;omega
 have hwu0:IntKind.u64.wrap ((a:Int)+(b:Int))=(a:Int)+(b:Int):=by rw[IntKind.wrap_u64];omega
 have hsh0:((a:Int)+(b:Int)) / 2=(mid:Int):=by omega
 obtain⟨n,hn⟩:∃n,n=mid+m:=⟨_,rfl⟩;have en0:(mid:Int)+(m:Int)=(n:Int):=by omega
 obtain⟨p,hp⟩:∃p,p=n-1:=⟨_,rfl⟩;have ep0:(n:Int)-1=(p:Int):=by omega
 have hmh:mid≤b:=by omega
 obtain⟨st0,hst0⟩:∃st0,st0=a:=⟨_,rfl⟩;have gm:decide ((m:Int)>(mid:Int))=false:=decide_eq_false (by omega);have gm2:decide ((mid:Int)<(m:Int))=false:=decide_eq_false (by omega);have gm3:¬(mid:Int)<(m:Int):=by omega
 have HST:=Za hst0;have hsa:(st0:Int)≤(a:Int):=by omega
 have hsa2:(a:Int)≤(st0:Int):=by omega
 clear hmid hn hp hst0;go_enter FG,Tryz.ntmps170;go_wp2;go_loopg[20,21,23] (m-st0) (fun fu v20 v21 v23 wr=>∃st r:Nat,v20= .int .i64 st∧v21= .int .i64 r∧st0≤st∧st≤r∧r≤m∧r-st≤fu∧Sta enc k blk off d0 w wr s∧Hid ((st0<st→ndO d0 (s (st-1))≤ndO d0 (s (p-(st-1))))∧(r<m→ndO d0 (s (p-r))<ndO d0 (s r))))
 case atStart=>exact⟨st0,m,by rw[HST.out],rfl,Nat.le_refl _,by omega,Nat.le_refl _,by omega,h,fun h=>by omega,fun h=>by omega⟩
 case round=>
  clear h;obtain⟨st,r,rfl,rfl,hst,hsr,hr0,hfu,hS,HC⟩:=hrel;by_cases hlt:st<r
  ·have hltz:(st:Int)<(r:Int):=by omega
   obtain⟨c,hm⟩:∃c,c=(st+r) / 2:=⟨_,rfl⟩;have hwu:IntKind.u64.wrap ((st:Int)+(r:Int))=(st:Int)+(r:Int):=by rw[IntKind.wrap_u64];omega
   have hsh:((st:Int)+(r:Int)) / 2=(((st+r) / 2:Nat):Int):=by omega
   rw[←hm]at hsh;have hm1:st≤c∧c<r:=by omega
   obtain⟨pc,hpc⟩:∃pc,pc=p-c:=⟨_,rfl⟩;have epc:(p:Int)-(c:Int)=(pc:Int):=by omega
   have pz:(pc:Int)<(d0.size:Int):=by omega
   have cz:(c:Int)<(d0.size:Int):=by omega
   have HPC:=Za hpc;have hwp:IntKind.i64.wrap (pc:Int)=(pc:Int):=by rw[IntKind.wrap_i64];omega
   clear hm;obtain⟨ci,cj,v,hc,l1,l2,hcg,hS2⟩:=hS.cmp HB.out (show pc<d0.size by omega) (show c<d0.size by omega);have HS2:=Za hS2;have Hc:=Za hc;clear hS hS2 hc hpc;by_cases hcz:v<0
   ·go_wp2_with fail
    go_quiet_grown (first|(go_at_fn g;refine Calls.grown_of (hcg _ _)))
    go_wp2;go_roundg (c-st)
    case measure=>omega
    case rel=>exact⟨st,c,rfl,rfl,by omega,by omega,by omega,Nat.le_refl _,HS2.out _ _,HC.out.1,fun _=>by have h2:=Hc.out.1 hcz;rw[HPC.out]at h2;exact h2⟩
   ·have hcd:decide (v<0)=false:=decide_eq_false hcz;go_wp2_with fail
    go_quiet_grown (first|(go_at_fn g;refine Calls.grown_of (hcg _ _)))
    go_wp2;go_roundg (r-(c+1))
    case measure=>omega
    case rel=>exact⟨c+1,r,by go_num,rfl,by omega,by omega,by omega,Nat.le_refl _,HS2.out _ _,fun _=>by have h2:=Int.not_lt.1 (mt Hc.out.2 (show ¬v<0 by omega));rw[HPC.out]at h2;rw[Nat.add_sub_cancel];exact h2,HC.out.2⟩
  ·have hltz:¬(st:Int)<(r:Int):=by omega
   have hij2:st=r:=by omega
   subst hij2;obtain⟨en,hen⟩:∃en,en=n-st:=⟨_,rfl⟩;have een:(n:Int)-(st:Int)=(en:Int):=by omega
   have hsum:st+en=mid+m:=by omega
   have hpen:st≤p→p-st+1=en:=by omega
   clear hen;have key:∀s1,Rot s s1 st m en→Halves (ndO d0) s s1 a mid b st en:=fun s1 hr=>Zm3 hsum (by omega) (by omega) (by omega) (by omega) HS1.out HS2.out HL0.out (fun x1 x2=>by have h2:=HC.out.1 (by omega);rw[show p-(st-1)=en by omega]at h2;exact h2) (fun x1 x2=>by have h2:=HC.out.2 (by omega);rw[show p-st=en-1 by omega]at h2;exact h2) hr;have HKEY:=Za key;clear key;by_cases hR:st<m∧st<mid
   ·have hc:=Zfq HL.out HFS.out HFR.out HB.out cap st m en (.func (.func g) #[] #[]) hS (by omega) (by omega) (by omega);have c1:(st:Int)<(m:Int):=by omega
    have c2:(m:Int)<(en:Int):=by omega
    have c3:(st:Int)<(mid:Int):=by omega
    have c4:(mid:Int)<(en:Int):=by omega
    by_cases hA:a<st
    ·by_cases hBc:en<b
     ·have c5:(a:Int)<(st:Int):=by omega
      have c6:(en:Int)<(b:Int):=by omega
      go_wp2_with (go_at_fn 208;refine hc.mono ?_;rintro e W2 ⟨rfl,s1,hrot,hS9⟩);have HRot:=Za hrot;have HH:=Za (HKEY.out s1 hrot);clear hc hS hrot;have hS:=hS9;clear hS9;have hcl:=HI.out a st mid _ _ (by omega) (by omega) (by omega) (by omega) HH.out.l1 HH.out.l2 HH.out.l3 hS;go_wp2_with (go_at_fn 170;refine hcl.mono ?_;rintro e W3 ⟨rfl,s2,p1,p2,hS3⟩);clear hcl hS;have hS:=hS3;clear hS3;have hcr:=HI.out mid en b _ _ (by omega) (by omega) (by omega) hb (ZaK p1 (Nat.le_refl _) HH.out.r1) (ZaK p1 (by omega) HH.out.r2) (ZdV p1 (Nat.le_refl _) HH.out.r3) hS;go_wp2_with (go_at_fn 170;refine hcr.mono ?_;rintro e W4 ⟨rfl,s3,q1,q2,hS4⟩);clear hcr;go_end0;exact⟨rfl,s3,(((HRot.out).seg (by omega) (by omega)).mono (by omega) (by omega)).trans ((p1).mono (Nat.le_refl _) (by omega) |>.trans (q1.mono (by omega) (Nat.le_refl _))),ZW HH.out (p1) (p2) q1 q2,hS4⟩
     ·have c5:(a:Int)<(st:Int):=by omega
      have c6:decide ((en:Int)<(b:Int))=false:=decide_eq_false (by omega);go_wp2_with (go_at_fn 208;refine hc.mono ?_;rintro e W2 ⟨rfl,s1,hrot,hS9⟩);have HRot:=Za hrot;have HH:=Za (HKEY.out s1 hrot);clear hc hS hrot;have hS:=hS9;clear hS9;have hcl:=HI.out a st mid _ _ (by omega) (by omega) (by omega) (by omega) HH.out.l1 HH.out.l2 HH.out.l3 hS;go_wp2_with (go_at_fn 170;refine hcl.mono ?_;rintro e W3 ⟨rfl,s2,p1,p2,hS3⟩);clear hcl hS;have hS:=hS3;clear hS3;go_wp2;go_end0;exact⟨rfl,_,(((HRot.out).seg (by omega) (by omega)).mono (by omega) (by omega)).trans ((p1).mono (Nat.le_refl _) (by omega)),ZW HH.out (p1) (p2) (SegP.refl _ mid b) (ZaK p1 (Nat.le_refl _) (by have h9:=HH.out.r1;rw[show en=b by omega]at h9;exact h9)),hS⟩
    ·by_cases hBc:en<b
     ·have c5:decide ((a:Int)<(st:Int))=false:=decide_eq_false (by omega);have c6:(en:Int)<(b:Int):=by omega
      go_wp2_with (go_at_fn 208;refine hc.mono ?_;rintro e W2 ⟨rfl,s1,hrot,hS9⟩);have HRot:=Za hrot;have HH:=Za (HKEY.out s1 hrot);clear hc hS hrot;have hS:=hS9;clear hS9;have hcr:=HI.out mid en b _ _ (by omega) (by omega) (by omega) hb (ZaK (SegP.refl s1 a mid) (Nat.le_refl _) HH.out.r1) (ZaK (SegP.refl s1 a mid) (by omega) HH.out.r2) (ZdV (SegP.refl s1 a mid) (Nat.le_refl _) HH.out.r3) hS;go_wp2_with (go_at_fn 170;refine hcr.mono ?_;rintro e W4 ⟨rfl,s3,q1,q2,hS4⟩);clear hcr;go_end0;exact⟨rfl,s3,(((HRot.out).seg (by omega) (by omega)).mono (by omega) (by omega)).trans (((SegP.refl s1 a mid)).mono (Nat.le_refl _) (by omega) |>.trans (q1.mono (by omega) (Nat.le_refl _))),ZW HH.out ((SegP.refl s1 a mid)) ((by have h9:=HH.out.l2;rw[show st=a by omega]at h9;exact h9)) q1 q2,hS4⟩
     ·have c5:decide ((a:Int)<(st:Int))=false:=decide_eq_false (by omega);have c6:decide ((en:Int)<(b:Int))=false:=decide_eq_false (by omega);go_wp2_with (go_at_fn 208;refine hc.mono ?_;rintro e W2 ⟨rfl,s1,hrot,hS9⟩);have HRot:=Za hrot;have HH:=Za (HKEY.out s1 hrot);clear hc hS hrot;have hS:=hS9;clear hS9;go_wp2;go_end0;exact⟨rfl,_,(((HRot.out).seg (by omega) (by omega)).mono (by omega) (by omega)).trans (((SegP.refl s1 a mid)).mono (Nat.le_refl _) (by omega)),ZW HH.out ((SegP.refl s1 a mid)) ((by have h9:=HH.out.l2;rw[show st=a by omega]at h9;exact h9)) (SegP.refl _ mid b) ((by have h9:=HH.out.r1;rw[show en=b by omega]at h9;exact h9)),hS⟩
   ·have c1:decide ((st:Int)<(m:Int))=false:=decide_eq_false (by omega);have c4:decide ((mid:Int)<(en:Int))=false:=decide_eq_false (by omega);have c5:(a:Int)<(st:Int):=by omega
    have HH:=Za (HKEY.out s (Zh0 s st m en (by omega) (by omega) (.inl (by omega))));by_cases hM:st<mid
    ·have c3:(st:Int)<(mid:Int):=by omega
     have hcl:=HI.out a st mid _ _ (by omega) (by omega) (by omega) (by omega) HH.out.l1 HH.out.l2 HH.out.l3 hS;go_wp2_with (go_at_fn 170;refine hcl.mono ?_;rintro e W3 ⟨rfl,s2,p1,p2,hS3⟩);clear hcl hS;have hS:=hS3;clear hS3;go_wp2;go_end0;exact⟨rfl,_,(SegP.refl s a b).trans ((p1).mono (Nat.le_refl _) (by omega)),ZW HH.out (p1) (p2) (SegP.refl _ mid b) (ZaK p1 (Nat.le_refl _) (by have h9:=HH.out.r2;rw[show en=mid by omega]at h9;exact h9)),hS⟩
    ·have c3:decide ((st:Int)<(mid:Int))=false:=decide_eq_false (by omega);go_wp2;go_end0;exact⟨rfl,_,(SegP.refl s a b).trans (((SegP.refl s a mid)).mono (Nat.le_refl _) (by omega)),ZW HH.out ((SegP.refl s a mid)) ((by have h9:=HH.out.l1;rw[show st=mid by omega]at h9;exact h9)) (SegP.refl _ mid b) ((by have h9:=HH.out.r2;rw[show en=mid by omega]at h9;exact h9)),hS⟩
end
end Go.Proofs.YtnnfhojhbbcbmaaGreatDoor
