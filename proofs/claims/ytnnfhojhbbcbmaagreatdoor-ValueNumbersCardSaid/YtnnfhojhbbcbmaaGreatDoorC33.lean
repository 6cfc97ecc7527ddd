/- slices' stable sort at rows of items. slices.SortStableFunc at value.Nodes' function. What Nodes answers, told so that it is told once: strictly rising nodes, of each node the first item. What CompactFunc leaves of a sorted row; what the reference's insertion makes: both are what NodesOk says. -/
import Derived.Test.YtnnfhojhbbcbmaaGreatDoorC32
import Derived.Test.YtnnfhojhbbcbmaaGreatDoorC01
namespace Go.Proofs.YtnnfhojhbbcbmaaGreatDoor
open Go.RowKit Go.Shelf Go.Lib Go.Sort
section
variable {P : Program} {k g blk off : Nat} {enc : It → List Value} {d0 : Array It} {w W : World} {s : Nat → Nat}
theorem Zku(L:SrtP P k)(FS:P.funcs[226]? =some Tryz.f226)(FR:P.funcs[208]? =some Tryz.f208)(FG:P.funcs[170]? =some Tryz.f170)(B:SB P k g enc blk off d0 w)(cap:Nat):∀N,Zpn P k g blk off enc d0 w cap N
 |0=>fun a m b W s h h1 h2=>by omega
 |N+1=>fun a m b W s h h1 h2 hb hs1 hs2 hl hS=>by
  have ih:=Zku L FS FR FG B cap N;by_cases c1:m=a+1
  ·subst c1;exact Zlh L FG B cap a b hS h2 hb hs2 hl
  ·by_cases c2:b=m+1
   ·exact Zmx L FG B cap a m b c2 hS (by omega) hb hs1 (by rw[←c2];exact hl)
   ·rcases Nat.lt_or_ge ((a+b) / 2) m with c3|c3
    ·exact Zpy L FS FR FG B cap a m b _ N ih h hS (by omega) (by omega) rfl c3 hb hs1 hs2 hl
    ·exact Zpz L FS FR FG B cap a m b _ N ih h hS (by omega) (by omega) rfl c3 hb hs1 hs2 hl
def srtRen:Go.Shelf.Ren:=⟨fun|20=>169|n=>n,fun|0=>0|3=>3|4=>4|22=>28|24=>24|25=>95|n=>n,fun|n=>n⟩
theorem ZnT(L:SrtP P k)(LI:SlLaysF0.n20 P srtRen)(B:SB P k g enc blk off d0 w)(cap a b:Nat)(h:Sta enc k blk off d0 w W s)(hid:∀p,a≤p→p<b→s p=p)(hab:a≤b)(hb:b≤d0.size):
  Calls P 169 #[.slice (some ⟨blk,off,none⟩) d0.size cap,.int .i64 a,.int .i64 b,.func (.func g) #[] #[]] W fun e W'=>e= .returned (.tuple #[])∧∃t,SegP s t a b∧Srt (ndO d0) t a b∧Sta enc k blk off d0 w W' t:=by
 obtain⟨d,q,os,hR,rfl⟩:=h;have hs:=hR.1;have hC:CmpLays P g #[] enc k cfN blk off d.size (sortWorldK enc k w blk off q d os):=fun m os' dk hdk x y=>by rw[show sortWorldK enc k (sortWorldK enc k w blk off q d os) blk off m dk os'=sortWorldK enc k w blk off (q+m) dk (os++os')from grow_step_growK enc k w os os' q m blk off d dk B.hblk hdk];exact B.hcmp _ _ dk (by omega) x y
 have hlt:blk<(sortWorldK enc k w blk off q d os).heap.size:=Nat.lt_of_lt_of_le B.hblk (size_sortWorldK_c enc k w blk off q d os);have hc:=AnyQ.insertionSortCmpFunc LI k L.aE L.zE enc B.hk B.h1 cfN g #[] blk off cap a b d _ B.eg hC (holdsK_sortWorldK_c enc k w blk off d0 d q os B.hH B.hblk hs) hlt hab (by omega) (by have:=B.hsz;omega);rw[hs]at hc;refine hc.mono ?_;rintro e W' ⟨rfl,n,os',rfl⟩;obtain⟨t,h1,h2,h3⟩:=Zmw hid hR (by omega);refine⟨rfl,t,h2,h3,_,q+n,os++os',h1,?_⟩;exact grow_step_growK enc k w os os' q n blk off d _ B.hblk (by rw[h1.1,hs])
theorem Stg.step {nd:Nat→Int}{K bs q n a b:Nat}{t:Nat→Nat}(h:Stg nd K bs q n s)(hk:0<bs)(ha:a=q*(K*bs))(hb:b=min (a+K*bs) n)(h1:SegP s t a b)(h2:Srt nd t a b):Stg nd K bs (q+1) n t:=by subst ha;rw[hb]at h1 h2;exact h.next hk h1 h2
theorem Stg.self {nd:Nat→Int}{q n a b:Nat}(h:Stg nd 20 1 q n s)(ha:a=q*(20*1))(hb:b≤n):∀p,a≤p→p<b→s p=p:=fun p h1 h2=>by have:=(h.hi p (by omega)).c p (by omega) (by omega) (by omega);omega
theorem Stg.two' {nd:Nat→Int}{bs q n a:Nat}(h:Stg nd 2 bs q n s)(ha:a=q*(2*bs))(b:Nat)(hb:b≤n)(hb2:b≤a+2*bs):
  Srt nd s a (min (a+bs) n)∧Srt nd s (a+bs) b∧Low s a (a+bs) b:=by
 subst ha;exact h.two b hb hb2
theorem ZcO {q x a:Nat}(h:a=q*x):a+x=(q+1)*x:=by rw[Nat.add_mul,Nat.one_mul,h]
set_option maxHeartbeats 4000000 in
set_option maxRecDepth 1000000 in
theorem Zjm(L:SrtP P k)(LI:SlLaysF0.n20 P srtRen)(FS:P.funcs[226]? =some Tryz.f226)(FR:P.funcs[208]? =some Tryz.f208)(FG:P.funcs[170]? =some Tryz.f170)(FT:P.funcs[120]? =some Tryz.f120)(B:SB P k g enc blk off d0 w)(cap n:Nat)(hnd:n=d0.size)(hn:n≤1000000):
  Calls P 120 #[.slice (some ⟨blk,off,none⟩) n cap,.int .i64 n,.func (.func g) #[] #[]] w fun e W'=>e= .returned (.tuple #[])∧∃t,SegP (fun i=>i) t 0 n∧Srt (ndO d0) t 0 n∧Sta enc k blk off d0 w W' t:=by
 have HI:Hid (∀(a b:Nat) (W:World) (s:Nat→Nat),Sta enc k blk off d0 w W s→(∀p,a≤p→p<b→s p=p)→a≤b→b≤n→Calls P 169 #[.slice (some ⟨blk,off,none⟩) n cap,.int .i64 a,.int .i64 b,.func (.func g) #[] #[]] W fun e W'=>e= .returned (.tuple #[])∧∃t,SegP s t a b∧Srt (ndO d0) t a b∧Sta enc k blk off d0 w W' t):=by subst hnd;exact fun a b W s h1 h2 h3 h4=>ZnT L LI B cap a b h1 h2 h3 h4
 have HY:Hid (∀(a m b:Nat) (W:World) (s:Nat→Nat),a<m→m<b→b≤n→Srt (ndO d0) s a m→Srt (ndO d0) s m b→Low s a m b→Sta enc k blk off d0 w W s→Calls P 170 #[.slice (some ⟨blk,off,none⟩) n cap,.int .i64 a,.int .i64 m,.int .i64 b,.func (.func g) #[] #[]] W fun e W'=>e= .returned (.tuple #[])∧∃t,SegP s t a b∧Srt (ndO d0) t a b∧Sta enc k blk off d0 w W' t):=by subst hnd;exact fun a m b W s h1 h2 h3 h4 h5 h6 h7=>Zku L FS FR FG B cap (b-a) a m b W s (Nat.le_refl _) h1 h2 h3 h4 h5 h6 h7
 have hS0:=Sta.start B;have eI:∀args w,(callFunc 169 args).run P w= .ok (.enter 169 args) w:=LI.f20.enters rfl;have eY:∀args w,(callFunc 170 args).run P w= .ok (.enter 170 args) w:=enters_of FG (by kernel_rfl) rfl;have mixed:=L.mixed;have t0:=L.t0;have a0:=L.a0;have z0:=L.z0;have v0:=L.v0;have t3:=L.t3;have a3:=L.a3;have z3:=L.z3;have v3:=L.v3;have t4:=L.t4;have a4:=L.a4;have z4:=L.z4;have v4:=L.v4;have t22:=L.t22;have a22:=L.a22;have z22:=L.z22;have v22:=L.v22;have t25:=L.t25;have a25:=L.a25;have z25:=L.z25;have v25:=L.v25;have aE:=L.aE;have zE:=L.zE;have tu:=L.tu;have au:=L.au;have zu:=L.zu;have vu:=L.vu;have eg:=B.eg;clear B L FS FR LI FG hnd;go_enter FT,Tryz.ntmps120;go_wp2;go_loopg[7,8] n (fun fu va vb wr=>∃(q a:Nat) (t:Nat→Nat),va= .int .i64 a∧vb= .int .i64 (a+20:Nat)∧Hid (a=q*(20*1))∧a≤n∧n-a≤fu∧Hid (Stg (ndO d0) 20 1 q n t)∧Hid (SegP (fun i=>i) t 0 n)∧Sta enc k blk off d0 w wr t)
 case atStart=>exact⟨0,0,fun i=>i,rfl,rfl,(Nat.zero_mul _).symm,Nat.zero_le _,Nat.le_refl _,Stg.start _ _ _,SegP.refl _ _ _,hS0⟩
 case round=>
  clear hS0;obtain⟨q,a,t,rfl,rfl,HA,han,hfu,HG,HP,hS⟩:=hrel;by_cases hlt:a+20≤n
  ·have hltz:(a:Int)+20≤(n:Int):=by omega
   have hc:=HI.out a (a+20) _ _ hS (HG.out.self HA.out hlt) (by omega) hlt;clear hS;go_wp2_with (go_at_fn 169;refine hc.mono ?_;rintro e W2 ⟨rfl,t2,h1,h2,hS⟩);clear hc;have HG2:=Za (HG.out.step (by decide) HA.out (show a+20=min (a+20*1) n by omega) h1 h2);have HP2:=Za (HP.out.trans (h1.mono (Nat.zero_le _) hlt));clear HG HP h1 h2;go_wp2;go_roundg (n-(a+20))
   case measure=>omega
   case rel=>exact⟨q+1,a+20,t2,by go_num,by go_num,ZcO HA.out,hlt,Nat.le_refl _,HG2,HP2,hS⟩
  ·have hltz:¬(a:Int)+20≤(n:Int):=by omega
   have hc:=HI.out a n _ _ hS (HG.out.self HA.out (Nat.le_refl _)) han (Nat.le_refl _);clear hS;go_wp2_with (go_at_fn 169;refine hc.mono ?_;rintro e W2 ⟨rfl,t2,h1,h2,hS⟩);clear hc;have HG2:=Za ((HG.out.step (by decide) HA.out (show n=min (a+20*1) n by omega) h1 h2).again (by have:=ZcO HA.out;omega) 2);have HP2:=Za (HP.out.trans (h1.mono (Nat.zero_le _) (Nat.le_refl _)));clear HG HP h1 h2 HA hlt hltz han hfu;go_wp2;go_loopg[6,7,8,9] n (fun fu vs va vb vm wr=>∃(bs:Nat) (t:Nat→Nat),vs= .int .i64 bs∧20≤bs∧bs≤2000020∧n-bs≤fu∧Hid (Stg (ndO d0) 2 bs 0 n t)∧Hid (SegP (fun i=>i) t 0 n)∧Sta enc k blk off d0 w wr t)
   case atStart=>exact⟨20,t2,rfl,by omega,by omega,by omega,HG2,HP2,hS⟩
   case round=>
    clear hS HG2 HP2;obtain⟨bs,t,rfl,hb1,hb2,hfu,HG,HP,hS⟩:=hrel;by_cases hlt:bs<n
    ·have hltz:(bs:Int)<(n:Int):=by omega
     go_wp2;go_loopg[7,8] n (fun fu va vb wr=>∃(q a:Nat) (t:Nat→Nat),va= .int .i64 a∧vb= .int .i64 (a+2*bs:Nat)∧Hid (a=q*(2*bs))∧a≤n∧n-a≤fu∧Hid (Stg (ndO d0) 2 bs q n t)∧Hid (SegP (fun i=>i) t 0 n)∧Sta enc k blk off d0 w wr t)
     case atStart=>exact⟨0,0,t,rfl,by go_num,(Nat.zero_mul _).symm,Nat.zero_le _,Nat.le_refl _,HG,HP,hS⟩
     case round=>
      clear hS HG HP;obtain⟨q,a,t,rfl,rfl,HA,han,hfu2,HG,HP,hS⟩:=hrel;by_cases hlt2:a+2*bs≤n
      ·have hltz2:(a:Int)+2*(bs:Int)≤(n:Int):=by omega
       obtain⟨k1,k2,k3⟩:=HG.out.two' HA.out (a+2*bs) hlt2 (Nat.le_refl _);rw[show min (a+bs) n=a+bs by omega]at k1;have hc:=HY.out a (a+bs) (a+2*bs) _ _ (by omega) (by omega) hlt2 k1 k2 k3 hS;clear hS k1 k2 k3;go_wp2_with (go_at_fn 170;refine hc.mono ?_;rintro e W2 ⟨rfl,t2,h1,h2,hS⟩);clear hc;have HG2:=Za (HG.out.step (by omega) HA.out (show a+2*bs=min (a+2*bs) n by omega) h1 h2);have HP2:=Za (HP.out.trans (h1.mono (Nat.zero_le _) hlt2));clear HG HP h1 h2;go_wp2;go_roundg (n-(a+2*bs))
       case measure=>omega
       case rel=>exact⟨q+1,a+2*bs,t2,by go_num,by go_num,ZcO HA.out,hlt2,Nat.le_refl _,HG2,HP2,hS⟩
      ·have hltz2:¬(a:Int)+2*(bs:Int)≤(n:Int):=by omega
       by_cases hlt3:a+bs<n
       ·have hltz3:(a:Int)+(bs:Int)<(n:Int):=by omega
        obtain⟨k1,k2,k3⟩:=HG.out.two' HA.out n (Nat.le_refl _) (by omega);rw[show min (a+bs) n=a+bs by omega]at k1;have hc:=HY.out a (a+bs) n _ _ (by omega) (by omega) (Nat.le_refl _) k1 k2 k3 hS;clear hS k1 k2 k3;go_wp2_with (go_at_fn 170;refine hc.mono ?_;rintro e W2 ⟨rfl,t2,h1,h2,hS⟩);clear hc;have HG2:=Za ((HG.out.step (by omega) HA.out (show n=min (a+2*bs) n by omega) h1 h2).again (by have:=ZcO HA.out;omega) 2);have HP2:=Za (HP.out.trans (h1.mono (Nat.zero_le _) (Nat.le_refl _)));clear HG HP h1 h2;go_wp2;go_roundg (n-(2*bs))
        case measure=>omega
        case rel=>exact⟨2*bs,t2,by go_num,by omega,by omega,Nat.le_refl _,HG2,HP2,hS⟩
       ·have hltz3:¬(a:Int)+(bs:Int)<(n:Int):=by omega
        obtain⟨k1,k2,k3⟩:=HG.out.two' HA.out n (Nat.le_refl _) (by omega);rw[show min (a+bs) n=n by omega]at k1;have HG2:=Za ((HG.out.step (by omega) HA.out (show n=min (a+2*bs) n by omega) (SegP.refl _ _ _) k1).again (by have:=ZcO HA.out;omega) 2);clear HG k1 k2 k3;go_wp2;go_roundg (n-(2*bs))
        case measure=>omega
        case rel=>exact⟨2*bs,t,by go_num,by omega,by omega,Nat.le_refl _,HG2,HP,hS⟩
    ·have hltz:¬(bs:Int)<(n:Int):=by omega
     go_wp2;go_end0;exact⟨rfl,t,HP.out,HG.out.done (by omega),hS⟩
end
end Go.Proofs.YtnnfhojhbbcbmaaGreatDoor
namespace Go.Proofs.YtnnfhojhbbcbmaaGreatDoor
set_option maxRecDepth 100000
set_option maxHeartbeats 4000000
open Go.RowKit Go.Shelf Go.Lib Go.Sort
theorem srtP:SrtP Tryz.prog 4:={
 mixed:=by kernel_rfl
 t0:=Tryz.underlying0
 a0:=Tryz.isAgg0
 z0:=Tryz.sizeOf0
 v0:=Tryz.zeroValue0
 t3:=Tryz.underlying3
 a3:=Tryz.isAgg3
 z3:=Tryz.sizeOf3
 v3:=Tryz.zeroValue3
 t4:=Tryz.underlying4
 a4:=Tryz.isAgg4
 z4:=Tryz.sizeOf4
 v4:=Tryz.zeroValue4
 t22:=Tryz.underlying28
 a22:=Tryz.isAgg28
 z22:=Tryz.sizeOf28
 v22:=Tryz.zeroValue28
 t25:=Tryz.underlying95
 a25:=Tryz.isAgg95
 z25:=Tryz.sizeOf95
 v25:=Tryz.zeroValue95
 tu:=Tryz.underlying56
 au:=Tryz.isAgg56
 zu:=Tryz.sizeOf56
 vu:=Tryz.zeroValue56
 aE:=Tryz.isAgg24
 zE:=Tryz.sizeOf24}
theorem ZnU:SlLaysF0.n20 Tryz.prog srtRen:={
 mixed:=by kernel_rfl
 f20:=⟨Tryz.f169.name,by kernel_rfl,Tryz.func169.trans (congrArg some (by kernel_rfl))⟩
 t0:=Tryz.underlying0
 a0:=Tryz.isAgg0
 z0:=Tryz.sizeOf0
 v0:=Tryz.zeroValue0
 t3:=Tryz.underlying3
 a3:=Tryz.isAgg3
 z3:=Tryz.sizeOf3
 v3:=Tryz.zeroValue3
 t4:=Tryz.underlying4
 a4:=Tryz.isAgg4
 z4:=Tryz.sizeOf4
 v4:=Tryz.zeroValue4
 t22:=Tryz.underlying28
 a22:=Tryz.isAgg28
 z22:=Tryz.sizeOf28
 v22:=Tryz.zeroValue28
 t25:=Tryz.underlying95
 a25:=Tryz.isAgg95
 z25:=Tryz.sizeOf95
 v25:=Tryz.zeroValue95}
theorem ZfH(x:Int)(w:World):Calls Tryz.prog 121 #[.int .i64 x] w fun e w'=>e= .returned (.bool false)∧w=w':=by go_enter Tryz.func121,Tryz.ntmps121;go_wp2;go_ret;exact⟨rfl,rfl⟩
def ZnV(x y:Int):Int:=if x<y then-1 else if y<x then 1 else 0
theorem Zmy(x y:Int)(w:World):Calls Tryz.prog 74 #[.int .i64 x,.int .i64 y] w fun e w'=>e= .returned (.int .i64 (ZnV x y))∧w=w':=by
 by_cases h1:x<y
 ·have H:Hid (ZnV x y= -1):=if_pos h1;go_enter Tryz.func74,Tryz.ntmps74;go_wp2_with (go_at_call 121;refine(ZfH _ _).mono ?_;rintro e w' ⟨rfl,rfl⟩);go_ret;exact⟨by rw[H.out];rfl,rfl⟩
 ·have h1f:decide (x<y)=false:=decide_eq_false h1;by_cases h2:y<x
  ·have H:Hid (ZnV x y=1):=(if_neg h1).trans (if_pos h2);clear h1;go_enter Tryz.func74,Tryz.ntmps74;go_wp2_with (go_at_call 121;refine(ZfH _ _).mono ?_;rintro e w' ⟨rfl,rfl⟩);go_ret;exact⟨by rw[H.out];rfl,rfl⟩
  ·have H:Hid (ZnV x y=0):=(if_neg h1).trans (if_neg h2);have h2f:decide (y<x)=false:=decide_eq_false h2;clear h1 h2;go_enter Tryz.func74,Tryz.ntmps74;go_wp2_with (go_at_call 121;refine(ZfH _ _).mono ?_;rintro e w' ⟨rfl,rfl⟩);go_ret;exact⟨by rw[H.out];rfl,rfl⟩
theorem Zhn(x y:It)(w:World):Calls Tryz.prog 73 #[itV x,itV y] w fun e w'=>e= .returned (.int .i64 (cfN x y))∧∃q os',w'=grow (w.drewN q) os':=by
 obtain⟨k,n,s,d⟩:=x;obtain⟨k2,n2,s2,d2⟩:=y;have H:Hid (cfN ⟨k,n,s,d⟩ ⟨k2,n2,s2,d2⟩=ZnV d d2):=rfl;show Calls _ _ #[.agg #[.int .u8 k,.int .i64 n,.string s,.int .i64 d],.agg #[.int .u8 k2,.int .i64 n2,.string s2,.int .i64 d2]] _ _;have HG:Hid ((w.alloc (.cells #[.int .u8 k,.int .i64 n,.string s,.int .i64 d] 24)).alloc (.cells #[.int .u8 k2,.int .i64 n2,.string s2,.int .i64 d2] 24)=grow (w.drewN 0) (#[.cells #[.int .u8 k,.int .i64 n,.string s,.int .i64 d] 24]++#[.cells #[.int .u8 k2,.int .i64 n2,.string s2,.int .i64 d2] 24])):=by show _=_;rw[alloc_eq_grow,alloc_eq_grow,grow_grow];rfl
 go_enter Tryz.func73,Tryz.ntmps73;go_wp2_with fail;refine(Zmy d d2 _).mono ?_;rintro e w' ⟨rfl,rfl⟩;go_wp2;go_ret;exact⟨by rw[H.out];rfl,0,_,HG.out⟩
theorem Zii(x y:It)(w:World):Calls Tryz.prog 76 #[itV x,itV y] w fun e w'=>e= .returned (.bool (x.node==y.node))∧∃q os',w'=grow (w.drewN q) os':=by
 obtain⟨k,n,s,d⟩:=x;obtain⟨k2,n2,s2,d2⟩:=y;show Calls _ _ #[.agg #[.int .u8 k,.int .i64 n,.string s,.int .i64 d],.agg #[.int .u8 k2,.int .i64 n2,.string s2,.int .i64 d2]] _ _;have HG:Hid ((w.alloc (.cells #[.int .u8 k,.int .i64 n,.string s,.int .i64 d] 24)).alloc (.cells #[.int .u8 k2,.int .i64 n2,.string s2,.int .i64 d2] 24)=grow (w.drewN 0) (#[.cells #[.int .u8 k,.int .i64 n,.string s,.int .i64 d] 24]++#[.cells #[.int .u8 k2,.int .i64 n2,.string s2,.int .i64 d2] 24])):=by show _=_;rw[alloc_eq_grow,alloc_eq_grow,grow_grow];rfl
 go_enter Tryz.func76,Tryz.ntmps76;go_wp2;go_ret;exact⟨rfl,0,_,HG.out⟩
theorem Zkv:∀(x:It) (v:Value),v∈itC x→v.oneCell'=true:=by intro x v hv;simp only[itC,List.mem_cons,List.not_mem_nil,or_false]at hv;rcases hv with rfl|rfl|rfl|rfl<;>rfl
theorem srtB {g:Nat}{d0:Array It}{w:World}(hH:HoldsK itC 4 w g 0 d0)(hg:g<w.heap.size)(hn:d0.size≤1000000):SB Tryz.prog 4 73 itC g 0 d0 w:=
 ⟨fun _=>rfl,Zkv,hH,hg,by omega,enters_of Tryz.func73 (by kernel_rfl) rfl,fun m os dk _ x y=>by rw[Array.append_empty];exact Zhn x y _⟩
theorem ZnW(a:Option Addr)(c:Nat)(f:Value)(w:World):Calls Tryz.prog 169 #[.slice a 0 c,.int .i64 0,.int .i64 0,f] w fun e w'=>e= .returned (.tuple #[])∧w=w':=by
 go_enter Tryz.func169,Tryz.ntmps169;go_wp2;go_loopw[8] (fun v W=>v= .int .i64 1∧w=W) (fun _ _=>0)
 case atStart=>exact⟨rfl,rfl⟩
 case round=>obtain⟨rfl,rfl⟩:=hrel;go_wp2;go_end0;exact⟨rfl,rfl⟩
theorem Zjn(a:Option Addr)(c:Nat)(f:Value)(w:World):Calls Tryz.prog 120 #[.slice a 0 c,.int .i64 0,f] w fun e w'=>e= .returned (.tuple #[])∧w=w':=by
 go_enter Tryz.func120,Tryz.ntmps120;go_wp2;go_loopw[7,8] (fun v v2 W=>v= .int .i64 0∧v2= .int .i64 20∧w=W) (fun _ _ _=>0)
 case atStart=>exact⟨rfl,rfl,rfl⟩
 case round=>
  obtain⟨rfl,rfl,rfl⟩:=hrel;go_wp2_with fail;refine(ZnW a c f _).mono ?_;rintro e w' ⟨rfl,rfl⟩;go_wp2;go_loopw[6,7,8,9] (fun v v2 v3 v4 W=>v= .int .i64 20∧w=W) (fun _ _ _ _ _=>0)
  case atStart=>exact⟨rfl,rfl⟩
  case round=>obtain⟨rfl,rfl⟩:=hrel;go_wp2;go_end0;exact⟨rfl,rfl⟩
theorem ZeL(g n cap:Nat)(d0:Array It)(w:World)(hnd:n=d0.size)(hH:HoldsK itC 4 w g 0 d0)(hg:g<w.heap.size)(hn:n≤1000000):
  Calls Tryz.prog 72 #[.slice (some ⟨g,0,none⟩) n cap,.func (.func 73) #[] #[]] w fun e W'=>e= .returned (.tuple #[])∧∃t,SegP (fun i=>i) t 0 n∧Srt (ndO d0) t 0 n∧Sta itC 4 g 0 d0 w W' t:=by
 have hc:=Zjm srtP ZnU Tryz.func226 Tryz.func208 Tryz.func170 Tryz.func120 (srtB hH hg (by omega)) cap n hnd hn;have HC:=Za hc;clear hc hnd hH;go_enter Tryz.func72,Tryz.ntmps72;go_wp2_with fail;refine HC.out.mono ?_;rintro e w' ⟨rfl,h⟩;go_wp2;go_end0;exact⟨rfl,h⟩
theorem ZeM(a:Option Addr)(c:Nat)(f:Value)(w:World):
  Calls Tryz.prog 72 #[.slice a 0 c,f] w fun e w'=>e= .returned (.tuple #[])∧w=w':=by
 go_enter Tryz.func72,Tryz.ntmps72;go_wp2_with fail;refine(Zjn a c f _).mono ?_;rintro e w' ⟨rfl,rfl⟩;go_wp2;go_end0;exact⟨rfl,rfl⟩
end Go.Proofs.YtnnfhojhbbcbmaaGreatDoor
namespace Go.Proofs.YtnnfhojhbbcbmaaGreatDoor
structure NodesOk (l R:List It):Prop where
 up:R.Pairwise (fun(x y:It)=>x.node<y.node)
 first:∀x∈R,∃i,l[i]? =some x∧∀(j:Nat) (y:It),j<i→l[j]? =some y→y.node≠x.node
 all:∀y∈l,∃x∈R,x.node=y.node
theorem Zfr:∀(R R':List It),R.Pairwise (fun(x y:It)=>x.node<y.node)→R'.Pairwise (fun(x y:It)=>x.node<y.node)→(∀x,x∈R↔x∈R')→R=R'
 | [],[],_,_,_=>rfl
 | [],y::R',_,_,h=>absurd ((h y).2 (by simp)) (by simp)
 |x::R,[],_,_,h=>absurd ((h x).1 (by simp)) (by simp)
 |x::R,y::R',h1,h2,h=>by
  have p1:=List.pairwise_cons.1 h1;have p2:=List.pairwise_cons.1 h2
  have e:x=y:=by
   rcases List.mem_cons.1 ((h x).1 (by simp))with e|hx
   ·exact e
   ·rcases List.mem_cons.1 ((h y).2 (by simp))with e|hy
    ·exact e.symm
    ·have a1:=p2.1 x hx;have a2:=p1.1 y hy;omega
  subst e;congr 1;refine Zfr R R' p1.2 p2.2 fun z=>⟨fun hz=>?_,fun hz=>?_⟩
  ·rcases List.mem_cons.1 ((h z).1 (by simp[hz]))with e|hz2
   ·subst e;have:=p1.1 z hz;omega
   ·exact hz2
  ·rcases List.mem_cons.1 ((h z).2 (by simp[hz]))with e|hz2
   ·subst e;have:=p2.1 z hz;omega
   ·exact hz2
theorem NodesOk.unique {l R R':List It}(h:NodesOk l R)(k:NodesOk l R'):R=R':=by
 have key:∀{A B:List It},NodesOk l A→NodesOk l B→∀x,x∈A→x∈B:=by
  intro A B hA hB x hx;obtain⟨i,hi,hf⟩:=hA.first x hx;obtain⟨y,hy,hxy⟩:=hB.all x (List.mem_of_getElem? hi);obtain⟨j,hj,hg⟩:=hB.first y hy
  have:i=j:=by
   rcases Nat.lt_trichotomy i j with h1|h1|h1
   ·exact absurd hxy.symm (hg i x h1 hi)
   ·exact h1
   ·exact absurd hxy (hf j y h1 hj)
  subst this;rw[hi]at hj;injection hj with hj;rw[hj];exact hy
 exact Zfr R R' h.up k.up fun x=>⟨key h k x,key k h x⟩
end Go.Proofs.YtnnfhojhbbcbmaaGreatDoor
namespace Go.Proofs.YtnnfhojhbbcbmaaGreatDoor
def ZY:List It→List It
 | []=>[]
 | [x]=>[x]
 |x::y::r=>if x.node=y.node then ZY (x::r)else x::ZY (y::r)
termination_by l=>l.length
def lexP(x y:It×Nat):Prop:=x.1.node<y.1.node∨(x.1.node=y.1.node∧x.2<y.2)
theorem ZfI:∀(n:Nat) (L:List (It×Nat)),L.length=n→L.Pairwise lexP→
  (ZY (L.map Prod.fst)).Pairwise (fun(x y:It)=>x.node<y.node)∧
  (∀x∈ZY (L.map Prod.fst),∃p∈L,p.1=x∧∀q∈L,q.1.node=x.node→p.2≤q.2)∧
  (∀q∈L,∃x∈ZY (L.map Prod.fst),x.node=q.1.node)
 |_,[],_,_=>⟨by simp[ZY],by simp[ZY],by simp⟩
 |_,[p],_,_=>by
  refine⟨by simp[ZY],fun x hx=>?_,fun q hq=>?_⟩
  ·simp[ZY]at hx;subst hx;exact⟨p,by simp,rfl,fun q hq _=>by simp at hq;subst hq;exact Nat.le_refl _⟩
  ·simp at hq;subst hq;exact⟨q.1,by simp[ZY],rfl⟩
 |0,_::_::_,h,_=>by simp at h
 |n+1,p::p2::r,hn,h=>by
  have hp:=List.pairwise_cons.1 h;have hp2:=List.pairwise_cons.1 hp.2;by_cases e:p.1.node=p2.1.node
  ·have hc:ZY ((p::p2::r).map Prod.fst)=ZY ((p::r).map Prod.fst):=by
    show ZY (p.1::p2.1::r.map Prod.fst)=ZY (p.1::r.map Prod.fst);rw[ZY,if_pos e]
   rw[hc];have hw:(p::r).Pairwise lexP:=List.pairwise_cons.2 ⟨fun q hq=>hp.1 q (by simp[hq]),hp2.2⟩;obtain⟨a1,a2,a3⟩:=ZfI n (p::r) (by simp at hn⊢;omega) hw;refine⟨a1,fun x hx=>?_,fun q hq=>?_⟩
   ·obtain⟨t,ht,e1,hm⟩:=a2 x hx;refine⟨t,?_,e1,fun q hq hqn=>?_⟩
    ·rcases List.mem_cons.1 ht with ht|ht
     ·simp[ht]
     ·simp[ht]
    ·rcases List.mem_cons.1 hq with h1|h1
     ·exact hm q (by simp[h1]) hqn
     ·rcases List.mem_cons.1 h1 with h2|h2
      ·--p2:its node is p's,and p stands ahead
       subst h2;have:=hm p (by simp) (by rw[e];exact hqn);rcases hp.1 q (by simp)with h3|h3
       ·omega
       ·omega
      ·exact hm q (by simp[h2]) hqn
   ·rcases List.mem_cons.1 hq with h1|h1
    ·exact a3 q (by simp[h1])
    ·rcases List.mem_cons.1 h1 with h2|h2
     ·subst h2;obtain⟨x,hx,ex⟩:=a3 p (by simp);exact⟨x,hx,ex.trans e⟩
     ·exact a3 q (by simp[h2])
  ·have hc:ZY ((p::p2::r).map Prod.fst)=p.1::ZY ((p2::r).map Prod.fst):=by
    show ZY (p.1::p2.1::r.map Prod.fst)=p.1::ZY (p2.1::r.map Prod.fst);rw[ZY,if_neg e]
   rw[hc];obtain⟨a1,a2,a3⟩:=ZfI n (p2::r) (by simp at hn⊢;omega) hp.2
   have hlt:p.1.node<p2.1.node:=by
    rcases hp.1 p2 (by simp)with h1|h1
    ·exact h1
    ·exact absurd h1.1 e
   have hall:∀q∈p2::r,p.1.node<q.1.node:=fun q hq=>by
    rcases List.mem_cons.1 hq with h1|h1
    ·rw[h1];exact hlt
    ·rcases hp2.1 q h1 with h2|h2
     ·omega
     ·omega
   refine⟨List.pairwise_cons.2 ⟨fun x hx=>?_,a1⟩,fun x hx=>?_,fun q hq=>?_⟩
   ·obtain⟨t,ht,e1,_⟩:=a2 x hx;rw[←e1];exact hall t ht
   ·rcases List.mem_cons.1 hx with h1|h1
    ·refine⟨p,by simp,h1.symm,fun q hq hqn=>?_⟩;rcases List.mem_cons.1 hq with h2|h2
     ·rw[h2];exact Nat.le_refl _
     ·have:=hall q h2;rw[h1]at hqn;omega
    ·obtain⟨t,ht,e1,hm⟩:=a2 x h1;refine⟨t,by simp[List.mem_cons.1 ht],e1,fun q hq hqn=>?_⟩;rcases List.mem_cons.1 hq with h2|h2
     ·have:=hall t ht;rw[h2,←e1]at hqn;omega
     ·exact hm q h2 hqn
   ·rcases List.mem_cons.1 hq with h1|h1
    ·exact⟨p.1,by simp,by rw[h1]⟩
    ·obtain⟨x,hx,ex⟩:=a3 q h1;exact⟨x,List.mem_cons_of_mem _ hx,ex⟩
def Zbe(x:It):List It→List It
 | []=>[x]
 |y::r=>if y.node<x.node then y::Zbe x r else if y.node=x.node then y::r else x::y::r
theorem ZfJ(x z:It):∀R:List It,z∈Zbe x R→z=x∨z∈R
 | [],h=>by simp[Zbe]at h;exact .inl h
 |y::r,h=>by
  unfold Zbe at h;split at h
  ·rcases List.mem_cons.1 h with h1|h1
   ·exact .inr (by simp[h1])
   ·rcases ZfJ x z r h1 with h2|h2
    ·exact .inl h2
    ·exact .inr (by simp[h2])
  ·split at h
   ·exact .inr h
   ·rcases List.mem_cons.1 h with h1|h1
    ·exact .inl h1
    ·exact .inr h1
theorem Zkw(x:It):∀R:List It,R.Pairwise (fun(x y:It)=>x.node<y.node)→(Zbe x R).Pairwise (fun(x y:It)=>x.node<y.node)
 | [],_=>by simp[Zbe]
 |y::r,h=>by
  have hp:=List.pairwise_cons.1 h;unfold Zbe;split
  ·refine List.pairwise_cons.2 ⟨fun z hz=>?_,Zkw x r hp.2⟩;rcases ZfJ x z r hz with h1|h1
   ·rw[h1];assumption
   ·exact hp.1 z h1
  ·split
   ·exact h
   ·refine List.pairwise_cons.2 ⟨fun z hz=>?_,h⟩;rcases List.mem_cons.1 hz with h1|h1
    ·rw[h1];omega
    ·have:=hp.1 z h1;omega
theorem ZiO(x z:It):∀R:List It,z∈R→z∈Zbe x R
 | [],h=>by cases h
 |y::r,h=>by
  unfold Zbe;split
  ·rcases List.mem_cons.1 h with h1|h1
   ·simp[h1]
   ·simp[ZiO x z r h1]
  ·split
   ·exact h
   ·exact List.mem_cons_of_mem _ h
theorem ZiP(x:It):∀R:List It,∃z∈Zbe x R,z.node=x.node
 | []=>⟨x,by simp[Zbe],rfl⟩
 |y::r=>by
  unfold Zbe;split
  ·obtain⟨z,hz,e⟩:=ZiP x r;exact⟨z,by simp[hz],e⟩
  ·split
   ·exact⟨y,by simp,by assumption⟩
   ·exact⟨x,by simp,rfl⟩
theorem ZiQ(x:It):∀R:List It,R.Pairwise (fun(x y:It)=>x.node<y.node)→x∈Zbe x R→x∈R∨∀z∈R,z.node≠x.node
 | [],_,_=> .inr fun z hz=>by cases hz
 |y::r,hp,h=>by
  have hp2:=List.pairwise_cons.1 hp;unfold Zbe at h;split at h
  ·rcases List.mem_cons.1 h with h1|h1
   ·exact .inl (by simp[h1])
   ·rcases ZiQ x r hp2.2 h1 with h2|h2
    ·exact .inl (by simp[h2])
    ·refine .inr fun z hz=>?_;rcases List.mem_cons.1 hz with h3|h3
     ·rw[h3];omega
     ·exact h2 z h3
  ·split at h
   ·exact .inl h
   ·refine .inr fun z hz=>?_;rcases List.mem_cons.1 hz with h3|h3
    ·rw[h3];omega
    ·have:=hp2.1 z h3;omega
theorem NodesOk.nil:NodesOk [] []:=⟨List.Pairwise.nil,fun x h=>(by cases h),fun y h=>(by cases h)⟩
theorem NodesOk.snoc {l R:List It}(h:NodesOk l R)(x:It):NodesOk (l++[x]) (Zbe x R):=by
 refine⟨Zkw x R h.up,fun z hz=>?_,fun y hy=>?_⟩
 ·have hold:z∈R→∃i,(l++[x])[i]? =some z∧∀(j:Nat) (y:It),j<i→(l++[x])[j]? =some y→y.node≠z.node:=fun hz=>by
   obtain⟨i,hi,hf⟩:=h.first z hz;have hil:i<l.length:=(List.getElem?_eq_some_iff.1 hi).1;refine⟨i,by rw[List.getElem?_append_left hil];exact hi,fun j y hj hy=>?_⟩;rw[List.getElem?_append_left (by omega)]at hy;exact hf j y hj hy
  rcases ZfJ x z R hz with h1|h1
  ·subst h1;rcases ZiQ z R h.up hz with h2|h2
   ·exact hold h2
   ·refine⟨l.length,by simp,fun j y hj hy=>?_⟩;rw[List.getElem?_append_left hj]at hy;obtain⟨u,hu,e⟩:=h.all y (List.mem_of_getElem? hy);rw[←e];exact h2 u hu
  ·exact hold h1
 ·rcases List.mem_append.1 hy with h1|h1
  ·obtain⟨u,hu,e⟩:=h.all y h1;exact⟨u,ZiO x u R hu,e⟩
  ·rw[List.mem_singleton]at h1;subst h1;exact ZiP y R
end Go.Proofs.YtnnfhojhbbcbmaaGreatDoor
