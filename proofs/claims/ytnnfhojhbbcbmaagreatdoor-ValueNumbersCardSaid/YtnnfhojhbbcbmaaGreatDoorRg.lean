/- The reference: numbers, all of them. -/
import Derived.Test.YtnnfhojhbbcbmaaGreatDoorC39
namespace Go.Proofs.YtnnfhojhbbcbmaaGreatDoor
set_option maxRecDepth 100000
set_option maxHeartbeats 4000000
open Go.RowKit
theorem ZjB(p:Option Addr)(c:Nat)(w:World):Calls Tryz.prog 81 #[.string ⟨#[109,105,110]⟩,.slice p 0 c] w (Res w [] 0):=by go_enter Tryz.func81,Tryz.ntmps81;go_wp2;go_ret2;exact⟨.slice none 0 0,rfl,OwI.nil _ _,Below.refl _ _⟩
theorem ZjC(p:Option Addr)(c:Nat)(w:World):Calls Tryz.prog 81 #[.string ⟨#[109,97,120]⟩,.slice p 0 c] w (Res w [] 0):=by go_enter Tryz.func81,Tryz.ntmps81;go_wp2;go_ret2;exact⟨.slice none 0 0,rfl,OwI.nil _ _,Below.refl _ _⟩
theorem Zgt(p:Option Addr)(c:Nat)(w:World):Calls Tryz.prog 81 #[.string ⟨#[110,117,109,98,101,114]⟩,.slice p 0 c] w (Res w [] 0):=by go_enter Tryz.func81,Tryz.ntmps81;go_wp2;go_ret2;exact⟨.slice none 0 0,rfl,OwI.nil _ _,Below.refl _ _⟩
theorem ZjD(p:Option Addr)(c:Nat)(w:World):Calls Tryz.prog 81 #[.string ⟨#[97,98,115]⟩,.slice p 0 c] w (Res w [] 0):=by go_enter Tryz.func81,Tryz.ntmps81;go_wp2;go_ret2;exact⟨.slice none 0 0,rfl,OwI.nil _ _,Below.refl _ _⟩
theorem ZjE(p:Option Addr)(c:Nat)(w:World):Calls Tryz.prog 81 #[.string ⟨#[115,117,109]⟩,.slice p 0 c] w (Res w [⟨2,0,⟨#[]⟩,0⟩] 0):=by
 go_enter Tryz.func81,Tryz.ntmps81;go_wp2_with fail;go_loopw[7,8] (fun v iv W=>v= .int .i64 0∧iv= .int .i64 0∧w=W) (fun _ _ _=>0)
 case atStart=>exact⟨rfl,rfl,rfl⟩
 case round=>obtain⟨rfl,rfl,rfl⟩:=hrel;go_wp2_with fail;refine(Z8 0 _).mono ?_;rintro e w2 ⟨v,rfl,ho,hb2⟩;have Ho:=Za ho;clear ho;go_wp2;go_ret2;exact⟨v,rfl,Ho.out,hb2⟩
theorem ZeP(p:Option Addr)(n c:Nat)(w:World)(hn:1<n):Calls Tryz.prog 81 #[.string ⟨#[110,117,109,98,101,114]⟩,.slice p n c] w (Res w [] 253):=by
 have h1:(1:Int)<(n:Int):=by omega
 have h2:¬(n:Int)=0:=by omega
 have h3:((n:Int)==0)=false:=by simpa using h2
 go_enter Tryz.func81,Tryz.ntmps81;go_wp2;go_ret2;exact⟨.slice none 0 0,rfl,OwI.nil _ _,Below.refl _ _⟩
theorem Zir(p:Option Addr)(n c:Nat)(w:World)(hn:1<n):Calls Tryz.prog 81 #[.string ⟨#[97,98,115]⟩,.slice p n c] w (Res w [] 253):=by
 have h1:(1:Int)<(n:Int):=by omega
 have h2:¬(n:Int)=0:=by omega
 have h3:((n:Int)==0)=false:=by simpa using h2
 go_enter Tryz.func81,Tryz.ntmps81;go_wp2;go_ret2;exact⟨.slice none 0 0,rfl,OwI.nil _ _,Below.refl _ _⟩
theorem Zcv(b off c:Nat)(W:World):(Instr.indexAt 28 (.slice (some ⟨b,off,none⟩) 1 c) (.int .i64 0)).run Tryz.prog W= .ok (.pointer (some ⟨b,off,none⟩)) W:=ZaP b off 1 c (by decide) W
theorem Zgu(p:Option Addr)(c:Nat)(x:It)(nv:Int)(w:World)(ha:OkA w ⟨p,[x],c⟩)(hR:R64 x.num)(hT:x.kind=4→x.text=⟨#[]⟩)(hne:nE x=0)(hnv:nV x=nv)(hk4:x.kind≠4):
  Calls Tryz.prog 81 #[.string ⟨#[110,117,109,98,101,114]⟩,.slice p 1 c] w (Res w [⟨2,nv,⟨#[]⟩,0⟩] 0):=by
 obtain⟨b,off,hp,c0,c1,c2,c3⟩:=at0 ha.1;dsimp only at hp;subst hp;have hix:=Zcv b off c;obtain⟨xk,xa,xt,xd⟩:=x;dsimp only at c0 c1 c2 c3;have hs1:xt.size≤140737488355328:=ha.2.1 _ (List.mem_singleton.2 rfl);have HnR:=Za (ZgO (x:=⟨xk,xa,xt,xd⟩) hR);have Hnv:=Za hnv;have Hne:=Za hne;have HxT:=Za hT;dsimp only at HxT;have hk5:((xk:Int)==4)=false:=by simpa using(show ¬(xk:Int)=4 by dsimp only at hk4;omega)
 clear ha hR hnv hne hT;obtain⟨r1,hr1⟩:∃r,r=nv:=⟨_,rfl⟩;rw[←hr1];have Hr1:=Za hr1;clear hr1;go_enter Tryz.func81,Tryz.ntmps81;go_wp2_with fail;go_loopw[7,8] (fun v iv W=>∃(k:Nat),k≤1∧iv= .int .i64 k∧(k=0→v= .int .i64 0)∧(k=1→v= .int .i64 r1)∧Below w.heap.size w W) (fun _ iv _=>1-(intOf iv).toNat)
 case atStart=>exact⟨0,by omega,rfl,fun _=>rfl,fun h=>(by cases h),Below.refl _ _⟩
 case round=>
  obtain⟨k,hk,rfl,hv0,hv1,hB⟩:=hrel
  match k,hk with
  |0,_=>
   have hv:=hv0 rfl;subst hv;clear hv1 hv0;have d0:=Zc hB c0;have d1:=Zc hB c1;have d2:=Zc hB c2;have d3:=Zc hB c3;go_wp2_with fail;refine(Zy xk xa xd xt _ HxT.out hs1).mono ?_;rintro e w1 ⟨rfl,hb1⟩;have hB3:=Zb hB hb1;clear hb1 hB d0 d1 d2 d3;rw[Hnv.out,Hne.out];go_wp2;go_roundw
   case rel=>exact⟨1,by omega,rfl,fun h=>(by cases h),fun _=>(Hr1▸rfl),hB3⟩
   case measure=>simp[intOf]
  |1,_=>
   have hv:=hv1 rfl;subst hv;clear hv1 hv0;go_wp2_with fail;refine(Z8 r1 _).mono ?_;rintro e w2 ⟨v,rfl,ho,hb2⟩;have Ho:=Za (ho.mono hB.size);have hB3:=Zb hB hb2;clear ho hb2 hB;go_wp2;go_ret2;exact⟨v,rfl,Ho.out,hB3⟩
theorem Zgv(p:Option Addr)(c:Nat)(x:It)(nv ne:Int)(w:World)(ha:OkA w ⟨p,[x],c⟩)(hR:R64 x.num)(hT:x.kind=4→x.text=⟨#[]⟩)(hne:nE x=ne)(hnv:nV x=nv)(hz:ne≠0)(hk4:x.kind≠4):
  Calls Tryz.prog 81 #[.string ⟨#[110,117,109,98,101,114]⟩,.slice p 1 c] w (Res w [] ne):=by
 obtain⟨b,off,hp,c0,c1,c2,c3⟩:=at0 ha.1;dsimp only at hp;subst hp;have hix:=Zcv b off c;obtain⟨xk,xa,xt,xd⟩:=x;dsimp only at c0 c1 c2 c3;have hs1:xt.size≤140737488355328:=ha.2.1 _ (List.mem_singleton.2 rfl);have HnR:=Za (ZgO (x:=⟨xk,xa,xt,xd⟩) hR);have Hnv:=Za hnv;have Hne:=Za hne;have HxT:=Za hT;dsimp only at HxT;have hk5:((xk:Int)==4)=false:=by simpa using(show ¬(xk:Int)=4 by dsimp only at hk4;omega)
 have hz1:(ne != 0)=true:=by simpa using hz
 clear ha hR hnv hne hT hz;go_enter Tryz.func81,Tryz.ntmps81;go_wp2_with fail;go_loopw[8] (fun iv W=>iv= .int .i64 0∧w=W) (fun _ _=>0)
 case atStart=>exact⟨rfl,rfl⟩
 case round=>obtain⟨rfl,rfl⟩:=hrel;go_wp2_with fail;refine(Zy xk xa xd xt _ HxT.out hs1).mono ?_;rintro e w1 ⟨rfl,hb1⟩;rw[Hnv.out,Hne.out];go_wp2;go_ret2;exact⟨.slice none 0 0,rfl,OwI.nil _ _,hb1⟩
theorem ZeQ(p:Option Addr)(c:Nat)(x:It)(w:World)(ha:OkA w ⟨p,[x],c⟩)(hk4:x.kind=4):
  Calls Tryz.prog 81 #[.string ⟨#[110,117,109,98,101,114]⟩,.slice p 1 c] w (Res w [⟨2,x.num,⟨#[]⟩,0⟩] 0):=by
 obtain⟨b,off,hp,c0,c1,c2,c3⟩:=at0 ha.1;dsimp only at hp;subst hp;have hix:=Zcv b off c;obtain⟨xk,xa,xt,xd⟩:=x;dsimp only at c0 c1 c2 c3 hk4⊢;subst hk4;clear ha;go_enter Tryz.func81,Tryz.ntmps81;go_wp2_with fail;refine(Z8 xa _).mono ?_;rintro e w2 ⟨v,rfl,ho,hb2⟩;have Ho:=Za ho;clear ho;go_wp2;go_ret2;exact⟨v,rfl,Ho.out,hb2⟩
theorem ZjF(p:Option Addr)(c:Nat)(x:It)(nv ne:Int)(w:World)(ha:OkA w ⟨p,[x],c⟩)(hR:R64 x.num)(hT:x.kind=4→x.text=⟨#[]⟩)(hne:nE x=ne)(hnv:nV x=nv)(hz:ne≠0):
  Calls Tryz.prog 81 #[.string ⟨#[97,98,115]⟩,.slice p 1 c] w (Res w [] ne):=by
 obtain⟨b,off,hp,c0,c1,c2,c3⟩:=at0 ha.1;dsimp only at hp;subst hp;have hix:=Zcv b off c;obtain⟨xk,xa,xt,xd⟩:=x;dsimp only at c0 c1 c2 c3;have hs1:xt.size≤140737488355328:=ha.2.1 _ (List.mem_singleton.2 rfl);have HnR:=Za (ZgO (x:=⟨xk,xa,xt,xd⟩) hR);have Hnv:=Za hnv;have Hne:=Za hne;have HxT:=Za hT;dsimp only at HxT;have hz1:(ne != 0)=true:=by simpa using hz
 clear ha hR hnv hne hT hz;go_enter Tryz.func81,Tryz.ntmps81;go_wp2_with fail;go_loopw[8] (fun iv W=>iv= .int .i64 0∧w=W) (fun _ _=>0)
 case atStart=>exact⟨rfl,rfl⟩
 case round=>obtain⟨rfl,rfl⟩:=hrel;go_wp2_with fail;refine(Zy xk xa xd xt _ HxT.out hs1).mono ?_;rintro e w1 ⟨rfl,hb1⟩;rw[Hnv.out,Hne.out];go_wp2;go_ret2;exact⟨.slice none 0 0,rfl,OwI.nil _ _,hb1⟩
theorem ZjG(p:Option Addr)(c:Nat)(x:It)(nv:Int)(w:World)(ha:OkA w ⟨p,[x],c⟩)(hR:R64 x.num)(hT:x.kind=4→x.text=⟨#[]⟩)(hne:nE x=0)(hnv:nV x=nv)(hpos:¬nv<0):
  Calls Tryz.prog 81 #[.string ⟨#[97,98,115]⟩,.slice p 1 c] w (Res w [⟨2,nv,⟨#[]⟩,0⟩] 0):=by
 obtain⟨b,off,hp,c0,c1,c2,c3⟩:=at0 ha.1;dsimp only at hp;subst hp;have hix:=Zcv b off c;obtain⟨xk,xa,xt,xd⟩:=x;dsimp only at c0 c1 c2 c3;have hs1:xt.size≤140737488355328:=ha.2.1 _ (List.mem_singleton.2 rfl);have HnR:=Za (ZgO (x:=⟨xk,xa,xt,xd⟩) hR);have Hnv:=Za hnv;have Hne:=Za hne;have HxT:=Za hT;dsimp only at HxT;have hpos2:¬nv<0:=hpos;clear ha hR hnv hne hT;obtain⟨r1,hr1⟩:∃r,r=nv:=⟨_,rfl⟩;rw[←hr1];have Hr1:=Za hr1;clear hr1;go_enter Tryz.func81,Tryz.ntmps81;go_wp2_with fail;go_loopw[7,8] (fun v iv W=>∃(k:Nat),k≤1∧iv= .int .i64 k∧(k=0→v= .int .i64 0)∧(k=1→v= .int .i64 r1)∧Below w.heap.size w W) (fun _ iv _=>1-(intOf iv).toNat)
 case atStart=>exact⟨0,by omega,rfl,fun _=>rfl,fun h=>(by cases h),Below.refl _ _⟩
 case round=>
  obtain⟨k,hk,rfl,hv0,hv1,hB⟩:=hrel
  match k,hk with
  |0,_=>
   have hv:=hv0 rfl;subst hv;clear hv1 hv0;have d0:=Zc hB c0;have d1:=Zc hB c1;have d2:=Zc hB c2;have d3:=Zc hB c3;go_wp2_with fail;refine(Zy xk xa xd xt _ HxT.out hs1).mono ?_;rintro e w1 ⟨rfl,hb1⟩;have hB3:=Zb hB hb1;clear hb1 hB d0 d1 d2 d3;rw[Hnv.out,Hne.out];go_wp2;go_roundw
   case rel=>exact⟨1,by omega,rfl,fun h=>(by cases h),fun _=>(Hr1▸rfl),hB3⟩
   case measure=>simp[intOf]
  |1,_=>
   have hv:=hv1 rfl;subst hv;clear hv1 hv0;go_wp2_with fail;refine(Z8 r1 _).mono ?_;rintro e w2 ⟨v,rfl,ho,hb2⟩;have Ho:=Za (ho.mono hB.size);have hB3:=Zb hB hb2;clear ho hb2 hB;go_wp2;go_ret2;exact⟨v,rfl,Ho.out,hB3⟩
theorem ZjH(p:Option Addr)(c:Nat)(x:It)(nv:Int)(w:World)(ha:OkA w ⟨p,[x],c⟩)(hR:R64 x.num)(hT:x.kind=4→x.text=⟨#[]⟩)(hne:nE x=0)(hnv:nV x=nv)(hlt:nv<0)(hm:nv≠ -9223372036854775808):
  Calls Tryz.prog 81 #[.string ⟨#[97,98,115]⟩,.slice p 1 c] w (Res w [⟨2,-nv,⟨#[]⟩,0⟩] 0):=by
 obtain⟨b,off,hp,c0,c1,c2,c3⟩:=at0 ha.1;dsimp only at hp;subst hp;have hix:=Zcv b off c;obtain⟨xk,xa,xt,xd⟩:=x;dsimp only at c0 c1 c2 c3;have hs1:xt.size≤140737488355328:=ha.2.1 _ (List.mem_singleton.2 rfl);have HnR:=Za (ZgO (x:=⟨xk,xa,xt,xd⟩) hR);have Hnv:=Za hnv;have Hne:=Za hne;have HxT:=Za hT;dsimp only at HxT;have hr:=HnR.out;rw[hnv]at hr;unfold R64 at hr;have hm1:(nv != -9223372036854775808)=true:=by simpa using hm
 have hw:IntKind.i64.wrap (-nv)= -nv:=by rw[IntKind.wrap_i64];omega
 have Hw3:Hid (wrap64 (-nv)= -nv):=by show wrap64 (-nv)= -nv;unfold wrap64;omega
 have hw2:(-nv+9223372036854775808) % 18446744073709551616-9223372036854775808= -nv:=by omega
 clear ha hR hnv hne hT hr;obtain⟨r1,hr1⟩:∃r,r= -nv:=⟨_,rfl⟩;rw[←hr1];rw[←hr1]at hw hw2;have Hr1:=Za hr1;clear hr1;go_enter Tryz.func81,Tryz.ntmps81;go_wp2_with fail;go_loopw[7,8] (fun v iv W=>∃(k:Nat),k≤1∧iv= .int .i64 k∧(k=0→v= .int .i64 0)∧(k=1→v= .int .i64 r1)∧Below w.heap.size w W) (fun _ iv _=>1-(intOf iv).toNat)
 case atStart=>exact⟨0,by omega,rfl,fun _=>rfl,fun h=>(by cases h),Below.refl _ _⟩
 case round=>
  obtain⟨k,hk,rfl,hv0,hv1,hB⟩:=hrel
  match k,hk with
  |0,_=>
   have hv:=hv0 rfl;subst hv;clear hv1 hv0;have d0:=Zc hB c0;have d1:=Zc hB c1;have d2:=Zc hB c2;have d3:=Zc hB c3;go_wp2_with fail;refine(Zy xk xa xd xt _ HxT.out hs1).mono ?_;rintro e w1 ⟨rfl,hb1⟩;have hB3:=Zb hB hb1;clear hb1 hB d0 d1 d2 d3;rw[Hnv.out,Hne.out];go_wp2;go_roundw
   case rel=>exact⟨1,by omega,rfl,fun h=>(by cases h),fun _=>(by rw[Hw3.out,Hr1.out]),hB3⟩
   case measure=>simp[intOf]
  |1,_=>
   have hv:=hv1 rfl;subst hv;clear hv1 hv0;go_wp2_with fail;refine(Z8 r1 _).mono ?_;rintro e w2 ⟨v,rfl,ho,hb2⟩;have Ho:=Za (ho.mono hB.size);have hB3:=Zb hB hb2;clear ho hb2 hB;go_wp2;go_ret2;exact⟨v,rfl,Ho.out,hB3⟩
theorem ZjI(p:Option Addr)(c:Nat)(x:It)(w:World)(ha:OkA w ⟨p,[x],c⟩)(hR:R64 x.num)(hT:x.kind=4→x.text=⟨#[]⟩)(hne:nE x=0)(hnv:nV x= -9223372036854775808):
  Calls Tryz.prog 81 #[.string ⟨#[97,98,115]⟩,.slice p 1 c] w (Res w [] 251):=by
 obtain⟨b,off,hp,c0,c1,c2,c3⟩:=at0 ha.1;dsimp only at hp;subst hp;have hix:=Zcv b off c;obtain⟨xk,xa,xt,xd⟩:=x;dsimp only at c0 c1 c2 c3;have hs1:xt.size≤140737488355328:=ha.2.1 _ (List.mem_singleton.2 rfl);have HnR:=Za (ZgO (x:=⟨xk,xa,xt,xd⟩) hR);have Hnv:=Za hnv;have Hne:=Za hne;have HxT:=Za hT;dsimp only at HxT;clear ha hR hnv hne hT;go_enter Tryz.func81,Tryz.ntmps81;go_wp2_with fail;go_loopw[8] (fun iv W=>iv= .int .i64 0∧w=W) (fun _ _=>0)
 case atStart=>exact⟨rfl,rfl⟩
 case round=>obtain⟨rfl,rfl⟩:=hrel;go_wp2_with fail;refine(Zy xk xa xd xt _ HxT.out hs1).mono ?_;rintro e w1 ⟨rfl,hb1⟩;rw[Hnv.out,Hne.out];go_wp2;go_ret2;exact⟨.slice none 0 0,rfl,OwI.nil _ _,hb1⟩
theorem Zo7(p:Option Addr)(n c:Nat)(l:List It)(w:World)(ha:OkA w ⟨p,l,c⟩)(hT:∀y∈l,y.kind=4→y.text=⟨#[]⟩)(hR:∀y∈l,R64 y.num)(hn:n=l.length):
  Calls Tryz.prog 81 #[.string ⟨#[115,117,109]⟩,.slice p n c] w (Res w (Zg6 l).1 (Zg6 l).2):=by
 by_cases h0:l=[]
 ·subst h0;have hn0:n=0:=hn;subst hn0;exact ZjE p c w
 ·exact Zhv p n c l w ha hT hR hn (by rw[hn];exact List.length_pos_iff.2 h0)
theorem Zo8(p:Option Addr)(n c:Nat)(l:List It)(w:World)(ha:OkA w ⟨p,l,c⟩)(hT:∀y∈l,y.kind=4→y.text=⟨#[]⟩)(hR:∀y∈l,R64 y.num)(hn:n=l.length):
  Calls Tryz.prog 81 #[.string ⟨#[109,105,110]⟩,.slice p n c] w (Res w (Zel l).1 (Zel l).2):=by
 by_cases h0:l=[]
 ·subst h0;have hn0:n=0:=hn;subst hn0;exact ZjB p c w
 ·have e:Zel l=numR opLeast l:=if_neg h0;rw[e];exact Zhw p n c l w ha hT hR hn (by rw[hn];exact List.length_pos_iff.2 h0)
theorem Zo9(p:Option Addr)(n c:Nat)(l:List It)(w:World)(ha:OkA w ⟨p,l,c⟩)(hT:∀y∈l,y.kind=4→y.text=⟨#[]⟩)(hR:∀y∈l,R64 y.num)(hn:n=l.length):
  Calls Tryz.prog 81 #[.string ⟨#[109,97,120]⟩,.slice p n c] w (Res w (Zem l).1 (Zem l).2):=by
 by_cases h0:l=[]
 ·subst h0;have hn0:n=0:=hn;subst hn0;exact ZjC p c w
 ·have e:Zem l=numR opMost l:=if_neg h0;rw[e];exact Zhx p n c l w ha hT hR hn (by rw[hn];exact List.length_pos_iff.2 h0)
theorem Zlz(p:Option Addr)(n c:Nat)(l:List It)(w:World)(ha:OkA w ⟨p,l,c⟩)(hT:∀y∈l,y.kind=4→y.text=⟨#[]⟩)(hR:∀y∈l,R64 y.num)(hn:n=l.length):
  Calls Tryz.prog 81 #[.string ⟨#[110,117,109,98,101,114]⟩,.slice p n c] w (Res w (ZZ l).1 (ZZ l).2):=by
 subst hn
 match l,ha,hT,hR with
 | [],_,_,_=>exact Zgt p c w
 | [x],ha,hT,hR=>
  by_cases hk:x.kind=4
  ·have e:ZZ [x]=([⟨2,x.num,⟨#[]⟩,0⟩],0):=if_pos hk;rw[e];exact ZeQ p c x w ha hk
  ·by_cases hz:nE x=0
   ·have e:ZZ [x]=([⟨2,nV x,⟨#[]⟩,0⟩],0):=(if_neg hk).trans (if_pos hz);rw[e];exact Zgu p c x (nV x) w ha (hR x (by simp)) (hT x (by simp)) hz rfl hk
   ·have e:ZZ [x]=([],nE x):=(if_neg hk).trans (if_neg hz);rw[e];exact Zgv p c x (nV x) (nE x) w ha (hR x (by simp)) (hT x (by simp)) rfl rfl hz hk
 |x::y::r,_,_,_=>exact ZeP p _ c w (by simp)
theorem Zpa(p:Option Addr)(n c:Nat)(l:List It)(w:World)(ha:OkA w ⟨p,l,c⟩)(hT:∀y∈l,y.kind=4→y.text=⟨#[]⟩)(hR:∀y∈l,R64 y.num)(hn:n=l.length):
  Calls Tryz.prog 81 #[.string ⟨#[97,98,115]⟩,.slice p n c] w (Res w (fAbs l).1 (fAbs l).2):=by
 subst hn
 match l,ha,hT,hR with
 | [],_,_,_=>exact ZjD p c w
 | [x],ha,hT,hR=>
  have e0:fAbs [x]=if nE x=0 then(if nV x= -9223372036854775808 then([],251)else([⟨2,if nV x<0 then-(nV x)else nV x,⟨#[]⟩,0⟩],0))else([],nE x):=rfl
  rw[e0];by_cases hz:nE x=0
  ·rw[if_pos hz];by_cases hm:nV x= -9223372036854775808
   ·rw[if_pos hm];exact ZjI p c x w ha (hR x (by simp)) (hT x (by simp)) hz hm
   ·rw[if_neg hm];by_cases hl:nV x<0
    ·rw[if_pos hl];exact ZjH p c x (nV x) w ha (hR x (by simp)) (hT x (by simp)) hz rfl hl hm
    ·rw[if_neg hl];exact ZjG p c x (nV x) w ha (hR x (by simp)) (hT x (by simp)) hz rfl hl
  ·rw[if_neg hz];exact ZjF p c x (nV x) (nE x) w ha (hR x (by simp)) (hT x (by simp)) rfl rfl hz
 |x::y::r,_,_,_=>exact Zir p _ c w (by simp)
end Go.Proofs.YtnnfhojhbbcbmaaGreatDoor
