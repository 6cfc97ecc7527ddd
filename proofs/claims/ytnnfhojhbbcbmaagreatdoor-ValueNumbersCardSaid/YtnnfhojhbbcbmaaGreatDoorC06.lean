/- parchmentkit on items: LentItems, KeptItems. strings.Builder's WriteRune over this translation (after the library's own proofs: copyCheck is walked here). key.Whole at small numerals and at what is none. value.number. -/
import Derived.Test.YtnnfhojhbbcbmaaGreatDoorC05
import Derived.Test.YtnnfhojhbbcbmaaGreatDoorC02
import Derived.Test.YtnnfhojhbbcbmaaGreatDoorC00
import Derived.Test.YtnnfhojhbbcbmaaGreatDoorC01
import Derived.Shelf.Strings.BuilderRune
import Derived.Lib.SmallJoins
namespace Go.Proofs.YtnnfhojhbbcbmaaGreatDoor
set_option maxRecDepth 100000
set_option maxHeartbeats 4000000
open Go.RowKit
def Zaj(k i:Int):Int:=wrap64 (wrap64 (1000003*wrap64 (k+7))+i)
def mkI(k i:Int):It:=⟨0,0,⟨#[]⟩,Zaj k i⟩
def OwI(w:World)(B:Nat)(v:Value)(l:List It):Prop:=w.ownsRow B 24 4 v l.length (Zi l)
theorem Zj(a b:List It):Zi (a++b)=Zi a++Zi b:=by simp[Zi]
theorem OwI.rd {w:World}{B n cap:Nat}{a:Option Addr}{l:List It}(h:OwI w B (.slice a n cap) l):RdI w a l:=by
 have hn:n=l.length:=by
  rcases h.2 with⟨e1,e2⟩|⟨g,cap',cur,e,_⟩
  ·injection e1 with e0 e3 e4;rw[e3,e2]
  ·injection e
 subst hn;exact ZcQ h
theorem Zv(l:List It):∀u∈Zi l,u.oneCell'=true:=by intro u hu;simp only[Zi,List.mem_flatMap]at hu;obtain⟨x,_,hx⟩:=hu;simp only[itC,List.mem_cons,List.not_mem_nil,or_false]at hx;rcases hx with rfl|rfl|rfl|rfl<;>rfl
def ZbJ(n:Nat):List It:=(List.range n).map fun(i:Nat)=>mkI 1 (i:Int)
def Za6(l:List It):List It:=l++ZbJ 12
theorem Zh1(n:Nat):ZbJ (n+1)=ZbJ n++[mkI 1 (n:Int)]:=by simp[ZbJ,List.range_succ]
theorem ZbK(n:Nat):(ZbJ n).length=n:=by simp[ZbJ]
theorem ZbS {w:World}{ops:Array Oper}{rest:List Oper}{o:Oper}{ac:Act}{Q:Exit→Act→World→Prop}(hgd:o.guard=none)(s x:Operand)
  (ho:o.op= .call {callee:= .builtin .append,args:=#[s,x],argTypes:=#[28,28]})
  (B g n cap:Nat) (xs:List It) (a:Option Addr) (m c:Nat) (ys:List It) (hs:ac.eval s= .slice (some ⟨g,0,none⟩) n cap) (hx:ac.eval x= .slice a m c)
  (hn:n=xs.length) (hown:OwI w B (.slice (some ⟨g,0,none⟩) n cap) xs) (hr:RdI w a ys) (hm:m=ys.length) (hfit:n+m≤cap)
  (K:∀w',OwI w' B (.slice (some ⟨g,0,none⟩) (n+m) cap) (xs++ys)→w.grownBy w' (some g)→wpList Tryz.prog ops Q rest (ac.put o.dst (.slice (some ⟨g,0,none⟩) (n+m) cap)) w'):
  wpList Tryz.prog ops Q (o::rest) ac w:=by
 obtain⟨i0,hi,hz0,hz1,hz2⟩:=info_parts ZaD;subst hm hn;by_cases h0:ys=[]
 ·subst h0;refine wpList_plain hgd fun K' hK=>?_;have:=hK _ _ (K w (by rw[List.append_nil];exact hown) (World.grownBy.refl w _));have hnc:xs.length≤cap:=by simp at hfit;exact hfit
  have hrun:(Builtin.append_ #[28,28] o.type #[.slice (some ⟨g,0,none⟩) xs.length cap,.slice a ([]:List It).length c]).run Tryz.prog w= .ok (.slice (some ⟨g,0,none⟩) (xs.length+([]:List It).length) cap) w:=by cases a<;>simp[Builtin.append_,run_underlying Tryz.underlying28,sizeOf,typeInfo,hi,Builtin.lenOf,Builtin.firstCells,hnc,storeCells,loadCells,loadCellsFrom]
  unfold Oper.wp execOp;simp only[ho,resolve,invoke,builtin,Sem.run_bind,Sem.run_pure,Result.andThen_ok,List.map_toArray,List.map_cons,List.map_nil,hs,hx,hrun];exact this
 ·have hne:Zi ys≠ []:=by
   intro e;have h1:=Zg ys;rw[e]at h1;exact h0 (List.length_eq_zero_iff.1 (by simp at h1;omega))
  obtain⟨b,off,rfl,hlt,hc⟩:=Rd.addrAt hr hne;refine wpList_append_fits w hgd s x 28 ho B 24 i0 4 Tryz.underlying28 hi hz1 g xs.length cap (Zi xs) hs hown ⟨b,off,none⟩ ys.length c (Zi ys) hx (by rw[Zg]) (Rd.news hr) (Zv ys) hfit fun w' h1 h2=>K w' ?_ h2;unfold OwI;rw[Zj,List.length_append];exact h1
theorem ZlU(k i:Int)(w:World):Calls Tryz.prog 107 #[.int .i64 k,.int .i64 i] w fun e w'=>e= .returned (.int .i64 (Zaj k i))∧w=w':=by
 have hfin:Hid (Zaj k i=wrap64 (wrap64 (1000003*wrap64 (k+7))+i)):=by show Zaj k i=_;rfl
 go_enter Tryz.func107,Tryz.ntmps107;go_wp2;go_ret;exact⟨by rw[hfin.out];rfl,rfl⟩
theorem ZN(k i:Int)(w:World):Calls Tryz.prog 58 #[.int .i64 k,.int .i64 i] w fun e w'=>e= .returned (.agg #[.int .u8 0,.int .i64 0,.string ⟨#[]⟩,.int .i64 (Zaj k i)])∧Below w.heap.size w w':=by go_enter Tryz.func58,Tryz.ntmps58;go_wp2_with (go_at_call 107;refine(ZlU _ _ _).mono ?_;rintro e w' ⟨rfl,rfl⟩);refine bodyPost_ret (results_cell_row (P:=Tryz.prog) (fn:=Tryz.f58) rfl _ _ w.heap.size 24 #[.int .u8 0,.int .i64 0,.string ⟨#[]⟩,.int .i64 (Zaj k i)] (0,0) _ rfl (Blk.new w 24 #[.int .u8 0,.int .i64 0,.string ⟨#[]⟩,.int .i64 (Zaj k i)]) Tryz.underlying24 rfl (by kernel_rfl)) rfl ?_;exact⟨rfl,(Below.refl _ _).alloc (Nat.le_refl _) _⟩
theorem ZcT(a:Option Addr)(l:List It)(n c:Nat)(w:World)(hr:RdI w a l)(hn:n=l.length)(hle:n≤1048576):
  Calls Tryz.prog 19 #[.slice a n c] w fun e w'=>e= .returned (.slice (some ⟨w.heap.size,0,none⟩) n (n+12))∧OwI w' w.heap.size (.slice (some ⟨w.heap.size,0,none⟩) (n+12) (n+12)) (Za6 l)∧Below w.heap.size w w':=by
 obtain⟨i0,hi,hz0,hz1,hz2⟩:=info_parts ZaD;obtain⟨w1,hmk,hown1,hg1⟩:=run_make_own (P:=Tryz.prog) w w.heap.size 28 24 i0 _ 4 Tryz.underlying28 hi hz0 hz1 .i64 .i64 (n+12) (by rw[hz2];omega) (by unfold maxLen;omega) (Nat.le_refl _);rw[show((n+12:Nat):Int)=(n:Int)+12 from by omega]at hmk;have hown1:OwI w1 w.heap.size (.slice (some ⟨w.heap.size,0,none⟩) 0 (n+12)) []:=hown1;have hb1:Below w.heap.size w w1:=(Below.refl _ _).grown hg1 (Nat.le_refl _) (by simp);have Hn:=Za hn;clear hn hi hz0 hz1 hz2;go_enter Tryz.func19,Tryz.ntmps19;go_wp2_with (at_builtin;refine ZbS rfl _ _ rfl w.heap.size w.heap.size 0 (n+12) [] a n c l rfl rfl rfl hown1 (hr.keep hb1) Hn.out (by omega) ?_);intro w2 hown2 hg2;have hb2:Below w.heap.size w w2:=hb1.grown hg2 hb1.size (by intro k hk;injection hk with hk;omega);clear hown1 hg1 hb1 hg2 hmk;go_wp2_with fail;go_loopw[3,4] (fun v x wr=>∃k:Nat,k≤12∧x= .int .i64 k∧v= .slice (some ⟨w.heap.size,0,none⟩) (n+k) (n+12)∧OwI wr w.heap.size (.slice (some ⟨w.heap.size,0,none⟩) (n+k) (n+12)) (l++ZbJ k)∧Below w.heap.size w wr) (fun _ x _=>12-(intOf x).toNat)
 case atStart=>exact⟨0,by omega,rfl,by simp,by simpa[ZbJ]using hown2,hb2⟩
 case round=>
  clear hown2 hb2;obtain⟨k,hk,rfl,rfl,hown,hb⟩:=hrel;by_cases hlt:k<12
  ·go_wp2_with fail;refine(ZN _ _ _).mono ?_;rintro e w' ⟨rfl,hbm⟩;have hownm:=ZL hown hbm;have hbm2:=Zb hb hbm;clear hown hbm;go_wp2_with (at_builtin;refine ZbS rfl _ _ rfl w.heap.size w.heap.size (n+k) (n+12) (l++ZbJ k) (some ⟨w'.heap.size,0,none⟩) 1 1 [mkI 1 k] rfl rfl ?c0 ?c1 ?c2 ?c3 ?c4 ?_)
   case c0=>have:=Hn.out;rw[List.length_append,ZbK];omega
   case c1=>exact ZL hownm ((Below.refl _ _).alloc (Nat.le_refl _) _)
   case c2=>exact RdI.new _ _ [mkI 1 k]
   case c3=>rfl
   case c4=>omega
   intro w3 hown3 hg3;have hsz:=hbm2.size;have hb3:Below w.heap.size w w3:=(hbm2.alloc hsz _).grown hg3 (by simp;omega) (by intro k hk;injection hk with hk;omega);go_wp2;go_roundw
   case rel=>refine⟨k+1,by omega,by go_num,by rw[Nat.add_assoc],?_,hb3⟩;rw[Zh1,←Nat.add_assoc];exact hown3
   case measure=>simp[intOf];omega
  ·have hk':k=12:=by omega
   subst hk';go_wp2;go_ret;exact⟨rfl,hown,hb⟩
theorem ZgF(a:Option Addr)(l:List It)(n c:Nat)(w:World)(hr:RdI w a l)(hn:n=l.length)(hle:n≤1048576):
  Calls Tryz.prog 19 #[.slice a n c] w fun e w'=>e= .returned (.slice (some ⟨w.heap.size,0,none⟩) n (n+12))∧RdI w' (some ⟨w.heap.size,0,none⟩) (Za6 l)∧Below w.heap.size w w':=
 (ZcT a l n c w hr hn hle).mono fun _ _ ⟨h1,h2,h3⟩=>⟨h1,h2.rd,h3⟩
theorem Zh2 {l:List It}{k:Nat}(h:k<l.length):(Za6 l)[k]? =l[k]?:=by unfold Za6;rw[List.getElem?_append_left h]
theorem Zi2 {l:List It}{k:Nat}(h:l.length≤k)(h2:k<l.length+12):(Za6 l)[k]? =some (mkI 1 ((k-l.length:Nat):Int)):=by unfold Za6;rw[List.getElem?_append_right h];unfold ZbJ;rw[List.getElem?_map,List.getElem?_range (by omega)];rfl
theorem Zh3 {l:List It}{k m:Nat}(h:l.length≤k)(h2:k<l.length+12)(hm:m=k-l.length):∃z:Int,(Za6 l)[k]? =some ⟨0,0,⟨#[]⟩,z⟩∧Hid (∀W,Calls Tryz.prog 58 #[.int .i64 1,.int .i64 (m:Int)] W fun e w'=>e= .returned (.agg #[.int .u8 0,.int .i64 0,.string ⟨#[]⟩,.int .i64 z])∧Below W.heap.size W w'):=
 ⟨Zaj 1 (m:Int),by rw[Zi2 h h2,hm];rfl,fun W=>ZN 1 (m:Int) W⟩
theorem RdI.left {w:World}{a:Option Addr}{l m:List It}(h:RdI w a (l++m)):RdI w a l:=by
 unfold RdI at h⊢;rw[Zj]at h;rcases h with h|⟨b,off,ha,hlt,hc⟩
 ·exact .inl (List.append_eq_nil_iff.1 h).1
 ·exact .inr ⟨b,off,ha,hlt,fun i u hu=>hc i u (by rw[List.getElem?_append_left (List.getElem?_eq_some_iff.1 hu).1];exact hu)⟩
section
variable {l : List Oper} {K : Value → World → Prop} {u : Nat → Value} {w : World} {o : Oper}
theorem ZB(x:Operand)(b off:Nat)(k:Nat)(a d:Int)(t:ByteArray)(h:o.op= .load 24 x)(hx:evU u x= .pointer (some ⟨b,off,none⟩))(c0:w.cell? ⟨b,off,none⟩=some (.int .u8 k))(c1:w.cell? ⟨b,off+1,none⟩=some (.int .i64 a))(c2:w.cell? ⟨b,off+2,none⟩=some (.string t))(c3:w.cell? ⟨b,off+3,none⟩=some (.int .i64 d))
  (hk:K (.agg #[.int .u8 k,.int .i64 a,.string t,.int .i64 d]) w):Zac K Tryz.prog ((execOp (evU u) o).run Tryz.prog w):=by
 refine Ze _ ?_ hk;have hu:=Tryz.underlying24;have hs:=Tryz.underlying9;have hi:=Tryz.underlying3;have hi2:=Tryz.underlying2;have hi3:=Tryz.underlying22;unfold execOp;simp[go_sem,h,hx,c0,c1,c2,c3]
end
theorem Zbt(b:Option Addr)(l:List It)(g n c:Nat)(w:World)(hx:RdI w (some ⟨g,0,none⟩) (Za6 l))(hy:RdI w b l)(hn:n=l.length)(hle:n≤1048576):
  Calls Tryz.prog 28 #[.slice (some ⟨g,0,none⟩) n (n+12),.slice b n c] w fun e w'=>e= .returned (.bool true)∧Below w.heap.size w w':=by
 have Hn:=Za hn;have Hx:=Za hx;have Hy:=Za hy;clear hn hx hy;go_enter Tryz.func28,Tryz.ntmps28;go_wp2_with fail;go_loopw[6] (fun x wr=>∃k:Nat,k≤n+12∧x= .int .i64 k∧Below w.heap.size w wr) (fun x _=>n+12-(intOf x).toNat)
 case atStart=>exact⟨0,Nat.zero_le _,rfl,Below.refl _ _⟩
 case round=>
  obtain⟨k,hk,rfl,hB⟩:=hrel;by_cases hlt:k<n+12
  ·by_cases hkn:k<n
   ·obtain⟨y,hyk⟩:∃y,l[k]? =some y:=⟨_,List.getElem?_eq_getElem (by have:=Hn.out;omega)⟩;obtain⟨b0,o0,e0,c0,c1,c2,c3⟩:=(Hx.out.keep hB).at k y (by rw[Zh2 (by have:=Hn.out;omega)];exact hyk);injection e0 with e0;injection e0 with e0 e1;subst e0 e1;rw[Nat.zero_add]at c0 c1 c2 c3;obtain⟨b2,o2,e2,q0,q1,q2,q3⟩:=(Hy.out.keep hB).at k y hyk;subst e2;have hix:=Zr g 0 (n+12) (n+12) k (by omega);rw[Nat.zero_add]at hix;have hix2:=Zr b2 o2 n c k hkn;obtain⟨yk,ya,yt,yd⟩:=y;dsimp only at c0 c1 c2 c3 q0 q1 q2 q3;have h1:(k:Int)<n:=by omega
    have h2:decide ((n:Int)≤k)=false:=by simp;omega
    clear hyk;obtain⟨W0,rfl⟩:∃W0,W0=wr:=⟨_,rfl⟩;go_wp2_with fail;refine wp_region_facts (R:=RB W0.heap.size (⟨#[]⟩) (0)) [eqF _ _ _ 23 (.int .i64 k),eqF _ _ _ 24 (.slice (some ⟨b2,o2,none⟩) n c),eqF _ _ _ 25 (.int .i64 n),eqF _ _ _ 26 (.bool true),eqF _ _ _ 27 (.bool true),eqF _ _ _ 28 (.slice (some ⟨g,0,none⟩) (n+12) (n+12)),eqF _ _ _ 29 (.int .i64 k),eqF _ _ _ 30 (.pointer (some ⟨g,k*4,none⟩)),eqF _ _ _ 31 (.agg #[.int .u8 yk,.int .i64 ya,.string yt,.int .i64 yd]),eqF _ _ _ 32 (.slice (some ⟨b2,o2,none⟩) n c),eqF _ _ _ 33 (.int .i64 k),eqF _ _ _ 34 (.pointer (some ⟨b2,o2+k*4,none⟩)),eqF _ _ _ 35 (.agg #[.int .u8 yk,.int .i64 ya,.string yt,.int .i64 yd]),eqF _ _ _ 36 (.bool true),eqF _ _ _ 37 (.bool false),eqF _ _ _ 38 (.bool false),eqF _ _ _ 39 (.bool false),eqF _ _ _ 40 (.int .i64 k),eqF _ _ _ 41 (.slice (some ⟨b2,o2,none⟩) n c),eqF _ _ _ 42 (.int .i64 n),eqF _ _ _ 43 (.bool false),eqF _ _ _ 44 (.bool false),eqF _ _ _ 45 undef,eqF _ _ _ 46 undef,eqF _ _ _ 47 undef,eqF _ _ _ 48 undef,eqF _ _ _ 49 undef,eqF _ _ _ 50 undef,eqF _ _ _ 51 undef,eqF _ _ _ 52 undef,eqF _ _ _ 53 undef,eqF _ _ _ 54 undef,eqF _ _ _ 55 undef,eqF _ _ _ 56 (.bool false),eqF _ _ _ 57 (.bool false)] (by kernel_rfl) (by kernel_rfl) (by kernel_rfl) (RB.refl (Nat.le_refl _)) (fun _ h=>h.again) (fun _ _ _ h k=>h.trans k) ?_ ?_
    ·refine stepsU_cons rfl ?_ (stepsU_cons rfl ?_ (stepsU_cons rfl ?_ (stepsU_cons rfl ?_ (stepsU_cons rfl ?_ (stepsU_cons rfl ?_ (stepsU_cons rfl ?_ (stepsU_cons rfl ?_ (stepsU_cons rfl ?_ (stepsU_cons rfl ?_ (stepsU_cons rfl ?_ (stepsU_cons rfl ?_ (stepsU_cons rfl ?_ (stepsU_cons rfl ?_ (stepsU_cons rfl ?_ (stepsU_cons rfl ?_ (stepsU_cons rfl ?_ (stepsU_cons rfl ?_ (stepsU_cons rfl ?_ (stepsU_cons rfl ?_ (stepsU_cons rfl ?_ (stepsU_cons rfl ?_ (stepsU_cons rfl ?_ (stepsU_cons rfl ?_ (stepsU_cons rfl ?_ (stepsU_cons rfl ?_ (stepsU_cons rfl ?_ (stepsU_cons rfl ?_ (stepsU_cons rfl ?_ (stepsU_cons rfl ?_ (stepsU_cons rfl ?_ (stepsU_cons rfl ?_ (stepsU_cons rfl ?_ (stepsU_cons rfl ?_ (stepsU_cons rfl ?_ (stepsU_nil)))))))))))))))))))))))))))))))))))
     ·refine stepU_plain rfl fun u wr hR hK hD=>?_;exact Zd _ _ rfl (hK 6 rfl) ⟨hR.again,rfl⟩
     ·refine stepU_plain rfl fun u wr hR hK hD=>?_;exact Zd _ _ rfl (hK 1 rfl) ⟨hR.again,rfl⟩
     ·refine stepU_plain rfl fun u wr hR hK hD=>?_;have z24:u 24=_:=(hD 1 rfl);exact Ze _ (by unfold execOp;simp[go_sem,evU,z24]) ⟨hR.again,rfl⟩
     ·refine stepU_plain rfl fun u wr hR hK hD=>?_;have z23:u 23=_:=(hD 0 rfl);have z25:u 25=_:=(hD 2 rfl);exact Ze _ (by unfold execOp;simp[go_sem,evU,z23,z25,h1]) ⟨hR.again,rfl⟩
     ·refine stepU_plain rfl fun u wr hR hK hD=>?_;exact Zd _ _ rfl (hD 3 rfl) ⟨hR.again,rfl⟩
     ·refine stepU_yes 4 27 true rfl rfl (fun u wr hK hD=>hD 4 rfl) fun u wr hR hK hD=>?_;exact Zd _ _ rfl (hK 5 rfl) ⟨hR.again,rfl⟩
     ·refine stepU_yes 4 27 true rfl rfl (fun u wr hK hD=>hD 4 rfl) fun u wr hR hK hD=>?_;exact Zd _ _ rfl (hK 6 rfl) ⟨hR.again,rfl⟩
     ·refine stepU_yes 4 27 true rfl rfl (fun u wr hK hD=>hD 4 rfl) fun u wr hR hK hD=>?_;have z:u 28=_:=(hD 5 rfl);have z2:u 29=_:=(hD 6 rfl);exact Ze _ (by unfold execOp;simp[go_sem,evU,z,z2,hix]) ⟨hR.again,rfl⟩
     ·refine stepU_yes 4 27 true rfl rfl (fun u wr hK hD=>hD 4 rfl) fun u wr hR hK hD=>?_;exact ZB _ g (k*4) _ _ _ _ rfl (hD 7 rfl) (Zc hR.be c0) (Zc hR.be c1) (Zc hR.be c2) (Zc hR.be c3) ⟨hR.again,rfl⟩
     ·refine stepU_yes 4 27 true rfl rfl (fun u wr hK hD=>hD 4 rfl) fun u wr hR hK hD=>?_;exact Zd _ _ rfl (hK 1 rfl) ⟨hR.again,rfl⟩
     ·refine stepU_yes 4 27 true rfl rfl (fun u wr hK hD=>hD 4 rfl) fun u wr hR hK hD=>?_;exact Zd _ _ rfl (hK 6 rfl) ⟨hR.again,rfl⟩
     ·refine stepU_yes 4 27 true rfl rfl (fun u wr hK hD=>hD 4 rfl) fun u wr hR hK hD=>?_;have z:u 32=_:=(hD 9 rfl);have z2:u 33=_:=(hD 10 rfl);exact Ze _ (by unfold execOp;simp[go_sem,evU,z,z2,hix2]) ⟨hR.again,rfl⟩
     ·refine stepU_yes 4 27 true rfl rfl (fun u wr hK hD=>hD 4 rfl) fun u wr hR hK hD=>?_;exact ZB _ b2 (o2+k*4) _ _ _ _ rfl (hD 11 rfl) (Zc hR.be q0) (Zc hR.be q1) (Zc hR.be q2) (Zc hR.be q3) ⟨hR.again,rfl⟩
     ·refine stepU_yes 4 27 true rfl rfl (fun u wr hK hD=>hD 4 rfl) fun u wr hR hK hD=>?_;have z31:u 31=_:=(hD 8 rfl);have z35:u 35=_:=(hD 12 rfl);exact Ze _ (by unfold execOp;simp[go_sem,evU,z31,z35]) ⟨hR.again,rfl⟩
     ·refine stepU_yes 4 27 true rfl rfl (fun u wr hK hD=>hD 4 rfl) fun u wr hR hK hD=>?_;have z36:u 36=_:=(hD 13 rfl);exact Ze _ (by unfold execOp;simp[go_sem,evU,z36]) ⟨hR.again,rfl⟩
     ·refine stepU_plain rfl fun u wr hR hK hD=>?_;exact Zn _ _ _ _ _ rfl (hD 4 rfl) (by first|rfl|exact(hD 14 rfl)|exact rfl) ⟨hR.again,rfl⟩
     ·refine stepU_plain rfl fun u wr hR hK hD=>?_;exact Zd _ _ rfl (hD 15 rfl) ⟨hR.again,rfl⟩
     ·refine stepU_yes 16 39 false rfl rfl (fun u wr hK hD=>hD 16 rfl) fun u wr hR hK hD=>?_;exact Zd _ _ rfl (hK 6 rfl) ⟨hR.again,rfl⟩
     ·refine stepU_yes 16 39 false rfl rfl (fun u wr hK hD=>hD 16 rfl) fun u wr hR hK hD=>?_;exact Zd _ _ rfl (hK 1 rfl) ⟨hR.again,rfl⟩
     ·refine stepU_yes 16 39 false rfl rfl (fun u wr hK hD=>hD 16 rfl) fun u wr hR hK hD=>?_;have z41:u 41=_:=(hD 18 rfl);exact Ze _ (by unfold execOp;simp[go_sem,evU,z41]) ⟨hR.again,rfl⟩
     ·refine stepU_yes 16 39 false rfl rfl (fun u wr hK hD=>hD 16 rfl) fun u wr hR hK hD=>?_;have z40:u 40=_:=(hD 17 rfl);have z42:u 42=_:=(hD 19 rfl);exact Ze _ (by unfold execOp;simp[go_sem,evU,z40,z42,hkn]) ⟨hR.again,rfl⟩
     ·refine stepU_yes 16 39 false rfl rfl (fun u wr hK hD=>hD 16 rfl) fun u wr hR hK hD=>?_;exact Zd _ _ rfl (hD 20 rfl) ⟨hR.again,rfl⟩
     ·exact stepU_no 21 44 true false rfl rfl rfl (fun u wr hK hD=>(hD 21 rfl)) (fun u wr=>rfl)
     ·exact stepU_no 21 44 true false rfl rfl rfl (fun u wr hK hD=>(hD 21 rfl)) (fun u wr=>rfl)
     ·exact stepU_no 21 44 true false rfl rfl rfl (fun u wr hK hD=>(hD 21 rfl)) (fun u wr=>rfl)
     ·exact stepU_no 21 44 true false rfl rfl rfl (fun u wr hK hD=>(hD 21 rfl)) (fun u wr=>rfl)
     ·exact stepU_no 21 44 true false rfl rfl rfl (fun u wr hK hD=>(hD 21 rfl)) (fun u wr=>rfl)
     ·exact stepU_no 21 44 true false rfl rfl rfl (fun u wr hK hD=>(hD 21 rfl)) (fun u wr=>rfl)
     ·exact stepU_no 21 44 true false rfl rfl rfl (fun u wr hK hD=>(hD 21 rfl)) (fun u wr=>rfl)
     ·exact stepU_no 21 44 true false rfl rfl rfl (fun u wr hK hD=>(hD 21 rfl)) (fun u wr=>rfl)
     ·exact stepU_no 21 44 true false rfl rfl rfl (fun u wr hK hD=>(hD 21 rfl)) (fun u wr=>rfl)
     ·exact stepU_no 21 44 true false rfl rfl rfl (fun u wr hK hD=>(hD 21 rfl)) (fun u wr=>rfl)
     ·exact stepU_no 21 44 true false rfl rfl rfl (fun u wr hK hD=>(hD 21 rfl)) (fun u wr=>rfl)
     ·refine stepU_yes 16 39 false rfl rfl (fun u wr hK hD=>hD 16 rfl) fun u wr hR hK hD=>?_;exact Zn _ _ _ _ _ rfl (hD 21 rfl) (by first|rfl|exact(hD 32 rfl)|exact rfl) ⟨hR.again,rfl⟩
     ·refine stepU_plain rfl fun u wr hR hK hD=>?_;exact Zn _ _ _ _ _ rfl (hD 16 rfl) (by first|rfl|exact rfl|exact(hD 33 rfl)) ⟨hR.again,rfl⟩
    intro u w5 hR hF;have e23:u 23= .int .i64 k:=hF 0 (by decide);have e24:u 24= .slice (some ⟨b2,o2,none⟩) n c:=hF 1 (by decide);have e25:u 25= .int .i64 n:=hF 2 (by decide);have e26:u 26= .bool true:=hF 3 (by decide);have e27:u 27= .bool true:=hF 4 (by decide);have e28:u 28= .slice (some ⟨g,0,none⟩) (n+12) (n+12):=hF 5 (by decide);have e29:u 29= .int .i64 k:=hF 6 (by decide);have e30:u 30= .pointer (some ⟨g,k*4,none⟩):=hF 7 (by decide);have e31:u 31= .agg #[.int .u8 yk,.int .i64 ya,.string yt,.int .i64 yd]:=hF 8 (by decide);have e32:u 32= .slice (some ⟨b2,o2,none⟩) n c:=hF 9 (by decide);have e33:u 33= .int .i64 k:=hF 10 (by decide);have e34:u 34= .pointer (some ⟨b2,o2+k*4,none⟩):=hF 11 (by decide);have e35:u 35= .agg #[.int .u8 yk,.int .i64 ya,.string yt,.int .i64 yd]:=hF 12 (by decide);have e36:u 36= .bool true:=hF 13 (by decide);have e37:u 37= .bool false:=hF 14 (by decide);have e38:u 38= .bool false:=hF 15 (by decide);have e39:u 39= .bool false:=hF 16 (by decide);have e40:u 40= .int .i64 k:=hF 17 (by decide);have e41:u 41= .slice (some ⟨b2,o2,none⟩) n c:=hF 18 (by decide);have e42:u 42= .int .i64 n:=hF 19 (by decide);have e43:u 43= .bool false:=hF 20 (by decide);have e44:u 44= .bool false:=hF 21 (by decide);have e45:u 45=undef:=hF 22 (by decide);have e46:u 46=undef:=hF 23 (by decide);have e47:u 47=undef:=hF 24 (by decide);have e48:u 48=undef:=hF 25 (by decide);have e49:u 49=undef:=hF 26 (by decide);have e50:u 50=undef:=hF 27 (by decide);have e51:u 51=undef:=hF 28 (by decide);have e52:u 52=undef:=hF 29 (by decide);have e53:u 53=undef:=hF 30 (by decide);have e54:u 54=undef:=hF 31 (by decide);have e55:u 55=undef:=hF 32 (by decide);have e56:u 56= .bool false:=hF 33 (by decide);have e57:u 57= .bool false:=hF 34 (by decide);simp only[ZaW,Act.put,List.setIfInBounds_toArray,List.set_cons_succ,List.set_cons_zero,e23,e24,e25,e26,e27,e28,e29,e30,e31,e32,e33,e34,e35,e36,e37,e38,e39,e40,e41,e42,e43,e44,e45,e46,e47,e48,e49,e50,e51,e52,e53,e54,e55,e56,e57];clear hF e23 e24 e25 e26 e27 e28 e29 e30 e31 e32 e33 e34 e35 e36 e37 e38 e39 e40 e41 e42 e43 e44 e45 e46 e47 e48 e49 e50 e51 e52 e53 e54 e55 e56 e57;have hB2:Below w.heap.size w w5:=Zah hB.drew hB.size hR.be;have hb_w5:Below W0.heap.size W0 w5:=⟨hR.be.os,hR.be.tape,hR.be.output,hR.be.size,hR.be.block⟩;clear hB hR;have hB:=hB2;clear hB2;clear c0 c1 c2 c3 q0 q1 q2 q3 hix hix2;go_wp2;go_roundw
    case rel=>exact⟨k+1,by omega,by simp,hB⟩
    case measure=>simp[intOf];omega
   ·obtain⟨m,hm⟩:∃m,m=k-n:=⟨_,rfl⟩;have hkm:k=n+m:=by omega
    obtain⟨z,hz,Hmi⟩:=Zh3 (l:=l) (k:=k) (m:=m) (by have:=Hn.out;omega) (by have:=Hn.out;omega) (by rw[hm,Hn.out]);obtain⟨b0,o0,e0,c0,c1,c2,c3⟩:=(Hx.out.keep hB).at k _ hz;clear hz;injection e0 with e0;injection e0 with e0 e1;subst e0 e1;rw[Nat.zero_add]at c0 c1 c2 c3;have hix:=Zr g 0 (n+12) (n+12) k (by omega);rw[Nat.zero_add]at hix;dsimp only at c0 c1 c2 c3;have hI:IntKind.i64.wrap ((k:Int)-(n:Int))=(m:Int):=by rw[IntKind.wrap_i64];omega
    have h3:n≤k:=by omega
    have h1:¬(k:Int)<n:=by omega
    have h2:(n:Int)≤(k:Int):=by omega
    clear hm hkm;obtain⟨W0,rfl⟩:∃W0,W0=wr:=⟨_,rfl⟩;go_wp2_with fail;refine wp_region_facts (R:=RB W0.heap.size (⟨#[]⟩) (0)) [eqF _ _ _ 23 (.int .i64 k),eqF _ _ _ 24 (.slice b n c),eqF _ _ _ 25 (.int .i64 n),eqF _ _ _ 26 (.bool false),eqF _ _ _ 27 (.bool false),eqF _ _ _ 28 undef,eqF _ _ _ 29 undef,eqF _ _ _ 30 undef,eqF _ _ _ 31 undef,eqF _ _ _ 32 undef,eqF _ _ _ 33 undef,eqF _ _ _ 34 undef,eqF _ _ _ 35 undef,eqF _ _ _ 36 undef,eqF _ _ _ 37 undef,eqF _ _ _ 38 (.bool false),eqF _ _ _ 39 (.bool false),eqF _ _ _ 40 (.int .i64 k),eqF _ _ _ 41 (.slice b n c),eqF _ _ _ 42 (.int .i64 n),eqF _ _ _ 43 (.bool true),eqF _ _ _ 44 (.bool true),eqF _ _ _ 45 (.slice (some ⟨g,0,none⟩) (n+12) (n+12)),eqF _ _ _ 46 (.int .i64 k),eqF _ _ _ 47 (.pointer (some ⟨g,k*4,none⟩)),eqF _ _ _ 48 (.agg #[.int .u8 0,.int .i64 0,.string ⟨#[]⟩,.int .i64 z]),eqF _ _ _ 49 (.int .i64 k),eqF _ _ _ 50 (.slice b n c),eqF _ _ _ 51 (.int .i64 n),eqF _ _ _ 52 (.int .i64 m),eqF _ _ _ 53 (.agg #[.int .u8 0,.int .i64 0,.string ⟨#[]⟩,.int .i64 z]),eqF _ _ _ 54 (.bool true),eqF _ _ _ 55 (.bool false),eqF _ _ _ 56 (.bool false),eqF _ _ _ 57 (.bool false)] (by kernel_rfl) (by kernel_rfl) (by kernel_rfl) (RB.refl (Nat.le_refl _)) (fun _ h=>h.again) (fun _ _ _ h k=>h.trans k) ?_ ?_
    ·refine stepsU_cons rfl ?_ (stepsU_cons rfl ?_ (stepsU_cons rfl ?_ (stepsU_cons rfl ?_ (stepsU_cons rfl ?_ (stepsU_cons rfl ?_ (stepsU_cons rfl ?_ (stepsU_cons rfl ?_ (stepsU_cons rfl ?_ (stepsU_cons rfl ?_ (stepsU_cons rfl ?_ (stepsU_cons rfl ?_ (stepsU_cons rfl ?_ (stepsU_cons rfl ?_ (stepsU_cons rfl ?_ (stepsU_cons rfl ?_ (stepsU_cons rfl ?_ (stepsU_cons rfl ?_ (stepsU_cons rfl ?_ (stepsU_cons rfl ?_ (stepsU_cons rfl ?_ (stepsU_cons rfl ?_ (stepsU_cons rfl ?_ (stepsU_cons rfl ?_ (stepsU_cons rfl ?_ (stepsU_cons rfl ?_ (stepsU_cons rfl ?_ (stepsU_cons rfl ?_ (stepsU_cons rfl ?_ (stepsU_cons rfl ?_ (stepsU_cons rfl ?_ (stepsU_cons rfl ?_ (stepsU_cons rfl ?_ (stepsU_cons rfl ?_ (stepsU_cons rfl ?_ (stepsU_nil)))))))))))))))))))))))))))))))))))
     ·refine stepU_plain rfl fun u wr hR hK hD=>?_;exact Zd _ _ rfl (hK 6 rfl) ⟨hR.again,rfl⟩
     ·refine stepU_plain rfl fun u wr hR hK hD=>?_;exact Zd _ _ rfl (hK 1 rfl) ⟨hR.again,rfl⟩
     ·refine stepU_plain rfl fun u wr hR hK hD=>?_;have z24:u 24=_:=(hD 1 rfl);exact Ze _ (by unfold execOp;simp[go_sem,evU,z24]) ⟨hR.again,rfl⟩
     ·refine stepU_plain rfl fun u wr hR hK hD=>?_;have z23:u 23=_:=(hD 0 rfl);have z25:u 25=_:=(hD 2 rfl);exact Ze _ (by unfold execOp;simp[go_sem,evU,z23,z25,h3]) ⟨hR.again,rfl⟩
     ·refine stepU_plain rfl fun u wr hR hK hD=>?_;exact Zd _ _ rfl (hD 3 rfl) ⟨hR.again,rfl⟩
     ·exact stepU_no 4 27 true false rfl rfl rfl (fun u wr hK hD=>(hD 4 rfl)) (fun u wr=>rfl)
     ·exact stepU_no 4 27 true false rfl rfl rfl (fun u wr hK hD=>(hD 4 rfl)) (fun u wr=>rfl)
     ·exact stepU_no 4 27 true false rfl rfl rfl (fun u wr hK hD=>(hD 4 rfl)) (fun u wr=>rfl)
     ·exact stepU_no 4 27 true false rfl rfl rfl (fun u wr hK hD=>(hD 4 rfl)) (fun u wr=>rfl)
     ·exact stepU_no 4 27 true false rfl rfl rfl (fun u wr hK hD=>(hD 4 rfl)) (fun u wr=>rfl)
     ·exact stepU_no 4 27 true false rfl rfl rfl (fun u wr hK hD=>(hD 4 rfl)) (fun u wr=>rfl)
     ·exact stepU_no 4 27 true false rfl rfl rfl (fun u wr hK hD=>(hD 4 rfl)) (fun u wr=>rfl)
     ·exact stepU_no 4 27 true false rfl rfl rfl (fun u wr hK hD=>(hD 4 rfl)) (fun u wr=>rfl)
     ·exact stepU_no 4 27 true false rfl rfl rfl (fun u wr hK hD=>(hD 4 rfl)) (fun u wr=>rfl)
     ·exact stepU_no 4 27 true false rfl rfl rfl (fun u wr hK hD=>(hD 4 rfl)) (fun u wr=>rfl)
     ·refine stepU_plain rfl fun u wr hR hK hD=>?_;exact Zn _ _ _ _ _ rfl (hD 4 rfl) (by first|rfl|exact(hD 14 rfl)|exact rfl) ⟨hR.again,rfl⟩
     ·refine stepU_plain rfl fun u wr hR hK hD=>?_;exact Zd _ _ rfl (hD 15 rfl) ⟨hR.again,rfl⟩
     ·refine stepU_yes 16 39 false rfl rfl (fun u wr hK hD=>hD 16 rfl) fun u wr hR hK hD=>?_;exact Zd _ _ rfl (hK 6 rfl) ⟨hR.again,rfl⟩
     ·refine stepU_yes 16 39 false rfl rfl (fun u wr hK hD=>hD 16 rfl) fun u wr hR hK hD=>?_;exact Zd _ _ rfl (hK 1 rfl) ⟨hR.again,rfl⟩
     ·refine stepU_yes 16 39 false rfl rfl (fun u wr hK hD=>hD 16 rfl) fun u wr hR hK hD=>?_;have z41:u 41=_:=(hD 18 rfl);exact Ze _ (by unfold execOp;simp[go_sem,evU,z41]) ⟨hR.again,rfl⟩
     ·refine stepU_yes 16 39 false rfl rfl (fun u wr hK hD=>hD 16 rfl) fun u wr hR hK hD=>?_;have z40:u 40=_:=(hD 17 rfl);have z42:u 42=_:=(hD 19 rfl);exact Ze _ (by unfold execOp;simp[go_sem,evU,z40,z42,h3]) ⟨hR.again,rfl⟩
     ·refine stepU_yes 16 39 false rfl rfl (fun u wr hK hD=>hD 16 rfl) fun u wr hR hK hD=>?_;exact Zd _ _ rfl (hD 20 rfl) ⟨hR.again,rfl⟩
     ·refine stepU_yes 21 44 true rfl rfl (fun u wr hK hD=>hD 21 rfl) fun u wr hR hK hD=>?_;exact Zd _ _ rfl (hK 5 rfl) ⟨hR.again,rfl⟩
     ·refine stepU_yes 21 44 true rfl rfl (fun u wr hK hD=>hD 21 rfl) fun u wr hR hK hD=>?_;exact Zd _ _ rfl (hK 6 rfl) ⟨hR.again,rfl⟩
     ·refine stepU_yes 21 44 true rfl rfl (fun u wr hK hD=>hD 21 rfl) fun u wr hR hK hD=>?_;have z:u 45=_:=(hD 22 rfl);have z2:u 46=_:=(hD 23 rfl);exact Ze _ (by unfold execOp;simp[go_sem,evU,z,z2,hix]) ⟨hR.again,rfl⟩
     ·refine stepU_yes 21 44 true rfl rfl (fun u wr hK hD=>hD 21 rfl) fun u wr hR hK hD=>?_;exact ZB _ g (k*4) _ _ _ _ rfl (hD 24 rfl) (Zc hR.be c0) (Zc hR.be c1) (Zc hR.be c2) (Zc hR.be c3) ⟨hR.again,rfl⟩
     ·refine stepU_yes 21 44 true rfl rfl (fun u wr hK hD=>hD 21 rfl) fun u wr hR hK hD=>?_;exact Zd _ _ rfl (hK 6 rfl) ⟨hR.again,rfl⟩
     ·refine stepU_yes 21 44 true rfl rfl (fun u wr hK hD=>hD 21 rfl) fun u wr hR hK hD=>?_;exact Zd _ _ rfl (hK 1 rfl) ⟨hR.again,rfl⟩
     ·refine stepU_yes 21 44 true rfl rfl (fun u wr hK hD=>hD 21 rfl) fun u wr hR hK hD=>?_;have z50:u 50=_:=(hD 27 rfl);exact Ze _ (by unfold execOp;simp[go_sem,evU,z50]) ⟨hR.again,rfl⟩
     ·refine stepU_yes 21 44 true rfl rfl (fun u wr hK hD=>hD 21 rfl) fun u wr hR hK hD=>?_;have z49:u 49=_:=(hD 26 rfl);have z51:u 51=_:=(hD 28 rfl);exact Ze _ (by unfold execOp;simp[go_sem,evU,z49,z51,hI]) ⟨hR.again,rfl⟩
     ·refine stepU_yes 21 44 true rfl rfl (fun u wr hK hD=>hD 21 rfl) fun u wr hR hK hD=>?_;exact Z1 _ _ _ _ _ Tryz.func58 (by kernel_rfl) rfl rfl (hD 29 rfl) ((Hmi.out wr).mono fun e wn ⟨he,hb⟩=>⟨_,he,hR.next hb,rfl⟩)
     ·refine stepU_yes 21 44 true rfl rfl (fun u wr hK hD=>hD 21 rfl) fun u wr hR hK hD=>?_;have z48:u 48=_:=(hD 25 rfl);have z53:u 53=_:=(hD 30 rfl);exact Ze _ (by unfold execOp;simp[go_sem,evU,z48,z53]) ⟨hR.again,rfl⟩
     ·refine stepU_yes 21 44 true rfl rfl (fun u wr hK hD=>hD 21 rfl) fun u wr hR hK hD=>?_;have z54:u 54=_:=(hD 31 rfl);exact Ze _ (by unfold execOp;simp[go_sem,evU,z54]) ⟨hR.again,rfl⟩
     ·refine stepU_yes 16 39 false rfl rfl (fun u wr hK hD=>hD 16 rfl) fun u wr hR hK hD=>?_;exact Zn _ _ _ _ _ rfl (hD 21 rfl) (by first|rfl|exact(hD 32 rfl)|exact rfl) ⟨hR.again,rfl⟩
     ·refine stepU_plain rfl fun u wr hR hK hD=>?_;exact Zn _ _ _ _ _ rfl (hD 16 rfl) (by first|rfl|exact rfl|exact(hD 33 rfl)) ⟨hR.again,rfl⟩
    intro u w5 hR hF;have e23:u 23= .int .i64 k:=hF 0 (by decide);have e24:u 24= .slice b n c:=hF 1 (by decide);have e25:u 25= .int .i64 n:=hF 2 (by decide);have e26:u 26= .bool false:=hF 3 (by decide);have e27:u 27= .bool false:=hF 4 (by decide);have e28:u 28=undef:=hF 5 (by decide);have e29:u 29=undef:=hF 6 (by decide);have e30:u 30=undef:=hF 7 (by decide);have e31:u 31=undef:=hF 8 (by decide);have e32:u 32=undef:=hF 9 (by decide);have e33:u 33=undef:=hF 10 (by decide);have e34:u 34=undef:=hF 11 (by decide);have e35:u 35=undef:=hF 12 (by decide);have e36:u 36=undef:=hF 13 (by decide);have e37:u 37=undef:=hF 14 (by decide);have e38:u 38= .bool false:=hF 15 (by decide);have e39:u 39= .bool false:=hF 16 (by decide);have e40:u 40= .int .i64 k:=hF 17 (by decide);have e41:u 41= .slice b n c:=hF 18 (by decide);have e42:u 42= .int .i64 n:=hF 19 (by decide);have e43:u 43= .bool true:=hF 20 (by decide);have e44:u 44= .bool true:=hF 21 (by decide);have e45:u 45= .slice (some ⟨g,0,none⟩) (n+12) (n+12):=hF 22 (by decide);have e46:u 46= .int .i64 k:=hF 23 (by decide);have e47:u 47= .pointer (some ⟨g,k*4,none⟩):=hF 24 (by decide);have e48:u 48= .agg #[.int .u8 0,.int .i64 0,.string ⟨#[]⟩,.int .i64 z]:=hF 25 (by decide);have e49:u 49= .int .i64 k:=hF 26 (by decide);have e50:u 50= .slice b n c:=hF 27 (by decide);have e51:u 51= .int .i64 n:=hF 28 (by decide);have e52:u 52= .int .i64 m:=hF 29 (by decide);have e53:u 53= .agg #[.int .u8 0,.int .i64 0,.string ⟨#[]⟩,.int .i64 z]:=hF 30 (by decide);have e54:u 54= .bool true:=hF 31 (by decide);have e55:u 55= .bool false:=hF 32 (by decide);have e56:u 56= .bool false:=hF 33 (by decide);have e57:u 57= .bool false:=hF 34 (by decide);simp only[ZaW,Act.put,List.setIfInBounds_toArray,List.set_cons_succ,List.set_cons_zero,e23,e24,e25,e26,e27,e28,e29,e30,e31,e32,e33,e34,e35,e36,e37,e38,e39,e40,e41,e42,e43,e44,e45,e46,e47,e48,e49,e50,e51,e52,e53,e54,e55,e56,e57];clear hF e23 e24 e25 e26 e27 e28 e29 e30 e31 e32 e33 e34 e35 e36 e37 e38 e39 e40 e41 e42 e43 e44 e45 e46 e47 e48 e49 e50 e51 e52 e53 e54 e55 e56 e57;have hB2:Below w.heap.size w w5:=Zah hB.drew hB.size hR.be;have hb_w5:Below W0.heap.size W0 w5:=⟨hR.be.os,hR.be.tape,hR.be.output,hR.be.size,hR.be.block⟩;clear hB hR;have hB:=hB2;clear hB2;clear c0 c1 c2 c3 hix;go_wp2;go_roundw
    case rel=>exact⟨k+1,by omega,by simp,hB⟩
    case measure=>simp[intOf];omega
  ·go_wp2;go_ret;exact⟨rfl,hB⟩
end Go.Proofs.YtnnfhojhbbcbmaaGreatDoor
namespace Go.Proofs.YtnnfhojhbbcbmaaGreatDoor
set_option maxRecDepth 100000
set_option maxHeartbeats 4000000
open Go.RowKit
theorem Zj3:(Tryz.prog.info? 63).map (fun i=>i.size)=some 2:=by kernel_rfl
theorem Znh(b:Nat)(w:World)(h0:w.cell? ⟨b,0,none⟩=some (.pointer (some ⟨b,0,none⟩))):
  Calls Tryz.prog 89 #[.pointer (some ⟨b,0,none⟩)] w fun e w'=>e= .returned (.tuple #[])∧w'=w:=by
 obtain⟨j,hj,_⟩:=Option.map_eq_some_iff.1 Zj3;have hne:=Lib.run_neq_ptr_same w (P:=Tryz.prog) ⟨b,0,none⟩ Tryz.underlying60 hj;go_enter Tryz.func89,Tryz.ntmps89;go_wp2;go_end0;exact⟨rfl,rfl⟩
theorem ZlV(b:Nat)(w:World)(h0:w.cell? ⟨b,0,none⟩=some (.pointer none))(hsh:w.shape? b=some (63,2))(hfz:w.frozen? ⟨b,0,none⟩=false):
  Calls Tryz.prog 89 #[.pointer (some ⟨b,0,none⟩)] w fun e w'=>e= .returned (.tuple #[])∧w'=w.setCell ⟨b,0,none⟩ (.pointer (some ⟨b,0,none⟩)):=by
 obtain⟨j,hj,hjs⟩:=Option.map_eq_some_iff.1 Zj3;go_enter Tryz.func89,Tryz.ntmps89;go_wp2;rw[Lib.run_to_unsafe w ⟨b,0,none⟩ Tryz.underlying60 Tryz.underlying181 hj (by rw[hjs];decide) hsh (Nat.zero_lt_succ 1)];simp only[Result.andThen];rw[Oper.upon_value];go_wp2;rw[run_callFunc_extern Tryz.func147 (by kernel_rfl) (by kernel_rfl) (by kernel_rfl) (e:=Extern.AbiNoEscape.same) (by kernel_rfl)];rw[Lib.run_noEscape];simp only[Result.andThen];rw[Oper.upon_value];go_wp2;rw[Lib.run_from_unsafe w ⟨b,0,none⟩ Tryz.underlying181 Tryz.underlying60 hj hsh (by kernel_rfl)];simp only[Result.andThen];rw[Oper.upon_value];go_wp2;go_end0;exact⟨rfl,rfl⟩
theorem ZoC(B b:Nat)(bs:List Value)(w:World)(h:Lib.IsBuilderF 63 5 B b bs w):
  Calls Tryz.prog 89 #[.pointer (some ⟨b,0,none⟩)] w fun e w'=>e= .returned (.tuple #[])∧(Lib.BuilderAtF 63 5 B b (.pointer (some ⟨b,0,none⟩)) bs w'∧Below B w w'∧Lib.OthersKept 5 (some b) w w'):=by
 rcases h with h|h
 ·refine(ZlV b w h.cell0 h.shape h.frozen0).mono ?_;rintro e w' ⟨rfl,rfl⟩;exact⟨rfl,h.used _,(Below.refl B w).setCell (p:=⟨b,0,none⟩) h.1 _,(Lib.OthersKept.refl _ _ w).setCell ⟨b,0,none⟩ rfl _⟩
 ·refine(Znh b w h.cell0).mono ?_;rintro e w' ⟨rfl,rfl⟩;exact⟨rfl,h,Below.refl B _,Lib.OthersKept.refl _ _ _⟩
theorem ZfR(B b:Nat)(bs:List Value)(r:Int)(hr0: -2147483648≤r)(hr1:r≤2147483647)(w:World)(h:Lib.IsBuilderF 63 5 B b bs w)(hlen:bs.length+4≤140737488355328)(hBw:B≤w.heap.size):
  Calls Tryz.prog 152 #[.pointer (some ⟨b,0,none⟩),.int .i32 r] w fun e w'=>e= .returned (.tuple #[.int .i64 (Lib.runeCells r).length,.nilIface])∧(Lib.BuilderAtF 63 5 B b (.pointer (some ⟨b,0,none⟩)) (bs++Lib.runeCells r) w'∧Below B w w'∧Lib.OthersKept 5 (some b) w w'):=by
 have hk4:=Lib.runeCells_le r;go_enter Tryz.func152,Tryz.ntmps152;go_wp2_with (go_at_call 89;refine(ZoC B b bs _ h).mono ?_);rintro e w1 ⟨rfl,h1,hb1,hk1⟩;obtain⟨hB,v,hbk,hown,hne⟩:=h1
 obtain⟨ao,cap,rfl⟩:∃ao cap,v= .slice ao bs.length cap:=by
  rcases hown.2 with⟨hv,h0⟩|⟨g,cap,cur,fz,hv,_⟩
  ·exact⟨none,0,by rw[hv,h0]⟩
  ·exact⟨_,_,hv⟩
 have c0:w1.cell? ⟨b,0,none⟩=some (.pointer (some ⟨b,0,none⟩)):=by rw[Lib.cell_of_heap hbk];rfl
 have c1:w1.cell? ⟨b,1,none⟩=some (.slice ao bs.length cap):=by rw[Lib.cell_of_heap hbk];rfl
 go_wp2_with (go_at_call 197;refine(Tryz.utf8_AppendRune_row B _ bs.length bs r hr0 hr1 _ hown hlen (by have:=hb1.size;omega)).mono ?_);rintro e w2 ⟨v',rfl,hown',o,hgrow⟩
 have hlt:b<w1.heap.size:=by
  rcases Nat.lt_or_ge b w1.heap.size with h'|h'
  ·exact h'
  ·simp[Array.getElem?_eq_none h']at hbk
 have hb2:w2.heap[b]? =some (.cells #[.pointer (some ⟨b,0,none⟩),.slice ao bs.length cap] 63 (0,0)):=by rw[hgrow.block b (by simp;omega) (fun e=>hne e.symm),Lib.alloc_old w1 _ b hlt];exact hbk
 have d0:w2.cell? ⟨b,0,none⟩=some (.pointer (some ⟨b,0,none⟩)):=by rw[Lib.cell_of_heap hb2];rfl
 have d1:w2.cell? ⟨b,1,none⟩=some (.slice ao bs.length cap):=by rw[Lib.cell_of_heap hb2];rfl
 have f1:w2.frozen? ⟨b,1,none⟩=false:=Lib.frozen_of_heap hb2 1
 obtain⟨g,cap',rfl⟩:∃g cap',v'= .slice (some ⟨g,0,none⟩) (bs.length+(Lib.runeCells r).length) cap':=by
  rcases hown'.2 with⟨_,h0⟩|⟨g,cap',cur,fz,hv,_⟩
  ·omega
  ·exact⟨g,cap',hv⟩
 go_wp2;go_ret2;refine⟨?_,?_,?_,((hk1.alloc _).grown hgrow (Lib.ownsRowF_kind (hown.alloc _))).setCell ⟨b,1,none⟩ rfl _⟩
 ·have e:((bs.length:Int)+((Lib.runeCells r).length:Int)-(bs.length:Int))=((Lib.runeCells r).length:Int):=by omega
  simp[e]
 ·exact Lib.BuilderAtF.put (T:=63) (e:=5) hB hb2 (bs':=bs++Lib.runeCells r) (by simpa using hown') (by decide)
 ·exact((hb1.alloc (by have:=hb1.size;omega) _).grown hgrow (by have:=hb1.size;simp;omega) (fun k hk=>(hown.lt k hk).1)).setCell (p:=⟨b,1,none⟩) hB _
end Go.Proofs.YtnnfhojhbbcbmaaGreatDoor
namespace Go.Proofs.YtnnfhojhbbcbmaaGreatDoor
open Go.RowKit
end Go.Proofs.YtnnfhojhbbcbmaaGreatDoor
namespace Go.Proofs.YtnnfhojhbbcbmaaGreatDoor
open Go.RowKit
set_option maxRecDepth 100000 in
set_option maxHeartbeats 1000000 in
theorem Zi3(n d:Int)(t:ByteArray)(w:World):
  Calls Tryz.prog 67 #[.agg #[.int .u8 2,.int .i64 n,.string t,.int .i64 d]] w fun e w'=>e= .returned (.tuple #[.int .i64 n,.int .i64 0])∧Below w.heap.size w w':=by
 go_enter Tryz.func67,Tryz.ntmps67;go_wp2;go_ret2;exact⟨rfl,(Below.refl _ _).alloc (Nat.le_refl _) _⟩
end Go.Proofs.YtnnfhojhbbcbmaaGreatDoor
