/- Regions whose operations are told by what their slots hold: a value, a row of items, a row of rows; in any order, or in the order of the text. put_over -/
import Derived.Test.YtnnfhojhbbcbmaaGreatDoorC02
import Derived.Test.YtnnfhojhbbcbmaaGreatDoorC03
import Derived.Test.YtnnfhojhbbcbmaaGreatDoorC06
import Derived.Test.YtnnfhojhbbcbmaaGreatDoorC07
namespace Go.Proofs.YtnnfhojhbbcbmaaGreatDoor
open Go.RowKit
structure Fine (l:List It):Prop where
 n:l.length≤1000
 r:∀y∈l,R64 y.num
 s:∀y∈l,y.text.size≤100000
theorem ZG {l:List It}(h:(decide (l.length≤1000)&&l.all fun y=>fit y.num&&decide (y.text.size≤100000))=true):Fine l:=by simp only[Bool.and_eq_true,decide_eq_true_eq,List.all_eq_true]at h;exact⟨h.1,fun y hy=>(ZbR _).1 (h.2 y hy).1,fun y hy=>(h.2 y hy).2⟩
structure Kd where
 p:Value→World→Prop
 m:∀v w w',Below w.heap.size w w'→p v w→p v w'
def kV(v:Value):Kd:=⟨fun x _=>x=v,fun _ _ _ _ h=>h⟩
def kR(l:List It):Kd:=⟨fun x w=>∃p c,x= .slice p l.length c∧RdI w p l,fun _ _ _ hb ⟨p,c,h,r⟩=>⟨p,c,h,r.keep hb⟩⟩
def kX(l:List It):Kd:=⟨fun x w=>∃p,x= .slice (some p) l.length l.length∧RdI w (some p) l,fun _ _ _ hb ⟨p,h,r⟩=>⟨p,h,r.keep hb⟩⟩
def ItAt(w:World)(b off:Nat)(y:It):Prop:=w.cell? ⟨b,off,none⟩=some (.int .u8 y.kind)∧w.cell? ⟨b,off+1,none⟩=some (.int .i64 y.num)∧w.cell? ⟨b,off+2,none⟩=some (.string y.text)∧w.cell? ⟨b,off+3,none⟩=some (.int .i64 y.node)
def RdS(w:World)(p:Option Addr)(L:List (List It)):Prop:=∃ls:List Lst,ls.map Lst.l=L∧Rd w p (ls.map Lst.v)∧∀y∈ls,RdI w y.a y.l
theorem RdS.keep {w w':World}{p:Option Addr}{L:List (List It)}(h:RdS w p L)(hb:Below w.heap.size w w'):RdS w' p L:=by obtain⟨ls,h1,h2,h3⟩:=h;exact⟨ls,h1,h2.keep hb,fun y hy=>(h3 y hy).keep hb⟩
def kS(L:List (List It)):Kd:=⟨fun x w=>∃p c,x= .slice p L.length c∧RdS w p L,fun _ _ _ hb ⟨p,c,h,r⟩=>⟨p,c,h,r.keep hb⟩⟩
def kA:Kd:=⟨fun _ _=>True,fun _ _ _ _ _=>trivial⟩
def kT(E:Int):Kd:=⟨fun x _=>∃v,x= .tuple #[v,.int .i64 E],fun _ _ _ _ h=>h⟩
def BR(w w':World):Prop:=Below w.heap.size w w'
def kF(s:Nat)(k:Kd):FactU BR:=⟨[s],fun u w=>k.p (u s) w,fun u u' w w' hs hr hf=>by rw[hs s (by simp)];exact k.m _ _ _ hr hf⟩
def kFs(Fs:List (Nat×Kd)):List (FactU BR):=Fs.map fun x=>kF x.1 x.2
def kG(Fs:List (Nat×Kd)):List ((Nat→Value)→World→Prop):=(kFs Fs).map FactU.F
theorem ZlI {Fs:List (Nat×Kd)}{k s:Nat}{K:Kd}(h:Fs[k]? =some (s,K))(u:Nat→Value)(w:World):Zs (kG Fs) k u w↔K.p (u s) w:=by unfold Zs kG kFs;simp[h,kF]
section
variable {P : Program} {l : List Oper} {Q : Exit → Act → World → Prop} {Fs : List (Nat × Kd)} {u0 : Nat → Value} {w0 : World} {o : Oper} {i : Nat}
def Zi6:List (Nat×Kd)→(Nat→Value)→Act→Act
 | [],_,a=>a
 |x::r,u,a=>Zi6 r u (a.put (some x.1) (u x.1))
theorem Zj4 {u:Nat→Value}:∀(l:List Oper) (Fs:List (Nat×Kd)) (a:Act),l.map (·.dst)=Fs.map (fun x=>some x.1)→ZaW l u a=Zi6 Fs u a
 | [],[],_,_=>rfl
 | [],_::_,_,h=>by cases h
 |_::_,[],_,h=>by cases h
 |o::r,x::s,a,h=>by
  simp only[List.map_cons,List.cons.injEq]at h;unfold ZaW Zi6;rw[h.1];exact Zj4 r s _ h.2
theorem Zb9(Fs:List (Nat×Kd)){id:Nat}{a0:Act}{w:World}(hm:P.follows .mixedOrders=true)(hE:ZfQ l a0.tmps.size=true)(hO:Zng l (Fs.map fun x=>[x.1])=true)(hD:l.map (·.dst)=Fs.map (fun x=>some x.1))
  (hs:stepsU P l BR w.drew (fun s=>a0.tmps.getD s undef) (kG Fs) 0 l) (hQ:∀u w',BR w.drew w'→(∀k s K,k<l.length→Fs[k]? =some (s,K)→K.p (u s) w')→Q .normal (Zi6 Fs u a0) w'):
  (Code.region id l.toArray true).wp P Q a0 w:=by
 refine wp_region_facts (R:=BR) (kFs Fs) hm hE ?_ (Below.refl _ _) (fun _ _=>Below.refl _ _) (fun _ _ _ h1 h2=>Zb h1 h2) hs fun u w' hr hf=>by rw[Zj4 l Fs a0 hD];exact hQ u w' hr fun k s K hk h=>(ZlI h u w').1 (hf k hk)
 rw[show(kFs Fs).map FactU.sl=Fs.map fun x=>[x.1] by unfold kFs;simp[kF]];exact hO
theorem Zl1 {K K':Value→World→Prop}(h:∀v w,K v w→K' v w){r:Result Next}(hr:Zac K P r):Zac K' P r:=by
 cases r with
 |ok n w=>
  cases n<;>first
   |exact h _ _ hr
   |exact Calls.mono hr fun e w ⟨v,h1,h2⟩=>⟨v,h1,h _ _ h2⟩
   |exact hr
 |halt x w=>exact hr
theorem sU {R:World→World→Prop}{F:List ((Nat→Value)→World→Prop)}{rest:List Oper}{j:Nat}(hj:i+1=j)(h:stepU P l R w0 u0 F i o)(h':stepsU P l R w0 u0 F j rest):stepsU P l R w0 u0 F i (o::rest):=stepsU_cons hj h h'
def Src(l:List Oper)(u0:Nat→Value)(w0:World)(Fs:List (Nat×Kd))(o:Oper)(x:Operand)(K:Kd):Prop:=
 ∀u w,BR w0 w→(∀s,ZcR l s=true→u s=u0 s)→(∀k,ZX o k=true→Zs (kG Fs) k u w)→K.p (evU u x) w
def Gd(l:List Oper)(u0:Nat→Value)(w0:World)(Fs:List (Nat×Kd))(o:Oper):Prop:=
 ∀u w,BR w0 w→(∀s,ZcR l s=true→u s=u0 s)→(∀k,ZX o k=true→Zs (kG Fs) k u w)→Region.wanted o (ZhA l u)=true
theorem si(k t:Nat){K:Kd}(hw:ZX o k=true)(hf:Fs[k]? =some (t,K)):Src l u0 w0 Fs o (.tmp t) K:=fun u w _ _ h=>(ZlI hf u w).1 (h k hw)
theorem so(t:Nat){v:Value}(hk:ZcR l t=true)(hu:u0 t=v):Src l u0 w0 Fs o (.tmp t) (kV v):=fun _ _ _ h _=>(h t hk).trans hu
theorem sr(t:Nat){p:Addr}{a:List It}{n:Nat}(hk:ZcR l t=true)(hu:u0 t= .slice (some p) n n)(hn:n=a.length)(hr:RdI w0 (some p) a):Src l u0 w0 Fs o (.tmp t) (kX a):=fun u w hb h _=>⟨p,by rw[←hn];exact(h t hk).trans hu,hr.keep hb⟩
theorem sc(v:Value):Src l u0 w0 Fs o (.const v) (kV v):=fun _ _ _ _ _=>rfl
theorem s0:Src l u0 w0 Fs o (.const (.slice none 0 0)) (kR []):=fun _ _ _ _ _=>⟨none,0,rfl,.inl rfl⟩
theorem sx {x:Operand}{a:List It}(h:Src l u0 w0 Fs o x (kX a)):Src l u0 w0 Fs o x (kR a):=fun u w h1 h2 h3=>by obtain⟨p,e,r⟩:=h u w h1 h2 h3;exact⟨some p,_,e,r⟩
theorem gn(h:o.guard=none):Gd l u0 w0 Fs o:=fun u w _ _ _=>by simp[Region.wanted,h]
theorem gy(j d:Nat){b:Bool}(hg:o.guard=some (j,b))(hd:(l[j]?).bind (·.dst)=some d)(hw:ZX o j=true)(hf:Fs[j]? =some (d,kV (.bool b))):Gd l u0 w0 Fs o:=fun u w _ _ h=>by have h1:u d= .bool b:=(ZlI hf u w).1 (h j hw);simp[Region.wanted,hg,ZhA,hd,h1]
theorem Zaq {d:Nat}{K:Kd}(hg:Gd l u0 w0 Fs o)(hd:o.dst=some d)(hf:Fs[i]? =some (d,K))
  (h:∀u w,BR w0 w→(∀s,ZcR l s=true→u s=u0 s)→(∀k,ZX o k=true→Zs (kG Fs) k u w)→Zac (fun v w'=>BR w w'∧K.p v w') P ((execOp (evU u) o).run P w)):stepU P l BR w0 u0 (kG Fs) i o:=by
 intro u w h1 h2 h3;rw[if_pos (hg u w h1 h2 h3)];have:=h u w h1 h2 h3;refine Zl1 (fun v w' hh=>⟨hh.1,(ZlI hf _ _).2 ?_⟩) this;rw[hd];simpa[Zci]using hh.2
theorem ZO {d:Nat}{x:Operand}{K:Kd}(hg:Gd l u0 w0 Fs o)(ho:o.op= .move x)(hs:Src l u0 w0 Fs o x K)(hd:o.dst=some d)(hf:Fs[i]? =some (d,K)):stepU P l BR w0 u0 (kG Fs) i o:=
 Zaq hg hd hf fun u w h1 h2 h3=>Zd x _ ho rfl ⟨Below.refl _ _,hs u w h1 h2 h3⟩
theorem Zod {d:Nat}{x:Operand}{K:Kd}(hg:Gd l u0 w0 Fs o)(ho:o.op= .assign x)(hs:Src l u0 w0 Fs o x K)(hd:o.dst=some d)(hf:Fs[i]? =some (d,K)):stepU P l BR w0 u0 (kG Fs) i o:=
 Zaq hg hd hf fun u w h1 h2 h3=>ZA x _ ho rfl ⟨Below.refl _ _,hs u w h1 h2 h3⟩
theorem Zcj {d:Nat}{x:Operand}{t:TypeId}{b:Bool}(hg:Gd l u0 w0 Fs o)(ho:o.op= .unOp .not t x)(hs:Src l u0 w0 Fs o x (kV (.bool b)))(hd:o.dst=some d)(hf:Fs[i]? =some (d,kV (.bool !b))):stepU P l BR w0 u0 (kG Fs) i o:=
 Zaq hg hd hf fun u w h1 h2 h3=>by have h:=hs u w h1 h2 h3;refine Ze (.bool !b) ?_ ⟨Below.refl _ _,rfl⟩;unfold execOp;simp only[kV]at h;simp[go_sem,ho,h]
theorem Zca {d:Nat}{x y z:Operand}{v:Value}(hg:Gd l u0 w0 Fs o)(ho:o.op= .pick x y z)(hs:Src l u0 w0 Fs o x (kV (.bool false)))(hz:Src l u0 w0 Fs o z (kV v))(hd:o.dst=some d)(hf:Fs[i]? =some (d,kV v)):stepU P l BR w0 u0 (kG Fs) i o:=
 Zaq hg hd hf fun u w h1 h2 h3=>Zn x y z false _ ho (hs u w h1 h2 h3) (hz u w h1 h2 h3) ⟨Below.refl _ _,rfl⟩
end
section
variable {l : List Oper} {Fs : List (Nat × Kd)} {u0 : Nat → Value} {w0 : World} {o : Oper} {i : Nat}
theorem ZdM {d k n c b off:Nat}{x y:Operand}{j:Int}(hg:Gd l u0 w0 Fs o)(ho:o.op= .indexAddr 28 x y)(hx:Src l u0 w0 Fs o x (kV (.slice (some ⟨b,off,none⟩) n c)))(hy:Src l u0 w0 Fs o y (kV (.int .i64 j)))(hj:j=k)(hk:k<n)(hd:o.dst=some d)
  (hf:Fs[i]? =some (d,kV (.pointer (some ⟨b,off+k*4,none⟩)))):stepU Tryz.prog l BR w0 u0 (kG Fs) i o:=
 Zaq hg hd hf fun u w h1 h2 h3=>by have h:=hx u w h1 h2 h3;have h':=hy u w h1 h2 h3;simp only[kV]at h h';subst hj;have hi:=Zr b off n c k hk w;refine Ze _ ?_ ⟨Below.refl _ _,rfl⟩;unfold execOp;simp[go_sem,ho,h,h',hi]
theorem Zc5 {d b off:Nat}{x:Operand}{y:It}(hg:Gd l u0 w0 Fs o)(ho:o.op= .load 24 x)(hx:Src l u0 w0 Fs o x (kV (.pointer (some ⟨b,off,none⟩))))(hc:ItAt w0 b off y)(hd:o.dst=some d)
  (hf:Fs[i]? =some (d,kV (itV y))):stepU Tryz.prog l BR w0 u0 (kG Fs) i o:=
 Zaq hg hd hf fun u w h1 h2 h3=>ZB _ b off _ _ _ _ ho (hx u w h1 h2 h3) (Zc h1 hc.1) (Zc h1 hc.2.1) (Zc h1 hc.2.2.1) (Zc h1 hc.2.2.2) ⟨Below.refl _ _,rfl⟩
theorem Zep {d k n c b off:Nat}{x y:Operand}{j:Int}(hg:Gd l u0 w0 Fs o)(ho:o.op= .indexAddr 29 x y)(hx:Src l u0 w0 Fs o x (kV (.slice (some ⟨b,off,none⟩) n c)))(hy:Src l u0 w0 Fs o y (kV (.int .i64 j)))(hj:j=k)(hk:k<n)(hd:o.dst=some d)
  (hf:Fs[i]? =some (d,kV (.pointer (some ⟨b,off+k,none⟩)))):stepU Tryz.prog l BR w0 u0 (kG Fs) i o:=
 Zaq hg hd hf fun u w h1 h2 h3=>by have h:=hx u w h1 h2 h3;have h':=hy u w h1 h2 h3;simp only[kV]at h h';subst hj;have hi:=Z0 b off n c k hk w;refine Ze _ ?_ ⟨Below.refl _ _,rfl⟩;unfold execOp;simp[go_sem,ho,h,h',hi]
theorem Zeq {d b off:Nat}{x:Operand}{s:ByteArray}(hg:Gd l u0 w0 Fs o)(ho:o.op= .load 9 x)(hx:Src l u0 w0 Fs o x (kV (.pointer (some ⟨b,off,none⟩))))(hc:w0.cell? ⟨b,off,none⟩=some (.string s))(hd:o.dst=some d)
  (hf:Fs[i]? =some (d,kV (.string s))):stepU Tryz.prog l BR w0 u0 (kG Fs) i o:=
 Zaq hg hd hf fun u w h1 h2 h3=>by have h:=hx u w h1 h2 h3;have h':=Zc h1 hc;simp only[kV]at h;have hu:=Tryz.underlying9;refine Ze _ ?_ ⟨Below.refl _ _,rfl⟩;unfold execOp;simp[go_sem,ho,h,h']
theorem ZeW {d:Nat}{x:Operand}{a:It}(hg:Gd l u0 w0 Fs o)(ho:o.op= .buildSlice 28 1 #[(0,x)])(hx:Src l u0 w0 Fs o x (kV (itV a)))(hd:o.dst=some d)(hf:Fs[i]? =some (d,kX [a])):stepU Tryz.prog l BR w0 u0 (kG Fs) i o:=
 Zaq hg hd hf fun u w h1 h2 h3=>Zch _ _ _ _ _ ho (hx u w h1 h2 h3) ⟨(Below.refl _ _).alloc (Nat.le_refl _) _,_,rfl,RdI.new _ _ [a]⟩
theorem ZmP {d:Nat}{x y:Operand}{a b:It}(hg:Gd l u0 w0 Fs o)(ho:o.op= .buildSlice 28 2 #[(0,x),(1,y)])(hx:Src l u0 w0 Fs o x (kV (itV a)))(hy:Src l u0 w0 Fs o y (kV (itV b)))(hd:o.dst=some d)(hf:Fs[i]? =some (d,kX [a,b])):stepU Tryz.prog l BR w0 u0 (kG Fs) i o:=
 Zaq hg hd hf fun u w h1 h2 h3=>by
  have h:=hx u w h1 h2 h3;have h':=hy u w h1 h2 h3;simp only[kV]at h h';have hr:(execOp (evU u) o).run Tryz.prog w= .ok (.value (.slice (some ⟨w.heap.size,0,none⟩) 2 2)) (w.alloc (.cells (Zi [a,b]).toArray 24)):=by have hu:=Tryz.underlying24;have hu2:=Tryz.underlying28;have hs:=Tryz.underlying9;have hi:=Tryz.underlying3;have hi2:=Tryz.underlying2;unfold execOp;simp[go_sem,ho,h,h',itV,itC,Zi]
  rw[hr];exact⟨(Below.refl _ _).alloc (Nat.le_refl _) _,_,rfl,RdI.new _ _ [a,b]⟩
theorem ZaZ {d:Nat}{x:Operand}{ts:Array TypeId}{a:List It}(hg:Gd l u0 w0 Fs o)(ho:o.op= .call {callee:= .value (.func 9),args:=#[x],argTypes:=ts})(hx:Src l u0 w0 Fs o x (kX a))(hd:o.dst=some d)(hf:Fs[i]? =some (d,kX a)):stepU Tryz.prog l BR w0 u0 (kG Fs) i o:=
 Zaq hg hd hf fun u w h1 h2 h3=>by obtain⟨p,e,r⟩:=hx u w h1 h2 h3;exact Zav _ _ _ Tryz.func9 (by kernel_rfl) ho e ((Zz _ _ _ _).mono fun e w' ⟨h,hw⟩=>⟨_,h,by rw[←hw];exact⟨Below.refl _ _,p,rfl,r⟩⟩)
theorem Zoe {d:Nat}{x:Operand}{ts:Array TypeId}{n:Int}(hg:Gd l u0 w0 Fs o)(ho:o.op= .call {callee:= .value (.func 4),args:=#[x],argTypes:=ts})(hx:Src l u0 w0 Fs o x (kV (.int .i64 n)))(hd:o.dst=some d)(hf:Fs[i]? =some (d,kV (itV ⟨2,n,⟨#[]⟩,0⟩))):stepU Tryz.prog l BR w0 u0 (kG Fs) i o:=
 Zaq hg hd hf fun u w h1 h2 h3=>Zav _ _ _ Tryz.func4 (by kernel_rfl) ho (hx u w h1 h2 h3) ((Zw _ _).mono fun e w' ⟨h,hb⟩=>⟨_,h,hb,rfl⟩)
theorem r_st {d:Nat}{x:Operand}{ts:Array TypeId}{s:ByteArray}(hg:Gd l u0 w0 Fs o)(ho:o.op= .call {callee:= .value (.func 5),args:=#[x],argTypes:=ts})(hx:Src l u0 w0 Fs o x (kV (.string s)))(hd:o.dst=some d)(hf:Fs[i]? =some (d,kV (itV ⟨3,0,s,0⟩))):stepU Tryz.prog l BR w0 u0 (kG Fs) i o:=
 Zaq hg hd hf fun u w h1 h2 h3=>Zav _ _ _ Tryz.func5 (by kernel_rfl) ho (hx u w h1 h2 h3) ((Zad _ _).mono fun e w' ⟨h,hb⟩=>⟨_,h,hb,rfl⟩)
def Znl(w0:World)(f:FuncId)(s:ByteArray)(A B:List It):Prop:=∀(p q:Option Addr) (c d:Nat) (W:World),BR w0 W→RdI W p A→RdI W q B→Calls Tryz.prog f #[.string s,.slice p A.length c,.slice q B.length d] W fun e w'=>e= .returned (.bool true)∧Below W.heap.size W w'
theorem ZmQ {d f:Nat}{fn:Func}{x y z:Operand}{ts:Array TypeId}{s:ByteArray}{A B:List It}(hL:Znl w0 f s A B)(hfn:Tryz.prog.funcs[f]? =some fn)(hfb:(fn.name== "runtime.NumGoroutine"||fn.body.isNone)=false)(hg:Gd l u0 w0 Fs o)(ho:o.op= .call {callee:= .value (.func f),args:=#[x,y,z],argTypes:=ts})
  (hx:Src l u0 w0 Fs o x (kV (.string s))) (hy:Src l u0 w0 Fs o y (kR A)) (hz:Src l u0 w0 Fs o z (kR B)) (hd:o.dst=some d) (hf:Fs[i]? =some (d,kV (.bool true))):stepU Tryz.prog l BR w0 u0 (kG Fs) i o:=
 Zaq hg hd hf fun u w h1 h2 h3=>by obtain⟨p,c,e1,r1⟩:=hy u w h1 h2 h3;obtain⟨q,c2,e2,r2⟩:=hz u w h1 h2 h3;exact Zbs _ _ _ _ _ _ _ hfn hfb ho (hx u w h1 h2 h3) e1 e2 ((hL p q c c2 w h1 r1 r2).mono fun e w' ⟨h,hb⟩=>⟨_,h,hb,rfl⟩)
def Zpp(w0:World)(f:FuncId)(s:ByteArray)(L:List (List It)):Prop:=∀(p:Option Addr) (c:Nat) (W:World),BR w0 W→RdS W p L→Calls Tryz.prog f #[.string s,.slice p L.length c] W fun e w'=>e= .returned (.bool true)∧Below W.heap.size W w'
theorem Zj5 {d f:Nat}{fn:Func}{x y:Operand}{ts:Array TypeId}{s:ByteArray}{L:List (List It)}(hL:Zpp w0 f s L)(hfn:Tryz.prog.funcs[f]? =some fn)(hfb:(fn.name== "runtime.NumGoroutine"||fn.body.isNone)=false)(hg:Gd l u0 w0 Fs o)(ho:o.op= .call {callee:= .value (.func f),args:=#[x,y],argTypes:=ts})
  (hx:Src l u0 w0 Fs o x (kV (.string s))) (hy:Src l u0 w0 Fs o y (kS L)) (hd:o.dst=some d) (hf:Fs[i]? =some (d,kV (.bool true))):stepU Tryz.prog l BR w0 u0 (kG Fs) i o:=
 Zaq hg hd hf fun u w h1 h2 h3=>by obtain⟨p,c,e1,r1⟩:=hy u w h1 h2 h3;exact Z1 _ _ _ _ _ hfn hfb ho (hx u w h1 h2 h3) e1 ((hL p c w h1 r1).mono fun e w' ⟨h,hb⟩=>⟨_,h,hb,rfl⟩)
theorem s1:Src l u0 w0 Fs o (.const (.slice none 0 0)) (kS []):=fun _ _ _ _ _=>⟨none,0,rfl,[],rfl,.inl rfl,fun _ h=>absurd h (by simp)⟩
theorem Zdz(w:World)(ls:List Lst)(h:∀y∈ls,RdI w y.a y.l):BR w (w.alloc (.cells (ls.map Lst.v).toArray 28))∧(kS (ls.map Lst.l)).p (.slice (some ⟨w.heap.size,0,none⟩) ls.length ls.length) (w.alloc (.cells (ls.map Lst.v).toArray 28)):=
 ⟨(Below.refl _ _).alloc (Nat.le_refl _) _,some ⟨w.heap.size,0,none⟩,ls.length,by rw[List.length_map],ls,rfl,Rd.new w 28 _,fun y hy=>(h y hy).alloc _⟩
theorem r_s1 {d:Nat}{x:Operand}{a:List It}(hg:Gd l u0 w0 Fs o)(ho:o.op= .buildSlice 34 1 #[(0,x)])(hx:Src l u0 w0 Fs o x (kR a))(hd:o.dst=some d)(hf:Fs[i]? =some (d,kS [a])):stepU Tryz.prog l BR w0 u0 (kG Fs) i o:=
 Zaq hg hd hf fun u w h1 h2 h3=>by
  obtain⟨p,c,e,r⟩:=hx u w h1 h2 h3;have hr:(execOp (evU u) o).run Tryz.prog w= .ok (.value (.slice (some ⟨w.heap.size,0,none⟩) 1 1)) (w.alloc (.cells (([⟨p,a,c⟩]:List Lst).map Lst.v).toArray 28)):=by have hu:=Tryz.underlying28;have hu2:=Tryz.underlying34;unfold execOp;simp[go_sem,ho,e,Lst.v]
  rw[hr];exact Zdz w [⟨p,a,c⟩] (by simpa using r)
theorem Zof {d:Nat}{x y:Operand}{a b:List It}(hg:Gd l u0 w0 Fs o)(ho:o.op= .buildSlice 34 2 #[(0,x),(1,y)])(hx:Src l u0 w0 Fs o x (kR a))(hy:Src l u0 w0 Fs o y (kR b))(hd:o.dst=some d)(hf:Fs[i]? =some (d,kS [a,b])):stepU Tryz.prog l BR w0 u0 (kG Fs) i o:=
 Zaq hg hd hf fun u w h1 h2 h3=>by
  obtain⟨p,c,e,r⟩:=hx u w h1 h2 h3;obtain⟨p2,c2,e2,r2⟩:=hy u w h1 h2 h3;have hr:(execOp (evU u) o).run Tryz.prog w= .ok (.value (.slice (some ⟨w.heap.size,0,none⟩) 2 2)) (w.alloc (.cells (([⟨p,a,c⟩,⟨p2,b,c2⟩]:List Lst).map Lst.v).toArray 28)):=by have hu:=Tryz.underlying28;have hu2:=Tryz.underlying34;unfold execOp;simp[go_sem,ho,e,e2,Lst.v]
  rw[hr];exact Zdz w [⟨p,a,c⟩,⟨p2,b,c2⟩] (by simpa using⟨r,r2⟩)
theorem r_s3 {d:Nat}{x y z:Operand}{a b f:List It}(hg:Gd l u0 w0 Fs o)(ho:o.op= .buildSlice 34 3 #[(0,x),(1,y),(2,z)])(hx:Src l u0 w0 Fs o x (kR a))(hy:Src l u0 w0 Fs o y (kR b))(hz:Src l u0 w0 Fs o z (kR f))(hd:o.dst=some d)(hf:Fs[i]? =some (d,kS [a,b,f])):stepU Tryz.prog l BR w0 u0 (kG Fs) i o:=
 Zaq hg hd hf fun u w h1 h2 h3=>by
  obtain⟨p,c,e,r⟩:=hx u w h1 h2 h3;obtain⟨p2,c2,e2,r2⟩:=hy u w h1 h2 h3;obtain⟨p3,c3,e3,r3⟩:=hz u w h1 h2 h3;have hr:(execOp (evU u) o).run Tryz.prog w= .ok (.value (.slice (some ⟨w.heap.size,0,none⟩) 3 3)) (w.alloc (.cells (([⟨p,a,c⟩,⟨p2,b,c2⟩,⟨p3,f,c3⟩]:List Lst).map Lst.v).toArray 28)):=by have hu:=Tryz.underlying28;have hu2:=Tryz.underlying34;unfold execOp;simp[go_sem,ho,e,e2,e3,Lst.v]
  rw[hr];exact Zdz w [⟨p,a,c⟩,⟨p2,b,c2⟩,⟨p3,f,c3⟩] (by simpa using⟨r,r2,r3⟩)
theorem r_s4 {d:Nat}{x y z v:Operand}{a b f g:List It}(hg:Gd l u0 w0 Fs o)(ho:o.op= .buildSlice 34 4 #[(0,x),(1,y),(2,z),(3,v)])(hx:Src l u0 w0 Fs o x (kR a))(hy:Src l u0 w0 Fs o y (kR b))(hz:Src l u0 w0 Fs o z (kR f))(hv:Src l u0 w0 Fs o v (kR g))(hd:o.dst=some d)(hf:Fs[i]? =some (d,kS [a,b,f,g])):stepU Tryz.prog l BR w0 u0 (kG Fs) i o:=
 Zaq hg hd hf fun u w h1 h2 h3=>by
  obtain⟨p,c,e,r⟩:=hx u w h1 h2 h3;obtain⟨p2,c2,e2,r2⟩:=hy u w h1 h2 h3;obtain⟨p3,c3,e3,r3⟩:=hz u w h1 h2 h3;obtain⟨p4,c4,e4,r4⟩:=hv u w h1 h2 h3;have hr:(execOp (evU u) o).run Tryz.prog w= .ok (.value (.slice (some ⟨w.heap.size,0,none⟩) 4 4)) (w.alloc (.cells (([⟨p,a,c⟩,⟨p2,b,c2⟩,⟨p3,f,c3⟩,⟨p4,g,c4⟩]:List Lst).map Lst.v).toArray 28)):=by have hu:=Tryz.underlying28;have hu2:=Tryz.underlying34;unfold execOp;simp[go_sem,ho,e,e2,e3,e4,Lst.v]
  rw[hr];exact Zdz w [⟨p,a,c⟩,⟨p2,b,c2⟩,⟨p3,f,c3⟩,⟨p4,g,c4⟩] (by simpa using⟨r,r2,r3,r4⟩)
def Zi7(w0:World)(f:FuncId)(s:ByteArray)(L:List (List It))(E:Int):Prop:=∀(p:Option Addr) (c:Nat) (W:World),BR w0 W→RdS W p L→Calls Tryz.prog f #[.string s,.slice p L.length c] W fun e w'=>(∃v,e= .returned (.tuple #[v,.int .i64 E]))∧Below W.heap.size W w'
theorem Zog {d f:Nat}{fn:Func}{x y:Operand}{ts:Array TypeId}{s:ByteArray}{L:List (List It)}{E:Int}(hL:Zi7 w0 f s L E)(hfn:Tryz.prog.funcs[f]? =some fn)(hfb:(fn.name== "runtime.NumGoroutine"||fn.body.isNone)=false)(hg:Gd l u0 w0 Fs o)(ho:o.op= .call {callee:= .value (.func f),args:=#[x,y],argTypes:=ts})
  (hx:Src l u0 w0 Fs o x (kV (.string s))) (hy:Src l u0 w0 Fs o y (kS L)) (hd:o.dst=some d) (hf:Fs[i]? =some (d,kT E)):stepU Tryz.prog l BR w0 u0 (kG Fs) i o:=
 Zaq hg hd hf fun u w h1 h2 h3=>by obtain⟨p,c,e1,r1⟩:=hy u w h1 h2 h3;exact Z1 _ _ _ _ _ hfn hfb ho (hx u w h1 h2 h3) e1 ((hL p c w h1 r1).mono fun e w' ⟨⟨v,h⟩,hb⟩=>⟨_,h,hb,v,rfl⟩)
theorem r_x0 {d:Nat}{x:Operand}{E:Int}(hg:Gd l u0 w0 Fs o)(ho:o.op= .extract x 0)(hs:Src l u0 w0 Fs o x (kT E))(hd:o.dst=some d)(hf:Fs[i]? =some (d,kA)):stepU Tryz.prog l BR w0 u0 (kG Fs) i o:=
 Zaq hg hd hf fun u w h1 h2 h3=>by obtain⟨v,e⟩:=hs u w h1 h2 h3;exact Zaz x 0 _ v ho e rfl ⟨Below.refl _ _,trivial⟩
theorem r_x1 {d:Nat}{x:Operand}{E:Int}(hg:Gd l u0 w0 Fs o)(ho:o.op= .extract x 1)(hs:Src l u0 w0 Fs o x (kT E))(hd:o.dst=some d)(hf:Fs[i]? =some (d,kV (.int .i64 E))):stepU Tryz.prog l BR w0 u0 (kG Fs) i o:=
 Zaq hg hd hf fun u w h1 h2 h3=>by obtain⟨v,e⟩:=hs u w h1 h2 h3;exact Zaz x 1 _ _ ho e rfl ⟨Below.refl _ _,rfl⟩
def Znm(f:FuncId)(s:ByteArray)(n:Int)(r:ByteArray):Prop:=∀W:World,Calls Tryz.prog f #[.string s,.int .i64 n] W fun e w'=>e= .returned (.string r)∧Below W.heap.size W w'
theorem Zpq {d f:Nat}{fn:Func}{x y:Operand}{ts:Array TypeId}{s r:ByteArray}{n:Int}(hL:Znm f s n r)(hfn:Tryz.prog.funcs[f]? =some fn)(hfb:(fn.name== "runtime.NumGoroutine"||fn.body.isNone)=false)(hg:Gd l u0 w0 Fs o)(ho:o.op= .call {callee:= .value (.func f),args:=#[x,y],argTypes:=ts})
  (hx:Src l u0 w0 Fs o x (kV (.string s))) (hy:Src l u0 w0 Fs o y (kV (.int .i64 n))) (hd:o.dst=some d) (hf:Fs[i]? =some (d,kV (.string r))):stepU Tryz.prog l BR w0 u0 (kG Fs) i o:=
 Zaq hg hd hf fun u w h1 h2 h3=>Z1 _ _ _ _ _ hfn hfb ho (hx u w h1 h2 h3) (hy u w h1 h2 h3) ((hL w).mono fun _ _ ⟨h,hb⟩=>⟨_,h,hb,rfl⟩)
theorem Zoh {d k n c b off:Nat}{x y:Operand}{j:Int}(hg:Gd l u0 w0 Fs o)(ho:o.op= .indexAddr 41 x y)(hx:Src l u0 w0 Fs o x (kV (.slice (some ⟨b,off,none⟩) n c)))(hy:Src l u0 w0 Fs o y (kV (.int .i64 j)))(hj:j=k)(hk:k<n)(hd:o.dst=some d)
  (hf:Fs[i]? =some (d,kV (.pointer (some ⟨b,off+k*2,none⟩)))):stepU Tryz.prog l BR w0 u0 (kG Fs) i o:=
 Zaq hg hd hf fun u w h1 h2 h3=>by
  have h:=hx u w h1 h2 h3;have h':=hy u w h1 h2 h3;simp only[kV]at h h';subst hj;have e:(Tryz.prog.info? 40).map (fun i=>i.size)=some 2:=by kernel_rfl
  obtain⟨j0,hj0,hj1⟩:=Option.map_eq_some_iff.1 e;have hi:=ZfP Tryz.underlying41 hj0 hj1 b off n c k k rfl hk w;refine Ze _ ?_ ⟨Below.refl _ _,rfl⟩;unfold execOp;simp[go_sem,ho,h,h',hi]
theorem Zoi {d b off q:Nat}{x:Operand}(hq:q=0∨q=1)(hg:Gd l u0 w0 Fs o)(ho:o.op= .indexAddr 40 x (.const (.int .i64 (q:Int))))(hx:Src l u0 w0 Fs o x (kV (.pointer (some ⟨b,off,none⟩))))(hd:o.dst=some d)
  (hf:Fs[i]? =some (d,kV (.pointer (some ⟨b,off+q,none⟩)))):stepU Tryz.prog l BR w0 u0 (kG Fs) i o:=
 Zaq hg hd hf fun u w h1 h2 h3=>by
  have h:=hx u w h1 h2 h3;simp only[kV]at h;have hu:=Tryz.underlying40;have e:(Tryz.prog.info? 2).map (fun i=>i.size)=some 1:=by kernel_rfl
  obtain⟨j0,hj0,hj1⟩:=Option.map_eq_some_iff.1 e;refine Ze _ ?_ ⟨Below.refl _ _,rfl⟩;unfold execOp;have h':evU u (.const (.int .i64 0))= .int .i64 0:=rfl;have h5:evU u (.const (.int .i64 1))= .int .i64 1:=rfl;rcases hq with rfl|rfl
  ·simp[go_sem,h',ho,h,Instr.indexAt,run_underlying hu,sizeOf,typeInfo,hj0]
  ·simp[go_sem,h5,ho,h,Instr.indexAt,run_underlying hu,sizeOf,typeInfo,hj0,hj1,Zb7]
theorem Zoj {d b off:Nat}{x:Operand}{n:Int}(hg:Gd l u0 w0 Fs o)(ho:o.op= .load 2 x)(hx:Src l u0 w0 Fs o x (kV (.pointer (some ⟨b,off,none⟩))))(hc:w0.cell? ⟨b,off,none⟩=some (.int .i64 n))(hd:o.dst=some d)
  (hf:Fs[i]? =some (d,kV (.int .i64 n))):stepU Tryz.prog l BR w0 u0 (kG Fs) i o:=
 Zaq hg hd hf fun u w h1 h2 h3=>by have h:=hx u w h1 h2 h3;have h':=Zc h1 hc;simp only[kV]at h;have hu:=Tryz.underlying2;refine Ze _ ?_ ⟨Below.refl _ _,rfl⟩;unfold execOp;simp[go_sem,ho,h,h']
theorem ZkQ {u:Nat→Value}{w:World}{K:Value→World→Prop}(x y:Operand)(t:TypeId)(v1 v2 v:Value)(w':World)(h:o.op= .call {callee:= .builtin .append,args:=#[x,y],argTypes:=#[t,t]})(h1:evU u x=v1)(h2:evU u y=v2)
  (hr:(Builtin.append_ #[t,t] o.type #[v1,v2]).run Tryz.prog w= .ok v w') (hk:K v w'):Zac K Tryz.prog ((execOp (evU u) o).run Tryz.prog w):=by
 have hr':(execOp (evU u) o).run Tryz.prog w= .ok (.value v) w':=by unfold execOp;simp only[h,resolve,invoke,builtin,Sem.run_bind,Sem.run_pure,Result.andThen_ok,List.map_toArray,List.map_cons,List.map_nil,h1,h2,hr]
 rw[hr'];exact hk
theorem ZpC {d:Nat}{x y:Operand}{a b:List It}(ha:a≠ [])(hb:b≠ [])(hl:a.length+b.length≤1000000)(hg:Gd l u0 w0 Fs o)(ho:o.op= .call {callee:= .builtin .append,args:=#[x,y],argTypes:=#[28,28]})(hx:Src l u0 w0 Fs o x (kX a))(hy:Src l u0 w0 Fs o y (kR b))(hd:o.dst=some d)
  (hf:Fs[i]? =some (d,kR (a++b))):stepU Tryz.prog l BR w0 u0 (kG Fs) i o:=
 Zaq hg hd hf fun u w h1 h2 h3=>by
  obtain⟨p,e,r⟩:=hx u w h1 h2 h3;obtain⟨q,c,e2,r2⟩:=hy u w h1 h2 h3;obtain⟨i0,hi,hz0,hz1,hz2⟩:=info_parts ZaD;have hne:∀z:List It,z≠ []→Zi z≠ []:=fun z hz e=>by have h5:=Zg z;rw[e]at h5;exact hz (List.length_eq_zero_iff.1 (by simp at h5;omega))
  obtain⟨b1,off1,ep,_,hc1⟩:=Rd.addrAt r (hne a ha);injection ep with ep;subst ep;obtain⟨b2,off2,rfl,_,hc2⟩:=Rd.addrAt r2 (hne b hb);obtain⟨v',w',hrun,ho2,hgr⟩:=run_append_arg_grows (P:=Tryz.prog) w 28 o.type 24 i0 _ 4 40 Tryz.underlying28 hi hz0 hz1 hz2 rfl (by decide) ⟨b1,off1,none⟩ a.length a.length (Zi a) (by rw[Zg]) (Rd.news r) ⟨b2,off2,none⟩ b.length c (Zi b) (by rw[Zg]) (Rd.news r2) (by have:=List.length_pos_iff.2 hb;omega) (by unfold maxLen;omega) (by omega);refine ZkQ x y _ _ _ _ _ ho e e2 hrun ⟨ZbG hgr,?_⟩;have ho3:OwI w' w.heap.size v' (a++b):=by unfold OwI;rw[Zj,List.length_append];exact ho2
  obtain⟨a',c',hv⟩:=Zl ho3;subst hv;exact⟨a',c',rfl,OwI.rd ho3⟩
end
end Go.Proofs.YtnnfhojhbbcbmaaGreatDoor
namespace Go.Proofs.YtnnfhojhbbcbmaaGreatDoor
theorem ZcH(u:Nat→Value)(d:List Deferred):∀(Fs:List (Nat×Kd)) (L:List Value) (s:Nat),Fs.map (·.1)=List.range' s Fs.length→s+Fs.length≤L.length→Zi6 Fs u ⟨L.toArray,d⟩=⟨(L.take s++Fs.map (fun x=>u x.1)++L.drop (s+Fs.length)).toArray,d⟩
 | [],L,s,_,_=>by simp[Zi6]
 |x::r,L,s,h,hl=>by
  simp only[List.map_cons,List.length_cons,List.range'_succ,List.cons.injEq]at h hl;obtain⟨rfl,h2⟩:=h;have h3:x.1<L.length:=by omega
  unfold Zi6;rw[show(Act.mk L.toArray d).put (some x.1) (u x.1)=⟨(L.set x.1 (u x.1)).toArray,d⟩ by simp[Act.put],ZcH u d r (L.set x.1 (u x.1)) (x.1+1) h2 (by rw[List.length_set];omega)];have e1:(L.set x.1 (u x.1)).take (x.1+1)=L.take x.1++[u x.1]:=by rw[List.take_add_one,List.take_set_of_le (Nat.le_refl _)];simp[h3]
  have e2:(L.set x.1 (u x.1)).drop (x.1+1+r.length)=L.drop (x.1+(r.length+1)):=by rw[List.drop_set_of_lt (by omega),Nat.add_assoc,Nat.add_comm 1]
  rw[e1,e2];simp
end Go.Proofs.YtnnfhojhbbcbmaaGreatDoor
