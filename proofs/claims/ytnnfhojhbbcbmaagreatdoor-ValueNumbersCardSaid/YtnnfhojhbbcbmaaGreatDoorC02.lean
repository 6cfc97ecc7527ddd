/- A region that draws its order: each operation shows a fact of its own, whatever order is drawn; all facts hold behind the region. value.plus, times, made: what a sign makes of two numbers. One item, alone. chars at plain text. -/
import Derived.Test.YtnnfhojhbbcbmaaGreatDoorC01
import Derived.Test.YtnnfhojhbbcbmaaGreatDoorC00
namespace Go.Proofs.YtnnfhojhbbcbmaaGreatDoor
open Go.RowKit
section
variable {P : Program} {l : List Oper} {Q : Exit → Act → World → Prop}
def evU(u:Nat→Value):Operand→Value
 | .tmp t=>u t
 | .const v=>v
 | .global g=> .pointer (some ⟨g,0,none⟩)
 | .func f=> .func (.func f) #[] #[]
def Zci(u:Nat→Value)(d:Option Nat)(v:Value):Nat→Value:=fun s=>if d=some s then v else u s
def ZhA(l:List Oper)(u:Nat→Value)(j:Nat):Option Bool:=
 match (l[j]?).bind (·.dst)with
 |some d=>match u d with
  | .bool b=>some b
  |_=>none
 |none=>none
def Zac(K:Value→World→Prop)(P:Program):Result Next→Prop
 | .ok (.value v) w'=>K v w'
 | .ok .skip w'=>K undef w'
 | .ok (.enter f args) w'=>Calls P f args w' fun e w''=>∃v,e= .returned v∧K v w''
 |_=>False
def ZX(o:Oper)(k:Nat):Bool:=o.after.toList.any fun e=>Region.binds .any e&&e.on==k
def Zs(Fs:List ((Nat→Value)→World→Prop))(k:Nat):(Nat→Value)→World→Prop:=fun u w=>match Fs[k]? with
 |some F=>F u w
 |none=>True
def ZcR(l:List Oper)(s:Nat):Bool:=l.all fun o=>o.dst != some s
theorem ZiZ {l:List Oper}{s:Nat}(h:ZcR l s=true):∀o∈l,o.dst≠some s:=fun o ho=>by have:=List.all_eq_true.1 h o ho;simpa using this
def stepU(P:Program)(l:List Oper)(R:World→World→Prop)(w0:World)(u0:Nat→Value)(Fs:List ((Nat→Value)→World→Prop))(i:Nat)(o:Oper):Prop:=
 ∀u w,R w0 w→(∀s,ZcR l s=true→u s=u0 s)→(∀k,ZX o k=true→Zs Fs k u w)→
  if Region.wanted o (ZhA l u)then Zac (fun v w'=>R w w'∧Zs Fs i (Zci u o.dst v) w') P ((execOp (evU u) o).run P w)else Zs Fs i (Zci u o.dst undef) w
def stepsU(P:Program)(l:List Oper)(R:World→World→Prop)(w0:World)(u0:Nat→Value)(Fs:List ((Nat→Value)→World→Prop)):Nat→List Oper→Prop
 |_,[]=>True
 |i,o::rest=>stepU P l R w0 u0 Fs i o∧stepsU P l R w0 u0 Fs (i+1) rest
theorem stepsU_at {R:World→World→Prop}{w0:World}{u0:Nat→Value}{Fs:List ((Nat→Value)→World→Prop)}:∀(m:List Oper) (n:Nat),stepsU P l R w0 u0 Fs n m→∀i o,m[i]? =some o→stepU P l R w0 u0 Fs (n+i) o
 | [],_,_,i,o,h=>by simp at h
 |x::m,n,hs,0,o,h=>by simp at h;subst h;exact hs.1
 |x::m,n,hs,i+1,o,h=>by
  have:=stepsU_at m (n+1) hs.2 i o (by simpa using h);rwa[show n+1+i=n+(i+1)from by omega]at this
def ZaW(l:List Oper)(u:Nat→Value)(a0:Act):Act:=
 match l with
 | []=>a0
 |o::rest=>ZaW rest u (match o.dst with
  |some d=>a0.put (some d) (u d)
  |none=>a0)
def ZfQ(l:List Oper)(n:Nat):Bool:=
 (List.range l.length).all fun i=>match l[i]? with
  |some o=>(o.after.toList.all fun e=>!Region.binds .any e||decide (e.on<i))&&(match o.dst with
   |some d=>decide (d<n)
   |none=>true)
  |none=>true
def Zng(l:List Oper)(sl:List (List Nat)):Bool:=
 (List.range l.length).all fun k=>(List.range l.length).all fun i=>i==k||(match l[i]?,l[k]? with
  |some oi,some ok=>(match oi.dst with
   |some d=>!((sl[k]?).getD []).contains d||ZX ok i
   |none=>true)
  |_,_=>true)
theorem ZmO {a:Act}{u:Nat→Value}(h:∀s,a.tmps.getD s undef=u s):a.eval=evU u:=by
 funext x
 cases x with
 |tmp t=>exact h t
 |const v=>rfl
 |global g=>rfl
 |func f=>rfl
theorem Zj0 {a:Act}{u:Nat→Value}(h:∀s,a.tmps.getD s undef=u s):yielded l.toArray a.tmps=ZhA l u:=by
 funext j
 unfold yielded ZhA;simp only[List.getElem?_toArray];cases hd:(l[j]?).bind (·.dst)with
 |none=>rfl
 |some d=>
  simp only[Option.bind_some];rw[←h d];cases hx:a.tmps[d]? with
  |none=>simp[Array.getD_eq_getD_getElem?,hx,undef]
  |some v=>simp only[Array.getD_eq_getD_getElem?,hx,Option.getD_some];cases v<;>rfl
theorem Ziv {a:Act}{u:Nat→Value}(h:∀s,a.tmps.getD s undef=u s)(d:Option Nat)(v:Value)(hd:∀x,d=some x→x<a.tmps.size):
  ∀s,(a.put d v).tmps.getD s undef=Zci u d v s:=by
 intro s;cases d with
 |none=>simpa[Act.put,Zci]using h s
 |some d=>
  have:=hd d rfl;simp only[Act.put,Zci,Array.getD_eq_getD_getElem?,Array.getElem?_setIfInBounds];have h':=h s;simp only[Array.getD_eq_getD_getElem?]at h';by_cases e:d=s
  ·subst e;simp[this]
  ·simp[e,h']
theorem Ziw {a a0:Act}{u:Nat→Value}(hu:∀s,a.tmps.getD s undef=u s)(hsz:a.tmps.size=a0.tmps.size)(hdf:a.defers=a0.defers)
  (hk:∀s,(∀o∈l,o.dst≠some s)→a.tmps.getD s undef=a0.tmps.getD s undef):a=ZaW l u a0:=by
 induction l generalizing a0 with
 |nil=>
  have:a.tmps=a0.tmps:=by apply Array.ext hsz;intro i h1 h2;have:=hk i (by simp);simpa[Array.getD_eq_getD_getElem?,h1,h2]using this
  cases a;cases a0;simp_all[ZaW]
 |cons o rest ih=>
  unfold ZaW;cases hd:o.dst with
  |none=>
   refine ih hsz hdf fun s hs=>hk s fun o' ho'=>?_;rcases List.mem_cons.1 ho' with e|e
   ·rw[e,hd];simp
   ·exact hs o' e
  |some d=>
   refine ih (by simpa[Act.put]using hsz) (by simpa[Act.put]using hdf) fun s hs=>?_;by_cases e:d=s
   ·subst e;by_cases hlt:d<a0.tmps.size
    ·rw[hu d];simp[Act.put,Array.getD_eq_getD_getElem?,hlt]
    ·have h1:a0.tmps.size≤d:=Nat.le_of_not_lt hlt;have h2:a.tmps.size≤d:=by rw[hsz];exact h1
     rw[Array.getD_eq_getD_getElem?,Array.getD_eq_getD_getElem?,Array.getElem?_eq_none h2,Array.getElem?_eq_none (by simpa[Act.put]using h1)]
   ·have:=hk s fun o' ho'=>by
     rcases List.mem_cons.1 ho' with e'|e'
     ·rw[e',hd];simpa using e
     ·exact hs o' e'
    rw[this];simp[Act.put,Array.getD_eq_getD_getElem?,e]
structure AtU (l:List Oper) (R:World→World→Prop) (w0:World) (a0:Act) (Fs:List ((Nat→Value)→World→Prop)) (D:Array Bool) (a:Act) (w:World):Prop where
 sz:a.tmps.size=a0.tmps.size
 df:a.defers=a0.defers
 kp:∀s,(∀o∈l,o.dst≠some s)→a.tmps.getD s undef=a0.tmps.getD s undef
 ww:R w0 w
 dn:∀k o i,l[k]? =some o→D.getD k false=true→ZX o i=true→D.getD i false=true
 fa:∀k,D.getD k false=true→Zs Fs k (fun s=>a.tmps.getD s undef) w
theorem wpAny_facts {R:World→World→Prop}{w0:World}{a0:Act}{Fs:List ((Nat→Value)→World→Prop)}{sl:List (List Nat)}
  (hE:ZfQ l a0.tmps.size=true) (hO:Zng l sl=true) (hrf:∀w1,R w0 w1→R w1 w1) (htr:∀w1 w2 w3,R w1 w2→R w2 w3→R w1 w3)
  (hloc:∀k u u' w w',k<l.length→(∀s∈(sl[k]?).getD [],u' s=u s)→R w w'→Zs Fs k u w→Zs Fs k u' w')
  (hs:stepsU P l R w0 (fun s=>a0.tmps.getD s undef) Fs 0 l)
  (hQ:∀u w,R w0 w→(∀k,k<l.length→Zs Fs k u w)→Q .normal (ZaW l u a0) w):
  ∀(fuel:Nat) (D:Array Bool) (a:Act) (w:World),D.size=l.length→(D.toList.filter (!·)).length≤fuel→AtU l R w0 a0 Fs D a w→wpAny P .any l.toArray Q fuel D a w:=by
 have hrefl:∀w1 w2,R w1 w2→∀k u u',k<l.length→(∀s∈(sl[k]?).getD [],u' s=u s)→Zs Fs k u w1→Zs Fs k u' w2:=fun w1 w2 h k u u' hk hu hf=>hloc k u u' w1 w2 hk hu h hf;have hsp:∀i o,l[i]? =some o→stepU P l R w0 (fun s=>a0.tmps.getD s undef) Fs i o:=fun i o ho=>by have:=stepsU_at l 0 hs i o ho;rwa[Nat.zero_add]at this
 have hEi:∀i o,l[i]? =some o→(∀e∈o.after,Region.binds .any e=true→e.on<i)∧(∀d,o.dst=some d→d<a0.tmps.size):=by
  intro i o ho;have hi:i<l.length:=(List.getElem?_eq_some_iff.1 ho).1;have h1:=List.all_eq_true.1 hE i (by simpa using hi);simp only[ho,Bool.and_eq_true]at h1;refine⟨fun e he hb=>?_,fun d hd=>?_⟩
  ·have:=(List.all_eq_true.1 h1.1) e (Array.mem_toList_iff.2 he);simpa[hb]using this
  ·have:=h1.2;rw[hd]at this;simpa using this
 have hfin:∀D a w,D.size=l.length→Region.ready .any l.toArray D=[]→AtU l R w0 a0 Fs D a w→Q .normal a w:=by
  intro D a w hD hr ha
  have hall:∀k,k<l.length→D.getD k false=true:=by
   intro k
   induction k using Nat.strongRecOn with
   |ind k ih=>
    intro hk;rcases Bool.eq_false_or_eq_true (D.getD k false)with h|h
    ·exact h
    ·exfalso;obtain⟨o,ho⟩:∃o,l[k]? =some o:=⟨l[k],List.getElem?_eq_getElem hk⟩
     have hm:k∈Region.ready .any l.toArray D:=by
      simp only[Region.ready,List.mem_filter,List.mem_range,List.size_toArray];refine⟨hk,?_⟩;have h2:D.getD k true=false:=by simp only[Array.getD_eq_getD_getElem?]at h⊢;rw[Array.getElem?_eq_getElem (by omega)]at h⊢;exact h
      simp only[h2,List.getElem?_toArray,ho,Option.map_some,Option.getD_some,Bool.not_false,Bool.true_and];rw[Array.all_eq_true'];intro e he;by_cases hb:Region.binds .any e=true
      ·have:=(hEi k o ho).1 e he hb;simp[hb];have h3:=ih e.on this (by omega);simpa[Array.getD_eq_getD_getElem?]using h3
      ·simp[hb]
     rw[hr]at hm;cases hm
  have hf:a=ZaW l (fun s=>a.tmps.getD s undef) a0:=Ziw (fun _=>rfl) ha.sz ha.df ha.kp;rw[hf];exact hQ _ _ ha.ww fun k hk=>ha.fa k (hall k hk)
 intro fuel
 induction fuel with
 |zero=>
  intro D a w hD hn ha;have hr:Region.ready .any l.toArray D=[]:=by simp only[Region.ready,List.filter_eq_nil_iff];intro i hi;simp only[List.mem_range,List.size_toArray]at hi;have h0:D.toList.filter (!·)=[]:=List.length_eq_zero_iff.1 (by omega);rw[List.filter_eq_nil_iff]at h0;have h1:=h0 (D[i]'(by omega)) (by simp);simp only[Bool.not_eq_true',Bool.not_eq_false]at h1;simp[Array.getD_eq_getD_getElem?,show i<D.size from by omega,h1]
  exact⟨hr,hfin D a w hD hr ha⟩
 |succ fuel ih=>
  intro D a w hD hn ha;refine⟨fun hr=>hfin D a w hD hr ha,fun i hi=>?_⟩;simp only[Region.ready,List.mem_filter,List.mem_range,List.size_toArray,Bool.and_eq_true]at hi;obtain⟨hlt,hun,haf⟩:=hi;obtain⟨o,ho⟩:∃o,l[i]? =some o:=⟨l[i],List.getElem?_eq_getElem hlt⟩;simp only[List.getElem?_toArray,ho,Option.map_some,Option.getD_some,Array.all_eq_true']at haf;have hDi:D[i]'(by omega)=false:=by simpa[Array.getD_eq_getD_getElem?,show i<D.size from by omega]using hun
  have hcnt:((D.setIfInBounds i true).toList.filter (!·)).length≤fuel:=by
   have h1:D.toList=D.toList.take i++false::D.toList.drop (i+1):=by
    have h3:i<D.toList.length:=by simp;omega
    have h2:=List.drop_eq_getElem_cons h3;rw[Array.getElem_toList,hDi]at h2;rw[←h2,List.take_append_drop]
   have h2:(D.setIfInBounds i true).toList=D.toList.take i++true::D.toList.drop (i+1):=by rw[Array.toList_setIfInBounds,List.set_eq_take_append_cons_drop,if_pos (by simp;omega)]
   rw[h1]at hn;rw[h2];simp only[List.filter_append,List.length_append,List.filter_cons,Bool.not_false,if_true,List.length_cons,Bool.not_true,Bool.false_eq_true,if_false]at hn⊢;omega
  have hdeps:∀k,ZX o k=true→Zs Fs k (fun s=>a.tmps.getD s undef) w:=by intro k hk;unfold ZX at hk;rw[List.any_eq_true]at hk;obtain⟨e,he,hb⟩:=hk;have he:=Array.mem_toList_iff.1 he;simp only[Bool.and_eq_true,beq_iff_eq]at hb;obtain⟨hb1,hb2⟩:=hb;have:=haf e he;rw[hb1,hb2]at this;exact ha.fa k (by simpa using this)
  have hst:=hsp i o ho (fun s=>a.tmps.getD s undef) w ha.ww (fun s hs=>ha.kp s (ZiZ hs)) hdeps;have hdl:∀x,o.dst=some x→x<a.tmps.size:=fun x hx=>by rw[ha.sz];exact(hEi i o ho).2 x hx
  have hnext:∀v w',R w w'∧Zs Fs i (Zci (fun s=>a.tmps.getD s undef) o.dst v) w'→AtU l R w0 a0 Fs (D.setIfInBounds i true) (a.put o.dst v) w':=by
   intro v w' ⟨hR,hF⟩;have hg:=Ziv (a:=a) (u:=fun s=>a.tmps.getD s undef) (fun _=>rfl) o.dst v hdl;have hgf:(fun s=>(a.put o.dst v).tmps.getD s undef)=Zci (fun s=>a.tmps.getD s undef) o.dst v:=funext hg;refine⟨?_,?_,?_,htr _ _ _ ha.ww hR,?_,?_⟩
   ·rw[←ha.sz];cases o.dst<;>simp[Act.put]
   ·rw[←ha.df];cases o.dst<;>simp[Act.put]
   ·intro s hs';rw[hg s,←ha.kp s hs'];have:=hs' o (List.mem_of_getElem? ho);simp[Zci,this]
   ·intro k ok j hok hk hw;by_cases e:i=k
    ·subst e;rw[ho]at hok;injection hok with hok;subst hok;unfold ZX at hw;rw[List.any_eq_true]at hw;obtain⟨e,he,hb⟩:=hw;have he:=Array.mem_toList_iff.1 he;simp only[Bool.and_eq_true,beq_iff_eq]at hb;obtain⟨hb1,hb2⟩:=hb;have h1:=haf e he;rw[hb1,hb2]at h1;have h2:D.getD j false=true:=by simpa using h1
     by_cases e':i=j
     ·subst e';simp[Array.getD_eq_getD_getElem?,show i<D.size from by omega]
     ·simpa[Array.getD_eq_getD_getElem?,Array.getElem?_setIfInBounds,e']using h2
    ·have hkD:D.getD k false=true:=by
      simpa[Array.getD_eq_getD_getElem?,Array.getElem?_setIfInBounds,e]using hk
     have h2:=ha.dn k ok j hok hkD hw;by_cases e':i=j
     ·subst e';simp[Array.getD_eq_getD_getElem?,show i<D.size from by omega]
     ·simpa[Array.getD_eq_getD_getElem?,Array.getElem?_setIfInBounds,e']using h2
   ·intro k hk;rw[hgf];by_cases e:i=k
    ·subst e;exact hF
    ·have hkD:D.getD k false=true:=by
      simpa[Array.getD_eq_getD_getElem?,Array.getElem?_setIfInBounds,e]using hk
     have hkl:k<l.length:=by
      rcases Nat.lt_or_ge k l.length with h|h
      ·exact h
      ·rw[Array.getD_eq_getD_getElem?,Array.getElem?_eq_none (by omega)]at hkD;cases hkD
     refine hloc k _ _ w w' hkl (fun s hs'=>?_) hR (ha.fa k hkD);unfold Zci;split
     ·rename_i hds;exfalso;have h1:=List.all_eq_true.1 hO k (by simpa using hkl);have h2:=List.all_eq_true.1 h1 i (by simpa using hlt);obtain⟨ok,hok⟩:∃ok,l[k]? =some ok:=⟨l[k],List.getElem?_eq_getElem hkl⟩;simp only[ho,hok,hds,Bool.or_eq_true,beq_iff_eq,Bool.not_eq_true']at h2;rcases h2 with h2|h2|h2
      ·exact e h2
      ·rw[List.contains_eq_mem]at h2;simp[hs']at h2
      ·--k waits for i,k has come up,i has not:what a fact needs has come up
       have h3:=ha.dn k ok i hok hkD h2;simp[Array.getD_eq_getD_getElem?,show i<D.size from by omega,hDi]at h3
     ·rfl
  unfold wpOp;simp only[List.getElem?_toArray,ho];rw[Zj0 (u:=fun s=>a.tmps.getD s undef) (fun _=>rfl)];split
  ·rename_i hw;rw[if_pos hw]at hst;refine .inl ?_;unfold Oper.wp;rw[ZmO (u:=fun s=>a.tmps.getD s undef) (fun _=>rfl)];generalize (execOp (evU fun s=>a.tmps.getD s undef) o).run P w=r at*;cases r with
   |ok n w'=>
    cases n<;>simp only[Zac]at hst<;>simp only[Oper.upon]
    case value v=>exact ih _ _ _ (by simpa using hD) hcnt (hnext _ _ hst)
    case skip=>exact ih _ _ _ (by simpa using hD) hcnt (hnext _ _ hst)
    case enter f args=>refine hst.mono ?_;rintro e w'' ⟨v,rfl,h⟩;exact ih _ _ _ (by simpa using hD) hcnt (hnext _ _ h)
   |halt x w'=>simp only[Zac]at hst
  ·rename_i hw;rw[if_neg hw]at hst;exact ih _ _ _ (by simpa using hD) hcnt (hnext _ _ ⟨hrf _ ha.ww,hst⟩)
structure FactU (R:World→World→Prop) where
 sl:List Nat
 F:(Nat→Value)→World→Prop
 loc:∀u u' w w',(∀s∈sl,u' s=u s)→R w w'→F u w→F u' w'
theorem norep(n k:Nat):¬(Array.replicate n false).getD k false=true:=by rw[Array.getD_eq_getD_getElem?,Array.getElem?_replicate];split<;>simp
theorem wp_region_facts {R:World→World→Prop}(Fs:List (FactU R)){id:Nat}{a0:Act}{w:World}(hm:P.follows .mixedOrders=true)
  (hE:ZfQ l a0.tmps.size=true) (hO:Zng l (Fs.map FactU.sl)=true) (h0:R w.drew w.drew) (hrf:∀w1,R w.drew w1→R w1 w1) (htr:∀w1 w2 w3,R w1 w2→R w2 w3→R w1 w3)
  (hs:stepsU P l R w.drew (fun s=>a0.tmps.getD s undef) (Fs.map FactU.F) 0 l)
  (hQ:∀u w',R w.drew w'→(∀k,k<l.length→Zs (Fs.map FactU.F) k u w')→Q .normal (ZaW l u a0) w'):
  (Code.region id l.toArray true).wp P Q a0 w:=by
 refine wp_region_any hm ?_
 have:=wpAny_facts (P:=P) (Q:=Q) (R:=R) (w0:=w.drew) (a0:=a0) (Fs:=Fs.map FactU.F) (sl:=Fs.map FactU.sl) hE hO hrf htr (fun k u u' w1 w2 hk hu hR hF=>by
  unfold Zs at*;rw[List.getElem?_map]at*;cases h:Fs[k]? with
  |none=>trivial
  |some f=>
   rw[h]at hF hu
   exact f.loc u u' w1 w2 hu hR hF) hs hQ l.length (Array.replicate l.length false) a0 w.drew (by simp) (by simp) ⟨rfl,rfl,fun _ _=>rfl,h0,fun k _ _ _ hk=>absurd hk (norep _ k),fun k hk=>absurd hk (norep _ k)⟩
 simpa using this
section
variable {R : World → World → Prop} {w0 : World} {u0 : Nat → Value} {Fs : List ((Nat → Value) → World → Prop)} {i : Nat} {o : Oper}
theorem stepsU_cons {rest:List Oper}{j:Nat}(hj:i+1=j)(h:stepU P l R w0 u0 Fs i o)(h':stepsU P l R w0 u0 Fs j rest):stepsU P l R w0 u0 Fs i (o::rest):=by subst hj;exact⟨h,h'⟩
theorem stepsU_nil:stepsU P l R w0 u0 Fs i []:=trivial
theorem stepU_plain(hg:o.guard=none)(h:∀u w,R w0 w→(∀s,ZcR l s=true→u s=u0 s)→(∀k,ZX o k=true→Zs Fs k u w)→
  Zac (fun v w'=>R w w'∧Zs Fs i (Zci u o.dst v) w') P ((execOp (evU u) o).run P w)):stepU P l R w0 u0 Fs i o:=by
 intro u w h1 h2 h3;rw[if_pos (by simp[Region.wanted,hg])];exact h u w h1 h2 h3
theorem stepU_yes(j d:Nat)(b:Bool)(hg:o.guard=some (j,b))(hd:(l[j]?).bind (·.dst)=some d)
  (hy:∀u w,(∀s,ZcR l s=true→u s=u0 s)→(∀k,ZX o k=true→Zs Fs k u w)→u d= .bool b)
  (h:∀u w,R w0 w→(∀s,ZcR l s=true→u s=u0 s)→(∀k,ZX o k=true→Zs Fs k u w)→
   Zac (fun v w'=>R w w'∧Zs Fs i (Zci u o.dst v) w') P ((execOp (evU u) o).run P w)):stepU P l R w0 u0 Fs i o:=by
 intro u w h1 h2 h3;rw[if_pos (by simp[Region.wanted,hg,ZhA,hd,hy u w h2 h3])];exact h u w h1 h2 h3
theorem stepU_no(j d:Nat)(b c:Bool)(hg:o.guard=some (j,b))(hd:(l[j]?).bind (·.dst)=some d)(hbc:(c==b)=false)
  (hy:∀u w,(∀s,ZcR l s=true→u s=u0 s)→(∀k,ZX o k=true→Zs Fs k u w)→u d= .bool c)
  (h:∀u w,Zs Fs i (Zci u o.dst undef) w):stepU P l R w0 u0 Fs i o:=by
 intro u w h1 h2 h3;rw[if_neg (by simp only[Region.wanted,hg,ZhA,hd,hy u w h2 h3];simpa using hbc)];exact h u w
end
section
variable {K : Value → World → Prop} {u : Nat → Value} {o : Oper} {w : World}
theorem Ze(v:Value)(h:(execOp (evU u) o).run P w= .ok (.value v) w)(hk:K v w):Zac K P ((execOp (evU u) o).run P w):=by rw[h];exact hk
theorem Zd(x:Operand)(v:Value)(h:o.op= .move x)(hx:evU u x=v)(hk:K v w):Zac K P ((execOp (evU u) o).run P w):=by refine Ze v ?_ hk;unfold execOp;rw[h,←hx];rfl
theorem ZA(x:Operand)(v:Value)(h:o.op= .assign x)(hx:evU u x=v)(hk:K v w):Zac K P ((execOp (evU u) o).run P w):=by refine Ze v ?_ hk;unfold execOp;rw[h,←hx];rfl
theorem Zaz(x:Operand)(k:Nat)(vs:Array Value)(v:Value)(h:o.op= .extract x k)(hx:evU u x= .tuple vs)(hv:vs[k]? =some v)(hk:K v w):Zac K P ((execOp (evU u) o).run P w):=by refine Ze v ?_ hk;unfold execOp;simp[go_sem,h,hx,hv]
theorem Zn(x a b:Operand)(c:Bool)(v:Value)(h:o.op= .pick x a b)(hx:evU u x= .bool c)(hv:(if c then evU u a else evU u b)=v)(hk:K v w):Zac K P ((execOp (evU u) o).run P w):=by refine Ze v ?_ hk;unfold execOp;subst hv;cases c<;>simp[go_sem,h,hx]
theorem Zd2 {f:FuncId}{fn:Func}(xs:Array Operand)(ts:Array TypeId)(vs:Array Value)(hf:P.funcs[f]? =some fn)(hfn:(fn.name== "runtime.NumGoroutine"||fn.body.isNone)=false)
  (h:o.op= .call {callee:= .value (.func f),args:=xs,argTypes:=ts}) (ha:xs.map (evU u)=vs) (hc:Calls P f vs w fun e w'=>∃v,e= .returned v∧K v w'):Zac K P ((execOp (evU u) o).run P w):=by
 have hr:(execOp (evU u) o).run P w= .ok (.enter f vs) w:=by
  rw[Bool.or_eq_false_iff]at hfn;subst ha;unfold execOp;have h1:¬fn.name= "runtime.NumGoroutine":=by simpa using hfn.1
  have h2:¬fn.body=none:=fun e=>by simp[e]at hfn
  simp[go_sem,h,resolve,evU,Deferred.ofValue,invoke,callFunc,hf,h1,h2]
 rw[hr];exact hc
theorem Zav {f:FuncId}{fn:Func}(x1:Operand)(ts:Array TypeId)(v1:Value)(hf:P.funcs[f]? =some fn)(hfn:(fn.name== "runtime.NumGoroutine"||fn.body.isNone)=false)
  (h:o.op= .call {callee:= .value (.func f),args:=#[x1],argTypes:=ts}) (h1:evU u x1=v1) (hc:Calls P f #[v1] w fun e w'=>∃v,e= .returned v∧K v w'):Zac K P ((execOp (evU u) o).run P w):=
 Zd2 _ _ _ hf hfn h (by simp[h1]) hc
theorem Z1 {f:FuncId}{fn:Func}(x1 x2:Operand)(ts:Array TypeId)(v1 v2:Value)(hf:P.funcs[f]? =some fn)(hfn:(fn.name== "runtime.NumGoroutine"||fn.body.isNone)=false)
  (h:o.op= .call {callee:= .value (.func f),args:=#[x1,x2],argTypes:=ts}) (h1:evU u x1=v1) (h2:evU u x2=v2) (hc:Calls P f #[v1,v2] w fun e w'=>∃v,e= .returned v∧K v w'):Zac K P ((execOp (evU u) o).run P w):=
 Zd2 _ _ _ hf hfn h (by simp[h1,h2]) hc
theorem Zbs {f:FuncId}{fn:Func}(x1 x2 x3:Operand)(ts:Array TypeId)(v1 v2 v3:Value)(hf:P.funcs[f]? =some fn)(hfn:(fn.name== "runtime.NumGoroutine"||fn.body.isNone)=false)
  (h:o.op= .call {callee:= .value (.func f),args:=#[x1,x2,x3],argTypes:=ts}) (h1:evU u x1=v1) (h2:evU u x2=v2) (h3:evU u x3=v3) (hc:Calls P f #[v1,v2,v3] w fun e w'=>∃v,e= .returned v∧K v w'):Zac K P ((execOp (evU u) o).run P w):=
 Zd2 _ _ _ hf hfn h (by simp[h1,h2,h3]) hc
end
end
structure RB (B:Nat) (p:ByteArray) (n:Int) (w w':World):Prop where
 hB:B≤w.heap.size
 be:Below w.heap.size w w'
section
variable {B : Nat} {p : ByteArray} {n : Int} {w w' : World}
theorem RB.refl(h:B≤w.heap.size):RB B p n w w:=⟨h,Below.refl _ _⟩
theorem RB.again {w0:World}(h:RB B p n w0 w):RB B p n w w:=RB.refl (Nat.le_trans h.hB h.be.size)
theorem RB.trans {w1 w2 w3:World}(h:RB B p n w1 w2)(k:RB B p n w2 w3):RB B p n w1 w3:=⟨h.hB,Zb h.be k.be⟩
theorem RB.below(h:B≤w.heap.size)(hb:Below w.heap.size w w'):RB B p n w w':=⟨h,hb⟩
theorem RB.next {w0:World}(h:RB B p n w0 w)(hb:Below w.heap.size w w'):RB B p n w w':=RB.below (Nat.le_trans h.hB h.be.size) hb
theorem RB.old {g:Nat}{t:TypeId}{cs:Array Value}(h:RB B p n w w')(_hg:g<B)(hb:Blk w g t cs):Blk w' g t cs:=hb.keep h.be
theorem RB.rdi {a:Option Addr}{l:List It}(h:RB B p n w w')(hr:RdI w a l):RdI w' a l:=hr.keep h.be
def eqF(B:Nat)(p:ByteArray)(n:Int)(s:Nat)(v:Value):FactU (RB B p n):=⟨[s],fun u _=>u s=v,fun _ _ _ _ hs _ hf=>by rw[hs s (by simp)];exact hf⟩
def Zcx {α:Type}(B:Nat)(p:ByteArray)(n:Int)(s:Nat)(val:α→Value)(Φ:α→World→Prop)(hΦ:∀x w w',RB B p n w w'→Φ x w→Φ x w'):FactU (RB B p n):=
 ⟨[s],fun u w=>∃x,u s=val x∧Φ x w,fun _ _ _ _ hs hR ⟨x,h1,h2⟩=>⟨x,by rw[hs s (by simp)];exact h1,hΦ x _ _ hR h2⟩⟩
def Zob(B:Nat)(p:ByteArray)(n:Int)(s:Nat)(m c:Nat)(l:List It):FactU (RB B p n):=
 ⟨[s],fun u w=>∃g,u s= .slice (some ⟨g,0,none⟩) m c∧B≤g∧RdI w (some ⟨g,0,none⟩) l,fun _ _ _ _ hs hR ⟨g,h1,h2,h3⟩=>⟨g,by rw[hs s (by simp)];exact h1,h2,hR.rdi h3⟩⟩
end
section
variable {l : List Oper} {K : Value → World → Prop} {u : Nat → Value} {w : World} {o : Oper}
theorem Zef(x:Operand)(g:Nat)(k:Nat)(a d:Int)(t:ByteArray)(h:o.op= .load 24 x)(hx:evU u x= .pointer (some ⟨g,0,none⟩))(hb:Blk w g 24 #[.int .u8 k,.int .i64 a,.string t,.int .i64 d])
  (hk:K (.agg #[.int .u8 k,.int .i64 a,.string t,.int .i64 d]) w):Zac K Tryz.prog ((execOp (evU u) o).run Tryz.prog w):=by
 refine Ze _ ?_ hk;have c0:=hb.cell 0;have c1:=hb.cell 1;have c2:=hb.cell 2;have c3:=hb.cell 3;simp only[List.getElem?_toArray,List.getElem?_cons_zero,List.getElem?_cons_succ]at c0 c1 c2 c3;have hu:=Tryz.underlying24;have hs:=Tryz.underlying9;have hi:=Tryz.underlying3;have hi2:=Tryz.underlying2;have hi3:=Tryz.underlying22;unfold execOp;simp[go_sem,h,hx,c0,c1,c2,c3]
theorem Zch(x:Operand)(k:Nat)(a d:Int)(t:ByteArray)(h:o.op= .buildSlice 28 1 #[(0,x)])(hx:evU u x= .agg #[.int .u8 k,.int .i64 a,.string t,.int .i64 d])
  (hk:K (.slice (some ⟨w.heap.size,0,none⟩) 1 1) (w.alloc (.cells #[.int .u8 k,.int .i64 a,.string t,.int .i64 d] 24))):Zac K Tryz.prog ((execOp (evU u) o).run Tryz.prog w):=by
 have hr:(execOp (evU u) o).run Tryz.prog w= .ok (.value (.slice (some ⟨w.heap.size,0,none⟩) 1 1)) (w.alloc (.cells #[.int .u8 k,.int .i64 a,.string t,.int .i64 d] 24)):=by have hu:=Tryz.underlying24;have hu2:=Tryz.underlying28;have hs:=Tryz.underlying9;have hi:=Tryz.underlying3;have hi2:=Tryz.underlying2;have hi3:=Tryz.underlying22;unfold execOp;simp[go_sem,h,hx]
 rw[hr];exact hk
end
end Go.Proofs.YtnnfhojhbbcbmaaGreatDoor
namespace Go.Proofs.YtnnfhojhbbcbmaaGreatDoor
set_option maxRecDepth 100000
set_option maxHeartbeats 4000000
open Go.RowKit
def R64(x:Int):Prop:= -9223372036854775808≤x∧x≤9223372036854775807
def fit(x:Int):Bool:=decide (-9223372036854775808≤x∧x≤9223372036854775807)
theorem ZbR(x:Int):fit x=true↔R64 x:=by unfold fit R64;simp
theorem ZeA(x:Int):R64 (wrap64 x):=by unfold R64 wrap64;omega
theorem ZaC {x:Int}(h:fit x=true):wrap64 x=x:=by have:=(ZbR x).1 h;unfold R64 at this;unfold wrap64;omega
theorem ZcB(r:BitVec 64):IntKind.i64.wrap (r.toNat:Int)=r.toInt:=by rw[IntKind.wrap_i64,BitVec.toInt_eq_toNat_cond];have:=r.isLt;split<;>omega
theorem ZgA(x y:Int):bits .xor .i64 x y=(BitVec.ofInt 64 x ^^^ BitVec.ofInt 64 y).toInt:=ZcB _
theorem ZgB(x y:Int):bits .and .i64 x y=(BitVec.ofInt 64 x &&& BitVec.ofInt 64 y).toInt:=ZcB _
theorem ZcS(x:Int)(h:R64 x):(BitVec.ofInt 64 x).msb=decide (x<0):=by rw[BitVec.msb_eq_toInt,BitVec.toInt_ofInt];unfold R64 at h;congr 1;rw[Int.bmod_def];apply propext;constructor<;>(split<;>omega)
theorem Zix(a b c d:Int)(ha:R64 a)(hb:R64 b)(hc:R64 c)(hd:R64 d):decide (0≤bits .and .i64 (bits .xor .i64 a c) (bits .xor .i64 b d))= !((decide (a<0) != decide (c<0))&&(decide (b<0) != decide (d<0))):=by
 rw[ZgB,ZgA a c,ZgA b d,BitVec.ofInt_toInt,BitVec.ofInt_toInt];have h:=BitVec.msb_eq_toInt (x:=(BitVec.ofInt 64 a ^^^ BitVec.ofInt 64 c) &&& (BitVec.ofInt 64 b ^^^ BitVec.ofInt 64 d));rw[BitVec.msb_and,BitVec.msb_xor,BitVec.msb_xor,ZcS a ha,ZcS b hb,ZcS c hc,ZcS d hd]at h;generalize ((BitVec.ofInt 64 a ^^^ BitVec.ofInt 64 c) &&& (BitVec.ofInt 64 b ^^^ BitVec.ofInt 64 d)).toInt=z at h;rw[show(decide (a<0) != decide (c<0))=(decide (a<0) ^^ decide (c<0))from rfl,show(decide (b<0) != decide (d<0))=(decide (b<0) ^^ decide (d<0))from rfl,h];by_cases hz:z<0
 ·have:¬0≤z:=by omega
  simp[hz]
 ·have:0≤z:=by omega
  simp[this]
theorem ZlO(a b:Int)(ha:R64 a)(hb:R64 b):decide (0≤bits .and .i64 (bits .xor .i64 a (wrap64 (a+b))) (bits .xor .i64 b (wrap64 (a+b))))=fit (a+b):=by
 rw[Zix a b _ _ ha hb (ZeA _) (ZeA _)];unfold fit;have e:wrap64 (a+b)=(a+b+9223372036854775808) % 18446744073709551616-9223372036854775808:=by unfold wrap64;rfl
 unfold R64 at ha hb;generalize wrap64 (a+b)=c at e;rw[Bool.eq_iff_iff];simp;omega
theorem ZkE(a b:Int)(ha:R64 a)(hb:R64 b):decide (0≤bits .and .i64 (bits .xor .i64 a b) (bits .xor .i64 a (wrap64 (a-b))))=fit (a-b):=by
 rw[Zix a a _ _ ha ha hb (ZeA _)];unfold fit;have e:wrap64 (a-b)=(a-b+9223372036854775808) % 18446744073709551616-9223372036854775808:=by unfold wrap64;rfl
 unfold R64 at ha hb;generalize wrap64 (a-b)=c at e;rw[Bool.eq_iff_iff];simp;omega
theorem ZcG(a b:Int)(ha:R64 a)(hb:R64 b)(w:World):Calls Tryz.prog 96 #[.int .i64 a,.int .i64 b] w fun e w'=>e= .returned (.tuple #[.int .i64 (wrap64 (a+b)),.bool (fit (a+b))])∧w=w':=by have H:=Za (ZlO a b ha hb);clear ha hb;go_enter Tryz.func96,Tryz.ntmps96;go_wp2;go_ret2;exact⟨by rw[←H.out];rfl,rfl⟩
theorem ZlP(a:Int)(ha:R64 a)(h:¬a<0):IntKind.u64.wrap a=(a.natAbs:Int):=by unfold R64 at ha;rw[IntKind.wrap_u64];omega
theorem ZlQ(a:Int)(ha:R64 a)(h:a<0):IntKind.u64.wrap (-IntKind.u64.wrap a)=(a.natAbs:Int):=by unfold R64 at ha;rw[IntKind.wrap_u64,IntKind.wrap_u64];omega
theorem ZgC(a:Int)(ha:R64 a)(w:World):Calls Tryz.prog 167 #[.int .i64 a] w fun e w'=>e= .returned (.int .u64 (a.natAbs:Int))∧w=w':=by
 by_cases h:a<0
 ·have H:=Za (ZlQ a ha h);clear ha;go_enter Tryz.func167,Tryz.ntmps167;go_wp2;go_ret;exact⟨ZdJ H.out,rfl⟩
 ·have H:=Za (ZlP a ha h);clear ha;go_enter Tryz.func167,Tryz.ntmps167;go_wp2;go_ret;exact⟨ZdJ H.out,rfl⟩
theorem ZkF(a b:Int):a*b=if (decide (a<0) != decide (b<0))=true then-((a.natAbs*b.natAbs:Nat):Int)else((a.natAbs*b.natAbs:Nat):Int):=by
 rcases Int.lt_or_le a 0 with ha|ha<;>rcases Int.lt_or_le b 0 with hb|hb
 ·obtain⟨x,hx⟩:∃x:Nat,a= -(x:Int):=⟨a.natAbs,by omega⟩;obtain⟨y,hy⟩:∃y:Nat,b= -(y:Int):=⟨b.natAbs,by omega⟩;rw[if_neg (by simp[ha,hb])];subst hx hy;simp only[Int.natAbs_neg,Int.natAbs_natCast,Int.natCast_mul];rw[Int.neg_mul_neg]
 ·obtain⟨x,hx⟩:∃x:Nat,a= -(x:Int):=⟨a.natAbs,by omega⟩;obtain⟨y,hy⟩:∃y:Nat,b=(y:Int):=⟨b.natAbs,by omega⟩;rw[if_pos (by have:¬b<0:=(by omega);simp[ha,this])];subst hx hy;simp only[Int.natAbs_neg,Int.natAbs_natCast,Int.natCast_mul];rw[Int.neg_mul]
 ·obtain⟨x,hx⟩:∃x:Nat,a=(x:Int):=⟨a.natAbs,by omega⟩;obtain⟨y,hy⟩:∃y:Nat,b= -(y:Int):=⟨b.natAbs,by omega⟩;rw[if_pos (by have:¬a<0:=(by omega);simp[hb,this])];subst hx hy;simp only[Int.natAbs_neg,Int.natAbs_natCast,Int.natCast_mul];rw[Int.mul_neg]
 ·obtain⟨x,hx⟩:∃x:Nat,a=(x:Int):=⟨a.natAbs,by omega⟩;obtain⟨y,hy⟩:∃y:Nat,b=(y:Int):=⟨b.natAbs,by omega⟩;have h1:¬a<0:=by omega
  have h2:¬b<0:=by omega
  rw[if_neg (by simp[h1,h2])];subst hx hy;simp only[Int.natAbs_natCast,Int.natCast_mul]
theorem ZkG(a b hi lo:Int)(h1:hi=((a.natAbs*b.natAbs / 18446744073709551616:Nat):Int))(h2:lo=((a.natAbs*b.natAbs % 18446744073709551616:Nat):Int)):
  ((decide (a<0) != decide (b<0))=true→hi=0→fit (a*b)=decide (lo≤9223372036854775808))∧
  ((decide (a<0) != decide (b<0))=false→hi=0→fit (a*b)=decide (lo<9223372036854775808))∧(hi≠0→fit (a*b)=false):=by
 have hm:=ZkF a b;generalize a.natAbs*b.natAbs=p at*;generalize a*b=m at*;unfold fit;refine⟨fun h h0=>?_,fun h h0=>?_,fun h=>?_⟩
 ·rw[h,if_pos rfl]at hm;rw[Bool.eq_iff_iff];simp;omega
 ·rw[h]at hm;simp only[Bool.false_eq_true,if_false]at hm;rw[Bool.eq_iff_iff];simp;omega
 ·split at hm
  ·simp;omega
  ·simp;omega
theorem ZgD(a b:Int)(ha:R64 a)(hb:R64 b)(w:World):Calls Tryz.prog 114 #[.int .i64 a,.int .i64 b] w fun e w'=>e= .returned (.tuple #[.int .i64 (wrap64 (a*b)),.bool (fit (a*b))])∧w=w':=by
 have hx:a.natAbs<18446744073709551616:=by unfold R64 at ha;omega
 have hy:b.natAbs<18446744073709551616:=by unfold R64 at hb;omega
 obtain⟨hi,h1⟩:∃hi:Int,hi=((a.natAbs*b.natAbs / 18446744073709551616:Nat):Int):=⟨_,rfl⟩;obtain⟨lo,h2⟩:∃lo:Int,lo=((a.natAbs*b.natAbs % 18446744073709551616:Nat):Int):=⟨_,rfl⟩;have HL:=Za (ZkG a b hi lo h1 h2);have H1:=Za h1;have H2:=Za h2;have Ha:=Za ha;have Hb:=Za hb;have Hx:=Za hx;have Hy:=Za hy;clear h1 h2 ha hb hx hy;go_enter Tryz.func114,Tryz.ntmps114;go_wp2_with fail;refine(ZgC a Ha.out _).mono ?_;rintro e w1 ⟨rfl,rfl⟩;go_wp2_with fail;refine(ZgC b Hb.out _).mono ?_;rintro e w1 ⟨rfl,rfl⟩;go_wp2_with fail;refine(Tryz.bits_Mul64 a.natAbs b.natAbs Hx.out Hy.out _).mono ?_;rintro e w1 ⟨rfl,rfl⟩;rw[←H1.out,←H2.out];clear H1 H2 Ha Hb Hx Hy;by_cases h1:a<0
 ·by_cases h2:b<0
  ·by_cases h0:hi=0
   ·have hq:(hi==0)=true:=by simpa using h0
    have H:=Za (HL.out.2.1 (by simp[h1,h2]) h0);clear HL h0;go_wp2;go_ret2;exact⟨by rw[H.out];rfl,rfl⟩
   ·have hq:(hi==0)=false:=by simpa using h0
    have H:=Za (HL.out.2.2 h0);clear HL h0;go_wp2;go_ret2;exact⟨by rw[H.out];rfl,rfl⟩
  ·have d2:decide (b<0)=false:=by simpa using h2
   by_cases h0:hi=0
   ·have hq:(hi==0)=true:=by simpa using h0
    have H:=Za (HL.out.1 (by simp[h1,h2]) h0);clear HL h0;go_wp2;go_ret2;exact⟨by rw[H.out];rfl,rfl⟩
   ·have hq:(hi==0)=false:=by simpa using h0
    have H:=Za (HL.out.2.2 h0);clear HL h0;go_wp2;go_ret2;exact⟨by rw[H.out];rfl,rfl⟩
 ·have d1:decide (a<0)=false:=by simpa using h1
  by_cases h2:b<0
  ·by_cases h0:hi=0
   ·have hq:(hi==0)=true:=by simpa using h0
    have H:=Za (HL.out.1 (by simp[h1,h2]) h0);clear HL h0;go_wp2;go_ret2;exact⟨by rw[H.out];rfl,rfl⟩
   ·have hq:(hi==0)=false:=by simpa using h0
    have H:=Za (HL.out.2.2 h0);clear HL h0;go_wp2;go_ret2;exact⟨by rw[H.out];rfl,rfl⟩
  ·have d2:decide (b<0)=false:=by simpa using h2
   by_cases h0:hi=0
   ·have hq:(hi==0)=true:=by simpa using h0
    have H:=Za (HL.out.2.1 (by simp[h1,h2]) h0);clear HL h0;go_wp2;go_ret2;exact⟨by rw[H.out];rfl,rfl⟩
   ·have hq:(hi==0)=false:=by simpa using h0
    have H:=Za (HL.out.2.2 h0);clear HL h0;go_wp2;go_ret2;exact⟨by rw[H.out];rfl,rfl⟩
end Go.Proofs.YtnnfhojhbbcbmaaGreatDoor
namespace Go.Proofs.YtnnfhojhbbcbmaaGreatDoor
set_option maxRecDepth 100000
set_option maxHeartbeats 4000000
open Go.RowKit
theorem Zz(a:Option Addr)(n c:Nat)(w:World):Calls Tryz.prog 9 #[.slice a n c] w fun e w'=>e= .returned (.slice a n c)∧w=w':=by go_enter Tryz.func9,Tryz.ntmps9;go_wp2;go_ret;exact⟨rfl,rfl⟩
theorem Zw(n:Int)(w:World):Calls Tryz.prog 4 #[.int .i64 n] w fun e w'=>e= .returned (.agg #[.int .u8 2,.int .i64 n,.string ⟨#[]⟩,.int .i64 0])∧Below w.heap.size w w':=by
 have hk:=(Below.refl w.heap.size w).alloc (Nat.le_refl _) (.cells #[.int .u8 2,.int .i64 n,.string ⟨#[]⟩,.int .i64 0] 24);go_enter Tryz.func4,Tryz.ntmps4;go_wp2
 (try simp only[Exit.inBlock,Exit.then])
 refine bodyPost_ret (results_cell_row (P:=Tryz.prog) (fn:=Tryz.f4) rfl _ _ w.heap.size 24 #[.int .u8 2,.int .i64 n,.string ⟨#[]⟩,.int .i64 0] (0,0) _ rfl (Blk.new w 24 #[.int .u8 2,.int .i64 n,.string ⟨#[]⟩,.int .i64 0]) Tryz.underlying24 rfl (by kernel_rfl)) rfl ?_;exact⟨rfl,hk⟩
theorem Zad(s:ByteArray)(w:World):Calls Tryz.prog 5 #[.string s] w fun e w'=>e= .returned (.agg #[.int .u8 3,.int .i64 0,.string s,.int .i64 0])∧Below w.heap.size w w':=by
 have hk:=(Below.refl w.heap.size w).alloc (Nat.le_refl _) (.cells #[.int .u8 3,.int .i64 0,.string s,.int .i64 0] 24);go_enter Tryz.func5,Tryz.ntmps5;go_wp2
 (try simp only[Exit.inBlock,Exit.then])
 refine bodyPost_ret (results_cell_row (P:=Tryz.prog) (fn:=Tryz.f5) rfl _ _ w.heap.size 24 #[.int .u8 3,.int .i64 0,.string s,.int .i64 0] (0,0) _ rfl (Blk.new w 24 #[.int .u8 3,.int .i64 0,.string s,.int .i64 0]) Tryz.underlying24 rfl (by kernel_rfl)) rfl ?_;exact⟨rfl,hk⟩
theorem ZbW(n:Int)(s:ByteArray)(w:World):Calls Tryz.prog 6 #[.int .i64 n,.string s] w fun e w'=>e= .returned (.agg #[.int .u8 1,.int .i64 0,.string s,.int .i64 n])∧Below w.heap.size w w':=by
 have hk:=(Below.refl w.heap.size w).alloc (Nat.le_refl _) (.cells #[.int .u8 1,.int .i64 0,.string s,.int .i64 n] 24);go_enter Tryz.func6,Tryz.ntmps6;go_wp2
 (try simp only[Exit.inBlock,Exit.then])
 refine bodyPost_ret (results_cell_row (P:=Tryz.prog) (fn:=Tryz.f6) rfl _ _ w.heap.size 24 #[.int .u8 1,.int .i64 0,.string s,.int .i64 n] (0,0) _ rfl (Blk.new w 24 #[.int .u8 1,.int .i64 0,.string s,.int .i64 n]) Tryz.underlying24 rfl (by kernel_rfl)) rfl ?_;exact⟨rfl,hk⟩
end Go.Proofs.YtnnfhojhbbcbmaaGreatDoor
namespace Go.Proofs.YtnnfhojhbbcbmaaGreatDoor
open Go.RowKit
theorem Ascii.tail {t:ByteArray}(h:Ascii t):Ascii (t.extract 1 t.size):=by
 intro i hi;have hi2:i<t.size-1:=by simpa[ByteArray.size_extract]using hi
 have:=h (1+i) (by omega);rw[ByteArray.getElem_extract];exact this
def ZaR:Value→Nat
 | .string s=>s.size
 |_=>0
end Go.Proofs.YtnnfhojhbbcbmaaGreatDoor
