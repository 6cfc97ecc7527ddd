/- A region that draws its order, as in Reg: an operation knows a slot that only an operation behind it writes, too. parchmentkit.flatItems: words for its walk. -/
import Derived.Test.YtnnfhojhbbcbmaaGreatDoorC02
import Derived.Test.YtnnfhojhbbcbmaaGreatDoorC07
namespace Go.Proofs.YtnnfhojhbbcbmaaGreatDoor.RV
open Go.RowKit
section
variable {P : Program} {l : List Oper} {Q : Exit → Act → World → Prop}
def ZhZ(l:List Oper):Nat→Nat→Nat→Bool
 |0,_,_=>false
 |n+1,j,i=>match l[j]? with
  |some o=>o.after.toList.any fun e=>Region.binds .any e&&(e.on==i||ZhZ l n e.on i)
  |none=>false
def Zjk(l:List Oper)(i s:Nat):Bool:=(List.range l.length).all fun j=>match l[j]? with
 |some o=>o.dst != some s||ZhZ l l.length j i
 |none=>true
theorem Zfl {D:Array Bool}(hdn:∀k o i,l[k]? =some o→D.getD k false=true→ZX o i=true→D.getD i false=true):∀n j i,ZhZ l n j i=true→D.getD j false=true→D.getD i false=true
 |0,_,_,h,_=>by cases h
 |n+1,j,i,h,hj=>by
  unfold ZhZ at h;cases ho:l[j]? with
  |none=>rw[ho]at h;cases h
  |some o=>
   rw[ho]at h;obtain⟨e,he,hb⟩:=List.any_eq_true.1 h;simp only[Bool.and_eq_true,Bool.or_eq_true,beq_iff_eq]at hb;have hw:ZX o e.on=true:=by unfold ZX;rw[List.any_eq_true];exact⟨e,he,by simp[hb.1]⟩
   have h2:=hdn j o e.on ho hj hw;rcases hb.2 with h3|h3
   ·rw[←h3];exact h2
   ·exact Zfl hdn n e.on i h3 h2
def stepU(P:Program)(l:List Oper)(R:World→World→Prop)(w0:World)(u0:Nat→Value)(Fs:List ((Nat→Value)→World→Prop))(i:Nat)(o:Oper):Prop:=
 ∀u w,R w0 w→(∀s,Zjk l i s=true→u s=u0 s)→(∀k,ZX o k=true→Zs Fs k u w)→
  if Region.wanted o (ZhA l u)then Zac (fun v w'=>R w w'∧Zs Fs i (Zci u o.dst v) w') P ((execOp (evU u) o).run P w)else Zs Fs i (Zci u o.dst undef) w
def stepsU(P:Program)(l:List Oper)(R:World→World→Prop)(w0:World)(u0:Nat→Value)(Fs:List ((Nat→Value)→World→Prop)):Nat→List Oper→Prop
 |_,[]=>True
 |i,o::rest=>stepU P l R w0 u0 Fs i o∧stepsU P l R w0 u0 Fs (i+1) rest
theorem stepsU_at {R:World→World→Prop}{w0:World}{u0:Nat→Value}{Fs:List ((Nat→Value)→World→Prop)}:∀(m:List Oper) (n:Nat),stepsU P l R w0 u0 Fs n m→∀i o,m[i]? =some o→stepU P l R w0 u0 Fs (n+i) o
 | [],_,_,i,o,h=>by simp at h
 |x::m,n,hs,0,o,h=>by simp at h;subst h;exact hs.1
 |x::m,n,hs,i+1,o,h=>by
  have:=stepsU_at m (n+1) hs.2 i o (by simpa using h);rwa[show n+1+i=n+(i+1)from by omega]at this
structure AtU (l:List Oper) (R:World→World→Prop) (w0:World) (a0:Act) (Fs:List ((Nat→Value)→World→Prop)) (D:Array Bool) (a:Act) (w:World):Prop where
 sz:a.tmps.size=a0.tmps.size
 df:a.defers=a0.defers
 kp:∀s,(∀o∈l,o.dst≠some s)→a.tmps.getD s undef=a0.tmps.getD s undef
 un:∀s,(∀j o,l[j]? =some o→o.dst=some s→D.getD j false=false)→a.tmps.getD s undef=a0.tmps.getD s undef
 ww:R w0 w
 dn:∀k o i,l[k]? =some o→D.getD k false=true→ZX o i=true→D.getD i false=true
 fa:∀k,D.getD k false=true→Zs Fs k (fun s=>a.tmps.getD s undef) w
theorem wpAny_facts {R:World→World→Prop}{w0:World}{a0:Act}{Fs:List ((Nat→Value)→World→Prop)}{sl:List (List Nat)}
  (hE:ZfQ l a0.tmps.size=true) (hO:Zng l sl=true) (hrf:∀w1,R w0 w1→R w1 w1) (htr:∀w1 w2 w3,R w1 w2→R w2 w3→R w1 w3)
  (hloc:∀k u u' w w',k<l.length→(∀s∈(sl[k]?).getD [],u' s=u s)→R w w'→Zs Fs k u w→Zs Fs k u' w')
  (hs:stepsU P l R w0 (fun s=>a0.tmps.getD s undef) Fs 0 l)
  (hQ:∀u w,R w0 w→(∀k,k<l.length→Zs Fs k u w)→Q .normal (ZaW l u a0) w):
  ∀(fuel:Nat) (D:Array Bool) (a:Act) (w:World),D.size=l.length→(D.toList.filter (!·)).length≤fuel→AtU l R w0 a0 Fs D a w→wpAny P .any l.toArray Q fuel D a w:=by
 have hrefl:∀w1 w2,R w1 w2→∀k u u',k<l.length→(∀s∈(sl[k]?).getD [],u' s=u s)→Zs Fs k u w1→Zs Fs k u' w2:=fun w1 w2 h k u u' hk hu hf=>hloc k u u' w1 w2 hk hu h hf;have hsp:∀i o,l[i]? =some o→stepU P l R w0 (fun s=>a0.tmps.getD s undef) Fs i o:=fun i o ho=>by have:=stepsU_at l 0 hs i o ho;rwa[Nat.zero_add]at this
 have hEi:∀i o,l[i]? =some o→(∀e∈o.after,Region.binds .any e=true→e.on<i)∧(∀d,o.dst=some d→d<a0.tmps.size):=by
  intro i o ho;have hi:i<l.length:=(List.getElem?_eq_some_iff.1 ho).1;have h1:=List.all_eq_true.1 hE i (by simpa using hi);simp only[ho,Bool.and_eq_true]at h1;refine⟨fun e he hb=>?_,fun d hd=>?_⟩
  ·have:=(List.all_eq_true.1 h1.1) e (Array.mem_toList_iff.2 he);simpa[hb]using this
  ·have:=h1.2;rw[hd]at this;simpa using this
 have hfin:∀D a w,D.size=l.length→Region.ready .any l.toArray D=[]→AtU l R w0 a0 Fs D a w→Q .normal a w:=by
  intro D a w hD hr ha
  have hall:∀k,k<l.length→D.getD k false=true:=by
   intro k
   induction k using Nat.strongRecOn with
   |ind k ih=>
    intro hk;rcases Bool.eq_false_or_eq_true (D.getD k false)with h|h
    ·exact h
    ·exfalso;obtain⟨o,ho⟩:∃o,l[k]? =some o:=⟨l[k],List.getElem?_eq_getElem hk⟩
     have hm:k∈Region.ready .any l.toArray D:=by
      simp only[Region.ready,List.mem_filter,List.mem_range,List.size_toArray];refine⟨hk,?_⟩;have h2:D.getD k true=false:=by simp only[Array.getD_eq_getD_getElem?]at h⊢;rw[Array.getElem?_eq_getElem (by omega)]at h⊢;exact h
      simp only[h2,List.getElem?_toArray,ho,Option.map_some,Option.getD_some,Bool.not_false,Bool.true_and];rw[Array.all_eq_true'];intro e he;by_cases hb:Region.binds .any e=true
      ·have:=(hEi k o ho).1 e he hb;simp[hb];have h3:=ih e.on this (by omega);simpa[Array.getD_eq_getD_getElem?]using h3
      ·simp[hb]
     rw[hr]at hm;cases hm
  have hf:a=ZaW l (fun s=>a.tmps.getD s undef) a0:=Ziw (fun _=>rfl) ha.sz ha.df ha.kp;rw[hf];exact hQ _ _ ha.ww fun k hk=>ha.fa k (hall k hk)
 intro fuel
 induction fuel with
 |zero=>
  intro D a w hD hn ha;have hr:Region.ready .any l.toArray D=[]:=by simp only[Region.ready,List.filter_eq_nil_iff];intro i hi;simp only[List.mem_range,List.size_toArray]at hi;have h0:D.toList.filter (!·)=[]:=List.length_eq_zero_iff.1 (by omega);rw[List.filter_eq_nil_iff]at h0;have h1:=h0 (D[i]'(by omega)) (by simp);simp only[Bool.not_eq_true',Bool.not_eq_false]at h1;simp[Array.getD_eq_getD_getElem?,show i<D.size from by omega,h1]
  exact⟨hr,hfin D a w hD hr ha⟩
 |succ fuel ih=>
  intro D a w hD hn ha;refine⟨fun hr=>hfin D a w hD hr ha,fun i hi=>?_⟩;simp only[Region.ready,List.mem_filter,List.mem_range,List.size_toArray,Bool.and_eq_true]at hi;obtain⟨hlt,hun,haf⟩:=hi;obtain⟨o,ho⟩:∃o,l[i]? =some o:=⟨l[i],List.getElem?_eq_getElem hlt⟩;simp only[List.getElem?_toArray,ho,Option.map_some,Option.getD_some,Array.all_eq_true']at haf;have hDi:D[i]'(by omega)=false:=by simpa[Array.getD_eq_getD_getElem?,show i<D.size from by omega]using hun
  have hcnt:((D.setIfInBounds i true).toList.filter (!·)).length≤fuel:=by
   have h1:D.toList=D.toList.take i++false::D.toList.drop (i+1):=by
    have h3:i<D.toList.length:=by simp;omega
    have h2:=List.drop_eq_getElem_cons h3;rw[Array.getElem_toList,hDi]at h2;rw[←h2,List.take_append_drop]
   have h2:(D.setIfInBounds i true).toList=D.toList.take i++true::D.toList.drop (i+1):=by rw[Array.toList_setIfInBounds,List.set_eq_take_append_cons_drop,if_pos (by simp;omega)]
   rw[h1]at hn;rw[h2];simp only[List.filter_append,List.length_append,List.filter_cons,Bool.not_false,if_true,List.length_cons,Bool.not_true,Bool.false_eq_true,if_false]at hn⊢;omega
  have hdeps:∀k,ZX o k=true→Zs Fs k (fun s=>a.tmps.getD s undef) w:=by intro k hk;unfold ZX at hk;rw[List.any_eq_true]at hk;obtain⟨e,he,hb⟩:=hk;have he:=Array.mem_toList_iff.1 he;simp only[Bool.and_eq_true,beq_iff_eq]at hb;obtain⟨hb1,hb2⟩:=hb;have:=haf e he;rw[hb1,hb2]at this;exact ha.fa k (by simpa using this)
  have hst:=hsp i o ho (fun s=>a.tmps.getD s undef) w ha.ww (fun s hs=>ha.un s fun j oj hj hd=>by
   cases hDj:D.getD j false with
   |false=>rfl
   |true=>
    exfalso;have hjl:j<l.length:=(List.getElem?_eq_some_iff.1 hj).1;have h1:=List.all_eq_true.1 hs j (by simpa using hjl);rw[hj]at h1;simp only[Bool.or_eq_true]at h1;rcases h1 with h1|h1
    ·simp[hd]at h1
    ·have h2:=Zfl ha.dn _ _ _ h1 hDj
     simp[Array.getD_eq_getD_getElem?,show i<D.size from by omega,hDi]at h2) hdeps
  have hdl:∀x,o.dst=some x→x<a.tmps.size:=fun x hx=>by rw[ha.sz];exact(hEi i o ho).2 x hx
  have hnext:∀v w',R w w'∧Zs Fs i (Zci (fun s=>a.tmps.getD s undef) o.dst v) w'→AtU l R w0 a0 Fs (D.setIfInBounds i true) (a.put o.dst v) w':=by
   intro v w' ⟨hR,hF⟩;have hg:=Ziv (a:=a) (u:=fun s=>a.tmps.getD s undef) (fun _=>rfl) o.dst v hdl;have hgf:(fun s=>(a.put o.dst v).tmps.getD s undef)=Zci (fun s=>a.tmps.getD s undef) o.dst v:=funext hg;refine⟨?_,?_,?_,?_,htr _ _ _ ha.ww hR,?_,?_⟩
   ·rw[←ha.sz];cases o.dst<;>simp[Act.put]
   ·rw[←ha.df];cases o.dst<;>simp[Act.put]
   ·intro s hs';rw[hg s,←ha.kp s hs'];have:=hs' o (List.mem_of_getElem? ho);simp[Zci,this]
   ·intro s hs';have hso:o.dst≠some s:=fun hd=>by have:=hs' i o ho hd;simp[Array.getD_eq_getD_getElem?,show i<D.size from by omega]at this
    rw[hg s,←ha.un s fun j oj hj hd=>by
     have h2:=hs' j oj hj hd;by_cases e':i=j
     ·subst e';rw[ho]at hj;injection hj with hj;subst hj;exact absurd hd hso
     ·simpa[Array.getD_eq_getD_getElem?,Array.getElem?_setIfInBounds,e']using h2]
    simp[Zci,hso]
   ·intro k ok j hok hk hw;by_cases e:i=k
    ·subst e;rw[ho]at hok;injection hok with hok;subst hok;unfold ZX at hw;rw[List.any_eq_true]at hw;obtain⟨e,he,hb⟩:=hw;have he:=Array.mem_toList_iff.1 he;simp only[Bool.and_eq_true,beq_iff_eq]at hb;obtain⟨hb1,hb2⟩:=hb;have h1:=haf e he;rw[hb1,hb2]at h1;have h2:D.getD j false=true:=by simpa using h1
     by_cases e':i=j
     ·subst e';simp[Array.getD_eq_getD_getElem?,show i<D.size from by omega]
     ·simpa[Array.getD_eq_getD_getElem?,Array.getElem?_setIfInBounds,e']using h2
    ·have hkD:D.getD k false=true:=by
      simpa[Array.getD_eq_getD_getElem?,Array.getElem?_setIfInBounds,e]using hk
     have h2:=ha.dn k ok j hok hkD hw;by_cases e':i=j
     ·subst e';simp[Array.getD_eq_getD_getElem?,show i<D.size from by omega]
     ·simpa[Array.getD_eq_getD_getElem?,Array.getElem?_setIfInBounds,e']using h2
   ·intro k hk;rw[hgf];by_cases e:i=k
    ·subst e;exact hF
    ·have hkD:D.getD k false=true:=by
      simpa[Array.getD_eq_getD_getElem?,Array.getElem?_setIfInBounds,e]using hk
     have hkl:k<l.length:=by
      rcases Nat.lt_or_ge k l.length with h|h
      ·exact h
      ·rw[Array.getD_eq_getD_getElem?,Array.getElem?_eq_none (by omega)]at hkD;cases hkD
     refine hloc k _ _ w w' hkl (fun s hs'=>?_) hR (ha.fa k hkD);unfold Zci;split
     ·rename_i hds;exfalso;have h1:=List.all_eq_true.1 hO k (by simpa using hkl);have h2:=List.all_eq_true.1 h1 i (by simpa using hlt);obtain⟨ok,hok⟩:∃ok,l[k]? =some ok:=⟨l[k],List.getElem?_eq_getElem hkl⟩;simp only[ho,hok,hds,Bool.or_eq_true,beq_iff_eq,Bool.not_eq_true']at h2;rcases h2 with h2|h2|h2
      ·exact e h2
      ·rw[List.contains_eq_mem]at h2;simp[hs']at h2
      ·--k waits for i,k has come up,i has not:what a fact needs has come up
       have h3:=ha.dn k ok i hok hkD h2;simp[Array.getD_eq_getD_getElem?,show i<D.size from by omega,hDi]at h3
     ·rfl
  unfold wpOp;simp only[List.getElem?_toArray,ho];rw[Zj0 (u:=fun s=>a.tmps.getD s undef) (fun _=>rfl)];split
  ·rename_i hw;rw[if_pos hw]at hst;refine .inl ?_;unfold Oper.wp;rw[ZmO (u:=fun s=>a.tmps.getD s undef) (fun _=>rfl)];generalize (execOp (evU fun s=>a.tmps.getD s undef) o).run P w=r at*;cases r with
   |ok n w'=>
    cases n<;>simp only[Zac]at hst<;>simp only[Oper.upon]
    case value v=>exact ih _ _ _ (by simpa using hD) hcnt (hnext _ _ hst)
    case skip=>exact ih _ _ _ (by simpa using hD) hcnt (hnext _ _ hst)
    case enter f args=>refine hst.mono ?_;rintro e w'' ⟨v,rfl,h⟩;exact ih _ _ _ (by simpa using hD) hcnt (hnext _ _ h)
   |halt x w'=>simp only[Zac]at hst
  ·rename_i hw;rw[if_neg hw]at hst;exact ih _ _ _ (by simpa using hD) hcnt (hnext _ _ ⟨hrf _ ha.ww,hst⟩)
theorem norep(n k:Nat):¬(Array.replicate n false).getD k false=true:=by rw[Array.getD_eq_getD_getElem?,Array.getElem?_replicate];split<;>simp
theorem wp_region_facts {R:World→World→Prop}(Fs:List (FactU R)){id:Nat}{a0:Act}{w:World}(hm:P.follows .mixedOrders=true)
  (hE:ZfQ l a0.tmps.size=true) (hO:Zng l (Fs.map FactU.sl)=true) (h0:R w.drew w.drew) (hrf:∀w1,R w.drew w1→R w1 w1) (htr:∀w1 w2 w3,R w1 w2→R w2 w3→R w1 w3)
  (hs:stepsU P l R w.drew (fun s=>a0.tmps.getD s undef) (Fs.map FactU.F) 0 l)
  (hQ:∀u w',R w.drew w'→(∀k,k<l.length→Zs (Fs.map FactU.F) k u w')→Q .normal (ZaW l u a0) w'):
  (Code.region id l.toArray true).wp P Q a0 w:=by
 refine wp_region_any hm ?_
 have:=wpAny_facts (P:=P) (Q:=Q) (R:=R) (w0:=w.drew) (a0:=a0) (Fs:=Fs.map FactU.F) (sl:=Fs.map FactU.sl) hE hO hrf htr (fun k u u' w1 w2 hk hu hR hF=>by
  unfold Zs at*;rw[List.getElem?_map]at*;cases h:Fs[k]? with
  |none=>trivial
  |some f=>
   rw[h]at hF hu
   exact f.loc u u' w1 w2 hu hR hF) hs hQ l.length (Array.replicate l.length false) a0 w.drew (by simp) (by simp) ⟨rfl,rfl,fun _ _=>rfl,fun _ _=>rfl,h0,fun k _ _ _ hk=>absurd hk (norep _ k),fun k hk=>absurd hk (norep _ k)⟩
 simpa using this
section
variable {R : World → World → Prop} {w0 : World} {u0 : Nat → Value} {Fs : List ((Nat → Value) → World → Prop)} {i : Nat} {o : Oper}
theorem stepsU_cons {rest:List Oper}{j:Nat}(hj:i+1=j)(h:stepU P l R w0 u0 Fs i o)(h':stepsU P l R w0 u0 Fs j rest):stepsU P l R w0 u0 Fs i (o::rest):=by subst hj;exact⟨h,h'⟩
theorem stepsU_nil:stepsU P l R w0 u0 Fs i []:=trivial
theorem stepU_plain(hg:o.guard=none)(h:∀u w,R w0 w→(∀s,Zjk l i s=true→u s=u0 s)→(∀k,ZX o k=true→Zs Fs k u w)→
  Zac (fun v w'=>R w w'∧Zs Fs i (Zci u o.dst v) w') P ((execOp (evU u) o).run P w)):stepU P l R w0 u0 Fs i o:=by
 intro u w h1 h2 h3;rw[if_pos (by simp[Region.wanted,hg])];exact h u w h1 h2 h3
theorem stepU_yes(j d:Nat)(b:Bool)(hg:o.guard=some (j,b))(hd:(l[j]?).bind (·.dst)=some d)
  (hy:∀u w,(∀s,Zjk l i s=true→u s=u0 s)→(∀k,ZX o k=true→Zs Fs k u w)→u d= .bool b)
  (h:∀u w,R w0 w→(∀s,Zjk l i s=true→u s=u0 s)→(∀k,ZX o k=true→Zs Fs k u w)→
   Zac (fun v w'=>R w w'∧Zs Fs i (Zci u o.dst v) w') P ((execOp (evU u) o).run P w)):stepU P l R w0 u0 Fs i o:=by
 intro u w h1 h2 h3;rw[if_pos (by simp[Region.wanted,hg,ZhA,hd,hy u w h2 h3])];exact h u w h1 h2 h3
theorem stepU_no(j d:Nat)(b c:Bool)(hg:o.guard=some (j,b))(hd:(l[j]?).bind (·.dst)=some d)(hbc:(c==b)=false)
  (hy:∀u w,(∀s,Zjk l i s=true→u s=u0 s)→(∀k,ZX o k=true→Zs Fs k u w)→u d= .bool c)
  (h:∀u w,Zs Fs i (Zci u o.dst undef) w):stepU P l R w0 u0 Fs i o:=by
 intro u w h1 h2 h3;rw[if_neg (by simp only[Region.wanted,hg,ZhA,hd,hy u w h2 h3];simpa using hbc)];exact h u w
end
end
end Go.Proofs.YtnnfhojhbbcbmaaGreatDoor.RV
namespace Go.Proofs.YtnnfhojhbbcbmaaGreatDoor
open Go.RowKit
def imk(k:Int)(n:Nat):List It:=(List.range n).map fun(i:Nat)=>mkI k (i:Int)
theorem ZdG(k:Int)(n:Nat):imk k (n+1)=imk k n++[mkI k (n:Int)]:=by simp[imk,List.range_succ]
theorem Zx(k:Int)(n:Nat):(imk k n).length=n:=by simp[imk]
theorem ZnL(k:Int)(n i:Nat)(h:i<n):(imk k n)[i]? =some (mkI k (i:Int)):=by unfold imk;rw[List.getElem?_map,List.getElem?_range h];rfl
theorem Zms(k:Int)(a b:Nat)(h:b≤a):(imk k a).take b=imk k b:=by unfold imk;rw[←List.map_take,List.take_range,Nat.min_eq_left h]
theorem RdI.takeI {w:World}{a:Option Addr}{l:List It}(h:RdI w a l)(k:Nat):RdI w a (l.take k):=by unfold RdI at h⊢;rw[ZcD];exact Rd.take h _
structure RJ (g:Nat) (c1:Obj) (w w':World):Prop where
 os:w'.os=w.os
 tape:w'.tape=w.tape
 output:w'.output=w.output
 size:w.heap.size≤w'.heap.size
 block:∀k,k<w.heap.size→k≠g→w'.heap[k]? =w.heap[k]?
 row:w'.heap[g]? =w.heap[g]?∨w'.heap[g]? =some c1
section
variable {g : Nat} {c1 : Obj} {w w1 w' : World}
theorem RJ.refl(w:World):RJ g c1 w w:=⟨rfl,rfl,rfl,Nat.le_refl _,fun _ _ _=>rfl,.inl rfl⟩
theorem RJ.trans(h:RJ g c1 w w1)(k:RJ g c1 w1 w'):RJ g c1 w w':=
 ⟨k.os.trans h.os,k.tape.trans h.tape,k.output.trans h.output,Nat.le_trans h.size k.size,fun j hj hne=>(k.block j (Nat.lt_of_lt_of_le hj h.size) hne).trans (h.block j hj hne),by
  rcases k.row with e|e
  ·rcases h.row with e2|e2
   ·exact .inl (e.trans e2)
   ·exact .inr (e.trans e2)
  ·exact .inr e⟩
theorem RJ.below(hg:g<w.heap.size)(hb:Below w.heap.size w w'):RJ g c1 w w':=⟨hb.os,hb.tape,hb.output,hb.size,fun k hk _=>hb.block k hk,.inl (hb.block g hg)⟩
theorem RJ.lt(h:RJ g c1 w w')(hg:g<w.heap.size):g<w'.heap.size:=Nat.lt_of_lt_of_le hg h.size
theorem RJ.grown(h:RJ g c1 w w'):w.grownBy w' (some g):=⟨h.os,h.tape,h.output,h.size,fun k hk hne=>h.block k hk fun e=>hne (by rw[e])⟩
theorem RJ.cell(h:RJ g c1 w w'){b o:Nat}{v:Value}(hc:w.cell? ⟨b,o,none⟩=some v)(hne:b≠g):w'.cell? ⟨b,o,none⟩=some v:=h.grown.cell hc (by intro e;injection e with e;exact hne e)
theorem RJ.store {cs:Array Value}{t:TypeId}{old:Array Value}(ho:w.heap[g]? =some (.cells old t (0,0))):RJ g (.cells cs t (0,0)) w (w.setRow g cs):=
 ⟨rfl,rfl,rfl,by simp,fun k _ hne=>setRow_other w g k cs hne,.inr (setRow_heap w g old cs t (0,0) ho)⟩
end
def eqJ(g:Nat)(c1:Obj)(s:Nat)(v:Value):FactU (RJ g c1):=⟨[s],fun u _=>u s=v,fun _ _ _ _ hs _ hf=>by rw[hs s (by simp)];exact hf⟩
def Zpx(g:Nat)(c1:Obj):FactU (RJ g c1):=⟨[],fun _ w=>w.heap[g]? =some c1,fun _ _ w w' _ hR hf=>by
 rcases hR.row with e|e
 ·rw[e];exact hf
 ·exact e⟩
section
variable {K : Value → World → Prop} {u : Nat → Value} {o : Oper} {w : World}
theorem Zfm {ρ:Operand→Value}(x y:Operand)(g i:Nat)(z:It)(cs:Array Value)(h:o.op= .store 24 x y)(hx:ρ x= .pointer (some ⟨g,i,none⟩))(hy:ρ y=itV z)
  (hr:(storeCells ⟨g,i,none⟩ (itC z) 0).run Tryz.prog w= .ok () (w.setRow g cs)):(execOp ρ o).run Tryz.prog w= .ok .skip (w.setRow g cs):=by
 unfold execOp;simp[go_sem,h,hx,hy,itV,Znk,hr]
theorem Zig(x y:Operand)(g i:Nat)(z:It)(cs:Array Value)(h:o.op= .store 24 x y)(hx:evU u x= .pointer (some ⟨g,i,none⟩))(hy:evU u y=itV z)
  (hr:(storeCells ⟨g,i,none⟩ (itC z) 0).run Tryz.prog w= .ok () (w.setRow g cs)) (hk:K undef (w.setRow g cs)):Zac K Tryz.prog ((execOp (evU u) o).run Tryz.prog w):=by
 have hs:=Zfm x y g i z cs h hx hy hr;rw[hs];exact hk
end
def All(W:World)(ps:List PcI)(f:Nat→Nat→List It):Prop:=∀j p,ps[j]? =some p→ContI W p (f j p.2.1)
def Zm1(ps:List PcI):Prop:=∀(j k:Nat) (p q:PcI) (g:Nat),ps[j]? =some p→ps[k]? =some q→j≠k→p.1=some g→q.1≠some g
def Ls(W:World)(gl cl:Nat)(ps:List PcI):Prop:=W.ownsRow 0 28 1 (.slice (some ⟨gl,0,none⟩) ps.length cl) ps.length (ps.map piV)
section
variable {W W' : World} {ps : List PcI} {f f' : Nat → Nat → List It} {gl cl : Nat}
theorem All.keep(h:All W ps f)(hb:Below W.heap.size W W'):All W' ps f:=fun j p hp=>(h j p hp).keep hb
theorem All.congr(h:All W ps f)(e:∀j p,ps[j]? =some p→f j p.2.1=f' j p.2.1):All W ps f':=fun j p hp=>by rw[←e j p hp];exact h j p hp
theorem All.step {r:Option Nat}(h:All W ps f)(hd:Zm1 ps)(hg:W.grownBy W' r)(k:Nat)(p:PcI)(hk:ps[k]? =some p)(hr:∀g,r=some g→p.1=some g∨∀q∈ps,q.1≠some g)(ys:List It)(hc:ContI W' p ys):All W' ps (fun j n=>if j=k then ys else f j n):=by
 intro j q hq;by_cases e:j=k
 ·subst e;rw[hk]at hq;injection hq with hq;subst hq;show ContI W' p (if j=j then ys else f j p.2.1);rw[if_pos rfl];exact hc
 ·show ContI W' q (if j=k then ys else f j q.2.1);rw[if_neg e];refine(h j q hq).other hg fun g hg' er=>?_;rcases hr g er with h1|h1
  ·exact hd k j p q g hk hq (fun e'=>e e'.symm) h1 hg'
  ·exact h1 q (List.mem_of_getElem? hq) hg'
theorem Ls.ne(h:Ls W gl cl ps){g n cap:Nat}{xs:List Value}(hr:W.ownsRow 0 24 4 (.slice (some ⟨g,0,none⟩) n cap) n xs):g≠gl:=by rintro rfl;obtain⟨cur,_,h1,_⟩:=ZaE hr;obtain⟨cur2,_,h2,_⟩:=ZaE h;rw[h1]at h2;simp at h2
theorem Ls.grown {r:Option Nat}(h:Ls W gl cl ps)(hg:W.grownBy W' r)(hne:r≠some gl):Ls W' gl cl ps:=by
 refine⟨h.1,?_⟩;rcases h.2 with h1|⟨g,cap,cur,hv,hB,hh,rest⟩
 ·exact .inl h1
 ·refine .inr ⟨g,cap,cur,hv,hB,(hg.block g (ZD hh) fun e=>hne ?_).trans hh,rest⟩;injection hv with e1;injection e1 with e1;injection e1 with e1;rw[e1,e]
theorem Ls.keep(h:Ls W gl cl ps)(hb:Below W.heap.size W W'):Ls W' gl cl ps:=ZL h hb
theorem Ls.cell(h:Ls W gl cl ps)(k:Nat)(p:PcI)(hk:ps[k]? =some p):W.cell? ⟨gl,k,none⟩=some (piV p):=ZJ h k _ (by simp[hk])
theorem Ls.lt(h:Ls W gl cl ps):gl<W.heap.size:=by have:=Z5 h gl rfl;exact this.2
end
theorem ZnM(n:Nat)(hn:n≤1048576)(W:World):(Instr.makeSlice 34 (.int .i64 (n:Int)) (.int .i64 (n:Int))).run Tryz.prog W= .ok (.slice (some ⟨W.heap.size,0,none⟩) n n) (W.alloc (.cells (List.replicate n (Value.slice none 0 0)).toArray 28)):=by
 obtain⟨i0,hi,hz0,hz1,hz2⟩:=info_parts ZeT;have hr:=run_make (P:=Tryz.prog) W 34 28 i0 (.slice none 0 0) Tryz.underlying34 hi hz0 .i64 .i64 (n:Int) (n:Int) (by omega) (by omega) (by rw[hz2];omega) (by omega);simp only[Int.toNat_natCast,hz1,Nat.mul_one]at hr
 have e:madeCells (Value.slice none 0 0).cells n=(List.replicate n (Value.slice none 0 0)).toArray:=by
  apply Array.ext
  ·simp[madeCells]
  ·intro i h1 h2;simp[madeCells,Value.cells,Nat.mod_one]
 rw[e]at hr;exact hr
theorem GrI.other {B:Nat}{W W':World}{p:PcI}{v:Value}{xs:List It}{r:Option Nat}(h:GrI B W p v xs)(hg:W.grownBy W' r)(hr:∀g,r=some g→p.1≠some g∧ZiA v≠some g):GrI B W' p v xs:=by
 rcases h with⟨h1,h2,h3,h4⟩|⟨⟨h0,hx⟩|h0,h2,h3⟩
 ·exact .inl ⟨h1,h2,h3,h4.other hg fun g hg' e=>(hr g e).1 hg'⟩
 ·refine .inr ⟨.inl ⟨World.ownsRow.kept h0 hg ?_,hx⟩,h2,h3.other hg fun g hg' e=>(hr g e).1 hg'⟩;cases hv:v.ownBlock with
  |none=>exact .inl rfl
  |some b=>exact .inr fun e=>(hr b e.symm).2 (by rw[ZfC h0 hx,hv])
 ·exact .inr ⟨.inr h0,h2,h3.other hg fun g hg' e=>(hr g e).1 hg'⟩
theorem Zdu {B:Nat}{W:World}{p:PcI}{v:Value}{xs ys:List It}{ops:Array Oper}{rest:List Oper}{o:Oper}{ac:Act}{Q:Exit→Act→World→Prop}(hgd:o.guard=none)(s x:Operand)
  (ho:o.op= .call {callee:= .builtin .append,args:=#[s,x],argTypes:=#[28,28]})
  (src:Option Addr) (m c:Nat) (hs:ac.eval s=v) (hx:ac.eval x= .slice src m c)
  (h:GrI B W p v xs) (hr:RdI W src ys) (hm:m=ys.length) (hle:xs.length+ys.length≤1000000) (hB:B≤W.heap.size) (hpB:∀g,p.1=some g→g<B)
  (K:∀v' w',GrI B w' p v' (xs++ys)→W.grownBy w' (ZiA v)→wpList Tryz.prog ops Q rest (ac.put o.dst v') w'):
  wpList Tryz.prog ops Q (o::rest) ac W:=by
 refine wpList_plain hgd fun K' hK=>?_;obtain⟨v',w',hrun,h2,h3⟩:=ZkP src m c o.type h hr hm hle hB hpB;have:=hK _ _ (K v' w' h2 h3);unfold Oper.wp execOp;simp only[ho,resolve,invoke,builtin,Sem.run_bind,Sem.run_pure,Result.andThen_ok,List.map_toArray,List.map_cons,List.map_nil,hs,hx,hrun];exact this
theorem GrI.mono {B B':Nat}{W:World}{p:PcI}{v:Value}{xs:List It}(h:GrI B W p v xs)(hB:B'≤B):GrI B' W p v xs:=
 h.imp id fun⟨h1,h2,h3⟩=>⟨h1.imp (fun h=>⟨ZdK h.1 hB,h.2⟩) id,h2,h3⟩
theorem Blk.other {W W':World}{g:Nat}{t:TypeId}{cs:Array Value}{r:Option Nat}(h:Blk W g t cs)(hg:W.grownBy W' r)(hne:r≠some g):Blk W' g t cs:=
 (hg.block g h.lt fun e=>hne e.symm).trans h
structure KeptI (ps:List PcI) (w W:World):Prop where
 os:W.os=w.os
 tape:W.tape=w.tape
 output:W.output=w.output
 size:w.heap.size≤W.heap.size
 block:∀g,g<w.heap.size→(∀p∈ps,p.1≠some g)→W.heap[g]? =w.heap[g]?
theorem KeptI.refl(ps:List PcI)(w:World):KeptI ps w w:=⟨rfl,rfl,rfl,Nat.le_refl _,fun _ _ _=>rfl⟩
theorem KeptI.drew {ps:List PcI}{w W:World}(h:KeptI ps w W):KeptI ps w W.drew:=⟨h.os,h.tape,h.output,h.size,h.block⟩
theorem KeptI.grown {ps:List PcI}{w W W':World}{r:Option Nat}(h:KeptI ps w W)(hg:W.grownBy W' r)(hr:∀b,r=some b→(∃p∈ps,p.1=some b)∨w.heap.size≤b):KeptI ps w W':=
 ⟨hg.os.trans h.os,hg.tape.trans h.tape,hg.output.trans h.output,Nat.le_trans h.size hg.size,fun g hg1 hp=>(hg.block g (Nat.lt_of_lt_of_le hg1 h.size) fun e=>by
  rcases hr g e.symm with⟨p,h1,h2⟩|h1
  ·exact hp p h1 h2
  ·omega).trans (h.block g hg1 hp)⟩
theorem KeptI.keep {ps:List PcI}{w W W':World}(h:KeptI ps w W)(hb:Below W.heap.size W W'):KeptI ps w W':=
 h.grown (r:=none) ⟨hb.os,hb.tape,hb.output,hb.size,fun k hk _=>hb.block k hk⟩ fun b e=>by cases e
theorem KeptI.below {ps:List PcI}{w W:World}{B:Nat}(h:KeptI ps w W)(hB:B≤w.heap.size)(hp:∀p∈ps,∀g,p.1=some g→B≤g):Below B w W:=
 ⟨h.os,h.tape,h.output,h.size,fun k hk=>h.block k (by omega) fun p h1 h2=>by have:=hp p h1 k h2;omega⟩
structure F2 (ct:Nat→Nat→List It) (Bz gl cl gb:Nat) (w W:World) (ps:List PcI) (vs:List Value) (k base:Nat):Prop where
 ls:Ls W gl cl ps
 al:All W ps (fun j n=>imk j n)
 gs:Blk W gb 28 vs.toArray
 ln:vs.length=ps.length
 st:∀(j:Nat) (p:PcI),j<k→ps[j]? =some p→∃v,vs[j]? =some v∧GrI (gb+1) W p v (ct j p.2.1)∧∀b,ZiA v=some b→b<base
 bs:base≤W.heap.size
 gb1:gb+1≤base
 be:KeptI ps w W
structure Lie (Bz gl gb:Nat) (ps:List PcI):Prop where
 d:Zm1 ps
 g:∀q∈ps,∀g,q.1=some g→g<gb
 l:gl<gb
 n:∀q∈ps,q.1≠some gl
 b:Bz≤gb
section
variable {ct : Nat → Nat → List It} {Bz gl cl gb k base : Nat} {w W W' : World} {ps : List PcI} {vs : List Value} {p : PcI} {v v' : Value} {xs ys : List It}
theorem F2.keep(F:F2 ct Bz gl cl gb w W ps vs k base)(hb:Below W.heap.size W W')(_hz:Bz≤W.heap.size):F2 ct Bz gl cl gb w W' ps vs k base:=
 ⟨F.ls.keep hb,F.al.keep hb,F.gs.keep hb,F.ln,fun j p hj hp=>by
  obtain⟨v,h1,h2,h3⟩:=F.st j p hj hp
  exact⟨v,h1,h2.keep hb,h3⟩,Nat.le_trans F.bs hb.size,F.gb1,F.be.keep hb⟩
theorem F2.app(F:F2 ct Bz gl cl gb w W ps vs k base)(L:Lie w.heap.size gl gb ps)(hp:ps[k]? =some p)(hG:GrI base W p v xs)(hG':GrI base W' p v' (xs++ys))(hx:(xs++ys).take p.2.1=imk k p.2.1)(hg:W.grownBy W' (ZiA v)):F2 ct Bz gl cl gb w W' ps vs k base:=by
 have hpm:=List.mem_of_getElem? hp;have hgb:=F.gb1;have hlg:=L.l;have hblk:∀b,ZiA v=some b→p.1=some b∨base≤b:=fun b hb=>(hG.blk b hb).imp id fun h=>h.1;refine⟨F.ls.grown hg fun e=>?_,?_,F.gs.other hg fun e=>?_,F.ln,fun j q hj hq=>?_,Nat.le_trans F.bs hg.size,F.gb1,F.be.grown hg fun b hb=>?_⟩
 ·rcases hblk _ e with h|h
  ·exact L.n p hpm h
  ·omega
 ·refine(F.al.step L.d hg k p hp (fun b hb=>?_) _ (by have:=hG'.cont;rw[hx]at this;exact this)).congr fun j q hq=>?_
  ·rcases hblk b hb with h|h
   ·exact .inl h
   ·exact .inr fun q hq e=>by have:=L.g q hq b e;omega
  ·by_cases e:j=k
   ·subst e;rw[hp]at hq;injection hq with hq;subst hq;simp
   ·simp[e]
 ·rcases hblk _ e with h|h
  ·have:=L.g p hpm _ h;omega
  ·omega
 ·obtain⟨v2,h1,h2,h3⟩:=F.st j q hj hq;refine⟨v2,h1,h2.other hg fun b hb=>?_,h3⟩;have hqm:=List.mem_of_getElem? hq;rcases hblk b hb with h|h
  ·have hbg:=L.g p hpm b h;refine⟨L.d k j p q b hp hq (by omega) h,fun e=>?_⟩;rcases h2.blk b e with h4|h4
   ·exact L.d k j p q b hp hq (by omega) h h4
   ·omega
  ·refine⟨fun e=>?_,fun e=>?_⟩
   ·have:=L.g q hqm b e;omega
   ·have:=h3 b e;omega
 ·rcases hblk b hb with h|h
  ·exact .inl ⟨p,hpm,h⟩
  ·right;have:=L.b;omega
theorem F2.put(F:F2 ct Bz gl cl gb w W ps vs k base)(L:Lie w.heap.size gl gb ps)(hp:ps[k]? =some p)(hG:GrI base W p v (ct k p.2.1)):F2 ct Bz gl cl gb w (W.setCell ⟨gb,k,none⟩ v) ps (vs.set k v) (k+1) W.heap.size:=by
 have hpm:=List.mem_of_getElem? hp;have hgb:=F.gb1;have hg:W.grownBy (W.setCell ⟨gb,k,none⟩ v) (some gb):=Zc4 W ⟨gb,k,none⟩ v;have hlt:∀q∈ps,q.1≠some gb:=fun q hq e=>by have:=L.g q hq gb e;omega
 have hgr:∀(q:PcI) (v2:Value) (zs:List It),q∈ps→GrI (gb+1) W q v2 zs→GrI (gb+1) (W.setCell ⟨gb,k,none⟩ v) q v2 zs:=fun q v2 zs hq h=>h.other hg fun b e=>by
  injection e with e;subst e;refine⟨hlt q hq,fun e=>?_⟩;rcases h.blk gb e with h4|h4
  ·exact hlt q hq h4
  ·omega
 refine⟨F.ls.grown hg fun e=>?_,fun j q hq=>(F.al j q hq).other hg fun g h1 h2=>?_,?_,by rw[List.length_set];exact F.ln,fun j q hj hq=>?_,by simp[World.setCell],Nat.le_trans F.gb1 F.bs,?_⟩
 ·injection e with e;have:=L.l;omega
 ·injection h2 with h2;subst h2;exact hlt q (List.mem_of_getElem? hq) h1
 ·have:=F.gs.set_ k v;rwa[show vs.toArray.setIfInBounds k v=(vs.set k v).toArray from by simp]at this
 ·by_cases e:j=k
  ·subst e;rw[hp]at hq;injection hq with hq;subst hq;have hl:j<vs.length:=by rw[F.ln];exact(List.getElem?_eq_some_iff.1 hp).1
   refine⟨v,by simp[hl],hgr _ _ _ hpm (hG.mono hgb),fun b hb=>?_⟩;rcases hG.blk b hb with h|h
   ·have:=L.g p hpm b h;have:=F.bs;omega
   ·exact h.2
  ·obtain⟨v2,h1,h2,h3⟩:=F.st j q (by omega) hq;exact⟨v2,by rw[List.getElem?_set_ne (fun e'=>e e'.symm)];exact h1,hgr _ _ _ (List.mem_of_getElem? hq) h2,fun b hb=>by have:=h3 b hb;have:=F.bs;omega⟩
 ·exact F.be.grown hg fun b e=> .inr (by injection e with e;subst e;exact L.b)
end
theorem Zfn {W:World}{a:Option Addr}{k:Int}{n:Nat}(h:RdI W a (imk k n))(i:Nat)(hi:i<n):∃b off,a=some ⟨b,off,none⟩∧W.cell? ⟨b,off+i*4,none⟩=some (.int .u8 (0:Nat))∧W.cell? ⟨b,off+i*4+1,none⟩=some (.int .i64 0)∧W.cell? ⟨b,off+i*4+2,none⟩=some (.string ⟨#[]⟩)∧W.cell? ⟨b,off+i*4+3,none⟩=some (.int .i64 (Zaj k (i:Int))):=by obtain⟨b,off,h1,h2,h3,h4,h5⟩:=h.at i (mkI k (i:Int)) (ZnL k n i hi);exact⟨b,off,h1,h2,h3,h4,h5⟩
theorem F2.grownAt {ct:Nat→Nat→List It}{Bz gl cl gb k base:Nat}{w W:World}{ps:List PcI}{vs:List Value}(F:F2 ct Bz gl cl gb w W ps vs k base)(j:Nat)(p:PcI)(hj:j<k)(hp:ps[j]? =some p):
  ∃a c,W.cell? ⟨gb,j,none⟩=some (.slice a (ct j p.2.1).length c)∧RdI W a (ct j p.2.1):=by
 obtain⟨v,h1,h2,_⟩:=F.st j p hj hp;obtain⟨a,c,h3,h4⟩:=h2.form;refine⟨a,c,?_,h4⟩;rw[F.gs.cell j];simp[h1,h3]
def ct2:Nat→Nat→List It:=fun j n=>imk j (n+64)
def ct4(N:Nat):Nat→Nat→List It:=fun j n=>imk j n++imk ((j:Int)+N) 64
theorem F2.far {ct:Nat→Nat→List It}{Bz gl cl gb k base g:Nat}{w W W':World}{ps:List PcI}{vs:List Value}(F:F2 ct Bz gl cl gb w W ps vs k base)(L:Lie w.heap.size gl gb ps)(hg:W.grownBy W' (some g))(hgb:base≤g):F2 ct Bz gl cl gb w W' ps vs k base:=by
 have hg1:=F.gb1;have hlg:=L.l;refine⟨F.ls.grown hg fun e=>by injection e with e;omega,fun j q hq=>(F.al j q hq).other hg fun b h1 h2=>?_,F.gs.other hg fun e=>by injection e with e;omega,F.ln,fun j q hj hq=>?_,Nat.le_trans F.bs hg.size,F.gb1,F.be.grown hg fun b hb=>?_⟩
 ·injection h2 with h2;subst h2;have:=L.g q (List.mem_of_getElem? hq) _ h1;omega
 ·obtain⟨v2,h1,h2,h3⟩:=F.st j q hj hq;refine⟨v2,h1,h2.other hg fun b hb=>?_,h3⟩;injection hb with hb;subst hb;exact⟨fun e=>by have:=L.g q (List.mem_of_getElem? hq) _ e;omega,fun e=>by have:=h3 _ e;omega⟩
 ·injection hb with hb;subst hb;right;have:=L.b;omega
theorem Zc9 {w:World}{ops:Array Oper}{rest:List Oper}{o:Oper}{ac:Act}{Q:Exit→Act→World→Prop}(hgd:o.guard=none)(x y:Operand)(ho:o.op= .store 24 x y)
  (g i:Nat) (z:It) (cs:Array Value) (hx:ac.eval x= .pointer (some ⟨g,i,none⟩)) (hy:ac.eval y=itV z) (hr:(storeCells ⟨g,i,none⟩ (itC z) 0).run Tryz.prog w= .ok () (w.setRow g cs))
  (K:wpList Tryz.prog ops Q rest (ac.put o.dst undef) (w.setRow g cs)):wpList Tryz.prog ops Q (o::rest) ac w:=by
 refine wpList_plain hgd fun K' hK=>?_;have:=hK _ _ K;have hs:=Zfm x y g i z cs ho hx hy hr;unfold Oper.wp;rw[hs];exact this
theorem Zmt(n:Nat)(hn:n≤1048576)(W:World):∃cs:Array Value,cs.size=n*4∧(Instr.makeSlice 28 (.int .i64 (n:Int)) (.int .i64 (n:Int))).run Tryz.prog W= .ok (.slice (some ⟨W.heap.size,0,none⟩) n n) (W.alloc (.cells cs 24)):=by obtain⟨i0,hi,hz0,hz1,hz2⟩:=info_parts ZaD;have hr:=run_make (P:=Tryz.prog) W 28 24 i0 _ Tryz.underlying28 hi hz0 .i64 .i64 (n:Int) (n:Int) (by omega) (by omega) (by rw[hz2];omega) (by omega);simp only[Int.toNat_natCast,hz1]at hr;exact⟨_,by simp[madeCells],hr⟩
theorem ContI.made {W:World}{cs:Array Value}{n:Nat}(hn:cs.size=n*4)(hm:n≤maxLen):ContI (W.alloc (.cells cs 24)) (some W.heap.size,n,n,some ⟨W.heap.size,0,none⟩) []:=
 .inr ⟨W.heap.size,rfl,rfl,Nat.le_refl _,rfl,.inr ⟨W.heap.size,n,cs,rfl,Nat.zero_le _,heap_alloc_new W _,Nat.zero_le _,hm,hn,by simp[Zi]⟩⟩
end Go.Proofs.YtnnfhojhbbcbmaaGreatDoor
