/- slices.CompactFunc at rows of items. slices.CompactFunc at rows of items: the walk. A row in order, compacted, is what Nodes answers. value.Nodes. value.Nodes: the walk. -/
import Derived.Test.YtnnfhojhbbcbmaaGreatDoorC33
import Derived.Lib.SliceRun
import Derived.Test.YtnnfhojhbbcbmaaGreatDoorC31
import Derived.Test.YtnnfhojhbbcbmaaGreatDoorC18
import Derived.Test.YtnnfhojhbbcbmaaGreatDoorC14
namespace Go.Proofs.YtnnfhojhbbcbmaaGreatDoor
open Go.RowKit Go.Shelf Go.Lib Go.Sort
theorem ZfK:∀(n:Nat) (L:List It) (z:Int) (y:It),L.length=n→(L.getLast?).map It.node=some z→ZY (L++[y])=if z=y.node then ZY L else ZY L++[y]
 |0,[],_,_,_,h=>by simp at h
 |_,[x],z,y,_,h=>by
  simp at h;subst h;show ZY [x,y]=if x.node=y.node then ZY [x]else ZY [x]++[y]
  have e:ZY [x,y]=if x.node=y.node then ZY [x]else x::ZY [y]:=by conv=>lhs;rw[ZY]
  have e1:∀u:It,ZY [u]=[u]:=fun u=>by rw[ZY]
  rw[e,e1,e1];rfl
 |0,_::_::_,_,_,h,_=>by simp at h
 |n+1,a::x::r,z,y,hl,h=>by
  have hz:((x::r).getLast?).map It.node=some z:=by rw[←h];rw[List.getLast?_cons_cons]
  show ZY (a::x::(r++[y]))=if z=y.node then ZY (a::x::r)else ZY (a::x::r)++[y]
  rw[ZY,show ZY (a::x::r)=if a.node=x.node then ZY (a::r)else a::ZY (x::r)from by rw[ZY]];by_cases e:a.node=x.node
  ·rw[if_pos e,if_pos e];refine ZfK n (a::r) z y (by simp at hl⊢;omega) ?_;cases r with
   |nil=>simp at hz⊢;rw[e];exact hz
   |cons b r=>rw[List.getLast?_cons_cons]at hz⊢;exact hz
  ·rw[if_neg e,if_neg e];have:=ZfK n (x::r) z y (by simp at hl⊢;omega) hz;rw[show x::(r++[y])=x::r++[y]from rfl,this];split
   ·rfl
   ·rfl
theorem Zli {l:List It}{j:Nat}(h1:0<j)(h2:j≤l.length):((l.take j).getLast?).map It.node=some (l[j-1]!).node:=by rw[List.getLast?_eq_getElem?,List.length_take,Nat.min_eq_left h2,List.getElem?_take,if_pos (by omega),List.getElem?_eq_getElem (by omega),getElem!_pos l (j-1) (by omega)];rfl
theorem Zc1 {l:List It}{j:Nat}(h1:0<j)(h2:j<l.length):ZY (l.take (j+1))=if (l[j]!).node=(l[j-1]!).node then ZY (l.take j)else ZY (l.take j)++[l[j]!]:=by
 have e:l.take (j+1)=l.take j++[l[j]!]:=by rw[List.take_add_one,List.getElem?_eq_getElem h2,getElem!_pos l j h2];rfl
 rw[e,ZfK _ _ _ _ rfl (Zli h1 (Nat.le_of_lt h2))];by_cases c:(l[j-1]!).node=(l[j]!).node
 ·rw[if_pos c,if_pos c.symm]
 ·rw[if_neg c,if_neg (fun h=>c h.symm)]
structure CI (d0 d:Array It) (x kk:Nat):Prop where
 size:d.size=d0.size
 lt:kk<x
 hi:∀i,x≤i+1→d[i]! =d0[i]!
 lo:d.toList.take kk=ZY (d0.toList.take x)
theorem Zag(d:Array It)(i:Nat):d.toList[i]! =d[i]! :=by
 by_cases h:i<d.size
 ·rw[getElem!_pos d i h,getElem!_pos d.toList i (by simpa using h)];rfl
 ·rw[getElem!_neg d i h,getElem!_neg d.toList i (by simpa using h)]
theorem Zm5(d:Array It)(j i:Nat)(x:It)(h:j≠i):(d.setIfInBounds j x)[i]! =d[i]! :=by simp only[getElem!_def];rw[Array.getElem?_setIfInBounds_ne h]
theorem Zmz(d:Array It)(i:Nat)(x:It)(h:i<d.size):(d.setIfInBounds i x)[i]! =x:=by simp only[getElem!_def];rw[Array.getElem?_setIfInBounds_self_of_lt h]
theorem CI.start {d0:Array It}{x:Nat}(h1:0<x)(h2:x<d0.size)(h:ZY (d0.toList.take x)=d0.toList.take x)(he:(d0[x]!).node=(d0[x-1]!).node):CI d0 d0 (x+1) x:=by refine⟨rfl,by omega,fun _ _=>rfl,?_⟩;rw[Zc1 h1 (by simpa using h2),Zag,Zag,if_pos he,h]
theorem CI.skip {d0 d:Array It}{x kk:Nat}(h:CI d0 d x kk)(h1:0<x)(h2:x<d0.size)(he:(d0[x]!).node=(d0[x-1]!).node):CI d0 d (x+1) kk:=by refine⟨h.size,by have:=h.lt;omega,fun i hi=>h.hi i (by omega),?_⟩;rw[Zc1 h1 (by simpa using h2),Zag,Zag,if_pos he,h.lo]
theorem CI.keep {d0 d:Array It}{x kk:Nat}(h:CI d0 d x kk)(h1:0<x)(h2:x<d0.size)(he:(d0[x]!).node≠(d0[x-1]!).node):CI d0 (d.setIfInBounds kk d0[x]!) (x+1) (kk+1):=by
 have hlt:=h.lt;refine⟨by rw[Array.size_setIfInBounds];exact h.size,by omega,fun i hi=>?_,?_⟩
 ·rw[←h.hi i (by omega)];exact Zm5 d kk i _ (by omega)
 ·rw[Zc1 h1 (by simpa using h2),Zag,Zag,if_neg he,←h.lo];have hk:kk<d.size:=by rw[h.size];omega
  rw[Array.toList_setIfInBounds,List.take_add_one,List.take_set_of_le (Nat.le_refl _),List.getElem?_set_self (by simpa using hk)];rfl
theorem Zlj {d0:Array It}{x:Nat}(h1:0<x)(h2:x<d0.size)(h:ZY (d0.toList.take x)=d0.toList.take x)(he:(d0[x]!).node≠(d0[x-1]!).node):ZY (d0.toList.take (x+1))=d0.toList.take (x+1):=by rw[Zc1 h1 (by simpa using h2),Zag,Zag,if_neg he,h,List.take_add_one,List.getElem?_eq_getElem (by simpa using h2)];simp[h2]
structure CmpP (P:Program) (k:Nat) (z:Value):Prop where
 tb:P.underlying 97=some (TypeDesc.func #[24,24] #[4] false)
 ab:∀w,(isAgg 97).run P w= .ok false w
 zb:∀w,(Go.sizeOf 97).run P w= .ok 1 w
 vb:∀w,(zeroValue 97).run P w= .ok (Value.nilFunc) w
 vE:∀w,(zeroValue 24).run P w= .ok z w
 cE:z.cells.size=k
 oE:∀n,∀v∈(Builtin.zeroCells z.cells n).toList,v.oneCell'=true
structure SE (P:Program) (k g:Nat) (enc:It→List Value) (blk off:Nat) (d0:Array It) (w:World):Prop where
 hk:∀x,(enc x).length=k
 h1:∀x,∀v∈enc x,v.oneCell'=true
 hH:HoldsK enc k w blk off d0
 hblk:blk<w.heap.size
 hsz:d0.size<4611686018427387904
 eg:∀args w,(callFunc g args).run P w= .ok (.enter g args) w
 heq:∀(W:World) (x y:It),Calls P g #[.agg (enc x).toArray,.agg (enc y).toArray] W fun e w'=>e= .returned (.bool (x.node==y.node))∧∃q os',w'=grow (W.drewN q) os'
def Ro(enc:It→List Value)(k:Nat)(blk off:Nat)(d0:Array It)(w W:World)(d:Array It):Prop:=d.size=d0.size∧∃(q:Nat) (os:Array Obj),W=sortWorldK enc k w blk off q d os
theorem Zij(enc:It→List Value)(k:Nat)(hk:∀x,(enc x).length=k)(d:Array It)(i:Nat)(x:It)(hi:i<d.size):setMany (flatK enc k d) (i*k) (enc x)=flatK enc k (d.setIfInBounds i x):=by
 refine ext_get! (by simp) fun t ht=>?_;have ht':t<d.size*k:=by simpa using ht
 have k0:0<k:=by
  rcases Nat.eq_zero_or_pos k with h|h
  ·subst h;simp at ht'
  ·exact h
 rw[get_setMany _ _ _ t (by simpa using ht'),get_flatK _ _ _ t ht',get_flatK _ _ _ t (by rw[Array.size_setIfInBounds];exact ht'),hk];by_cases a:t / k=i
 ·rw[if_pos ((blk_iff k i t k0).2 a)];subst a;rw[show t-t / k*k=t % k from(Nat.mod_eq_sub_div_mul).symm];rw[Zmz d _ x hi]
 ·rw[if_neg (fun h=>a ((blk_iff k i t k0).1 h))];rw[Zm5 d i _ x (fun h=>a h.symm)]
section
variable {P : Program} {k g blk off : Nat} {enc : It → List Value} {d0 d : Array It} {w W : World}
theorem Ro.holds(B:SE P k g enc blk off d0 w)(h:Ro enc k blk off d0 w W d):HoldsK enc k W blk off d:=by obtain⟨hs,q,os,rfl⟩:=h;exact holdsK_sortWorldK_c enc k w blk off d0 d _ _ B.hH B.hblk hs
theorem Ro.start(B:SE P k g enc blk off d0 w):Ro enc k blk off d0 w w d0:=
 ⟨rfl,0,#[],by unfold sortWorldK;rw[grow_empty];exact(putRowK_self enc k w blk off d0 B.hH).symm⟩
theorem Ro.grown(h:Ro enc k blk off d0 w W d)(n:Nat)(os':Array Obj):Ro enc k blk off d0 w (grow (W.drewN n) os') d:=by obtain⟨hs,q,os,rfl⟩:=h;rw[sortWorldK_grown_c];exact⟨hs,_,_,rfl⟩
theorem Ro.eqs(B:SE P k g enc blk off d0 w)(h:Ro enc k blk off d0 w W d){i j:Nat}(hi:i<d0.size)(hj:j<d0.size):
  ∃ci cj:Array Value,
   (∀n os',Sem.run P (loadCellsFrom ⟨blk,off+i*k,none⟩ 0 k #[]) (grow (W.drewN n) os')= .ok ci (grow (W.drewN n) os'))∧
   (∀n os',Sem.run P (loadCellsFrom ⟨blk,off+j*k,none⟩ 0 k #[]) (grow (W.drewN n) os')= .ok cj (grow (W.drewN n) os'))∧
   (∀n os',Calls P g #[.agg ci,.agg cj] (grow (W.drewN n) os') fun e w'=>e= .returned (.bool ((d[i]!).node==(d[j]!).node))∧∃q os'',w'=grow ((grow (W.drewN n) os').drewN q) os'')∧
   ∀n os',Ro enc k blk off d0 w (grow (W.drewN n) os') d:=by
 have hs:=h.1;have hi':i<d.size:=by rw[hs];exact hi
 have hj':j<d.size:=by rw[hs];exact hj
 exact⟨(enc d[i]!).toArray,(enc d[j]!).toArray,fun n' os'=>run_loadCellsFrom_list P _ _ _ k (B.hk _) (HoldsK.cells ((h.grown n' os').holds B) B.hk hi'),fun n' os'=>run_loadCellsFrom_list P _ _ _ k (B.hk _) (HoldsK.cells ((h.grown n' os').holds B) B.hk hj'),fun n' os'=>B.heq _ _ _,fun n' os'=>h.grown n' os'⟩
theorem Ro.store(B:SE P k g enc blk off d0 w)(h:Ro enc k blk off d0 w W d){i j:Nat}(hi:i<d0.size)(hj:j<d0.size):
  ∃c:List Value,c.length=k∧Sem.run P (loadCellsFrom ⟨blk,off+i*k,none⟩ 0 k #[]) W= .ok c.toArray W∧
   Sem.run P (storeCells ⟨blk,off+j*k,none⟩ c 0) W= .ok () (W.setCells blk (off+j*k) c)∧Ro enc k blk off d0 w (W.setCells blk (off+j*k) c) (d.setIfInBounds j d[i]!):=by
 have hH:=h.holds B;have hs:=h.1;have hi':i<d.size:=by rw[hs];exact hi
 have hj':j<d.size:=by rw[hs];exact hj
 have bnd:j*k+k≤d.size*k:=by have:=Nat.mul_le_mul_right k (show j+1≤d.size from hj');rwa[Nat.add_mul,Nat.one_mul]at this
 refine⟨enc d[i]!,B.hk _,run_loadCellsFrom_list P _ _ _ k (B.hk _) (HoldsK.cells hH B.hk hi'),stores_of_holds P hH (j*k) _ (by rw[B.hk,size_flatK];exact bnd) (B.h1 _),by rw[Array.size_setIfInBounds];exact hs,?_⟩;obtain⟨_,q,os,rfl⟩:=h;refine⟨q,os,?_⟩;unfold sortWorldK;rw[setCells_grow os blk _ _ _ (by rw[size_putRowK];exact B.hblk)];unfold putRowK;rw[setCells_putRow _ _ _ _ _ _ (by rw[B.hk,size_flatK];exact bnd),Zij enc k B.hk d j _ hj']
def Cpd(enc:It→List Value)(k:Nat)(blk off:Nat)(d0:Array It)(w W:World)(m:Nat):Prop:=
 ∃(F:Array Value) (q:Nat) (os:Array Obj) (L:Array It),W=grow (putRow id (Sort.ahead w q) blk off F) os∧F.size=d0.size*k∧L.toList=ZY d0.toList∧m=L.size∧m≤d0.size∧∀t,t<m*k→F[t]! =(flatK enc k L)[t]!
theorem Ro.all(h:Ro enc k blk off d0 w W d0)(he:ZY d0.toList=d0.toList):Cpd enc k blk off d0 w W d0.size:=by obtain⟨_,q,os,rfl⟩:=h;exact⟨flatK enc k d0,q,os,d0,rfl,by rw[size_flatK],he.symm,rfl,Nat.le_refl _,fun _ _=>rfl⟩
theorem Ro.clear {z:Value}(L:CmpP P k z)(B:SE P k g enc blk off d0 w)(h:Ro enc k blk off d0 w W d){kk:Nat}(hkk:kk<d0.size)(hCI:CI d0 d d0.size kk):
  ∃zs:List Value,Sem.run P (storeCells ⟨blk,off+kk*k,none⟩ (Builtin.zeroCells z.cells (d0.size-kk)).toList 0) W= .ok () (W.setCells blk (off+kk*k) zs)∧Cpd enc k blk off d0 w (W.setCells blk (off+kk*k) zs) kk:=by
 have hH:=h.holds B;have hs:=h.1;have hlen:(Builtin.zeroCells z.cells (d0.size-kk)).toList.length=(d0.size-kk)*k:=by rw[Array.length_toList,size_zeroCells,L.cE]
 have bnd:kk*k+(d0.size-kk)*k≤d.size*k:=by rw[←Nat.add_mul,hs];exact Nat.mul_le_mul_right k (by omega)
 refine⟨_,stores_of_holds P hH (kk*k) _ (by rw[hlen,size_flatK];exact bnd) (L.oE _),?_⟩;obtain⟨_,q,os,rfl⟩:=h;refine⟨setMany (flatK enc k d) (kk*k) (Builtin.zeroCells z.cells (d0.size-kk)).toList,q,os,(d.toList.take kk).toArray,?_,by rw[size_setMany,size_flatK,hs],?_,?_,by omega,fun t ht=>?_⟩
 ·unfold sortWorldK;rw[setCells_grow os blk _ _ _ (by rw[size_putRowK];exact B.hblk)];unfold putRowK;rw[setCells_putRow _ _ _ _ _ _ (by rw[hlen,size_flatK];exact bnd)]
 ·show d.toList.take kk=_;rw[hCI.lo,←Array.length_toList,List.take_length]
 ·simp;omega
 ·have hsz:((d.toList.take kk).toArray).size=kk:=by simp;omega
  have ht2:t<d.size*k:=by have:=Nat.mul_le_mul_right k (show kk≤d.size by omega);omega
  have k0:0<k:=by
   rcases Nat.eq_zero_or_pos k with h|h
   ·subst h;simp at ht
   ·exact h
  have hq:t / k<kk:=by rw[Nat.div_lt_iff_lt_mul k0];exact ht
  rw[get_setMany _ _ _ t (by rw[size_flatK];exact ht2),if_neg (by omega),get_flatK _ _ _ t ht2,get_flatK _ _ _ t (by rw[hsz];exact ht)]
  have e:((d.toList.take kk).toArray)[t / k]! =d[t / k]! :=by
   have h3:t / k<d.size:=by omega
   rw[getElem!_pos _ _ (by rw[hsz];exact hq),getElem!_pos d _ h3];simp
  rw[e]
end
end Go.Proofs.YtnnfhojhbbcbmaaGreatDoor
namespace Go.Proofs.YtnnfhojhbbcbmaaGreatDoor
open Go.RowKit Go.Shelf Go.Lib Go.Sort
theorem Zik {P:Program}(w w':World)(t e ty:TypeId)(z:Value)(ht:P.underlying t=some (.slice e))(hv:∀w,(zeroValue e).run P w= .ok z w)(b o n c:Nat)(hn:0<n)
  (hs:Sem.run P (storeCells ⟨b,o,none⟩ (Builtin.zeroCells z.cells n).toList 0) w= .ok () w'):
  (Builtin.clear_ #[t] ty #[.slice (some ⟨b,o,none⟩) n c]).run P w= .ok (.tuple #[]) w':=by
 obtain⟨m,rfl⟩:∃m,n=m+1:=⟨n-1,by omega⟩;simp[Builtin.clear_,run_underlying ht,hv,hs]
section
variable {P : Program} {k g blk off : Nat} {enc : It → List Value} {d0 : Array It} {w W : World}
set_option maxHeartbeats 4000000 in
set_option maxRecDepth 1000000 in
theorem Zil {z:Value}(L:SrtP P k)(M:CmpP P k z)(FG:P.funcs[75]? =some Tryz.f75)(B:SE P k g enc blk off d0 w)(cap n:Nat)(hnd:n=d0.size)(hcap:n≤cap):
  Calls P 75 #[.slice (some ⟨blk,off,none⟩) n cap,.func (.func g) #[] #[]] w fun e W'=>∃m:Nat,e= .returned (.slice (some ⟨blk,off,none⟩) m cap)∧Cpd enc k blk off d0 w W' m:=by
 have hsz:=B.hsz;have HB:=Za B;have HM:=Za M;have hS0:=Ro.start B;have HN:=Za hnd;have mixed:=L.mixed;have t0:=L.t0;have a0:=L.a0;have z0:=L.z0;have v0:=L.v0;have t3:=L.t3;have a3:=L.a3;have z3:=L.z3;have v3:=L.v3;have t4:=L.t4;have a4:=L.a4;have z4:=L.z4;have v4:=L.v4;have t22:=L.t22;have a22:=L.a22;have z22:=L.z22;have v22:=L.v22;have tb:=M.tb;have ab:=M.ab;have zb:=M.zb;have vb:=M.vb;have aE:=L.aE;have zE:=L.zE;have vE:=M.vE;have eg:=B.eg;have hsz2:n<4611686018427387904:=by omega
 clear B L M hnd hsz;go_enter FG,Tryz.ntmps75;by_cases h2:n<2
 ·have h2z:(n:Int)<2:=by omega
  go_wp2;go_ret;refine⟨n,rfl,?_⟩;rw[HN.out];refine hS0.all ?_;have:=HN.out
  match hL:d0.toList,(show d0.toList.length<2 by rw[Array.length_toList];omega)with
  | [],_=>rw[ZY]
  | [x],_=>rw[ZY]
  |_::_::_,h=>simp at h;omega
 ·have h2z:decide ((n:Int)<2)=false:=decide_eq_false (by omega);go_wp2;go_loopg[5] n (fun fu v5 wr=>∃K:Nat,v5= .int .i64 K∧1≤K∧K≤n∧n-K≤fu∧Ro enc k blk off d0 w wr d0∧Hid (ZY (d0.toList.take K)=d0.toList.take K))
  case atStart=>exact⟨1,rfl,Nat.le_refl _,by omega,by omega,hS0,by
   cases hL:d0.toList with
   |nil=>show ZY []=[];rw[ZY]
   |cons x r=>show ZY [x]=[x];rw[ZY]⟩
  case round=>
   clear hS0;obtain⟨K,rfl,hK1,hK2,hfu,hS,HC⟩:=hrel;by_cases hlt:K<n
   ·have hltz:(K:Int)<(n:Int):=by omega
    obtain⟨Kp,rfl⟩:∃Kp,K=Kp+1:=⟨K-1,by omega⟩;obtain⟨ci,cj,l1,l2,hcg,hS2⟩:=hS.eqs HB.out (show Kp+1<d0.size by rw[←HN.out];omega) (show Kp<d0.size by rw[←HN.out];omega);have HS2:=Za hS2;have e1:((Kp:Int)+1).toNat=Kp+1:=by omega
    have b0:(Kp:Int)<(n:Int):=by omega
    have b1:(Kp:Int)+1<(n:Int):=by omega
    have p1:(0:Int)≤(Kp:Int)+1:=by omega
    have hwp:IntKind.i64.wrap (Kp:Int)=(Kp:Int):=by rw[IntKind.wrap_i64];omega
    obtain⟨v,hv⟩:∃v,v=((d0[Kp+1]!).node==(d0[Kp]!).node):=⟨_,rfl⟩;rw[←hv]at hcg;have HV:=Za hv;clear hS hS2 hv;cases v with
    |true=>
     have HE:Hid ((d0[Kp+1]!).node=(d0[Kp]!).node):=by show _=_;simpa using HV.out.symm
     clear HV;go_wp2_with fail
     go_quiet_grown (first|(go_at_fn g;refine Calls.grown_of (hcg _ _)))
     clear l1 l2 hcg;have hS3:=HS2.out nq osq;clear HS2;generalize grow (wr.drewN nq) osq=W1 at hS3⊢;have HS0:=Za hS3;have HCI:Hid (CI d0 d0 (Kp+1+1) (Kp+1)):=CI.start (by omega) (by rw[←HN.out];omega) HC.out (by simpa using HE.out);clear hS3;go_wp2;go_loopg[5,7] n (fun fu v5 v7 wr=>∃(kk k2:Nat) (d:Array It),v5= .int .i64 kk∧v7= .int .i64 k2∧1≤k2∧Kp+1+k2≤n∧n-k2≤fu∧Ro enc k blk off d0 w wr d∧Hid (CI d0 d (Kp+1+k2) kk)∧kk<Kp+1+k2)
     case atStart=>exact⟨Kp+1,1,d0,by go_num,rfl,Nat.le_refl _,by omega,by omega,HS0.out,HCI,by omega⟩
     case round=>
      clear HS0 HCI;obtain⟨kk,k2,d,rfl,rfl,hk1,hk2,hfu2,hS,HI,hkk⟩:=hrel;by_cases hlt2:Kp+1+k2<n
      ·obtain⟨kp,rfl⟩:∃kp,k2=kp+1:=⟨k2-1,by omega⟩;obtain⟨ci,cj,l1,l2,hcg,hS2⟩:=hS.eqs HB.out (show Kp+1+(kp+1)<d0.size by rw[←HN.out];omega) (show Kp+1+kp<d0.size by rw[←HN.out];omega);have g1:off+(Kp+1+(kp+1))*k=off+(Kp+1)*k+(kp+1)*k:=by rw[Nat.add_mul (Kp+1)];omega
       have g2:off+(Kp+1+kp)*k=off+(Kp+1)*k+kp*k:=by rw[Nat.add_mul (Kp+1)];omega
       rw[g1]at l1;rw[g2]at l2;have HS2:=Za hS2;have e2:((kp:Int)+1).toNat=kp+1:=by omega
       have b2:(kp:Int)+1<(n:Int)-((Kp:Int)+1):=by omega
       have b2n:(kp:Int)+1<((n-(Kp+1):Nat):Int):=by omega
       have b3n:(kp:Int)<((n-(Kp+1):Nat):Int):=by omega
       have p2:(0:Int)≤(kp:Int)+1:=by omega
       have hwq:IntKind.i64.wrap (kp:Int)=(kp:Int):=by rw[IntKind.wrap_i64];omega
       have hj:∀i,Kp+1+kp≤i→d[i]! =d0[i]! :=fun i hi=>HI.out.hi i (by omega);rw[hj _ (by omega),hj _ (Nat.le_refl _)]at hcg;obtain⟨v,hv⟩:∃v,v=((d0[Kp+1+(kp+1)]!).node==(d0[Kp+1+kp]!).node):=⟨_,rfl⟩;rw[←hv]at hcg;have HV:=Za hv;clear hS hS2 hv hj;cases v with
       |true=>
        have HE:Hid ((d0[Kp+1+(kp+1)]!).node=(d0[Kp+1+kp]!).node):=by show _=_;simpa using HV.out.symm
        clear HV g1 g2;go_wp2_with fail
        go_quiet_grown (first|(go_at_fn g;refine Calls.grown_of (hcg _ _)))
        go_wp2;go_roundg (n-(kp+1+1))
        case measure=>omega
        case rel=>exact⟨kk,kp+1+1,d,rfl,by go_num,by omega,by omega,Nat.le_refl _,HS2.out _ _,HI.out.skip (by omega) (by rw[←HN.out];omega) (by simpa using HE.out),by omega⟩
       |false=>
        have HE:Hid ((d0[Kp+1+(kp+1)]!).node≠(d0[Kp+1+kp]!).node):=by show _≠_;simpa using HV.out.symm
        clear HV g2;go_wp2_with fail
        go_quiet_grown (first|(go_at_fn g;refine Calls.grown_of (hcg _ _)))
        clear l1 l2 hcg;have hS3:=HS2.out nq osq;clear HS2;generalize grow (wr.drewN nq) osq=W1 at hS3⊢;obtain⟨c,hcl,l3,s3,hS4⟩:=hS3.store HB.out (show Kp+1+(kp+1)<d0.size by rw[←HN.out];omega) (show kk<d0.size by rw[←HN.out];omega);rw[g1]at l3;rw[HI.out.hi _ (by omega)]at hS4;have HS4:=Za hS4;have b4:(kk:Int)<(n:Int):=by omega
        clear hS3 hS4 g1;go_wp2;go_roundg (n-(kp+1+1))
        case measure=>omega
        case rel=>exact⟨kk+1,kp+1+1,_,by go_num,by go_num,by omega,by omega,Nat.le_refl _,HS4.out,HI.out.keep (by omega) (by rw[←HN.out];omega) HE.out,by omega⟩
      ·have hend:Kp+1+k2=n:=by omega
       obtain⟨zs,s3,hC⟩:=hS.clear HM.out HB.out (show kk<d0.size by rw[←HN.out];omega) (by rw[←HN.out,←hend];exact HI.out);rw[←HN.out]at s3;have hcl:∀ty,(Builtin.clear_ #[28] ty #[.slice (some ⟨blk,off+kk*k,none⟩) (n-kk) (cap-kk)]).run P wr= .ok (.tuple #[]) (wr.setCells blk (off+kk*k) zs):=fun ty=>Zik _ _ _ _ ty z t22 vE blk (off+kk*k) (n-kk) (cap-kk) (by omega) s3;have HC2:=Za hC;have hlz:decide ((k2:Int)<((n-(Kp+1):Nat):Int))=false:=decide_eq_false (by omega);clear hS hC s3 HI hend;go_wp2;go_ret;exact⟨kk,rfl,HC2.out⟩
    |false=>
     have HE:Hid ((d0[Kp+1]!).node≠(d0[Kp]!).node):=by show _≠_;simpa using HV.out.symm
     clear HV;go_wp2_with fail
     go_quiet_grown (first|(go_at_fn g;refine Calls.grown_of (hcg _ _)))
     go_wp2;go_roundg (n-(Kp+1+1))
     case measure=>omega
     case rel=>exact⟨Kp+1+1,by go_num,by omega,by omega,Nat.le_refl _,HS2.out _ _,Zlj (by omega) (by rw[←HN.out];omega) HC.out (by simpa using HE.out)⟩
   ·have hltz:decide ((K:Int)<(n:Int))=false:=decide_eq_false (by omega);have HK:Hid (K=d0.size):=by show _=_;rw[←HN.out];omega
    go_wp2;go_ret;refine⟨n,rfl,?_⟩;rw[HN.out];refine hS.all ?_;have:=HC.out;rw[HK.out,←Array.length_toList,List.take_length]at this;exact this
end
end Go.Proofs.YtnnfhojhbbcbmaaGreatDoor
namespace Go.Proofs.YtnnfhojhbbcbmaaGreatDoor
theorem ZmA {d0 d:Array It}{s:Nat→Nat}(h:RwP d0 d s)(hp:SegP (fun i=>i) s 0 d0.size)(hs:Srt (ndO d0) s 0 d0.size):NodesOk d0.toList (ZY d.toList):=by
 have hlt:∀i,i<d0.size→s i<d0.size:=fun i hi=>by obtain⟨j,_,h2,e⟩:=hp.mem i (Nat.zero_le _) hi;rw[e];exact h2
 have hL:d.toList=((List.range d0.size).map fun i=>(d0[s i]!,s i)).map Prod.fst:=by
  rw[List.map_map];apply List.ext_getElem
  ·simp[h.1]
  ·intro i h1 h2;have hi:i<d.size:=by simpa using h1
   have:=h.2 i hi;simp only[Array.getElem_toList,List.getElem_map,List.getElem_range,Function.comp_def];rw[←this,getElem!_pos d i hi]
 have hpw:((List.range d0.size).map fun i=>(d0[s i]!,s i)).Pairwise lexP:=by rw[List.pairwise_map];rw[List.pairwise_iff_getElem];intro i j hi hj hij;simp only[List.length_range]at hi hj;simp only[List.getElem_range];exact hs i j (Nat.zero_le _) hij hj
 have hmem:∀(j:Nat) (y:It),d0.toList[j]? =some y→(y,j)∈(List.range d0.size).map fun i=>(d0[s i]!,s i):=by
  intro j y hy;obtain⟨hj,e⟩:=List.getElem?_eq_some_iff.1 hy;have hj2:j<d0.size:=by simpa using hj
  obtain⟨i,_,h2,e2⟩:=hp.mem2 j (Nat.zero_le _) hj2;refine List.mem_map.2 ⟨i,List.mem_range.2 h2,?_⟩;rw[←e2];simp only[Array.getElem_toList]at e;rw[getElem!_pos d0 j hj2,e]
 obtain⟨a1,a2,a3⟩:=ZfI _ _ rfl hpw;rw[hL];refine⟨a1,fun x hx=>?_,fun y hy=>?_⟩
 ·obtain⟨p,hp1,e,hm⟩:=a2 x hx;obtain⟨i,hi,rfl⟩:=List.mem_map.1 hp1;have hi2:=hlt i (List.mem_range.1 hi);refine⟨s i,?_,fun j y hj hy hn=>?_⟩
  ·dsimp only at e;rw[←e,getElem!_pos d0 (s i) hi2];simp[hi2]
  ·have:=hm (y,j) (hmem j y hy) hn;dsimp only at this;omega
 ·obtain⟨j,hj⟩:=List.mem_iff_getElem?.1 hy;exact a3 (y,j) (hmem j y hj)
end Go.Proofs.YtnnfhojhbbcbmaaGreatDoor
namespace Go.Proofs.YtnnfhojhbbcbmaaGreatDoor
open Go.RowKit Go.Shelf Go.Lib Go.Sort
theorem Zfs {w W:World}{r:Option Nat}(h:w.grownBy W r)(os:Array Obj):w.grownBy (grow W os) r:=ZcE h (Zeg (Lib.below_grow W.heap.size W (Nat.le_refl _) 0 os))
theorem OwI.grow {w:World}{B:Nat}{v:Value}{l:List It}(h:OwI w B v l)(os:Array Obj):OwI (grow w os) B v l:=h.keep (Lib.below_grow w.heap.size w (Nat.le_refl _) 0 os)
theorem ZmB(v:Value)(B:Nat)(l:List It)(w:World)(h:OwI w B v l)(hle:l.length≤1000000):
  Calls Tryz.prog 72 #[v,.func (.func 73) #[] #[]] w fun e w'=>e= .returned (.tuple #[])∧∃l',OwI w' B v l'∧NodesOk l (ZY l')∧l'.length=l.length∧w.grownBy w' v.ownBlock:=by
 by_cases h0:l=[]
 ·subst h0;obtain⟨a,c,hv⟩:=Zl h;subst hv;refine(ZeM a c _ w).mono ?_;rintro e w' ⟨rfl,rfl⟩;exact⟨rfl,[],h,by rw[ZY];exact NodesOk.nil,rfl,World.grownBy.refl w _⟩
 ·obtain⟨g,cap,rfl,hB,hg,hc⟩:=Z9 h (by simpa using h0);refine(ZeL g l.length cap l.toArray w (by simp) (Zd8 h rfl) hg hle).mono ?_;rintro e w' ⟨rfl,t,hP,hS,d,q,os,hR,rfl⟩;have hlen:d.toList.length=l.length:=by rw[Array.length_toList,hR.1];simp
  have hp:=Zkf (m:=q) (d:=d.toList) h rfl hlen;have hN:=ZmA hR (by rw[List.size_toArray];exact hP) (by rw[List.size_toArray];exact hS);exact⟨rfl,d.toList,hp.1.grow os,hN,hlen,Zfs hp.2 os⟩
theorem ZmC {w:World}{B g n cap q:Nat}{l d:List It}{F:Array Value}(h:OwI w B (.slice (some ⟨g,0,none⟩) n cap) l)(hn:n=l.length)(hd:d.length≤l.length)(hF:F.size=l.length*4)(hc:∀t,t<d.length*4→F[t]! =(flatK itC 4 d.toArray)[t]!):
  OwI (Sort.putRow id (Sort.ahead w q) g 0 F) B (.slice (some ⟨g,0,none⟩) d.length cap) d∧w.grownBy (Sort.putRow id (Sort.ahead w q) g 0 F) (some g):=by
 subst hn;obtain⟨cur,q1,q2,q3,q4,q5,q6⟩:=ZaE h;have hmb:(Sort.putRow id (Sort.ahead w q) g 0 F).heap[g]? =some (.cells (Sort.putCells id 0 F cur) 24 (0,0)):=by unfold Sort.putRow Sort.mapBlock;show(w.heap.modify g _)[g]? =_;rw[Array.getElem?_modify,if_pos rfl,q2];rfl
 have hsz:(Sort.putCells id 0 F cur).size=cur.size:=by simp[Sort.putCells]
 constructor
 ·unfold OwI;refine⟨by rw[Zg],.inr ⟨g,cap,_,rfl,q1,hmb,by omega,q4,by rw[hsz];exact q5,?_⟩⟩;apply List.ext_getElem?;intro t;have hcl:cur.toList.length=cur.size:=Array.length_toList;by_cases ht:t<d.length*4
  ·have htc:t<cur.size:=by omega
   rw[List.getElem?_take,if_pos ht];have e1:(Sort.putCells id 0 F cur).toList[t]? =some F[t]! :=by rw[Array.getElem?_toList];simp only[Sort.putCells,Array.getElem?_mapIdx,Array.getElem?_eq_getElem htc,Option.map_some];rw[if_pos ⟨Nat.zero_le _,by omega⟩];simp
   rw[e1,hc t ht,Sort.get_flatK _ _ _ _ (by rw[List.size_toArray];exact ht)];have hq:t / 4<d.length:=by omega
   have hx:d[t / 4]? =some d[t / 4]! :=by rw[List.getElem?_eq_getElem hq,getElem!_pos d _ hq]
   have:=Zau d (t / 4) (t % 4) _ hx (Nat.mod_lt _ (by decide));rw[show t / 4*4+t % 4=t from by omega]at this;rw[this];have hm4:t % 4<(itC d[t / 4]!).length:=Nat.mod_lt _ (by decide);rw[show(d.toArray)[t / 4]! =d[t / 4]! from by simp,List.getElem?_eq_getElem hm4,getElem!_pos (itC d[t / 4]!) _ hm4]
  ·rw[List.getElem?_take,if_neg ht,List.getElem?_eq_none];rw[Zg];omega
 ·refine⟨rfl,rfl,rfl,?_,fun k hk hne=>?_⟩
  ·show _≤(w.heap.modify g _).size;rw[Array.size_modify];exact Nat.le_refl _
  ·show(w.heap.modify g _)[k]? =_;rw[Array.getElem?_modify,if_neg (fun e=>hne (by rw[e]))]
theorem cmpP:CmpP Tryz.prog 4 (.agg #[.int .u8 0,.int .i64 0,.string ⟨#[]⟩,.int .i64 0]):={
 tb:=Tryz.underlying97
 ab:=Tryz.isAgg97
 zb:=Tryz.sizeOf97
 vb:=Tryz.zeroValue97
 vE:=Tryz.zeroValue24
 cE:=rfl
 oE:=fun n v hv=>by
  simp only[Builtin.zeroCells,Array.toList_map,List.mem_map]at hv;obtain⟨i,_,rfl⟩:=hv;have hm:i % 4<4:=Nat.mod_lt _ (by decide);show Value.oneCell' ((#[.int .u8 0,.int .i64 0,.string ⟨#[]⟩,.int .i64 0]:Array Value)[i % 4]!)=true;generalize i % 4=j at hm
  match j,hm with
  |0,_=>rfl
  |1,_=>rfl
  |2,_=>rfl
  |3,_=>rfl
  |j+4,h=>omega}
set_option maxRecDepth 100000 in
theorem Zim(a:Option Addr)(c:Nat)(f:Value)(w:World):Calls Tryz.prog 75 #[.slice a 0 c,f] w fun e w'=>e= .returned (.slice a 0 c)∧w=w':=by go_enter Tryz.func75,Tryz.ntmps75;go_wp2;go_ret;exact⟨rfl,rfl⟩
theorem Zin(v:Value)(B:Nat)(l:List It)(w:World)(h:OwI w B v l)(hle:l.length≤1000000):
  Calls Tryz.prog 75 #[v,.func (.func 76) #[] #[]] w fun e w'=>∃v',e= .returned v'∧OwI w' B v' (ZY l)∧w.grownBy w' v.ownBlock:=by
 by_cases h0:l=[]
 ·subst h0;obtain⟨a,c,hv⟩:=Zl h;subst hv;refine(Zim a c _ w).mono ?_;rintro e w' ⟨rfl,rfl⟩;exact⟨_,rfl,by rw[ZY];exact h,World.grownBy.refl w _⟩
 ·obtain⟨g,cap,rfl,hB,hg,hc⟩:=Z9 h (by simpa using h0);have hSE:SE Tryz.prog 4 76 itC g 0 l.toArray w:=⟨fun _=>rfl,Zkv,Zd8 h rfl,hg,by rw[List.size_toArray];omega,enters_of Tryz.func76 (by kernel_rfl) rfl,fun W x y=>Zii x y W⟩;refine(Zil srtP cmpP Tryz.func75 hSE cap l.length (by simp) hc).mono ?_;rintro e w' ⟨m,rfl,F,q,os,L,rfl,hF,hL,rfl,hm,ht⟩;have hL':L=L.toList.toArray:=rfl;have hlen:L.toList.length=L.size:=Array.length_toList;have hp:=ZmC (q:=q) (d:=L.toList) (F:=F) h rfl (by rw[hlen];rw[List.size_toArray]at hm;exact hm) (by rw[List.size_toArray]at hF;exact hF) (fun t h1=>by rw[hlen]at h1;exact ht t h1);rw[hlen]at hp;refine⟨_,rfl,?_,Zfs hp.2 os⟩;have:=hp.1.grow os;rw[hL]at this;simpa using this
end Go.Proofs.YtnnfhojhbbcbmaaGreatDoor
namespace Go.Proofs.YtnnfhojhbbcbmaaGreatDoor
open Go.RowKit
def NodP(l R:List It)(er:Int):Prop:=
 (l.all okI=false∧R=[]∧er=2)∨(l.all okI=true∧(∃y∈l,y.kind≠1)∧R=[]∧er=250)∨(l.all okI=true∧(∀y∈l,y.kind=1)∧NodesOk l R∧er=0)
theorem NodP.one {l R R':List It}{er er':Int}(h:NodP l R er)(k:NodP l R' er'):R=R'∧er=er':=by
 rcases h with⟨h1,h2,h3⟩|⟨h1,⟨y,hy,hk⟩,h2,h3⟩|⟨h1,h2,h3,h4⟩<;>rcases k with⟨k1,k2,k3⟩|⟨k1,⟨z,hz,hj⟩,k2,k3⟩|⟨k1,k2,k3,k4⟩
 ·exact⟨by rw[h2,k2],by rw[h3,k3]⟩
 ·rw[h1]at k1;cases k1
 ·rw[h1]at k1;cases k1
 ·rw[h1]at k1;cases k1
 ·exact⟨by rw[h2,k2],by rw[h3,k3]⟩
 ·exact absurd (k2 y hy) hk
 ·rw[h1]at k1;cases k1
 ·exact absurd (h2 z hz) hj
 ·exact⟨h3.unique k3,by rw[h4,k4]⟩
theorem Zg3 {l:List It}{k:Nat}{x:It}(h:∀y∈l.take k,y.kind=1)(hx:l[k]? =some x)(hk:x.kind=1):∀y∈l.take (k+1),y.kind=1:=by
 rw[List.take_add_one,hx];intro y hy;rcases List.mem_append.1 hy with h1|h1
 ·exact h y h1
 ·simp at h1;rw[h1];exact hk
theorem ZfL:∀(n:Nat) (l:List It),l.length=n→(ZY l).length≤n
 |_,[],_=>by rw[ZY];exact Nat.zero_le _
 |_,[x],h=>by rw[ZY];simp at h⊢;omega
 |0,_::_::_,h=>by simp at h
 |n+1,x::y::r,h=>by
  rw[ZY];split
  ·exact Nat.le_succ_of_le (ZfL n (x::r) (by simp at h⊢;omega))
  ·have:=ZfL n (y::r) (by simp at h⊢;omega);simp;omega
set_option maxRecDepth 100000 in
set_option maxHeartbeats 4000000 in
theorem Zg4(p:Option Addr)(n c:Nat)(l:List It)(w:World)(ht8:Tabs8 w)(ha:OkA w ⟨p,l,c⟩)(hn:n=l.length)(hle:n≤1000000):
  Calls Tryz.prog 33 #[.slice p n c] w fun e w'=>∃v R er,e= .returned (.tuple #[v,.int .i64 er])∧NodP l R er∧R.length≤l.length∧OwI w' w.heap.size v R∧Below w.heap.size w w':=by
 have Hr:=Za (Zdh p n c l w ht8 ha hn);have Ha:=Za ha;have Hn:=Za hn;clear ha hn ht8;rcases Bool.eq_false_or_eq_true (l.all okI)with hq|hq
 ·have HQ:=Za hq;rw[hq]at Hr;clear hq;go_enter Tryz.func33,Tryz.ntmps33;go_wp2_with fail;refine Hr.out.mono ?_;rintro e w1 ⟨rfl,hb1⟩;go_wp2_with fail;go_loopw[13] (fun iv W=>∃k:Nat,k≤n∧iv= .int .i64 k∧Hid (∀y∈l.take k,y.kind=1)∧Below w.heap.size w W) (fun iv _=>n-(intOf iv).toNat)
  case atStart=>exact⟨0,Nat.zero_le _,rfl,Za (fun y hy=>by simp at hy),hb1⟩
  case round=>
   clear hb1;obtain⟨k,hk,rfl,HK,hB⟩:=hrel;by_cases hlt:k<n
   ·have hI:(k:Int)<(n:Int):=by omega
    obtain⟨x,hx⟩:∃x,l[k]? =some x:=⟨_,List.getElem?_eq_getElem (by have:=Hn.out;omega)⟩;obtain⟨b1,off1,e1,c0,c1,c2,c3⟩:=(Ha.out.1.keep hB).at k x hx;dsimp only at e1;subst e1;have hix:=Zr b1 off1 n c k hlt;have HX:=Za hx;clear hx;by_cases hk1:x.kind=1
    ·have HK2:=Za (Zg3 HK.out HX.out hk1);clear HK HX;obtain⟨xk,xa,xt,xd⟩:=x;dsimp only at c0 c1 c2 c3;have hk1:xk=1:=hk1;subst hk1;have hBa:=hB.alloc hB.size (.cells #[.int .u8 1,.int .i64 xa,.string xt,.int .i64 xd] 24);clear hB;go_wp2;go_roundw
     case rel=>exact⟨k+1,by omega,by simp,HK2,hBa⟩
     case measure=>simp[intOf];omega
    ·have HE:Hid (∃y∈l,y.kind≠1):=⟨x,List.mem_of_getElem? HX.out,hk1⟩;clear HK HX;obtain⟨xk,xa,xt,xd⟩:=x;dsimp only at c0 c1 c2 c3;have hk2:((xk:Int)==1)=false:=by simpa using(show(xk:Int)≠1 from fun h=>hk1 (by show xk=1;omega))
     have hBa:=hB.alloc hB.size (.cells #[.int .u8 xk,.int .i64 xa,.string xt,.int .i64 xd] 24);clear hB hk1;go_wp2;go_ret2;exact⟨_,[],_,rfl,.inr (.inl ⟨HQ.out,HE.out,rfl,rfl⟩),Nat.zero_le _,OwI.nil _ _,hBa⟩
   ·have hI:¬(k:Int)<(n:Int):=by omega
    have HA:Hid (∀y∈l,y.kind=1):=by have:=HK.out;rw[List.take_of_length_le (by have:=Hn.out;omega)]at this;exact this
    have Hc:=Za (ZgU p n c l wr (Ha.out.1.keep hB) Hn.out hle);have hln:l.length≤1000000:=by have:=Hn.out;omega
    have HLN:=Za hln;clear HK hln;go_wp2_with fail;refine Hc.out.mono ?_;rintro e w2 ⟨v,rfl,ho,hb2⟩;have Hs:=Za (ZmB v wr.heap.size l w2 ho HLN.out);have hlt9:=fun b hb=>(Z5 ho b hb).1;have hB2:=Zb hB hb2;have HLT:=Za (fun(b:Nat) (hb:v.ownBlock=some b)=>Nat.le_trans hB.size (Z5 ho b hb).1);have Hws:=Za hB.size;clear Hc ho hb2 hlt9 hB;go_wp2_with fail;refine Hs.out.mono ?_;rintro e w3 ⟨rfl,l2,ho,hN,hl2,hg⟩;have Hcm:=Za (Zin v wr.heap.size l2 w3 ho (by rw[hl2];exact HLN.out));have HN:=Za hN;have HLL:Hid ((ZY l2).length≤l.length):=by show _≤_;rw[←hl2];exact ZfL _ l2 rfl
    have hB3:Below w.heap.size w w3:=hB2.grown hg hB2.size HLT.out;clear Hs ho hN hl2 hg hB2;go_wp2_with fail;refine Hcm.out.mono ?_;rintro e w4 ⟨v4,rfl,ho,hg⟩;have hB4:Below w.heap.size w w4:=hB3.grown hg hB3.size HLT.out;have Ho:=Za (ho.mono Hws.out);clear Hcm ho hg hB3;go_wp2;go_ret2;exact⟨v4,_,_,rfl,.inr (.inr ⟨HQ.out,HA.out,HN.out,rfl⟩),HLL.out,Ho.out,hB4⟩
 ·have HQ:=Za hq;rw[hq]at Hr;clear hq;go_enter Tryz.func33,Tryz.ntmps33;go_wp2_with fail;refine Hr.out.mono ?_;rintro e w1 ⟨rfl,hb1⟩;go_wp2;go_ret2;exact⟨_,[],_,rfl,.inl ⟨HQ.out,rfl,rfl⟩,Nat.zero_le _,OwI.nil _ _,hb1⟩
end Go.Proofs.YtnnfhojhbbcbmaaGreatDoor
